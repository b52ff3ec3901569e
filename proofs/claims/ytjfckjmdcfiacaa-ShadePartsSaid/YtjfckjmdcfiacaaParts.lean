/-
  ShadeParts returns true for all lists of tones and all tolerances; no condition.
-/
import Derived.Test.YtjfckjmdcfiacaaWider
namespace Go.Proofs.Ytjfckjmdcfiacaa
open Go.RowKit Go.ChangeShapes Go.WideShapes Go.ChangeAt

/-! ### The plain side -/
section
variable {N : Nat → Nat → Prop} {n : Nat}
theorem lots_num {X : List Int} (hX : LotsOk N n X) {j r : Nat} (hj : j < n) (hr : Root N r j) : X.getD j 0 = (num N r : Int) := by
  have h1 := hX.2 j r hj hr
  simp [List.getD, h1]
/-- A number is less than the count of the lots that have begun, but that of a first member. -/
theorem lots_next (hN : ∀ i j, N i j → N j i) {X : List Int} (hX : LotsOk N n X) {j : Nat} (hj : j < n) : 0 ≤ X.getD j 0 ∧ ((X.getD j 0 = (cnt (First N) j : Int) ∧ First N j) ∨ (X.getD j 0 < (cnt (First N) j : Int) ∧ ¬ First N j)) := by
  obtain ⟨r, hr⟩ := root_exists (N := N) j
  rw [lots_num hX hj hr]
  refine ⟨by omega, ?_⟩
  have hle := hr.le
  by_cases c : r = j
  · subst c
    exact Or.inl ⟨rfl, hr.2⟩
  · refine Or.inr ⟨?_, fun hf => c (hr.unique (Root.self hf))⟩
    have := cnt_lt (First N) (show r < j by omega) (hr.first hN)
    unfold num
    omega
theorem lots_range (hN : ∀ i j, N i j → N j i) {X : List Int} (hX : LotsOk N n X) {j : Nat} (hj : j < n) : ∃ v : Nat, X.getD j 0 = (v : Int) ∧ v < cnt (First N) n := by
  obtain ⟨r, hr⟩ := root_exists (N := N) j
  have hle := hr.le
  exact ⟨_, lots_num hX hj hr, cnt_lt (First N) (show r < n by omega) (hr.first hN)⟩
/-- The first i have been looked at: first members are reached. -/
structure Seed (N : Nat → Nat → Prop) (n c i : Nat) (X : List Int) (R S : List Bool) : Prop where
  rl : R.length = n
  sl : S.length = c
  first : ∀ j, j < i → First N j → R.getD j false = true
  seen : ∀ v : Nat, S.getD v false = true → ∃ j, j < i ∧ X.getD j 0 = (v : Int)
theorem seed_start (n c : Nat) (X : List Int) : Seed N n c 0 X (List.replicate n false) (List.replicate c false) := by
  refine ⟨by simp, by simp, fun j hj => by omega, fun v hv => ?_⟩
  by_cases h : v < c
  · simp [List.getD, h] at hv
  · simp [List.getD, h] at hv
theorem Seed.step (hN : ∀ i j, N i j → N j i) {c i v : Nat} {X : List Int} {R S : List Bool} (hX : LotsOk N n X) (h : Seed N n c i X R S) (hi : i < n) (hv : X.getD i 0 = (v : Int)) (_hvc : v < c) :
    Seed N n c (i + 1) X (R.set i (!(S.getD v false))) (S.set v true) := by
  refine ⟨by simp [h.rl], by simp [h.sl], fun j hj hf => ?_, fun u hu => ?_⟩
  · by_cases e : i = j
    · subst e
      rw [getD_set_eq _ _ _ _ (by rw [h.rl]; exact hi)]
      cases hs : S.getD v false with
      | false => rfl
      | true =>
        obtain ⟨k, hk, e⟩ := h.seen v hs
        rw [← hv] at e
        exact absurd ((lots_same hN hX (by omega) hi).1 e) (hf k hk)
    · rw [getD_set_ne2 _ _ _ _ _ e]
      exact h.first j (by omega) hf
  · by_cases e : v = u
    · subst e; exact ⟨i, by omega, hv⟩
    · rw [getD_set_ne2 _ _ _ _ _ e] at hu
      obtain ⟨j, hj, e⟩ := h.seen u hu
      exact ⟨j, by omega, e⟩
/-- After t rounds, in the next one at member i and neighbour k. -/
structure Spr (N : Nat → Nat → Prop) (n t i k : Nat) (R : List Bool) : Prop where
  rl : R.length = n
  base : ∀ j, j < n → ∀ r, Root N r j → Reach N t r j → R.getD j false = true
  done : ∀ j, j < i → ∀ r, Root N r j → Reach N t r j → ∀ m, m < n → N j m → R.getD m false = true
  now : ∀ m, m < k → ∀ r, Root N r i → Reach N t r i → N i m → R.getD m false = true
theorem Seed.spr (hN : ∀ i j, N i j → N j i) {c : Nat} {X : List Int} {R S : List Bool} (h : Seed N n c n X R S) : Spr N n 0 0 0 R :=
  ⟨h.rl, fun j hj r hr hreach => by
    obtain rfl : r = j := hreach
    exact h.first r hj (hr.first hN), fun j hj => by omega, fun m hm => by omega⟩
theorem Spr.no {t i k : Nat} {R : List Bool} (h : Spr N n t i k R) (hi : i < n) (hno : ¬ (R.getD i false = true ∧ N i k)) : Spr N n t i (k + 1) R :=
  ⟨h.rl, h.base, h.done, fun m hm r hr hreach hs => by
    by_cases e : m = k
    · subst e; exact absurd ⟨h.base i hi r hr hreach, hs⟩ hno
    · exact h.now m (by omega) r hr hreach hs⟩
theorem Spr.yes {t i k : Nat} {R : List Bool} (h : Spr N n t i k R) (hk : k < n) : Spr N n t i (k + 1) (R.set k true) := by
  have keep : ∀ j, R.getD j false = true → (R.set k true).getD j false = true := fun j hj => by
    by_cases e : k = j
    · subst e; exact getD_set_eq _ _ _ _ (by rw [h.rl]; exact hk)
    · rw [getD_set_ne2 _ _ _ _ _ e]; exact hj
  refine ⟨by simp [h.rl], fun j hj r hr hreach => keep j (h.base j hj r hr hreach), fun j hj r hr hreach m hm hs => keep m (h.done j hj r hr hreach m hm hs), fun m hm r hr hreach hs => ?_⟩
  by_cases e : k = m
  · subst e; exact getD_set_eq _ _ _ _ (by rw [h.rl]; exact hk)
  · exact keep m (h.now m (by omega) r hr hreach hs)
theorem Spr.next {t i : Nat} {R : List Bool} (h : Spr N n t i n R) : Spr N n t (i + 1) 0 R :=
  ⟨h.rl, h.base, fun j hj r hr hreach m hm hs => by
    by_cases e : j = i
    · subst e; exact h.now m hm r hr hreach hs
    · exact h.done j (by omega) r hr hreach m hm hs, fun m hm => by omega⟩
theorem Spr.round (hN : ∀ i j, N i j → N j i) (hlt : ∀ i j, N i j → i < n) {t : Nat} {R : List Bool} (h : Spr N n t n 0 R) : Spr N n (t + 1) 0 0 R :=
  ⟨h.rl, fun j hj r hr hreach => by
    rcases hreach with hreach | ⟨m, hm, hs⟩
    · exact h.base j hj r hr hreach
    · exact h.done m (hlt _ _ hs) r (hr.of_conn hN ((Conn.refl j).step (hN _ _ hs))) hm j hj hs, fun j hj => by omega, fun m hm => by omega⟩
theorem Spr.all (hlt : ∀ i j, N i j → j < n) {R : List Bool} (h : Spr N n n 0 0 R) {j : Nat} (hj : j < n) : R.getD j false = true := by
  obtain ⟨r, hr⟩ := root_exists (N := N) j
  have := hr.le
  exact h.base j hj r hr ((conn_reach hlt (by omega) hr.1).le (by omega))
end

theorem Try.info4 : (Try.prog.info? 4).map (fun i => (i.zero, i.size, i.bytes)) = some (some (.bool false), 1, 1) := by kernel_rfl
set_option maxRecDepth 100000 in
set_option maxHeartbeats 16000000 in
theorem connected_ok (a : Option Addr) (c c' g n0 : Nat) (L : List Tone) (tol : Int) (X : List Int) (w : World) (h : TonesAt w a L) (h' : Blk w g 3 (ints X)) (hm : L.length ≤ 20) (hX : LotsOk (Nr L tol) L.length X) (hn0 : n0 = cnt (First (Nr L tol)) L.length) :
    Calls Try.prog 17 #[.slice a L.length c, .slice (some ⟨g, 0, none⟩) L.length c', .int .i64 tol, .int .i64 n0] w fun e w' => e = .returned (.bool true) ∧ ∃ z, w' = ext w z := by
  obtain ⟨b, o, ha, hcell⟩ := h.spread
  have HA := Lib.hid ha
  have HC := Lib.hid hcell
  have HX := Lib.hid hX
  have HXL := Lib.hid hX.1
  have hn0l : n0 ≤ L.length := hn0 ▸ cnt_le _ _
  have HN0 := Lib.hid hn0
  clear h ha hcell hX hn0
  generalize hn : L.length = n at *
  have HN := Lib.hid hn
  clear hn
  have hNl : ∀ i j, Nr L tol i j → j < n := fun a b h => by have := h.2.1; rw [HN.out] at this; exact this
  have HNL := Lib.hid hNl
  clear hNl
  have hgl := h'.lt
  have hmk := fun w => make1 (P := Try.prog) (t := 46) (e := 4) Try.underlying46 Try.info4 n (by omega) (by omega) w
  have hmk0 := fun w => make1 (P := Try.prog) (t := 46) (e := 4) Try.underlying46 Try.info4 n0 (by omega) (by omega) w
  go_enter Try.func17, Try.ntmps17
  go_wp2
  go_loopg [11] n (fun gk i wr => ∃ (k : Nat) (R S : List Bool), gk = n - k ∧ k ≤ n ∧ i = .int .i64 k ∧ Seed (Nr L tol) n n0 k X R S ∧ Blk wr w.heap.size 4 (bools R) ∧ Blk wr (w.heap.size + 1) 4 (bools S) ∧ Blk wr g 3 (ints X) ∧ Below w.heap.size w wr)
  case atStart => exact ⟨0, _, _, by omega, by omega, rfl, seed_start n n0 X, (blk_bools _ _ _ rfl).alloc _, blk_bools _ _ _ (by simp), (h'.alloc _).alloc _, (by repeat (first | exact Below.refl _ _ | exact Below.refl _ _ | (with_reducible refine Below.setCell ?_ (by first | omega | (simp; done) | (simp; omega)) _) | (with_reducible refine Below.alloc ?_ (by first | omega | (simp; done) | (simp; omega)) _) | (with_reducible refine Below.onDrewN ?_ _) | (with_reducible refine Below.drew ?_) | (with_reducible refine Below.ofExt ?_ (by first | omega | (simp; done) | (simp; omega)))))⟩
  case round =>
    clear h'
    obtain ⟨i, R, S, hgi, hi, rfl, hS, hB1, hB2, hB3, hbel⟩ := hrel
    have HGI := Lib.hid hgi
    clear hgi
    have hs1 := hB1.lt
    have hs2 := hB2.lt
    have hs3 := hB3.lt
    by_cases hlt : i < n
    · have cx := hB3.int (k := i) (by rw [HXL.out]; exact hlt)
      obtain ⟨v, hv, hvc⟩ := lots_range nr_symm HX.out hlt
      rw [← HN0.out] at hvc
      have HS := Lib.hid (hS.step nr_symm HX.out hlt hv hvc)
      rw [hv] at cx
      have hrl := hS.rl
      have hsl := hS.sl
      have cr := hB1.bool (k := i) (by omega)
      have cs := hB2.bool (k := v) (by omega)
      have fr := hB1.free i
      have fs := hB2.free v
      have i1 : (0 : Int) ≤ (i : Int) ∧ (i : Int) < (n : Int) := by omega
      have i2 : (0 : Int) ≤ (v : Int) ∧ (v : Int) < (n0 : Int) := by omega
      clear hv hS hrl hsl
      generalize R.getD i false = x at *
      generalize S.getD v false = y at *
      go_wp2
      go_roundg (n - (i + 1))
      case measure => rw [HGI.out]; omega
      case rel => exact ⟨i + 1, _, _, rfl, by omega, by go_num, HS.out, (by repeat (first | exact hB1.setBool _ _ | (with_reducible refine Blk.alloc ?_ _) | (with_reducible refine Blk.drewN ?_ _) | (with_reducible refine Blk.drew ?_) | (with_reducible refine Blk.ext ?_ _) | (with_reducible refine Blk.other ?_ (by first | omega | (simp; done) | (simp; omega)) _ _))), Blk.setBool (by repeat (first | exact hB2 | (with_reducible refine Blk.alloc ?_ _) | (with_reducible refine Blk.drewN ?_ _) | (with_reducible refine Blk.drew ?_) | (with_reducible refine Blk.ext ?_ _) | (with_reducible refine Blk.other ?_ (by first | omega | (simp; done) | (simp; omega)) _ _))) _ _, (by repeat (first | exact hB3 | (with_reducible refine Blk.alloc ?_ _) | (with_reducible refine Blk.drewN ?_ _) | (with_reducible refine Blk.drew ?_) | (with_reducible refine Blk.ext ?_ _) | (with_reducible refine Blk.other ?_ (by first | omega | (simp; done) | (simp; omega)) _ _))), (by repeat (first | exact hbel | exact Below.refl _ _ | (with_reducible refine Below.setCell ?_ (by first | omega | (simp; done) | (simp; omega)) _) | (with_reducible refine Below.alloc ?_ (by first | omega | (simp; done) | (simp; omega)) _) | (with_reducible refine Below.onDrewN ?_ _) | (with_reducible refine Below.drew ?_) | (with_reducible refine Below.ofExt ?_ (by first | omega | (simp; done) | (simp; omega)))))⟩
    · obtain rfl : i = n := by omega
      have HP := Lib.hid (hS.spr nr_symm)
      clear hS
      clear hs1 hs2 hs3
      go_wp2
      go_loopg [45] i (fun gk i1 wr => ∃ (t : Nat) (R : List Bool), gk = i - t ∧ t ≤ i ∧ i1 = .int .i64 t ∧ Spr (Nr L tol) i t 0 0 R ∧ Blk wr w.heap.size 4 (bools R) ∧ Blk wr g 3 (ints X) ∧ Below w.heap.size w wr)
      case atStart => exact ⟨0, R, by omega, by omega, rfl, HP.out, hB1, hB3, hbel⟩
      case round =>
        clear hB1 hB2 hB3 hbel HP
        obtain ⟨t, R, hgt, ht, rfl, HP, hB1, hB3, hbel⟩ := hrel
        have HGT := Lib.hid hgt
        clear hgt
        by_cases hlt : t < i
        · obtain ⟨rfl, hbl⟩ := HA.out (by omega)
          go_wp2
          go_loopg [12] i (fun gk i1 wr => ∃ (k : Nat) (R : List Bool), gk = i - k ∧ k ≤ i ∧ i1 = .int .i64 k ∧ Spr (Nr L tol) i t k 0 R ∧ Blk wr w.heap.size 4 (bools R) ∧ Blk wr g 3 (ints X) ∧ Below w.heap.size w wr)
          case atStart => exact ⟨0, R, by omega, by omega, rfl, HP, hB1, hB3, hbel⟩
          case round =>
            clear hB1 hB3 hbel HP
            obtain ⟨k, R, hgk, hk, rfl, HP, hB1, hB3, hbel⟩ := hrel
            have HGK := Lib.hid hgk
            clear hgk
            by_cases hltk : k < i
            · go_wp2
              go_loopg [13] i (fun gk i1 wr => ∃ (j : Nat) (R : List Bool), gk = i - j ∧ j ≤ i ∧ i1 = .int .i64 j ∧ Spr (Nr L tol) i t k j R ∧ Blk wr w.heap.size 4 (bools R) ∧ Blk wr g 3 (ints X) ∧ Below w.heap.size w wr)
              case atStart => exact ⟨0, R, by omega, by omega, rfl, HP, hB1, hB3, hbel⟩
              case round =>
                clear hB1 hB3 hbel HP
                obtain ⟨j, R, hgj, hj, rfl, HP, hB1, hB3, hbel⟩ := hrel
                have HGJ := Lib.hid hgj
                clear hgj
                have hsz := hbel.size
                have hs1 := hB1.lt
                have hs3 := hB3.lt
                by_cases hltj : j < i
                · have cxk := hB3.int (k := k) (by rw [HXL.out]; exact hltk)
                  have cxj := hB3.int (k := j) (by rw [HXL.out]; exact hltj)
                  obtain ⟨ck0, ck1, ck2⟩ := HC.out k (by omega)
                  obtain ⟨cj0, cj1, cj2⟩ := HC.out j (by omega)
                  rw [← hbel.cell (by exact hbl)] at ck0 ck1 ck2 cj0 cj1 cj2
                  have hrl := HP.rl
                  have crk := hB1.bool (k := k) (by omega)
                  have crj := hB1.bool (k := j) (by omega)
                  have fr := hB1.free j
                  have i1 : (0 : Int) ≤ (k : Int) ∧ (k : Int) < (i : Int) := by omega
                  have i2 : (0 : Int) ≤ (j : Int) ∧ (j : Int) < (i : Int) := by omega
                  by_cases hrk : R.getD k false = true
                  · rw [hrk] at crk
                    by_cases hxx : X.getD k 0 = X.getD j 0
                    · rw [hxx] at cxk
                      by_cases hd : dist (tn L k) (tn L j) ≤ tol
                      · have HP2 := Lib.hid (HP.yes hltj)
                        clear HP hrk hxx hrl
                        generalize X.getD j 0 = x at *
                        generalize tn L k = tk at *
                        generalize tn L j = tj at *
                        generalize R.getD j false = y at *
                        go_wp2_with fail
                        refine wp_region_ext (by kernel_rfl) (by kernel_rfl) ?_
                        repeat (go_big_quiet_step ((first | (go_at_call 12; exact Calls.ext_of (Distance_any _ _ _)))))
                        refine wpQuiet_nil ?_
                        rintro _ ⟨z, rfl⟩
                        go_wp2
                        go_roundg (i - (j + 1))
                        case measure => rw [HGJ.out]; omega
                        case rel => exact ⟨j + 1, _, rfl, by omega, by go_num, HP2.out, (by repeat (first | exact hB1.setBool _ _ | (with_reducible refine Blk.alloc ?_ _) | (with_reducible refine Blk.drewN ?_ _) | (with_reducible refine Blk.drew ?_) | (with_reducible refine Blk.ext ?_ _) | (with_reducible refine Blk.other ?_ (by first | omega | (simp; done) | (simp; omega)) _ _))), (by repeat (first | exact hB3 | (with_reducible refine Blk.alloc ?_ _) | (with_reducible refine Blk.drewN ?_ _) | (with_reducible refine Blk.drew ?_) | (with_reducible refine Blk.ext ?_ _) | (with_reducible refine Blk.other ?_ (by first | omega | (simp; done) | (simp; omega)) _ _))), (by repeat (first | exact hbel | exact Below.refl _ _ | (with_reducible refine Below.setCell ?_ (by first | omega | (simp; done) | (simp; omega)) _) | (with_reducible refine Below.alloc ?_ (by first | omega | (simp; done) | (simp; omega)) _) | (with_reducible refine Below.onDrewN ?_ _) | (with_reducible refine Below.drew ?_) | (with_reducible refine Below.ofExt ?_ (by first | omega | (simp; done) | (simp; omega)))))⟩
                      · have HP2 := Lib.hid (HP.no hltk (fun e => hd e.2.2.2))
                        clear HP hrk hxx hrl
                        generalize X.getD j 0 = x at *
                        generalize tn L k = tk at *
                        generalize tn L j = tj at *
                        generalize R.getD j false = y at *
                        go_wp2_with fail
                        refine wp_region_ext (by kernel_rfl) (by kernel_rfl) ?_
                        repeat (go_big_quiet_step ((first | (go_at_call 12; exact Calls.ext_of (Distance_any _ _ _)))))
                        refine wpQuiet_nil ?_
                        rintro _ ⟨z, rfl⟩
                        go_wp2
                        go_roundg (i - (j + 1))
                        case measure => rw [HGJ.out]; omega
                        case rel => exact ⟨j + 1, R, rfl, by omega, by go_num, HP2.out, (by repeat (first | exact hB1 | (with_reducible refine Blk.alloc ?_ _) | (with_reducible refine Blk.drewN ?_ _) | (with_reducible refine Blk.drew ?_) | (with_reducible refine Blk.ext ?_ _) | (with_reducible refine Blk.other ?_ (by first | omega | (simp; done) | (simp; omega)) _ _))), (by repeat (first | exact hB3 | (with_reducible refine Blk.alloc ?_ _) | (with_reducible refine Blk.drewN ?_ _) | (with_reducible refine Blk.drew ?_) | (with_reducible refine Blk.ext ?_ _) | (with_reducible refine Blk.other ?_ (by first | omega | (simp; done) | (simp; omega)) _ _))), (by repeat (first | exact hbel | exact Below.refl _ _ | (with_reducible refine Below.setCell ?_ (by first | omega | (simp; done) | (simp; omega)) _) | (with_reducible refine Below.alloc ?_ (by first | omega | (simp; done) | (simp; omega)) _) | (with_reducible refine Below.onDrewN ?_ _) | (with_reducible refine Below.drew ?_) | (with_reducible refine Below.ofExt ?_ (by first | omega | (simp; done) | (simp; omega)))))⟩
                    · have HP2 := Lib.hid (HP.no hltk (fun e => hxx ((lots_same nr_symm HX.out hltk hltj).2 ((Conn.refl k).step e.2))))
                      have hxb : (X.getD k 0 == X.getD j 0) = false := by rw [beq_eq_false_iff_ne]; exact hxx
                      clear HP hrk hxx hrl
                      generalize X.getD j 0 = x at *
                      generalize X.getD k 0 = x2 at *
                      generalize tn L k = tk at *
                      generalize tn L j = tj at *
                      generalize R.getD j false = y at *
                      go_wp2_with fail
                      refine wp_region_ext (by kernel_rfl) (by kernel_rfl) ?_
                      repeat (go_big_quiet_step ((first | (go_at_call 12; exact Calls.ext_of (Distance_any _ _ _)))))
                      refine wpQuiet_nil ?_
                      rintro _ ⟨z, rfl⟩
                      go_wp2
                      go_roundg (i - (j + 1))
                      case measure => rw [HGJ.out]; omega
                      case rel => exact ⟨j + 1, R, rfl, by omega, by go_num, HP2.out, (by repeat (first | exact hB1 | (with_reducible refine Blk.alloc ?_ _) | (with_reducible refine Blk.drewN ?_ _) | (with_reducible refine Blk.drew ?_) | (with_reducible refine Blk.ext ?_ _) | (with_reducible refine Blk.other ?_ (by first | omega | (simp; done) | (simp; omega)) _ _))), (by repeat (first | exact hB3 | (with_reducible refine Blk.alloc ?_ _) | (with_reducible refine Blk.drewN ?_ _) | (with_reducible refine Blk.drew ?_) | (with_reducible refine Blk.ext ?_ _) | (with_reducible refine Blk.other ?_ (by first | omega | (simp; done) | (simp; omega)) _ _))), (by repeat (first | exact hbel | exact Below.refl _ _ | (with_reducible refine Below.setCell ?_ (by first | omega | (simp; done) | (simp; omega)) _) | (with_reducible refine Below.alloc ?_ (by first | omega | (simp; done) | (simp; omega)) _) | (with_reducible refine Below.onDrewN ?_ _) | (with_reducible refine Below.drew ?_) | (with_reducible refine Below.ofExt ?_ (by first | omega | (simp; done) | (simp; omega)))))⟩
                  · have HP2 := Lib.hid (HP.no hltk (fun e => hrk e.1))
                    have hrf : R.getD k false = false := by simpa using hrk
                    rw [hrf] at crk
                    clear HP hrk hrl hrf
                    generalize X.getD j 0 = x at *
                    generalize X.getD k 0 = x2 at *
                    generalize tn L k = tk at *
                    generalize tn L j = tj at *
                    generalize R.getD j false = y at *
                    go_wp2_with fail
                    refine wp_region_ext (by kernel_rfl) (by kernel_rfl) ?_
                    repeat (go_big_quiet_step ((first | (go_at_call 12; exact Calls.ext_of (Distance_any _ _ _)))))
                    refine wpQuiet_nil ?_
                    rintro _ ⟨z, rfl⟩
                    go_wp2
                    go_roundg (i - (j + 1))
                    case measure => rw [HGJ.out]; omega
                    case rel => exact ⟨j + 1, R, rfl, by omega, by go_num, HP2.out, (by repeat (first | exact hB1 | (with_reducible refine Blk.alloc ?_ _) | (with_reducible refine Blk.drewN ?_ _) | (with_reducible refine Blk.drew ?_) | (with_reducible refine Blk.ext ?_ _) | (with_reducible refine Blk.other ?_ (by first | omega | (simp; done) | (simp; omega)) _ _))), (by repeat (first | exact hB3 | (with_reducible refine Blk.alloc ?_ _) | (with_reducible refine Blk.drewN ?_ _) | (with_reducible refine Blk.drew ?_) | (with_reducible refine Blk.ext ?_ _) | (with_reducible refine Blk.other ?_ (by first | omega | (simp; done) | (simp; omega)) _ _))), (by repeat (first | exact hbel | exact Below.refl _ _ | (with_reducible refine Below.setCell ?_ (by first | omega | (simp; done) | (simp; omega)) _) | (with_reducible refine Below.alloc ?_ (by first | omega | (simp; done) | (simp; omega)) _) | (with_reducible refine Below.onDrewN ?_ _) | (with_reducible refine Below.drew ?_) | (with_reducible refine Below.ofExt ?_ (by first | omega | (simp; done) | (simp; omega)))))⟩
                · obtain rfl : j = i := by omega
                  have HP2 := Lib.hid HP.next
                  clear HP
                  go_wp2
                  go_roundg (j - (k + 1))
                  case measure => rw [HGK.out]; omega
                  case rel => exact ⟨k + 1, R, rfl, by omega, by go_num, HP2.out, hB1, hB3, hbel⟩
            · obtain rfl : k = i := by omega
              have HP2 := Lib.hid (HP.round nr_symm (fun a b h => by have := h.1; rw [HN.out] at this; exact this))
              clear HP
              go_wp2
              go_roundg (k - (t + 1))
              case measure => rw [HGT.out]; omega
              case rel => exact ⟨t + 1, R, rfl, by omega, by go_num, HP2.out, hB1, hB3, hbel⟩
        · obtain rfl : t = i := by omega
          have HP2 := Lib.hid (fun j (hj : j < t) => HP.all HNL.out hj)
          have hrl := HP.rl
          clear HP hB3
          go_wp2
          go_loopg [14] t (fun gk i1 wr => ∃ (k : Nat), gk = t - k ∧ k ≤ t ∧ i1 = .int .i64 k ∧ Blk wr w.heap.size 4 (bools R) ∧ Below w.heap.size w wr)
          case atStart => exact ⟨0, by omega, by omega, rfl, hB1, hbel⟩
          case round =>
            clear hB1 hbel
            obtain ⟨k, hgk, hk, rfl, hB1, hbel⟩ := hrel
            have HGK := Lib.hid hgk
            clear hgk
            have hsz := hbel.size
            by_cases hltk : k < t
            · have cr := hB1.bool (k := k) (by omega)
              rw [HP2.out k hltk] at cr
              have i1 : (0 : Int) ≤ (k : Int) ∧ (k : Int) < (t : Int) := by omega
              go_wp2
              go_roundg (t - (k + 1))
              case measure => rw [HGK.out]; omega
              case rel => exact ⟨k + 1, rfl, by omega, by go_num, hB1, hbel⟩
            · go_wp2
              go_ret
              exact ⟨rfl, (below_ext (by repeat (first | exact hbel | exact Below.refl _ _ | (with_reducible refine Below.setCell ?_ (by first | omega | (simp; done) | (simp; omega)) _) | (with_reducible refine Below.alloc ?_ (by first | omega | (simp; done) | (simp; omega)) _) | (with_reducible refine Below.onDrewN ?_ _) | (with_reducible refine Below.drew ?_) | (with_reducible refine Below.ofExt ?_ (by first | omega | (simp; done) | (simp; omega))))))⟩

set_option maxRecDepth 100000 in
set_option maxHeartbeats 16000000 in
theorem parts_walk (a : Option Addr) (c : Nat) (L : List Tone) (tol : Int) (w : World) (h : TonesAt w a L) (hm : L.length ≤ maxLen) :
    Calls Try.prog 5 #[.slice a L.length c, .int .i64 tol] w fun e w' => e = .returned (.bool true) ∧ ∃ z, w' = ext w z := by
  unfold maxLen at hm
  by_cases g1 : 30 < L.length
  · clear h
    generalize L.length = n at *
    go_enter Try.func5, Try.ntmps5
    go_wp2_with (first | (go_at_call 9; (first | (with_reducible refine (Calls.ext_of (awake_any _)).mono ?_) | refine (awake_any _).mono ?_); rintro e w' ⟨rfl, z9, rfl⟩))
    go_ret
    exact ⟨rfl, (below_ext (by repeat (first | exact Below.refl _ _ | exact Below.refl _ _ | (with_reducible refine Below.setCell ?_ (by first | omega | (simp; done) | (simp; omega)) _) | (with_reducible refine Below.alloc ?_ (by first | omega | (simp; done) | (simp; omega)) _) | (with_reducible refine Below.onDrewN ?_ _) | (with_reducible refine Below.drew ?_) | (with_reducible refine Below.ofExt ?_ (by first | omega | (simp; done) | (simp; omega))))))⟩
  · by_cases g2 : 20 < L.length
    · clear h
      generalize L.length = n at *
      go_enter Try.func5, Try.ntmps5
      go_wp2_with (first | (go_at_call 14; refine (Lots_long _ _ _ _ _ g2).mono ?_; rintro e w' ⟨rfl, rfl⟩) | (go_at_call 9; (first | (with_reducible refine (Calls.ext_of (awake_any _)).mono ?_) | refine (awake_any _).mono ?_); rintro e w' ⟨rfl, z9, rfl⟩))
      go_ret
      exact ⟨rfl, (below_ext (by repeat (first | exact Below.refl _ _ | exact Below.refl _ _ | (with_reducible refine Below.setCell ?_ (by first | omega | (simp; done) | (simp; omega)) _) | (with_reducible refine Below.alloc ?_ (by first | omega | (simp; done) | (simp; omega)) _) | (with_reducible refine Below.onDrewN ?_ _) | (with_reducible refine Below.drew ?_) | (with_reducible refine Below.ofExt ?_ (by first | omega | (simp; done) | (simp; omega))))))⟩
    · by_cases g3 : tol < 0
      · clear h
        generalize L.length = n at *
        go_enter Try.func5, Try.ntmps5
        go_wp2_with (first | (go_at_call 14; refine (Lots_neg _ _ _ _ _ (by omega) g3).mono ?_; rintro e w' ⟨rfl, rfl⟩) | (go_at_call 9; (first | (with_reducible refine (Calls.ext_of (awake_any _)).mono ?_) | refine (awake_any _).mono ?_); rintro e w' ⟨rfl, z9, rfl⟩))
        go_ret
        exact ⟨rfl, (below_ext (by repeat (first | exact Below.refl _ _ | exact Below.refl _ _ | (with_reducible refine Below.setCell ?_ (by first | omega | (simp; done) | (simp; omega)) _) | (with_reducible refine Below.alloc ?_ (by first | omega | (simp; done) | (simp; omega)) _) | (with_reducible refine Below.onDrewN ?_ _) | (with_reducible refine Below.drew ?_) | (with_reducible refine Below.ofExt ?_ (by first | omega | (simp; done) | (simp; omega))))))⟩
      · obtain ⟨X, hX⟩ := lots_exist (Nr L tol) L.length
        have K1 := Lib.hid (fun W hW => Lots_ok a c L tol W hW (by omega) (by omega) X hX)
        have K2 := Lib.hid (fun c' g n0 W h1 h2 h3 => connected_ok a c c' g n0 L tol X W h1 h2 (by omega) hX h3)
        have HXL := Lib.hid hX.1
        have HNX := Lib.hid (fun j hj => lots_next nr_symm hX (j := j) hj)
        have HSM := Lib.hid (fun i j hi hj => lots_same nr_symm hX (i := i) (j := j) hi hj)
        have h1 := Lib.hid h
        obtain ⟨b, o, ha, hc⟩ := h.spread
        have HA := Lib.hid ha
        have HC := Lib.hid hc
        clear h hX ha hc
        generalize hn : L.length = n at *
        have HN := Lib.hid hn
        clear hn
        go_enter Try.func5, Try.ntmps5
        go_wp2_with fail
        refine (K1.out _ h1.out).mono ?_
        rintro e w' ⟨g, rfl, hB, z1, rfl⟩
        go_wp2_with fail
        go_loopg [8, 7] n (fun gk i v wr => ∃ k q : Nat, gk = n - k ∧ k ≤ n ∧ q ≤ k ∧ i = .int .i64 k ∧ v = .int .i64 q ∧ q = cnt (First (Nr L tol)) k ∧ Blk wr g 3 (ints X) ∧ Below w.heap.size w wr)
        case atStart => exact ⟨0, 0, by omega, by omega, by omega, rfl, rfl, by rw [cnt_zero], hB, (by repeat (first | exact Below.refl _ _ | exact Below.refl _ _ | (with_reducible refine Below.setCell ?_ (by first | omega | (simp; done) | (simp; omega)) _) | (with_reducible refine Below.alloc ?_ (by first | omega | (simp; done) | (simp; omega)) _) | (with_reducible refine Below.onDrewN ?_ _) | (with_reducible refine Below.drew ?_) | (with_reducible refine Below.ofExt ?_ (by first | omega | (simp; done) | (simp; omega)))))⟩
        case round =>
          clear hB
          obtain ⟨i, q, hgi, hi, hqi, rfl, rfl, hq, hB, hbel⟩ := hrel
          have HGI := Lib.hid hgi
          have HQ := Lib.hid hq
          clear hgi hq
          by_cases hlt : i < n
          · obtain ⟨rfl, hbl⟩ := HA.out (by omega)
            have xi := hB.int (k := i) (by rw [HXL.out]; omega)
            have i1 : (0 : Int) ≤ (i : Int) ∧ (i : Int) < (n : Int) := by omega
            obtain ⟨x0, hx⟩ := HNX.out i hlt
            rw [← HQ.out] at hx
            have hnext : ∃ q2 : Nat, q2 = cnt (First (Nr L tol)) (i + 1) ∧ q2 ≤ i + 1 ∧ ((X.getD i 0 = (q : Int) ∧ q2 = q + 1) ∨ (X.getD i 0 < (q : Int) ∧ q2 = q)) := by
              rcases hx with ⟨e, hf⟩ | ⟨e, hf⟩
              · exact ⟨q + 1, by rw [cnt_succ_yes hf, HQ.out], by omega, Or.inl ⟨e, rfl⟩⟩
              · exact ⟨q, by rw [cnt_succ_no hf, HQ.out], by omega, Or.inr ⟨e, rfl⟩⟩
            obtain ⟨q2, hq2, hq3, hq4⟩ := hnext
            have HQ2 := Lib.hid hq2
            clear hq2 hx
            generalize hgx : X.getD i 0 = x at *
            have HGX := Lib.hid hgx
            clear hgx
            rcases hq4 with ⟨rfl, rfl⟩ | ⟨hq5, rfl⟩
            · go_wp2_with fail
              go_loopg [9] i (fun gk i1 wr => ∃ k : Nat, gk = i - k ∧ k ≤ i ∧ i1 = .int .i64 k ∧ Blk wr g 3 (ints X) ∧ Below w.heap.size w wr)
              case atStart => exact ⟨0, by omega, by omega, rfl, hB, hbel⟩
              case round =>
                clear hB hbel xi
                obtain ⟨j, hgj, hj, rfl, hB, hbel⟩ := hrel
                have HGJ := Lib.hid hgj
                clear hgj
                have hsz := hbel.size
                by_cases hltj : j < i
                · have xi := hB.int (k := i) (by rw [HXL.out]; omega)
                  have xj := hB.int (k := j) (by rw [HXL.out]; omega)
                  obtain ⟨ci0, ci1, ci2⟩ := HC.out i (by omega)
                  obtain ⟨cj0, cj1, cj2⟩ := HC.out j (by omega)
                  rw [← hbel.cell (by exact hbl)] at ci0 ci1 ci2 cj0 cj1 cj2
                  have i2 : (0 : Int) ≤ (j : Int) ∧ (j : Int) < (n : Int) := by omega
                  have hne := HSM.out j i (by omega) (by omega)
                  by_cases hxx : X.getD j 0 = X.getD i 0
                  · rw [hxx] at xj
                    clear hxx hne
                    generalize X.getD i 0 = y at xi xj
                    generalize tn L i = ti at *
                    generalize tn L j = tj at *
                    go_wp2_with fail
                    refine wp_region_ext (by kernel_rfl) (by kernel_rfl) ?_
                    repeat (go_big_quiet_step ((first | (go_at_call 12; exact Calls.ext_of (Distance_any _ _ _)))))
                    refine wpQuiet_nil ?_
                    rintro _ ⟨z, rfl⟩
                    go_wp2
                    go_roundg (i - (j + 1))
                    case measure => rw [HGJ.out]; omega
                    case rel => exact ⟨j + 1, rfl, by omega, by go_num, (by repeat (first | exact hB | (with_reducible refine Blk.alloc ?_ _) | (with_reducible refine Blk.drewN ?_ _) | (with_reducible refine Blk.drew ?_) | (with_reducible refine Blk.ext ?_ _) | (with_reducible refine Blk.other ?_ (by first | omega | (simp; done) | (simp; omega)) _ _))), (by repeat (first | exact hbel | exact Below.refl _ _ | (with_reducible refine Below.setCell ?_ (by first | omega | (simp; done) | (simp; omega)) _) | (with_reducible refine Below.alloc ?_ (by first | omega | (simp; done) | (simp; omega)) _) | (with_reducible refine Below.onDrewN ?_ _) | (with_reducible refine Below.drew ?_) | (with_reducible refine Below.ofExt ?_ (by first | omega | (simp; done) | (simp; omega)))))⟩
                  · have hd : ¬ dist (tn L j) (tn L i) ≤ tol := fun e => hxx (hne.2 ((Conn.refl j).step ⟨by rw [HN.out]; omega, by rw [HN.out]; omega, e⟩))
                    have hxb : (X.getD j 0 != X.getD i 0) = true := by rw [bne_iff_ne]; exact hxx
                    clear hxx hne
                    generalize X.getD i 0 = y at xi xj hxb
                    generalize X.getD j 0 = y2 at xi xj hxb
                    generalize tn L i = ti at *
                    generalize tn L j = tj at *
                    go_wp2_with fail
                    refine wp_region_ext (by kernel_rfl) (by kernel_rfl) ?_
                    repeat (go_big_quiet_step ((first | (go_at_call 12; exact Calls.ext_of (Distance_any _ _ _)))))
                    refine wpQuiet_nil ?_
                    rintro _ ⟨z, rfl⟩
                    go_wp2
                    go_roundg (i - (j + 1))
                    case measure => rw [HGJ.out]; omega
                    case rel => exact ⟨j + 1, rfl, by omega, by go_num, (by repeat (first | exact hB | (with_reducible refine Blk.alloc ?_ _) | (with_reducible refine Blk.drewN ?_ _) | (with_reducible refine Blk.drew ?_) | (with_reducible refine Blk.ext ?_ _) | (with_reducible refine Blk.other ?_ (by first | omega | (simp; done) | (simp; omega)) _ _))), (by repeat (first | exact hbel | exact Below.refl _ _ | (with_reducible refine Below.setCell ?_ (by first | omega | (simp; done) | (simp; omega)) _) | (with_reducible refine Below.alloc ?_ (by first | omega | (simp; done) | (simp; omega)) _) | (with_reducible refine Below.onDrewN ?_ _) | (with_reducible refine Below.drew ?_) | (with_reducible refine Below.ofExt ?_ (by first | omega | (simp; done) | (simp; omega)))))⟩
                · obtain rfl : j = i := by omega
                  go_wp2_with fail
                  go_roundg (n - (j + 1))
                  case measure => rw [HGI.out]; omega
                  case rel => exact ⟨j + 1, _, rfl, by omega, hq3, by go_num, by go_num, HQ2.out, hB, hbel⟩
            · go_wp2_with fail
              go_loopg [9] i (fun gk i1 wr => ∃ k : Nat, gk = i - k ∧ k ≤ i ∧ i1 = .int .i64 k ∧ Blk wr g 3 (ints X) ∧ Below w.heap.size w wr)
              case atStart => exact ⟨0, by omega, by omega, rfl, hB, hbel⟩
              case round =>
                clear hB hbel xi
                obtain ⟨j, hgj, hj, rfl, hB, hbel⟩ := hrel
                have HGJ := Lib.hid hgj
                clear hgj
                have hsz := hbel.size
                by_cases hltj : j < i
                · have xi := hB.int (k := i) (by rw [HXL.out]; omega)
                  have xj := hB.int (k := j) (by rw [HXL.out]; omega)
                  obtain ⟨ci0, ci1, ci2⟩ := HC.out i (by omega)
                  obtain ⟨cj0, cj1, cj2⟩ := HC.out j (by omega)
                  rw [← hbel.cell (by exact hbl)] at ci0 ci1 ci2 cj0 cj1 cj2
                  have i2 : (0 : Int) ≤ (j : Int) ∧ (j : Int) < (n : Int) := by omega
                  have hne := HSM.out j i (by omega) (by omega)
                  by_cases hxx : X.getD j 0 = X.getD i 0
                  · rw [hxx] at xj
                    clear hxx hne
                    generalize X.getD i 0 = y at xi xj
                    generalize tn L i = ti at *
                    generalize tn L j = tj at *
                    go_wp2_with fail
                    refine wp_region_ext (by kernel_rfl) (by kernel_rfl) ?_
                    repeat (go_big_quiet_step ((first | (go_at_call 12; exact Calls.ext_of (Distance_any _ _ _)))))
                    refine wpQuiet_nil ?_
                    rintro _ ⟨z, rfl⟩
                    go_wp2
                    go_roundg (i - (j + 1))
                    case measure => rw [HGJ.out]; omega
                    case rel => exact ⟨j + 1, rfl, by omega, by go_num, (by repeat (first | exact hB | (with_reducible refine Blk.alloc ?_ _) | (with_reducible refine Blk.drewN ?_ _) | (with_reducible refine Blk.drew ?_) | (with_reducible refine Blk.ext ?_ _) | (with_reducible refine Blk.other ?_ (by first | omega | (simp; done) | (simp; omega)) _ _))), (by repeat (first | exact hbel | exact Below.refl _ _ | (with_reducible refine Below.setCell ?_ (by first | omega | (simp; done) | (simp; omega)) _) | (with_reducible refine Below.alloc ?_ (by first | omega | (simp; done) | (simp; omega)) _) | (with_reducible refine Below.onDrewN ?_ _) | (with_reducible refine Below.drew ?_) | (with_reducible refine Below.ofExt ?_ (by first | omega | (simp; done) | (simp; omega)))))⟩
                  · have hd : ¬ dist (tn L j) (tn L i) ≤ tol := fun e => hxx (hne.2 ((Conn.refl j).step ⟨by rw [HN.out]; omega, by rw [HN.out]; omega, e⟩))
                    have hxb : (X.getD j 0 != X.getD i 0) = true := by rw [bne_iff_ne]; exact hxx
                    clear hxx hne
                    generalize X.getD i 0 = y at xi xj hxb
                    generalize X.getD j 0 = y2 at xi xj hxb
                    generalize tn L i = ti at *
                    generalize tn L j = tj at *
                    go_wp2_with fail
                    refine wp_region_ext (by kernel_rfl) (by kernel_rfl) ?_
                    repeat (go_big_quiet_step ((first | (go_at_call 12; exact Calls.ext_of (Distance_any _ _ _)))))
                    refine wpQuiet_nil ?_
                    rintro _ ⟨z, rfl⟩
                    go_wp2
                    go_roundg (i - (j + 1))
                    case measure => rw [HGJ.out]; omega
                    case rel => exact ⟨j + 1, rfl, by omega, by go_num, (by repeat (first | exact hB | (with_reducible refine Blk.alloc ?_ _) | (with_reducible refine Blk.drewN ?_ _) | (with_reducible refine Blk.drew ?_) | (with_reducible refine Blk.ext ?_ _) | (with_reducible refine Blk.other ?_ (by first | omega | (simp; done) | (simp; omega)) _ _))), (by repeat (first | exact hbel | exact Below.refl _ _ | (with_reducible refine Below.setCell ?_ (by first | omega | (simp; done) | (simp; omega)) _) | (with_reducible refine Below.alloc ?_ (by first | omega | (simp; done) | (simp; omega)) _) | (with_reducible refine Below.onDrewN ?_ _) | (with_reducible refine Below.drew ?_) | (with_reducible refine Below.ofExt ?_ (by first | omega | (simp; done) | (simp; omega)))))⟩
                · obtain rfl : j = i := by omega
                  go_wp2_with fail
                  go_roundg (n - (j + 1))
                  case measure => rw [HGI.out]; omega
                  case rel => exact ⟨j + 1, _, rfl, by omega, hq3, by go_num, by go_num, HQ2.out, hB, hbel⟩
          · obtain rfl : i = n := by omega
            have hsz := hbel.size
            go_wp2_with fail
            refine (K2.out _ _ _ _ (h1.out.below hbel) hB HQ.out).mono ?_
            rintro e w' ⟨rfl, z2, rfl⟩
            clear hB
            go_wp2_with (first | (go_at_call 9; (first | (with_reducible refine (Calls.ext_of (awake_any _)).mono ?_) | refine (awake_any _).mono ?_); rintro e w' ⟨rfl, z9, rfl⟩))
            go_ret
            exact ⟨rfl, (below_ext (by repeat (first | exact hbel | exact Below.refl _ _ | (with_reducible refine Below.setCell ?_ (by first | omega | (simp; done) | (simp; omega)) _) | (with_reducible refine Below.alloc ?_ (by first | omega | (simp; done) | (simp; omega)) _) | (with_reducible refine Below.onDrewN ?_ _) | (with_reducible refine Below.drew ?_) | (with_reducible refine Below.ofExt ?_ (by first | omega | (simp; done) | (simp; omega))))))⟩

set_option maxRecDepth 100000 in
theorem shadeParts_lifted (os : Os) (started : os.Started) (H : Type) (enc : TypeId × Value → H) :
    ReturnsInHanded {} Try.checked os 5 .any (Rows.shadePartsSpec.pre6 enc Try.prog Try.f5 Rows.shadePartsRow.domain false) (Rows.shadePartsSpec.post enc Try.prog Try.f5 false true false false) := by
  refine returnsInHanded_of_change (C := Try.checked) own started (by kernel_rfl) Try.func5
    (ChangeSpec.witness6 (enc := enc) (C := Try.checked) false ⟨#[], #[.slice none 0 0, .int .i64 0], []⟩ 8 (by kernel_rfl) (by kernel_rfl) (by kernel_rfl) (by kernel_rfl)) ?_
  intro W base args ds gs before hval0 hW hcnd _
  have hval : ∀ (j : Nat) t v, Try.f5.params[j]? = some t → args[j]? = some v → Value.okWide Try.prog W .any base t v := hval0
  have hW' := hW
  obtain ⟨p, q, hA0, hV, rfl, hfz, hnd⟩ := hW
  have hA : DataW.TrodAll enc Try.prog W 0 (fun _ => true) true Try.f5.params.toList args.toList ds p := hA0
  rw [Try.params5] at hA hval
  obtain ⟨v0, v1, d0, d1, p0, p1, rfl, rfl, rfl, h0, h1⟩ := trodAll_two hA
  obtain ⟨a0, c0, L0, rfl, m0, r0⟩ := open_tones (hval 0 24 v0 rfl rfl) h0
  obtain ⟨x1, rfl, rfl, rfl, w1⟩ := open_int Try.underlying3 (hval 1 3 v1 rfl rfl) h1
  refine (parts_walk a0 c0 L0 x1 W r0 m0).mono fun e W' ⟨he, z, hz⟩ => ?_
  subst he hz
  exact ⟨_, rfl, law_post rfl (by kernel_rfl) (by kernel_rfl) Try.underlying4 hW' (fun _ => ⟨rfl, rfl, rfl⟩) (ext_below _ _)⟩

theorem shadeParts_holds : Rows.ShadePartsSaid :=
  OpenClaim.holds_of_wide 5 Try.f5 rfl rfl rfl rfl rfl rfl rfl ⟨rfl, rfl, rfl, rfl, rfl⟩ rfl rfl rfl rfl rfl (by kernel_rfl) Try.func5 (by kernel_rfl)
    (of_decide_eq_true (by kernel_rfl)) (by unfold Func.isWrapper; first | (rw [if_pos (by decide +kernel)]; kernel_rfl) | (rw [if_neg (by decide +kernel)]; exact ⟨rfl, rfl⟩))
    (fun os started H enc _ => shadeParts_lifted os started H enc)
#print axioms shadeParts_holds
end Go.Proofs.Ytjfckjmdcfiacaa
