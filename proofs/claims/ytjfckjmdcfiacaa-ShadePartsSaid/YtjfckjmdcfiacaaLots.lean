/-
  The contract of Lots.
-/
import Derived.Test.YtjfckjmdcfiacaaRLots
import Derived.WalkSmall
import Derived.Deep.LoopGhost
namespace Go.Proofs.Ytjfckjmdcfiacaa
open Go.RowKit

/-- The first k are bare. -/
structure Bared (n k : Nat) (X : List Int) : Prop where
  len : X.length = n
  val : ∀ j, j < k → X.getD j 0 = -1
theorem bared_start (n : Nat) : Bared n 0 (List.replicate n 0) := ⟨by simp, fun j hj => by omega⟩
theorem Bared.step {n k : Nat} {X : List Int} (h : Bared n k X) (hk : k < n) : Bared n (k + 1) (X.set k (-1)) := by
  refine ⟨by simp [h.len], fun j hj => ?_⟩
  by_cases e : k = j
  · subst e; exact getD_set_eq _ _ _ _ (by rw [h.len]; exact hk)
  · rw [getD_set_ne2 _ _ _ _ _ e]; exact h.val j (by omega)
theorem Bared.srch {N : Nat → Nat → Prop} {n : Nat} {X : List Int} (h : Bared n n X) : Srch N n 0 0 X := by
  have e : X = List.replicate n (-1) := by
    apply List.ext_getElem (by simp [h.len])
    intro i h1 h2
    have := h.val i (by rw [← h.len]; exact h1)
    simp [List.getD, h1] at this
    simp [this]
  rw [e]
  exact srch_start n
theorem owns_shape {w : World} {base e n : Nat} {v : Value} {xs : List Value} (h : w.ownsRow base e 1 v n xs) (hn : 0 < n) : ∃ q cap, v = .slice (some ⟨q, 0, none⟩) n cap ∧ base ≤ q ∧ q < w.heap.size ∧ n ≤ cap := by
  obtain ⟨_, ⟨_, h0⟩ | ⟨g, cap, cur, rfl, hg, hh, hc, _⟩⟩ := h
  · omega
  · refine ⟨g, cap, rfl, hg, ?_, hc⟩
    rcases Nat.lt_or_ge g w.heap.size with h1 | h1
    · exact h1
    · rw [Array.getElem?_eq_none h1] at hh; cases hh
theorem owns_one {w : World} {base e q : Nat} {x : Value} (hq : q = w.heap.size) (hb : base ≤ q) : (w.alloc (.cells #[x] e)).ownsRow base e 1 (.slice (some ⟨q, 0, none⟩) 1 1) 1 [x] :=
  ⟨rfl, .inr ⟨q, 1, #[x], rfl, hb, heap_alloc_at w _ _ hq, by omega, by simp [maxLen], rfl, rfl⟩⟩
theorem concat_cases {α : Type} (S : List α) : S = [] ∨ ∃ T f, S = T ++ [f] := by
  rcases List.eq_nil_or_concat S with h | ⟨T, f, h⟩
  · exact Or.inl h
  · exact Or.inr ⟨T, f, by simpa using h⟩

theorem owns_last {w : World} {base p q cap f : Nat} {T : List Nat} (hp : p = T.length) (h : w.ownsRow base 3 1 (.slice (some ⟨q, 0, none⟩) (p + 1) cap) (p + 1) (nats (T ++ [f]))) :
    w.cell? ⟨q, p, none⟩ = some (.int .i64 (f : Int)) ∧ w.ownsRow base 3 1 (.slice (some ⟨q, 0, none⟩) p cap) p (nats T) ∧ base ≤ q ∧ q < w.heap.size ∧ p + 1 ≤ cap := by
  subst hp
  obtain ⟨q2, cap2, e2, hq1, hq2, hcap⟩ := owns_shape h (by omega)
  injection e2 with e3 e4 e5
  injection e3 with e3
  injection e3 with e3
  subst e3 e5
  refine ⟨?_, ownsRow_pop (xs := nats T) (last := [.int .i64 (f : Int)]) (by simp [nats_len]) (by simpa [nats] using h), hq1, hq2, hcap⟩
  rw [h.cellAt T.length (by omega)]
  simp [nats]

set_option maxRecDepth 100000 in
set_option maxHeartbeats 16000000 in
theorem Lots_ok (a : Option Addr) (c : Nat) (L : List Tone) (tol : Int) (w : World) (h : TonesAt w a L) (hm : L.length ≤ 20) (ht : 0 ≤ tol) (X : List Int) (hX : LotsOk (Nr L tol) L.length X) :
    Calls Try.prog 14 #[.slice a L.length c, .int .i64 tol] w fun e w' => ∃ g, e = .returned (.tuple #[.slice (some ⟨g, 0, none⟩) L.length L.length, .int .i64 0]) ∧ Blk w' g 3 (ints X) ∧ ∃ z, w' = ext w z := by
  obtain ⟨b, o, ha, hcell⟩ := h.spread
  have HA := Lib.hid ha
  have HC := Lib.hid hcell
  have HX := Lib.hid hX
  clear h ha hcell hX
  generalize hn : L.length = n at *
  have HN := Lib.hid hn
  clear hn
  have hNl : ∀ i j, Nr L tol i j → j < n := fun a b h => by have := h.2.1; rw [HN.out] at this; exact this
  have HNL := Lib.hid hNl
  clear hNl
  have hmk := fun w => make1 (P := Try.prog) (t := 25) (e := 3) Try.underlying25 Try.info3 n (by omega) (by omega) w
  obtain ⟨i0, hi, hz0, hz1, hz2⟩ := info_parts Try.info3
  go_enter Try.func14, Try.ntmps14
  go_wp2
  go_loopw [23] (fun i wr => ∃ (k : Nat) (F : List Int), k ≤ n ∧ i = .int .i64 k ∧ Bared n k F ∧ Blk wr w.heap.size 3 (ints F) ∧ Below w.heap.size w wr) (fun i _ => n - (intOf i).toNat)
  case atStart => exact ⟨0, _, by omega, rfl, bared_start n, blk_ints _ _ _ rfl, (by repeat (first | exact hbel | exact Below.refl _ _ | (with_reducible refine Below.setCell ?_ (by first | omega | (simp; done) | (simp; omega)) _) | (with_reducible refine Below.alloc ?_ (by first | omega | (simp; done) | (simp; omega)) _) | (with_reducible refine Below.onDrewN ?_ _) | (with_reducible refine Below.drew ?_) | (with_reducible refine Below.ofExt ?_ (by first | omega | (simp; done) | (simp; omega)))))⟩
  case round =>
    obtain ⟨k, F, hk, rfl, hF, hB, hbel⟩ := hrel
    have hfl := hF.len
    have hsz := hB.lt
    by_cases hlt : k < n
    · have c0 := hB.int (k := k) (by omega)
      have f0 := hB.free k
      clear hfl
      go_wp2
      go_roundw
      case rel => exact ⟨k + 1, _, by omega, by go_num, hF.step hlt, hB.setInt k _, (by repeat (first | exact hbel | exact Below.refl _ _ | (with_reducible refine Below.setCell ?_ (by first | omega | (simp; done) | (simp; omega)) _) | (with_reducible refine Below.alloc ?_ (by first | omega | (simp; done) | (simp; omega)) _) | (with_reducible refine Below.onDrewN ?_ _) | (with_reducible refine Below.drew ?_) | (with_reducible refine Below.ofExt ?_ (by first | omega | (simp; done) | (simp; omega)))))⟩
      case measure => simp [intOf]; omega
    · obtain rfl : k = n := by omega
      have HR := hF.srch (N := Nr L tol)
      clear hfl hF hlt hk
      go_wp2
      go_loopg [32, 8] k (fun gk i l wr => ∃ (t l0 : Nat) (Y : List Int), gk = k - t ∧ t ≤ k ∧ l0 ≤ t ∧ i = .int .i64 t ∧ l = .int .i64 l0 ∧ Srch (Nr L tol) k t l0 Y ∧ Blk wr w.heap.size 3 (ints Y) ∧ Below w.heap.size w wr)
      case atStart => exact ⟨0, 0, _, by omega, by omega, by omega, rfl, rfl, HR, hB, hbel⟩
      case round =>
        clear hB HR hbel hsz
        obtain ⟨t, l0, Y, hgt, htk, hlt0, rfl, rfl, HR, hB, hbel⟩ := hrel
        have HGT := Lib.hid hgt
        clear hgt
        have hsz := hB.lt
        by_cases hlt : t < k
        · obtain ⟨rfl, hbl⟩ := HA.out (by omega)
          have hyl := HR.len
          have cy := hB.int (k := t) (by omega)
          have fy := hB.free t
          by_cases hy : Y.getD t 0 = -1
          · have HP := Lib.hid (HR.begin hlt hy)
            have HF := Lib.hid (HR.first hlt hy)
            have HCN := Lib.hid HR.cnt
            have HBR := Lib.hid (bare_set (c := (l0 : Int)) (by omega) hy (by omega))
            have HBL := Lib.hid (bare_le Y)
            clear HR
            rw [hy] at cy
            clear hy
            go_wp2_with fail
            go_loopg [10] (bare Y) (fun gk v wr2 => ∃ (Z : List Int) (S : List Nat) (q cap m : Nat), gk = bare Z + m ∧ gk ≤ k ∧ v = .slice (some ⟨q, 0, none⟩) m cap ∧ m = S.length ∧ Pops (Nr L tol) k t Z S ∧ Blk wr2 w.heap.size 3 (ints Z) ∧ wr2.ownsRow (w.heap.size + 1) 3 1 v m (nats S) ∧ Below w.heap.size w wr2)
            case atStart => exact ⟨_, [t], wr.heap.size, 1, 1, HBR.out.symm, by have := HBL.out; omega, rfl, rfl, HP.out, (by repeat (first | exact hB.setInt _ _ | (with_reducible refine Blk.alloc ?_ _) | (with_reducible refine Blk.drewN ?_ _) | (with_reducible refine Blk.drew ?_) | (with_reducible refine Blk.ext ?_ _) | (with_reducible refine Blk.other ?_ (by first | omega | (simp; done) | (simp; omega)) _ _))), owns_one (by simp) (by omega), (by repeat (first | exact hbel | exact Below.refl _ _ | (with_reducible refine Below.setCell ?_ (by first | omega | (simp; done) | (simp; omega)) _) | (with_reducible refine Below.alloc ?_ (by first | omega | (simp; done) | (simp; omega)) _) | (with_reducible refine Below.onDrewN ?_ _) | (with_reducible refine Below.drew ?_) | (with_reducible refine Below.ofExt ?_ (by first | omega | (simp; done) | (simp; omega)))))⟩
            case round =>
              clear hB hbel hsz cy fy hyl HP HBR HBL
              obtain ⟨Z, S, q, cap, m, hgk, hgle, rfl, hms, HP, hB, hown, hbel⟩ := hrel
              have hsz := hB.lt
              rcases concat_cases S with rfl | ⟨T, f, rfl⟩
              · have HS := Lib.hid (HP.done nr_symm HNL.out hlt HF.out HCN.out)
                obtain rfl : m = 0 := hms
                clear HP hgk hgle hown
                go_wp2
                go_roundg (k - (t + 1))
                case measure => rw [HGT.out]; omega
                case rel => exact ⟨t + 1, l0 + 1, Z, rfl, by omega, by omega, by go_num, by go_num, HS.out, hB, hbel⟩
              · have HQ := Lib.hid HP.pop
                have hfk : f < k := HQ.out.from_.1
                obtain ⟨p, rfl⟩ : ∃ p, m = p + 1 := ⟨T.length, by simpa using hms⟩
                obtain ⟨cf, hpop, hq1, hq2, hcap⟩ := owns_last (by simpa using hms) hown
                have hp20 : p ≤ 20 := by omega
                have HO := Lib.hid hpop
                have HG := Lib.hid hgk
                have HT := Lib.hid (show p = T.length by simpa using hms)
                clear hown HP hgk hms hpop
                go_wp2
                have hbz : bare Z + p ≤ k := by have := HG.out; omega
                generalize hbp : bare Z + p = bp at *
                have HBP := Lib.hid hbp
                clear hbp
                go_loopg [62, 10] k (fun gk2 i v wr2 => ∃ (j : Nat) (Z2 : List Int) (S : List Nat) (q cap m : Nat), gk2 = k - j ∧ j ≤ k ∧ i = .int .i64 j ∧ bare Z2 + m = bp ∧ v = .slice (some ⟨q, 0, none⟩) m cap ∧ m = S.length ∧ Pushes (Nr L tol) k t f j Z2 S ∧ Blk wr2 w.heap.size 3 (ints Z2) ∧ wr2.ownsRow (w.heap.size + 1) 3 1 v m (nats S) ∧ Below w.heap.size w wr2)
                case atStart => exact ⟨0, Z, T, q, cap, p, by omega, by omega, rfl, HBP.out, rfl, HT.out, HQ.out, hB, HO.out, hbel⟩
                case round =>
                  clear hB hbel hsz HQ HO HT cf hq1 hq2 hcap hp20 hgle
                  obtain ⟨j, Z2, S, q, cap, m, hgk2, hj, rfl, hbz2, rfl, hms, HP, hB, hown, hbel⟩ := hrel
                  have HGJ := Lib.hid hgk2
                  have HBZ := Lib.hid hbz2
                  have HMS := Lib.hid hms
                  have HO := Lib.hid hown
                  have hm20 : m ≤ 20 := by omega
                  clear hgk2 hms hown hbz2
                  have hsz := hB.lt
                  by_cases hltj : j < k
                  · have hzl := HP.len
                    have cz := hB.int (k := j) (by omega)
                    have fz := hB.free j
                    obtain ⟨cf0, cf1, cf2⟩ := HC.out f (by omega)
                    obtain ⟨cj0, cj1, cj2⟩ := HC.out j (by omega)
                    rw [← hbel.cell (by exact hbl)] at cf0 cf1 cf2 cj0 cj1 cj2
                    have hff : (0 : Int) ≤ (f : Int) ∧ (f : Int) < (k : Int) := by omega
                    have hjj : (0 : Int) ≤ (j : Int) ∧ (j : Int) < (k : Int) := by omega
                    by_cases hz : Z2.getD j 0 = -1
                    · by_cases hd : dist (tn L f) (tn L j) ≤ tol
                      · have HP2 := Lib.hid (HP.yes nr_symm hltj hz ⟨by rw [HN.out]; omega, by rw [HN.out]; omega, hd⟩ (l0 : Int) (by rw [HCN.out]; rfl))
                        have HBR := Lib.hid (bare_set (c := (l0 : Int)) (by omega) hz (by omega))
                        rw [hz] at cz
                        clear hzl HP hz
                        generalize tn L f = tf at *
                        generalize tn L j = tj at *
                        go_wp2_with fail
                        refine wp_region_ext (by kernel_rfl) (by kernel_rfl) ?_
                        repeat (go_big_quiet_step ((first | (go_at_call 12; exact Calls.ext_of (Distance_any _ _ _)))))
                        refine wpQuiet_nil ?_
                        rintro _ ⟨z, rfl⟩
                        go_wp2_with (first | (at_builtin; refine wpList_append_own _ rfl _ _ 25 rfl (w.heap.size + 1) 3 i0 (.int .i64 0) 1 8 Try.underlying25 hi hz0 hz1 hz2 rfl (by decide) _ m (nats S) rfl ?_ _ 1 1 [.int .i64 (j : Int)] rfl rfl ?_ ?_ ?_ ?_ ?_ ?_))
                        · repeat (first | exact HO.out | (with_reducible refine World.ownsRow.alloc ?_ _) | (with_reducible refine ownsRow_ext ?_ _) | (with_reducible refine World.ownsRow.drew ?_) | (with_reducible refine ownsRow_setCell_below ?_ (by simp) _))
                        · exact cell_one_at _ _ _ _ (by simp)
                        · simp [Value.oneCell']
                        · unfold maxLen; omega
                        · omega
                        · simp; omega
                        intro v' w1 hown1 hgrow _
                        have hrow : ∀ q', (Value.slice (some ⟨q, 0, none⟩) m cap).ownBlock = some q' → w.heap.size + 1 ≤ q' := fun q' hq => (HO.out.lt q' hq).1
                        have HB1 := Lib.hid (Below.grown (by repeat (first | exact hbel | exact Below.refl _ _ | (with_reducible refine Below.setCell ?_ (by first | omega | (simp; done) | (simp; omega)) _) | (with_reducible refine Below.alloc ?_ (by first | omega | (simp; done) | (simp; omega)) _) | (with_reducible refine Below.onDrewN ?_ _) | (with_reducible refine Below.drew ?_) | (with_reducible refine Below.ofExt ?_ (by first | omega | (simp; done) | (simp; omega))))) hgrow (by first | omega | (simp; done) | (simp; omega)) (fun q' hq => by have := hrow q' hq; omega) : Below w.heap.size w w1)
                        have HK1 := Lib.hid (Blk.grown (by repeat (first | exact hB.setInt _ _ | (with_reducible refine Blk.alloc ?_ _) | (with_reducible refine Blk.drewN ?_ _) | (with_reducible refine Blk.drew ?_) | (with_reducible refine Blk.ext ?_ _) | (with_reducible refine Blk.other ?_ (by first | omega | (simp; done) | (simp; omega)) _ _))) hgrow (fun e => by have := hrow _ e; omega) : Blk w1 w.heap.size 3 (ints (Z2.set j l0)))
                        have HV := Lib.hid (owns_shape hown1 (by omega))
                        have HO1 := Lib.hid hown1
                        clear hown1 hgrow hrow cz fz cf0 cf1 cf2 cj0 cj1 cj2 hB
                        go_wp2
                        go_roundg (k - (j + 1))
                        case measure => rw [HGJ.out]; omega
                        case rel =>
                          obtain ⟨q', cap', hv, _⟩ := HV.out
                          exact ⟨j + 1, _, S ++ [j], q', cap', m + 1, rfl, by omega, by go_num, by have := HBR.out; have := HBZ.out; omega, hv, by have := HMS.out; simp [this], HP2.out, HK1.out, by simpa [nats] using HO1.out, HB1.out⟩
                      · have HP2 := Lib.hid (HP.no nr_symm hltj (fun e => hd e.2.2.2))
                        rw [hz] at cz
                        clear hzl HP hz
                        generalize tn L f = tf at *
                        generalize tn L j = tj at *
                        go_wp2_with fail
                        refine wp_region_ext (by kernel_rfl) (by kernel_rfl) ?_
                        repeat (go_big_quiet_step ((first | (go_at_call 12; exact Calls.ext_of (Distance_any _ _ _)))))
                        refine wpQuiet_nil ?_
                        rintro _ ⟨z, rfl⟩
                        go_wp2
                        go_roundg (k - (j + 1))
                        case measure => rw [HGJ.out]; omega
                        case rel => exact ⟨j + 1, Z2, S, q, cap, m, rfl, by omega, by go_num, HBZ.out, rfl, HMS.out, HP2.out, (by repeat (first | exact hB | (with_reducible refine Blk.alloc ?_ _) | (with_reducible refine Blk.drewN ?_ _) | (with_reducible refine Blk.drew ?_) | (with_reducible refine Blk.ext ?_ _) | (with_reducible refine Blk.other ?_ (by first | omega | (simp; done) | (simp; omega)) _ _))), ownsRow_ext HO.out _, (by repeat (first | exact hbel | exact Below.refl _ _ | (with_reducible refine Below.setCell ?_ (by first | omega | (simp; done) | (simp; omega)) _) | (with_reducible refine Below.alloc ?_ (by first | omega | (simp; done) | (simp; omega)) _) | (with_reducible refine Below.onDrewN ?_ _) | (with_reducible refine Below.drew ?_) | (with_reducible refine Below.ofExt ?_ (by first | omega | (simp; done) | (simp; omega)))))⟩
                    · have HP2 := Lib.hid (HP.no nr_symm hltj (fun e => hz e.1))
                      have hzb : (Z2.getD j 0 == -1) = false := by rw [beq_eq_false_iff_ne]; exact hz
                      clear hzl HP hz cf0 cf1 cf2 cj0 cj1 cj2
                      generalize Z2.getD j 0 = x at *
                      go_wp2_with fail
                      refine wp_region_ext (by kernel_rfl) (by kernel_rfl) ?_
                      repeat (go_big_quiet_step ((first | (go_at_call 12; exact Calls.ext_of (Distance_any _ _ _)))))
                      refine wpQuiet_nil ?_
                      rintro _ ⟨z, rfl⟩
                      go_wp2
                      go_roundg (k - (j + 1))
                      case measure => rw [HGJ.out]; omega
                      case rel => exact ⟨j + 1, Z2, S, q, cap, m, rfl, by omega, by go_num, HBZ.out, rfl, HMS.out, HP2.out, (by repeat (first | exact hB | (with_reducible refine Blk.alloc ?_ _) | (with_reducible refine Blk.drewN ?_ _) | (with_reducible refine Blk.drew ?_) | (with_reducible refine Blk.ext ?_ _) | (with_reducible refine Blk.other ?_ (by first | omega | (simp; done) | (simp; omega)) _ _))), ownsRow_ext HO.out _, (by repeat (first | exact hbel | exact Below.refl _ _ | (with_reducible refine Below.setCell ?_ (by first | omega | (simp; done) | (simp; omega)) _) | (with_reducible refine Below.alloc ?_ (by first | omega | (simp; done) | (simp; omega)) _) | (with_reducible refine Below.onDrewN ?_ _) | (with_reducible refine Below.drew ?_) | (with_reducible refine Below.ofExt ?_ (by first | omega | (simp; done) | (simp; omega)))))⟩
                  · obtain rfl : j = k := by omega
                    have HP2 := Lib.hid HP.all
                    clear HP
                    go_wp2
                    go_roundg bp
                    case measure => rw [HG.out, ← HBP.out]; omega
                    case rel => exact ⟨Z2, S, q, cap, m, HBZ.out.symm, by omega, rfl, HMS.out, HP2.out, hB, HO.out, hbel⟩
          · have HS := Lib.hid (HR.skip nr_symm hlt hy)
            have hyb : (Y.getD t 0 != -1) = true := by rw [bne_iff_ne]; exact hy
            clear HR hy hyl
            generalize Y.getD t 0 = x at *
            go_wp2
            go_roundg (k - (t + 1))
            case measure => rw [HGT.out]; omega
            case rel => exact ⟨t + 1, l0, Y, rfl, by omega, by omega, by go_num, by go_num, HS.out, hB, hbel⟩
        · obtain rfl : t = k := by omega
          have HZ := Lib.hid (lots_unique HX.out HR.ok)
          clear HR
          go_wp2
          go_ret2
          refine ⟨w.heap.size, rfl, ?_, (below_ext (by repeat (first | exact hbel | exact Below.refl _ _ | (with_reducible refine Below.setCell ?_ (by first | omega | (simp; done) | (simp; omega)) _) | (with_reducible refine Below.alloc ?_ (by first | omega | (simp; done) | (simp; omega)) _) | (with_reducible refine Below.onDrewN ?_ _) | (with_reducible refine Below.drew ?_) | (with_reducible refine Below.ofExt ?_ (by first | omega | (simp; done) | (simp; omega))))))⟩
          rw [HZ.out]
          exact hB
set_option maxHeartbeats 400000 in
theorem Lots_long (a : Option Addr) (c n : Nat) (tol : Int) (w : World) (hm : 20 < n) :
    Calls Try.prog 14 #[.slice a n c, .int .i64 tol] w fun e w' => e = .returned (.tuple #[.slice none 0 0, .int .i64 5]) ∧ w' = w := by
  go_enter Try.func14, Try.ntmps14
  go_wp2
  go_ret2
  exact ⟨rfl, rfl⟩
set_option maxHeartbeats 400000 in
theorem Lots_neg (a : Option Addr) (c n : Nat) (tol : Int) (w : World) (hm : n ≤ 20) (ht : tol < 0) :
    Calls Try.prog 14 #[.slice a n c, .int .i64 tol] w fun e w' => e = .returned (.tuple #[.slice none 0 0, .int .i64 3]) ∧ w' = w := by
  go_enter Try.func14, Try.ntmps14
  go_wp2
  go_ret2
  exact ⟨rfl, rfl⟩
end Go.Proofs.Ytjfckjmdcfiacaa
