/-
  ShadeWorst returns true for all lists of tones and all tolerances; no condition.
-/
import Derived.Test.YtjfckjmdcfiacaaWider
import Derived.Test.YtjfckjmdcfiacaaDistances
namespace Go.Proofs.Ytjfckjmdcfiacaa
open Go.RowKit Go.ChangeShapes Go.WideShapes Go.ChangeAt

/-- The greatest distance has been met. -/
def Met (L : List Tone) (X : List Int) (i k : Nat) (m : Int) : Prop := m = 0 ∨ ∃ p q, p < q ∧ (q < i ∨ (q = i ∧ p < k)) ∧ X.getD p 0 = X.getD q 0 ∧ dist (tn L p) (tn L q) = m
theorem met_start (L : List Tone) (X : List Int) (m : Int) : (m == 0) = true ↔ Met L X 0 0 m := by
  constructor
  · intro h; exact Or.inl (by simpa using h)
  · rintro (h | ⟨p, q, h1, h2, _⟩)
    · simpa using h
    · omega
theorem met_no {L : List Tone} {X : List Int} {i k : Nat} {m : Int} (h : ¬ (X.getD i 0 = X.getD k 0 ∧ dist (tn L i) (tn L k) = m)) : Met L X i (k + 1) m ↔ Met L X i k m := by
  constructor
  · rintro (e | ⟨p, q, h1, h2, h3, h4⟩)
    · exact Or.inl e
    · by_cases c : q = i ∧ p = k
      · rw [c.1, c.2] at h3 h4
        rw [dist_symm] at h4
        exact absurd ⟨h3.symm, h4⟩ h
      · exact Or.inr ⟨p, q, h1, by omega, h3, h4⟩
  · rintro (e | ⟨p, q, h1, h2, h3, h4⟩)
    · exact Or.inl e
    · exact Or.inr ⟨p, q, h1, by omega, h3, h4⟩
theorem met_yes {L : List Tone} {X : List Int} {i k : Nat} {m : Int} (hk : k < i) (h3 : X.getD i 0 = X.getD k 0) (h4 : dist (tn L i) (tn L k) = m) : Met L X i (k + 1) m :=
  Or.inr ⟨k, i, hk, Or.inr ⟨rfl, by omega⟩, h3.symm, by rw [dist_symm]; exact h4⟩
theorem met_mono {L : List Tone} {X : List Int} {i k : Nat} {m : Int} (h : Met L X i k m) : Met L X i (k + 1) m := by
  rcases h with e | ⟨p, q, h1, h2, h3, h4⟩
  · exact Or.inl e
  · exact Or.inr ⟨p, q, h1, by omega, h3, h4⟩
theorem met_next {L : List Tone} {X : List Int} {i : Nat} {m : Int} : Met L X (i + 1) 0 m ↔ Met L X i i m := by
  constructor
  · rintro (e | ⟨p, q, h1, h2, h3, h4⟩)
    · exact Or.inl e
    · exact Or.inr ⟨p, q, h1, by omega, h3, h4⟩
  · rintro (e | ⟨p, q, h1, h2, h3, h4⟩)
    · exact Or.inl e
    · exact Or.inr ⟨p, q, h1, by omega, h3, h4⟩
theorem lots_small {N : Nat → Nat → Prop} {n : Nat} {X : List Int} (hX : LotsOk N n X) {j : Nat} (hj : j < n) : 0 ≤ X.getD j 0 ∧ X.getD j 0 ≤ j := by
  obtain ⟨r, hr⟩ := root_exists (N := N) j
  have h1 := hX.2 j r hj hr
  have h2 : X.getD j 0 = (num N r : Int) := by simp [List.getD, h1]
  have h3 := cnt_le (First N) r
  have h4 := hr.le
  unfold num at h2
  omega
theorem wf_small {x : Int} (h0 : 0 ≤ x) (h1 : x ≤ 1000000) : (Lit.int .i64 x).wf = true := by
  simp [Lit.wf, IntKind.min, IntKind.max, IntKind.signed, IntKind.bits]
  omega
theorem worst_le {L : List Tone} {tol : Int} (ht : 0 ≤ tol) {X : List Int} (hX : LotsOk (Nr L tol) L.length X) {m : Int} (hW : IsWorst L X L.length 0 m) : m ≤ tol * max 0 ((L.length : Int) - 1) := by
  have hn : 0 ≤ tol * max 0 ((L.length : Int) - 1) := Int.mul_nonneg ht (by omega)
  rcases hW.at_ with e | ⟨p, q, h1, h2, h3, h4⟩
  · omega
  · have hq : q < L.length := by omega
    have := conn_dist ht (show p < L.length by omega) ((lots_same nr_symm hX (by omega) hq).1 h3)
    have e : ((L.length - 1 : Nat) : Int) = max 0 ((L.length : Int) - 1) := by omega
    rw [e] at this
    omega
theorem mul_small {tol : Int} {n : Nat} (h0 : 0 ≤ tol) (h1 : tol ≤ 2000) (hn : n ≤ 20) : 0 ≤ tol * max 0 ((n : Int) - 1) ∧ tol * max 0 ((n : Int) - 1) ≤ 100000 := by
  refine ⟨Int.mul_nonneg h0 (by omega), ?_⟩
  have := Int.mul_le_mul h1 (show max 0 ((n : Int) - 1) ≤ 20 by omega) (by omega) (by omega)
  omega

set_option maxRecDepth 100000 in
set_option maxHeartbeats 8000000 in
theorem worst_walk (a : Option Addr) (c : Nat) (L : List Tone) (tol : Int) (w : World) (h : TonesAt w a L) (hm : L.length ≤ maxLen) :
    Calls Try.prog 8 #[.slice a L.length c, .int .i64 tol] w fun e w' => e = .returned (.bool true) ∧ ∃ z, w' = ext w z := by
  unfold maxLen at hm
  by_cases g1 : 20 < L.length
  · clear h
    generalize L.length = n at *
    go_enter Try.func8, Try.ntmps8
    go_wp2_with (first | (go_at_call 9; (first | (with_reducible refine (Calls.ext_of (awake_any _)).mono ?_) | refine (awake_any _).mono ?_); rintro e w' ⟨rfl, z9, rfl⟩))
    go_ret
    exact ⟨rfl, (below_ext (by repeat (first | exact Below.refl _ _ | exact Below.refl _ _ | (with_reducible refine Below.setCell ?_ (by first | omega | (simp; done) | (simp; omega)) _) | (with_reducible refine Below.alloc ?_ (by first | omega | (simp; done) | (simp; omega)) _) | (with_reducible refine Below.onDrewN ?_ _) | (with_reducible refine Below.drew ?_) | (with_reducible refine Below.ofExt ?_ (by first | omega | (simp; done) | (simp; omega))))))⟩
  · by_cases g2 : tol < 0
    · clear h
      generalize L.length = n at *
      go_enter Try.func8, Try.ntmps8
      go_wp2_with (first | (go_at_call 9; (first | (with_reducible refine (Calls.ext_of (awake_any _)).mono ?_) | refine (awake_any _).mono ?_); rintro e w' ⟨rfl, z9, rfl⟩))
      go_ret
      exact ⟨rfl, (below_ext (by repeat (first | exact Below.refl _ _ | exact Below.refl _ _ | (with_reducible refine Below.setCell ?_ (by first | omega | (simp; done) | (simp; omega)) _) | (with_reducible refine Below.alloc ?_ (by first | omega | (simp; done) | (simp; omega)) _) | (with_reducible refine Below.onDrewN ?_ _) | (with_reducible refine Below.drew ?_) | (with_reducible refine Below.ofExt ?_ (by first | omega | (simp; done) | (simp; omega))))))⟩
    · by_cases g3 : 2000 < tol
      · clear h
        generalize L.length = n at *
        go_enter Try.func8, Try.ntmps8
        go_wp2_with (first | (go_at_call 9; (first | (with_reducible refine (Calls.ext_of (awake_any _)).mono ?_) | refine (awake_any _).mono ?_); rintro e w' ⟨rfl, z9, rfl⟩))
        go_ret
        exact ⟨rfl, (below_ext (by repeat (first | exact Below.refl _ _ | exact Below.refl _ _ | (with_reducible refine Below.setCell ?_ (by first | omega | (simp; done) | (simp; omega)) _) | (with_reducible refine Below.alloc ?_ (by first | omega | (simp; done) | (simp; omega)) _) | (with_reducible refine Below.onDrewN ?_ _) | (with_reducible refine Below.drew ?_) | (with_reducible refine Below.ofExt ?_ (by first | omega | (simp; done) | (simp; omega))))))⟩
      · obtain ⟨X, hX⟩ := lots_exist (Nr L tol) L.length
        obtain ⟨m, hW⟩ := worst_exists L X L.length
        have hXl := hX.1
        have K1 := Lib.hid (fun W hW => Lots_ok a c L tol W hW (by omega) (by omega) X hX)
        have K2 := Lib.hid (fun b c' W h1 h2 => Worst_ok a (some b) c c' L X W h1 h2 (fun j hj => wf_small (lots_small hX (by omega)).1 (by have := (lots_small hX (j := j) (by omega)).2; omega)) hXl.symm (by omega) m hW)
        rw [hXl] at K2
        have hle := worst_le (by omega) hX hW
        have hms := mul_small (n := L.length) (show 0 ≤ tol by omega) (by omega) (by omega)
        have HM := Lib.hid hW
        have HXL := Lib.hid hXl
        have h1 := Lib.hid h
        obtain ⟨b, o, ha, hc⟩ := h.spread
        have HA := Lib.hid ha
        have HC := Lib.hid hc
        clear h hX hXl hW ha hc
        generalize L.length = n at *
        go_enter Try.func8, Try.ntmps8
        go_wp2_with fail
        refine (K1.out _ h1.out).mono ?_
        rintro e w' ⟨g, rfl, hB, z1, rfl⟩
        have hg := hB.lt
        have HB := Lib.hid hB
        clear hB
        go_wp2_with fail
        refine (K2.out _ _ _ (h1.out.below (by repeat (first | exact Below.refl _ _ | exact Below.refl _ _ | (with_reducible refine Below.setCell ?_ (by first | omega | (simp; done) | (simp; omega)) _) | (with_reducible refine Below.alloc ?_ (by first | omega | (simp; done) | (simp; omega)) _) | (with_reducible refine Below.onDrewN ?_ _) | (with_reducible refine Below.drew ?_) | (with_reducible refine Below.ofExt ?_ (by first | omega | (simp; done) | (simp; omega)))))) HB.out.row).mono ?_
        rintro e w' ⟨rfl, z2, rfl⟩
        clear K1 K2
        go_wp2_with fail
        go_loopg [10, 9] n (fun gk i v wr => ∃ (k : Nat) (y : Bool), gk = n - k ∧ k ≤ n ∧ i = .int .i64 k ∧ v = .bool y ∧ (y = true ↔ Met L X k 0 m) ∧ Blk wr g 3 (ints X) ∧ Below w.heap.size w wr)
        case atStart => exact ⟨0, _, by omega, by omega, rfl, rfl, met_start L X m, HB.out.ext _, (by repeat (first | exact Below.refl _ _ | exact Below.refl _ _ | (with_reducible refine Below.setCell ?_ (by first | omega | (simp; done) | (simp; omega)) _) | (with_reducible refine Below.alloc ?_ (by first | omega | (simp; done) | (simp; omega)) _) | (with_reducible refine Below.onDrewN ?_ _) | (with_reducible refine Below.drew ?_) | (with_reducible refine Below.ofExt ?_ (by first | omega | (simp; done) | (simp; omega)))))⟩
        case round =>
          clear HB hg hle hms
          obtain ⟨i, y, hgi, hi, rfl, rfl, hy, hB, hbel⟩ := hrel
          have HGI := Lib.hid hgi
          clear hgi
          by_cases hlt : i < n
          · obtain ⟨rfl, hbl⟩ := HA.out (by omega)
            go_wp2_with fail
            go_loopg [11, 9] i (fun gk i1 v wr => ∃ (k : Nat) (y : Bool), gk = i - k ∧ k ≤ i ∧ i1 = .int .i64 k ∧ v = .bool y ∧ (y = true ↔ Met L X i k m) ∧ Blk wr g 3 (ints X) ∧ Below w.heap.size w wr)
            case atStart => exact ⟨0, y, by omega, by omega, rfl, rfl, hy, hB, hbel⟩
            case round =>
              clear hB hbel hy
              obtain ⟨j, y, hgj, hj, rfl, rfl, hy, hB, hbel⟩ := hrel
              have HGJ := Lib.hid hgj
              clear hgj
              have hsz := hbel.size
              by_cases hltj : j < i
              · have xi := hB.int (k := i) (by rw [HXL.out]; omega)
                have xj := hB.int (k := j) (by rw [HXL.out]; omega)
                have i1 : (0 : Int) ≤ (i : Int) ∧ (i : Int) < (n : Int) := by omega
                have i2 : (0 : Int) ≤ (j : Int) ∧ (j : Int) < (n : Int) := by omega
                by_cases hp : X.getD i 0 = X.getD j 0
                · obtain ⟨ci0, ci1, ci2⟩ := HC.out i (by omega)
                  obtain ⟨cj0, cj1, cj2⟩ := HC.out j (by omega)
                  rw [← hbel.cell (by exact hbl)] at ci0 ci1 ci2 cj0 cj1 cj2
                  have hub : dist (tn L i) (tn L j) ≤ m := by
                    rw [dist_symm]
                    exact HM.out.ub j i hltj (Or.inl hlt) hp.symm
                  by_cases hd : dist (tn L i) (tn L j) = m
                  · have HY := Lib.hid (met_yes hltj hp hd)
                    have hdb : (dist (tn L i) (tn L j) == m) = true := by rw [beq_iff_eq]; exact hd
                    rw [hp] at xi
                    clear hp hy hd
                    generalize X.getD j 0 = x at *
                    generalize tn L i = ti at *
                    generalize tn L j = tj at *
                    cases y with
                    | true =>
                      go_wp2_with fail
                      refine wp_region_ext (by kernel_rfl) (by kernel_rfl) ?_
                      repeat (go_big_quiet_step ((first | (go_at_call 12; exact Calls.ext_of (Distance_any _ _ _)))))
                      refine wpQuiet_nil ?_
                      rintro _ ⟨z, rfl⟩
                      go_wp2_with fail
                      refine wp_region_ext (by kernel_rfl) (by kernel_rfl) ?_
                      repeat (go_big_quiet_step ((first | (go_at_call 12; exact Calls.ext_of (Distance_any _ _ _)))))
                      refine wpQuiet_nil ?_
                      rintro _ ⟨z, rfl⟩
                      go_wp2
                      go_roundg (i - (j + 1))
                      case measure => rw [HGJ.out]; omega
                      case rel => exact ⟨j + 1, true, rfl, by omega, by go_num, rfl, ⟨fun _ => HY.out, fun _ => rfl⟩, (by repeat (first | exact hB | (with_reducible refine Blk.alloc ?_ _) | (with_reducible refine Blk.drewN ?_ _) | (with_reducible refine Blk.drew ?_) | (with_reducible refine Blk.ext ?_ _) | (with_reducible refine Blk.other ?_ (by first | omega | (simp; done) | (simp; omega)) _ _))), (by repeat (first | exact hbel | exact Below.refl _ _ | (with_reducible refine Below.setCell ?_ (by first | omega | (simp; done) | (simp; omega)) _) | (with_reducible refine Below.alloc ?_ (by first | omega | (simp; done) | (simp; omega)) _) | (with_reducible refine Below.onDrewN ?_ _) | (with_reducible refine Below.drew ?_) | (with_reducible refine Below.ofExt ?_ (by first | omega | (simp; done) | (simp; omega)))))⟩
                    | false =>
                      go_wp2_with fail
                      refine wp_region_ext (by kernel_rfl) (by kernel_rfl) ?_
                      repeat (go_big_quiet_step ((first | (go_at_call 12; exact Calls.ext_of (Distance_any _ _ _)))))
                      refine wpQuiet_nil ?_
                      rintro _ ⟨z, rfl⟩
                      go_wp2_with fail
                      refine wp_region_ext (by kernel_rfl) (by kernel_rfl) ?_
                      repeat (go_big_quiet_step ((first | (go_at_call 12; exact Calls.ext_of (Distance_any _ _ _)))))
                      refine wpQuiet_nil ?_
                      rintro _ ⟨z, rfl⟩
                      go_wp2
                      go_roundg (i - (j + 1))
                      case measure => rw [HGJ.out]; omega
                      case rel => exact ⟨j + 1, true, rfl, by omega, by go_num, rfl, ⟨fun _ => HY.out, fun _ => rfl⟩, (by repeat (first | exact hB | (with_reducible refine Blk.alloc ?_ _) | (with_reducible refine Blk.drewN ?_ _) | (with_reducible refine Blk.drew ?_) | (with_reducible refine Blk.ext ?_ _) | (with_reducible refine Blk.other ?_ (by first | omega | (simp; done) | (simp; omega)) _ _))), (by repeat (first | exact hbel | exact Below.refl _ _ | (with_reducible refine Below.setCell ?_ (by first | omega | (simp; done) | (simp; omega)) _) | (with_reducible refine Below.alloc ?_ (by first | omega | (simp; done) | (simp; omega)) _) | (with_reducible refine Below.onDrewN ?_ _) | (with_reducible refine Below.drew ?_) | (with_reducible refine Below.ofExt ?_ (by first | omega | (simp; done) | (simp; omega)))))⟩
                  · have HY := Lib.hid (hy.trans (met_no (L := L) (X := X) (i := i) (k := j) (m := m) (fun e => hd e.2)).symm)
                    have hdb : (dist (tn L i) (tn L j) == m) = false := by rw [beq_eq_false_iff_ne]; exact hd
                    rw [hp] at xi
                    clear hp hy hd
                    generalize X.getD j 0 = x at *
                    generalize tn L i = ti at *
                    generalize tn L j = tj at *
                    cases y with
                    | true =>
                      go_wp2_with fail
                      refine wp_region_ext (by kernel_rfl) (by kernel_rfl) ?_
                      repeat (go_big_quiet_step ((first | (go_at_call 12; exact Calls.ext_of (Distance_any _ _ _)))))
                      refine wpQuiet_nil ?_
                      rintro _ ⟨z, rfl⟩
                      go_wp2_with fail
                      refine wp_region_ext (by kernel_rfl) (by kernel_rfl) ?_
                      repeat (go_big_quiet_step ((first | (go_at_call 12; exact Calls.ext_of (Distance_any _ _ _)))))
                      refine wpQuiet_nil ?_
                      rintro _ ⟨z, rfl⟩
                      go_wp2
                      go_roundg (i - (j + 1))
                      case measure => rw [HGJ.out]; omega
                      case rel => exact ⟨j + 1, true, rfl, by omega, by go_num, rfl, by simpa using HY.out, (by repeat (first | exact hB | (with_reducible refine Blk.alloc ?_ _) | (with_reducible refine Blk.drewN ?_ _) | (with_reducible refine Blk.drew ?_) | (with_reducible refine Blk.ext ?_ _) | (with_reducible refine Blk.other ?_ (by first | omega | (simp; done) | (simp; omega)) _ _))), (by repeat (first | exact hbel | exact Below.refl _ _ | (with_reducible refine Below.setCell ?_ (by first | omega | (simp; done) | (simp; omega)) _) | (with_reducible refine Below.alloc ?_ (by first | omega | (simp; done) | (simp; omega)) _) | (with_reducible refine Below.onDrewN ?_ _) | (with_reducible refine Below.drew ?_) | (with_reducible refine Below.ofExt ?_ (by first | omega | (simp; done) | (simp; omega)))))⟩
                    | false =>
                      go_wp2_with fail
                      refine wp_region_ext (by kernel_rfl) (by kernel_rfl) ?_
                      repeat (go_big_quiet_step ((first | (go_at_call 12; exact Calls.ext_of (Distance_any _ _ _)))))
                      refine wpQuiet_nil ?_
                      rintro _ ⟨z, rfl⟩
                      go_wp2_with fail
                      refine wp_region_ext (by kernel_rfl) (by kernel_rfl) ?_
                      repeat (go_big_quiet_step ((first | (go_at_call 12; exact Calls.ext_of (Distance_any _ _ _)))))
                      refine wpQuiet_nil ?_
                      rintro _ ⟨z, rfl⟩
                      go_wp2
                      go_roundg (i - (j + 1))
                      case measure => rw [HGJ.out]; omega
                      case rel => exact ⟨j + 1, false, rfl, by omega, by go_num, rfl, by simpa using HY.out, (by repeat (first | exact hB | (with_reducible refine Blk.alloc ?_ _) | (with_reducible refine Blk.drewN ?_ _) | (with_reducible refine Blk.drew ?_) | (with_reducible refine Blk.ext ?_ _) | (with_reducible refine Blk.other ?_ (by first | omega | (simp; done) | (simp; omega)) _ _))), (by repeat (first | exact hbel | exact Below.refl _ _ | (with_reducible refine Below.setCell ?_ (by first | omega | (simp; done) | (simp; omega)) _) | (with_reducible refine Below.alloc ?_ (by first | omega | (simp; done) | (simp; omega)) _) | (with_reducible refine Below.onDrewN ?_ _) | (with_reducible refine Below.drew ?_) | (with_reducible refine Below.ofExt ?_ (by first | omega | (simp; done) | (simp; omega)))))⟩
                · have HY := Lib.hid (hy.trans (met_no (L := L) (X := X) (i := i) (k := j) (m := m) (fun e => hp e.1)).symm)
                  have hpb : (X.getD i 0 == X.getD j 0) = false := by rw [beq_eq_false_iff_ne]; exact hp
                  clear hp hy
                  generalize X.getD i 0 = x at *
                  generalize X.getD j 0 = x2 at *
                  go_wp2_with fail
                  refine wp_region_ext (by kernel_rfl) (by kernel_rfl) ?_
                  repeat (go_big_quiet_step ((first | (go_at_call 12; exact Calls.ext_of (Distance_any _ _ _)))))
                  refine wpQuiet_nil ?_
                  rintro _ ⟨z, rfl⟩
                  go_wp2
                  go_roundg (i - (j + 1))
                  case measure => rw [HGJ.out]; omega
                  case rel => exact ⟨j + 1, y, rfl, by omega, by go_num, rfl, HY.out, (by repeat (first | exact hB | (with_reducible refine Blk.alloc ?_ _) | (with_reducible refine Blk.drewN ?_ _) | (with_reducible refine Blk.drew ?_) | (with_reducible refine Blk.ext ?_ _) | (with_reducible refine Blk.other ?_ (by first | omega | (simp; done) | (simp; omega)) _ _))), (by repeat (first | exact hbel | exact Below.refl _ _ | (with_reducible refine Below.setCell ?_ (by first | omega | (simp; done) | (simp; omega)) _) | (with_reducible refine Below.alloc ?_ (by first | omega | (simp; done) | (simp; omega)) _) | (with_reducible refine Below.onDrewN ?_ _) | (with_reducible refine Below.drew ?_) | (with_reducible refine Below.ofExt ?_ (by first | omega | (simp; done) | (simp; omega)))))⟩
              · obtain rfl : j = i := by omega
                have HY := Lib.hid (hy.trans met_next.symm)
                clear hy
                go_wp2_with fail
                go_roundg (n - (j + 1))
                case measure => rw [HGI.out]; omega
                case rel => exact ⟨j + 1, y, rfl, by omega, by go_num, rfl, HY.out, hB, hbel⟩
          · obtain rfl : i = n := by omega
            have hsz := hbel.size
            obtain rfl : y = true := hy.2 HM.out.at_
            clear hB hy
            go_wp2_with (first | (go_at_call 9; (first | (with_reducible refine (Calls.ext_of (awake_any _)).mono ?_) | refine (awake_any _).mono ?_); rintro e w' ⟨rfl, z9, rfl⟩))
            go_ret
            exact ⟨rfl, (below_ext (by repeat (first | exact hbel | exact Below.refl _ _ | (with_reducible refine Below.setCell ?_ (by first | omega | (simp; done) | (simp; omega)) _) | (with_reducible refine Below.alloc ?_ (by first | omega | (simp; done) | (simp; omega)) _) | (with_reducible refine Below.onDrewN ?_ _) | (with_reducible refine Below.drew ?_) | (with_reducible refine Below.ofExt ?_ (by first | omega | (simp; done) | (simp; omega))))))⟩

set_option maxRecDepth 100000 in
theorem shadeWorst_lifted (os : Os) (started : os.Started) (H : Type) (enc : TypeId × Value → H) :
    ReturnsInHanded {} Try.checked os 8 .any (Rows.shadeWorstSpec.pre6 enc Try.prog Try.f8 Rows.shadeWorstRow.domain false) (Rows.shadeWorstSpec.post enc Try.prog Try.f8 false true false false) := by
  refine returnsInHanded_of_change (C := Try.checked) own started (by kernel_rfl) Try.func8
    (ChangeSpec.witness6 (enc := enc) (C := Try.checked) false ⟨#[], #[.slice none 0 0, .int .i64 0], []⟩ 8 (by kernel_rfl) (by kernel_rfl) (by kernel_rfl) (by kernel_rfl)) ?_
  intro W base args ds gs before hval0 hW hcnd _
  have hval : ∀ (j : Nat) t v, Try.f8.params[j]? = some t → args[j]? = some v → Value.okWide Try.prog W .any base t v := hval0
  have hW' := hW
  obtain ⟨p, q, hA0, hV, rfl, hfz, hnd⟩ := hW
  have hA : DataW.TrodAll enc Try.prog W 0 (fun _ => true) true Try.f8.params.toList args.toList ds p := hA0
  rw [Try.params8] at hA hval
  obtain ⟨v0, v1, d0, d1, p0, p1, rfl, rfl, rfl, h0, h1⟩ := trodAll_two hA
  obtain ⟨a0, c0, L0, rfl, m0, r0⟩ := open_tones (hval 0 24 v0 rfl rfl) h0
  obtain ⟨x1, rfl, rfl, rfl, w1⟩ := open_int Try.underlying3 (hval 1 3 v1 rfl rfl) h1
  refine (worst_walk a0 c0 L0 x1 W r0 m0).mono fun e W' ⟨he, z, hz⟩ => ?_
  subst he hz
  exact ⟨_, rfl, law_post rfl (by kernel_rfl) (by kernel_rfl) Try.underlying4 hW' (fun _ => ⟨rfl, rfl, rfl⟩) (ext_below _ _)⟩

theorem shadeWorst_holds : Rows.ShadeWorstSaid :=
  OpenClaim.holds_of_wide 8 Try.f8 rfl rfl rfl rfl rfl rfl rfl ⟨rfl, rfl, rfl, rfl, rfl⟩ rfl rfl rfl rfl rfl (by kernel_rfl) Try.func8 (by kernel_rfl)
    (of_decide_eq_true (by kernel_rfl)) (by unfold Func.isWrapper; first | (rw [if_pos (by decide +kernel)]; kernel_rfl) | (rw [if_neg (by decide +kernel)]; exact ⟨rfl, rfl⟩))
    (fun os started H enc _ => shadeWorst_lifted os started H enc)
#print axioms shadeWorst_holds
end Go.Proofs.Ytjfckjmdcfiacaa
