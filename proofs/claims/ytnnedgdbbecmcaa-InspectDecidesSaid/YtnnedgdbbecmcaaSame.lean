/-
  The comparison of two lists of bools.
-/
import Derived.Test.YtnnedgdbbecmcaaRow
import Derived.Test.YtnnedgdbbecmcaaPl
namespace Go.Proofs.Ytnnedgdbbecmcaa
open Go.RowKit

/-- The first k bools agree. -/
def Agree (D E : List Bool) (k : Nat) : Prop := ∀ i, i < k → D[i]? = E[i]?
theorem agree_succ {D E : List Bool} {k : Nat} (h : Agree D E k) (e : D[k]? = E[k]?) : Agree D E (k + 1) := fun i hi => by
  by_cases c : i = k
  · rw [c]; exact e
  · exact h i (by omega)
theorem agree_all {D E : List Bool} (hl : D.length = E.length) (h : Agree D E D.length) : D = E := by
  apply List.ext_getElem?
  intro i
  by_cases c : i < D.length
  · exact h i c
  · rw [List.getElem?_eq_none (by omega), List.getElem?_eq_none (by omega)]

set_option maxHeartbeats 2000000 in
theorem Same_any (a a' : Option Addr) (c c' : Nat) (D E : List Bool) (w : World) (h : RowAt w a (D.map .bool)) (h' : RowAt w a' (E.map .bool)) (hm : D.length ≤ 1000000) :
    Calls Try.prog 20 #[.slice a D.length c, .slice a' E.length c'] w fun e w' => e = .returned (.bool (decide (D = E))) ∧ ∃ z, w' = ext w z := by
  by_cases hl : D.length = E.length
  · have HL := Lib.hid hl
    have h1 := Lib.hid h
    have h2 := Lib.hid h'
    clear h h'
    rw [← hl]
    clear hl
    generalize hn : D.length = n at *
    have HN := Lib.hid hn
    clear hn
    go_enter Try.func20, Try.ntmps20
    go_wp2
    go_loopw [5] (fun i wr => ∃ k d : Nat, k ≤ n ∧ i = .int .i64 k ∧ Agree D E k ∧ wr = w.drewN d) (fun i _ => n - (intOf i).toNat)
    case atStart => exact ⟨0, 0, by omega, rfl, fun i hi => by omega, rfl⟩
    case round =>
      obtain ⟨k, d, hk, rfl, hag, rfl⟩ := hrel
      have HA := Lib.hid hag
      clear hag
      by_cases hlt : k < n
      · have kD : k < D.length := by rw [HN.out]; exact hlt
        have kE : k < E.length := by rw [← HL.out]; exact hlt
        obtain ⟨b, o, rfl, _, hc⟩ := h1.out.at (k := k) (by simpa using kD)
        obtain ⟨b', o', rfl, _, hc'⟩ := h2.out.at (k := k) (by simpa using kE)
        rw [List.getElem_map] at hc hc'
        by_cases hx : D[k] = E[k]
        · have HE := Lib.hid (show D[k]? = E[k]? by rw [List.getElem?_eq_getElem kD, List.getElem?_eq_getElem kE, hx])
          rw [hx] at hc
          clear hx
          generalize E[k] = x at hc hc'
          clear kD kE
          have i1 : (0 : Int) ≤ (k : Int) := by omega
          have i2 : (k : Int) < (n : Int) := by omega
          go_wp2_with fail
          go_quiet (fail)
          go_wp2
          go_roundw
          case rel => exact ⟨k + 1, _, by omega, by go_num, agree_succ HA.out HE.out, rfl⟩
          case measure => simp [intOf]; omega
        · have hx' : (D[k] == E[k]) = false := by simpa using hx
          have HF := Lib.hid (show decide (D = E) = false by
            simp only [decide_eq_false_iff_not]
            intro e
            subst e
            exact hx rfl)
          clear hx
          generalize D[k] = x at hc hx'
          generalize E[k] = y at hc' hx'
          clear kD kE
          have i1 : (0 : Int) ≤ (k : Int) := by omega
          have i2 : (k : Int) < (n : Int) := by omega
          go_wp2_with fail
          go_quiet (fail)
          go_wp2
          go_ret
          exact ⟨ret_bool HF.out.symm, (below_ext (by repeat (first | exact Below.refl _ _ | (with_reducible refine Below.setCell ?_ (by first | (simp; done) | (simp; omega)) _) | (with_reducible refine Below.alloc ?_ (by first | (simp; done) | (simp; omega)) _) | (with_reducible refine Below.onDrewN ?_ _) | (with_reducible refine Below.drew ?_) | (with_reducible refine Below.ofExt ?_ (by first | (simp; done) | (simp; omega))))))⟩
      · have HF := Lib.hid (show decide (D = E) = true by
          simp only [decide_eq_true_eq]
          exact agree_all (HN.out.trans HL.out) (by rw [HN.out, show n = k by omega]; exact HA.out))
        go_wp2
        go_ret
        exact ⟨ret_bool HF.out.symm, (below_ext (by repeat (first | exact Below.refl _ _ | (with_reducible refine Below.setCell ?_ (by first | (simp; done) | (simp; omega)) _) | (with_reducible refine Below.alloc ?_ (by first | (simp; done) | (simp; omega)) _) | (with_reducible refine Below.onDrewN ?_ _) | (with_reducible refine Below.drew ?_) | (with_reducible refine Below.ofExt ?_ (by first | (simp; done) | (simp; omega))))))⟩
  · have HF := Lib.hid (show decide (D = E) = false by
      simp only [decide_eq_false_iff_not]
      intro e
      subst e
      exact hl rfl)
    have hb : ((D.length : Int) != (E.length : Int)) = true := by rw [bne_iff_ne]; omega
    have hb' : (D.length != E.length) = true := by rw [bne_iff_ne]; omega
    clear h h'
    go_enter Try.func20, Try.ntmps20
    go_wp2
    go_ret
    exact ⟨ret_bool HF.out.symm, (below_ext (by repeat (first | exact Below.refl _ _ | (with_reducible refine Below.setCell ?_ (by first | (simp; done) | (simp; omega)) _) | (with_reducible refine Below.alloc ?_ (by first | (simp; done) | (simp; omega)) _) | (with_reducible refine Below.onDrewN ?_ _) | (with_reducible refine Below.drew ?_) | (with_reducible refine Below.ofExt ?_ (by first | (simp; done) | (simp; omega))))))⟩
end Go.Proofs.Ytnnedgdbbecmcaa
