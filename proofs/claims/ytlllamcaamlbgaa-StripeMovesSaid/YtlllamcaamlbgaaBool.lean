/-
  The contracts of the functions that answer a bool.
-/
import Derived.Test.YtlllamcaamlbgaaStru
namespace Go.Proofs.Ytlllamcaamlbgaa
open Go.RowKit

theorem fields_of {P : Program} {t : TypeId} {fs : Array Field} (h : P.underlying t = some (.struct fs)) : P.fieldsOf t = fs := by simp only [Program.fieldsOf, h]
theorem stood23 : Try.prog.stoodInHeld 23 = false := by kernel_rfl
theorem stood24 : Try.prog.stoodInHeld 24 = false := by kernel_rfl
theorem guard23 : Try.prog.eqGuardType Try.prog.depth 23 = false := by kernel_rfl
theorem guard24 : Try.prog.eqGuardType Try.prog.depth 24 = false := by kernel_rfl
/-- Two pairs of numbers are equal. -/
def eq2 (a b c d : Int) : Bool := a == c && b == d
theorem eql24 (a b c d : Int) (w : World) : (binOp .eql 24 (.agg #[.int .i64 a, .int .i64 b]) (.agg #[.int .i64 c, .int .i64 d])).run Try.prog w = .ok (.bool (eq2 a b c d)) w := by
  rw [run_eql_struct, run_equalIn_struct w 9999 24 _ _ (by rw [fields_of Try.underlying24]; exact Try.underlying24) stood24, fields_of Try.underlying24]
  unfold eq2
  by_cases h1 : a = c <;> by_cases h2 : b = d <;> simp [Op.eqFields, go_sem, h1, h2]
theorem eql23 (a b c d : Int) (w : World) : (binOp .eql 23 (.agg #[.int .i64 a, .int .i64 b]) (.agg #[.int .i64 c, .int .i64 d])).run Try.prog w = .ok (.bool (eq2 a b c d)) w := by
  rw [run_eql_struct, run_equalIn_struct w 9999 23 _ _ (by rw [fields_of Try.underlying23]; exact Try.underlying23) stood23, fields_of Try.underlying23]
  unfold eq2
  by_cases h1 : a = c <;> by_cases h2 : b = d <;> simp [Op.eqFields, go_sem, h1, h2]
attribute [go_sem ↓] eql23 eql24
attribute [go_sem] guard23 guard24

set_option maxHeartbeats 400000 in
theorem Same_any (x y a b c d : Int) (w : World) : Calls Try.prog 15 #[.agg #[.int .i64 (x), .int .i64 (y)], .agg #[.int .i64 (a), .int .i64 (b)], .agg #[.int .i64 (c), .int .i64 (d)]] w fun e w' => e = .returned (.bool (eq2 (md (lim a) (per x)) (md (lim b) (per y)) (md (lim c) (per x)) (md (lim d) (per y)))) ∧ ∃ z, w' = ext w z := by
  go_enter Try.func15, Try.ntmps15
  go_wp2
  refine wp_region_ext (by kernel_rfl) (by kernel_rfl) ?_
  repeat (go_big_quiet_step ((first | (go_at_call 12; exact Calls.ext_of (Phase_any _ _ _ _ _)))))
  refine wpQuiet_nil ?_
  rintro _ ⟨k, rfl⟩
  go_wp2
  go_ret
  exact ⟨rfl, (below_ext (by repeat (first | exact Below.refl _ _ | (with_reducible refine Below.setCell ?_ (by first | (simp; done) | (simp; omega)) _) | (with_reducible refine Below.alloc ?_ (by first | (simp; done) | (simp; omega)) _) | (with_reducible refine Below.onDrewN ?_ _) | (with_reducible refine Below.drew ?_) | (with_reducible refine Below.ofExt ?_ (by first | (simp; done) | (simp; omega))))))⟩

set_option maxHeartbeats 400000 in
theorem RSame_any (x y a b c d : Int) (w : World) : Calls Try.prog 16 #[.agg #[.int .i64 (x), .int .i64 (y)], .agg #[.int .i64 (a), .int .i64 (b)], .agg #[.int .i64 (c), .int .i64 (d)]] w fun e w' => e = .returned (.bool (eq2 (md (lim a) (per x)) (md (lim b) (per y)) (md (lim c) (per x)) (md (lim d) (per y)))) ∧ ∃ z, w' = ext w z := by
  go_enter Try.func16, Try.ntmps16
  go_wp2
  refine wp_region_ext (by kernel_rfl) (by kernel_rfl) ?_
  repeat (go_big_quiet_step ((first | (go_at_call 13; exact Calls.ext_of (RPhase_any _ _ _ _ _)))))
  refine wpQuiet_nil ?_
  rintro _ ⟨k, rfl⟩
  go_wp2
  go_ret
  exact ⟨rfl, (below_ext (by repeat (first | exact Below.refl _ _ | (with_reducible refine Below.setCell ?_ (by first | (simp; done) | (simp; omega)) _) | (with_reducible refine Below.alloc ?_ (by first | (simp; done) | (simp; omega)) _) | (with_reducible refine Below.onDrewN ?_ _) | (with_reducible refine Below.drew ?_) | (with_reducible refine Below.ofExt ?_ (by first | (simp; done) | (simp; omega))))))⟩

/-- A coordinate lies beyond the limits. -/
def farB (a b : Int) : Bool := decide (1048576 < a ∨ a < -1048576 ∨ 1048576 < b ∨ b < -1048576)
set_option maxHeartbeats 400000 in
theorem far_any (a b : Int) (w : World) : Calls Try.prog 19 #[.agg #[.int .i64 (a), .int .i64 (b)]] w fun e w' => e = .returned (.bool (farB a b)) ∧ ∃ z, w' = ext w z := by
  by_cases h1 : 1048576 < a
  · have HF := Lib.hid (show farB a b = true by unfold farB; simp; omega)
    go_enter Try.func19, Try.ntmps19
    go_wp2
    go_ret
    exact ⟨by rw [HF.out]; rfl, (below_ext (by repeat (first | exact Below.refl _ _ | (with_reducible refine Below.setCell ?_ (by first | (simp; done) | (simp; omega)) _) | (with_reducible refine Below.alloc ?_ (by first | (simp; done) | (simp; omega)) _) | (with_reducible refine Below.onDrewN ?_ _) | (with_reducible refine Below.drew ?_) | (with_reducible refine Below.ofExt ?_ (by first | (simp; done) | (simp; omega))))))⟩
  · by_cases h2 : a < -1048576
    · have HF := Lib.hid (show farB a b = true by unfold farB; simp; omega)
      go_enter Try.func19, Try.ntmps19
      go_wp2
      go_ret
      exact ⟨by rw [HF.out]; rfl, (below_ext (by repeat (first | exact Below.refl _ _ | (with_reducible refine Below.setCell ?_ (by first | (simp; done) | (simp; omega)) _) | (with_reducible refine Below.alloc ?_ (by first | (simp; done) | (simp; omega)) _) | (with_reducible refine Below.onDrewN ?_ _) | (with_reducible refine Below.drew ?_) | (with_reducible refine Below.ofExt ?_ (by first | (simp; done) | (simp; omega))))))⟩
    · by_cases h3 : 1048576 < b
      · have HF := Lib.hid (show farB a b = true by unfold farB; simp; omega)
        go_enter Try.func19, Try.ntmps19
        go_wp2
        go_ret
        exact ⟨by rw [HF.out]; rfl, (below_ext (by repeat (first | exact Below.refl _ _ | (with_reducible refine Below.setCell ?_ (by first | (simp; done) | (simp; omega)) _) | (with_reducible refine Below.alloc ?_ (by first | (simp; done) | (simp; omega)) _) | (with_reducible refine Below.onDrewN ?_ _) | (with_reducible refine Below.drew ?_) | (with_reducible refine Below.ofExt ?_ (by first | (simp; done) | (simp; omega))))))⟩
      · by_cases h4 : b < -1048576
        · have HF := Lib.hid (show farB a b = true by unfold farB; simp; omega)
          go_enter Try.func19, Try.ntmps19
          go_wp2
          go_ret
          exact ⟨by rw [HF.out]; rfl, (below_ext (by repeat (first | exact Below.refl _ _ | (with_reducible refine Below.setCell ?_ (by first | (simp; done) | (simp; omega)) _) | (with_reducible refine Below.alloc ?_ (by first | (simp; done) | (simp; omega)) _) | (with_reducible refine Below.onDrewN ?_ _) | (with_reducible refine Below.drew ?_) | (with_reducible refine Below.ofExt ?_ (by first | (simp; done) | (simp; omega))))))⟩
        · have HF := Lib.hid (show farB a b = false by unfold farB; simp; omega)
          go_enter Try.func19, Try.ntmps19
          go_wp2
          go_ret
          exact ⟨by rw [HF.out]; rfl, (below_ext (by repeat (first | exact Below.refl _ _ | (with_reducible refine Below.setCell ?_ (by first | (simp; done) | (simp; omega)) _) | (with_reducible refine Below.alloc ?_ (by first | (simp; done) | (simp; omega)) _) | (with_reducible refine Below.onDrewN ?_ _) | (with_reducible refine Below.drew ?_) | (with_reducible refine Below.ofExt ?_ (by first | (simp; done) | (simp; omega))))))⟩

set_option maxHeartbeats 1000000 in
theorem alive_any (w : World) : Calls Try.prog 14 #[] w fun e w' => e = .returned (.bool true) ∧ ∃ z, w' = ext w z := by
  have e1 : eq2 (per 10) (per (-1)) 10 0 = true := by decide
  have e2 : eq2 (md (lim (-3)) (per 10)) (md (lim 5) (per (-1))) 7 0 = true := by decide
  have e3 : eq2 (nx (per 10) (lim 12) (lim 27)) (nx (per (-1)) (lim 5) (lim 9)) 17 5 = true := by decide
  have e4 : eq2 (md (lim 7) (per 10)) (md (lim 0) (per (-1))) (md (lim (-3)) (per 10)) (md (lim 4) (per (-1))) = true := by decide
  have e5 : eq2 (md (lim 7) (per 10)) (md (lim 0) (per (-1))) (md (lim 8) (per 10)) (md (lim 0) (per (-1))) = false := by decide
  go_enter Try.func14, Try.ntmps14
  go_wp2_with (first | (go_at_call 10; refine (Norm_any _ _ _).mono ?_; rintro e w' ⟨rfl, z, rfl⟩; try rw [ext_ext]) | (go_at_call 12; refine (Phase_any _ _ _ _ _).mono ?_; rintro e w' ⟨rfl, z, rfl⟩; try rw [ext_ext]) | (go_at_call 17; refine (Next_any _ _ _ _ _ _ _).mono ?_; rintro e w' ⟨rfl, z, rfl⟩; try rw [ext_ext]) | (go_at_call 15; refine (Same_any _ _ _ _ _ _ _).mono ?_; rintro e w' ⟨rfl, z, rfl⟩; try rw [ext_ext]))
  go_ret
  exact ⟨rfl, (below_ext (by repeat (first | exact Below.refl _ _ | (with_reducible refine Below.setCell ?_ (by first | (simp; done) | (simp; omega)) _) | (with_reducible refine Below.alloc ?_ (by first | (simp; done) | (simp; omega)) _) | (with_reducible refine Below.onDrewN ?_ _) | (with_reducible refine Below.drew ?_) | (with_reducible refine Below.ofExt ?_ (by first | (simp; done) | (simp; omega))))))⟩
end Go.Proofs.Ytlllamcaamlbgaa
