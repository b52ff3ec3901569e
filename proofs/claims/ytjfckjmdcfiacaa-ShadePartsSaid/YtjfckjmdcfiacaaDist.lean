/-
  The contracts of the distances.
-/
import Derived.Test.YtjfckjmdcfiacaaRow
import Derived.Test.YtjfckjmdcfiacaaPlain
namespace Go.Proofs.Ytjfckjmdcfiacaa
open Go.RowKit

theorem ret_int {k : IntKind} {a b : Int} (h : a = b) : Ending.returned (.int k a) = .returned (.int k b) := by rw [h]
theorem ret_bool {a b : Bool} (h : a = b) : Ending.returned (.bool a) = .returned (.bool b) := by rw [h]
section
variable {P : Program} (w : World)
theorem max2_eq (x y : Int) : (if y > x then y else x) = max x y := by split <;> omega
theorem min2_eq (x y : Int) : (if y < x then y else x) = min x y := by split <;> omega
theorem run_mx2 (ts : Array TypeId) (t : TypeId) (k k' : IntKind) (x y : Int) : (Builtin.max_ ts t #[.int k x, .int k' y]).run P w = .ok (.int k (max x y)) w := by
  rw [run_max_int2, max2_eq]
theorem run_mn2 (ts : Array TypeId) (t : TypeId) (k k' : IntKind) (x y : Int) : (Builtin.min_ ts t #[.int k x, .int k' y]).run P w = .ok (.int k (min x y)) w := by
  rw [run_min_int2, min2_eq]
theorem run_mx3 (ts : Array TypeId) (t : TypeId) (k k' k'' : IntKind) (x y z : Int) : (Builtin.max_ ts t #[.int k x, .int k' y, .int k'' z]).run P w = .ok (.int k (max (max x y) z)) w := by
  rw [run_max_int3, max2_eq, max2_eq]
theorem run_mx6 (ts : Array TypeId) (t : TypeId) (k : IntKind) (a b c d e f : Int) : (Builtin.max_ ts t #[.int k a, .int k b, .int k c, .int k d, .int k e, .int k f]).run P w = .ok (.int k (max (max (max (max (max a b) c) d) e) f)) w := by
  simp only [← max2_eq]
  simp [Builtin.max_, Builtin.max2]
end
attribute [go_sem ↓] run_mx2 run_mn2 run_mx3 run_mx6

set_option maxHeartbeats 400000 in
theorem lim1_any (n : Int) (w : World) : Calls Try.prog 21 #[.int .i64 (n)] w fun e w' => e = .returned (.int .i64 (lm n)) ∧ w' = w := by
  go_enter Try.func21, Try.ntmps21
  go_wp2_with (fail)
  go_ret
  exact ⟨ret_int (by rfl), rfl⟩
set_option maxHeartbeats 400000 in
theorem rlim_any (n : Int) (w : World) : Calls Try.prog 22 #[.int .i64 (n)] w fun e w' => e = .returned (.int .i64 (lm n)) ∧ w' = w := by
  go_enter Try.func22, Try.ntmps22
  go_wp2_with (fail)
  go_ret
  exact ⟨ret_int (by unfold lm; omega), rfl⟩
set_option maxHeartbeats 400000 in
theorem apart_any (x y : Int) (w : World) : Calls Try.prog 20 #[.int .i64 (x), .int .i64 (y)] w fun e w' => e = .returned (.int .i64 (ap x y)) ∧ w' = w := by
  have hx := lm_bd x
  have hy := lm_bd y
  go_enter Try.func20, Try.ntmps20
  go_wp2_with (go_at_call 22; refine (rlim_any _ _).mono ?_; rintro e w' ⟨rfl, rfl⟩)
  go_ret
  exact ⟨ret_int (by rfl), rfl⟩
set_option maxHeartbeats 400000 in
theorem limited_any (t : Tone) (w : World) : Calls Try.prog 19 #[.agg #[.int .i64 (t.l), .int .i64 (t.a), .int .i64 (t.b)]] w fun e w' => e = .returned (.agg #[.int .i64 (lm t.l), .int .i64 (lm t.a), .int .i64 (lm t.b)]) ∧ ∃ z, w' = ext w z := by
  go_enter Try.func19, Try.ntmps19
  go_wp2_with fail
  refine wp_region_drew_tail 13 (by kernel_rfl) (by kernel_rfl) ?_
  simp only [List.take_succ_cons, List.take_zero, List.drop_succ_cons, List.drop_zero]
  repeat (go_big_quiet_step ((first | (go_at_call 21; exact Calls.quiet_of_same (lim1_any _ _)))))
  refine wpQuiet_nil ?_
  rintro _ ⟨k, rfl⟩
  go_wp2
  exact bodyPost_ret (v := .agg #[.int .i64 (lm t.l), .int .i64 (lm t.a), .int .i64 (lm t.b)]) (by simp [results, Try.results19, go_sem]) rfl ⟨rfl, (below_ext (by repeat (first | exact Below.refl _ _ | (with_reducible refine Below.setCell ?_ (by first | (simp; done) | (simp; omega)) _) | (with_reducible refine Below.alloc ?_ (by first | (simp; done) | (simp; omega)) _) | (with_reducible refine Below.onDrewN ?_ _) | (with_reducible refine Below.drew ?_) | (with_reducible refine Below.ofExt ?_ (by first | (simp; done) | (simp; omega))))))⟩

theorem dist_six (t u : Tone) : max (lm t.l - lm u.l) (max (lm u.l - lm t.l) (max (lm t.a - lm u.a) (max (lm u.a - lm t.a) (max (lm t.b - lm u.b) (lm u.b - lm t.b))))) = dist t u := by
  unfold dist ap; omega
set_option maxHeartbeats 1000000 in
theorem Distance_any (t u : Tone) (w : World) : Calls Try.prog 12 #[.agg #[.int .i64 (t.l), .int .i64 (t.a), .int .i64 (t.b)], .agg #[.int .i64 (u.l), .int .i64 (u.a), .int .i64 (u.b)]] w fun e w' => e = .returned (.int .i64 (dist t u)) ∧ ∃ z, w' = ext w z := by
  have h1 := lm_bd t.l
  have h2 := lm_bd t.a
  have h3 := lm_bd t.b
  have h4 := lm_bd u.l
  have h5 := lm_bd u.a
  have h6 := lm_bd u.b
  have HD := Lib.hid (dist_six t u)
  go_enter Try.func12, Try.ntmps12
  go_wp2_with fail
  refine wp_region_ext_tail 4 (by kernel_rfl) (by kernel_rfl) ?_
  simp only [List.take_succ_cons, List.take_zero, List.drop_succ_cons, List.drop_zero]
  repeat (go_big_quiet_step ((first | (go_at_call 19; exact Calls.ext_of (limited_any _ _)))))
  refine wpQuiet_nil ?_
  rintro _ ⟨k, rfl⟩
  go_wp2
  go_ret
  exact ⟨ret_int HD.out, (below_ext (by repeat (first | exact Below.refl _ _ | (with_reducible refine Below.setCell ?_ (by first | (simp; done) | (simp; omega)) _) | (with_reducible refine Below.alloc ?_ (by first | (simp; done) | (simp; omega)) _) | (with_reducible refine Below.onDrewN ?_ _) | (with_reducible refine Below.drew ?_) | (with_reducible refine Below.ofExt ?_ (by first | (simp; done) | (simp; omega))))))⟩
set_option maxHeartbeats 1000000 in
theorem RDistance_any (t u : Tone) (w : World) : Calls Try.prog 13 #[.agg #[.int .i64 (t.l), .int .i64 (t.a), .int .i64 (t.b)], .agg #[.int .i64 (u.l), .int .i64 (u.a), .int .i64 (u.b)]] w fun e w' => e = .returned (.int .i64 (dist t u)) ∧ ∃ z, w' = ext w z := by
  go_enter Try.func13, Try.ntmps13
  go_wp2_with fail
  refine wp_region_ext (by kernel_rfl) (by kernel_rfl) ?_
  repeat (go_big_quiet_step ((first | (go_at_call 20; exact Calls.ext_same (apart_any _ _ _)))))
  refine wpQuiet_nil ?_
  rintro _ ⟨k, rfl⟩
  go_wp2
  go_ret
  exact ⟨ret_int (by unfold dist; omega), (below_ext (by repeat (first | exact Below.refl _ _ | (with_reducible refine Below.setCell ?_ (by first | (simp; done) | (simp; omega)) _) | (with_reducible refine Below.alloc ?_ (by first | (simp; done) | (simp; omega)) _) | (with_reducible refine Below.onDrewN ?_ _) | (with_reducible refine Below.drew ?_) | (with_reducible refine Below.ofExt ?_ (by first | (simp; done) | (simp; omega))))))⟩
end Go.Proofs.Ytjfckjmdcfiacaa
