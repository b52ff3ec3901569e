/-
  The contracts of the functions on points and repeats.
-/
import Derived.Test.YtlllamcaamlbgaaScal
namespace Go.Proofs.Ytlllamcaamlbgaa
open Go.RowKit

set_option maxHeartbeats 400000 in
theorem Norm_any (x y : Int) (w : World) : Calls Try.prog 10 #[.agg #[.int .i64 (x), .int .i64 (y)]] w fun e w' => e = .returned (.agg #[.int .i64 (per x), .int .i64 (per y)]) ∧ ∃ z, w' = ext w z := by
  go_enter Try.func10, Try.ntmps10
  go_wp2
  refine wp_region_drew_tail 7 (by kernel_rfl) (by kernel_rfl) ?_
  simp only [List.take_succ_cons, List.take_zero, List.drop_succ_cons, List.drop_zero]
  repeat (go_big_quiet_step ((first | (go_at_call 21; exact Calls.quiet_of_same (period_any _ _)))))
  refine wpQuiet_nil ?_
  rintro _ ⟨k, rfl⟩
  go_wp2
  exact bodyPost_ret (v := .agg #[.int .i64 (per x), .int .i64 (per y)]) (by simp [results, Try.results10, go_sem]) rfl ⟨rfl, (below_ext (by repeat (first | exact Below.refl _ _ | (with_reducible refine Below.setCell ?_ (by first | (simp; done) | (simp; omega)) _) | (with_reducible refine Below.alloc ?_ (by first | (simp; done) | (simp; omega)) _) | (with_reducible refine Below.onDrewN ?_ _) | (with_reducible refine Below.drew ?_) | (with_reducible refine Below.ofExt ?_ (by first | (simp; done) | (simp; omega))))))⟩

set_option maxHeartbeats 400000 in
theorem RNorm_any (x y : Int) (w : World) : Calls Try.prog 11 #[.agg #[.int .i64 (x), .int .i64 (y)]] w fun e w' => e = .returned (.agg #[.int .i64 (per x), .int .i64 (per y)]) ∧ ∃ z, w' = ext w z := by
  go_enter Try.func11, Try.ntmps11
  go_wp2
  refine wp_region_drew_tail 7 (by kernel_rfl) (by kernel_rfl) ?_
  simp only [List.take_succ_cons, List.take_zero, List.drop_succ_cons, List.drop_zero]
  repeat (go_big_quiet_step ((first | (go_at_call 22; exact Calls.quiet_of_same (norm_any _ _)))))
  refine wpQuiet_nil ?_
  rintro _ ⟨k, rfl⟩
  go_wp2
  exact bodyPost_ret (v := .agg #[.int .i64 (per x), .int .i64 (per y)]) (by simp [results, Try.results11, go_sem]) rfl ⟨rfl, (below_ext (by repeat (first | exact Below.refl _ _ | (with_reducible refine Below.setCell ?_ (by first | (simp; done) | (simp; omega)) _) | (with_reducible refine Below.alloc ?_ (by first | (simp; done) | (simp; omega)) _) | (with_reducible refine Below.onDrewN ?_ _) | (with_reducible refine Below.drew ?_) | (with_reducible refine Below.ofExt ?_ (by first | (simp; done) | (simp; omega))))))⟩

set_option maxHeartbeats 400000 in
theorem RPhase_any (x y a b : Int) (w : World) : Calls Try.prog 13 #[.agg #[.int .i64 (x), .int .i64 (y)], .agg #[.int .i64 (a), .int .i64 (b)]] w fun e w' => e = .returned (.agg #[.int .i64 (md (lim a) (per x)), .int .i64 (md (lim b) (per y))]) ∧ ∃ z, w' = ext w z := by
  go_enter Try.func13, Try.ntmps13
  go_wp2
  refine wp_region_drew_tail 11 (by kernel_rfl) (by kernel_rfl) ?_
  simp only [List.take_succ_cons, List.take_zero, List.drop_succ_cons, List.drop_zero]
  repeat (go_big_quiet_step ((first | (go_at_call 25; exact Calls.quiet_of_same (phase_any _ _ _)))))
  refine wpQuiet_nil ?_
  rintro _ ⟨k, rfl⟩
  go_wp2
  exact bodyPost_ret (v := .agg #[.int .i64 (md (lim a) (per x)), .int .i64 (md (lim b) (per y))]) (by simp [results, Try.results13, go_sem]) rfl ⟨rfl, (below_ext (by repeat (first | exact Below.refl _ _ | (with_reducible refine Below.setCell ?_ (by first | (simp; done) | (simp; omega)) _) | (with_reducible refine Below.alloc ?_ (by first | (simp; done) | (simp; omega)) _) | (with_reducible refine Below.onDrewN ?_ _) | (with_reducible refine Below.drew ?_) | (with_reducible refine Below.ofExt ?_ (by first | (simp; done) | (simp; omega))))))⟩

set_option maxHeartbeats 400000 in
theorem Phase_any (x y a b : Int) (w : World) : Calls Try.prog 12 #[.agg #[.int .i64 (x), .int .i64 (y)], .agg #[.int .i64 (a), .int .i64 (b)]] w fun e w' => e = .returned (.agg #[.int .i64 (md (lim a) (per x)), .int .i64 (md (lim b) (per y))]) ∧ ∃ z, w' = ext w z := by
  have hx := per_bd x
  have hy := per_bd y
  have ha := lim_bd a
  have hb := lim_bd b
  go_enter Try.func12, Try.ntmps12
  go_wp2_with (go_at_call 10; refine (Norm_any _ _ _).mono ?_; rintro e w' ⟨rfl, z, rfl⟩)
  refine wp_region_drew_tail 13 (by kernel_rfl) (by kernel_rfl) ?_
  simp only [List.take_succ_cons, List.take_zero, List.drop_succ_cons, List.drop_zero]
  repeat (go_big_quiet_step ((first | (go_at_call 24; exact Calls.quiet_of_same (limited_any _ _)) | (go_at_call 23; exact Calls.quiet_of_same (modulo_any _ _ _ (by omega) (by omega) (by omega) (by omega))))))
  refine wpQuiet_nil ?_
  rintro _ ⟨k, rfl⟩
  go_wp2
  exact bodyPost_ret (v := .agg #[.int .i64 (md (lim a) (per x)), .int .i64 (md (lim b) (per y))]) (by simp [results, Try.results12, go_sem]) rfl ⟨rfl, (below_ext (by repeat (first | exact Below.refl _ _ | (with_reducible refine Below.setCell ?_ (by first | (simp; done) | (simp; omega)) _) | (with_reducible refine Below.alloc ?_ (by first | (simp; done) | (simp; omega)) _) | (with_reducible refine Below.onDrewN ?_ _) | (with_reducible refine Below.drew ?_) | (with_reducible refine Below.ofExt ?_ (by first | (simp; done) | (simp; omega))))))⟩

set_option maxHeartbeats 400000 in
theorem Next_any (x y a b c d : Int) (w : World) : Calls Try.prog 17 #[.agg #[.int .i64 (x), .int .i64 (y)], .agg #[.int .i64 (a), .int .i64 (b)], .agg #[.int .i64 (c), .int .i64 (d)]] w fun e w' => e = .returned (.agg #[.int .i64 (nx (per x) (lim a) (lim c)), .int .i64 (nx (per y) (lim b) (lim d))]) ∧ ∃ z, w' = ext w z := by
  have hx := per_bd x
  have hy := per_bd y
  have ha := lim_bd a
  have hb := lim_bd b
  have hc := lim_bd c
  have hd := lim_bd d
  go_enter Try.func17, Try.ntmps17
  go_wp2_with (go_at_call 10; refine (Norm_any _ _ _).mono ?_; rintro e w' ⟨rfl, z, rfl⟩)
  refine wp_region_drew_tail 19 (by kernel_rfl) (by kernel_rfl) ?_
  simp only [List.take_succ_cons, List.take_zero, List.drop_succ_cons, List.drop_zero]
  repeat (go_big_quiet_step ((first | (go_at_call 24; exact Calls.quiet_of_same (limited_any _ _)) | (go_at_call 26; exact Calls.quiet_of_same (next_any _ _ _ _ (by omega) (by omega) (by omega) (by omega) (by omega) (by omega))))))
  refine wpQuiet_nil ?_
  rintro _ ⟨k, rfl⟩
  go_wp2
  exact bodyPost_ret (v := .agg #[.int .i64 (nx (per x) (lim a) (lim c)), .int .i64 (nx (per y) (lim b) (lim d))]) (by simp [results, Try.results17, go_sem]) rfl ⟨rfl, (below_ext (by repeat (first | exact Below.refl _ _ | (with_reducible refine Below.setCell ?_ (by first | (simp; done) | (simp; omega)) _) | (with_reducible refine Below.alloc ?_ (by first | (simp; done) | (simp; omega)) _) | (with_reducible refine Below.onDrewN ?_ _) | (with_reducible refine Below.drew ?_) | (with_reducible refine Below.ofExt ?_ (by first | (simp; done) | (simp; omega))))))⟩

set_option maxHeartbeats 400000 in
theorem RNext_any (x y a b c d : Int) (w : World) : Calls Try.prog 18 #[.agg #[.int .i64 (x), .int .i64 (y)], .agg #[.int .i64 (a), .int .i64 (b)], .agg #[.int .i64 (c), .int .i64 (d)]] w fun e w' => e = .returned (.agg #[.int .i64 (nx (per x) (lim a) (lim c)), .int .i64 (nx (per y) (lim b) (lim d))]) ∧ ∃ z, w' = ext w z := by
  go_enter Try.func18, Try.ntmps18
  go_wp2
  refine wp_region_drew_tail 15 (by kernel_rfl) (by kernel_rfl) ?_
  simp only [List.take_succ_cons, List.take_zero, List.drop_succ_cons, List.drop_zero]
  repeat (go_big_quiet_step ((first | (go_at_call 27; exact Calls.quiet_of_same (rnext_any _ _ _ _)))))
  refine wpQuiet_nil ?_
  rintro _ ⟨k, rfl⟩
  go_wp2
  exact bodyPost_ret (v := .agg #[.int .i64 (nx (per x) (lim a) (lim c)), .int .i64 (nx (per y) (lim b) (lim d))]) (by simp [results, Try.results18, go_sem]) rfl ⟨rfl, (below_ext (by repeat (first | exact Below.refl _ _ | (with_reducible refine Below.setCell ?_ (by first | (simp; done) | (simp; omega)) _) | (with_reducible refine Below.alloc ?_ (by first | (simp; done) | (simp; omega)) _) | (with_reducible refine Below.onDrewN ?_ _) | (with_reducible refine Below.drew ?_) | (with_reducible refine Below.ofExt ?_ (by first | (simp; done) | (simp; omega))))))⟩

end Go.Proofs.Ytlllamcaamlbgaa
