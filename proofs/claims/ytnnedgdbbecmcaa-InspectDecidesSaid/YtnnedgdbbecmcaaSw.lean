/-
  The contracts of the switching functions.
-/
import Derived.Test.YtnnedgdbbecmcaaReg
namespace Go.Proofs.Ytnnedgdbbecmcaa
open Go.RowKit

theorem Start_any (w : World) : Calls Try.prog 13 #[] w fun e w' => e = .returned (.agg #[.int .i64 (2), .int .i64 (0), .int .i64 (0)]) ∧ ∃ z, w' = ext w z := by
  go_enter Try.func13, Try.ntmps13
  go_wp2
  exact bodyPost_ret (v := .agg #[.int .i64 (2), .int .i64 (0), .int .i64 (0)]) (by simp [results, Try.results13, go_sem]) rfl ⟨rfl, (below_ext (by repeat (first | exact Below.refl _ _ | (with_reducible refine Below.setCell ?_ (by first | (simp; done) | (simp; omega)) _) | (with_reducible refine Below.alloc ?_ (by first | (simp; done) | (simp; omega)) _) | (with_reducible refine Below.onDrewN ?_ _) | (with_reducible refine Below.drew ?_) | (with_reducible refine Below.ofExt ?_ (by first | (simp; done) | (simp; omega))))))⟩
theorem RStart_any (w : World) : Calls Try.prog 18 #[] w fun e w' => e = .returned (.agg #[.int .i64 (2), .int .i64 (0), .int .i64 (0)]) ∧ ∃ z, w' = ext w z := by
  go_enter Try.func18, Try.ntmps18
  go_wp2
  exact bodyPost_ret (v := .agg #[.int .i64 (2), .int .i64 (0), .int .i64 (0)]) (by simp [results, Try.results18, go_sem]) rfl ⟨rfl, (below_ext (by repeat (first | exact Below.refl _ _ | (with_reducible refine Below.setCell ?_ (by first | (simp; done) | (simp; omega)) _) | (with_reducible refine Below.alloc ?_ (by first | (simp; done) | (simp; omega)) _) | (with_reducible refine Below.onDrewN ?_ _) | (with_reducible refine Below.drew ?_) | (with_reducible refine Below.ofExt ?_ (by first | (simp; done) | (simp; omega))))))⟩
set_option maxHeartbeats 4000000 in
theorem accept_any (l a r : Int) (w : World) (hl : l = 2 ∨ l = 3) (h0 : 0 ≤ a) (h9 : a < 10) : Calls Try.prog 23 #[.agg #[.int .i64 (l), .int .i64 (a), .int .i64 (r)]] w fun e w' => e = .returned (.agg #[.int .i64 ((accR l a r).l), .int .i64 ((accR l a r).a), .int .i64 ((accR l a r).r)]) ∧ ∃ z, w' = ext w z := by
  by_cases l3 : l = 3
  · subst l3
    by_cases a4 : a = 4
    · subst a4
      go_enter Try.func23, Try.ntmps23
      go_wp2_with (first | (go_at_call 13; (first | (with_reducible refine (Calls.ext_of (Start_any _)).mono ?_) | refine (Start_any _).mono ?_); rintro e w' ⟨rfl, z, rfl⟩))
      exact bodyPost_ret (v := .agg #[.int .i64 (2), .int .i64 (0), .int .i64 (0)]) (by simp [results, Try.results23, go_sem]) rfl ⟨by unfold accR; (repeat' split) <;> first | rfl | (exfalso; omega), (below_ext (by repeat (first | exact Below.refl _ _ | (with_reducible refine Below.setCell ?_ (by first | (simp; done) | (simp; omega)) _) | (with_reducible refine Below.alloc ?_ (by first | (simp; done) | (simp; omega)) _) | (with_reducible refine Below.onDrewN ?_ _) | (with_reducible refine Below.drew ?_) | (with_reducible refine Below.ofExt ?_ (by first | (simp; done) | (simp; omega))))))⟩
    · have a4b : (a == 4) = false := by simpa using a4
      go_enter Try.func23, Try.ntmps23
      go_wp2_with (first | (go_at_call 13; (first | (with_reducible refine (Calls.ext_of (Start_any _)).mono ?_) | refine (Start_any _).mono ?_); rintro e w' ⟨rfl, z, rfl⟩))
      exact bodyPost_ret (v := .agg #[.int .i64 (3), .int .i64 (a + 1), .int .i64 (r)]) (by simp [results, Try.results23, go_sem]) rfl ⟨by unfold accR; (repeat' split) <;> first | rfl | (exfalso; omega), (below_ext (by repeat (first | exact Below.refl _ _ | (with_reducible refine Below.setCell ?_ (by first | (simp; done) | (simp; omega)) _) | (with_reducible refine Below.alloc ?_ (by first | (simp; done) | (simp; omega)) _) | (with_reducible refine Below.onDrewN ?_ _) | (with_reducible refine Below.drew ?_) | (with_reducible refine Below.ofExt ?_ (by first | (simp; done) | (simp; omega))))))⟩
  · have l3b : (l == 3) = false := by simpa using l3
    by_cases l2 : l = 2
    · subst l2
      by_cases a4 : a = 4
      · subst a4
        go_enter Try.func23, Try.ntmps23
        go_wp2_with (first | (go_at_call 13; (first | (with_reducible refine (Calls.ext_of (Start_any _)).mono ?_) | refine (Start_any _).mono ?_); rintro e w' ⟨rfl, z, rfl⟩))
        exact bodyPost_ret (v := .agg #[.int .i64 (2), .int .i64 (5), .int .i64 (0)]) (by simp [results, Try.results23, go_sem]) rfl ⟨by unfold accR; (repeat' split) <;> first | rfl | (exfalso; omega), (below_ext (by repeat (first | exact Below.refl _ _ | (with_reducible refine Below.setCell ?_ (by first | (simp; done) | (simp; omega)) _) | (with_reducible refine Below.alloc ?_ (by first | (simp; done) | (simp; omega)) _) | (with_reducible refine Below.onDrewN ?_ _) | (with_reducible refine Below.drew ?_) | (with_reducible refine Below.ofExt ?_ (by first | (simp; done) | (simp; omega))))))⟩
      · have a4b : (a == 4) = false := by simpa using a4
        by_cases a9 : a = 9
        · subst a9
          go_enter Try.func23, Try.ntmps23
          go_wp2_with (first | (go_at_call 13; (first | (with_reducible refine (Calls.ext_of (Start_any _)).mono ?_) | refine (Start_any _).mono ?_); rintro e w' ⟨rfl, z, rfl⟩))
          exact bodyPost_ret (v := .agg #[.int .i64 (1), .int .i64 (0), .int .i64 (0)]) (by simp [results, Try.results23, go_sem]) rfl ⟨by unfold accR; (repeat' split) <;> first | rfl | (exfalso; omega), (below_ext (by repeat (first | exact Below.refl _ _ | (with_reducible refine Below.setCell ?_ (by first | (simp; done) | (simp; omega)) _) | (with_reducible refine Below.alloc ?_ (by first | (simp; done) | (simp; omega)) _) | (with_reducible refine Below.onDrewN ?_ _) | (with_reducible refine Below.drew ?_) | (with_reducible refine Below.ofExt ?_ (by first | (simp; done) | (simp; omega))))))⟩
        · have a9b : (a == 9) = false := by simpa using a9
          go_enter Try.func23, Try.ntmps23
          go_wp2_with (first | (go_at_call 13; (first | (with_reducible refine (Calls.ext_of (Start_any _)).mono ?_) | refine (Start_any _).mono ?_); rintro e w' ⟨rfl, z, rfl⟩))
          exact bodyPost_ret (v := .agg #[.int .i64 (2), .int .i64 (a + 1), .int .i64 (r)]) (by simp [results, Try.results23, go_sem]) rfl ⟨by unfold accR; (repeat' split) <;> first | rfl | (exfalso; omega), (below_ext (by repeat (first | exact Below.refl _ _ | (with_reducible refine Below.setCell ?_ (by first | (simp; done) | (simp; omega)) _) | (with_reducible refine Below.alloc ?_ (by first | (simp; done) | (simp; omega)) _) | (with_reducible refine Below.onDrewN ?_ _) | (with_reducible refine Below.drew ?_) | (with_reducible refine Below.ofExt ?_ (by first | (simp; done) | (simp; omega))))))⟩
    · exact absurd hl (by omega)

set_option maxHeartbeats 4000000 in
theorem reject_any (l a r : Int) (w : World) (hl : l = 2 ∨ l = 3) (h0 : 0 ≤ r) (h9 : r < 10) : Calls Try.prog 24 #[.agg #[.int .i64 (l), .int .i64 (a), .int .i64 (r)]] w fun e w' => e = .returned (.agg #[.int .i64 ((rejR l r).l), .int .i64 ((rejR l r).a), .int .i64 ((rejR l r).r)]) ∧ ∃ z, w' = ext w z := by
  by_cases l2 : l = 2
  · subst l2
    by_cases r1 : r = 1
    · subst r1
      go_enter Try.func24, Try.ntmps24
      go_wp2_with (first | (go_at_call 13; (first | (with_reducible refine (Calls.ext_of (Start_any _)).mono ?_) | refine (Start_any _).mono ?_); rintro e w' ⟨rfl, z, rfl⟩))
      exact bodyPost_ret (v := .agg #[.int .i64 (3), .int .i64 (0), .int .i64 (0)]) (by simp [results, Try.results24, go_sem]) rfl ⟨by unfold rejR; (repeat' split) <;> first | rfl | (exfalso; omega), (below_ext (by repeat (first | exact Below.refl _ _ | (with_reducible refine Below.setCell ?_ (by first | (simp; done) | (simp; omega)) _) | (with_reducible refine Below.alloc ?_ (by first | (simp; done) | (simp; omega)) _) | (with_reducible refine Below.onDrewN ?_ _) | (with_reducible refine Below.drew ?_) | (with_reducible refine Below.ofExt ?_ (by first | (simp; done) | (simp; omega))))))⟩
    · have r1b : (r == 1) = false := by simpa using r1
      go_enter Try.func24, Try.ntmps24
      go_wp2_with (first | (go_at_call 13; (first | (with_reducible refine (Calls.ext_of (Start_any _)).mono ?_) | refine (Start_any _).mono ?_); rintro e w' ⟨rfl, z, rfl⟩))
      exact bodyPost_ret (v := .agg #[.int .i64 (2), .int .i64 (0), .int .i64 (r + 1)]) (by simp [results, Try.results24, go_sem]) rfl ⟨by unfold rejR; (repeat' split) <;> first | rfl | (exfalso; omega), (below_ext (by repeat (first | exact Below.refl _ _ | (with_reducible refine Below.setCell ?_ (by first | (simp; done) | (simp; omega)) _) | (with_reducible refine Below.alloc ?_ (by first | (simp; done) | (simp; omega)) _) | (with_reducible refine Below.onDrewN ?_ _) | (with_reducible refine Below.drew ?_) | (with_reducible refine Below.ofExt ?_ (by first | (simp; done) | (simp; omega))))))⟩
  · have l2b : (l == 2) = false := by simpa using l2
    by_cases l3 : l = 3
    · subst l3
      by_cases r4 : r = 4
      · subst r4
        go_enter Try.func24, Try.ntmps24
        go_wp2_with (first | (go_at_call 13; (first | (with_reducible refine (Calls.ext_of (Start_any _)).mono ?_) | refine (Start_any _).mono ?_); rintro e w' ⟨rfl, z, rfl⟩))
        exact bodyPost_ret (v := .agg #[.int .i64 (4), .int .i64 (0), .int .i64 (0)]) (by simp [results, Try.results24, go_sem]) rfl ⟨by unfold rejR; (repeat' split) <;> first | rfl | (exfalso; omega), (below_ext (by repeat (first | exact Below.refl _ _ | (with_reducible refine Below.setCell ?_ (by first | (simp; done) | (simp; omega)) _) | (with_reducible refine Below.alloc ?_ (by first | (simp; done) | (simp; omega)) _) | (with_reducible refine Below.onDrewN ?_ _) | (with_reducible refine Below.drew ?_) | (with_reducible refine Below.ofExt ?_ (by first | (simp; done) | (simp; omega))))))⟩
      · have r4b : (r == 4) = false := by simpa using r4
        go_enter Try.func24, Try.ntmps24
        go_wp2_with (first | (go_at_call 13; (first | (with_reducible refine (Calls.ext_of (Start_any _)).mono ?_) | refine (Start_any _).mono ?_); rintro e w' ⟨rfl, z, rfl⟩))
        exact bodyPost_ret (v := .agg #[.int .i64 (3), .int .i64 (0), .int .i64 (r + 1)]) (by simp [results, Try.results24, go_sem]) rfl ⟨by unfold rejR; (repeat' split) <;> first | rfl | (exfalso; omega), (below_ext (by repeat (first | exact Below.refl _ _ | (with_reducible refine Below.setCell ?_ (by first | (simp; done) | (simp; omega)) _) | (with_reducible refine Below.alloc ?_ (by first | (simp; done) | (simp; omega)) _) | (with_reducible refine Below.onDrewN ?_ _) | (with_reducible refine Below.drew ?_) | (with_reducible refine Below.ofExt ?_ (by first | (simp; done) | (simp; omega))))))⟩
    · exact absurd hl (by omega)

set_option maxHeartbeats 4000000 in
theorem normal_any (l a r : Int) (b : Bool) (w : World) (h0 : 0 ≤ a) (h1 : a < 10) (h2 : 0 ≤ r) (h3 : r < 10) : Calls Try.prog 26 #[.agg #[.int .i64 (l), .int .i64 (a), .int .i64 (r)], .bool b] w fun e w' => e = .returned (.agg #[.int .i64 ((if b then accR 2 a r else rejR 2 r).l), .int .i64 ((if b then accR 2 a r else rejR 2 r).a), .int .i64 ((if b then accR 2 a r else rejR 2 r).r)]) ∧ ∃ z, w' = ext w z := by
  cases b
  · by_cases r1 : r = 1
    · subst r1
      go_enter Try.func26, Try.ntmps26
      go_wp2
      exact bodyPost_ret (v := .agg #[.int .i64 (3), .int .i64 (0), .int .i64 (0)]) (by simp [results, Try.results26, go_sem]) rfl ⟨by (try simp only [if_true, if_false, Bool.false_eq_true]); unfold rejR; (repeat' split) <;> first | rfl | (exfalso; omega), (below_ext (by repeat (first | exact Below.refl _ _ | (with_reducible refine Below.setCell ?_ (by first | (simp; done) | (simp; omega)) _) | (with_reducible refine Below.alloc ?_ (by first | (simp; done) | (simp; omega)) _) | (with_reducible refine Below.onDrewN ?_ _) | (with_reducible refine Below.drew ?_) | (with_reducible refine Below.ofExt ?_ (by first | (simp; done) | (simp; omega))))))⟩
    · have r1b : (r == 1) = false := by simpa using r1
      go_enter Try.func26, Try.ntmps26
      go_wp2
      exact bodyPost_ret (v := .agg #[.int .i64 (2), .int .i64 (0), .int .i64 (r + 1)]) (by simp [results, Try.results26, go_sem]) rfl ⟨by (try simp only [if_true, if_false, Bool.false_eq_true]); unfold rejR; (repeat' split) <;> first | rfl | (exfalso; omega), (below_ext (by repeat (first | exact Below.refl _ _ | (with_reducible refine Below.setCell ?_ (by first | (simp; done) | (simp; omega)) _) | (with_reducible refine Below.alloc ?_ (by first | (simp; done) | (simp; omega)) _) | (with_reducible refine Below.onDrewN ?_ _) | (with_reducible refine Below.drew ?_) | (with_reducible refine Below.ofExt ?_ (by first | (simp; done) | (simp; omega))))))⟩
  · by_cases a9 : a = 9
    · subst a9
      go_enter Try.func26, Try.ntmps26
      go_wp2
      exact bodyPost_ret (v := .agg #[.int .i64 (1), .int .i64 (0), .int .i64 (0)]) (by simp [results, Try.results26, go_sem]) rfl ⟨by (try simp only [if_true, if_false, Bool.false_eq_true]); unfold accR; (repeat' split) <;> first | rfl | (exfalso; omega), (below_ext (by repeat (first | exact Below.refl _ _ | (with_reducible refine Below.setCell ?_ (by first | (simp; done) | (simp; omega)) _) | (with_reducible refine Below.alloc ?_ (by first | (simp; done) | (simp; omega)) _) | (with_reducible refine Below.onDrewN ?_ _) | (with_reducible refine Below.drew ?_) | (with_reducible refine Below.ofExt ?_ (by first | (simp; done) | (simp; omega))))))⟩
    · have a9b : (a == 9) = false := by simpa using a9
      by_cases a4 : a = 4
      · subst a4
        go_enter Try.func26, Try.ntmps26
        go_wp2
        exact bodyPost_ret (v := .agg #[.int .i64 (2), .int .i64 (5), .int .i64 (0)]) (by simp [results, Try.results26, go_sem]) rfl ⟨by (try simp only [if_true, if_false, Bool.false_eq_true]); unfold accR; (repeat' split) <;> first | rfl | (exfalso; omega), (below_ext (by repeat (first | exact Below.refl _ _ | (with_reducible refine Below.setCell ?_ (by first | (simp; done) | (simp; omega)) _) | (with_reducible refine Below.alloc ?_ (by first | (simp; done) | (simp; omega)) _) | (with_reducible refine Below.onDrewN ?_ _) | (with_reducible refine Below.drew ?_) | (with_reducible refine Below.ofExt ?_ (by first | (simp; done) | (simp; omega))))))⟩
      · have a4b : (a == 4) = false := by simpa using a4
        go_enter Try.func26, Try.ntmps26
        go_wp2
        exact bodyPost_ret (v := .agg #[.int .i64 (2), .int .i64 (a + 1), .int .i64 (r)]) (by simp [results, Try.results26, go_sem]) rfl ⟨by (try simp only [if_true, if_false, Bool.false_eq_true]); unfold accR; (repeat' split) <;> first | rfl | (exfalso; omega), (below_ext (by repeat (first | exact Below.refl _ _ | (with_reducible refine Below.setCell ?_ (by first | (simp; done) | (simp; omega)) _) | (with_reducible refine Below.alloc ?_ (by first | (simp; done) | (simp; omega)) _) | (with_reducible refine Below.onDrewN ?_ _) | (with_reducible refine Below.drew ?_) | (with_reducible refine Below.ofExt ?_ (by first | (simp; done) | (simp; omega))))))⟩

set_option maxHeartbeats 4000000 in
theorem tightened_any (l a r : Int) (b : Bool) (w : World) (h0 : 0 ≤ a) (h1 : a < 10) (h2 : 0 ≤ r) (h3 : r < 10) : Calls Try.prog 27 #[.agg #[.int .i64 (l), .int .i64 (a), .int .i64 (r)], .bool b] w fun e w' => e = .returned (.agg #[.int .i64 ((if b then accR 3 a r else rejR 3 r).l), .int .i64 ((if b then accR 3 a r else rejR 3 r).a), .int .i64 ((if b then accR 3 a r else rejR 3 r).r)]) ∧ ∃ z, w' = ext w z := by
  cases b
  · by_cases r4 : r = 4
    · subst r4
      go_enter Try.func27, Try.ntmps27
      go_wp2
      exact bodyPost_ret (v := .agg #[.int .i64 (4), .int .i64 (0), .int .i64 (0)]) (by simp [results, Try.results27, go_sem]) rfl ⟨by (try simp only [if_true, if_false, Bool.false_eq_true]); unfold rejR; (repeat' split) <;> first | rfl | (exfalso; omega), (below_ext (by repeat (first | exact Below.refl _ _ | (with_reducible refine Below.setCell ?_ (by first | (simp; done) | (simp; omega)) _) | (with_reducible refine Below.alloc ?_ (by first | (simp; done) | (simp; omega)) _) | (with_reducible refine Below.onDrewN ?_ _) | (with_reducible refine Below.drew ?_) | (with_reducible refine Below.ofExt ?_ (by first | (simp; done) | (simp; omega))))))⟩
    · have r4b : (r == 4) = false := by simpa using r4
      go_enter Try.func27, Try.ntmps27
      go_wp2
      exact bodyPost_ret (v := .agg #[.int .i64 (3), .int .i64 (0), .int .i64 (r + 1)]) (by simp [results, Try.results27, go_sem]) rfl ⟨by (try simp only [if_true, if_false, Bool.false_eq_true]); unfold rejR; (repeat' split) <;> first | rfl | (exfalso; omega), (below_ext (by repeat (first | exact Below.refl _ _ | (with_reducible refine Below.setCell ?_ (by first | (simp; done) | (simp; omega)) _) | (with_reducible refine Below.alloc ?_ (by first | (simp; done) | (simp; omega)) _) | (with_reducible refine Below.onDrewN ?_ _) | (with_reducible refine Below.drew ?_) | (with_reducible refine Below.ofExt ?_ (by first | (simp; done) | (simp; omega))))))⟩
  · by_cases a4 : a = 4
    · subst a4
      go_enter Try.func27, Try.ntmps27
      go_wp2
      exact bodyPost_ret (v := .agg #[.int .i64 (2), .int .i64 (0), .int .i64 (0)]) (by simp [results, Try.results27, go_sem]) rfl ⟨by (try simp only [if_true, if_false, Bool.false_eq_true]); unfold accR; (repeat' split) <;> first | rfl | (exfalso; omega), (below_ext (by repeat (first | exact Below.refl _ _ | (with_reducible refine Below.setCell ?_ (by first | (simp; done) | (simp; omega)) _) | (with_reducible refine Below.alloc ?_ (by first | (simp; done) | (simp; omega)) _) | (with_reducible refine Below.onDrewN ?_ _) | (with_reducible refine Below.drew ?_) | (with_reducible refine Below.ofExt ?_ (by first | (simp; done) | (simp; omega))))))⟩
    · have a4b : (a == 4) = false := by simpa using a4
      go_enter Try.func27, Try.ntmps27
      go_wp2
      exact bodyPost_ret (v := .agg #[.int .i64 (3), .int .i64 (a + 1), .int .i64 (r)]) (by simp [results, Try.results27, go_sem]) rfl ⟨by (try simp only [if_true, if_false, Bool.false_eq_true]); unfold accR; (repeat' split) <;> first | rfl | (exfalso; omega), (below_ext (by repeat (first | exact Below.refl _ _ | (with_reducible refine Below.setCell ?_ (by first | (simp; done) | (simp; omega)) _) | (with_reducible refine Below.alloc ?_ (by first | (simp; done) | (simp; omega)) _) | (with_reducible refine Below.onDrewN ?_ _) | (with_reducible refine Below.drew ?_) | (with_reducible refine Below.ofExt ?_ (by first | (simp; done) | (simp; omega))))))⟩

set_option maxHeartbeats 4000000 in
theorem Switch_any (l a r : Int) (b : Bool) (w : World) : Calls Try.prog 15 #[.agg #[.int .i64 (l), .int .i64 (a), .int .i64 (r)], .bool b] w fun e w' => e = .returned (.tuple #[.agg #[.int .i64 ((sw l a r b).l), .int .i64 ((sw l a r b).a), .int .i64 ((sw l a r b).r)], .int .i64 (swE l a r)]) ∧ ∃ z, w' = ext w z := by
  cases hk : okR l a r
  · have H1 := Lib.hid (swE_bad hk)
    have H2 := Lib.hid (sw_bad (b := b) hk)
    go_enter Try.func15, Try.ntmps15
    go_wp2_with (first | (go_at_call 21; (first | (with_reducible refine (Calls.ext_of (valid_any _ _ _ _)).mono ?_) | refine (valid_any _ _ _ _).mono ?_); rintro e w' ⟨rfl, z, rfl⟩) | (go_at_call 13; (first | (with_reducible refine (Calls.ext_of (Start_any _)).mono ?_) | refine (Start_any _).mono ?_); rintro e w' ⟨rfl, z, rfl⟩) | (go_at_call 23; (first | (with_reducible refine (Calls.ext_of (accept_any _ _ _ _ (by omega) (by omega) (by omega))).mono ?_) | refine (accept_any _ _ _ _ (by omega) (by omega) (by omega)).mono ?_); rintro e w' ⟨rfl, z, rfl⟩) | (go_at_call 24; (first | (with_reducible refine (Calls.ext_of (reject_any _ _ _ _ (by omega) (by omega) (by omega))).mono ?_) | refine (reject_any _ _ _ _ (by omega) (by omega) (by omega)).mono ?_); rintro e w' ⟨rfl, z, rfl⟩))
    exact bodyPost_ret (v := .tuple #[.agg #[.int .i64 (0), .int .i64 (0), .int .i64 (0)], .int .i64 (1)]) (by simp [results, Try.results15, go_sem]) rfl ⟨by rw [H1.out, H2.out], (below_ext (by repeat (first | exact Below.refl _ _ | (with_reducible refine Below.setCell ?_ (by first | (simp; done) | (simp; omega)) _) | (with_reducible refine Below.alloc ?_ (by first | (simp; done) | (simp; omega)) _) | (with_reducible refine Below.onDrewN ?_ _) | (with_reducible refine Below.drew ?_) | (with_reducible refine Below.ofExt ?_ (by first | (simp; done) | (simp; omega))))))⟩
  · obtain ⟨b1, b2, b3, b4, b5⟩ := ok_bd hk
    by_cases l4 : l = 4
    · subst l4
      have H1 := Lib.hid (swE_stop hk)
      have H2 := Lib.hid (sw_stop (b := b) hk)
      go_enter Try.func15, Try.ntmps15
      go_wp2_with (first | (go_at_call 21; (first | (with_reducible refine (Calls.ext_of (valid_any _ _ _ _)).mono ?_) | refine (valid_any _ _ _ _).mono ?_); rintro e w' ⟨rfl, z, rfl⟩) | (go_at_call 13; (first | (with_reducible refine (Calls.ext_of (Start_any _)).mono ?_) | refine (Start_any _).mono ?_); rintro e w' ⟨rfl, z, rfl⟩) | (go_at_call 23; (first | (with_reducible refine (Calls.ext_of (accept_any _ _ _ _ (by omega) (by omega) (by omega))).mono ?_) | refine (accept_any _ _ _ _ (by omega) (by omega) (by omega)).mono ?_); rintro e w' ⟨rfl, z, rfl⟩) | (go_at_call 24; (first | (with_reducible refine (Calls.ext_of (reject_any _ _ _ _ (by omega) (by omega) (by omega))).mono ?_) | refine (reject_any _ _ _ _ (by omega) (by omega) (by omega)).mono ?_); rintro e w' ⟨rfl, z, rfl⟩))
      exact bodyPost_ret (v := .tuple #[.agg #[.int .i64 (0), .int .i64 (0), .int .i64 (0)], .int .i64 (8)]) (by simp [results, Try.results15, go_sem]) rfl ⟨by rw [H1.out, H2.out], (below_ext (by repeat (first | exact Below.refl _ _ | (with_reducible refine Below.setCell ?_ (by first | (simp; done) | (simp; omega)) _) | (with_reducible refine Below.alloc ?_ (by first | (simp; done) | (simp; omega)) _) | (with_reducible refine Below.onDrewN ?_ _) | (with_reducible refine Below.drew ?_) | (with_reducible refine Below.ofExt ?_ (by first | (simp; done) | (simp; omega))))))⟩
    · have l4b : (l == 4) = false := by simpa using l4
      have H1 := Lib.hid (swE_go hk l4)
      by_cases l1 : l = 1
      · subst l1
        have H2 := Lib.hid (sw_red (b := b) hk)
        cases b
        · go_enter Try.func15, Try.ntmps15
          go_wp2_with (first | (go_at_call 21; (first | (with_reducible refine (Calls.ext_of (valid_any _ _ _ _)).mono ?_) | refine (valid_any _ _ _ _).mono ?_); rintro e w' ⟨rfl, z, rfl⟩) | (go_at_call 13; (first | (with_reducible refine (Calls.ext_of (Start_any _)).mono ?_) | refine (Start_any _).mono ?_); rintro e w' ⟨rfl, z, rfl⟩) | (go_at_call 23; (first | (with_reducible refine (Calls.ext_of (accept_any _ _ _ _ (by omega) (by omega) (by omega))).mono ?_) | refine (accept_any _ _ _ _ (by omega) (by omega) (by omega)).mono ?_); rintro e w' ⟨rfl, z, rfl⟩) | (go_at_call 24; (first | (with_reducible refine (Calls.ext_of (reject_any _ _ _ _ (by omega) (by omega) (by omega))).mono ?_) | refine (reject_any _ _ _ _ (by omega) (by omega) (by omega)).mono ?_); rintro e w' ⟨rfl, z, rfl⟩))
          exact bodyPost_ret (v := .tuple #[.agg #[.int .i64 (2), .int .i64 (0), .int .i64 (0)], .int .i64 (0)]) (by simp [results, Try.results15, go_sem]) rfl ⟨by rw [H1.out, H2.out]; rfl, (below_ext (by repeat (first | exact Below.refl _ _ | (with_reducible refine Below.setCell ?_ (by first | (simp; done) | (simp; omega)) _) | (with_reducible refine Below.alloc ?_ (by first | (simp; done) | (simp; omega)) _) | (with_reducible refine Below.onDrewN ?_ _) | (with_reducible refine Below.drew ?_) | (with_reducible refine Below.ofExt ?_ (by first | (simp; done) | (simp; omega))))))⟩
        · go_enter Try.func15, Try.ntmps15
          go_wp2_with (first | (go_at_call 21; (first | (with_reducible refine (Calls.ext_of (valid_any _ _ _ _)).mono ?_) | refine (valid_any _ _ _ _).mono ?_); rintro e w' ⟨rfl, z, rfl⟩) | (go_at_call 13; (first | (with_reducible refine (Calls.ext_of (Start_any _)).mono ?_) | refine (Start_any _).mono ?_); rintro e w' ⟨rfl, z, rfl⟩) | (go_at_call 23; (first | (with_reducible refine (Calls.ext_of (accept_any _ _ _ _ (by omega) (by omega) (by omega))).mono ?_) | refine (accept_any _ _ _ _ (by omega) (by omega) (by omega)).mono ?_); rintro e w' ⟨rfl, z, rfl⟩) | (go_at_call 24; (first | (with_reducible refine (Calls.ext_of (reject_any _ _ _ _ (by omega) (by omega) (by omega))).mono ?_) | refine (reject_any _ _ _ _ (by omega) (by omega) (by omega)).mono ?_); rintro e w' ⟨rfl, z, rfl⟩))
          exact bodyPost_ret (v := .tuple #[.agg #[.int .i64 (1), .int .i64 (a), .int .i64 (r)], .int .i64 (0)]) (by simp [results, Try.results15, go_sem]) rfl ⟨by rw [H1.out, H2.out]; rfl, (below_ext (by repeat (first | exact Below.refl _ _ | (with_reducible refine Below.setCell ?_ (by first | (simp; done) | (simp; omega)) _) | (with_reducible refine Below.alloc ?_ (by first | (simp; done) | (simp; omega)) _) | (with_reducible refine Below.onDrewN ?_ _) | (with_reducible refine Below.drew ?_) | (with_reducible refine Below.ofExt ?_ (by first | (simp; done) | (simp; omega))))))⟩
      · have l1b : (l == 1) = false := by simpa using l1
        have H2 := Lib.hid (sw_mid (b := b) hk l4 l1)
        have hl : l = 2 ∨ l = 3 := by omega
        cases b
        · go_enter Try.func15, Try.ntmps15
          go_wp2_with (first | (go_at_call 21; (first | (with_reducible refine (Calls.ext_of (valid_any _ _ _ _)).mono ?_) | refine (valid_any _ _ _ _).mono ?_); rintro e w' ⟨rfl, z, rfl⟩) | (go_at_call 13; (first | (with_reducible refine (Calls.ext_of (Start_any _)).mono ?_) | refine (Start_any _).mono ?_); rintro e w' ⟨rfl, z, rfl⟩) | (go_at_call 23; (first | (with_reducible refine (Calls.ext_of (accept_any _ _ _ _ (by omega) (by omega) (by omega))).mono ?_) | refine (accept_any _ _ _ _ (by omega) (by omega) (by omega)).mono ?_); rintro e w' ⟨rfl, z, rfl⟩) | (go_at_call 24; (first | (with_reducible refine (Calls.ext_of (reject_any _ _ _ _ (by omega) (by omega) (by omega))).mono ?_) | refine (reject_any _ _ _ _ (by omega) (by omega) (by omega)).mono ?_); rintro e w' ⟨rfl, z, rfl⟩))
          exact bodyPost_ret (v := .tuple #[.agg #[.int .i64 ((rejR l r).l), .int .i64 ((rejR l r).a), .int .i64 ((rejR l r).r)], .int .i64 (0)]) (by simp [results, Try.results15, go_sem]) rfl ⟨by rw [H1.out, H2.out]; rfl, (below_ext (by repeat (first | exact Below.refl _ _ | (with_reducible refine Below.setCell ?_ (by first | (simp; done) | (simp; omega)) _) | (with_reducible refine Below.alloc ?_ (by first | (simp; done) | (simp; omega)) _) | (with_reducible refine Below.onDrewN ?_ _) | (with_reducible refine Below.drew ?_) | (with_reducible refine Below.ofExt ?_ (by first | (simp; done) | (simp; omega))))))⟩
        · go_enter Try.func15, Try.ntmps15
          go_wp2_with (first | (go_at_call 21; (first | (with_reducible refine (Calls.ext_of (valid_any _ _ _ _)).mono ?_) | refine (valid_any _ _ _ _).mono ?_); rintro e w' ⟨rfl, z, rfl⟩) | (go_at_call 13; (first | (with_reducible refine (Calls.ext_of (Start_any _)).mono ?_) | refine (Start_any _).mono ?_); rintro e w' ⟨rfl, z, rfl⟩) | (go_at_call 23; (first | (with_reducible refine (Calls.ext_of (accept_any _ _ _ _ (by omega) (by omega) (by omega))).mono ?_) | refine (accept_any _ _ _ _ (by omega) (by omega) (by omega)).mono ?_); rintro e w' ⟨rfl, z, rfl⟩) | (go_at_call 24; (first | (with_reducible refine (Calls.ext_of (reject_any _ _ _ _ (by omega) (by omega) (by omega))).mono ?_) | refine (reject_any _ _ _ _ (by omega) (by omega) (by omega)).mono ?_); rintro e w' ⟨rfl, z, rfl⟩))
          exact bodyPost_ret (v := .tuple #[.agg #[.int .i64 ((accR l a r).l), .int .i64 ((accR l a r).a), .int .i64 ((accR l a r).r)], .int .i64 (0)]) (by simp [results, Try.results15, go_sem]) rfl ⟨by rw [H1.out, H2.out]; rfl, (below_ext (by repeat (first | exact Below.refl _ _ | (with_reducible refine Below.setCell ?_ (by first | (simp; done) | (simp; omega)) _) | (with_reducible refine Below.alloc ?_ (by first | (simp; done) | (simp; omega)) _) | (with_reducible refine Below.onDrewN ?_ _) | (with_reducible refine Below.drew ?_) | (with_reducible refine Below.ofExt ?_ (by first | (simp; done) | (simp; omega))))))⟩
set_option maxHeartbeats 4000000 in
theorem RSwitch_any (l a r : Int) (b : Bool) (w : World) : Calls Try.prog 16 #[.agg #[.int .i64 (l), .int .i64 (a), .int .i64 (r)], .bool b] w fun e w' => e = .returned (.tuple #[.agg #[.int .i64 ((sw l a r b).l), .int .i64 ((sw l a r b).a), .int .i64 ((sw l a r b).r)], .int .i64 (swE l a r)]) ∧ ∃ z, w' = ext w z := by
  cases hk : okR l a r
  · have H1 := Lib.hid (swE_bad hk)
    have H2 := Lib.hid (sw_bad (b := b) hk)
    go_enter Try.func16, Try.ntmps16
    go_wp2_with (first | (go_at_call 25; (first | (with_reducible refine (Calls.ext_of (Right_any _ _ _ _)).mono ?_) | refine (Right_any _ _ _ _).mono ?_); rintro e w' ⟨rfl, z, rfl⟩) | (go_at_call 18; (first | (with_reducible refine (Calls.ext_of (RStart_any _)).mono ?_) | refine (RStart_any _).mono ?_); rintro e w' ⟨rfl, z, rfl⟩) | (go_at_call 26; (first | (with_reducible refine (Calls.ext_of (normal_any _ _ _ _ _ (by omega) (by omega) (by omega) (by omega))).mono ?_) | refine (normal_any _ _ _ _ _ (by omega) (by omega) (by omega) (by omega)).mono ?_); rintro e w' ⟨rfl, z, rfl⟩) | (go_at_call 27; (first | (with_reducible refine (Calls.ext_of (tightened_any _ _ _ _ _ (by omega) (by omega) (by omega) (by omega))).mono ?_) | refine (tightened_any _ _ _ _ _ (by omega) (by omega) (by omega) (by omega)).mono ?_); rintro e w' ⟨rfl, z, rfl⟩))
    exact bodyPost_ret (v := .tuple #[.agg #[.int .i64 (0), .int .i64 (0), .int .i64 (0)], .int .i64 (1)]) (by simp [results, Try.results16, go_sem]) rfl ⟨by rw [H1.out, H2.out], (below_ext (by repeat (first | exact Below.refl _ _ | (with_reducible refine Below.setCell ?_ (by first | (simp; done) | (simp; omega)) _) | (with_reducible refine Below.alloc ?_ (by first | (simp; done) | (simp; omega)) _) | (with_reducible refine Below.onDrewN ?_ _) | (with_reducible refine Below.drew ?_) | (with_reducible refine Below.ofExt ?_ (by first | (simp; done) | (simp; omega))))))⟩
  · obtain ⟨b1, b2, b3, b4, b5⟩ := ok_bd hk
    by_cases l4 : l = 4
    · subst l4
      have H1 := Lib.hid (swE_stop hk)
      have H2 := Lib.hid (sw_stop (b := b) hk)
      go_enter Try.func16, Try.ntmps16
      go_wp2_with (first | (go_at_call 25; (first | (with_reducible refine (Calls.ext_of (Right_any _ _ _ _)).mono ?_) | refine (Right_any _ _ _ _).mono ?_); rintro e w' ⟨rfl, z, rfl⟩) | (go_at_call 18; (first | (with_reducible refine (Calls.ext_of (RStart_any _)).mono ?_) | refine (RStart_any _).mono ?_); rintro e w' ⟨rfl, z, rfl⟩) | (go_at_call 26; (first | (with_reducible refine (Calls.ext_of (normal_any _ _ _ _ _ (by omega) (by omega) (by omega) (by omega))).mono ?_) | refine (normal_any _ _ _ _ _ (by omega) (by omega) (by omega) (by omega)).mono ?_); rintro e w' ⟨rfl, z, rfl⟩) | (go_at_call 27; (first | (with_reducible refine (Calls.ext_of (tightened_any _ _ _ _ _ (by omega) (by omega) (by omega) (by omega))).mono ?_) | refine (tightened_any _ _ _ _ _ (by omega) (by omega) (by omega) (by omega)).mono ?_); rintro e w' ⟨rfl, z, rfl⟩))
      exact bodyPost_ret (v := .tuple #[.agg #[.int .i64 (0), .int .i64 (0), .int .i64 (0)], .int .i64 (8)]) (by simp [results, Try.results16, go_sem]) rfl ⟨by rw [H1.out, H2.out], (below_ext (by repeat (first | exact Below.refl _ _ | (with_reducible refine Below.setCell ?_ (by first | (simp; done) | (simp; omega)) _) | (with_reducible refine Below.alloc ?_ (by first | (simp; done) | (simp; omega)) _) | (with_reducible refine Below.onDrewN ?_ _) | (with_reducible refine Below.drew ?_) | (with_reducible refine Below.ofExt ?_ (by first | (simp; done) | (simp; omega))))))⟩
    · have l4b : (l == 4) = false := by simpa using l4
      have H1 := Lib.hid (swE_go hk l4)
      by_cases l1 : l = 1
      · subst l1
        have H2 := Lib.hid (sw_red (b := b) hk)
        cases b
        · go_enter Try.func16, Try.ntmps16
          go_wp2_with (first | (go_at_call 25; (first | (with_reducible refine (Calls.ext_of (Right_any _ _ _ _)).mono ?_) | refine (Right_any _ _ _ _).mono ?_); rintro e w' ⟨rfl, z, rfl⟩) | (go_at_call 18; (first | (with_reducible refine (Calls.ext_of (RStart_any _)).mono ?_) | refine (RStart_any _).mono ?_); rintro e w' ⟨rfl, z, rfl⟩) | (go_at_call 26; (first | (with_reducible refine (Calls.ext_of (normal_any _ _ _ _ _ (by omega) (by omega) (by omega) (by omega))).mono ?_) | refine (normal_any _ _ _ _ _ (by omega) (by omega) (by omega) (by omega)).mono ?_); rintro e w' ⟨rfl, z, rfl⟩) | (go_at_call 27; (first | (with_reducible refine (Calls.ext_of (tightened_any _ _ _ _ _ (by omega) (by omega) (by omega) (by omega))).mono ?_) | refine (tightened_any _ _ _ _ _ (by omega) (by omega) (by omega) (by omega)).mono ?_); rintro e w' ⟨rfl, z, rfl⟩))
          exact bodyPost_ret (v := .tuple #[.agg #[.int .i64 (2), .int .i64 (0), .int .i64 (0)], .int .i64 (0)]) (by simp [results, Try.results16, go_sem]) rfl ⟨by rw [H1.out, H2.out]; rfl, (below_ext (by repeat (first | exact Below.refl _ _ | (with_reducible refine Below.setCell ?_ (by first | (simp; done) | (simp; omega)) _) | (with_reducible refine Below.alloc ?_ (by first | (simp; done) | (simp; omega)) _) | (with_reducible refine Below.onDrewN ?_ _) | (with_reducible refine Below.drew ?_) | (with_reducible refine Below.ofExt ?_ (by first | (simp; done) | (simp; omega))))))⟩
        · go_enter Try.func16, Try.ntmps16
          go_wp2_with (first | (go_at_call 25; (first | (with_reducible refine (Calls.ext_of (Right_any _ _ _ _)).mono ?_) | refine (Right_any _ _ _ _).mono ?_); rintro e w' ⟨rfl, z, rfl⟩) | (go_at_call 18; (first | (with_reducible refine (Calls.ext_of (RStart_any _)).mono ?_) | refine (RStart_any _).mono ?_); rintro e w' ⟨rfl, z, rfl⟩) | (go_at_call 26; (first | (with_reducible refine (Calls.ext_of (normal_any _ _ _ _ _ (by omega) (by omega) (by omega) (by omega))).mono ?_) | refine (normal_any _ _ _ _ _ (by omega) (by omega) (by omega) (by omega)).mono ?_); rintro e w' ⟨rfl, z, rfl⟩) | (go_at_call 27; (first | (with_reducible refine (Calls.ext_of (tightened_any _ _ _ _ _ (by omega) (by omega) (by omega) (by omega))).mono ?_) | refine (tightened_any _ _ _ _ _ (by omega) (by omega) (by omega) (by omega)).mono ?_); rintro e w' ⟨rfl, z, rfl⟩))
          exact bodyPost_ret (v := .tuple #[.agg #[.int .i64 (1), .int .i64 (a), .int .i64 (r)], .int .i64 (0)]) (by simp [results, Try.results16, go_sem]) rfl ⟨by rw [H1.out, H2.out]; rfl, (below_ext (by repeat (first | exact Below.refl _ _ | (with_reducible refine Below.setCell ?_ (by first | (simp; done) | (simp; omega)) _) | (with_reducible refine Below.alloc ?_ (by first | (simp; done) | (simp; omega)) _) | (with_reducible refine Below.onDrewN ?_ _) | (with_reducible refine Below.drew ?_) | (with_reducible refine Below.ofExt ?_ (by first | (simp; done) | (simp; omega))))))⟩
      · have l1b : (l == 1) = false := by simpa using l1
        have H2 := Lib.hid (sw_mid (b := b) hk l4 l1)
        have hl : l = 2 ∨ l = 3 := by omega
        by_cases l2 : l = 2
        · subst l2
          cases b
          · go_enter Try.func16, Try.ntmps16
            go_wp2_with (first | (go_at_call 25; (first | (with_reducible refine (Calls.ext_of (Right_any _ _ _ _)).mono ?_) | refine (Right_any _ _ _ _).mono ?_); rintro e w' ⟨rfl, z, rfl⟩) | (go_at_call 18; (first | (with_reducible refine (Calls.ext_of (RStart_any _)).mono ?_) | refine (RStart_any _).mono ?_); rintro e w' ⟨rfl, z, rfl⟩) | (go_at_call 26; (first | (with_reducible refine (Calls.ext_of (normal_any _ _ _ _ _ (by omega) (by omega) (by omega) (by omega))).mono ?_) | refine (normal_any _ _ _ _ _ (by omega) (by omega) (by omega) (by omega)).mono ?_); rintro e w' ⟨rfl, z, rfl⟩) | (go_at_call 27; (first | (with_reducible refine (Calls.ext_of (tightened_any _ _ _ _ _ (by omega) (by omega) (by omega) (by omega))).mono ?_) | refine (tightened_any _ _ _ _ _ (by omega) (by omega) (by omega) (by omega)).mono ?_); rintro e w' ⟨rfl, z, rfl⟩))
            exact bodyPost_ret (v := .tuple #[.agg #[.int .i64 ((rejR 2 r).l), .int .i64 ((rejR 2 r).a), .int .i64 ((rejR 2 r).r)], .int .i64 (0)]) (by simp [results, Try.results16, go_sem]) rfl ⟨by rw [H1.out, H2.out]; rfl, (below_ext (by repeat (first | exact Below.refl _ _ | (with_reducible refine Below.setCell ?_ (by first | (simp; done) | (simp; omega)) _) | (with_reducible refine Below.alloc ?_ (by first | (simp; done) | (simp; omega)) _) | (with_reducible refine Below.onDrewN ?_ _) | (with_reducible refine Below.drew ?_) | (with_reducible refine Below.ofExt ?_ (by first | (simp; done) | (simp; omega))))))⟩
          · go_enter Try.func16, Try.ntmps16
            go_wp2_with (first | (go_at_call 25; (first | (with_reducible refine (Calls.ext_of (Right_any _ _ _ _)).mono ?_) | refine (Right_any _ _ _ _).mono ?_); rintro e w' ⟨rfl, z, rfl⟩) | (go_at_call 18; (first | (with_reducible refine (Calls.ext_of (RStart_any _)).mono ?_) | refine (RStart_any _).mono ?_); rintro e w' ⟨rfl, z, rfl⟩) | (go_at_call 26; (first | (with_reducible refine (Calls.ext_of (normal_any _ _ _ _ _ (by omega) (by omega) (by omega) (by omega))).mono ?_) | refine (normal_any _ _ _ _ _ (by omega) (by omega) (by omega) (by omega)).mono ?_); rintro e w' ⟨rfl, z, rfl⟩) | (go_at_call 27; (first | (with_reducible refine (Calls.ext_of (tightened_any _ _ _ _ _ (by omega) (by omega) (by omega) (by omega))).mono ?_) | refine (tightened_any _ _ _ _ _ (by omega) (by omega) (by omega) (by omega)).mono ?_); rintro e w' ⟨rfl, z, rfl⟩))
            exact bodyPost_ret (v := .tuple #[.agg #[.int .i64 ((accR 2 a r).l), .int .i64 ((accR 2 a r).a), .int .i64 ((accR 2 a r).r)], .int .i64 (0)]) (by simp [results, Try.results16, go_sem]) rfl ⟨by rw [H1.out, H2.out]; rfl, (below_ext (by repeat (first | exact Below.refl _ _ | (with_reducible refine Below.setCell ?_ (by first | (simp; done) | (simp; omega)) _) | (with_reducible refine Below.alloc ?_ (by first | (simp; done) | (simp; omega)) _) | (with_reducible refine Below.onDrewN ?_ _) | (with_reducible refine Below.drew ?_) | (with_reducible refine Below.ofExt ?_ (by first | (simp; done) | (simp; omega))))))⟩
        · obtain rfl : l = 3 := by omega
          cases b
          · go_enter Try.func16, Try.ntmps16
            go_wp2_with (first | (go_at_call 25; (first | (with_reducible refine (Calls.ext_of (Right_any _ _ _ _)).mono ?_) | refine (Right_any _ _ _ _).mono ?_); rintro e w' ⟨rfl, z, rfl⟩) | (go_at_call 18; (first | (with_reducible refine (Calls.ext_of (RStart_any _)).mono ?_) | refine (RStart_any _).mono ?_); rintro e w' ⟨rfl, z, rfl⟩) | (go_at_call 26; (first | (with_reducible refine (Calls.ext_of (normal_any _ _ _ _ _ (by omega) (by omega) (by omega) (by omega))).mono ?_) | refine (normal_any _ _ _ _ _ (by omega) (by omega) (by omega) (by omega)).mono ?_); rintro e w' ⟨rfl, z, rfl⟩) | (go_at_call 27; (first | (with_reducible refine (Calls.ext_of (tightened_any _ _ _ _ _ (by omega) (by omega) (by omega) (by omega))).mono ?_) | refine (tightened_any _ _ _ _ _ (by omega) (by omega) (by omega) (by omega)).mono ?_); rintro e w' ⟨rfl, z, rfl⟩))
            exact bodyPost_ret (v := .tuple #[.agg #[.int .i64 ((rejR 3 r).l), .int .i64 ((rejR 3 r).a), .int .i64 ((rejR 3 r).r)], .int .i64 (0)]) (by simp [results, Try.results16, go_sem]) rfl ⟨by rw [H1.out, H2.out]; rfl, (below_ext (by repeat (first | exact Below.refl _ _ | (with_reducible refine Below.setCell ?_ (by first | (simp; done) | (simp; omega)) _) | (with_reducible refine Below.alloc ?_ (by first | (simp; done) | (simp; omega)) _) | (with_reducible refine Below.onDrewN ?_ _) | (with_reducible refine Below.drew ?_) | (with_reducible refine Below.ofExt ?_ (by first | (simp; done) | (simp; omega))))))⟩
          · go_enter Try.func16, Try.ntmps16
            go_wp2_with (first | (go_at_call 25; (first | (with_reducible refine (Calls.ext_of (Right_any _ _ _ _)).mono ?_) | refine (Right_any _ _ _ _).mono ?_); rintro e w' ⟨rfl, z, rfl⟩) | (go_at_call 18; (first | (with_reducible refine (Calls.ext_of (RStart_any _)).mono ?_) | refine (RStart_any _).mono ?_); rintro e w' ⟨rfl, z, rfl⟩) | (go_at_call 26; (first | (with_reducible refine (Calls.ext_of (normal_any _ _ _ _ _ (by omega) (by omega) (by omega) (by omega))).mono ?_) | refine (normal_any _ _ _ _ _ (by omega) (by omega) (by omega) (by omega)).mono ?_); rintro e w' ⟨rfl, z, rfl⟩) | (go_at_call 27; (first | (with_reducible refine (Calls.ext_of (tightened_any _ _ _ _ _ (by omega) (by omega) (by omega) (by omega))).mono ?_) | refine (tightened_any _ _ _ _ _ (by omega) (by omega) (by omega) (by omega)).mono ?_); rintro e w' ⟨rfl, z, rfl⟩))
            exact bodyPost_ret (v := .tuple #[.agg #[.int .i64 ((accR 3 a r).l), .int .i64 ((accR 3 a r).a), .int .i64 ((accR 3 a r).r)], .int .i64 (0)]) (by simp [results, Try.results16, go_sem]) rfl ⟨by rw [H1.out, H2.out]; rfl, (below_ext (by repeat (first | exact Below.refl _ _ | (with_reducible refine Below.setCell ?_ (by first | (simp; done) | (simp; omega)) _) | (with_reducible refine Below.alloc ?_ (by first | (simp; done) | (simp; omega)) _) | (with_reducible refine Below.onDrewN ?_ _) | (with_reducible refine Below.drew ?_) | (with_reducible refine Below.ofExt ?_ (by first | (simp; done) | (simp; omega))))))⟩
end Go.Proofs.Ytnnedgdbbecmcaa
