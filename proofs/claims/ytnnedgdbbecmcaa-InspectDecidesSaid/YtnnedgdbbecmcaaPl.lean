/-
  The contracts of the plans and of the decision.
-/
import Derived.Test.YtnnedgdbbecmcaaSw
namespace Go.Proofs.Ytnnedgdbbecmcaa
open Go.RowKit

set_option maxHeartbeats 1000000 in
theorem root_any (n : Int) (w : World) (hn : n ≤ 900) : Calls Try.prog 28 #[.int .i64 (n)] w fun e w' => e = .returned (.int .i64 (rt n)) ∧ w' = w := by
  go_enter Try.func28, Try.ntmps28
  go_wp2
  go_loop [3] (fun t => ∃ k : Int, 0 ≤ k ∧ k ≤ 30 ∧ t = .int .i64 k ∧ Small n k) (fun t => (40 - intOf t).toNat)
  case atStart => exact ⟨0, by omega, by omega, rfl, small_zero n⟩
  case round =>
    obtain ⟨k, h0, h1, rfl, hs⟩ := hrel
    have HS := Lib.hid hs
    clear hs
    obtain ⟨q1, q2⟩ := sq_bd h0 h1
    by_cases hlt : k * k < n
    · have h2 := sq_lt (by omega) h0
      go_wp2
      go_round
      case rel => exact ⟨k + 1, by omega, by omega, rfl, small_succ HS.out hlt⟩
      case measure => simp [intOf]; omega
    · have HR := Lib.hid (rt_small h0 h1 HS.out (by omega))
      go_wp2
      go_ret
      exact ⟨ret_int HR.out.symm, rfl⟩

set_option maxHeartbeats 1000000 in
theorem Check_any (n c m : Int) (w : World) : Calls Try.prog 12 #[.agg #[.int .i64 (n), .int .i64 (c)], .int .i64 (m)] w fun e w' => e = .returned (.int .i64 (ckE n c m)) ∧ ∃ z, w' = ext w z := by
  by_cases h1 : n < 1
  · go_enter Try.func12, Try.ntmps12
    go_wp2
    go_ret
    exact ⟨ret_int (by unfold ckE; split <;> omega), (below_ext (by repeat (first | exact Below.refl _ _ | (with_reducible refine Below.setCell ?_ (by first | (simp; done) | (simp; omega)) _) | (with_reducible refine Below.alloc ?_ (by first | (simp; done) | (simp; omega)) _) | (with_reducible refine Below.onDrewN ?_ _) | (with_reducible refine Below.drew ?_) | (with_reducible refine Below.ofExt ?_ (by first | (simp; done) | (simp; omega))))))⟩
  · by_cases h2 : m < n
    · go_enter Try.func12, Try.ntmps12
      go_wp2
      go_ret
      exact ⟨ret_int (by unfold ckE; split <;> omega), (below_ext (by repeat (first | exact Below.refl _ _ | (with_reducible refine Below.setCell ?_ (by first | (simp; done) | (simp; omega)) _) | (with_reducible refine Below.alloc ?_ (by first | (simp; done) | (simp; omega)) _) | (with_reducible refine Below.onDrewN ?_ _) | (with_reducible refine Below.drew ?_) | (with_reducible refine Below.ofExt ?_ (by first | (simp; done) | (simp; omega))))))⟩
    · by_cases h3 : 200 < m
      · go_enter Try.func12, Try.ntmps12
        go_wp2
        go_ret
        exact ⟨ret_int (by unfold ckE; split <;> omega), (below_ext (by repeat (first | exact Below.refl _ _ | (with_reducible refine Below.setCell ?_ (by first | (simp; done) | (simp; omega)) _) | (with_reducible refine Below.alloc ?_ (by first | (simp; done) | (simp; omega)) _) | (with_reducible refine Below.onDrewN ?_ _) | (with_reducible refine Below.drew ?_) | (with_reducible refine Below.ofExt ?_ (by first | (simp; done) | (simp; omega))))))⟩
      · by_cases h4 : c < 0
        · go_enter Try.func12, Try.ntmps12
          go_wp2
          go_ret
          exact ⟨ret_int (by unfold ckE; split <;> omega), (below_ext (by repeat (first | exact Below.refl _ _ | (with_reducible refine Below.setCell ?_ (by first | (simp; done) | (simp; omega)) _) | (with_reducible refine Below.alloc ?_ (by first | (simp; done) | (simp; omega)) _) | (with_reducible refine Below.onDrewN ?_ _) | (with_reducible refine Below.drew ?_) | (with_reducible refine Below.ofExt ?_ (by first | (simp; done) | (simp; omega))))))⟩
        · by_cases h5 : n ≤ c
          · go_enter Try.func12, Try.ntmps12
            go_wp2
            go_ret
            exact ⟨ret_int (by unfold ckE; split <;> omega), (below_ext (by repeat (first | exact Below.refl _ _ | (with_reducible refine Below.setCell ?_ (by first | (simp; done) | (simp; omega)) _) | (with_reducible refine Below.alloc ?_ (by first | (simp; done) | (simp; omega)) _) | (with_reducible refine Below.onDrewN ?_ _) | (with_reducible refine Below.drew ?_) | (with_reducible refine Below.ofExt ?_ (by first | (simp; done) | (simp; omega))))))⟩
          · go_enter Try.func12, Try.ntmps12
            go_wp2
            go_ret
            exact ⟨ret_int (by unfold ckE; split <;> omega), (below_ext (by repeat (first | exact Below.refl _ _ | (with_reducible refine Below.setCell ?_ (by first | (simp; done) | (simp; omega)) _) | (with_reducible refine Below.alloc ?_ (by first | (simp; done) | (simp; omega)) _) | (with_reducible refine Below.onDrewN ?_ _) | (with_reducible refine Below.drew ?_) | (with_reducible refine Below.ofExt ?_ (by first | (simp; done) | (simp; omega))))))⟩

set_option maxHeartbeats 1000000 in
theorem RCheck_any (n c m : Int) (w : World) : Calls Try.prog 30 #[.agg #[.int .i64 (n), .int .i64 (c)], .int .i64 (m)] w fun e w' => e = .returned (.int .i64 (ckE n c m)) ∧ ∃ z, w' = ext w z := by
  by_cases h1 : n < 1
  · go_enter Try.func30, Try.ntmps30
    go_wp2
    go_ret
    exact ⟨ret_int (by unfold ckE; split <;> omega), (below_ext (by repeat (first | exact Below.refl _ _ | (with_reducible refine Below.setCell ?_ (by first | (simp; done) | (simp; omega)) _) | (with_reducible refine Below.alloc ?_ (by first | (simp; done) | (simp; omega)) _) | (with_reducible refine Below.onDrewN ?_ _) | (with_reducible refine Below.drew ?_) | (with_reducible refine Below.ofExt ?_ (by first | (simp; done) | (simp; omega))))))⟩
  · by_cases h2 : m < n
    · go_enter Try.func30, Try.ntmps30
      go_wp2
      go_ret
      exact ⟨ret_int (by unfold ckE; split <;> omega), (below_ext (by repeat (first | exact Below.refl _ _ | (with_reducible refine Below.setCell ?_ (by first | (simp; done) | (simp; omega)) _) | (with_reducible refine Below.alloc ?_ (by first | (simp; done) | (simp; omega)) _) | (with_reducible refine Below.onDrewN ?_ _) | (with_reducible refine Below.drew ?_) | (with_reducible refine Below.ofExt ?_ (by first | (simp; done) | (simp; omega))))))⟩
    · by_cases h3 : 200 < m
      · go_enter Try.func30, Try.ntmps30
        go_wp2
        go_ret
        exact ⟨ret_int (by unfold ckE; split <;> omega), (below_ext (by repeat (first | exact Below.refl _ _ | (with_reducible refine Below.setCell ?_ (by first | (simp; done) | (simp; omega)) _) | (with_reducible refine Below.alloc ?_ (by first | (simp; done) | (simp; omega)) _) | (with_reducible refine Below.onDrewN ?_ _) | (with_reducible refine Below.drew ?_) | (with_reducible refine Below.ofExt ?_ (by first | (simp; done) | (simp; omega))))))⟩
      · by_cases h4 : c < 0
        · go_enter Try.func30, Try.ntmps30
          go_wp2
          go_ret
          exact ⟨ret_int (by unfold ckE; split <;> omega), (below_ext (by repeat (first | exact Below.refl _ _ | (with_reducible refine Below.setCell ?_ (by first | (simp; done) | (simp; omega)) _) | (with_reducible refine Below.alloc ?_ (by first | (simp; done) | (simp; omega)) _) | (with_reducible refine Below.onDrewN ?_ _) | (with_reducible refine Below.drew ?_) | (with_reducible refine Below.ofExt ?_ (by first | (simp; done) | (simp; omega))))))⟩
        · by_cases h5 : n ≤ c
          · go_enter Try.func30, Try.ntmps30
            go_wp2
            go_ret
            exact ⟨ret_int (by unfold ckE; split <;> omega), (below_ext (by repeat (first | exact Below.refl _ _ | (with_reducible refine Below.setCell ?_ (by first | (simp; done) | (simp; omega)) _) | (with_reducible refine Below.alloc ?_ (by first | (simp; done) | (simp; omega)) _) | (with_reducible refine Below.onDrewN ?_ _) | (with_reducible refine Below.drew ?_) | (with_reducible refine Below.ofExt ?_ (by first | (simp; done) | (simp; omega))))))⟩
          · go_enter Try.func30, Try.ntmps30
            go_wp2
            go_ret
            exact ⟨ret_int (by unfold ckE; split <;> omega), (below_ext (by repeat (first | exact Below.refl _ _ | (with_reducible refine Below.setCell ?_ (by first | (simp; done) | (simp; omega)) _) | (with_reducible refine Below.alloc ?_ (by first | (simp; done) | (simp; omega)) _) | (with_reducible refine Below.onDrewN ?_ _) | (with_reducible refine Below.drew ?_) | (with_reducible refine Below.ofExt ?_ (by first | (simp; done) | (simp; omega))))))⟩

set_option maxHeartbeats 1000000 in
theorem Decide_any (n c f : Int) (w : World) : Calls Try.prog 22 #[.agg #[.int .i64 (n), .int .i64 (c)], .int .i64 (f)] w fun e w' => e = .returned (.tuple #[.bool (deB n c f), .int .i64 (deE n c f)]) ∧ ∃ z, w' = ext w z := by
  by_cases hc : ckE n c n = 0
  · have hcb : (ckE n c n != 0) = false := by simp [hc]
    by_cases h1 : f < 0
    · have HE := Lib.hid (show deE n c f = 3 by unfold deE; rw [if_pos (by omega)])
      have HB := Lib.hid (show deB n c f = false by unfold deB; rw [if_neg (by rw [HE.out]; decide)])
      clear hc
      go_enter Try.func22, Try.ntmps22
      go_wp2_with (first | (go_at_call 12; (first | (with_reducible refine (Calls.ext_of (Check_any _ _ _ _)).mono ?_) | refine (Check_any _ _ _ _).mono ?_); rintro e w' ⟨rfl, z, rfl⟩))
      go_ret2
      exact ⟨by rw [HE.out, HB.out]; rfl, (below_ext (by repeat (first | exact Below.refl _ _ | (with_reducible refine Below.setCell ?_ (by first | (simp; done) | (simp; omega)) _) | (with_reducible refine Below.alloc ?_ (by first | (simp; done) | (simp; omega)) _) | (with_reducible refine Below.onDrewN ?_ _) | (with_reducible refine Below.drew ?_) | (with_reducible refine Below.ofExt ?_ (by first | (simp; done) | (simp; omega))))))⟩
    · by_cases h2 : n < f
      · have HE := Lib.hid (show deE n c f = 3 by unfold deE; rw [if_pos (by omega)])
        have HB := Lib.hid (show deB n c f = false by unfold deB; rw [if_neg (by rw [HE.out]; decide)])
        clear hc
        go_enter Try.func22, Try.ntmps22
        go_wp2_with (first | (go_at_call 12; (first | (with_reducible refine (Calls.ext_of (Check_any _ _ _ _)).mono ?_) | refine (Check_any _ _ _ _).mono ?_); rintro e w' ⟨rfl, z, rfl⟩))
        go_ret2
        exact ⟨by rw [HE.out, HB.out]; rfl, (below_ext (by repeat (first | exact Below.refl _ _ | (with_reducible refine Below.setCell ?_ (by first | (simp; done) | (simp; omega)) _) | (with_reducible refine Below.alloc ?_ (by first | (simp; done) | (simp; omega)) _) | (with_reducible refine Below.onDrewN ?_ _) | (with_reducible refine Below.drew ?_) | (with_reducible refine Below.ofExt ?_ (by first | (simp; done) | (simp; omega))))))⟩
      · have HE := Lib.hid (show deE n c f = 0 by unfold deE; rw [if_neg (by omega)])
        have HB := Lib.hid (show deB n c f = decide (f ≤ c) by unfold deB; rw [if_pos HE.out])
        clear hc
        go_enter Try.func22, Try.ntmps22
        go_wp2_with (first | (go_at_call 12; (first | (with_reducible refine (Calls.ext_of (Check_any _ _ _ _)).mono ?_) | refine (Check_any _ _ _ _).mono ?_); rintro e w' ⟨rfl, z, rfl⟩))
        go_ret2
        exact ⟨by rw [HE.out, HB.out]; rfl, (below_ext (by repeat (first | exact Below.refl _ _ | (with_reducible refine Below.setCell ?_ (by first | (simp; done) | (simp; omega)) _) | (with_reducible refine Below.alloc ?_ (by first | (simp; done) | (simp; omega)) _) | (with_reducible refine Below.onDrewN ?_ _) | (with_reducible refine Below.drew ?_) | (with_reducible refine Below.ofExt ?_ (by first | (simp; done) | (simp; omega))))))⟩
  · have hcb : (ckE n c n != 0) = true := by simp [hc]
    have HE := Lib.hid (show deE n c f = 3 by unfold deE; rw [if_pos (Or.inl hc)])
    have HB := Lib.hid (show deB n c f = false by unfold deB; rw [if_neg (by rw [HE.out]; decide)])
    clear hc
    go_enter Try.func22, Try.ntmps22
    go_wp2_with (first | (go_at_call 12; (first | (with_reducible refine (Calls.ext_of (Check_any _ _ _ _)).mono ?_) | refine (Check_any _ _ _ _).mono ?_); rintro e w' ⟨rfl, z, rfl⟩))
    go_ret2
    exact ⟨by rw [HE.out, HB.out]; rfl, (below_ext (by repeat (first | exact Below.refl _ _ | (with_reducible refine Below.setCell ?_ (by first | (simp; done) | (simp; omega)) _) | (with_reducible refine Below.alloc ?_ (by first | (simp; done) | (simp; omega)) _) | (with_reducible refine Below.onDrewN ?_ _) | (with_reducible refine Below.drew ?_) | (with_reducible refine Below.ofExt ?_ (by first | (simp; done) | (simp; omega))))))⟩

set_option maxHeartbeats 1000000 in
theorem RDecide_any (n c f : Int) (w : World) : Calls Try.prog 29 #[.agg #[.int .i64 (n), .int .i64 (c)], .int .i64 (f)] w fun e w' => e = .returned (.tuple #[.bool (deB n c f), .int .i64 (deE n c f)]) ∧ ∃ z, w' = ext w z := by
  by_cases hc : ckE n c n = 0
  · have hcb : (ckE n c n != 0) = false := by simp [hc]
    by_cases h1 : f < 0
    · have HE := Lib.hid (show deE n c f = 3 by unfold deE; rw [if_pos (by omega)])
      have HB := Lib.hid (show deB n c f = false by unfold deB; rw [if_neg (by rw [HE.out]; decide)])
      clear hc
      go_enter Try.func29, Try.ntmps29
      go_wp2_with (first | (go_at_call 30; (first | (with_reducible refine (Calls.ext_of (RCheck_any _ _ _ _)).mono ?_) | refine (RCheck_any _ _ _ _).mono ?_); rintro e w' ⟨rfl, z, rfl⟩))
      go_ret2
      exact ⟨by rw [HE.out, HB.out]; rfl, (below_ext (by repeat (first | exact Below.refl _ _ | (with_reducible refine Below.setCell ?_ (by first | (simp; done) | (simp; omega)) _) | (with_reducible refine Below.alloc ?_ (by first | (simp; done) | (simp; omega)) _) | (with_reducible refine Below.onDrewN ?_ _) | (with_reducible refine Below.drew ?_) | (with_reducible refine Below.ofExt ?_ (by first | (simp; done) | (simp; omega))))))⟩
    · by_cases h2 : n < f
      · have HE := Lib.hid (show deE n c f = 3 by unfold deE; rw [if_pos (by omega)])
        have HB := Lib.hid (show deB n c f = false by unfold deB; rw [if_neg (by rw [HE.out]; decide)])
        clear hc
        go_enter Try.func29, Try.ntmps29
        go_wp2_with (first | (go_at_call 30; (first | (with_reducible refine (Calls.ext_of (RCheck_any _ _ _ _)).mono ?_) | refine (RCheck_any _ _ _ _).mono ?_); rintro e w' ⟨rfl, z, rfl⟩))
        go_ret2
        exact ⟨by rw [HE.out, HB.out]; rfl, (below_ext (by repeat (first | exact Below.refl _ _ | (with_reducible refine Below.setCell ?_ (by first | (simp; done) | (simp; omega)) _) | (with_reducible refine Below.alloc ?_ (by first | (simp; done) | (simp; omega)) _) | (with_reducible refine Below.onDrewN ?_ _) | (with_reducible refine Below.drew ?_) | (with_reducible refine Below.ofExt ?_ (by first | (simp; done) | (simp; omega))))))⟩
      · have HE := Lib.hid (show deE n c f = 0 by unfold deE; rw [if_neg (by omega)])
        have HB := Lib.hid (show deB n c f = decide (f ≤ c) by unfold deB; rw [if_pos HE.out])
        clear hc
        go_enter Try.func29, Try.ntmps29
        go_wp2_with (first | (go_at_call 30; (first | (with_reducible refine (Calls.ext_of (RCheck_any _ _ _ _)).mono ?_) | refine (RCheck_any _ _ _ _).mono ?_); rintro e w' ⟨rfl, z, rfl⟩))
        go_ret2
        exact ⟨by rw [HE.out, HB.out]; rfl, (below_ext (by repeat (first | exact Below.refl _ _ | (with_reducible refine Below.setCell ?_ (by first | (simp; done) | (simp; omega)) _) | (with_reducible refine Below.alloc ?_ (by first | (simp; done) | (simp; omega)) _) | (with_reducible refine Below.onDrewN ?_ _) | (with_reducible refine Below.drew ?_) | (with_reducible refine Below.ofExt ?_ (by first | (simp; done) | (simp; omega))))))⟩
  · have hcb : (ckE n c n != 0) = true := by simp [hc]
    have HE := Lib.hid (show deE n c f = 3 by unfold deE; rw [if_pos (Or.inl hc)])
    have HB := Lib.hid (show deB n c f = false by unfold deB; rw [if_neg (by rw [HE.out]; decide)])
    clear hc
    go_enter Try.func29, Try.ntmps29
    go_wp2_with (first | (go_at_call 30; (first | (with_reducible refine (Calls.ext_of (RCheck_any _ _ _ _)).mono ?_) | refine (RCheck_any _ _ _ _).mono ?_); rintro e w' ⟨rfl, z, rfl⟩))
    go_ret2
    exact ⟨by rw [HE.out, HB.out]; rfl, (below_ext (by repeat (first | exact Below.refl _ _ | (with_reducible refine Below.setCell ?_ (by first | (simp; done) | (simp; omega)) _) | (with_reducible refine Below.alloc ?_ (by first | (simp; done) | (simp; omega)) _) | (with_reducible refine Below.onDrewN ?_ _) | (with_reducible refine Below.drew ?_) | (with_reducible refine Below.ofExt ?_ (by first | (simp; done) | (simp; omega))))))⟩

set_option maxHeartbeats 4000000 in
theorem RPlan_any (l a r m : Int) (w : World) : Calls Try.prog 17 #[.agg #[.int .i64 (l), .int .i64 (a), .int .i64 (r)], .int .i64 (m)] w fun e w' => e = .returned (.tuple #[.agg #[.int .i64 (plN l a r m), .int .i64 (plC l a r m)], .int .i64 (plE l a r m)]) ∧ ∃ z, w' = ext w z := by
  cases hk : okR l a r
  · have HE := Lib.hid (plE_bad (m := m) hk)
    have HN := Lib.hid (plN_err (l := l) (a := a) (r := r) (m := m) (by rw [HE.out]; decide))
    have HC := Lib.hid (plC_err (l := l) (a := a) (r := r) (m := m) (by rw [HE.out]; decide))
    go_enter Try.func17, Try.ntmps17
    go_wp2_with (first | (go_at_call 25; (first | (with_reducible refine (Calls.ext_of (Right_any _ _ _ _)).mono ?_) | refine (Right_any _ _ _ _).mono ?_); rintro e w' ⟨rfl, z, rfl⟩) | (go_at_call 28; refine (root_any _ _ (by omega)).mono ?_; rintro e w' ⟨rfl, rfl⟩))
    exact bodyPost_ret (v := .tuple #[.agg #[.int .i64 (0), .int .i64 (0)], .int .i64 (1)]) (by simp [results, Try.results17, go_sem]) rfl ⟨by rw [HE.out, HN.out, HC.out], (below_ext (by repeat (first | exact Below.refl _ _ | (with_reducible refine Below.setCell ?_ (by first | (simp; done) | (simp; omega)) _) | (with_reducible refine Below.alloc ?_ (by first | (simp; done) | (simp; omega)) _) | (with_reducible refine Below.onDrewN ?_ _) | (with_reducible refine Below.drew ?_) | (with_reducible refine Below.ofExt ?_ (by first | (simp; done) | (simp; omega))))))⟩
  · obtain ⟨b1, b2, b3, b4, b5⟩ := ok_bd hk
    by_cases m1 : m < 2
    · have HE := Lib.hid (plE_lot hk (Or.inl m1))
      have HN := Lib.hid (plN_err (l := l) (a := a) (r := r) (m := m) (by rw [HE.out]; decide))
      have HC := Lib.hid (plC_err (l := l) (a := a) (r := r) (m := m) (by rw [HE.out]; decide))
      go_enter Try.func17, Try.ntmps17
      go_wp2_with (first | (go_at_call 25; (first | (with_reducible refine (Calls.ext_of (Right_any _ _ _ _)).mono ?_) | refine (Right_any _ _ _ _).mono ?_); rintro e w' ⟨rfl, z, rfl⟩) | (go_at_call 28; refine (root_any _ _ (by omega)).mono ?_; rintro e w' ⟨rfl, rfl⟩))
      exact bodyPost_ret (v := .tuple #[.agg #[.int .i64 (0), .int .i64 (0)], .int .i64 (3)]) (by simp [results, Try.results17, go_sem]) rfl ⟨by rw [HE.out, HN.out, HC.out], (below_ext (by repeat (first | exact Below.refl _ _ | (with_reducible refine Below.setCell ?_ (by first | (simp; done) | (simp; omega)) _) | (with_reducible refine Below.alloc ?_ (by first | (simp; done) | (simp; omega)) _) | (with_reducible refine Below.onDrewN ?_ _) | (with_reducible refine Below.drew ?_) | (with_reducible refine Below.ofExt ?_ (by first | (simp; done) | (simp; omega))))))⟩
    · by_cases m2 : 200 < m
      · have HE := Lib.hid (plE_lot hk (Or.inr m2))
        have HN := Lib.hid (plN_err (l := l) (a := a) (r := r) (m := m) (by rw [HE.out]; decide))
        have HC := Lib.hid (plC_err (l := l) (a := a) (r := r) (m := m) (by rw [HE.out]; decide))
        go_enter Try.func17, Try.ntmps17
        go_wp2_with (first | (go_at_call 25; (first | (with_reducible refine (Calls.ext_of (Right_any _ _ _ _)).mono ?_) | refine (Right_any _ _ _ _).mono ?_); rintro e w' ⟨rfl, z, rfl⟩) | (go_at_call 28; refine (root_any _ _ (by omega)).mono ?_; rintro e w' ⟨rfl, rfl⟩))
        exact bodyPost_ret (v := .tuple #[.agg #[.int .i64 (0), .int .i64 (0)], .int .i64 (3)]) (by simp [results, Try.results17, go_sem]) rfl ⟨by rw [HE.out, HN.out, HC.out], (below_ext (by repeat (first | exact Below.refl _ _ | (with_reducible refine Below.setCell ?_ (by first | (simp; done) | (simp; omega)) _) | (with_reducible refine Below.alloc ?_ (by first | (simp; done) | (simp; omega)) _) | (with_reducible refine Below.onDrewN ?_ _) | (with_reducible refine Below.drew ?_) | (with_reducible refine Below.ofExt ?_ (by first | (simp; done) | (simp; omega))))))⟩
      · by_cases l4 : l = 4
        · subst l4
          have HE := Lib.hid (plE_stop hk (show ¬ (m < 2 ∨ 200 < m) by omega))
          have HN := Lib.hid (plN_err (l := 4) (a := a) (r := r) (m := m) (by rw [HE.out]; decide))
          have HC := Lib.hid (plC_err (l := 4) (a := a) (r := r) (m := m) (by rw [HE.out]; decide))
          go_enter Try.func17, Try.ntmps17
          go_wp2_with (first | (go_at_call 25; (first | (with_reducible refine (Calls.ext_of (Right_any _ _ _ _)).mono ?_) | refine (Right_any _ _ _ _).mono ?_); rintro e w' ⟨rfl, z, rfl⟩) | (go_at_call 28; refine (root_any _ _ (by omega)).mono ?_; rintro e w' ⟨rfl, rfl⟩))
          exact bodyPost_ret (v := .tuple #[.agg #[.int .i64 (0), .int .i64 (0)], .int .i64 (8)]) (by simp [results, Try.results17, go_sem]) rfl ⟨by rw [HE.out, HN.out, HC.out], (below_ext (by repeat (first | exact Below.refl _ _ | (with_reducible refine Below.setCell ?_ (by first | (simp; done) | (simp; omega)) _) | (with_reducible refine Below.alloc ?_ (by first | (simp; done) | (simp; omega)) _) | (with_reducible refine Below.onDrewN ?_ _) | (with_reducible refine Below.drew ?_) | (with_reducible refine Below.ofExt ?_ (by first | (simp; done) | (simp; omega))))))⟩
        · have l4b : (l == 4) = false := by simpa using l4
          have HE := Lib.hid (plE_go hk (show ¬ (m < 2 ∨ 200 < m) by omega) l4)
          have HN := Lib.hid (plN_go HE.out)
          have HC := Lib.hid (plC_go HE.out)
          by_cases l1 : l = 1
          · subst l1
            have HN' := Lib.hid (HN.out.trans (by rw [if_pos rfl]))
            have HC' := Lib.hid (HC.out.trans (by rw [if_neg (by decide)]))
            obtain ⟨k, hrt, k0, k1, _, _⟩ := rt_spec (m) (by omega)
            have k0' : 0 ≤ rt (m) := by omega
            have k1' : rt (m) ≤ 30 := by omega
            clear hrt k0 k1 HN HC
            by_cases hm : m < rt (m)
            · go_enter Try.func17, Try.ntmps17
              go_wp2_with (first | (go_at_call 25; (first | (with_reducible refine (Calls.ext_of (Right_any _ _ _ _)).mono ?_) | refine (Right_any _ _ _ _).mono ?_); rintro e w' ⟨rfl, z, rfl⟩) | (go_at_call 28; refine (root_any _ _ (by omega)).mono ?_; rintro e w' ⟨rfl, rfl⟩))
              exact bodyPost_ret (v := .tuple #[.agg #[.int .i64 (m), .int .i64 (m / 5)], .int .i64 (0)]) (by simp [results, Try.results17, go_sem]) rfl ⟨by rw [HE.out, HC'.out, HN'.out, show min (rt (m)) m = m by omega], (below_ext (by repeat (first | exact Below.refl _ _ | (with_reducible refine Below.setCell ?_ (by first | (simp; done) | (simp; omega)) _) | (with_reducible refine Below.alloc ?_ (by first | (simp; done) | (simp; omega)) _) | (with_reducible refine Below.onDrewN ?_ _) | (with_reducible refine Below.drew ?_) | (with_reducible refine Below.ofExt ?_ (by first | (simp; done) | (simp; omega))))))⟩
            · go_enter Try.func17, Try.ntmps17
              go_wp2_with (first | (go_at_call 25; (first | (with_reducible refine (Calls.ext_of (Right_any _ _ _ _)).mono ?_) | refine (Right_any _ _ _ _).mono ?_); rintro e w' ⟨rfl, z, rfl⟩) | (go_at_call 28; refine (root_any _ _ (by omega)).mono ?_; rintro e w' ⟨rfl, rfl⟩))
              exact bodyPost_ret (v := .tuple #[.agg #[.int .i64 (rt (m)), .int .i64 (rt (m) / 5)], .int .i64 (0)]) (by simp [results, Try.results17, go_sem]) rfl ⟨by rw [HE.out, HC'.out, HN'.out, show min (rt (m)) m = rt (m) by omega], (below_ext (by repeat (first | exact Below.refl _ _ | (with_reducible refine Below.setCell ?_ (by first | (simp; done) | (simp; omega)) _) | (with_reducible refine Below.alloc ?_ (by first | (simp; done) | (simp; omega)) _) | (with_reducible refine Below.onDrewN ?_ _) | (with_reducible refine Below.drew ?_) | (with_reducible refine Below.ofExt ?_ (by first | (simp; done) | (simp; omega))))))⟩
          · have l1b : (l == 1) = false := by simpa using l1
            have HN' := Lib.hid (HN.out.trans (by rw [if_neg l1]))
            by_cases l3 : l = 3
            · subst l3
              have HC' := Lib.hid (HC.out.trans (by rw [if_pos rfl]))
              obtain ⟨k, hrt, k0, k1, _, _⟩ := rt_spec (4 * m) (by omega)
              have k0' : 0 ≤ rt (4 * m) := by omega
              have k1' : rt (4 * m) ≤ 30 := by omega
              clear hrt k0 k1 HN HC
              by_cases hm : m < rt (4 * m)
              · go_enter Try.func17, Try.ntmps17
                go_wp2_with (first | (go_at_call 25; (first | (with_reducible refine (Calls.ext_of (Right_any _ _ _ _)).mono ?_) | refine (Right_any _ _ _ _).mono ?_); rintro e w' ⟨rfl, z, rfl⟩) | (go_at_call 28; refine (root_any _ _ (by omega)).mono ?_; rintro e w' ⟨rfl, rfl⟩))
                exact bodyPost_ret (v := .tuple #[.agg #[.int .i64 (m), .int .i64 (m / 10)], .int .i64 (0)]) (by simp [results, Try.results17, go_sem]) rfl ⟨by rw [HE.out, HC'.out, HN'.out, show min (rt (4 * m)) m = m by omega], (below_ext (by repeat (first | exact Below.refl _ _ | (with_reducible refine Below.setCell ?_ (by first | (simp; done) | (simp; omega)) _) | (with_reducible refine Below.alloc ?_ (by first | (simp; done) | (simp; omega)) _) | (with_reducible refine Below.onDrewN ?_ _) | (with_reducible refine Below.drew ?_) | (with_reducible refine Below.ofExt ?_ (by first | (simp; done) | (simp; omega))))))⟩
              · go_enter Try.func17, Try.ntmps17
                go_wp2_with (first | (go_at_call 25; (first | (with_reducible refine (Calls.ext_of (Right_any _ _ _ _)).mono ?_) | refine (Right_any _ _ _ _).mono ?_); rintro e w' ⟨rfl, z, rfl⟩) | (go_at_call 28; refine (root_any _ _ (by omega)).mono ?_; rintro e w' ⟨rfl, rfl⟩))
                exact bodyPost_ret (v := .tuple #[.agg #[.int .i64 (rt (4 * m)), .int .i64 (rt (4 * m) / 10)], .int .i64 (0)]) (by simp [results, Try.results17, go_sem]) rfl ⟨by rw [HE.out, HC'.out, HN'.out, show min (rt (4 * m)) m = rt (4 * m) by omega], (below_ext (by repeat (first | exact Below.refl _ _ | (with_reducible refine Below.setCell ?_ (by first | (simp; done) | (simp; omega)) _) | (with_reducible refine Below.alloc ?_ (by first | (simp; done) | (simp; omega)) _) | (with_reducible refine Below.onDrewN ?_ _) | (with_reducible refine Below.drew ?_) | (with_reducible refine Below.ofExt ?_ (by first | (simp; done) | (simp; omega))))))⟩
            · have l3b : (l == 3) = false := by simpa using l3
              have HC' := Lib.hid (HC.out.trans (by rw [if_neg l3]))
              obtain rfl : l = 2 := by omega
              obtain ⟨k, hrt, k0, k1, _, _⟩ := rt_spec (4 * m) (by omega)
              have k0' : 0 ≤ rt (4 * m) := by omega
              have k1' : rt (4 * m) ≤ 30 := by omega
              clear hrt k0 k1 HN HC
              by_cases hm : m < rt (4 * m)
              · go_enter Try.func17, Try.ntmps17
                go_wp2_with (first | (go_at_call 25; (first | (with_reducible refine (Calls.ext_of (Right_any _ _ _ _)).mono ?_) | refine (Right_any _ _ _ _).mono ?_); rintro e w' ⟨rfl, z, rfl⟩) | (go_at_call 28; refine (root_any _ _ (by omega)).mono ?_; rintro e w' ⟨rfl, rfl⟩))
                exact bodyPost_ret (v := .tuple #[.agg #[.int .i64 (m), .int .i64 (m / 5)], .int .i64 (0)]) (by simp [results, Try.results17, go_sem]) rfl ⟨by rw [HE.out, HC'.out, HN'.out, show min (rt (4 * m)) m = m by omega], (below_ext (by repeat (first | exact Below.refl _ _ | (with_reducible refine Below.setCell ?_ (by first | (simp; done) | (simp; omega)) _) | (with_reducible refine Below.alloc ?_ (by first | (simp; done) | (simp; omega)) _) | (with_reducible refine Below.onDrewN ?_ _) | (with_reducible refine Below.drew ?_) | (with_reducible refine Below.ofExt ?_ (by first | (simp; done) | (simp; omega))))))⟩
              · go_enter Try.func17, Try.ntmps17
                go_wp2_with (first | (go_at_call 25; (first | (with_reducible refine (Calls.ext_of (Right_any _ _ _ _)).mono ?_) | refine (Right_any _ _ _ _).mono ?_); rintro e w' ⟨rfl, z, rfl⟩) | (go_at_call 28; refine (root_any _ _ (by omega)).mono ?_; rintro e w' ⟨rfl, rfl⟩))
                exact bodyPost_ret (v := .tuple #[.agg #[.int .i64 (rt (4 * m)), .int .i64 (rt (4 * m) / 5)], .int .i64 (0)]) (by simp [results, Try.results17, go_sem]) rfl ⟨by rw [HE.out, HC'.out, HN'.out, show min (rt (4 * m)) m = rt (4 * m) by omega], (below_ext (by repeat (first | exact Below.refl _ _ | (with_reducible refine Below.setCell ?_ (by first | (simp; done) | (simp; omega)) _) | (with_reducible refine Below.alloc ?_ (by first | (simp; done) | (simp; omega)) _) | (with_reducible refine Below.onDrewN ?_ _) | (with_reducible refine Below.drew ?_) | (with_reducible refine Below.ofExt ?_ (by first | (simp; done) | (simp; omega))))))⟩

set_option maxHeartbeats 4000000 in
theorem Plan_any (l a r m : Int) (w : World) : Calls Try.prog 10 #[.agg #[.int .i64 (l), .int .i64 (a), .int .i64 (r)], .int .i64 (m)] w fun e w' => e = .returned (.tuple #[.agg #[.int .i64 (plN l a r m), .int .i64 (plC l a r m)], .int .i64 (plE l a r m)]) ∧ ∃ z, w' = ext w z := by
  cases hk : okR l a r
  · have HE := Lib.hid (plE_bad (m := m) hk)
    have HN := Lib.hid (plN_err (l := l) (a := a) (r := r) (m := m) (by rw [HE.out]; decide))
    have HC := Lib.hid (plC_err (l := l) (a := a) (r := r) (m := m) (by rw [HE.out]; decide))
    go_enter Try.func10, Try.ntmps10
    go_wp2_with (first | (go_at_call 21; (first | (with_reducible refine (Calls.ext_of (valid_any _ _ _ _)).mono ?_) | refine (valid_any _ _ _ _).mono ?_); rintro e w' ⟨rfl, z, rfl⟩))
    exact bodyPost_ret (v := .tuple #[.agg #[.int .i64 (0), .int .i64 (0)], .int .i64 (1)]) (by simp [results, Try.results10, go_sem]) rfl ⟨by rw [HE.out, HN.out, HC.out], (below_ext (by repeat (first | exact Below.refl _ _ | (with_reducible refine Below.setCell ?_ (by first | (simp; done) | (simp; omega)) _) | (with_reducible refine Below.alloc ?_ (by first | (simp; done) | (simp; omega)) _) | (with_reducible refine Below.onDrewN ?_ _) | (with_reducible refine Below.drew ?_) | (with_reducible refine Below.ofExt ?_ (by first | (simp; done) | (simp; omega))))))⟩
  · obtain ⟨b1, b2, b3, b4, b5⟩ := ok_bd hk
    by_cases m1 : m < 2
    · have HE := Lib.hid (plE_lot hk (Or.inl m1))
      have HN := Lib.hid (plN_err (l := l) (a := a) (r := r) (m := m) (by rw [HE.out]; decide))
      have HC := Lib.hid (plC_err (l := l) (a := a) (r := r) (m := m) (by rw [HE.out]; decide))
      go_enter Try.func10, Try.ntmps10
      go_wp2_with (first | (go_at_call 21; (first | (with_reducible refine (Calls.ext_of (valid_any _ _ _ _)).mono ?_) | refine (valid_any _ _ _ _).mono ?_); rintro e w' ⟨rfl, z, rfl⟩))
      exact bodyPost_ret (v := .tuple #[.agg #[.int .i64 (0), .int .i64 (0)], .int .i64 (3)]) (by simp [results, Try.results10, go_sem]) rfl ⟨by rw [HE.out, HN.out, HC.out], (below_ext (by repeat (first | exact Below.refl _ _ | (with_reducible refine Below.setCell ?_ (by first | (simp; done) | (simp; omega)) _) | (with_reducible refine Below.alloc ?_ (by first | (simp; done) | (simp; omega)) _) | (with_reducible refine Below.onDrewN ?_ _) | (with_reducible refine Below.drew ?_) | (with_reducible refine Below.ofExt ?_ (by first | (simp; done) | (simp; omega))))))⟩
    · by_cases m2 : 200 < m
      · have HE := Lib.hid (plE_lot hk (Or.inr m2))
        have HN := Lib.hid (plN_err (l := l) (a := a) (r := r) (m := m) (by rw [HE.out]; decide))
        have HC := Lib.hid (plC_err (l := l) (a := a) (r := r) (m := m) (by rw [HE.out]; decide))
        go_enter Try.func10, Try.ntmps10
        go_wp2_with (first | (go_at_call 21; (first | (with_reducible refine (Calls.ext_of (valid_any _ _ _ _)).mono ?_) | refine (valid_any _ _ _ _).mono ?_); rintro e w' ⟨rfl, z, rfl⟩))
        exact bodyPost_ret (v := .tuple #[.agg #[.int .i64 (0), .int .i64 (0)], .int .i64 (3)]) (by simp [results, Try.results10, go_sem]) rfl ⟨by rw [HE.out, HN.out, HC.out], (below_ext (by repeat (first | exact Below.refl _ _ | (with_reducible refine Below.setCell ?_ (by first | (simp; done) | (simp; omega)) _) | (with_reducible refine Below.alloc ?_ (by first | (simp; done) | (simp; omega)) _) | (with_reducible refine Below.onDrewN ?_ _) | (with_reducible refine Below.drew ?_) | (with_reducible refine Below.ofExt ?_ (by first | (simp; done) | (simp; omega))))))⟩
      · by_cases l4 : l = 4
        · subst l4
          have HE := Lib.hid (plE_stop hk (show ¬ (m < 2 ∨ 200 < m) by omega))
          have HN := Lib.hid (plN_err (l := 4) (a := a) (r := r) (m := m) (by rw [HE.out]; decide))
          have HC := Lib.hid (plC_err (l := 4) (a := a) (r := r) (m := m) (by rw [HE.out]; decide))
          go_enter Try.func10, Try.ntmps10
          go_wp2_with (first | (go_at_call 21; (first | (with_reducible refine (Calls.ext_of (valid_any _ _ _ _)).mono ?_) | refine (valid_any _ _ _ _).mono ?_); rintro e w' ⟨rfl, z, rfl⟩))
          exact bodyPost_ret (v := .tuple #[.agg #[.int .i64 (0), .int .i64 (0)], .int .i64 (8)]) (by simp [results, Try.results10, go_sem]) rfl ⟨by rw [HE.out, HN.out, HC.out], (below_ext (by repeat (first | exact Below.refl _ _ | (with_reducible refine Below.setCell ?_ (by first | (simp; done) | (simp; omega)) _) | (with_reducible refine Below.alloc ?_ (by first | (simp; done) | (simp; omega)) _) | (with_reducible refine Below.onDrewN ?_ _) | (with_reducible refine Below.drew ?_) | (with_reducible refine Below.ofExt ?_ (by first | (simp; done) | (simp; omega))))))⟩
        · have l4b : (l == 4) = false := by simpa using l4
          have HE := Lib.hid (plE_go hk (show ¬ (m < 2 ∨ 200 < m) by omega) l4)
          have HN := Lib.hid (plN_go HE.out)
          have HC := Lib.hid (plC_go HE.out)
          by_cases l1 : l = 1
          · subst l1
            have HN' := Lib.hid (HN.out.trans (by rw [if_pos rfl]))
            have HC' := Lib.hid (HC.out.trans (by rw [if_neg (by decide)]))
            clear HN HC
            go_enter Try.func10, Try.ntmps10
            go_wp2_with (first | (go_at_call 21; (first | (with_reducible refine (Calls.ext_of (valid_any _ _ _ _)).mono ?_) | refine (valid_any _ _ _ _).mono ?_); rintro e w' ⟨rfl, z, rfl⟩))
            go_loop [8] (fun t => ∃ k : Int, 0 ≤ k ∧ k ≤ 30 ∧ t = .int .i64 k ∧ Small (m) k) (fun t => (40 - intOf t).toNat)
            case atStart => exact ⟨0, by omega, by omega, rfl, small_zero _⟩
            case round =>
              obtain ⟨k, h0, h1, rfl, hs⟩ := hrel
              have HS := Lib.hid hs
              clear hs
              obtain ⟨q1, q2⟩ := sq_bd h0 h1
              by_cases hlt : k * k < m
              · have h2 := sq_lt (by omega) h0
                go_wp2
                go_round
                case rel => exact ⟨k + 1, by omega, by omega, rfl, small_succ HS.out hlt⟩
                case measure => simp [intOf]; omega
              · have HR := Lib.hid (rt_small h0 h1 HS.out (show m ≤ k * k by omega))
                by_cases hm : m < k
                · go_wp2
                  exact bodyPost_ret (v := .tuple #[.agg #[.int .i64 (m), .int .i64 ((m) / 5)], .int .i64 (0)]) (by simp [results, Try.results10, go_sem]) rfl ⟨by rw [HE.out, HC'.out, HN'.out, HR.out, show min k m = m by omega], (below_ext (by repeat (first | exact Below.refl _ _ | (with_reducible refine Below.setCell ?_ (by first | (simp; done) | (simp; omega)) _) | (with_reducible refine Below.alloc ?_ (by first | (simp; done) | (simp; omega)) _) | (with_reducible refine Below.onDrewN ?_ _) | (with_reducible refine Below.drew ?_) | (with_reducible refine Below.ofExt ?_ (by first | (simp; done) | (simp; omega))))))⟩
                · go_wp2
                  exact bodyPost_ret (v := .tuple #[.agg #[.int .i64 (k), .int .i64 ((k) / 5)], .int .i64 (0)]) (by simp [results, Try.results10, go_sem]) rfl ⟨by rw [HE.out, HC'.out, HN'.out, HR.out, show min k m = k by omega], (below_ext (by repeat (first | exact Below.refl _ _ | (with_reducible refine Below.setCell ?_ (by first | (simp; done) | (simp; omega)) _) | (with_reducible refine Below.alloc ?_ (by first | (simp; done) | (simp; omega)) _) | (with_reducible refine Below.onDrewN ?_ _) | (with_reducible refine Below.drew ?_) | (with_reducible refine Below.ofExt ?_ (by first | (simp; done) | (simp; omega))))))⟩
          · have l1b : (l == 1) = false := by simpa using l1
            have HN' := Lib.hid (HN.out.trans (by rw [if_neg l1]))
            by_cases l3 : l = 3
            · subst l3
              have HC' := Lib.hid (HC.out.trans (by rw [if_pos rfl]))
              clear HN HC
              go_enter Try.func10, Try.ntmps10
              go_wp2_with (first | (go_at_call 21; (first | (with_reducible refine (Calls.ext_of (valid_any _ _ _ _)).mono ?_) | refine (valid_any _ _ _ _).mono ?_); rintro e w' ⟨rfl, z, rfl⟩))
              go_loop [8] (fun t => ∃ k : Int, 0 ≤ k ∧ k ≤ 30 ∧ t = .int .i64 k ∧ Small (4 * m) k) (fun t => (40 - intOf t).toNat)
              case atStart => exact ⟨0, by omega, by omega, rfl, small_zero _⟩
              case round =>
                obtain ⟨k, h0, h1, rfl, hs⟩ := hrel
                have HS := Lib.hid hs
                clear hs
                obtain ⟨q1, q2⟩ := sq_bd h0 h1
                by_cases hlt : k * k < 4 * m
                · have h2 := sq_lt (by omega) h0
                  go_wp2
                  go_round
                  case rel => exact ⟨k + 1, by omega, by omega, rfl, small_succ HS.out hlt⟩
                  case measure => simp [intOf]; omega
                · have HR := Lib.hid (rt_small h0 h1 HS.out (show 4 * m ≤ k * k by omega))
                  by_cases hm : m < k
                  · go_wp2
                    exact bodyPost_ret (v := .tuple #[.agg #[.int .i64 (m), .int .i64 ((m) / 10)], .int .i64 (0)]) (by simp [results, Try.results10, go_sem]) rfl ⟨by rw [HE.out, HC'.out, HN'.out, HR.out, show min k m = m by omega], (below_ext (by repeat (first | exact Below.refl _ _ | (with_reducible refine Below.setCell ?_ (by first | (simp; done) | (simp; omega)) _) | (with_reducible refine Below.alloc ?_ (by first | (simp; done) | (simp; omega)) _) | (with_reducible refine Below.onDrewN ?_ _) | (with_reducible refine Below.drew ?_) | (with_reducible refine Below.ofExt ?_ (by first | (simp; done) | (simp; omega))))))⟩
                  · go_wp2
                    exact bodyPost_ret (v := .tuple #[.agg #[.int .i64 (k), .int .i64 ((k) / 10)], .int .i64 (0)]) (by simp [results, Try.results10, go_sem]) rfl ⟨by rw [HE.out, HC'.out, HN'.out, HR.out, show min k m = k by omega], (below_ext (by repeat (first | exact Below.refl _ _ | (with_reducible refine Below.setCell ?_ (by first | (simp; done) | (simp; omega)) _) | (with_reducible refine Below.alloc ?_ (by first | (simp; done) | (simp; omega)) _) | (with_reducible refine Below.onDrewN ?_ _) | (with_reducible refine Below.drew ?_) | (with_reducible refine Below.ofExt ?_ (by first | (simp; done) | (simp; omega))))))⟩
            · have l3b : (l == 3) = false := by simpa using l3
              have HC' := Lib.hid (HC.out.trans (by rw [if_neg l3]))
              obtain rfl : l = 2 := by omega
              clear HN HC
              go_enter Try.func10, Try.ntmps10
              go_wp2_with (first | (go_at_call 21; (first | (with_reducible refine (Calls.ext_of (valid_any _ _ _ _)).mono ?_) | refine (valid_any _ _ _ _).mono ?_); rintro e w' ⟨rfl, z, rfl⟩))
              go_loop [8] (fun t => ∃ k : Int, 0 ≤ k ∧ k ≤ 30 ∧ t = .int .i64 k ∧ Small (4 * m) k) (fun t => (40 - intOf t).toNat)
              case atStart => exact ⟨0, by omega, by omega, rfl, small_zero _⟩
              case round =>
                obtain ⟨k, h0, h1, rfl, hs⟩ := hrel
                have HS := Lib.hid hs
                clear hs
                obtain ⟨q1, q2⟩ := sq_bd h0 h1
                by_cases hlt : k * k < 4 * m
                · have h2 := sq_lt (by omega) h0
                  go_wp2
                  go_round
                  case rel => exact ⟨k + 1, by omega, by omega, rfl, small_succ HS.out hlt⟩
                  case measure => simp [intOf]; omega
                · have HR := Lib.hid (rt_small h0 h1 HS.out (show 4 * m ≤ k * k by omega))
                  by_cases hm : m < k
                  · go_wp2
                    exact bodyPost_ret (v := .tuple #[.agg #[.int .i64 (m), .int .i64 ((m) / 5)], .int .i64 (0)]) (by simp [results, Try.results10, go_sem]) rfl ⟨by rw [HE.out, HC'.out, HN'.out, HR.out, show min k m = m by omega], (below_ext (by repeat (first | exact Below.refl _ _ | (with_reducible refine Below.setCell ?_ (by first | (simp; done) | (simp; omega)) _) | (with_reducible refine Below.alloc ?_ (by first | (simp; done) | (simp; omega)) _) | (with_reducible refine Below.onDrewN ?_ _) | (with_reducible refine Below.drew ?_) | (with_reducible refine Below.ofExt ?_ (by first | (simp; done) | (simp; omega))))))⟩
                  · go_wp2
                    exact bodyPost_ret (v := .tuple #[.agg #[.int .i64 (k), .int .i64 ((k) / 5)], .int .i64 (0)]) (by simp [results, Try.results10, go_sem]) rfl ⟨by rw [HE.out, HC'.out, HN'.out, HR.out, show min k m = k by omega], (below_ext (by repeat (first | exact Below.refl _ _ | (with_reducible refine Below.setCell ?_ (by first | (simp; done) | (simp; omega)) _) | (with_reducible refine Below.alloc ?_ (by first | (simp; done) | (simp; omega)) _) | (with_reducible refine Below.onDrewN ?_ _) | (with_reducible refine Below.drew ?_) | (with_reducible refine Below.ofExt ?_ (by first | (simp; done) | (simp; omega))))))⟩

end Go.Proofs.Ytnnedgdbbecmcaa
