/-
  StripeAgain returns true for every repeat and all points; no condition.
-/
import Derived.Test.YtlllamcaamlbgaaMul
import Derived.Test.YtlllamcaamlbgaaOpen
namespace Go.Proofs.Ytlllamcaamlbgaa
open Go.RowKit Go.ChangeShapes Go.WideShapes Go.ChangeAt Go.Joins

theorem far_bd {a b : Int} (h : farB a b = false) : -1048576 ≤ a ∧ a ≤ 1048576 ∧ -1048576 ≤ b ∧ b ≤ 1048576 := by
  unfold farB at h
  simp at h
  omega
theorem far_half {a b : Int} (h : farB (bnd a * bnd 2) (bnd b * bnd 2) = false) : -524288 ≤ a ∧ a ≤ 524288 ∧ -524288 ≤ b ∧ b ≤ 524288 := by
  rw [show bnd 2 = 2 from rfl] at h
  unfold farB bnd at h
  simp at h
  omega
set_option maxHeartbeats 4000000 in
theorem again_early (x y a0 a1 b0 b1 c0 c1 : Int) (w : World) (h : farB (bnd a0 * bnd 2) (bnd a1 * bnd 2) = true ∨ farB (bnd b0 * bnd 2) (bnd b1 * bnd 2) = true ∨ farB (bnd c0 * bnd 2) (bnd c1 * bnd 2) = true ∨ c0 < 0 ∨ c1 < 0) :
    Calls Try.prog 9 #[.agg #[.int .i64 (x), .int .i64 (y)], .agg #[.int .i64 (a0), .int .i64 (a1), .int .i64 (b0), .int .i64 (b1), .int .i64 (c0), .int .i64 (c1)]] w fun e w' => e = .returned (.bool true) ∧ ∃ z, w' = ext w z := by
  cases p1 : farB (bnd a0 * bnd 2) (bnd a1 * bnd 2)
  · cases p2 : farB (bnd b0 * bnd 2) (bnd b1 * bnd 2)
    · cases p3 : farB (bnd c0 * bnd 2) (bnd c1 * bnd 2)
      · by_cases p4 : c0 < 0
        · clear h
          go_enter Try.func9, Try.ntmps9
          go_wp2_with (first | (go_at_call 20; (first | (with_reducible refine (Calls.ext_of (times_any _ _ _ _ _)).mono ?_) | refine (times_any _ _ _ _ _).mono ?_); rintro e w' ⟨rfl, z, rfl⟩) | (go_at_call 19; (first | (with_reducible refine (Calls.ext_of (far_any _ _ _)).mono ?_) | refine (far_any _ _ _).mono ?_); rintro e w' ⟨rfl, z, rfl⟩) | (go_at_call 14; (first | (with_reducible refine (Calls.ext_of (alive_any _)).mono ?_) | refine (alive_any _).mono ?_); rintro e w' ⟨rfl, z, rfl⟩) | (go_at_call 17; (first | (with_reducible refine (Calls.ext_of (Next_any _ _ _ _ _ _ _)).mono ?_) | refine (Next_any _ _ _ _ _ _ _).mono ?_); rintro e w' ⟨rfl, z, rfl⟩))
          go_ret
          exact ⟨rfl, (below_ext (by repeat (first | exact Below.refl _ _ | (with_reducible refine Below.setCell ?_ (by first | (simp; done) | (simp; omega)) _) | (with_reducible refine Below.alloc ?_ (by first | (simp; done) | (simp; omega)) _) | (with_reducible refine Below.onDrewN ?_ _) | (with_reducible refine Below.drew ?_) | (with_reducible refine Below.ofExt ?_ (by first | (simp; done) | (simp; omega))))))⟩
        · have p5 : c1 < 0 := by
            rcases h with h | h | h | h | h
            · rw [p1] at h; cases h
            · rw [p2] at h; cases h
            · rw [p3] at h; cases h
            · exact absurd h p4
            · exact h
          clear h
          go_enter Try.func9, Try.ntmps9
          go_wp2_with (first | (go_at_call 20; (first | (with_reducible refine (Calls.ext_of (times_any _ _ _ _ _)).mono ?_) | refine (times_any _ _ _ _ _).mono ?_); rintro e w' ⟨rfl, z, rfl⟩) | (go_at_call 19; (first | (with_reducible refine (Calls.ext_of (far_any _ _ _)).mono ?_) | refine (far_any _ _ _).mono ?_); rintro e w' ⟨rfl, z, rfl⟩) | (go_at_call 14; (first | (with_reducible refine (Calls.ext_of (alive_any _)).mono ?_) | refine (alive_any _).mono ?_); rintro e w' ⟨rfl, z, rfl⟩) | (go_at_call 17; (first | (with_reducible refine (Calls.ext_of (Next_any _ _ _ _ _ _ _)).mono ?_) | refine (Next_any _ _ _ _ _ _ _).mono ?_); rintro e w' ⟨rfl, z, rfl⟩))
          go_ret
          exact ⟨rfl, (below_ext (by repeat (first | exact Below.refl _ _ | (with_reducible refine Below.setCell ?_ (by first | (simp; done) | (simp; omega)) _) | (with_reducible refine Below.alloc ?_ (by first | (simp; done) | (simp; omega)) _) | (with_reducible refine Below.onDrewN ?_ _) | (with_reducible refine Below.drew ?_) | (with_reducible refine Below.ofExt ?_ (by first | (simp; done) | (simp; omega))))))⟩
      · clear h
        go_enter Try.func9, Try.ntmps9
        go_wp2_with (first | (go_at_call 20; (first | (with_reducible refine (Calls.ext_of (times_any _ _ _ _ _)).mono ?_) | refine (times_any _ _ _ _ _).mono ?_); rintro e w' ⟨rfl, z, rfl⟩) | (go_at_call 19; (first | (with_reducible refine (Calls.ext_of (far_any _ _ _)).mono ?_) | refine (far_any _ _ _).mono ?_); rintro e w' ⟨rfl, z, rfl⟩) | (go_at_call 14; (first | (with_reducible refine (Calls.ext_of (alive_any _)).mono ?_) | refine (alive_any _).mono ?_); rintro e w' ⟨rfl, z, rfl⟩) | (go_at_call 17; (first | (with_reducible refine (Calls.ext_of (Next_any _ _ _ _ _ _ _)).mono ?_) | refine (Next_any _ _ _ _ _ _ _).mono ?_); rintro e w' ⟨rfl, z, rfl⟩))
        go_ret
        exact ⟨rfl, (below_ext (by repeat (first | exact Below.refl _ _ | (with_reducible refine Below.setCell ?_ (by first | (simp; done) | (simp; omega)) _) | (with_reducible refine Below.alloc ?_ (by first | (simp; done) | (simp; omega)) _) | (with_reducible refine Below.onDrewN ?_ _) | (with_reducible refine Below.drew ?_) | (with_reducible refine Below.ofExt ?_ (by first | (simp; done) | (simp; omega))))))⟩
    · clear h
      go_enter Try.func9, Try.ntmps9
      go_wp2_with (first | (go_at_call 20; (first | (with_reducible refine (Calls.ext_of (times_any _ _ _ _ _)).mono ?_) | refine (times_any _ _ _ _ _).mono ?_); rintro e w' ⟨rfl, z, rfl⟩) | (go_at_call 19; (first | (with_reducible refine (Calls.ext_of (far_any _ _ _)).mono ?_) | refine (far_any _ _ _).mono ?_); rintro e w' ⟨rfl, z, rfl⟩) | (go_at_call 14; (first | (with_reducible refine (Calls.ext_of (alive_any _)).mono ?_) | refine (alive_any _).mono ?_); rintro e w' ⟨rfl, z, rfl⟩) | (go_at_call 17; (first | (with_reducible refine (Calls.ext_of (Next_any _ _ _ _ _ _ _)).mono ?_) | refine (Next_any _ _ _ _ _ _ _).mono ?_); rintro e w' ⟨rfl, z, rfl⟩))
      go_ret
      exact ⟨rfl, (below_ext (by repeat (first | exact Below.refl _ _ | (with_reducible refine Below.setCell ?_ (by first | (simp; done) | (simp; omega)) _) | (with_reducible refine Below.alloc ?_ (by first | (simp; done) | (simp; omega)) _) | (with_reducible refine Below.onDrewN ?_ _) | (with_reducible refine Below.drew ?_) | (with_reducible refine Below.ofExt ?_ (by first | (simp; done) | (simp; omega))))))⟩
  · clear h
    go_enter Try.func9, Try.ntmps9
    go_wp2_with (first | (go_at_call 20; (first | (with_reducible refine (Calls.ext_of (times_any _ _ _ _ _)).mono ?_) | refine (times_any _ _ _ _ _).mono ?_); rintro e w' ⟨rfl, z, rfl⟩) | (go_at_call 19; (first | (with_reducible refine (Calls.ext_of (far_any _ _ _)).mono ?_) | refine (far_any _ _ _).mono ?_); rintro e w' ⟨rfl, z, rfl⟩) | (go_at_call 14; (first | (with_reducible refine (Calls.ext_of (alive_any _)).mono ?_) | refine (alive_any _).mono ?_); rintro e w' ⟨rfl, z, rfl⟩) | (go_at_call 17; (first | (with_reducible refine (Calls.ext_of (Next_any _ _ _ _ _ _ _)).mono ?_) | refine (Next_any _ _ _ _ _ _ _).mono ?_); rintro e w' ⟨rfl, z, rfl⟩))
    go_ret
    exact ⟨rfl, (below_ext (by repeat (first | exact Below.refl _ _ | (with_reducible refine Below.setCell ?_ (by first | (simp; done) | (simp; omega)) _) | (with_reducible refine Below.alloc ?_ (by first | (simp; done) | (simp; omega)) _) | (with_reducible refine Below.onDrewN ?_ _) | (with_reducible refine Below.drew ?_) | (with_reducible refine Below.ofExt ?_ (by first | (simp; done) | (simp; omega))))))⟩

set_option maxHeartbeats 8000000 in
theorem again_main (x y a0 a1 b0 b1 c0 c1 : Int) (w : World) (p1 : farB (bnd a0 * bnd 2) (bnd a1 * bnd 2) = false) (p2 : farB (bnd b0 * bnd 2) (bnd b1 * bnd 2) = false) (p3 : farB (bnd c0 * bnd 2) (bnd c1 * bnd 2) = false) (p4 : 0 ≤ c0) (p5 : 0 ≤ c1) :
    Calls Try.prog 9 #[.agg #[.int .i64 (x), .int .i64 (y)], .agg #[.int .i64 (a0), .int .i64 (a1), .int .i64 (b0), .int .i64 (b1), .int .i64 (c0), .int .i64 (c1)]] w fun e w' => e = .returned (.bool true) ∧ ∃ z, w' = ext w z := by
  obtain ⟨r1, r2, r3, r4⟩ := far_half p1
  obtain ⟨s1, s2, s3, s4⟩ := far_half p2
  obtain ⟨t1, t2, t3, t4⟩ := far_half p3
  have hx := per_bd x
  have hy := per_bd y
  have n1 : nx (per x) (lim a0) (lim b0) ≤ nx (per x) (lim (a0 + c0)) (lim b0) := by rw [lim_id a0 (by omega) (by omega), lim_id (a0 + c0) (by omega) (by omega)]; exact nx_mono _ _ _ _ hx.1 p4
  have n2 : nx (per y) (lim a1) (lim b1) ≤ nx (per y) (lim (a1 + c1)) (lim b1) := by rw [lim_id a1 (by omega) (by omega), lim_id (a1 + c1) (by omega) (by omega)]; exact nx_mono _ _ _ _ hy.1 p5
  clear hx hy
  cases p6 : farB (nx (per x) (lim a0) (lim b0)) (nx (per y) (lim a1) (lim b1))
  · have e1 : eq2 (nx (per x) (lim (nx (per x) (lim a0) (lim b0))) (lim b0)) (nx (per y) (lim (nx (per y) (lim a1) (lim b1))) (lim b1)) (nx (per x) (lim a0) (lim b0)) (nx (per y) (lim a1) (lim b1)) = true := by
      obtain ⟨q1, q2, q3, q4⟩ := far_bd p6
      rw [lim_id _ q1 q2, lim_id _ q3 q4, (nx_eq _ _ _).2 (nx_md _ _ _), (nx_eq _ _ _).2 (nx_md _ _ _)]
      simp [eq2]
    go_enter Try.func9, Try.ntmps9
    go_wp2_with (first | (go_at_call 20; (first | (with_reducible refine (Calls.ext_of (times_any _ _ _ _ _)).mono ?_) | refine (times_any _ _ _ _ _).mono ?_); rintro e w' ⟨rfl, z, rfl⟩) | (go_at_call 19; (first | (with_reducible refine (Calls.ext_of (far_any _ _ _)).mono ?_) | refine (far_any _ _ _).mono ?_); rintro e w' ⟨rfl, z, rfl⟩) | (go_at_call 14; (first | (with_reducible refine (Calls.ext_of (alive_any _)).mono ?_) | refine (alive_any _).mono ?_); rintro e w' ⟨rfl, z, rfl⟩) | (go_at_call 17; (first | (with_reducible refine (Calls.ext_of (Next_any _ _ _ _ _ _ _)).mono ?_) | refine (Next_any _ _ _ _ _ _ _).mono ?_); rintro e w' ⟨rfl, z, rfl⟩))
    refine wp_region_ext (by kernel_rfl) (by kernel_rfl) ?_
    repeat (go_big_quiet_step ((first | (go_at_call 19; first | (with_reducible exact Calls.ext_to (far_any _ _ _) (congrArg Value.bool p6)) | exact Calls.ext_of (far_any _ _ _)) | (go_at_call 17; exact Calls.ext_of (Next_any _ _ _ _ _ _ _)) | (go_at_call 14; exact Calls.ext_of (alive_any _)))))
    refine wpQuiet_nil ?_
    rintro _ ⟨k, rfl⟩
    go_wp2
    go_ret
    exact ⟨rfl, (below_ext (by repeat (first | exact Below.refl _ _ | (with_reducible refine Below.setCell ?_ (by first | (simp; done) | (simp; omega)) _) | (with_reducible refine Below.alloc ?_ (by first | (simp; done) | (simp; omega)) _) | (with_reducible refine Below.onDrewN ?_ _) | (with_reducible refine Below.drew ?_) | (with_reducible refine Below.ofExt ?_ (by first | (simp; done) | (simp; omega))))))⟩
  · go_enter Try.func9, Try.ntmps9
    go_wp2_with (first | (go_at_call 20; (first | (with_reducible refine (Calls.ext_of (times_any _ _ _ _ _)).mono ?_) | refine (times_any _ _ _ _ _).mono ?_); rintro e w' ⟨rfl, z, rfl⟩) | (go_at_call 19; (first | (with_reducible refine (Calls.ext_of (far_any _ _ _)).mono ?_) | refine (far_any _ _ _).mono ?_); rintro e w' ⟨rfl, z, rfl⟩) | (go_at_call 14; (first | (with_reducible refine (Calls.ext_of (alive_any _)).mono ?_) | refine (alive_any _).mono ?_); rintro e w' ⟨rfl, z, rfl⟩) | (go_at_call 17; (first | (with_reducible refine (Calls.ext_of (Next_any _ _ _ _ _ _ _)).mono ?_) | refine (Next_any _ _ _ _ _ _ _).mono ?_); rintro e w' ⟨rfl, z, rfl⟩))
    refine wp_region_ext (by kernel_rfl) (by kernel_rfl) ?_
    repeat (go_big_quiet_step ((first | (go_at_call 19; first | (with_reducible exact Calls.ext_to (far_any _ _ _) (congrArg Value.bool p6)) | exact Calls.ext_of (far_any _ _ _)) | (go_at_call 17; exact Calls.ext_of (Next_any _ _ _ _ _ _ _)) | (go_at_call 14; exact Calls.ext_of (alive_any _)))))
    refine wpQuiet_nil ?_
    rintro _ ⟨k, rfl⟩
    go_wp2
    go_ret
    exact ⟨rfl, (below_ext (by repeat (first | exact Below.refl _ _ | (with_reducible refine Below.setCell ?_ (by first | (simp; done) | (simp; omega)) _) | (with_reducible refine Below.alloc ?_ (by first | (simp; done) | (simp; omega)) _) | (with_reducible refine Below.onDrewN ?_ _) | (with_reducible refine Below.drew ?_) | (with_reducible refine Below.ofExt ?_ (by first | (simp; done) | (simp; omega))))))⟩

theorem again_walk (x y a0 a1 b0 b1 c0 c1 : Int) (w : World) : Calls Try.prog 9 #[.agg #[.int .i64 (x), .int .i64 (y)], .agg #[.int .i64 (a0), .int .i64 (a1), .int .i64 (b0), .int .i64 (b1), .int .i64 (c0), .int .i64 (c1)]] w fun e w' => e = .returned (.bool true) ∧ ∃ z, w' = ext w z := by
  cases p1 : farB (bnd a0 * bnd 2) (bnd a1 * bnd 2)
  · cases p2 : farB (bnd b0 * bnd 2) (bnd b1 * bnd 2)
    · cases p3 : farB (bnd c0 * bnd 2) (bnd c1 * bnd 2)
      · by_cases p4 : c0 < 0
        · exact again_early x y a0 a1 b0 b1 c0 c1 w (by simp [p4])
        · by_cases p5 : c1 < 0
          · exact again_early x y a0 a1 b0 b1 c0 c1 w (by simp [p5])
          · exact again_main x y a0 a1 b0 b1 c0 c1 w p1 p2 p3 (by omega) (by omega)
      · exact again_early x y a0 a1 b0 b1 c0 c1 w (by simp [p3])
    · exact again_early x y a0 a1 b0 b1 c0 c1 w (by simp [p2])
  · exact again_early x y a0 a1 b0 b1 c0 c1 w (by simp [p1])

set_option maxRecDepth 100000 in
theorem stripeAgain_lifted (os : Os) (started : os.Started) (H : Type) (enc : TypeId × Value → H) :
    ReturnsInHanded {} Try.checked os 9 .any (Rows.stripeAgainSpec.pre6 enc Try.prog Try.f9 Rows.stripeAgainRow.domain false) (Rows.stripeAgainSpec.post enc Try.prog Try.f9 false true false false) := by
  refine returnsInHanded_of_change (C := Try.checked) own started (by kernel_rfl) Try.func9
    (ChangeSpec.witness6 (enc := enc) (C := Try.checked) false ⟨#[], #[.agg #[.int .i64 0, .int .i64 0], .agg #[.int .i64 0, .int .i64 0, .int .i64 0, .int .i64 0, .int .i64 0, .int .i64 0]], []⟩ 8 (by kernel_rfl) (by kernel_rfl) (by kernel_rfl) (by kernel_rfl)) ?_
  intro W base args ds gs before hval0 hW hcnd _
  have hval : ∀ (j : Nat) t v, Try.f9.params[j]? = some t → args[j]? = some v → Value.okWide Try.prog W .any base t v := hval0
  have hW' := hW
  obtain ⟨p, q, hA0, hV, rfl, hfz, hnd⟩ := hW
  have hA : DataW.TrodAll enc Try.prog W 0 (fun _ => true) true Try.f9.params.toList args.toList ds p := hA0
  rw [Try.params9] at hA hval
  obtain ⟨v0, v1, d0, d1, p0, p1, rfl, rfl, rfl, h0, h1⟩ := trodAll_two hA
  obtain ⟨x, y, rfl, wx, wy⟩ := open_pair (t := 23) Try.underlying23 Try.cells23 (hval 0 23 v0 rfl rfl) h0
  obtain ⟨a0, a1, b0, b1, c0, c1, rfl, ⟨f0, f1⟩, ⟨f2, f3⟩, ⟨f4, f5⟩⟩ := open_three Try.underlying33 (hval 1 33 v1 rfl rfl) h1
  refine (again_walk x y a0 a1 b0 b1 c0 c1 W).mono fun e W' ⟨he, z, hz⟩ => ?_
  subst he hz
  exact ⟨_, rfl, law_post rfl (by kernel_rfl) (by kernel_rfl) Try.underlying4 hW' (fun _ => ⟨rfl, rfl, rfl⟩) (ext_below _ _)⟩

theorem stripeAgain_holds : Rows.StripeAgainSaid :=
  OpenClaim.holds_of_wide 9 Try.f9 rfl rfl rfl rfl rfl rfl rfl ⟨rfl, rfl, rfl, rfl, rfl⟩ rfl rfl rfl rfl rfl (by kernel_rfl) Try.func9 (by kernel_rfl)
    (of_decide_eq_true (by kernel_rfl)) (by unfold Func.isWrapper; first | (rw [if_pos (by decide +kernel)]; kernel_rfl) | (rw [if_neg (by decide +kernel)]; exact ⟨rfl, rfl⟩))
    (fun os started H enc _ => stripeAgain_lifted os started H enc)
#print axioms stripeAgain_holds
end Go.Proofs.Ytlllamcaamlbgaa
