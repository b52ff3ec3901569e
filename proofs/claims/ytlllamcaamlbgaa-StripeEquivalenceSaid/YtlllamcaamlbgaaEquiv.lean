/-
  StripeEquivalence returns true for every repeat and all points; no condition.
-/
import Derived.Test.YtlllamcaamlbgaaBool
import Derived.Test.YtlllamcaamlbgaaOpen
namespace Go.Proofs.Ytlllamcaamlbgaa
open Go.RowKit Go.ChangeShapes Go.WideShapes Go.ChangeAt Go.Joins

theorem eq2_symm (a b c d : Int) : eq2 a b c d = eq2 c d a b := by
  unfold eq2
  rw [Bool.eq_iff_iff]
  simp
  omega
theorem eq2_trans (a b c d e f : Int) (h : eq2 a b c d = true) (h2 : eq2 c d e f = true) : eq2 a b e f = true := by
  unfold eq2 at *
  simp at *
  omega
set_option maxHeartbeats 4000000 in
theorem equiv_walk (x y a0 a1 b0 b1 c0 c1 : Int) (w : World) : Calls Try.prog 7 #[.agg #[.int .i64 (x), .int .i64 (y)], .agg #[.int .i64 (a0), .int .i64 (a1), .int .i64 (b0), .int .i64 (b1), .int .i64 (c0), .int .i64 (c1)]] w fun e w' => e = .returned (.bool true) ∧ ∃ z, w' = ext w z := by
  have e1 : eq2 (md (lim a0) (per x)) (md (lim a1) (per y)) (md (lim a0) (per x)) (md (lim a1) (per y)) = true := by simp [eq2]
  have e2 : eq2 (md (lim b0) (per x)) (md (lim b1) (per y)) (md (lim a0) (per x)) (md (lim a1) (per y)) = eq2 (md (lim a0) (per x)) (md (lim a1) (per y)) (md (lim b0) (per x)) (md (lim b1) (per y)) := eq2_symm _ _ _ _
  have HT := Lib.hid (eq2_trans (md (lim a0) (per x)) (md (lim a1) (per y)) (md (lim b0) (per x)) (md (lim b1) (per y)) (md (lim c0) (per x)) (md (lim c1) (per y)))
  cases p : eq2 (md (lim a0) (per x)) (md (lim a1) (per y)) (md (lim b0) (per x)) (md (lim b1) (per y))
  · rw [p] at e2
    cases q : eq2 (md (lim b0) (per x)) (md (lim b1) (per y)) (md (lim c0) (per x)) (md (lim c1) (per y))
    · clear HT
      go_enter Try.func7, Try.ntmps7
      go_wp2
      refine wp_region_ext (by kernel_rfl) (by kernel_rfl) ?_
      repeat (go_big_quiet_step ((first | (go_at_call 15; first | (with_reducible exact Calls.ext_to (Same_any _ _ _ _ _ _ _) (congrArg Value.bool e1)) | (with_reducible exact Calls.ext_to (Same_any _ _ _ _ _ _ _) (congrArg Value.bool e2)) | (with_reducible exact Calls.ext_to (Same_any _ _ _ _ _ _ _) (congrArg Value.bool p)) | (with_reducible exact Calls.ext_to (Same_any _ _ _ _ _ _ _) (congrArg Value.bool q)) | exact Calls.ext_of (Same_any _ _ _ _ _ _ _)))))
      refine wpQuiet_nil ?_
      rintro _ ⟨k, rfl⟩
      go_wp2
      refine wp_region_ext (by kernel_rfl) (by kernel_rfl) ?_
      repeat (go_big_quiet_step ((first | (go_at_call 12; exact Calls.ext_of (Phase_any _ _ _ _ _)) | (go_at_call 14; exact Calls.ext_of (alive_any _)) | (go_at_call 15; first | (with_reducible exact Calls.ext_to (Same_any _ _ _ _ _ _ _) (congrArg Value.bool e1)) | (with_reducible exact Calls.ext_to (Same_any _ _ _ _ _ _ _) (congrArg Value.bool e2)) | (with_reducible exact Calls.ext_to (Same_any _ _ _ _ _ _ _) (congrArg Value.bool p)) | (with_reducible exact Calls.ext_to (Same_any _ _ _ _ _ _ _) (congrArg Value.bool q)) | exact Calls.ext_of (Same_any _ _ _ _ _ _ _)))))
      refine wpQuiet_nil ?_
      rintro _ ⟨k, rfl⟩
      go_wp2
      go_ret
      exact ⟨rfl, (below_ext (by repeat (first | exact Below.refl _ _ | (with_reducible refine Below.setCell ?_ (by first | (simp; done) | (simp; omega)) _) | (with_reducible refine Below.alloc ?_ (by first | (simp; done) | (simp; omega)) _) | (with_reducible refine Below.onDrewN ?_ _) | (with_reducible refine Below.drew ?_) | (with_reducible refine Below.ofExt ?_ (by first | (simp; done) | (simp; omega))))))⟩
    · clear HT
      go_enter Try.func7, Try.ntmps7
      go_wp2
      refine wp_region_ext (by kernel_rfl) (by kernel_rfl) ?_
      repeat (go_big_quiet_step ((first | (go_at_call 15; first | (with_reducible exact Calls.ext_to (Same_any _ _ _ _ _ _ _) (congrArg Value.bool e1)) | (with_reducible exact Calls.ext_to (Same_any _ _ _ _ _ _ _) (congrArg Value.bool e2)) | (with_reducible exact Calls.ext_to (Same_any _ _ _ _ _ _ _) (congrArg Value.bool p)) | (with_reducible exact Calls.ext_to (Same_any _ _ _ _ _ _ _) (congrArg Value.bool q)) | exact Calls.ext_of (Same_any _ _ _ _ _ _ _)))))
      refine wpQuiet_nil ?_
      rintro _ ⟨k, rfl⟩
      go_wp2
      refine wp_region_ext (by kernel_rfl) (by kernel_rfl) ?_
      repeat (go_big_quiet_step ((first | (go_at_call 12; exact Calls.ext_of (Phase_any _ _ _ _ _)) | (go_at_call 14; exact Calls.ext_of (alive_any _)) | (go_at_call 15; first | (with_reducible exact Calls.ext_to (Same_any _ _ _ _ _ _ _) (congrArg Value.bool e1)) | (with_reducible exact Calls.ext_to (Same_any _ _ _ _ _ _ _) (congrArg Value.bool e2)) | (with_reducible exact Calls.ext_to (Same_any _ _ _ _ _ _ _) (congrArg Value.bool p)) | (with_reducible exact Calls.ext_to (Same_any _ _ _ _ _ _ _) (congrArg Value.bool q)) | exact Calls.ext_of (Same_any _ _ _ _ _ _ _)))))
      refine wpQuiet_nil ?_
      rintro _ ⟨k, rfl⟩
      go_wp2
      go_ret
      exact ⟨rfl, (below_ext (by repeat (first | exact Below.refl _ _ | (with_reducible refine Below.setCell ?_ (by first | (simp; done) | (simp; omega)) _) | (with_reducible refine Below.alloc ?_ (by first | (simp; done) | (simp; omega)) _) | (with_reducible refine Below.onDrewN ?_ _) | (with_reducible refine Below.drew ?_) | (with_reducible refine Below.ofExt ?_ (by first | (simp; done) | (simp; omega))))))⟩
  · rw [p] at e2
    cases q : eq2 (md (lim b0) (per x)) (md (lim b1) (per y)) (md (lim c0) (per x)) (md (lim c1) (per y))
    · clear HT
      go_enter Try.func7, Try.ntmps7
      go_wp2
      refine wp_region_ext (by kernel_rfl) (by kernel_rfl) ?_
      repeat (go_big_quiet_step ((first | (go_at_call 15; first | (with_reducible exact Calls.ext_to (Same_any _ _ _ _ _ _ _) (congrArg Value.bool e1)) | (with_reducible exact Calls.ext_to (Same_any _ _ _ _ _ _ _) (congrArg Value.bool e2)) | (with_reducible exact Calls.ext_to (Same_any _ _ _ _ _ _ _) (congrArg Value.bool p)) | (with_reducible exact Calls.ext_to (Same_any _ _ _ _ _ _ _) (congrArg Value.bool q)) | exact Calls.ext_of (Same_any _ _ _ _ _ _ _)))))
      refine wpQuiet_nil ?_
      rintro _ ⟨k, rfl⟩
      go_wp2
      refine wp_region_ext (by kernel_rfl) (by kernel_rfl) ?_
      repeat (go_big_quiet_step ((first | (go_at_call 12; exact Calls.ext_of (Phase_any _ _ _ _ _)) | (go_at_call 14; exact Calls.ext_of (alive_any _)) | (go_at_call 15; first | (with_reducible exact Calls.ext_to (Same_any _ _ _ _ _ _ _) (congrArg Value.bool e1)) | (with_reducible exact Calls.ext_to (Same_any _ _ _ _ _ _ _) (congrArg Value.bool e2)) | (with_reducible exact Calls.ext_to (Same_any _ _ _ _ _ _ _) (congrArg Value.bool p)) | (with_reducible exact Calls.ext_to (Same_any _ _ _ _ _ _ _) (congrArg Value.bool q)) | exact Calls.ext_of (Same_any _ _ _ _ _ _ _)))))
      refine wpQuiet_nil ?_
      rintro _ ⟨k, rfl⟩
      go_wp2
      go_ret
      exact ⟨rfl, (below_ext (by repeat (first | exact Below.refl _ _ | (with_reducible refine Below.setCell ?_ (by first | (simp; done) | (simp; omega)) _) | (with_reducible refine Below.alloc ?_ (by first | (simp; done) | (simp; omega)) _) | (with_reducible refine Below.onDrewN ?_ _) | (with_reducible refine Below.drew ?_) | (with_reducible refine Below.ofExt ?_ (by first | (simp; done) | (simp; omega))))))⟩
    · have r : eq2 (md (lim a0) (per x)) (md (lim a1) (per y)) (md (lim c0) (per x)) (md (lim c1) (per y)) = true := HT.out p q
      clear HT
      go_enter Try.func7, Try.ntmps7
      go_wp2
      refine wp_region_ext (by kernel_rfl) (by kernel_rfl) ?_
      repeat (go_big_quiet_step ((first | (go_at_call 15; first | (with_reducible exact Calls.ext_to (Same_any _ _ _ _ _ _ _) (congrArg Value.bool e1)) | (with_reducible exact Calls.ext_to (Same_any _ _ _ _ _ _ _) (congrArg Value.bool e2)) | (with_reducible exact Calls.ext_to (Same_any _ _ _ _ _ _ _) (congrArg Value.bool p)) | (with_reducible exact Calls.ext_to (Same_any _ _ _ _ _ _ _) (congrArg Value.bool q)) | (with_reducible exact Calls.ext_to (Same_any _ _ _ _ _ _ _) (congrArg Value.bool r)) | exact Calls.ext_of (Same_any _ _ _ _ _ _ _)))))
      refine wpQuiet_nil ?_
      rintro _ ⟨k, rfl⟩
      go_wp2
      refine wp_region_ext (by kernel_rfl) (by kernel_rfl) ?_
      repeat (go_big_quiet_step ((first | (go_at_call 12; exact Calls.ext_of (Phase_any _ _ _ _ _)) | (go_at_call 14; exact Calls.ext_of (alive_any _)) | (go_at_call 15; first | (with_reducible exact Calls.ext_to (Same_any _ _ _ _ _ _ _) (congrArg Value.bool e1)) | (with_reducible exact Calls.ext_to (Same_any _ _ _ _ _ _ _) (congrArg Value.bool e2)) | (with_reducible exact Calls.ext_to (Same_any _ _ _ _ _ _ _) (congrArg Value.bool p)) | (with_reducible exact Calls.ext_to (Same_any _ _ _ _ _ _ _) (congrArg Value.bool q)) | (with_reducible exact Calls.ext_to (Same_any _ _ _ _ _ _ _) (congrArg Value.bool r)) | exact Calls.ext_of (Same_any _ _ _ _ _ _ _)))))
      refine wpQuiet_nil ?_
      rintro _ ⟨k, rfl⟩
      go_wp2
      go_ret
      exact ⟨rfl, (below_ext (by repeat (first | exact Below.refl _ _ | (with_reducible refine Below.setCell ?_ (by first | (simp; done) | (simp; omega)) _) | (with_reducible refine Below.alloc ?_ (by first | (simp; done) | (simp; omega)) _) | (with_reducible refine Below.onDrewN ?_ _) | (with_reducible refine Below.drew ?_) | (with_reducible refine Below.ofExt ?_ (by first | (simp; done) | (simp; omega))))))⟩

set_option maxRecDepth 100000 in
theorem stripeEquivalence_lifted (os : Os) (started : os.Started) (H : Type) (enc : TypeId × Value → H) :
    ReturnsInHanded {} Try.checked os 7 .any (Rows.stripeEquivalenceSpec.pre6 enc Try.prog Try.f7 Rows.stripeEquivalenceRow.domain false) (Rows.stripeEquivalenceSpec.post enc Try.prog Try.f7 false true false false) := by
  refine returnsInHanded_of_change (C := Try.checked) own started (by kernel_rfl) Try.func7
    (ChangeSpec.witness6 (enc := enc) (C := Try.checked) false ⟨#[], #[.agg #[.int .i64 0, .int .i64 0], .agg #[.int .i64 0, .int .i64 0, .int .i64 0, .int .i64 0, .int .i64 0, .int .i64 0]], []⟩ 8 (by kernel_rfl) (by kernel_rfl) (by kernel_rfl) (by kernel_rfl)) ?_
  intro W base args ds gs before hval0 hW hcnd _
  have hval : ∀ (j : Nat) t v, Try.f7.params[j]? = some t → args[j]? = some v → Value.okWide Try.prog W .any base t v := hval0
  have hW' := hW
  obtain ⟨p, q, hA0, hV, rfl, hfz, hnd⟩ := hW
  have hA : DataW.TrodAll enc Try.prog W 0 (fun _ => true) true Try.f7.params.toList args.toList ds p := hA0
  rw [Try.params7] at hA hval
  obtain ⟨v0, v1, d0, d1, p0, p1, rfl, rfl, rfl, h0, h1⟩ := trodAll_two hA
  obtain ⟨x, y, rfl, wx, wy⟩ := open_pair (t := 23) Try.underlying23 Try.cells23 (hval 0 23 v0 rfl rfl) h0
  obtain ⟨a0, a1, b0, b1, c0, c1, rfl, ⟨f0, f1⟩, ⟨f2, f3⟩, ⟨f4, f5⟩⟩ := open_three Try.underlying33 (hval 1 33 v1 rfl rfl) h1
  refine (equiv_walk x y a0 a1 b0 b1 c0 c1 W).mono fun e W' ⟨he, z, hz⟩ => ?_
  subst he hz
  exact ⟨_, rfl, law_post rfl (by kernel_rfl) (by kernel_rfl) Try.underlying4 hW' (fun _ => ⟨rfl, rfl, rfl⟩) (ext_below _ _)⟩

theorem stripeEquivalence_holds : Rows.StripeEquivalenceSaid :=
  OpenClaim.holds_of_wide 7 Try.f7 rfl rfl rfl rfl rfl rfl rfl ⟨rfl, rfl, rfl, rfl, rfl⟩ rfl rfl rfl rfl rfl (by kernel_rfl) Try.func7 (by kernel_rfl)
    (of_decide_eq_true (by kernel_rfl)) (by unfold Func.isWrapper; first | (rw [if_pos (by decide +kernel)]; kernel_rfl) | (rw [if_neg (by decide +kernel)]; exact ⟨rfl, rfl⟩))
    (fun os started H enc _ => stripeEquivalence_lifted os started H enc)
#print axioms stripeEquivalence_holds
end Go.Proofs.Ytlllamcaamlbgaa
