/-
  StripePhases returns true for every repeat and every point; no condition.
-/
import Derived.Test.YtlllamcaamlbgaaBool
import Derived.Test.YtlllamcaamlbgaaOpen
namespace Go.Proofs.Ytlllamcaamlbgaa
open Go.RowKit Go.ChangeShapes Go.WideShapes Go.ChangeAt Go.Joins

set_option maxHeartbeats 1000000 in
theorem phases_walk (x y a b : Int) (w : World) : Calls Try.prog 3 #[.agg #[.int .i64 (x), .int .i64 (y)], .agg #[.int .i64 (a), .int .i64 (b)]] w fun e w' => e = .returned (.bool true) ∧ ∃ z, w' = ext w z := by
  have e1 : eq2 (per x) (per y) (per x) (per y) = true := by simp [eq2]
  have e2 : eq2 (md (lim a) (per x)) (md (lim b) (per y)) (md (lim a) (per x)) (md (lim b) (per y)) = true := by simp [eq2]
  go_enter Try.func3, Try.ntmps3
  go_wp2
  refine wp_region_ext (by kernel_rfl) (by kernel_rfl) ?_
  repeat (go_big_quiet_step ((first | (go_at_call 10; exact Calls.ext_of (Norm_any _ _ _)) | (go_at_call 11; exact Calls.ext_of (RNorm_any _ _ _)) | (go_at_call 12; exact Calls.ext_of (Phase_any _ _ _ _ _)) | (go_at_call 13; exact Calls.ext_of (RPhase_any _ _ _ _ _)) | (go_at_call 14; exact Calls.ext_of (alive_any _)))))
  refine wpQuiet_nil ?_
  rintro _ ⟨k, rfl⟩
  go_wp2
  go_ret
  exact ⟨rfl, (below_ext (by repeat (first | exact Below.refl _ _ | (with_reducible refine Below.setCell ?_ (by first | (simp; done) | (simp; omega)) _) | (with_reducible refine Below.alloc ?_ (by first | (simp; done) | (simp; omega)) _) | (with_reducible refine Below.onDrewN ?_ _) | (with_reducible refine Below.drew ?_) | (with_reducible refine Below.ofExt ?_ (by first | (simp; done) | (simp; omega))))))⟩

set_option maxRecDepth 100000 in
theorem stripePhases_lifted (os : Os) (started : os.Started) (H : Type) (enc : TypeId × Value → H) :
    ReturnsInHanded {} Try.checked os 3 .any (Rows.stripePhasesSpec.pre6 enc Try.prog Try.f3 Rows.stripePhasesRow.domain false) (Rows.stripePhasesSpec.post enc Try.prog Try.f3 false true false false) := by
  refine returnsInHanded_of_change (C := Try.checked) own started (by kernel_rfl) Try.func3
    (ChangeSpec.witness6 (enc := enc) (C := Try.checked) false ⟨#[], #[.agg #[.int .i64 0, .int .i64 0], .agg #[.int .i64 0, .int .i64 0]], []⟩ 8 (by kernel_rfl) (by kernel_rfl) (by kernel_rfl) (by kernel_rfl)) ?_
  intro W base args ds gs before hval0 hW hcnd _
  have hval : ∀ (j : Nat) t v, Try.f3.params[j]? = some t → args[j]? = some v → Value.okWide Try.prog W .any base t v := hval0
  have hW' := hW
  obtain ⟨p, q, hA0, hV, rfl, hfz, hnd⟩ := hW
  have hA : DataW.TrodAll enc Try.prog W 0 (fun _ => true) true Try.f3.params.toList args.toList ds p := hA0
  rw [Try.params3] at hA hval
  obtain ⟨v0, v1, d0, d1, p0, p1, rfl, rfl, rfl, h0, h1⟩ := trodAll_two hA
  obtain ⟨x, y, rfl, wx, wy⟩ := open_pair (t := 23) Try.underlying23 Try.cells23 (hval 0 23 v0 rfl rfl) h0
  obtain ⟨a, b, rfl, wa, wb⟩ := open_pair (t := 24) Try.underlying24 Try.cells24 (hval 1 24 v1 rfl rfl) h1
  refine (phases_walk x y a b W).mono fun e W' ⟨he, z, hz⟩ => ?_
  subst he hz
  exact ⟨_, rfl, law_post rfl (by kernel_rfl) (by kernel_rfl) Try.underlying4 hW' (fun _ => ⟨rfl, rfl, rfl⟩) (ext_below _ _)⟩

theorem stripePhases_holds : Rows.StripePhasesSaid :=
  OpenClaim.holds_of_wide 3 Try.f3 rfl rfl rfl rfl rfl rfl rfl ⟨rfl, rfl, rfl, rfl, rfl⟩ rfl rfl rfl rfl rfl (by kernel_rfl) Try.func3 (by kernel_rfl)
    (of_decide_eq_true (by kernel_rfl)) (by unfold Func.isWrapper; first | (rw [if_pos (by decide +kernel)]; kernel_rfl) | (rw [if_neg (by decide +kernel)]; exact ⟨rfl, rfl⟩))
    (fun os started H enc _ => stripePhases_lifted os started H enc)
#print axioms stripePhases_holds
end Go.Proofs.Ytlllamcaamlbgaa
