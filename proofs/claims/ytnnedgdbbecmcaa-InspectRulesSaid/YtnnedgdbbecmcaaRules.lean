/-
  InspectRules returns true for every regime, decision and lot; no condition.
-/
import Derived.Test.YtnnedgdbbecmcaaAl
import Derived.Test.YtnnedgdbbecmcaaOpen
namespace Go.Proofs.Ytnnedgdbbecmcaa
open Go.RowKit Go.ChangeShapes Go.WideShapes Go.ChangeAt Go.Joins

set_option maxRecDepth 100000 in
set_option maxHeartbeats 4000000 in
theorem rules_walk (l a r : Int) (b : Bool) (m : Int) (w : World) : Calls Try.prog 5 #[.agg #[.int .i64 (l), .int .i64 (a), .int .i64 (r)], .bool b, .int .i64 (m)] w fun e w' => e = .returned (.bool true) ∧ ∃ z, w' = ext w z := by
  have t0 : eq3 2 0 0 2 0 0 = true := by decide
  have t1 : ∀ x y z : Int, eq3 x y z x y z = true := by intros; simp [eq3]
  have t2 : ∀ x y : Int, eq2 x y x y = true := by intros; simp [eq2]
  go_enter Try.func5, Try.ntmps5
  go_wp2_with (first | (go_at_call 15; (first | (with_reducible refine (Calls.ext_of (Switch_any _ _ _ _ _)).mono ?_) | refine (Switch_any _ _ _ _ _).mono ?_); rintro e w' ⟨rfl, z, rfl⟩) | (go_at_call 16; (first | (with_reducible refine (Calls.ext_of (RSwitch_any _ _ _ _ _)).mono ?_) | refine (RSwitch_any _ _ _ _ _).mono ?_); rintro e w' ⟨rfl, z, rfl⟩) | (go_at_call 10; (first | (with_reducible refine (Calls.ext_of (Plan_any _ _ _ _ _)).mono ?_) | refine (Plan_any _ _ _ _ _).mono ?_); rintro e w' ⟨rfl, z, rfl⟩) | (go_at_call 17; (first | (with_reducible refine (Calls.ext_of (RPlan_any _ _ _ _ _)).mono ?_) | refine (RPlan_any _ _ _ _ _).mono ?_); rintro e w' ⟨rfl, z, rfl⟩) | (go_at_call 13; (first | (with_reducible refine (Calls.ext_of (Start_any _)).mono ?_) | refine (Start_any _).mono ?_); rintro e w' ⟨rfl, z, rfl⟩) | (go_at_call 18; (first | (with_reducible refine (Calls.ext_of (RStart_any _)).mono ?_) | refine (RStart_any _).mono ?_); rintro e w' ⟨rfl, z, rfl⟩) | (go_at_call 11; (first | (with_reducible refine (Calls.ext_of (alive_any _)).mono ?_) | refine (alive_any _).mono ?_); rintro e w' ⟨rfl, z, rfl⟩))
  go_ret
  exact ⟨rfl, (below_ext (by repeat (first | exact Below.refl _ _ | (with_reducible refine Below.setCell ?_ (by first | (simp; done) | (simp; omega)) _) | (with_reducible refine Below.alloc ?_ (by first | (simp; done) | (simp; omega)) _) | (with_reducible refine Below.onDrewN ?_ _) | (with_reducible refine Below.drew ?_) | (with_reducible refine Below.ofExt ?_ (by first | (simp; done) | (simp; omega))))))⟩

set_option maxRecDepth 100000 in
theorem inspectRules_lifted (os : Os) (started : os.Started) (H : Type) (enc : TypeId × Value → H) :
    ReturnsInHanded {} Try.checked os 5 .any (Rows.inspectRulesSpec.pre6 enc Try.prog Try.f5 Rows.inspectRulesRow.domain false) (Rows.inspectRulesSpec.post enc Try.prog Try.f5 false true false false) := by
  refine returnsInHanded_of_change (C := Try.checked) own started (by kernel_rfl) Try.func5
    (ChangeSpec.witness6 (enc := enc) (C := Try.checked) false ⟨#[], #[.agg #[.int .i64 0, .int .i64 0, .int .i64 0], .bool false, .int .i64 0], []⟩ 8 (by kernel_rfl) (by kernel_rfl) (by kernel_rfl) (by kernel_rfl)) ?_
  intro W base args ds gs before hval0 hW hcnd _
  have hval : ∀ (j : Nat) t v, Try.f5.params[j]? = some t → args[j]? = some v → Value.okWide Try.prog W .any base t v := hval0
  have hW' := hW
  obtain ⟨p, q, hA0, hV, rfl, hfz, hnd⟩ := hW
  have hA : DataW.TrodAll enc Try.prog W 0 (fun _ => true) true Try.f5.params.toList args.toList ds p := hA0
  rw [Try.params5] at hA hval
  obtain ⟨v0, v1, v2, d0, d1, d2, p0, p1, p2, rfl, rfl, rfl, h0, h1, h2⟩ := trodAll_three hA
  obtain ⟨l, a, r, rfl⟩ := open_reg Try.underlying23 (hval 0 23 v0 rfl rfl) h0
  obtain ⟨b, rfl, rfl, rfl⟩ := open_bool Try.underlying4 (hval 1 4 v1 rfl rfl) h1
  obtain ⟨m, rfl, rfl, rfl, wm⟩ := open_int Try.underlying3 (hval 2 3 v2 rfl rfl) h2
  refine (rules_walk l a r b m W).mono fun e W' ⟨he, z, hz⟩ => ?_
  subst he hz
  exact ⟨_, rfl, law_post rfl (by kernel_rfl) (by kernel_rfl) Try.underlying4 hW' (fun _ => ⟨rfl, rfl, rfl⟩) (ext_below _ _)⟩

theorem inspectRules_holds : Rows.InspectRulesSaid :=
  OpenClaim.holds_of_wide 5 Try.f5 rfl rfl rfl rfl rfl rfl rfl ⟨rfl, rfl, rfl, rfl, rfl⟩ rfl rfl rfl rfl rfl (by kernel_rfl) Try.func5 (by kernel_rfl)
    (of_decide_eq_true (by kernel_rfl)) (by unfold Func.isWrapper; first | (rw [if_pos (by decide +kernel)]; kernel_rfl) | (rw [if_neg (by decide +kernel)]; exact ⟨rfl, rfl⟩))
    (fun os started H enc _ => inspectRules_lifted os started H enc)
#print axioms inspectRules_holds
end Go.Proofs.Ytnnedgdbbecmcaa
