/-
  InspectSwitches returns true for every regime and every decision; no condition.
-/
import Derived.Test.YtnnedgdbbecmcaaAl
import Derived.Test.YtnnedgdbbecmcaaOpen
namespace Go.Proofs.Ytnnedgdbbecmcaa
open Go.RowKit Go.ChangeShapes Go.WideShapes Go.ChangeAt Go.Joins

theorem sw_ok {l a r : Int} {b : Bool} (h : swE l a r = 0) : okR (sw l a r b).l (sw l a r b).a (sw l a r b).r = true := by
  unfold swE at h
  cases hk : okR l a r
  · rw [hk] at h; simp at h
  · rw [hk] at h
    by_cases h4 : l = 4
    · simp [h4] at h
    · by_cases h1 : l = 1
      · subst h1
        rw [sw_red hk]
        cases b
        · simp only [Bool.false_eq_true, if_false]; decide
        · exact hk
      · rw [sw_mid hk h4 h1]
        unfold okR at hk
        simp at hk
        cases b
        · simp only [Bool.false_eq_true, if_false]
          unfold rejR
          (repeat' split) <;> (unfold okR; simp <;> omega)
        · simp only [if_true]
          unfold accR
          (repeat' split) <;> (unfold okR; simp <;> omega)
/-- Accepting is no stricter, rejecting no less strict; a change of level clears the counts. -/
theorem sw_level {l a r : Int} {b : Bool} (h : swE l a r = 0) :
    (b = true → (sw l a r b).l ≤ l ∧ (sw l a r b).l ≠ 4) ∧ (b = false → l ≤ (sw l a r b).l) ∧ ((sw l a r b).l ≠ l → (sw l a r b).a = 0 ∧ (sw l a r b).r = 0) := by
  unfold swE at h
  cases hk : okR l a r
  · rw [hk] at h; simp at h
  · rw [hk] at h
    by_cases h4 : l = 4
    · simp [h4] at h
    · by_cases h1 : l = 1
      · subst h1
        rw [sw_red hk]
        cases b <;> simp
      · rw [sw_mid hk h4 h1]
        unfold okR at hk
        simp at hk
        cases b
        · simp only [Bool.false_eq_true, if_false]
          unfold rejR
          (repeat' split) <;> simp <;> omega
        · simp only [if_true]
          unfold accR
          (repeat' split) <;> simp <;> omega

set_option maxHeartbeats 4000000 in
theorem switches_walk (l a r : Int) (b : Bool) (w : World) : Calls Try.prog 7 #[.agg #[.int .i64 (l), .int .i64 (a), .int .i64 (r)], .bool b] w fun e w' => e = .returned (.bool true) ∧ ∃ z, w' = ext w z := by
  have t1 : eq3 0 0 0 0 0 0 = true := by decide
  cases hk : okR l a r
  · have H1 := Lib.hid (swE_bad hk)
    have H2 := Lib.hid (sw_bad (b := b) hk)
    have SW := Lib.hid (Switch_any l a r b)
    rw [H1.out, H2.out] at SW
    clear hk
    go_enter Try.func7, Try.ntmps7
    go_wp2_with (first | (go_at_call 15; (first | (with_reducible refine (Calls.ext_of (SW.out _)).mono ?_) | refine (SW.out _).mono ?_); rintro e w' ⟨rfl, z, rfl⟩) | (go_at_call 11; (first | (with_reducible refine (Calls.ext_of (alive_any _)).mono ?_) | refine (alive_any _).mono ?_); rintro e w' ⟨rfl, z, rfl⟩))
    go_ret
    exact ⟨rfl, (below_ext (by repeat (first | exact Below.refl _ _ | (with_reducible refine Below.setCell ?_ (by first | (simp; done) | (simp; omega)) _) | (with_reducible refine Below.alloc ?_ (by first | (simp; done) | (simp; omega)) _) | (with_reducible refine Below.onDrewN ?_ _) | (with_reducible refine Below.drew ?_) | (with_reducible refine Below.ofExt ?_ (by first | (simp; done) | (simp; omega))))))⟩
  · by_cases h4 : l = 4
    · subst h4
      have H1 := Lib.hid (swE_stop hk)
      have H2 := Lib.hid (sw_stop (b := b) hk)
      have SW := Lib.hid (Switch_any 4 a r b)
      rw [H1.out, H2.out] at SW
      clear hk
      go_enter Try.func7, Try.ntmps7
      go_wp2_with (first | (go_at_call 15; (first | (with_reducible refine (Calls.ext_of (SW.out _)).mono ?_) | refine (SW.out _).mono ?_); rintro e w' ⟨rfl, z, rfl⟩) | (go_at_call 11; (first | (with_reducible refine (Calls.ext_of (alive_any _)).mono ?_) | refine (alive_any _).mono ?_); rintro e w' ⟨rfl, z, rfl⟩))
      go_ret
      exact ⟨rfl, (below_ext (by repeat (first | exact Below.refl _ _ | (with_reducible refine Below.setCell ?_ (by first | (simp; done) | (simp; omega)) _) | (with_reducible refine Below.alloc ?_ (by first | (simp; done) | (simp; omega)) _) | (with_reducible refine Below.onDrewN ?_ _) | (with_reducible refine Below.drew ?_) | (with_reducible refine Below.ofExt ?_ (by first | (simp; done) | (simp; omega))))))⟩
    · have h0 := swE_go hk h4
      have HO := Lib.hid (sw_ok (b := b) h0)
      have HL := Lib.hid (sw_level (b := b) h0)
      have e1 : (swE l a r != 0) = false := by simp [h0]
      have SW := Lib.hid (Switch_any l a r b)
      clear hk
      generalize (sw l a r b).l = x at *
      generalize (sw l a r b).a = y at *
      generalize (sw l a r b).r = z at *
      rw [h0] at SW
      clear e1 h0
      obtain ⟨k1, k2, k3⟩ := HL.out
      have K1 := Lib.hid k1
      have K2 := Lib.hid k2
      have K3 := Lib.hid k3
      clear k1 k2 k3 HL
      cases b
      · have x1 := K2.out rfl
        by_cases x4 : x = 4
        · subst x4
          obtain ⟨y0, z0⟩ := K3.out (by omega)
          subst y0 z0
          have q1 : (swE 4 0 0 == 8) = true := by decide
          have q2 : (swE 4 0 0 == 0) = false := by decide
          clear HO K1 K2 K3
          go_enter Try.func7, Try.ntmps7
          go_wp2_with (first | (go_at_call 15; (first | (with_reducible refine (Calls.ext_of (SW.out _)).mono ?_) | (with_reducible refine (SW.out _).mono ?_) | (with_reducible refine (Calls.ext_of (Switch_any _ _ _ _ _)).mono ?_) | refine (Switch_any _ _ _ _ _).mono ?_); rintro e w' ⟨rfl, z, rfl⟩) | (go_at_call 11; (first | (with_reducible refine (Calls.ext_of (alive_any _)).mono ?_) | refine (alive_any _).mono ?_); rintro e w' ⟨rfl, z, rfl⟩))
          go_ret
          exact ⟨rfl, (below_ext (by repeat (first | exact Below.refl _ _ | (with_reducible refine Below.setCell ?_ (by first | (simp; done) | (simp; omega)) _) | (with_reducible refine Below.alloc ?_ (by first | (simp; done) | (simp; omega)) _) | (with_reducible refine Below.onDrewN ?_ _) | (with_reducible refine Below.drew ?_) | (with_reducible refine Below.ofExt ?_ (by first | (simp; done) | (simp; omega))))))⟩
        · have q1 : (swE x y z == 0) = true := by simp [swE_go HO.out x4]
          by_cases xl : x = l
          · subst xl
            clear HO K1 K2 K3
            go_enter Try.func7, Try.ntmps7
            go_wp2_with (first | (go_at_call 15; (first | (with_reducible refine (Calls.ext_of (SW.out _)).mono ?_) | (with_reducible refine (SW.out _).mono ?_) | (with_reducible refine (Calls.ext_of (Switch_any _ _ _ _ _)).mono ?_) | refine (Switch_any _ _ _ _ _).mono ?_); rintro e w' ⟨rfl, z, rfl⟩) | (go_at_call 11; (first | (with_reducible refine (Calls.ext_of (alive_any _)).mono ?_) | refine (alive_any _).mono ?_); rintro e w' ⟨rfl, z, rfl⟩))
            go_ret
            exact ⟨rfl, (below_ext (by repeat (first | exact Below.refl _ _ | (with_reducible refine Below.setCell ?_ (by first | (simp; done) | (simp; omega)) _) | (with_reducible refine Below.alloc ?_ (by first | (simp; done) | (simp; omega)) _) | (with_reducible refine Below.onDrewN ?_ _) | (with_reducible refine Below.drew ?_) | (with_reducible refine Below.ofExt ?_ (by first | (simp; done) | (simp; omega))))))⟩
          · obtain ⟨y0, z0⟩ := K3.out xl
            subst y0 z0
            clear HO K1 K2 K3
            go_enter Try.func7, Try.ntmps7
            go_wp2_with (first | (go_at_call 15; (first | (with_reducible refine (Calls.ext_of (SW.out _)).mono ?_) | (with_reducible refine (SW.out _).mono ?_) | (with_reducible refine (Calls.ext_of (Switch_any _ _ _ _ _)).mono ?_) | refine (Switch_any _ _ _ _ _).mono ?_); rintro e w' ⟨rfl, z, rfl⟩) | (go_at_call 11; (first | (with_reducible refine (Calls.ext_of (alive_any _)).mono ?_) | refine (alive_any _).mono ?_); rintro e w' ⟨rfl, z, rfl⟩))
            go_ret
            exact ⟨rfl, (below_ext (by repeat (first | exact Below.refl _ _ | (with_reducible refine Below.setCell ?_ (by first | (simp; done) | (simp; omega)) _) | (with_reducible refine Below.alloc ?_ (by first | (simp; done) | (simp; omega)) _) | (with_reducible refine Below.onDrewN ?_ _) | (with_reducible refine Below.drew ?_) | (with_reducible refine Below.ofExt ?_ (by first | (simp; done) | (simp; omega))))))⟩
      · obtain ⟨x1, x4⟩ := K1.out rfl
        have q1 : (swE x y z == 0) = true := by simp [swE_go HO.out x4]
        by_cases xl : x = l
        · subst xl
          clear HO K1 K2 K3
          go_enter Try.func7, Try.ntmps7
          go_wp2_with (first | (go_at_call 15; (first | (with_reducible refine (Calls.ext_of (SW.out _)).mono ?_) | (with_reducible refine (SW.out _).mono ?_) | (with_reducible refine (Calls.ext_of (Switch_any _ _ _ _ _)).mono ?_) | refine (Switch_any _ _ _ _ _).mono ?_); rintro e w' ⟨rfl, z, rfl⟩) | (go_at_call 11; (first | (with_reducible refine (Calls.ext_of (alive_any _)).mono ?_) | refine (alive_any _).mono ?_); rintro e w' ⟨rfl, z, rfl⟩))
          go_ret
          exact ⟨rfl, (below_ext (by repeat (first | exact Below.refl _ _ | (with_reducible refine Below.setCell ?_ (by first | (simp; done) | (simp; omega)) _) | (with_reducible refine Below.alloc ?_ (by first | (simp; done) | (simp; omega)) _) | (with_reducible refine Below.onDrewN ?_ _) | (with_reducible refine Below.drew ?_) | (with_reducible refine Below.ofExt ?_ (by first | (simp; done) | (simp; omega))))))⟩
        · obtain ⟨y0, z0⟩ := K3.out xl
          subst y0 z0
          clear HO K1 K2 K3
          go_enter Try.func7, Try.ntmps7
          go_wp2_with (first | (go_at_call 15; (first | (with_reducible refine (Calls.ext_of (SW.out _)).mono ?_) | (with_reducible refine (SW.out _).mono ?_) | (with_reducible refine (Calls.ext_of (Switch_any _ _ _ _ _)).mono ?_) | refine (Switch_any _ _ _ _ _).mono ?_); rintro e w' ⟨rfl, z, rfl⟩) | (go_at_call 11; (first | (with_reducible refine (Calls.ext_of (alive_any _)).mono ?_) | refine (alive_any _).mono ?_); rintro e w' ⟨rfl, z, rfl⟩))
          go_ret
          exact ⟨rfl, (below_ext (by repeat (first | exact Below.refl _ _ | (with_reducible refine Below.setCell ?_ (by first | (simp; done) | (simp; omega)) _) | (with_reducible refine Below.alloc ?_ (by first | (simp; done) | (simp; omega)) _) | (with_reducible refine Below.onDrewN ?_ _) | (with_reducible refine Below.drew ?_) | (with_reducible refine Below.ofExt ?_ (by first | (simp; done) | (simp; omega))))))⟩

set_option maxRecDepth 100000 in
theorem inspectSwitches_lifted (os : Os) (started : os.Started) (H : Type) (enc : TypeId × Value → H) :
    ReturnsInHanded {} Try.checked os 7 .any (Rows.inspectSwitchesSpec.pre6 enc Try.prog Try.f7 Rows.inspectSwitchesRow.domain false) (Rows.inspectSwitchesSpec.post enc Try.prog Try.f7 false true false false) := by
  refine returnsInHanded_of_change (C := Try.checked) own started (by kernel_rfl) Try.func7
    (ChangeSpec.witness6 (enc := enc) (C := Try.checked) false ⟨#[], #[.agg #[.int .i64 0, .int .i64 0, .int .i64 0], .bool false], []⟩ 8 (by kernel_rfl) (by kernel_rfl) (by kernel_rfl) (by kernel_rfl)) ?_
  intro W base args ds gs before hval0 hW hcnd _
  have hval : ∀ (j : Nat) t v, Try.f7.params[j]? = some t → args[j]? = some v → Value.okWide Try.prog W .any base t v := hval0
  have hW' := hW
  obtain ⟨p, q, hA0, hV, rfl, hfz, hnd⟩ := hW
  have hA : DataW.TrodAll enc Try.prog W 0 (fun _ => true) true Try.f7.params.toList args.toList ds p := hA0
  rw [Try.params7] at hA hval
  obtain ⟨v0, v1, d0, d1, p0, p1, rfl, rfl, rfl, h0, h1⟩ := trodAll_two hA
  obtain ⟨l, a, r, rfl⟩ := open_reg Try.underlying23 (hval 0 23 v0 rfl rfl) h0
  obtain ⟨b, rfl, rfl, rfl⟩ := open_bool Try.underlying4 (hval 1 4 v1 rfl rfl) h1
  refine (switches_walk l a r b W).mono fun e W' ⟨he, z, hz⟩ => ?_
  subst he hz
  exact ⟨_, rfl, law_post rfl (by kernel_rfl) (by kernel_rfl) Try.underlying4 hW' (fun _ => ⟨rfl, rfl, rfl⟩) (ext_below _ _)⟩

theorem inspectSwitches_holds : Rows.InspectSwitchesSaid :=
  OpenClaim.holds_of_wide 7 Try.f7 rfl rfl rfl rfl rfl rfl rfl ⟨rfl, rfl, rfl, rfl, rfl⟩ rfl rfl rfl rfl rfl (by kernel_rfl) Try.func7 (by kernel_rfl)
    (of_decide_eq_true (by kernel_rfl)) (by unfold Func.isWrapper; first | (rw [if_pos (by decide +kernel)]; kernel_rfl) | (rw [if_neg (by decide +kernel)]; exact ⟨rfl, rfl⟩))
    (fun os started H enc _ => inspectSwitches_lifted os started H enc)
#print axioms inspectSwitches_holds
end Go.Proofs.Ytnnedgdbbecmcaa
