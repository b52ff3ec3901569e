/-
  InspectPlans returns true for every regime and every byte; no condition.
-/
import Derived.Test.YtnnedgdbbecmcaaAl
import Derived.Test.YtnnedgdbbecmcaaOpen
namespace Go.Proofs.Ytnnedgdbbecmcaa
open Go.RowKit Go.ChangeShapes Go.WideShapes Go.ChangeAt Go.Joins

theorem fit8_of {n : Int} (h : (Lit.int .u8 n).wf = true) : 0 ≤ n ∧ n ≤ 255 := by
  simp [Lit.wf, IntKind.min, IntKind.max, IntKind.signed, IntKind.bits] at h
  exact ⟨by omega, by omega⟩
set_option maxRecDepth 100000 in
set_option maxHeartbeats 8000000 in
theorem plans_walk (l a r u : Int) (w : World) (u0 : 0 ≤ u) (u1 : u ≤ 255) : Calls Try.prog 3 #[.agg #[.int .i64 (l), .int .i64 (a), .int .i64 (r)], .int .u8 u] w fun e w' => e = .returned (.bool true) ∧ ∃ z, w' = ext w z := by
  have n1 : 2 ≤ 2 + u % 199 := by omega
  have n2 : 2 + u % 199 ≤ 200 := by omega
  have t2 : eq2 0 0 0 0 = true := by decide
  have PL := Lib.hid (Plan_any l a r (2 + u % 199))
  rcases plE_cases (l := l) (a := a) (r := r) n1 n2 with ⟨h0, hk, h4⟩ | ⟨h0, hn, hc⟩
  · have QL := Lib.hid (Plan_any 2 0 0 (2 + u % 199))
    have q0 : plE 2 0 0 (2 + u % 199) = 0 := plE_go (by decide) (by omega) (by decide)
    have HN := plN_go h0
    have HC := plC_go h0
    have HN2 := plN_go q0
    have HC2 := plC_go q0
    rw [if_neg (by decide)] at HN2 HC2
    have PO2 := plan_ok (sz := 4 * (2 + u % 199)) (part := 5) n1 n2 (by omega) (by omega) (by omega)
    rw [← HN2, ← HC2] at PO2
    rw [h0] at PL
    rw [q0] at QL
    by_cases l1 : l = 1
    · subst l1
      rw [if_pos rfl] at HN
      rw [if_neg (by decide)] at HC
      have PO := plan_ok (sz := 2 + u % 199) (part := 5) n1 n2 (by omega) (by omega) (by omega)
      rw [← HN, ← HC] at PO
      have HM : plN 1 a r (2 + u % 199) ≤ plN 2 0 0 (2 + u % 199) := by rw [HN, HN2]; have := rt_mono (m := 2 + u % 199) (n := 4 * (2 + u % 199)) (by omega) (by omega); omega
      clear HN HC HN2 HC2 h0 q0 hk h4
      generalize plN 1 a r (2 + u % 199) = N at *
      generalize plC 1 a r (2 + u % 199) = C at *
      generalize plN 2 0 0 (2 + u % 199) = M at *
      generalize plC 2 0 0 (2 + u % 199) = E at *
      have o1 := PO.n1
      have o2 := PO.n2
      have o3 := PO.c0
      have o4 := PO.c1
      have o6 := PO.lo
      have o7 := PO2.n1
      have o8 := PO2.n2
      have SQ := Lib.hid PO.sq
      obtain ⟨s1, s2⟩ := sq_200 (k := N) (by omega) (by omega)
      obtain ⟨s3, s4⟩ := sq_200 (k := N - 1) (by omega) (by omega)
      have ck : (ckE N C (2 + u % 199) != 0) = false := by
        have : ckE N C (2 + u % 199) = 0 := by unfold ckE; rw [if_neg (by omega)]
        simp [this]
      clear PO PO2
      by_cases hN : N < 2 + u % 199
      · have o5 := SQ.out hN
        go_enter Try.func3, Try.ntmps3
        go_wp2_with (first | (go_at_call 10; (first | (with_reducible refine (Calls.ext_of (PL.out _)).mono ?_) | (with_reducible refine (PL.out _).mono ?_) | (with_reducible refine (Calls.ext_of (QL.out _)).mono ?_) | (with_reducible refine (QL.out _).mono ?_)); rintro e w' ⟨rfl, z, rfl⟩) | (go_at_call 11; (first | (with_reducible refine (Calls.ext_of (alive_any _)).mono ?_) | refine (alive_any _).mono ?_); rintro e w' ⟨rfl, z, rfl⟩) | (go_at_call 12; (first | (with_reducible refine (Calls.ext_of (Check_any _ _ _ _)).mono ?_) | refine (Check_any _ _ _ _).mono ?_); rintro e w' ⟨rfl, z, rfl⟩) | (go_at_call 13; (first | (with_reducible refine (Calls.ext_of (Start_any _)).mono ?_) | refine (Start_any _).mono ?_); rintro e w' ⟨rfl, z, rfl⟩))
        go_ret
        exact ⟨rfl, (below_ext (by repeat (first | exact Below.refl _ _ | (with_reducible refine Below.setCell ?_ (by first | (simp; done) | (simp; omega)) _) | (with_reducible refine Below.alloc ?_ (by first | (simp; done) | (simp; omega)) _) | (with_reducible refine Below.onDrewN ?_ _) | (with_reducible refine Below.drew ?_) | (with_reducible refine Below.ofExt ?_ (by first | (simp; done) | (simp; omega))))))⟩
      · go_enter Try.func3, Try.ntmps3
        go_wp2_with (first | (go_at_call 10; (first | (with_reducible refine (Calls.ext_of (PL.out _)).mono ?_) | (with_reducible refine (PL.out _).mono ?_) | (with_reducible refine (Calls.ext_of (QL.out _)).mono ?_) | (with_reducible refine (QL.out _).mono ?_)); rintro e w' ⟨rfl, z, rfl⟩) | (go_at_call 11; (first | (with_reducible refine (Calls.ext_of (alive_any _)).mono ?_) | refine (alive_any _).mono ?_); rintro e w' ⟨rfl, z, rfl⟩) | (go_at_call 12; (first | (with_reducible refine (Calls.ext_of (Check_any _ _ _ _)).mono ?_) | refine (Check_any _ _ _ _).mono ?_); rintro e w' ⟨rfl, z, rfl⟩) | (go_at_call 13; (first | (with_reducible refine (Calls.ext_of (Start_any _)).mono ?_) | refine (Start_any _).mono ?_); rintro e w' ⟨rfl, z, rfl⟩))
        go_ret
        exact ⟨rfl, (below_ext (by repeat (first | exact Below.refl _ _ | (with_reducible refine Below.setCell ?_ (by first | (simp; done) | (simp; omega)) _) | (with_reducible refine Below.alloc ?_ (by first | (simp; done) | (simp; omega)) _) | (with_reducible refine Below.onDrewN ?_ _) | (with_reducible refine Below.drew ?_) | (with_reducible refine Below.ofExt ?_ (by first | (simp; done) | (simp; omega))))))⟩
    · have l1b : (l == 1) = false := by simpa using l1
      rw [if_neg l1] at HN
      by_cases l3 : l = 3
      · subst l3
        rw [if_pos rfl] at HC
        have PO := plan_ok (sz := 4 * (2 + u % 199)) (part := 10) n1 n2 (by omega) (by omega) (by omega)
        rw [← HN, ← HC] at PO
        have HM : plN 3 a r (2 + u % 199) = plN 2 0 0 (2 + u % 199) := by rw [HN, HN2]
        have HC3 : plC 3 a r (2 + u % 199) ≤ plC 2 0 0 (2 + u % 199) := by rw [HC, HC2, HM]; have := PO2.n1; omega
        clear HN HC HN2 HC2 h0 q0 hk h4
        generalize plN 3 a r (2 + u % 199) = N at *
        generalize plC 3 a r (2 + u % 199) = C at *
        generalize plN 2 0 0 (2 + u % 199) = M at *
        generalize plC 2 0 0 (2 + u % 199) = E at *
        have o1 := PO.n1
        have o2 := PO.n2
        have o3 := PO.c0
        have o4 := PO.c1
        have o6 := PO.lo
        have o7 := PO2.n1
        have o8 := PO2.n2
        have SQ := Lib.hid PO.sq
        obtain ⟨s1, s2⟩ := sq_200 (k := N) (by omega) (by omega)
        obtain ⟨s3, s4⟩ := sq_200 (k := N - 1) (by omega) (by omega)
        have ck : (ckE N C (2 + u % 199) != 0) = false := by
          have : ckE N C (2 + u % 199) = 0 := by unfold ckE; rw [if_neg (by omega)]
          simp [this]
        have hmb : (N == M) = true := by simpa using HM
        have hmle : N ≤ M := by omega
        clear PO PO2
        have HMM := Lib.hid HM
        clear HM
        by_cases hN : N < 2 + u % 199
        · have o5 := SQ.out hN
          go_enter Try.func3, Try.ntmps3
          go_wp2_with (first | (go_at_call 10; (first | (with_reducible refine (Calls.ext_of (PL.out _)).mono ?_) | (with_reducible refine (PL.out _).mono ?_) | (with_reducible refine (Calls.ext_of (QL.out _)).mono ?_) | (with_reducible refine (QL.out _).mono ?_)); rintro e w' ⟨rfl, z, rfl⟩) | (go_at_call 11; (first | (with_reducible refine (Calls.ext_of (alive_any _)).mono ?_) | refine (alive_any _).mono ?_); rintro e w' ⟨rfl, z, rfl⟩) | (go_at_call 12; (first | (with_reducible refine (Calls.ext_of (Check_any _ _ _ _)).mono ?_) | refine (Check_any _ _ _ _).mono ?_); rintro e w' ⟨rfl, z, rfl⟩) | (go_at_call 13; (first | (with_reducible refine (Calls.ext_of (Start_any _)).mono ?_) | refine (Start_any _).mono ?_); rintro e w' ⟨rfl, z, rfl⟩))
          go_ret
          exact ⟨rfl, (below_ext (by repeat (first | exact Below.refl _ _ | (with_reducible refine Below.setCell ?_ (by first | (simp; done) | (simp; omega)) _) | (with_reducible refine Below.alloc ?_ (by first | (simp; done) | (simp; omega)) _) | (with_reducible refine Below.onDrewN ?_ _) | (with_reducible refine Below.drew ?_) | (with_reducible refine Below.ofExt ?_ (by first | (simp; done) | (simp; omega))))))⟩
        · go_enter Try.func3, Try.ntmps3
          go_wp2_with (first | (go_at_call 10; (first | (with_reducible refine (Calls.ext_of (PL.out _)).mono ?_) | (with_reducible refine (PL.out _).mono ?_) | (with_reducible refine (Calls.ext_of (QL.out _)).mono ?_) | (with_reducible refine (QL.out _).mono ?_)); rintro e w' ⟨rfl, z, rfl⟩) | (go_at_call 11; (first | (with_reducible refine (Calls.ext_of (alive_any _)).mono ?_) | refine (alive_any _).mono ?_); rintro e w' ⟨rfl, z, rfl⟩) | (go_at_call 12; (first | (with_reducible refine (Calls.ext_of (Check_any _ _ _ _)).mono ?_) | refine (Check_any _ _ _ _).mono ?_); rintro e w' ⟨rfl, z, rfl⟩) | (go_at_call 13; (first | (with_reducible refine (Calls.ext_of (Start_any _)).mono ?_) | refine (Start_any _).mono ?_); rintro e w' ⟨rfl, z, rfl⟩))
          go_ret
          exact ⟨rfl, (below_ext (by repeat (first | exact Below.refl _ _ | (with_reducible refine Below.setCell ?_ (by first | (simp; done) | (simp; omega)) _) | (with_reducible refine Below.alloc ?_ (by first | (simp; done) | (simp; omega)) _) | (with_reducible refine Below.onDrewN ?_ _) | (with_reducible refine Below.drew ?_) | (with_reducible refine Below.ofExt ?_ (by first | (simp; done) | (simp; omega))))))⟩
      · have l3b : (l == 3) = false := by simpa using l3
        rw [if_neg l3] at HC
        have PO := plan_ok (sz := 4 * (2 + u % 199)) (part := 5) n1 n2 (by omega) (by omega) (by omega)
        rw [← HN, ← HC] at PO
        have HM : plN l a r (2 + u % 199) ≤ plN 2 0 0 (2 + u % 199) := by rw [HN, HN2]; omega
        clear HN HC HN2 HC2 h0 q0 hk h4
        generalize plN l a r (2 + u % 199) = N at *
        generalize plC l a r (2 + u % 199) = C at *
        generalize plN 2 0 0 (2 + u % 199) = M at *
        generalize plC 2 0 0 (2 + u % 199) = E at *
        have o1 := PO.n1
        have o2 := PO.n2
        have o3 := PO.c0
        have o4 := PO.c1
        have o6 := PO.lo
        have o7 := PO2.n1
        have o8 := PO2.n2
        have SQ := Lib.hid PO.sq
        obtain ⟨s1, s2⟩ := sq_200 (k := N) (by omega) (by omega)
        obtain ⟨s3, s4⟩ := sq_200 (k := N - 1) (by omega) (by omega)
        have ck : (ckE N C (2 + u % 199) != 0) = false := by
          have : ckE N C (2 + u % 199) = 0 := by unfold ckE; rw [if_neg (by omega)]
          simp [this]
        clear PO PO2
        by_cases hN : N < 2 + u % 199
        · have o5 := SQ.out hN
          go_enter Try.func3, Try.ntmps3
          go_wp2_with (first | (go_at_call 10; (first | (with_reducible refine (Calls.ext_of (PL.out _)).mono ?_) | (with_reducible refine (PL.out _).mono ?_) | (with_reducible refine (Calls.ext_of (QL.out _)).mono ?_) | (with_reducible refine (QL.out _).mono ?_)); rintro e w' ⟨rfl, z, rfl⟩) | (go_at_call 11; (first | (with_reducible refine (Calls.ext_of (alive_any _)).mono ?_) | refine (alive_any _).mono ?_); rintro e w' ⟨rfl, z, rfl⟩) | (go_at_call 12; (first | (with_reducible refine (Calls.ext_of (Check_any _ _ _ _)).mono ?_) | refine (Check_any _ _ _ _).mono ?_); rintro e w' ⟨rfl, z, rfl⟩) | (go_at_call 13; (first | (with_reducible refine (Calls.ext_of (Start_any _)).mono ?_) | refine (Start_any _).mono ?_); rintro e w' ⟨rfl, z, rfl⟩))
          go_ret
          exact ⟨rfl, (below_ext (by repeat (first | exact Below.refl _ _ | (with_reducible refine Below.setCell ?_ (by first | (simp; done) | (simp; omega)) _) | (with_reducible refine Below.alloc ?_ (by first | (simp; done) | (simp; omega)) _) | (with_reducible refine Below.onDrewN ?_ _) | (with_reducible refine Below.drew ?_) | (with_reducible refine Below.ofExt ?_ (by first | (simp; done) | (simp; omega))))))⟩
        · go_enter Try.func3, Try.ntmps3
          go_wp2_with (first | (go_at_call 10; (first | (with_reducible refine (Calls.ext_of (PL.out _)).mono ?_) | (with_reducible refine (PL.out _).mono ?_) | (with_reducible refine (Calls.ext_of (QL.out _)).mono ?_) | (with_reducible refine (QL.out _).mono ?_)); rintro e w' ⟨rfl, z, rfl⟩) | (go_at_call 11; (first | (with_reducible refine (Calls.ext_of (alive_any _)).mono ?_) | refine (alive_any _).mono ?_); rintro e w' ⟨rfl, z, rfl⟩) | (go_at_call 12; (first | (with_reducible refine (Calls.ext_of (Check_any _ _ _ _)).mono ?_) | refine (Check_any _ _ _ _).mono ?_); rintro e w' ⟨rfl, z, rfl⟩) | (go_at_call 13; (first | (with_reducible refine (Calls.ext_of (Start_any _)).mono ?_) | refine (Start_any _).mono ?_); rintro e w' ⟨rfl, z, rfl⟩))
          go_ret
          exact ⟨rfl, (below_ext (by repeat (first | exact Below.refl _ _ | (with_reducible refine Below.setCell ?_ (by first | (simp; done) | (simp; omega)) _) | (with_reducible refine Below.alloc ?_ (by first | (simp; done) | (simp; omega)) _) | (with_reducible refine Below.onDrewN ?_ _) | (with_reducible refine Below.drew ?_) | (with_reducible refine Below.ofExt ?_ (by first | (simp; done) | (simp; omega))))))⟩
  · rw [hn, hc] at PL
    clear hn hc
    rcases h0 with h0 | h0
    · rw [h0] at PL
      clear h0
      go_enter Try.func3, Try.ntmps3
      go_wp2_with (first | (go_at_call 10; (first | (with_reducible refine (Calls.ext_of (PL.out _)).mono ?_) | (with_reducible refine (PL.out _).mono ?_)); rintro e w' ⟨rfl, z, rfl⟩) | (go_at_call 11; (first | (with_reducible refine (Calls.ext_of (alive_any _)).mono ?_) | refine (alive_any _).mono ?_); rintro e w' ⟨rfl, z, rfl⟩) | (go_at_call 12; (first | (with_reducible refine (Calls.ext_of (Check_any _ _ _ _)).mono ?_) | refine (Check_any _ _ _ _).mono ?_); rintro e w' ⟨rfl, z, rfl⟩) | (go_at_call 13; (first | (with_reducible refine (Calls.ext_of (Start_any _)).mono ?_) | refine (Start_any _).mono ?_); rintro e w' ⟨rfl, z, rfl⟩))
      go_ret
      exact ⟨rfl, (below_ext (by repeat (first | exact Below.refl _ _ | (with_reducible refine Below.setCell ?_ (by first | (simp; done) | (simp; omega)) _) | (with_reducible refine Below.alloc ?_ (by first | (simp; done) | (simp; omega)) _) | (with_reducible refine Below.onDrewN ?_ _) | (with_reducible refine Below.drew ?_) | (with_reducible refine Below.ofExt ?_ (by first | (simp; done) | (simp; omega))))))⟩
    · rw [h0] at PL
      clear h0
      go_enter Try.func3, Try.ntmps3
      go_wp2_with (first | (go_at_call 10; (first | (with_reducible refine (Calls.ext_of (PL.out _)).mono ?_) | (with_reducible refine (PL.out _).mono ?_)); rintro e w' ⟨rfl, z, rfl⟩) | (go_at_call 11; (first | (with_reducible refine (Calls.ext_of (alive_any _)).mono ?_) | refine (alive_any _).mono ?_); rintro e w' ⟨rfl, z, rfl⟩) | (go_at_call 12; (first | (with_reducible refine (Calls.ext_of (Check_any _ _ _ _)).mono ?_) | refine (Check_any _ _ _ _).mono ?_); rintro e w' ⟨rfl, z, rfl⟩) | (go_at_call 13; (first | (with_reducible refine (Calls.ext_of (Start_any _)).mono ?_) | refine (Start_any _).mono ?_); rintro e w' ⟨rfl, z, rfl⟩))
      go_ret
      exact ⟨rfl, (below_ext (by repeat (first | exact Below.refl _ _ | (with_reducible refine Below.setCell ?_ (by first | (simp; done) | (simp; omega)) _) | (with_reducible refine Below.alloc ?_ (by first | (simp; done) | (simp; omega)) _) | (with_reducible refine Below.onDrewN ?_ _) | (with_reducible refine Below.drew ?_) | (with_reducible refine Below.ofExt ?_ (by first | (simp; done) | (simp; omega))))))⟩

set_option maxRecDepth 100000 in
theorem inspectPlans_lifted (os : Os) (started : os.Started) (H : Type) (enc : TypeId × Value → H) :
    ReturnsInHanded {} Try.checked os 3 .any (Rows.inspectPlansSpec.pre6 enc Try.prog Try.f3 Rows.inspectPlansRow.domain false) (Rows.inspectPlansSpec.post enc Try.prog Try.f3 false true false false) := by
  refine returnsInHanded_of_change (C := Try.checked) own started (by kernel_rfl) Try.func3
    (ChangeSpec.witness6 (enc := enc) (C := Try.checked) false ⟨#[], #[.agg #[.int .i64 0, .int .i64 0, .int .i64 0], .int .u8 0], []⟩ 8 (by kernel_rfl) (by kernel_rfl) (by kernel_rfl) (by kernel_rfl)) ?_
  intro W base args ds gs before hval0 hW hcnd _
  have hval : ∀ (j : Nat) t v, Try.f3.params[j]? = some t → args[j]? = some v → Value.okWide Try.prog W .any base t v := hval0
  have hW' := hW
  obtain ⟨p, q, hA0, hV, rfl, hfz, hnd⟩ := hW
  have hA : DataW.TrodAll enc Try.prog W 0 (fun _ => true) true Try.f3.params.toList args.toList ds p := hA0
  rw [Try.params3] at hA hval
  obtain ⟨v0, v1, d0, d1, p0, p1, rfl, rfl, rfl, h0, h1⟩ := trodAll_two hA
  obtain ⟨l, a, r, rfl⟩ := open_reg Try.underlying23 (hval 0 23 v0 rfl rfl) h0
  obtain ⟨u, rfl, rfl, rfl, wu⟩ := open_int Try.underlying5 (hval 1 5 v1 rfl rfl) h1
  refine (plans_walk l a r u W (fit8_of wu).1 (fit8_of wu).2).mono fun e W' ⟨he, z, hz⟩ => ?_
  subst he hz
  exact ⟨_, rfl, law_post rfl (by kernel_rfl) (by kernel_rfl) Try.underlying4 hW' (fun _ => ⟨rfl, rfl, rfl⟩) (ext_below _ _)⟩

theorem inspectPlans_holds : Rows.InspectPlansSaid :=
  OpenClaim.holds_of_wide 3 Try.f3 rfl rfl rfl rfl rfl rfl rfl ⟨rfl, rfl, rfl, rfl, rfl⟩ rfl rfl rfl rfl rfl (by kernel_rfl) Try.func3 (by kernel_rfl)
    (of_decide_eq_true (by kernel_rfl)) (by unfold Func.isWrapper; first | (rw [if_pos (by decide +kernel)]; kernel_rfl) | (rw [if_neg (by decide +kernel)]; exact ⟨rfl, rfl⟩))
    (fun os started H enc _ => inspectPlans_lifted os started H enc)
#print axioms inspectPlans_holds
end Go.Proofs.Ytnnedgdbbecmcaa
