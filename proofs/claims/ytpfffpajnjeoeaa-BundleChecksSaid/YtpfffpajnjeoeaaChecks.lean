/-
  BundleChecks returns true for all lays and bundles; no condition.
-/
import Derived.Test.YtpfffpajnjeoeaaAlive
import Derived.Test.YtpfffpajnjeoeaaOpen
namespace Go.Proofs.Ytpfffpajnjeoeaa
open Go.RowKit Go.ChangeShapes Go.WideShapes Go.ChangeAt

set_option maxHeartbeats 4000000 in
theorem checks_walk (y : Lay) (Z P : List Int) (a : Option Addr) (c : Nat) (B : List Bun) (w : World) (hZ : RowAt w y.sa (ints Z)) (hP : PliesAt w y.ya P) (hyc : P.length ≤ y.yc) (hz : Z.length ≤ maxLen) (hp : P.length ≤ maxLen) (hB : BunsAt w a B) (hbc : B.length ≤ c) (hm : B.length ≤ maxLen) :
    Calls Try.prog 5 #[.agg #[.int .i64 y.n1, .int .i64 y.n2, .int .i64 y.n3, .int .i64 y.n4, .slice y.sa Z.length y.sc, .slice y.pa y.pn y.pc, .slice y.ya P.length y.yc], .slice a B.length c] w fun e w' => e = .returned (.bool true) ∧ ∃ z, w' = ext w z := by
  unfold maxLen at hm hz hp
  by_cases g1 : Z.length ≤ 12 ∧ P.length ≤ 80
  · have KL := Lib.hid (fun W => Light_yes y Z.length P.length W g1.1 g1.2)
    by_cases g2 : 100 < B.length
    · clear hZ hP hB
      obtain ⟨n1, n2, n3, n4, sa, sc, pa, pn, pc, ya, yc⟩ := y
      dsimp only at KL ⊢
      generalize Z.length = nz at *
      generalize P.length = np at *
      generalize B.length = n at *
      go_enter Try.func5, Try.ntmps5
      go_wp2_with (first | (go_at_call 11; refine (KL.out _).mono ?_; rintro e w' ⟨rfl, z, rfl⟩) | (go_at_call 12; (first | (with_reducible refine (Calls.ext_of (alive_any _)).mono ?_) | refine (alive_any _).mono ?_); rintro e w' ⟨rfl, z9, rfl⟩))
      go_ret
      exact ⟨rfl, (below_ext (by repeat (first | exact Below.refl _ _ | exact Below.refl _ _ | (with_reducible refine Below.setCell ?_ (by first | omega | (simp; done) | (simp; omega)) _) | (with_reducible refine Below.alloc ?_ (by first | omega | (simp; done) | (simp; omega)) _) | (with_reducible refine Below.onDrewN ?_ _) | (with_reducible refine Below.drew ?_) | (with_reducible refine Below.ofExt ?_ (by first | omega | (simp; done) | (simp; omega))))))⟩
    · obtain ⟨er, hC⟩ := chk_exists Z P B
      have K1 := Lib.hid (fun W (hb : Below w.heap.size w W) => Check_any y Z P a c B W (hZ.below hb) (hP.below hb) (hB.below hb) (by omega) (by omega) (by omega) hyc hbc er hC)
      have K2 := Lib.hid (fun W (hb : Below w.heap.size w W) => RCheck_any y Z P a c B W (hZ.below hb) (hP.below hb) (hB.below hb) (by omega) (by omega) (by omega) hbc er hC)
      clear hZ hP hB hC
      obtain ⟨n1, n2, n3, n4, sa, sc, pa, pn, pc, ya, yc⟩ := y
      dsimp only at KL K1 K2 ⊢
      generalize Z.length = nz at *
      generalize P.length = np at *
      generalize B.length = n at *
      go_enter Try.func5, Try.ntmps5
      go_wp2_with (first | (go_at_call 11; refine (KL.out _).mono ?_; rintro e w' ⟨rfl, z, rfl⟩))
      refine wp_region_ext (by kernel_rfl) (by kernel_rfl) ?_
      repeat (go_big_quiet_step ((first | (go_at_call 18; exact Calls.ext_of (K1.out _ (by repeat (first | exact Below.refl _ _ | exact Below.refl _ _ | (with_reducible refine Below.setCell ?_ (by first | omega | (simp; done) | (simp; omega)) _) | (with_reducible refine Below.alloc ?_ (by first | omega | (simp; done) | (simp; omega)) _) | (with_reducible refine Below.onDrewN ?_ _) | (with_reducible refine Below.drew ?_) | (with_reducible refine Below.ofExt ?_ (by first | omega | (simp; done) | (simp; omega))))))) | (go_at_call 19; exact Calls.ext_of (K2.out _ (by repeat (first | exact Below.refl _ _ | exact Below.refl _ _ | (with_reducible refine Below.setCell ?_ (by first | omega | (simp; done) | (simp; omega)) _) | (with_reducible refine Below.alloc ?_ (by first | omega | (simp; done) | (simp; omega)) _) | (with_reducible refine Below.onDrewN ?_ _) | (with_reducible refine Below.drew ?_) | (with_reducible refine Below.ofExt ?_ (by first | omega | (simp; done) | (simp; omega))))))) | (go_at_call 12; exact Calls.ext_of (alive_any _)))))
      refine wpQuiet_nil ?_
      rintro _ ⟨z2, rfl⟩
      go_wp2
      go_ret
      exact ⟨rfl, (below_ext (by repeat (first | exact Below.refl _ _ | exact Below.refl _ _ | (with_reducible refine Below.setCell ?_ (by first | omega | (simp; done) | (simp; omega)) _) | (with_reducible refine Below.alloc ?_ (by first | omega | (simp; done) | (simp; omega)) _) | (with_reducible refine Below.onDrewN ?_ _) | (with_reducible refine Below.drew ?_) | (with_reducible refine Below.ofExt ?_ (by first | omega | (simp; done) | (simp; omega))))))⟩
  · have KL := Lib.hid (fun W => Light_no y Z.length P.length W g1)
    clear hZ hP hB g1
    obtain ⟨n1, n2, n3, n4, sa, sc, pa, pn, pc, ya, yc⟩ := y
    dsimp only at KL ⊢
    generalize Z.length = nz at *
    generalize P.length = np at *
    generalize B.length = n at *
    go_enter Try.func5, Try.ntmps5
    go_wp2_with (first | (go_at_call 11; refine (KL.out _).mono ?_; rintro e w' ⟨rfl, z, rfl⟩) | (go_at_call 12; (first | (with_reducible refine (Calls.ext_of (alive_any _)).mono ?_) | refine (alive_any _).mono ?_); rintro e w' ⟨rfl, z9, rfl⟩))
    go_ret
    exact ⟨rfl, (below_ext (by repeat (first | exact Below.refl _ _ | exact Below.refl _ _ | (with_reducible refine Below.setCell ?_ (by first | omega | (simp; done) | (simp; omega)) _) | (with_reducible refine Below.alloc ?_ (by first | omega | (simp; done) | (simp; omega)) _) | (with_reducible refine Below.onDrewN ?_ _) | (with_reducible refine Below.drew ?_) | (with_reducible refine Below.ofExt ?_ (by first | omega | (simp; done) | (simp; omega))))))⟩

set_option maxRecDepth 100000 in
theorem bundleChecks_lifted (os : Os) (started : os.Started) (H : Type) (enc : TypeId × Value → H) :
    ReturnsInHanded {} Try.checked os 5 .any (Rows.bundleChecksSpec.pre6 enc Try.prog Try.f5 Rows.bundleChecksRow.domain false) (Rows.bundleChecksSpec.post enc Try.prog Try.f5 false true false false) := by
  refine returnsInHanded_of_change (C := Try.checked) own started (by kernel_rfl) Try.func5
    (ChangeSpec.witness6 (enc := enc) (C := Try.checked) false ⟨#[], #[.agg #[.int .i64 0, .int .i64 0, .int .i64 0, .int .i64 0, .slice none 0 0, .slice none 0 0, .slice none 0 0], .slice none 0 0], []⟩ 8 (by kernel_rfl) (by kernel_rfl) (by kernel_rfl) (by kernel_rfl)) ?_
  intro W base args ds gs before hval0 hW hcnd _
  have hval : ∀ (j : Nat) t v, Try.f5.params[j]? = some t → args[j]? = some v → Value.okWide Try.prog W .any base t v := hval0
  have hW' := hW
  obtain ⟨p, q, hA0, hV, rfl, hfz, hnd⟩ := hW
  have hA : DataW.TrodAll enc Try.prog W 0 (fun _ => true) true Try.f5.params.toList args.toList ds p := hA0
  rw [Try.params5] at hA hval
  obtain ⟨v0, v1, d0, d1, p0, p1, rfl, rfl, rfl, h0, h1⟩ := trodAll_two hA
  obtain ⟨y0, Z0, P0, rfl, mz0, rz0, cy0, mp0, rp0⟩ := open_lay (hval 0 30 v0 rfl rfl) h0
  obtain ⟨a1, c1, B1, rfl, cb1, mb1, rb1⟩ := open_buns (hval 1 33 v1 rfl rfl) h1
  refine (checks_walk y0 Z0 P0 a1 c1 B1 W rz0 rp0 cy0 mz0 mp0 rb1 cb1 mb1).mono fun e W' ⟨he, z, hz⟩ => ?_
  subst he hz
  exact ⟨_, rfl, law_post rfl (by kernel_rfl) (by kernel_rfl) Try.underlying4 hW' (fun _ => ⟨rfl, rfl, rfl⟩) (ext_below _ _)⟩

theorem bundleChecks_holds : Rows.BundleChecksSaid :=
  OpenClaim.holds_of_wide 5 Try.f5 rfl rfl rfl rfl rfl rfl rfl ⟨rfl, rfl, rfl, rfl, rfl⟩ rfl rfl rfl rfl rfl (by kernel_rfl) Try.func5 (by kernel_rfl)
    (of_decide_eq_true (by kernel_rfl)) (by unfold Func.isWrapper; first | (rw [if_pos (by decide +kernel)]; kernel_rfl) | (rw [if_neg (by decide +kernel)]; exact ⟨rfl, rfl⟩))
    (fun os started H enc _ => bundleChecks_lifted os started H enc)
#print axioms bundleChecks_holds
end Go.Proofs.Ytpfffpajnjeoeaa
