/-
  BundleMakes returns true for all lays and limits; no condition.
-/
import Derived.Test.YtpfffpajnjeoeaaAlive
import Derived.Test.YtpfffpajnjeoeaaOpen
namespace Go.Proofs.Ytpfffpajnjeoeaa
open Go.RowKit Go.ChangeShapes Go.WideShapes Go.ChangeAt

/-- The bundles of a lay. -/
def made (Z P : List Int) (most : Int) : List Bun := mkB Z P (tri (Full P most) Z.length)
theorem made_len (Z P : List Int) (most : Int) : (made Z P most).length = (tri (Full P most) Z.length).length := mkB_len _ _ _
theorem Make_ok (y : Lay) (Z P : List Int) (most : Int) (w : World) (hZ : RowAt w y.sa (ints Z)) (hP : PliesAt w y.ya P) (hz : Z.length ≤ 1000000) (hp : P.length ≤ 1000000) (hm : 1 ≤ most) (hmm : most ≤ 9223372036854775807) (hl : (made Z P most).length ≤ 60) (W : World) (hb : Below w.heap.size w W) :
    Calls Try.prog 13 #[.agg #[.int .i64 y.n1, .int .i64 y.n2, .int .i64 y.n3, .int .i64 y.n4, .slice y.sa Z.length y.sc, .slice y.pa y.pn y.pc, .slice y.ya P.length y.yc], .int .i64 most] W (MadePost (made Z P most) W) := by
  refine (Make_any y Z P most W (hZ.below hb) (hP.below hb) hz hp hm hmm).mono ?_
  rintro e w' (⟨_, h⟩ | ⟨h, _⟩)
  · exact h
  · rw [made_len] at hl; omega
theorem Make_long (y : Lay) (Z P : List Int) (most : Int) (w : World) (hZ : RowAt w y.sa (ints Z)) (hP : PliesAt w y.ya P) (hz : Z.length ≤ 1000000) (hp : P.length ≤ 1000000) (hm : 1 ≤ most) (hmm : most ≤ 9223372036854775807) (hl : ¬ (made Z P most).length ≤ 60) (W : World) (hb : Below w.heap.size w W) :
    Calls Try.prog 13 #[.agg #[.int .i64 y.n1, .int .i64 y.n2, .int .i64 y.n3, .int .i64 y.n4, .slice y.sa Z.length y.sc, .slice y.pa y.pn y.pc, .slice y.ya P.length y.yc], .int .i64 most] W fun e w' => e = .returned (.tuple #[.slice none 0 0, .int .i64 5]) ∧ ∃ z, w' = ext W z := by
  refine (Make_any y Z P most W (hZ.below hb) (hP.below hb) hz hp hm hmm).mono ?_
  rintro e w' (⟨h, _⟩ | ⟨_, h⟩)
  · rw [made_len] at hl; omega
  · exact h
theorem RMake_ok (y : Lay) (Z P : List Int) (most : Int) (w : World) (hZ : RowAt w y.sa (ints Z)) (hP : PliesAt w y.ya P) (hz : Z.length ≤ 1000000) (hp : P.length ≤ 1000000) (hm : 1 ≤ most) (hmm : most ≤ 9223372036854775807) (hl : (made Z P most).length ≤ 60) (W : World) (hb : Below w.heap.size w W) :
    Calls Try.prog 14 #[.agg #[.int .i64 y.n1, .int .i64 y.n2, .int .i64 y.n3, .int .i64 y.n4, .slice y.sa Z.length y.sc, .slice y.pa y.pn y.pc, .slice y.ya P.length y.yc], .int .i64 most] W (MadePost (made Z P most) W) := by
  refine (RMake_any y Z P most W (hZ.below hb) (hP.below hb) hz hp hm hmm).mono ?_
  rintro e w' (⟨_, h⟩ | ⟨h, _⟩)
  · exact h
  · rw [made_len] at hl; omega
theorem RMake_long (y : Lay) (Z P : List Int) (most : Int) (w : World) (hZ : RowAt w y.sa (ints Z)) (hP : PliesAt w y.ya P) (hz : Z.length ≤ 1000000) (hp : P.length ≤ 1000000) (hm : 1 ≤ most) (hmm : most ≤ 9223372036854775807) (hl : ¬ (made Z P most).length ≤ 60) (W : World) (hb : Below w.heap.size w W) :
    Calls Try.prog 14 #[.agg #[.int .i64 y.n1, .int .i64 y.n2, .int .i64 y.n3, .int .i64 y.n4, .slice y.sa Z.length y.sc, .slice y.pa y.pn y.pc, .slice y.ya P.length y.yc], .int .i64 most] W fun e w' => e = .returned (.tuple #[.slice none 0 0, .int .i64 5]) ∧ ∃ z, w' = ext W z := by
  refine (RMake_any y Z P most W (hZ.below hb) (hP.below hb) hz hp hm hmm).mono ?_
  rintro e w' (⟨h, _⟩ | ⟨_, h⟩)
  · rw [made_len] at hl; omega
  · exact h
theorem most_le {x : Int} (h : (Lit.int .i64 x).wf = true) : x ≤ 9223372036854775807 := by
  simp [Lit.wf, IntKind.min, IntKind.max, IntKind.signed, IntKind.bits] at h
  omega
theorem Same_nil (w : World) : Calls Try.prog 15 #[.slice none 0 0, .slice none 0 0] w fun e w' => e = .returned (.bool true) ∧ ∃ z, w' = ext w z :=
  Same_eq none none 0 0 [] w (bunsAt_nil _ _) (bunsAt_nil _ _) (by decide)
set_option maxHeartbeats 4000000 in
theorem makes_walk (y : Lay) (Z P : List Int) (most : Int) (w : World) (hZ : RowAt w y.sa (ints Z)) (hP : PliesAt w y.ya P) (_hyc : P.length ≤ y.yc) (hz : Z.length ≤ maxLen) (hp : P.length ≤ maxLen) (hw : (Lit.int .i64 most).wf = true) :
    Calls Try.prog 3 #[.agg #[.int .i64 y.n1, .int .i64 y.n2, .int .i64 y.n3, .int .i64 y.n4, .slice y.sa Z.length y.sc, .slice y.pa y.pn y.pc, .slice y.ya P.length y.yc], .int .i64 most] w fun e w' => e = .returned (.bool true) ∧ ∃ z, w' = ext w z := by
  unfold maxLen at hz hp
  have hmm := most_le hw
  by_cases g1 : Z.length ≤ 12 ∧ P.length ≤ 80
  · have KL := Lib.hid (fun W => Light_yes y Z.length P.length W g1.1 g1.2)
    by_cases g2 : most < 1
    · have K1 := Lib.hid (fun W => Make_range y Z.length P.length most W g2)
      have K2 := Lib.hid (fun W => RMake_range y Z.length P.length most W g2)
      clear hZ hP g2 hw hmm _hyc
      obtain ⟨n1, n2, n3, n4, sa, sc, pa, pn, pc, ya, yc⟩ := y
      dsimp only at KL K1 K2 ⊢
      generalize Z.length = nz at *
      generalize P.length = np at *
      go_enter Try.func3, Try.ntmps3
      go_wp2_with (first | (go_at_call 11; refine (KL.out _).mono ?_; rintro e w' ⟨rfl, z, rfl⟩) | (go_at_call 13; refine (K1.out _).mono ?_; rintro e w' ⟨rfl, z, rfl⟩) | (go_at_call 14; refine (K2.out _).mono ?_; rintro e w' ⟨rfl, z, rfl⟩) | (go_at_call 15; refine (Same_nil _).mono ?_; rintro e w' ⟨rfl, z, rfl⟩) | (go_at_call 12; (first | (with_reducible refine (Calls.ext_of (alive_any _)).mono ?_) | refine (alive_any _).mono ?_); rintro e w' ⟨rfl, z9, rfl⟩))
      go_ret
      exact ⟨rfl, (below_ext (by repeat (first | exact Below.refl _ _ | exact Below.refl _ _ | (with_reducible refine Below.setCell ?_ (by first | omega | (simp; done) | (simp; omega)) _) | (with_reducible refine Below.alloc ?_ (by first | omega | (simp; done) | (simp; omega)) _) | (with_reducible refine Below.onDrewN ?_ _) | (with_reducible refine Below.drew ?_) | (with_reducible refine Below.ofExt ?_ (by first | omega | (simp; done) | (simp; omega))))))⟩
    · by_cases g3 : (made Z P most).length ≤ 60
      · have K1 := Lib.hid (Make_ok y Z P most w hZ hP (by omega) (by omega) (by omega) hmm g3)
        have K2 := Lib.hid (RMake_ok y Z P most w hZ hP (by omega) (by omega) (by omega) hmm g3)
        have KS := Lib.hid (fun a a' c c' W h1 h2 => Same_eq a a' c c' (made Z P most) W h1 h2 (by omega))
        clear hZ hP g2 hw hmm _hyc
        obtain ⟨n1, n2, n3, n4, sa, sc, pa, pn, pc, ya, yc⟩ := y
        dsimp only at KL K1 K2 ⊢
        generalize Z.length = nz at *
        generalize P.length = np at *
        generalize made Z P most = A at *
        go_enter Try.func3, Try.ntmps3
        go_wp2_with (first | (go_at_call 11; refine (KL.out _).mono ?_; rintro e w' ⟨rfl, z, rfl⟩))
        refine (K1.out _ (by repeat (first | exact Below.refl _ _ | exact Below.refl _ _ | (with_reducible refine Below.setCell ?_ (by first | omega | (simp; done) | (simp; omega)) _) | (with_reducible refine Below.alloc ?_ (by first | omega | (simp; done) | (simp; omega)) _) | (with_reducible refine Below.onDrewN ?_ _) | (with_reducible refine Below.drew ?_) | (with_reducible refine Below.ofExt ?_ (by first | omega | (simp; done) | (simp; omega)))))).mono ?_
        rintro e w' ⟨a1, cap1, rfl, _, hb1, z1, rfl⟩
        have HB1 := Lib.hid hb1
        clear hb1
        go_wp2_with fail
        refine (K2.out _ (by repeat (first | exact Below.refl _ _ | exact Below.refl _ _ | (with_reducible refine Below.setCell ?_ (by first | omega | (simp; done) | (simp; omega)) _) | (with_reducible refine Below.alloc ?_ (by first | omega | (simp; done) | (simp; omega)) _) | (with_reducible refine Below.onDrewN ?_ _) | (with_reducible refine Below.drew ?_) | (with_reducible refine Below.ofExt ?_ (by first | omega | (simp; done) | (simp; omega)))))).mono ?_
        rintro e w' ⟨a2, cap2, rfl, _, hb2, z2, rfl⟩
        have HB2 := Lib.hid hb2
        clear hb2
        go_wp2_with fail
        refine (KS.out _ _ _ _ _ (HB1.out.below (by repeat (first | exact Below.refl _ _ | exact Below.refl _ _ | (with_reducible refine Below.setCell ?_ (by first | omega | (simp; done) | (simp; omega)) _) | (with_reducible refine Below.alloc ?_ (by first | omega | (simp; done) | (simp; omega)) _) | (with_reducible refine Below.onDrewN ?_ _) | (with_reducible refine Below.drew ?_) | (with_reducible refine Below.ofExt ?_ (by first | omega | (simp; done) | (simp; omega)))))) HB2.out).mono ?_
        rintro e w' ⟨rfl, z3, rfl⟩
        clear HB1 HB2
        go_wp2_with (first | (go_at_call 12; (first | (with_reducible refine (Calls.ext_of (alive_any _)).mono ?_) | refine (alive_any _).mono ?_); rintro e w' ⟨rfl, z9, rfl⟩))
        go_ret
        exact ⟨rfl, (below_ext (by repeat (first | exact Below.refl _ _ | exact Below.refl _ _ | (with_reducible refine Below.setCell ?_ (by first | omega | (simp; done) | (simp; omega)) _) | (with_reducible refine Below.alloc ?_ (by first | omega | (simp; done) | (simp; omega)) _) | (with_reducible refine Below.onDrewN ?_ _) | (with_reducible refine Below.drew ?_) | (with_reducible refine Below.ofExt ?_ (by first | omega | (simp; done) | (simp; omega))))))⟩
      · have K1 := Lib.hid (Make_long y Z P most w hZ hP (by omega) (by omega) (by omega) hmm g3)
        have K2 := Lib.hid (RMake_long y Z P most w hZ hP (by omega) (by omega) (by omega) hmm g3)
        clear hZ hP g2 hw hmm _hyc g3
        obtain ⟨n1, n2, n3, n4, sa, sc, pa, pn, pc, ya, yc⟩ := y
        dsimp only at KL K1 K2 ⊢
        generalize Z.length = nz at *
        generalize P.length = np at *
        go_enter Try.func3, Try.ntmps3
        go_wp2_with (first | (go_at_call 11; refine (KL.out _).mono ?_; rintro e w' ⟨rfl, z, rfl⟩))
        refine (K1.out _ (by repeat (first | exact Below.refl _ _ | exact Below.refl _ _ | (with_reducible refine Below.setCell ?_ (by first | omega | (simp; done) | (simp; omega)) _) | (with_reducible refine Below.alloc ?_ (by first | omega | (simp; done) | (simp; omega)) _) | (with_reducible refine Below.onDrewN ?_ _) | (with_reducible refine Below.drew ?_) | (with_reducible refine Below.ofExt ?_ (by first | omega | (simp; done) | (simp; omega)))))).mono ?_
        rintro e w' ⟨rfl, z1, rfl⟩
        go_wp2_with fail
        refine (K2.out _ (by repeat (first | exact Below.refl _ _ | exact Below.refl _ _ | (with_reducible refine Below.setCell ?_ (by first | omega | (simp; done) | (simp; omega)) _) | (with_reducible refine Below.alloc ?_ (by first | omega | (simp; done) | (simp; omega)) _) | (with_reducible refine Below.onDrewN ?_ _) | (with_reducible refine Below.drew ?_) | (with_reducible refine Below.ofExt ?_ (by first | omega | (simp; done) | (simp; omega)))))).mono ?_
        rintro e w' ⟨rfl, z2, rfl⟩
        go_wp2_with (first | (go_at_call 15; refine (Same_nil _).mono ?_; rintro e w' ⟨rfl, z, rfl⟩) | (go_at_call 12; (first | (with_reducible refine (Calls.ext_of (alive_any _)).mono ?_) | refine (alive_any _).mono ?_); rintro e w' ⟨rfl, z9, rfl⟩))
        go_ret
        exact ⟨rfl, (below_ext (by repeat (first | exact Below.refl _ _ | exact Below.refl _ _ | (with_reducible refine Below.setCell ?_ (by first | omega | (simp; done) | (simp; omega)) _) | (with_reducible refine Below.alloc ?_ (by first | omega | (simp; done) | (simp; omega)) _) | (with_reducible refine Below.onDrewN ?_ _) | (with_reducible refine Below.drew ?_) | (with_reducible refine Below.ofExt ?_ (by first | omega | (simp; done) | (simp; omega))))))⟩
  · have KL := Lib.hid (fun W => Light_no y Z.length P.length W g1)
    clear hZ hP g1 hw hmm _hyc
    obtain ⟨n1, n2, n3, n4, sa, sc, pa, pn, pc, ya, yc⟩ := y
    dsimp only at KL ⊢
    generalize Z.length = nz at *
    generalize P.length = np at *
    go_enter Try.func3, Try.ntmps3
    go_wp2_with (first | (go_at_call 11; refine (KL.out _).mono ?_; rintro e w' ⟨rfl, z, rfl⟩) | (go_at_call 12; (first | (with_reducible refine (Calls.ext_of (alive_any _)).mono ?_) | refine (alive_any _).mono ?_); rintro e w' ⟨rfl, z9, rfl⟩))
    go_ret
    exact ⟨rfl, (below_ext (by repeat (first | exact Below.refl _ _ | exact Below.refl _ _ | (with_reducible refine Below.setCell ?_ (by first | omega | (simp; done) | (simp; omega)) _) | (with_reducible refine Below.alloc ?_ (by first | omega | (simp; done) | (simp; omega)) _) | (with_reducible refine Below.onDrewN ?_ _) | (with_reducible refine Below.drew ?_) | (with_reducible refine Below.ofExt ?_ (by first | omega | (simp; done) | (simp; omega))))))⟩

set_option maxRecDepth 100000 in
theorem bundleMakes_lifted (os : Os) (started : os.Started) (H : Type) (enc : TypeId × Value → H) :
    ReturnsInHanded {} Try.checked os 3 .any (Rows.bundleMakesSpec.pre6 enc Try.prog Try.f3 Rows.bundleMakesRow.domain false) (Rows.bundleMakesSpec.post enc Try.prog Try.f3 false true false false) := by
  refine returnsInHanded_of_change (C := Try.checked) own started (by kernel_rfl) Try.func3
    (ChangeSpec.witness6 (enc := enc) (C := Try.checked) false ⟨#[], #[.agg #[.int .i64 0, .int .i64 0, .int .i64 0, .int .i64 0, .slice none 0 0, .slice none 0 0, .slice none 0 0], .int .i64 0], []⟩ 8 (by kernel_rfl) (by kernel_rfl) (by kernel_rfl) (by kernel_rfl)) ?_
  intro W base args ds gs before hval0 hW hcnd _
  have hval : ∀ (j : Nat) t v, Try.f3.params[j]? = some t → args[j]? = some v → Value.okWide Try.prog W .any base t v := hval0
  have hW' := hW
  obtain ⟨p, q, hA0, hV, rfl, hfz, hnd⟩ := hW
  have hA : DataW.TrodAll enc Try.prog W 0 (fun _ => true) true Try.f3.params.toList args.toList ds p := hA0
  rw [Try.params3] at hA hval
  obtain ⟨v0, v1, d0, d1, p0, p1, rfl, rfl, rfl, h0, h1⟩ := trodAll_two hA
  obtain ⟨y0, Z0, P0, rfl, mz0, rz0, cy0, mp0, rp0⟩ := open_lay (hval 0 30 v0 rfl rfl) h0
  obtain ⟨x1, rfl, rfl, rfl, w1⟩ := open_int Try.underlying3 (hval 1 3 v1 rfl rfl) h1
  refine (makes_walk y0 Z0 P0 x1 W rz0 rp0 cy0 mz0 mp0 w1).mono fun e W' ⟨he, z, hz⟩ => ?_
  subst he hz
  exact ⟨_, rfl, law_post rfl (by kernel_rfl) (by kernel_rfl) Try.underlying4 hW' (fun _ => ⟨rfl, rfl, rfl⟩) (ext_below _ _)⟩

theorem bundleMakes_holds : Rows.BundleMakesSaid :=
  OpenClaim.holds_of_wide 3 Try.f3 rfl rfl rfl rfl rfl rfl rfl ⟨rfl, rfl, rfl, rfl, rfl⟩ rfl rfl rfl rfl rfl (by kernel_rfl) Try.func3 (by kernel_rfl)
    (of_decide_eq_true (by kernel_rfl)) (by unfold Func.isWrapper; first | (rw [if_pos (by decide +kernel)]; kernel_rfl) | (rw [if_neg (by decide +kernel)]; exact ⟨rfl, rfl⟩))
    (fun os started H enc _ => bundleMakes_lifted os started H enc)
#print axioms bundleMakes_holds
end Go.Proofs.Ytpfffpajnjeoeaa
