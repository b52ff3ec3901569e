/-
  InspectRuns returns true for all lists; no condition.
-/
import Derived.Test.YtnnedgdbbecmcaaAl
import Derived.Test.YtnnedgdbbecmcaaRRun
import Derived.Test.YtnnedgdbbecmcaaArgs
namespace Go.Proofs.Ytnnedgdbbecmcaa
open Go.RowKit Go.ChangeShapes Go.WideShapes Go.ChangeAt

theorem Try.cells3 : Try.prog.cellsOf 3 = 1 := by kernel_rfl
theorem Try.cells4 : Try.prog.cellsOf 4 = 1 := by kernel_rfl

set_option maxHeartbeats 4000000 in
theorem runs_walk (a a' : Option Addr) (c c' : Nat) (L F : List Int) (w : World) (h : RowAt w a (L.map (.int .i64))) (h' : RowAt w a' (F.map (.int .i64))) (hm : L.length ≤ maxLen) (hm' : F.length ≤ maxLen) :
    Calls Try.prog 6 #[.slice a L.length c, .slice a' F.length c'] w fun e w' => e = .returned (.bool true) ∧ ∃ z, w' = ext w z := by
  unfold maxLen at hm hm'
  have h1 := Lib.hid h
  have h2 := Lib.hid h'
  clear h h'
  by_cases g1 : 200 < L.length
  · go_enter Try.func6, Try.ntmps6
    go_wp2_with (first | (go_at_call 11; (first | (with_reducible refine (Calls.ext_of (alive_any _)).mono ?_) | refine (alive_any _).mono ?_); rintro e w' ⟨rfl, z, rfl⟩))
    go_ret
    exact ⟨rfl, (below_ext (by repeat (first | exact Below.refl _ _ | (with_reducible refine Below.setCell ?_ (by first | (simp; done) | (simp; omega)) _) | (with_reducible refine Below.alloc ?_ (by first | (simp; done) | (simp; omega)) _) | (with_reducible refine Below.onDrewN ?_ _) | (with_reducible refine Below.drew ?_) | (with_reducible refine Below.ofExt ?_ (by first | (simp; done) | (simp; omega))))))⟩
  · by_cases g2 : 200 < F.length
    · go_enter Try.func6, Try.ntmps6
      go_wp2_with (first | (go_at_call 11; (first | (with_reducible refine (Calls.ext_of (alive_any _)).mono ?_) | refine (alive_any _).mono ?_); rintro e w' ⟨rfl, z, rfl⟩))
      go_ret
      exact ⟨rfl, (below_ext (by repeat (first | exact Below.refl _ _ | (with_reducible refine Below.setCell ?_ (by first | (simp; done) | (simp; omega)) _) | (with_reducible refine Below.alloc ?_ (by first | (simp; done) | (simp; omega)) _) | (with_reducible refine Below.onDrewN ?_ _) | (with_reducible refine Below.drew ?_) | (with_reducible refine Below.ofExt ?_ (by first | (simp; done) | (simp; omega))))))⟩
    · have t1 : ∀ x y z : Int, eq3 x y z x y z = true := by intros; simp [eq3]
      have R1 : ∀ W, RowAt W a (L.map (.int .i64)) → RowAt W a' (F.map (.int .i64)) → Calls Try.prog 14 #[.slice a L.length c, .slice a' F.length c'] W (RunPost (runP L F) W) := fun W x y => Run_any a a' c c' L F W x y (by omega)
      have R2 : ∀ W, RowAt W a (L.map (.int .i64)) → RowAt W a' (F.map (.int .i64)) → Calls Try.prog 19 #[.slice a L.length c, .slice a' F.length c'] W (RunPost (runP L F) W) := fun W x y => RRun_any a a' c c' L F W x y (by omega)
      have ln : (runP L F).1.length ≤ 1000000 := Nat.le_trans (runP_len L F) (by omega)
      generalize runP L F = P at R1 R2 ln
      have K1 := Lib.hid R1
      have K2 := Lib.hid R2
      clear R1 R2
      have e1 : decide (P.1 = P.1) = true := by simp
      go_enter Try.func6, Try.ntmps6
      go_wp2_with (first | (go_at_call 11; (first | (with_reducible refine (Calls.ext_of (alive_any _)).mono ?_) | refine (alive_any _).mono ?_); rintro e w' ⟨rfl, z, rfl⟩))
      refine (K1.out _ h1.out h2.out).mono ?_
      rintro e w' ⟨av, cap, rfl, hrow, z5, rfl⟩
      have HR := Lib.hid hrow
      clear hrow
      go_wp2_with (first | (go_at_call 11; (first | (with_reducible refine (Calls.ext_of (alive_any _)).mono ?_) | refine (alive_any _).mono ?_); rintro e w' ⟨rfl, z, rfl⟩))
      refine (K2.out _ (h1.out.below (by repeat (first | exact Below.refl _ _ | (with_reducible refine Below.setCell ?_ (by first | (simp; done) | (simp; omega)) _) | (with_reducible refine Below.alloc ?_ (by first | (simp; done) | (simp; omega)) _) | (with_reducible refine Below.onDrewN ?_ _) | (with_reducible refine Below.drew ?_) | (with_reducible refine Below.ofExt ?_ (by first | (simp; done) | (simp; omega)))))) (h2.out.below (by repeat (first | exact Below.refl _ _ | (with_reducible refine Below.setCell ?_ (by first | (simp; done) | (simp; omega)) _) | (with_reducible refine Below.alloc ?_ (by first | (simp; done) | (simp; omega)) _) | (with_reducible refine Below.onDrewN ?_ _) | (with_reducible refine Below.drew ?_) | (with_reducible refine Below.ofExt ?_ (by first | (simp; done) | (simp; omega))))))).mono ?_
      rintro e w' ⟨av2, cap2, rfl, hrow, z6, rfl⟩
      have HR2 := Lib.hid hrow
      clear hrow
      go_wp2_with (first | (go_at_call 11; (first | (with_reducible refine (Calls.ext_of (alive_any _)).mono ?_) | refine (alive_any _).mono ?_); rintro e w' ⟨rfl, z, rfl⟩))
      refine (Same_any _ _ _ _ P.1 P.1 _ (HR.out.below (by repeat (first | exact Below.refl _ _ | (with_reducible refine Below.setCell ?_ (by first | (simp; done) | (simp; omega)) _) | (with_reducible refine Below.alloc ?_ (by first | (simp; done) | (simp; omega)) _) | (with_reducible refine Below.onDrewN ?_ _) | (with_reducible refine Below.drew ?_) | (with_reducible refine Below.ofExt ?_ (by first | (simp; done) | (simp; omega)))))) (HR2.out.below (by repeat (first | exact Below.refl _ _ | (with_reducible refine Below.setCell ?_ (by first | (simp; done) | (simp; omega)) _) | (with_reducible refine Below.alloc ?_ (by first | (simp; done) | (simp; omega)) _) | (with_reducible refine Below.onDrewN ?_ _) | (with_reducible refine Below.drew ?_) | (with_reducible refine Below.ofExt ?_ (by first | (simp; done) | (simp; omega)))))) ln).mono ?_
      rintro e w' ⟨rfl, z7, rfl⟩
      clear HR HR2 h1 h2 K1 K2
      go_wp2_with (first | (go_at_call 11; (first | (with_reducible refine (Calls.ext_of (alive_any _)).mono ?_) | refine (alive_any _).mono ?_); rintro e w' ⟨rfl, z, rfl⟩))
      go_ret
      exact ⟨rfl, (below_ext (by repeat (first | exact Below.refl _ _ | (with_reducible refine Below.setCell ?_ (by first | (simp; done) | (simp; omega)) _) | (with_reducible refine Below.alloc ?_ (by first | (simp; done) | (simp; omega)) _) | (with_reducible refine Below.onDrewN ?_ _) | (with_reducible refine Below.drew ?_) | (with_reducible refine Below.ofExt ?_ (by first | (simp; done) | (simp; omega))))))⟩

set_option maxRecDepth 100000 in
theorem inspectRuns_lifted (os : Os) (started : os.Started) (H : Type) (enc : TypeId × Value → H) :
    ReturnsInHanded {} Try.checked os 6 .any (Rows.inspectRunsSpec.pre6 enc Try.prog Try.f6 Rows.inspectRunsRow.domain false) (Rows.inspectRunsSpec.post enc Try.prog Try.f6 false true false false) := by
  refine returnsInHanded_of_change (C := Try.checked) own started (by kernel_rfl) Try.func6
    (ChangeSpec.witness6 (enc := enc) (C := Try.checked) false ⟨#[], #[.slice none 0 0, .slice none 0 0], []⟩ 8 (by kernel_rfl) (by kernel_rfl) (by kernel_rfl) (by kernel_rfl)) ?_
  intro W base args ds gs before hval0 hW hcnd _
  have hval : ∀ (j : Nat) t v, Try.f6.params[j]? = some t → args[j]? = some v → Value.okWide Try.prog W .any base t v := hval0
  have hW' := hW
  obtain ⟨p, q, hA0, hV, rfl, hfz, hnd⟩ := hW
  have hA : DataW.TrodAll enc Try.prog W 0 (fun _ => true) true Try.f6.params.toList args.toList ds p := hA0
  rw [Try.params6] at hA hval
  obtain ⟨v0, v1, d0, d1, p0, p1, rfl, rfl, rfl, h0, h1⟩ := trodAll_two hA
  obtain ⟨a0, c0, L, rfl, m0, r0⟩ := open_row1 (g := Value.int .i64) Try.underlying33 Try.cells3 cell_int (hval 0 33 v0 rfl rfl) h0
  obtain ⟨a1, c1, F, rfl, m1, r1⟩ := open_row1 (g := Value.int .i64) Try.underlying33 Try.cells3 cell_int (hval 1 33 v1 rfl rfl) h1
  refine (runs_walk a0 a1 c0 c1 L F W r0 r1 m0 m1).mono fun e W' ⟨he, z, hz⟩ => ?_
  subst he hz
  exact ⟨_, rfl, law_post rfl (by kernel_rfl) (by kernel_rfl) Try.underlying4 hW' (fun _ => ⟨rfl, rfl, rfl⟩) (ext_below _ _)⟩

theorem inspectRuns_holds : Rows.InspectRunsSaid :=
  OpenClaim.holds_of_wide 6 Try.f6 rfl rfl rfl rfl rfl rfl rfl ⟨rfl, rfl, rfl, rfl, rfl⟩ rfl rfl rfl rfl rfl (by kernel_rfl) Try.func6 (by kernel_rfl)
    (of_decide_eq_true (by kernel_rfl)) (by unfold Func.isWrapper; first | (rw [if_pos (by decide +kernel)]; kernel_rfl) | (rw [if_neg (by decide +kernel)]; exact ⟨rfl, rfl⟩))
    (fun os started H enc _ => inspectRuns_lifted os started H enc)
#print axioms inspectRuns_holds
end Go.Proofs.Ytnnedgdbbecmcaa
