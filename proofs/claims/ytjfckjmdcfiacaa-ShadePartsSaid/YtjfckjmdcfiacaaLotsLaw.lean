/-
  ShadeLots returns true for all lists of tones and all tolerances; no condition.
-/
import Derived.Test.YtjfckjmdcfiacaaAwk
import Derived.Test.YtjfckjmdcfiacaaOpen
namespace Go.Proofs.Ytjfckjmdcfiacaa
open Go.RowKit Go.ChangeShapes Go.WideShapes Go.ChangeAt

/-- There are right lots. -/
theorem lots_exist (N : Nat → Nat → Prop) (n : Nat) : ∃ X, LotsOk N n X := by
  refine ⟨(List.range n).map (fun i => (num N (root_exists (N := N) i).choose : Int)), by simp, fun i r hi hr => ?_⟩
  have e := (root_exists (N := N) i).choose_spec.unique hr
  simp [hi, e]
theorem Same_nil (w : World) : Calls Try.prog 16 #[.slice none 0 0, .slice none 0 0] w fun e w' => e = .returned (.bool true) ∧ ∃ z, w' = ext w z :=
  Same_any none none 0 0 [] [] w (rowAt_nil _ _) (rowAt_nil _ _) (by decide)
set_option maxHeartbeats 4000000 in
theorem lots_walk (a : Option Addr) (c : Nat) (L : List Tone) (tol : Int) (w : World) (h : TonesAt w a L) (hm : L.length ≤ maxLen) :
    Calls Try.prog 4 #[.slice a L.length c, .int .i64 tol] w fun e w' => e = .returned (.bool true) ∧ ∃ z, w' = ext w z := by
  unfold maxLen at hm
  by_cases g1 : 30 < L.length
  · clear h
    generalize L.length = n at *
    go_enter Try.func4, Try.ntmps4
    go_wp2_with (first | (go_at_call 9; (first | (with_reducible refine (Calls.ext_of (awake_any _)).mono ?_) | refine (awake_any _).mono ?_); rintro e w' ⟨rfl, z9, rfl⟩))
    go_ret
    exact ⟨rfl, (below_ext (by repeat (first | exact Below.refl _ _ | exact Below.refl _ _ | (with_reducible refine Below.setCell ?_ (by first | omega | (simp; done) | (simp; omega)) _) | (with_reducible refine Below.alloc ?_ (by first | omega | (simp; done) | (simp; omega)) _) | (with_reducible refine Below.onDrewN ?_ _) | (with_reducible refine Below.drew ?_) | (with_reducible refine Below.ofExt ?_ (by first | omega | (simp; done) | (simp; omega))))))⟩
  · by_cases g2 : 20 < L.length
    · clear h
      generalize L.length = n at *
      go_enter Try.func4, Try.ntmps4
      go_wp2_with (first | (go_at_call 14; refine (Lots_long _ _ _ _ _ g2).mono ?_; rintro e w' ⟨rfl, rfl⟩) | (go_at_call 15; refine (RLots_long _ _ _ _ _ g2).mono ?_; rintro e w' ⟨rfl, rfl⟩) | (go_at_call 16; refine (Same_nil _).mono ?_; rintro e w' ⟨rfl, z, rfl⟩) | (first | (go_at_call 9; (first | (with_reducible refine (Calls.ext_of (awake_any _)).mono ?_) | refine (awake_any _).mono ?_); rintro e w' ⟨rfl, z9, rfl⟩)))
      go_ret
      exact ⟨rfl, (below_ext (by repeat (first | exact Below.refl _ _ | exact Below.refl _ _ | (with_reducible refine Below.setCell ?_ (by first | omega | (simp; done) | (simp; omega)) _) | (with_reducible refine Below.alloc ?_ (by first | omega | (simp; done) | (simp; omega)) _) | (with_reducible refine Below.onDrewN ?_ _) | (with_reducible refine Below.drew ?_) | (with_reducible refine Below.ofExt ?_ (by first | omega | (simp; done) | (simp; omega))))))⟩
    · by_cases g3 : tol < 0
      · clear h
        generalize L.length = n at *
        go_enter Try.func4, Try.ntmps4
        go_wp2_with (first | (go_at_call 14; refine (Lots_neg _ _ _ _ _ (by omega) g3).mono ?_; rintro e w' ⟨rfl, rfl⟩) | (go_at_call 15; refine (RLots_neg _ _ _ _ _ (by omega) g3).mono ?_; rintro e w' ⟨rfl, rfl⟩) | (go_at_call 16; refine (Same_nil _).mono ?_; rintro e w' ⟨rfl, z, rfl⟩) | (first | (go_at_call 9; (first | (with_reducible refine (Calls.ext_of (awake_any _)).mono ?_) | refine (awake_any _).mono ?_); rintro e w' ⟨rfl, z9, rfl⟩)))
        go_ret
        exact ⟨rfl, (below_ext (by repeat (first | exact Below.refl _ _ | exact Below.refl _ _ | (with_reducible refine Below.setCell ?_ (by first | omega | (simp; done) | (simp; omega)) _) | (with_reducible refine Below.alloc ?_ (by first | omega | (simp; done) | (simp; omega)) _) | (with_reducible refine Below.onDrewN ?_ _) | (with_reducible refine Below.drew ?_) | (with_reducible refine Below.ofExt ?_ (by first | omega | (simp; done) | (simp; omega))))))⟩
      · obtain ⟨X, hX⟩ := lots_exist (Nr L tol) L.length
        have hXl := hX.1
        have K1 := Lib.hid (fun W hW => Lots_ok a c L tol W hW (by omega) (by omega) X hX)
        have K2 := Lib.hid (fun W hW => RLots_ok a c L tol W hW (by omega) (by omega) X hX)
        have K3 := Lib.hid (fun b b' c c' W h1 h2 => Same_any (some b) (some b') c c' X X W h1 h2 (by omega))
        have e1 : decide (X = X) = true := by simp
        rw [hXl, e1] at K3
        have h1 := Lib.hid h
        clear h hX hXl e1
        generalize L.length = n at *
        go_enter Try.func4, Try.ntmps4
        go_wp2_with (first | (go_at_call 9; (first | (with_reducible refine (Calls.ext_of (awake_any _)).mono ?_) | refine (awake_any _).mono ?_); rintro e w' ⟨rfl, z9, rfl⟩))
        refine (K1.out _ h1.out).mono ?_
        rintro e w' ⟨g, rfl, hB, z1, rfl⟩
        have hg := hB.lt
        have HB := Lib.hid hB
        clear hB
        go_wp2_with (first | (go_at_call 9; (first | (with_reducible refine (Calls.ext_of (awake_any _)).mono ?_) | refine (awake_any _).mono ?_); rintro e w' ⟨rfl, z9, rfl⟩))
        refine (K2.out _ (h1.out.below (by repeat (first | exact Below.refl _ _ | exact Below.refl _ _ | (with_reducible refine Below.setCell ?_ (by first | omega | (simp; done) | (simp; omega)) _) | (with_reducible refine Below.alloc ?_ (by first | omega | (simp; done) | (simp; omega)) _) | (with_reducible refine Below.onDrewN ?_ _) | (with_reducible refine Below.drew ?_) | (with_reducible refine Below.ofExt ?_ (by first | omega | (simp; done) | (simp; omega))))))).mono ?_
        rintro e w' ⟨g', rfl, hB, z2, rfl⟩
        have hg' := hB.lt
        have HB' := Lib.hid hB
        clear hB
        go_wp2_with (first | (go_at_call 9; (first | (with_reducible refine (Calls.ext_of (awake_any _)).mono ?_) | refine (awake_any _).mono ?_); rintro e w' ⟨rfl, z9, rfl⟩))
        refine (K3.out _ _ _ _ _ (HB.out.row.below (by repeat (first | exact Below.refl _ _ | exact Below.refl _ _ | (with_reducible refine Below.setCell ?_ (by first | omega | (simp; done) | (simp; omega)) _) | (with_reducible refine Below.alloc ?_ (by first | omega | (simp; done) | (simp; omega)) _) | (with_reducible refine Below.onDrewN ?_ _) | (with_reducible refine Below.drew ?_) | (with_reducible refine Below.ofExt ?_ (by first | omega | (simp; done) | (simp; omega)))))) HB'.out.row).mono ?_
        rintro e w' ⟨rfl, z3, rfl⟩
        clear HB HB' K1 K2 K3
        go_wp2_with (first | (go_at_call 9; (first | (with_reducible refine (Calls.ext_of (awake_any _)).mono ?_) | refine (awake_any _).mono ?_); rintro e w' ⟨rfl, z9, rfl⟩))
        go_ret
        exact ⟨rfl, (below_ext (by repeat (first | exact Below.refl _ _ | exact Below.refl _ _ | (with_reducible refine Below.setCell ?_ (by first | omega | (simp; done) | (simp; omega)) _) | (with_reducible refine Below.alloc ?_ (by first | omega | (simp; done) | (simp; omega)) _) | (with_reducible refine Below.onDrewN ?_ _) | (with_reducible refine Below.drew ?_) | (with_reducible refine Below.ofExt ?_ (by first | omega | (simp; done) | (simp; omega))))))⟩

set_option maxRecDepth 100000 in
theorem shadeLots_lifted (os : Os) (started : os.Started) (H : Type) (enc : TypeId × Value → H) :
    ReturnsInHanded {} Try.checked os 4 .any (Rows.shadeLotsSpec.pre6 enc Try.prog Try.f4 Rows.shadeLotsRow.domain false) (Rows.shadeLotsSpec.post enc Try.prog Try.f4 false true false false) := by
  refine returnsInHanded_of_change (C := Try.checked) own started (by kernel_rfl) Try.func4
    (ChangeSpec.witness6 (enc := enc) (C := Try.checked) false ⟨#[], #[.slice none 0 0, .int .i64 0], []⟩ 8 (by kernel_rfl) (by kernel_rfl) (by kernel_rfl) (by kernel_rfl)) ?_
  intro W base args ds gs before hval0 hW hcnd _
  have hval : ∀ (j : Nat) t v, Try.f4.params[j]? = some t → args[j]? = some v → Value.okWide Try.prog W .any base t v := hval0
  have hW' := hW
  obtain ⟨p, q, hA0, hV, rfl, hfz, hnd⟩ := hW
  have hA : DataW.TrodAll enc Try.prog W 0 (fun _ => true) true Try.f4.params.toList args.toList ds p := hA0
  rw [Try.params4] at hA hval
  obtain ⟨v0, v1, d0, d1, p0, p1, rfl, rfl, rfl, h0, h1⟩ := trodAll_two hA
  obtain ⟨a0, c0, L0, rfl, m0, r0⟩ := open_tones (hval 0 24 v0 rfl rfl) h0
  obtain ⟨x1, rfl, rfl, rfl, w1⟩ := open_int Try.underlying3 (hval 1 3 v1 rfl rfl) h1
  refine (lots_walk a0 c0 L0 x1 W r0 m0).mono fun e W' ⟨he, z, hz⟩ => ?_
  subst he hz
  exact ⟨_, rfl, law_post rfl (by kernel_rfl) (by kernel_rfl) Try.underlying4 hW' (fun _ => ⟨rfl, rfl, rfl⟩) (ext_below _ _)⟩

theorem shadeLots_holds : Rows.ShadeLotsSaid :=
  OpenClaim.holds_of_wide 4 Try.f4 rfl rfl rfl rfl rfl rfl rfl ⟨rfl, rfl, rfl, rfl, rfl⟩ rfl rfl rfl rfl rfl (by kernel_rfl) Try.func4 (by kernel_rfl)
    (of_decide_eq_true (by kernel_rfl)) (by unfold Func.isWrapper; first | (rw [if_pos (by decide +kernel)]; kernel_rfl) | (rw [if_neg (by decide +kernel)]; exact ⟨rfl, rfl⟩))
    (fun os started H enc _ => shadeLots_lifted os started H enc)
#print axioms shadeLots_holds
end Go.Proofs.Ytjfckjmdcfiacaa
