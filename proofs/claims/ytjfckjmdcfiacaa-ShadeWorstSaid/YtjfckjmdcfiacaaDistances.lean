/-
  ShadeDistances returns true for all tones and lists; no condition.
-/
import Derived.Test.YtjfckjmdcfiacaaAwk
import Derived.Test.YtjfckjmdcfiacaaOpen
namespace Go.Proofs.Ytjfckjmdcfiacaa
open Go.RowKit Go.ChangeShapes Go.WideShapes Go.ChangeAt

theorem worst_exists_in (L : List Tone) (X : List Int) (i : Nat) (h : ∃ m, IsWorst L X i 0 m) : ∀ k, k ≤ i → ∃ m, IsWorst L X i k m
  | 0, _ => h
  | k + 1, hk => by
    obtain ⟨m, hm⟩ := worst_exists_in L X i h k (by omega)
    by_cases e : X.getD k 0 = X.getD i 0
    · exact ⟨_, hm.yes (by omega) e⟩
    · exact ⟨_, hm.no e⟩
theorem worst_exists (L : List Tone) (X : List Int) : ∀ i, ∃ m, IsWorst L X i 0 m
  | 0 => ⟨_, isWorst_start L X⟩
  | i + 1 => by
    obtain ⟨m, hm⟩ := worst_exists_in L X i (worst_exists L X i) i (Nat.le_refl _)
    exact ⟨m, hm.next⟩
set_option maxHeartbeats 4000000 in
theorem distances_walk (s t : Tone) (a a' : Option Addr) (c c' : Nat) (L : List Tone) (X : List Int) (w : World) (h : TonesAt w a L) (h' : RowAt w a' (ints X)) (hwf : ∀ j, j < X.length → (Lit.int .i64 (X.getD j 0)).wf = true) (hm : L.length ≤ maxLen) (hm' : X.length ≤ maxLen) :
    Calls Try.prog 3 #[.agg #[.int .i64 s.l, .int .i64 s.a, .int .i64 s.b], .agg #[.int .i64 t.l, .int .i64 t.a, .int .i64 t.b], .slice a L.length c, .slice a' X.length c'] w fun e w' => e = .returned (.bool true) ∧ ∃ z, w' = ext w z := by
  unfold maxLen at hm hm'
  by_cases g1 : 30 < L.length ∨ 30 < X.length
  · clear h h' hwf
    generalize L.length = n at *
    generalize X.length = k at *
    go_enter Try.func3, Try.ntmps3
    rcases g1 with g1 | g1
    · go_wp2_with (first | (go_at_call 9; (first | (with_reducible refine (Calls.ext_of (awake_any _)).mono ?_) | refine (awake_any _).mono ?_); rintro e w' ⟨rfl, z9, rfl⟩))
      go_ret
      exact ⟨rfl, (below_ext (by repeat (first | exact Below.refl _ _ | exact Below.refl _ _ | (with_reducible refine Below.setCell ?_ (by first | omega | (simp; done) | (simp; omega)) _) | (with_reducible refine Below.alloc ?_ (by first | omega | (simp; done) | (simp; omega)) _) | (with_reducible refine Below.onDrewN ?_ _) | (with_reducible refine Below.drew ?_) | (with_reducible refine Below.ofExt ?_ (by first | omega | (simp; done) | (simp; omega))))))⟩
    · by_cases g2 : 30 < n
      · go_wp2_with (first | (go_at_call 9; (first | (with_reducible refine (Calls.ext_of (awake_any _)).mono ?_) | refine (awake_any _).mono ?_); rintro e w' ⟨rfl, z9, rfl⟩))
        go_ret
        exact ⟨rfl, (below_ext (by repeat (first | exact Below.refl _ _ | exact Below.refl _ _ | (with_reducible refine Below.setCell ?_ (by first | omega | (simp; done) | (simp; omega)) _) | (with_reducible refine Below.alloc ?_ (by first | omega | (simp; done) | (simp; omega)) _) | (with_reducible refine Below.onDrewN ?_ _) | (with_reducible refine Below.drew ?_) | (with_reducible refine Below.ofExt ?_ (by first | omega | (simp; done) | (simp; omega))))))⟩
      · go_wp2_with (first | (go_at_call 9; (first | (with_reducible refine (Calls.ext_of (awake_any _)).mono ?_) | refine (awake_any _).mono ?_); rintro e w' ⟨rfl, z9, rfl⟩))
        go_ret
        exact ⟨rfl, (below_ext (by repeat (first | exact Below.refl _ _ | exact Below.refl _ _ | (with_reducible refine Below.setCell ?_ (by first | omega | (simp; done) | (simp; omega)) _) | (with_reducible refine Below.alloc ?_ (by first | omega | (simp; done) | (simp; omega)) _) | (with_reducible refine Below.onDrewN ?_ _) | (with_reducible refine Below.drew ?_) | (with_reducible refine Below.ofExt ?_ (by first | omega | (simp; done) | (simp; omega))))))⟩
  · have g2 : L.length ≤ 30 := by omega
    have g3 : X.length ≤ 30 := by omega
    clear g1
    by_cases g4 : L.length = X.length
    · obtain ⟨m, hW⟩ := worst_exists L X L.length
      have K1 := Lib.hid (fun W h1 h2 => Worst_ok a a' c c' L X W h1 h2 hwf g4 (by omega) m hW)
      have K2 := Lib.hid (fun W h1 h2 => RWorst_ok a a' c c' L X W h1 h2 g4 (by omega) m hW)
      have h1 := Lib.hid h
      have h2 := Lib.hid h'
      clear h h' hwf g4 hW
      generalize L.length = n at *
      generalize X.length = k at *
      go_enter Try.func3, Try.ntmps3
      go_wp2_with fail
      refine (K1.out _ (h1.out.below (by repeat (first | exact Below.refl _ _ | exact Below.refl _ _ | (with_reducible refine Below.setCell ?_ (by first | omega | (simp; done) | (simp; omega)) _) | (with_reducible refine Below.alloc ?_ (by first | omega | (simp; done) | (simp; omega)) _) | (with_reducible refine Below.onDrewN ?_ _) | (with_reducible refine Below.drew ?_) | (with_reducible refine Below.ofExt ?_ (by first | omega | (simp; done) | (simp; omega)))))) (h2.out.below (by repeat (first | exact Below.refl _ _ | exact Below.refl _ _ | (with_reducible refine Below.setCell ?_ (by first | omega | (simp; done) | (simp; omega)) _) | (with_reducible refine Below.alloc ?_ (by first | omega | (simp; done) | (simp; omega)) _) | (with_reducible refine Below.onDrewN ?_ _) | (with_reducible refine Below.drew ?_) | (with_reducible refine Below.ofExt ?_ (by first | omega | (simp; done) | (simp; omega))))))).mono ?_
      rintro e w' ⟨rfl, z1, rfl⟩
      go_wp2_with fail
      refine (K2.out _ (h1.out.below (by repeat (first | exact Below.refl _ _ | exact Below.refl _ _ | (with_reducible refine Below.setCell ?_ (by first | omega | (simp; done) | (simp; omega)) _) | (with_reducible refine Below.alloc ?_ (by first | omega | (simp; done) | (simp; omega)) _) | (with_reducible refine Below.onDrewN ?_ _) | (with_reducible refine Below.drew ?_) | (with_reducible refine Below.ofExt ?_ (by first | omega | (simp; done) | (simp; omega)))))) (h2.out.below (by repeat (first | exact Below.refl _ _ | exact Below.refl _ _ | (with_reducible refine Below.setCell ?_ (by first | omega | (simp; done) | (simp; omega)) _) | (with_reducible refine Below.alloc ?_ (by first | omega | (simp; done) | (simp; omega)) _) | (with_reducible refine Below.onDrewN ?_ _) | (with_reducible refine Below.drew ?_) | (with_reducible refine Below.ofExt ?_ (by first | omega | (simp; done) | (simp; omega))))))).mono ?_
      rintro e w' ⟨rfl, z2, rfl⟩
      clear K1 K2 h1 h2
      go_wp2_with fail
      refine wp_region_ext (by kernel_rfl) (by kernel_rfl) ?_
      repeat (go_big_quiet_step ((first | (go_at_call 12; exact Calls.ext_of (Distance_any _ _ _)) | (go_at_call 13; exact Calls.ext_of (RDistance_any _ _ _)) | (go_at_call 9; exact Calls.ext_of (awake_any _)))))
      refine wpQuiet_nil ?_
      rintro _ ⟨z, rfl⟩
      go_wp2
      go_ret
      exact ⟨rfl, (below_ext (by repeat (first | exact Below.refl _ _ | exact Below.refl _ _ | (with_reducible refine Below.setCell ?_ (by first | omega | (simp; done) | (simp; omega)) _) | (with_reducible refine Below.alloc ?_ (by first | omega | (simp; done) | (simp; omega)) _) | (with_reducible refine Below.onDrewN ?_ _) | (with_reducible refine Below.drew ?_) | (with_reducible refine Below.ofExt ?_ (by first | omega | (simp; done) | (simp; omega))))))⟩
    · clear h h' hwf
      generalize L.length = n at *
      generalize X.length = k at *
      go_enter Try.func3, Try.ntmps3
      go_wp2_with fail
      refine (Worst_bad _ _ _ _ _ _ _ g4).mono ?_
      rintro e w' ⟨rfl, rfl⟩
      go_wp2_with fail
      refine (RWorst_bad _ _ _ _ _ _ _ g4).mono ?_
      rintro e w' ⟨rfl, rfl⟩
      go_wp2_with fail
      refine wp_region_ext (by kernel_rfl) (by kernel_rfl) ?_
      repeat (go_big_quiet_step ((first | (go_at_call 12; exact Calls.ext_of (Distance_any _ _ _)) | (go_at_call 13; exact Calls.ext_of (RDistance_any _ _ _)) | (go_at_call 9; exact Calls.ext_of (awake_any _)))))
      refine wpQuiet_nil ?_
      rintro _ ⟨z, rfl⟩
      go_wp2
      go_ret
      exact ⟨rfl, (below_ext (by repeat (first | exact Below.refl _ _ | exact Below.refl _ _ | (with_reducible refine Below.setCell ?_ (by first | omega | (simp; done) | (simp; omega)) _) | (with_reducible refine Below.alloc ?_ (by first | omega | (simp; done) | (simp; omega)) _) | (with_reducible refine Below.onDrewN ?_ _) | (with_reducible refine Below.drew ?_) | (with_reducible refine Below.ofExt ?_ (by first | omega | (simp; done) | (simp; omega))))))⟩

set_option maxRecDepth 100000 in
theorem shadeDistances_lifted (os : Os) (started : os.Started) (H : Type) (enc : TypeId × Value → H) :
    ReturnsInHanded {} Try.checked os 3 .any (Rows.shadeDistancesSpec.pre6 enc Try.prog Try.f3 Rows.shadeDistancesRow.domain false) (Rows.shadeDistancesSpec.post enc Try.prog Try.f3 false true false false) := by
  refine returnsInHanded_of_change (C := Try.checked) own started (by kernel_rfl) Try.func3
    (ChangeSpec.witness6 (enc := enc) (C := Try.checked) false ⟨#[], #[.agg #[.int .i64 0, .int .i64 0, .int .i64 0], .agg #[.int .i64 0, .int .i64 0, .int .i64 0], .slice none 0 0, .slice none 0 0], []⟩ 8 (by kernel_rfl) (by kernel_rfl) (by kernel_rfl) (by kernel_rfl)) ?_
  intro W base args ds gs before hval0 hW hcnd _
  have hval : ∀ (j : Nat) t v, Try.f3.params[j]? = some t → args[j]? = some v → Value.okWide Try.prog W .any base t v := hval0
  have hW' := hW
  obtain ⟨p, q, hA0, hV, rfl, hfz, hnd⟩ := hW
  have hA : DataW.TrodAll enc Try.prog W 0 (fun _ => true) true Try.f3.params.toList args.toList ds p := hA0
  rw [Try.params3] at hA hval
  obtain ⟨v0, v1, v2, v3, d0, d1, d2, d3, p0, p1, p2, p3, rfl, rfl, rfl, h0, h1, h2, h3⟩ := trodAll_four hA
  obtain ⟨t0, rfl, f0⟩ := open_tone (hval 0 23 v0 rfl rfl) h0
  obtain ⟨t1, rfl, f1⟩ := open_tone (hval 1 23 v1 rfl rfl) h1
  obtain ⟨a2, c2, L2, rfl, m2, r2⟩ := open_tones (hval 2 24 v2 rfl rfl) h2
  obtain ⟨a3, c3, X3, rfl, m3, r3, w3⟩ := open_nums (hval 3 25 v3 rfl rfl) h3
  refine (distances_walk t0 t1 a2 a3 c2 c3 L2 X3 W r2 r3 w3 m2 m3).mono fun e W' ⟨he, z, hz⟩ => ?_
  subst he hz
  exact ⟨_, rfl, law_post rfl (by kernel_rfl) (by kernel_rfl) Try.underlying4 hW' (fun _ => ⟨rfl, rfl, rfl⟩) (ext_below _ _)⟩

theorem shadeDistances_holds : Rows.ShadeDistancesSaid :=
  OpenClaim.holds_of_wide 3 Try.f3 rfl rfl rfl rfl rfl rfl rfl ⟨rfl, rfl, rfl, rfl, rfl⟩ rfl rfl rfl rfl rfl (by kernel_rfl) Try.func3 (by kernel_rfl)
    (of_decide_eq_true (by kernel_rfl)) (by unfold Func.isWrapper; first | (rw [if_pos (by decide +kernel)]; kernel_rfl) | (rw [if_neg (by decide +kernel)]; exact ⟨rfl, rfl⟩))
    (fun os started H enc _ => shadeDistances_lifted os started H enc)
#print axioms shadeDistances_holds
end Go.Proofs.Ytjfckjmdcfiacaa
