/-
  BundleLimits returns true for all lays and limits; no condition.
-/
import Derived.Test.YtpfffpajnjeoeaaMakes
namespace Go.Proofs.Ytpfffpajnjeoeaa
open Go.RowKit Go.ChangeShapes Go.WideShapes Go.ChangeAt

/-- One of the bundles of a lay. -/
theorem made_at {Z P : List Int} {most : Int} (hm : 1 ≤ most) {i : Nat} (hi : i < (made Z P most).length) :
    ∃ g f t : Nat, bn (made Z P most) i = ⟨(i : Int) + 1, g, Z.getD g 0, P.getD f 0, f, t⟩ ∧ g < Z.length ∧ IsEnd P most f t := by
  have hi' : i < (tri (Full P most) Z.length).length := by rw [← made_len]; exact hi
  obtain ⟨_, h2, h3⟩ := made_sane (Z := Z) hm rfl hi'
  refine ⟨(tri (Full P most) Z.length)[i].1, (tri (Full P most) Z.length)[i].2.1, (tri (Full P most) Z.length)[i].2.2, ?_, h3, h2⟩
  unfold made
  rw [mkB_at Z P _ hi']
  rfl
theorem made_box {w z1 z2 : World} {X : Obj} : (ext (ext (w.alloc X) z1) z2).heap[w.heap.size]? = some X := by
  rw [ext_block _ _ _ (by first | omega | (simp; done) | (simp; omega)), ext_block _ _ _ (by first | omega | (simp; done) | (simp; omega))]
  exact heap_alloc_at _ _ _ rfl
set_option maxRecDepth 100000 in
set_option maxHeartbeats 8000000 in
theorem limits_walk (y : Lay) (Z P : List Int) (most : Int) (w : World) (hZ : RowAt w y.sa (ints Z)) (hP : PliesAt w y.ya P) (_hyc : P.length ≤ y.yc) (hz : Z.length ≤ maxLen) (hp : P.length ≤ maxLen) (hw : (Lit.int .i64 most).wf = true) :
    Calls Try.prog 7 #[.agg #[.int .i64 y.n1, .int .i64 y.n2, .int .i64 y.n3, .int .i64 y.n4, .slice y.sa Z.length y.sc, .slice y.pa y.pn y.pc, .slice y.ya P.length y.yc], .int .i64 most] w fun e w' => e = .returned (.bool true) ∧ ∃ z, w' = ext w z := by
  unfold maxLen at hz hp
  have hmm := most_le hw
  by_cases g1 : Z.length ≤ 12 ∧ P.length ≤ 80
  · have KL := Lib.hid (fun W => Light_yes y Z.length P.length W g1.1 g1.2)
    by_cases g2 : most < 1
    · have K1 := Lib.hid (fun W => Make_range y Z.length P.length most W g2)
      clear hZ hP hw hmm _hyc
      have g2b : decide (most < 1) = true := decide_eq_true g2
      obtain ⟨n1, n2, n3, n4, sa, sc, pa, pn, pc, ya, yc⟩ := y
      dsimp only at KL K1 ⊢
      generalize Z.length = nz at *
      generalize P.length = np at *
      go_enter Try.func7, Try.ntmps7
      go_wp2_with (first | (go_at_call 11; refine (KL.out _).mono ?_; rintro e w' ⟨rfl, z, rfl⟩) | (go_at_call 13; refine (K1.out _).mono ?_; rintro e w' ⟨rfl, z, rfl⟩) | (go_at_call 12; (first | (with_reducible refine (Calls.ext_of (alive_any _)).mono ?_) | refine (alive_any _).mono ?_); rintro e w' ⟨rfl, z9, rfl⟩))
      go_ret
      exact ⟨rfl, (below_ext (by repeat (first | exact Below.refl _ _ | exact Below.refl _ _ | (with_reducible refine Below.setCell ?_ (by first | omega | (simp; done) | (simp; omega)) _) | (with_reducible refine Below.alloc ?_ (by first | omega | (simp; done) | (simp; omega)) _) | (with_reducible refine Below.onDrewN ?_ _) | (with_reducible refine Below.drew ?_) | (with_reducible refine Below.ofExt ?_ (by first | omega | (simp; done) | (simp; omega))))))⟩
    · by_cases g3 : (made Z P most).length ≤ 60
      · have K1 := Lib.hid (Make_ok y Z P most w hZ hP (by omega) (by omega) (by omega) hmm g3)
        have HAT := Lib.hid (fun i hi => made_at (Z := Z) (P := P) (most := most) (i := i) (by omega) hi)
        clear hZ hw _hyc
        obtain ⟨n1, n2, n3, n4, sa, sc, pa, pn, pc, ya, yc⟩ := y
        dsimp only at KL K1 hP ⊢
        obtain ⟨bp, op, hpa, hpc⟩ := hP
        have HPA := Lib.hid hpa
        have HPC := Lib.hid hpc
        clear hpa hpc
        generalize hnz : Z.length = nz at *
        generalize hnp : P.length = np at *
        have HNP := Lib.hid hnp
        clear hnz hnp
        generalize made Z P most = A at *
        go_enter Try.func7, Try.ntmps7
        go_wp2_with (first | (go_at_call 11; refine (KL.out _).mono ?_; rintro e w' ⟨rfl, z, rfl⟩))
        refine (K1.out _ (by repeat (first | exact Below.refl _ _ | exact Below.refl _ _ | (with_reducible refine Below.setCell ?_ (by first | omega | (simp; done) | (simp; omega)) _) | (with_reducible refine Below.alloc ?_ (by first | omega | (simp; done) | (simp; omega)) _) | (with_reducible refine Below.onDrewN ?_ _) | (with_reducible refine Below.drew ?_) | (with_reducible refine Below.ofExt ?_ (by first | omega | (simp; done) | (simp; omega)))))).mono ?_
        rintro e w' ⟨a1, cap1, rfl, hca, hb1, z1, rfl⟩
        have HLB := Lib.hid (made_box (w := w) (z1 := z) (z2 := z1) (X := .cells #[.int .i64 n1, .int .i64 n2, .int .i64 n3, .int .i64 n4, .slice sa nz sc, .slice pa pn pc, .slice ya np yc] 30))
        have HB1 := Lib.hid hb1
        have hW1 : Below w.heap.size w (ext (ext (w.alloc (.cells #[.int .i64 n1, .int .i64 n2, .int .i64 n3, .int .i64 n4, .slice sa nz sc, .slice pa pn pc, .slice ya np yc] 30)) z) z1) := (by repeat (first | exact Below.refl _ _ | exact Below.refl _ _ | (with_reducible refine Below.setCell ?_ (by first | omega | (simp; done) | (simp; omega)) _) | (with_reducible refine Below.alloc ?_ (by first | omega | (simp; done) | (simp; omega)) _) | (with_reducible refine Below.onDrewN ?_ _) | (with_reducible refine Below.drew ?_) | (with_reducible refine Below.ofExt ?_ (by first | omega | (simp; done) | (simp; omega)))))
        clear hb1
        go_wp2_with fail
        generalize ext (ext (w.alloc (.cells #[.int .i64 n1, .int .i64 n2, .int .i64 n3, .int .i64 n4, .slice sa nz sc, .slice pa pn pc, .slice ya np yc] 30)) z) z1 = W1 at *
        generalize hna : A.length = n at *
        obtain ⟨ba, oa, haa, hac⟩ := HB1.out
        rw [hna] at haa hac
        have HAA := Lib.hid haa
        have HAC := Lib.hid hac
        clear haa hac hna HB1
        go_loopg [7] n (fun gk i wr => ∃ j : Nat, gk = n - j ∧ j ≤ n ∧ i = .int .i64 j ∧ Below W1.heap.size W1 wr)
        case atStart => exact ⟨0, by omega, by omega, rfl, Below.refl _ _⟩
        case round =>
          obtain ⟨j, hgj, hj, rfl, hbel⟩ := hrel
          have HG := Lib.hid hgj
          clear hgj
          have hold : Below w.heap.size w wr := hW1.trans (hbel.mono hW1.size)
          have hsz := hold.size
          have hszW := hbel.size
          obtain ⟨hls, l0, l1, l2, l3, l4, l5, l6⟩ := lay_full ((hbel.block w.heap.size (lay_some HLB.out).1).trans HLB.out)
          by_cases hlt : j < n
          · obtain ⟨rfl, hbl⟩ := HAA.out (by omega)
            obtain ⟨c0, c1, c2, c3, c4, c5⟩ := HAC.out j hlt
            obtain ⟨g, f, t, e, hg, hend⟩ := HAT.out j hlt
            rw [← hbel.cell (by exact hbl)] at c0 c1 c2 c3 c4 c5
            rw [e] at c0 c1 c2 c3 c4 c5
            clear e
            dsimp only at c0 c1 c2 c3 c4 c5
            have hbl2 : ba < wr.heap.size := by have := hbel.size; omega
            have hft := hend.lt
            have htn := hend.le
            rw [HNP.out] at htn
            have hfew := hend.few
            have hnf : ¬ most < (t : Int) - (f : Int) := by omega
            have i1 : (0 : Int) ≤ (j : Int) ∧ (j : Int) < (n : Int) := by omega
            have x1 : (0 : Int) ≤ (f : Int) := by omega
            have x2 : (f : Int) < (t : Int) := by omega
            have x3 : (t : Int) ≤ (np : Int) := by omega
            have HEND := Lib.hid hend
            clear hend
            by_cases htl : t < np
            · obtain ⟨rfl, hpl⟩ := HPA.out (by omega)
              obtain ⟨cp, px, pn2, pc2, cq⟩ := HPC.out t htl
              rw [← hold.cell (by exact hpl)] at cp cq
              have hpl2 : bp < wr.heap.size := by omega
              have x4 : (t : Int) < (np : Int) := by omega
              by_cases hpe : P.getD t 0 = P.getD f 0
              · have hst : ¬ (t : Int) - (f : Int) < most := fun e => HEND.out.stop ⟨by rw [HNP.out]; exact htl, e, hpe⟩
                have hstb : decide ((t : Int) - (f : Int) < most) = false := decide_eq_false hst
                rw [hpe] at cp
                clear hpe
                generalize P.getD f 0 = pf at *
                generalize Z.getD g 0 = zg at *
                go_wp2_with fail
                refine wp_region_ext (by kernel_rfl) (by kernel_rfl) ?_
                repeat (go_big_quiet_step ((fail)))
                refine wpQuiet_nil ?_
                rintro _ ⟨z, rfl⟩
                go_wp2
                go_roundg (n - (j + 1))
                case measure => rw [HG.out]; omega
                case rel => exact ⟨j + 1, rfl, by omega, by go_num, (by repeat (first | exact hbel | exact Below.refl _ _ | (with_reducible refine Below.setCell ?_ (by first | omega | (simp; done) | (simp; omega)) _) | (with_reducible refine Below.alloc ?_ (by first | omega | (simp; done) | (simp; omega)) _) | (with_reducible refine Below.onDrewN ?_ _) | (with_reducible refine Below.drew ?_) | (with_reducible refine Below.ofExt ?_ (by first | omega | (simp; done) | (simp; omega)))))⟩
              · have hpb : (P.getD t 0 == P.getD f 0) = false := by rw [beq_eq_false_iff_ne]; exact hpe
                clear hpe
                generalize P.getD f 0 = pf at *
                generalize P.getD t 0 = pt at *
                generalize Z.getD g 0 = zg at *
                go_wp2_with fail
                refine wp_region_ext (by kernel_rfl) (by kernel_rfl) ?_
                repeat (go_big_quiet_step ((fail)))
                refine wpQuiet_nil ?_
                rintro _ ⟨z, rfl⟩
                go_wp2
                go_roundg (n - (j + 1))
                case measure => rw [HG.out]; omega
                case rel => exact ⟨j + 1, rfl, by omega, by go_num, (by repeat (first | exact hbel | exact Below.refl _ _ | (with_reducible refine Below.setCell ?_ (by first | omega | (simp; done) | (simp; omega)) _) | (with_reducible refine Below.alloc ?_ (by first | omega | (simp; done) | (simp; omega)) _) | (with_reducible refine Below.onDrewN ?_ _) | (with_reducible refine Below.drew ?_) | (with_reducible refine Below.ofExt ?_ (by first | omega | (simp; done) | (simp; omega)))))⟩
            · have htb : decide ((t : Int) < (np : Int)) = false := decide_eq_false (by omega)
              have htb2 : decide (t < np) = false := decide_eq_false (by omega)
              generalize P.getD f 0 = pf at *
              generalize Z.getD g 0 = zg at *
              go_wp2_with fail
              refine wp_region_ext (by kernel_rfl) (by kernel_rfl) ?_
              repeat (go_big_quiet_step ((fail)))
              refine wpQuiet_nil ?_
              rintro _ ⟨z, rfl⟩
              go_wp2
              go_roundg (n - (j + 1))
              case measure => rw [HG.out]; omega
              case rel => exact ⟨j + 1, rfl, by omega, by go_num, (by repeat (first | exact hbel | exact Below.refl _ _ | (with_reducible refine Below.setCell ?_ (by first | omega | (simp; done) | (simp; omega)) _) | (with_reducible refine Below.alloc ?_ (by first | omega | (simp; done) | (simp; omega)) _) | (with_reducible refine Below.onDrewN ?_ _) | (with_reducible refine Below.drew ?_) | (with_reducible refine Below.ofExt ?_ (by first | omega | (simp; done) | (simp; omega)))))⟩
          · go_wp2_with (first | (go_at_call 12; (first | (with_reducible refine (Calls.ext_of (alive_any _)).mono ?_) | refine (alive_any _).mono ?_); rintro e w' ⟨rfl, z9, rfl⟩))
            go_ret
            exact ⟨rfl, (below_ext (by repeat (first | exact hold | exact Below.refl _ _ | (with_reducible refine Below.setCell ?_ (by first | omega | (simp; done) | (simp; omega)) _) | (with_reducible refine Below.alloc ?_ (by first | omega | (simp; done) | (simp; omega)) _) | (with_reducible refine Below.onDrewN ?_ _) | (with_reducible refine Below.drew ?_) | (with_reducible refine Below.ofExt ?_ (by first | omega | (simp; done) | (simp; omega))))))⟩
      · have K1 := Lib.hid (Make_long y Z P most w hZ hP (by omega) (by omega) (by omega) hmm g3)
        have g2b : decide (most < 1) = false := decide_eq_false g2
        clear hZ hP hw hmm _hyc g3
        obtain ⟨n1, n2, n3, n4, sa, sc, pa, pn, pc, ya, yc⟩ := y
        dsimp only at KL K1 ⊢
        generalize Z.length = nz at *
        generalize P.length = np at *
        go_enter Try.func7, Try.ntmps7
        go_wp2_with (first | (go_at_call 11; refine (KL.out _).mono ?_; rintro e w' ⟨rfl, z, rfl⟩))
        refine (K1.out _ (by repeat (first | exact Below.refl _ _ | exact Below.refl _ _ | (with_reducible refine Below.setCell ?_ (by first | omega | (simp; done) | (simp; omega)) _) | (with_reducible refine Below.alloc ?_ (by first | omega | (simp; done) | (simp; omega)) _) | (with_reducible refine Below.onDrewN ?_ _) | (with_reducible refine Below.drew ?_) | (with_reducible refine Below.ofExt ?_ (by first | omega | (simp; done) | (simp; omega)))))).mono ?_
        rintro e w' ⟨rfl, z1, rfl⟩
        go_wp2_with (first | (go_at_call 12; (first | (with_reducible refine (Calls.ext_of (alive_any _)).mono ?_) | refine (alive_any _).mono ?_); rintro e w' ⟨rfl, z9, rfl⟩))
        go_ret
        exact ⟨rfl, (below_ext (by repeat (first | exact Below.refl _ _ | exact Below.refl _ _ | (with_reducible refine Below.setCell ?_ (by first | omega | (simp; done) | (simp; omega)) _) | (with_reducible refine Below.alloc ?_ (by first | omega | (simp; done) | (simp; omega)) _) | (with_reducible refine Below.onDrewN ?_ _) | (with_reducible refine Below.drew ?_) | (with_reducible refine Below.ofExt ?_ (by first | omega | (simp; done) | (simp; omega))))))⟩
  · have KL := Lib.hid (fun W => Light_no y Z.length P.length W g1)
    clear hZ hP g1 hw hmm _hyc
    obtain ⟨n1, n2, n3, n4, sa, sc, pa, pn, pc, ya, yc⟩ := y
    dsimp only at KL ⊢
    generalize Z.length = nz at *
    generalize P.length = np at *
    go_enter Try.func7, Try.ntmps7
    go_wp2_with (first | (go_at_call 11; refine (KL.out _).mono ?_; rintro e w' ⟨rfl, z, rfl⟩) | (go_at_call 12; (first | (with_reducible refine (Calls.ext_of (alive_any _)).mono ?_) | refine (alive_any _).mono ?_); rintro e w' ⟨rfl, z9, rfl⟩))
    go_ret
    exact ⟨rfl, (below_ext (by repeat (first | exact Below.refl _ _ | exact Below.refl _ _ | (with_reducible refine Below.setCell ?_ (by first | omega | (simp; done) | (simp; omega)) _) | (with_reducible refine Below.alloc ?_ (by first | omega | (simp; done) | (simp; omega)) _) | (with_reducible refine Below.onDrewN ?_ _) | (with_reducible refine Below.drew ?_) | (with_reducible refine Below.ofExt ?_ (by first | omega | (simp; done) | (simp; omega))))))⟩

set_option maxRecDepth 100000 in
theorem bundleLimits_lifted (os : Os) (started : os.Started) (H : Type) (enc : TypeId × Value → H) :
    ReturnsInHanded {} Try.checked os 7 .any (Rows.bundleLimitsSpec.pre6 enc Try.prog Try.f7 Rows.bundleLimitsRow.domain false) (Rows.bundleLimitsSpec.post enc Try.prog Try.f7 false true false false) := by
  refine returnsInHanded_of_change (C := Try.checked) own started (by kernel_rfl) Try.func7
    (ChangeSpec.witness6 (enc := enc) (C := Try.checked) false ⟨#[], #[.agg #[.int .i64 0, .int .i64 0, .int .i64 0, .int .i64 0, .slice none 0 0, .slice none 0 0, .slice none 0 0], .int .i64 0], []⟩ 8 (by kernel_rfl) (by kernel_rfl) (by kernel_rfl) (by kernel_rfl)) ?_
  intro W base args ds gs before hval0 hW hcnd _
  have hval : ∀ (j : Nat) t v, Try.f7.params[j]? = some t → args[j]? = some v → Value.okWide Try.prog W .any base t v := hval0
  have hW' := hW
  obtain ⟨p, q, hA0, hV, rfl, hfz, hnd⟩ := hW
  have hA : DataW.TrodAll enc Try.prog W 0 (fun _ => true) true Try.f7.params.toList args.toList ds p := hA0
  rw [Try.params7] at hA hval
  obtain ⟨v0, v1, d0, d1, p0, p1, rfl, rfl, rfl, h0, h1⟩ := trodAll_two hA
  obtain ⟨y0, Z0, P0, rfl, mz0, rz0, cy0, mp0, rp0⟩ := open_lay (hval 0 30 v0 rfl rfl) h0
  obtain ⟨x1, rfl, rfl, rfl, w1⟩ := open_int Try.underlying3 (hval 1 3 v1 rfl rfl) h1
  refine (limits_walk y0 Z0 P0 x1 W rz0 rp0 cy0 mz0 mp0 w1).mono fun e W' ⟨he, z, hz⟩ => ?_
  subst he hz
  exact ⟨_, rfl, law_post rfl (by kernel_rfl) (by kernel_rfl) Try.underlying4 hW' (fun _ => ⟨rfl, rfl, rfl⟩) (ext_below _ _)⟩

theorem bundleLimits_holds : Rows.BundleLimitsSaid :=
  OpenClaim.holds_of_wide 7 Try.f7 rfl rfl rfl rfl rfl rfl rfl ⟨rfl, rfl, rfl, rfl, rfl⟩ rfl rfl rfl rfl rfl (by kernel_rfl) Try.func7 (by kernel_rfl)
    (of_decide_eq_true (by kernel_rfl)) (by unfold Func.isWrapper; first | (rw [if_pos (by decide +kernel)]; kernel_rfl) | (rw [if_neg (by decide +kernel)]; exact ⟨rfl, rfl⟩))
    (fun os started H enc _ => bundleLimits_lifted os started H enc)
#print axioms bundleLimits_holds
end Go.Proofs.Ytpfffpajnjeoeaa
