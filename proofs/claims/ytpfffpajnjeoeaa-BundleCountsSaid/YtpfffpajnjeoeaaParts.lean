/-
  BundleParts returns true for all lays and limits; no condition.
-/
import Derived.Test.YtpfffpajnjeoeaaLimits
namespace Go.Proofs.Ytpfffpajnjeoeaa
open Go.RowKit Go.ChangeShapes Go.WideShapes Go.ChangeAt

/-- How many of the first k bundles have a garment and a ply. -/
def hits (B : List Bun) (g p : Int) (k : Nat) : Nat := (B.take k).countP (fun b => decide (Has b g p))
theorem hits_zero (B : List Bun) (g p : Int) : hits B g p 0 = 0 := by simp [hits]
theorem hits_le (B : List Bun) (g p : Int) (k : Nat) : hits B g p k ≤ B.length := by
  unfold hits
  have h1 := List.countP_le_length (p := fun b => decide (Has b g p)) (l := B.take k)
  simp at h1
  omega
theorem take_succ_bn {B : List Bun} {k : Nat} (hk : k < B.length) : B.take (k + 1) = B.take k ++ [bn B k] := by
  rw [List.take_add_one, List.getElem?_eq_getElem hk]
  simp [bn, List.getD, hk]
theorem hits_yes {B : List Bun} {g p : Int} {k : Nat} (hk : k < B.length) (h : Has (bn B k) g p) : hits B g p (k + 1) = hits B g p k + 1 := by
  unfold hits
  rw [take_succ_bn hk, List.countP_append]
  simp [h]
theorem hits_no {B : List Bun} {g p : Int} {k : Nat} (hk : k < B.length) (h : ¬ Has (bn B k) g p) : hits B g p (k + 1) = hits B g p k := by
  unfold hits
  rw [take_succ_bn hk, List.countP_append]
  simp [h]
theorem hits_all (B : List Bun) (g p : Int) : hits B g p B.length = B.countP (fun b => decide (Has b g p)) := by simp [hits]
theorem made_hits {Z P : List Int} {most : Int} (hm : 1 ≤ most) {g p : Nat} (hg : g < Z.length) (hp : p < P.length) : hits (made Z P most) g p (made Z P most).length = 1 := by
  rw [hits_all]
  exact made_count hm rfl hg hp
/-- The size and the lot of a bundle that has a garment and a ply. -/
theorem made_fits {Z P : List Int} {most : Int} (hm : 1 ≤ most) {i : Nat} (hi : i < (made Z P most).length) {g p : Nat} (h : Has (bn (made Z P most) i) g p) : (bn (made Z P most) i).s = Z.getD g 0 ∧ (bn (made Z P most) i).l = P.getD p 0 := by
  obtain ⟨g', f, t, e, _, hend⟩ := made_at hm hi
  rw [e] at h ⊢
  obtain ⟨h1, h2, h3⟩ := h
  simp only at h1 h2 h3 ⊢
  have e1 : g' = g := by omega
  subst e1
  exact ⟨rfl, (hend.lot p (by omega) (by omega)).symm⟩
theorem made_box3 {w z1 z2 z3 : World} {X : Obj} : (ext (ext (ext (w.alloc X) z1) z2) z3).heap[w.heap.size]? = some X := by
  rw [ext_block _ _ _ (by first | omega | (simp; done) | (simp; omega))]
  exact made_box
set_option maxRecDepth 100000 in
set_option maxHeartbeats 16000000 in
theorem parts_walk (y : Lay) (Z P : List Int) (most : Int) (w : World) (hZ : RowAt w y.sa (ints Z)) (hP : PliesAt w y.ya P) (hyc : P.length ≤ y.yc) (hz : Z.length ≤ maxLen) (hp : P.length ≤ maxLen) (hw : (Lit.int .i64 most).wf = true) :
    Calls Try.prog 6 #[.agg #[.int .i64 y.n1, .int .i64 y.n2, .int .i64 y.n3, .int .i64 y.n4, .slice y.sa Z.length y.sc, .slice y.pa y.pn y.pc, .slice y.ya P.length y.yc], .int .i64 most] w fun e w' => e = .returned (.bool true) ∧ ∃ z, w' = ext w z := by
  unfold maxLen at hz hp
  have hmm := most_le hw
  by_cases g1 : Z.length ≤ 12 ∧ P.length ≤ 80
  · have KL := Lib.hid (fun W => Light_yes y Z.length P.length W g1.1 g1.2)
    by_cases g2 : most < 1
    · have K1 := Lib.hid (fun W => Make_range y Z.length P.length most W g2)
      clear hZ hP hw hmm hyc
      obtain ⟨n1, n2, n3, n4, sa, sc, pa, pn, pc, ya, yc⟩ := y
      dsimp only at KL K1 ⊢
      generalize Z.length = nz at *
      generalize P.length = np at *
      go_enter Try.func6, Try.ntmps6
      go_wp2_with (first | (go_at_call 11; refine (KL.out _).mono ?_; rintro e w' ⟨rfl, z, rfl⟩) | (go_at_call 13; refine (K1.out _).mono ?_; rintro e w' ⟨rfl, z, rfl⟩) | (go_at_call 12; (first | (with_reducible refine (Calls.ext_of (alive_any _)).mono ?_) | refine (alive_any _).mono ?_); rintro e w' ⟨rfl, z9, rfl⟩))
      go_ret
      exact ⟨rfl, (below_ext (by repeat (first | exact Below.refl _ _ | exact Below.refl _ _ | (with_reducible refine Below.setCell ?_ (by first | omega | (simp; done) | (simp; omega)) _) | (with_reducible refine Below.alloc ?_ (by first | omega | (simp; done) | (simp; omega)) _) | (with_reducible refine Below.onDrewN ?_ _) | (with_reducible refine Below.drew ?_) | (with_reducible refine Below.ofExt ?_ (by first | omega | (simp; done) | (simp; omega))))))⟩
    · by_cases g3 : (made Z P most).length ≤ 60
      · have K1 := Lib.hid (Make_ok y Z P most w hZ hP (by omega) (by omega) (by omega) hmm g3)
        have K2 := Lib.hid (fun a c W (hb : Below w.heap.size w W) h hc => Check_any y Z P a c (made Z P most) W (hZ.below hb) (hP.below hb) h (by omega) (by omega) (by omega) hyc hc 0 (made_chk (by omega) rfl))
        have HHT := Lib.hid (fun g p hg hp => made_hits (Z := Z) (P := P) (most := most) (g := g) (p := p) (by omega) hg hp)
        have HFT := Lib.hid (fun i hi g p h => made_fits (Z := Z) (P := P) (most := most) (i := i) (by omega) hi (g := g) (p := p) h)
        clear hw
        obtain ⟨n1, n2, n3, n4, sa, sc, pa, pn, pc, ya, yc⟩ := y
        dsimp only at KL K1 K2 hP hZ hyc ⊢
        obtain ⟨bz, oz, hza, hzc⟩ := row_spread hZ
        obtain ⟨bp, op, hpa, hpc⟩ := hP
        have HPA := Lib.hid hpa
        have HPC := Lib.hid hpc
        have HZA := Lib.hid hza
        have HZC := Lib.hid hzc
        clear hpa hpc hza hzc hZ
        generalize hnz : Z.length = nz at *
        generalize hnp : P.length = np at *
        clear hnz hnp
        generalize made Z P most = A at *
        go_enter Try.func6, Try.ntmps6
        go_wp2_with (first | (go_at_call 11; refine (KL.out _).mono ?_; rintro e w' ⟨rfl, z, rfl⟩))
        refine (K1.out _ (by repeat (first | exact Below.refl _ _ | exact Below.refl _ _ | (with_reducible refine Below.setCell ?_ (by first | omega | (simp; done) | (simp; omega)) _) | (with_reducible refine Below.alloc ?_ (by first | omega | (simp; done) | (simp; omega)) _) | (with_reducible refine Below.onDrewN ?_ _) | (with_reducible refine Below.drew ?_) | (with_reducible refine Below.ofExt ?_ (by first | omega | (simp; done) | (simp; omega)))))).mono ?_
        rintro e w' ⟨a1, cap1, rfl, hca, hb1, z1, rfl⟩
        have HB0 := Lib.hid hb1
        clear hb1
        go_wp2_with fail
        refine (K2.out _ _ _ (by repeat (first | exact Below.refl _ _ | exact Below.refl _ _ | (with_reducible refine Below.setCell ?_ (by first | omega | (simp; done) | (simp; omega)) _) | (with_reducible refine Below.alloc ?_ (by first | omega | (simp; done) | (simp; omega)) _) | (with_reducible refine Below.onDrewN ?_ _) | (with_reducible refine Below.drew ?_) | (with_reducible refine Below.ofExt ?_ (by first | omega | (simp; done) | (simp; omega))))) HB0.out hca).mono ?_
        rintro e w' ⟨rfl, z2, rfl⟩
        have HLB := Lib.hid (made_box3 (w := w) (z1 := z) (z2 := z1) (z3 := z2) (X := .cells #[.int .i64 n1, .int .i64 n2, .int .i64 n3, .int .i64 n4, .slice sa nz sc, .slice pa pn pc, .slice ya np yc] 30))
        have HB1 := Lib.hid (HB0.out.ext z2)
        have hW1 : Below w.heap.size w (ext (ext (ext (w.alloc (.cells #[.int .i64 n1, .int .i64 n2, .int .i64 n3, .int .i64 n4, .slice sa nz sc, .slice pa pn pc, .slice ya np yc] 30)) z) z1) z2) := (by repeat (first | exact Below.refl _ _ | exact Below.refl _ _ | (with_reducible refine Below.setCell ?_ (by first | omega | (simp; done) | (simp; omega)) _) | (with_reducible refine Below.alloc ?_ (by first | omega | (simp; done) | (simp; omega)) _) | (with_reducible refine Below.onDrewN ?_ _) | (with_reducible refine Below.drew ?_) | (with_reducible refine Below.ofExt ?_ (by first | omega | (simp; done) | (simp; omega)))))
        clear HB0
        go_wp2_with fail
        generalize ext (ext (ext (w.alloc (.cells #[.int .i64 n1, .int .i64 n2, .int .i64 n3, .int .i64 n4, .slice sa nz sc, .slice pa pn pc, .slice ya np yc] 30)) z) z1) z2 = W1 at *
        generalize hna : A.length = n at *
        obtain ⟨ba, oa, haa, hac⟩ := HB1.out
        rw [hna] at haa hac
        have HAA := Lib.hid haa
        have HAC := Lib.hid hac
        have HNA := Lib.hid hna
        clear haa hac hna HB1
        go_loopg [7] nz (fun gk i wr => ∃ g : Nat, gk = nz - g ∧ g ≤ nz ∧ i = .int .i64 g ∧ Below W1.heap.size W1 wr)
        case atStart => exact ⟨0, by omega, by omega, rfl, Below.refl _ _⟩
        case round =>
          obtain ⟨g, hgg, hg, rfl, hbel⟩ := hrel
          have HG := Lib.hid hgg
          clear hgg
          have hold : Below w.heap.size w wr := hW1.trans (hbel.mono hW1.size)
          have hsz := hold.size
          have hszW := hbel.size
          obtain ⟨hls, l0, l1, l2, l3, l4, l5, l6⟩ := lay_full ((hbel.block w.heap.size (lay_some HLB.out).1).trans HLB.out)
          by_cases hlt : g < nz
          · obtain ⟨rfl, hzl⟩ := HZA.out (by omega)
            go_wp2_with fail
            go_loopg [8] np (fun gk i wr => ∃ p : Nat, gk = np - p ∧ p ≤ np ∧ i = .int .i64 p ∧ Below W1.heap.size W1 wr)
            case atStart => exact ⟨0, by omega, by omega, rfl, hbel⟩
            case round =>
              clear hbel hold hsz hszW hls l0 l1 l2 l3 l4 l5 l6
              obtain ⟨p, hgp, hp2, rfl, hbel⟩ := hrel
              have HP := Lib.hid hgp
              clear hgp
              have hold : Below w.heap.size w wr := hW1.trans (hbel.mono hW1.size)
              have hsz := hold.size
              have hszW := hbel.size
              obtain ⟨hls, l0, l1, l2, l3, l4, l5, l6⟩ := lay_full ((hbel.block w.heap.size (lay_some HLB.out).1).trans HLB.out)
              by_cases hltp : p < np
              · obtain ⟨rfl, hpl⟩ := HPA.out (by omega)
                go_wp2_with fail
                go_loopg [10, 9] n (fun gk i v wr => ∃ k m : Nat, gk = n - k ∧ k ≤ n ∧ i = .int .i64 k ∧ v = .int .i64 m ∧ m ≤ 60 ∧ m = hits A g p k ∧ Below W1.heap.size W1 wr)
                case atStart => exact ⟨0, 0, by omega, by omega, rfl, rfl, by omega, by rw [hits_zero], hbel⟩
                case round =>
                  clear hbel hold hsz hszW hls l0 l1 l2 l3 l4 l5 l6
                  obtain ⟨k, m, hgk, hk, rfl, rfl, hm60, hmh, hbel⟩ := hrel
                  have HK := Lib.hid hgk
                  have HM := Lib.hid hmh
                  clear hgk hmh
                  have hold : Below w.heap.size w wr := hW1.trans (hbel.mono hW1.size)
                  have hsz := hold.size
                  have hszW := hbel.size
                  obtain ⟨hls, l0, l1, l2, l3, l4, l5, l6⟩ := lay_full ((hbel.block w.heap.size (lay_some HLB.out).1).trans HLB.out)
                  have i0 : (0 : Int) ≤ (g : Int) ∧ (g : Int) < (nz : Int) := by omega
                  have i2 : (0 : Int) ≤ (p : Int) ∧ (p : Int) < (np : Int) := by omega
                  by_cases hltk : k < n
                  · obtain ⟨rfl, hbl⟩ := HAA.out (by omega)
                    obtain ⟨c0, c1, c2, c3, c4, c5⟩ := HAC.out k hltk
                    rw [← hbel.cell (by exact hbl)] at c0 c1 c2 c3 c4 c5
                    have hbl2 : ba < wr.heap.size := by have := hbel.size; omega
                    have i1 : (0 : Int) ≤ (k : Int) ∧ (k : Int) < (n : Int) := by omega
                    by_cases hh : Has (bn A k) g p
                    · have HM2 := Lib.hid ((hits_yes (by rw [HNA.out]; exact hltk) hh).trans (by rw [← HM.out]))
                      have hm61 : m + 1 ≤ 60 := by
                        have := hits_le A g p (k + 1)
                        rw [HM2.out, HNA.out] at this
                        omega
                      have hft := HFT.out k hltk g p hh
                      obtain ⟨h1, h2, h3⟩ := hh
                      have cz := HZC.out g hlt
                      obtain ⟨cp, px, pn2, pc2, cq⟩ := HPC.out p hltp
                      rw [← hold.cell (by exact hzl)] at cz
                      rw [← hold.cell (by exact hpl)] at cp cq
                      have hpl2 : bp < wr.heap.size := by omega
                      have hzl2 : bz < wr.heap.size := by omega
                      rw [h1] at c1
                      rw [hft.1] at c2
                      rw [hft.2] at c3
                      clear h1 hft
                      generalize Z.getD g 0 = zg at *
                      generalize P.getD p 0 = pp at *
                      generalize bn A k = u at *
                      go_wp2_with fail
                      refine wp_region_ext (by kernel_rfl) (by kernel_rfl) ?_
                      repeat (go_big_quiet_step ((fail)))
                      refine wpQuiet_nil ?_
                      rintro _ ⟨z, rfl⟩
                      go_wp2
                      go_roundg (n - (k + 1))
                      case measure => rw [HK.out]; omega
                      case rel => exact ⟨k + 1, m + 1, rfl, by omega, by go_num, by go_num, hm61, HM2.out.symm, (by repeat (first | exact hbel | exact Below.refl _ _ | (with_reducible refine Below.setCell ?_ (by first | omega | (simp; done) | (simp; omega)) _) | (with_reducible refine Below.alloc ?_ (by first | omega | (simp; done) | (simp; omega)) _) | (with_reducible refine Below.onDrewN ?_ _) | (with_reducible refine Below.drew ?_) | (with_reducible refine Below.ofExt ?_ (by first | omega | (simp; done) | (simp; omega)))))⟩
                    · have HM2 := Lib.hid ((hits_no (by rw [HNA.out]; exact hltk) hh).trans HM.out.symm)
                      by_cases h1 : (bn A k).g = (g : Int)
                      · rw [h1] at c1
                        by_cases h2 : (bn A k).f ≤ (p : Int)
                        · have h3 : ¬ (p : Int) < (bn A k).o := fun e => hh ⟨h1, h2, e⟩
                          clear hh h1
                          generalize bn A k = u at *
                          go_wp2
                          go_roundg (n - (k + 1))
                          case measure => rw [HK.out]; omega
                          case rel => exact ⟨k + 1, m, rfl, by omega, by go_num, rfl, hm60, HM2.out.symm, (by repeat (first | exact hbel | exact Below.refl _ _ | (with_reducible refine Below.setCell ?_ (by first | omega | (simp; done) | (simp; omega)) _) | (with_reducible refine Below.alloc ?_ (by first | omega | (simp; done) | (simp; omega)) _) | (with_reducible refine Below.onDrewN ?_ _) | (with_reducible refine Below.drew ?_) | (with_reducible refine Below.ofExt ?_ (by first | omega | (simp; done) | (simp; omega)))))⟩
                        · clear hh h1
                          generalize bn A k = u at *
                          go_wp2
                          go_roundg (n - (k + 1))
                          case measure => rw [HK.out]; omega
                          case rel => exact ⟨k + 1, m, rfl, by omega, by go_num, rfl, hm60, HM2.out.symm, (by repeat (first | exact hbel | exact Below.refl _ _ | (with_reducible refine Below.setCell ?_ (by first | omega | (simp; done) | (simp; omega)) _) | (with_reducible refine Below.alloc ?_ (by first | omega | (simp; done) | (simp; omega)) _) | (with_reducible refine Below.onDrewN ?_ _) | (with_reducible refine Below.drew ?_) | (with_reducible refine Below.ofExt ?_ (by first | omega | (simp; done) | (simp; omega)))))⟩
                      · have h1b : ((bn A k).g == (g : Int)) = false := by rw [beq_eq_false_iff_ne]; exact h1
                        clear hh h1
                        generalize bn A k = u at *
                        go_wp2
                        go_roundg (n - (k + 1))
                        case measure => rw [HK.out]; omega
                        case rel => exact ⟨k + 1, m, rfl, by omega, by go_num, rfl, hm60, HM2.out.symm, (by repeat (first | exact hbel | exact Below.refl _ _ | (with_reducible refine Below.setCell ?_ (by first | omega | (simp; done) | (simp; omega)) _) | (with_reducible refine Below.alloc ?_ (by first | omega | (simp; done) | (simp; omega)) _) | (with_reducible refine Below.onDrewN ?_ _) | (with_reducible refine Below.drew ?_) | (with_reducible refine Below.ofExt ?_ (by first | omega | (simp; done) | (simp; omega)))))⟩
                  · obtain rfl : k = n := by omega
                    have hone : m = 1 := HM.out.trans (HHT.out g p hlt hltp)
                    subst hone
                    go_wp2
                    go_roundg (np - (p + 1))
                    case measure => rw [HP.out]; omega
                    case rel => exact ⟨p + 1, rfl, by omega, by go_num, hbel⟩
              · go_wp2
                go_roundg (nz - (g + 1))
                case measure => rw [HG.out]; omega
                case rel => exact ⟨g + 1, rfl, by omega, by go_num, hbel⟩
          · go_wp2_with (first | (go_at_call 12; (first | (with_reducible refine (Calls.ext_of (alive_any _)).mono ?_) | refine (alive_any _).mono ?_); rintro e w' ⟨rfl, z9, rfl⟩))
            go_ret
            exact ⟨rfl, (below_ext (by repeat (first | exact hold | exact Below.refl _ _ | (with_reducible refine Below.setCell ?_ (by first | omega | (simp; done) | (simp; omega)) _) | (with_reducible refine Below.alloc ?_ (by first | omega | (simp; done) | (simp; omega)) _) | (with_reducible refine Below.onDrewN ?_ _) | (with_reducible refine Below.drew ?_) | (with_reducible refine Below.ofExt ?_ (by first | omega | (simp; done) | (simp; omega))))))⟩
      · have K1 := Lib.hid (Make_long y Z P most w hZ hP (by omega) (by omega) (by omega) hmm g3)
        clear hZ hP hw hmm hyc g3
        obtain ⟨n1, n2, n3, n4, sa, sc, pa, pn, pc, ya, yc⟩ := y
        dsimp only at KL K1 ⊢
        generalize Z.length = nz at *
        generalize P.length = np at *
        go_enter Try.func6, Try.ntmps6
        go_wp2_with (first | (go_at_call 11; refine (KL.out _).mono ?_; rintro e w' ⟨rfl, z, rfl⟩))
        refine (K1.out _ (by repeat (first | exact Below.refl _ _ | exact Below.refl _ _ | (with_reducible refine Below.setCell ?_ (by first | omega | (simp; done) | (simp; omega)) _) | (with_reducible refine Below.alloc ?_ (by first | omega | (simp; done) | (simp; omega)) _) | (with_reducible refine Below.onDrewN ?_ _) | (with_reducible refine Below.drew ?_) | (with_reducible refine Below.ofExt ?_ (by first | omega | (simp; done) | (simp; omega)))))).mono ?_
        rintro e w' ⟨rfl, z1, rfl⟩
        go_wp2_with (first | (go_at_call 12; (first | (with_reducible refine (Calls.ext_of (alive_any _)).mono ?_) | refine (alive_any _).mono ?_); rintro e w' ⟨rfl, z9, rfl⟩))
        go_ret
        exact ⟨rfl, (below_ext (by repeat (first | exact Below.refl _ _ | exact Below.refl _ _ | (with_reducible refine Below.setCell ?_ (by first | omega | (simp; done) | (simp; omega)) _) | (with_reducible refine Below.alloc ?_ (by first | omega | (simp; done) | (simp; omega)) _) | (with_reducible refine Below.onDrewN ?_ _) | (with_reducible refine Below.drew ?_) | (with_reducible refine Below.ofExt ?_ (by first | omega | (simp; done) | (simp; omega))))))⟩
  · have KL := Lib.hid (fun W => Light_no y Z.length P.length W g1)
    clear hZ hP g1 hw hmm hyc
    obtain ⟨n1, n2, n3, n4, sa, sc, pa, pn, pc, ya, yc⟩ := y
    dsimp only at KL ⊢
    generalize Z.length = nz at *
    generalize P.length = np at *
    go_enter Try.func6, Try.ntmps6
    go_wp2_with (first | (go_at_call 11; refine (KL.out _).mono ?_; rintro e w' ⟨rfl, z, rfl⟩) | (go_at_call 12; (first | (with_reducible refine (Calls.ext_of (alive_any _)).mono ?_) | refine (alive_any _).mono ?_); rintro e w' ⟨rfl, z9, rfl⟩))
    go_ret
    exact ⟨rfl, (below_ext (by repeat (first | exact Below.refl _ _ | exact Below.refl _ _ | (with_reducible refine Below.setCell ?_ (by first | omega | (simp; done) | (simp; omega)) _) | (with_reducible refine Below.alloc ?_ (by first | omega | (simp; done) | (simp; omega)) _) | (with_reducible refine Below.onDrewN ?_ _) | (with_reducible refine Below.drew ?_) | (with_reducible refine Below.ofExt ?_ (by first | omega | (simp; done) | (simp; omega))))))⟩

set_option maxRecDepth 100000 in
theorem bundleParts_lifted (os : Os) (started : os.Started) (H : Type) (enc : TypeId × Value → H) :
    ReturnsInHanded {} Try.checked os 6 .any (Rows.bundlePartsSpec.pre6 enc Try.prog Try.f6 Rows.bundlePartsRow.domain false) (Rows.bundlePartsSpec.post enc Try.prog Try.f6 false true false false) := by
  refine returnsInHanded_of_change (C := Try.checked) own started (by kernel_rfl) Try.func6
    (ChangeSpec.witness6 (enc := enc) (C := Try.checked) false ⟨#[], #[.agg #[.int .i64 0, .int .i64 0, .int .i64 0, .int .i64 0, .slice none 0 0, .slice none 0 0, .slice none 0 0], .int .i64 0], []⟩ 8 (by kernel_rfl) (by kernel_rfl) (by kernel_rfl) (by kernel_rfl)) ?_
  intro W base args ds gs before hval0 hW hcnd _
  have hval : ∀ (j : Nat) t v, Try.f6.params[j]? = some t → args[j]? = some v → Value.okWide Try.prog W .any base t v := hval0
  have hW' := hW
  obtain ⟨p, q, hA0, hV, rfl, hfz, hnd⟩ := hW
  have hA : DataW.TrodAll enc Try.prog W 0 (fun _ => true) true Try.f6.params.toList args.toList ds p := hA0
  rw [Try.params6] at hA hval
  obtain ⟨v0, v1, d0, d1, p0, p1, rfl, rfl, rfl, h0, h1⟩ := trodAll_two hA
  obtain ⟨y0, Z0, P0, rfl, mz0, rz0, cy0, mp0, rp0⟩ := open_lay (hval 0 30 v0 rfl rfl) h0
  obtain ⟨x1, rfl, rfl, rfl, w1⟩ := open_int Try.underlying3 (hval 1 3 v1 rfl rfl) h1
  refine (parts_walk y0 Z0 P0 x1 W rz0 rp0 cy0 mz0 mp0 w1).mono fun e W' ⟨he, z, hz⟩ => ?_
  subst he hz
  exact ⟨_, rfl, law_post rfl (by kernel_rfl) (by kernel_rfl) Try.underlying4 hW' (fun _ => ⟨rfl, rfl, rfl⟩) (ext_below _ _)⟩

theorem bundleParts_holds : Rows.BundlePartsSaid :=
  OpenClaim.holds_of_wide 6 Try.f6 rfl rfl rfl rfl rfl rfl rfl ⟨rfl, rfl, rfl, rfl, rfl⟩ rfl rfl rfl rfl rfl (by kernel_rfl) Try.func6 (by kernel_rfl)
    (of_decide_eq_true (by kernel_rfl)) (by unfold Func.isWrapper; first | (rw [if_pos (by decide +kernel)]; kernel_rfl) | (rw [if_neg (by decide +kernel)]; exact ⟨rfl, rfl⟩))
    (fun os started H enc _ => bundleParts_lifted os started H enc)
#print axioms bundleParts_holds
end Go.Proofs.Ytpfffpajnjeoeaa
