/-
  The contract of the reference Make.
-/
import Derived.Test.YtpfffpajnjeoeaaMake
import Derived.Deep.RegionHeld3
import Derived.Deep.AppendLies
namespace Go.Proofs.Ytpfffpajnjeoeaa
open Go.RowKit

set_option maxRecDepth 100000 in
set_option maxHeartbeats 4000000 in
theorem Tog_any (ya : Option Addr) (yc : Nat) (P : List Int) (f : Nat) (most : Int) (w : World) (hP : PliesAt w ya P) (hp : P.length ≤ 1000000) (hf : f < P.length) (hm : 1 ≤ most) :
    Calls Try.prog 21 #[.slice ya P.length yc, .int .i64 (f : Int), .int .i64 most] w fun e w' => e = .returned (.int .i64 ((endOf P most f : Int) - f)) ∧ ∃ z, w' = ext w z := by
  obtain ⟨bp, op, hpa, hpc⟩ := hP
  obtain ⟨rfl, hpl⟩ := hpa (by omega)
  have HPC := Lib.hid hpc
  clear hpa hpc
  generalize hnp : P.length = np at *
  have HNP := Lib.hid hnp
  clear hnp
  have i1 : (0 : Int) ≤ (f : Int) ∧ (f : Int) < (np : Int) := by omega
  go_enter Try.func21, Try.ntmps21
  go_wp2
  go_loopg [7] (np + 1) (fun gk i wr => ∃ (n kk : Nat), gk = np + 1 - n ∧ i = .int .i64 n ∧ f + n ≤ np ∧ (n = 0 ∨ (0 < n ∧ np ≤ kk + (f + n) ∧ (n : Int) ≤ most ∧ scan P most f kk (f + n) = endOf P most f)) ∧ Below w.heap.size w wr)
  case atStart => exact ⟨0, 0, by omega, rfl, by omega, Or.inl rfl, Below.refl _ _⟩
  case round =>
    obtain ⟨n, kk, hgn, rfl, hfn, hst, hbel⟩ := hrel
    have HG := Lib.hid hgn
    clear hgn
    have hsz := hbel.size
    obtain ⟨cf, px, pn2, pc2, cq⟩ := HPC.out f hf
    rw [← hbel.cell (by exact hpl)] at cf cq
    by_cases hgo : n < most ∧ f + n < np ∧ P.getD (f + n) 0 = P.getD f 0
    · obtain ⟨g1, g2, g3⟩ := hgo
      have HS2 : Hid (∃ k2, np ≤ k2 + (f + (n + 1)) ∧ scan P most f k2 (f + (n + 1)) = endOf P most f) := Lib.hid (by
        rcases hst with rfl | ⟨h1, h2, h3, h4⟩
        · exact ⟨np, by omega, by unfold endOf; rw [HNP.out]⟩
        · exact ⟨kk - 1, by omega, (scan_go (t := f + n) ⟨by rw [HNP.out]; exact g2, by omega, g3⟩ (by rw [HNP.out]; omega)).symm.trans h4⟩)
      obtain ⟨ct, tx, tn2, tc2, cu⟩ := HPC.out (f + n) g2
      rw [← hbel.cell (by exact hpl)] at ct cu
      rw [g3] at ct
      have i2 : (0 : Int) ≤ (f : Int) + (n : Int) ∧ (f : Int) + (n : Int) < (np : Int) := by omega
      have i3 : ((f : Int) + (n : Int)).toNat = f + n := by omega
      clear hst g3
      generalize P.getD f 0 = pf at *
      go_wp2_with fail
      refine wp_region_ext (by kernel_rfl) (by kernel_rfl) ?_
      repeat (go_big_quiet_step ((fail)))
      refine wpQuiet_nil ?_
      rintro _ ⟨z, rfl⟩
      go_wp2
      go_roundg (np + 1 - (n + 1))
      case measure => rw [HG.out]; omega
      case rel =>
        obtain ⟨k2, h1, h2⟩ := HS2.out
        exact ⟨n + 1, k2, rfl, by go_num, by omega, Or.inr ⟨by omega, h1, by omega, h2⟩, (by repeat (first | exact hbel | exact Below.refl _ _ | (with_reducible refine Below.setCell ?_ (by first | omega | (simp; done) | (simp; omega)) _) | (with_reducible refine Below.alloc ?_ (by first | omega | (simp; done) | (simp; omega)) _) | (with_reducible refine Below.onDrewN ?_ _) | (with_reducible refine Below.drew ?_) | (with_reducible refine Below.ofExt ?_ (by first | omega | (simp; done) | (simp; omega)))))⟩
    · have hn0 : 0 < n := by
        rcases hst with rfl | ⟨h1, _⟩
        · exact absurd ⟨by omega, by omega, by rw [Nat.add_zero]⟩ hgo
        · exact h1
      have HTE : Hid (f + n = endOf P most f) := Lib.hid (by
        rcases hst with rfl | ⟨h1, h2, h3, h4⟩
        · omega
        · exact (scan_stop (fun hh => hgo ⟨by have := hh.2.1; omega, by have := hh.1; rw [HNP.out] at this; exact this, hh.2.2⟩) kk).symm.trans h4)
      clear hst
      have hfin : Hid (((endOf P most f : Nat) : Int) - f = n) := Lib.hid (by rw [← HTE.out]; omega)
      by_cases g1 : n < most
      · by_cases g2 : f + n < np
        · have g3 : (P.getD (f + n) 0 == P.getD f 0) = false := by
            rw [beq_eq_false_iff_ne]
            exact fun e => hgo ⟨g1, g2, e⟩
          obtain ⟨ct, tx, tn2, tc2, cu⟩ := HPC.out (f + n) g2
          rw [← hbel.cell (by exact hpl)] at ct cu
          have i2 : (0 : Int) ≤ (f : Int) + (n : Int) ∧ (f : Int) + (n : Int) < (np : Int) := by omega
          have i3 : ((f : Int) + (n : Int)).toNat = f + n := by omega
          clear hgo
          generalize P.getD f 0 = pf at *
          generalize P.getD (f + n) 0 = pt at *
          go_wp2_with fail
          refine wp_region_ext (by kernel_rfl) (by kernel_rfl) ?_
          repeat (go_big_quiet_step ((fail)))
          refine wpQuiet_nil ?_
          rintro _ ⟨z, rfl⟩
          go_wp2
          go_ret
          exact ⟨ret_int hfin.out.symm, (below_ext (by repeat (first | exact hbel | exact Below.refl _ _ | (with_reducible refine Below.setCell ?_ (by first | omega | (simp; done) | (simp; omega)) _) | (with_reducible refine Below.alloc ?_ (by first | omega | (simp; done) | (simp; omega)) _) | (with_reducible refine Below.onDrewN ?_ _) | (with_reducible refine Below.drew ?_) | (with_reducible refine Below.ofExt ?_ (by first | omega | (simp; done) | (simp; omega))))))⟩
        · have g2b : decide ((f : Int) + (n : Int) < (np : Int)) = false := decide_eq_false (by omega)
          clear hgo
          generalize P.getD f 0 = pf at *
          go_wp2_with fail
          refine wp_region_ext (by kernel_rfl) (by kernel_rfl) ?_
          repeat (go_big_quiet_step ((fail)))
          refine wpQuiet_nil ?_
          rintro _ ⟨z, rfl⟩
          go_wp2
          go_ret
          exact ⟨ret_int hfin.out.symm, (below_ext (by repeat (first | exact hbel | exact Below.refl _ _ | (with_reducible refine Below.setCell ?_ (by first | omega | (simp; done) | (simp; omega)) _) | (with_reducible refine Below.alloc ?_ (by first | omega | (simp; done) | (simp; omega)) _) | (with_reducible refine Below.onDrewN ?_ _) | (with_reducible refine Below.drew ?_) | (with_reducible refine Below.ofExt ?_ (by first | omega | (simp; done) | (simp; omega))))))⟩
      · have g1b : decide ((n : Int) < most) = false := decide_eq_false g1
        clear hgo
        generalize P.getD f 0 = pf at *
        go_wp2_with fail
        refine wp_region_ext (by kernel_rfl) (by kernel_rfl) ?_
        repeat (go_big_quiet_step ((fail)))
        refine wpQuiet_nil ?_
        rintro _ ⟨z, rfl⟩
        go_wp2
        go_ret
        exact ⟨ret_int hfin.out.symm, (below_ext (by repeat (first | exact hbel | exact Below.refl _ _ | (with_reducible refine Below.setCell ?_ (by first | omega | (simp; done) | (simp; omega)) _) | (with_reducible refine Below.alloc ?_ (by first | omega | (simp; done) | (simp; omega)) _) | (with_reducible refine Below.onDrewN ?_ _) | (with_reducible refine Below.drew ?_) | (with_reducible refine Below.ofExt ?_ (by first | omega | (simp; done) | (simp; omega))))))⟩
theorem Tog_at (ya : Option Addr) (yc : Nat) (P : List Int) (w : World) (hP : PliesAt w ya P) (hp : P.length ≤ 1000000) (most : Int) (hm : 1 ≤ most) (f : Nat) (hf : f < P.length) (W : World) (hb : Below w.heap.size w W) :
    Calls Try.prog 21 #[.slice ya P.length yc, .int .i64 (f : Int), .int .i64 most] W fun e w' => e = .returned (.int .i64 ((endOf P most f : Int) - f)) ∧ ∃ z, w' = ext W z := Tog_any ya yc P f most W (hP.below hb) hp hf hm
set_option maxHeartbeats 400000 in
theorem RMake_range (y : Lay) (nz np : Nat) (most : Int) (w : World) (hm : most < 1) :
    Calls Try.prog 14 #[.agg #[.int .i64 y.n1, .int .i64 y.n2, .int .i64 y.n3, .int .i64 y.n4, .slice y.sa nz y.sc, .slice y.pa y.pn y.pc, .slice y.ya np y.yc], .int .i64 most] w fun e w' => e = .returned (.tuple #[.slice none 0 0, .int .i64 3]) ∧ ∃ z, w' = ext w z := by
  go_enter Try.func14, Try.ntmps14
  go_wp2
  go_ret2
  exact ⟨rfl, (below_ext (by repeat (first | exact Below.refl _ _ | exact Below.refl _ _ | (with_reducible refine Below.setCell ?_ (by first | omega | (simp; done) | (simp; omega)) _) | (with_reducible refine Below.alloc ?_ (by first | omega | (simp; done) | (simp; omega)) _) | (with_reducible refine Below.onDrewN ?_ _) | (with_reducible refine Below.drew ?_) | (with_reducible refine Below.ofExt ?_ (by first | omega | (simp; done) | (simp; omega))))))⟩
set_option maxRecDepth 100000 in
set_option maxHeartbeats 8000000 in
theorem RMake_any (y : Lay) (Z P : List Int) (most : Int) (w : World) (hZ : RowAt w y.sa (ints Z)) (hP : PliesAt w y.ya P) (hz : Z.length ≤ 1000000) (hp : P.length ≤ 1000000) (hm : 1 ≤ most) (hmm : most ≤ 9223372036854775807) :
    Calls Try.prog 14 #[.agg #[.int .i64 y.n1, .int .i64 y.n2, .int .i64 y.n3, .int .i64 y.n4, .slice y.sa Z.length y.sc, .slice y.pa y.pn y.pc, .slice y.ya P.length y.yc], .int .i64 most] w (MakePost Z P most w) := by
  have KT := Lib.hid (fun f hf W hb => Tog_at y.ya y.yc P w hP hp most hm f hf W hb)
  obtain ⟨n1, n2, n3, n4, sa, sc, pa, pn, pc, ya, yc⟩ := y
  dsimp only at hZ hP KT ⊢
  obtain ⟨bz, oz, hza, hzc⟩ := row_spread hZ
  obtain ⟨bp, op, hpa, hpc⟩ := hP
  have HZA := Lib.hid hza
  have HZC := Lib.hid hzc
  have HPA := Lib.hid hpa
  have HPC := Lib.hid hpc
  clear hZ hza hzc hpa hpc
  generalize hnz : Z.length = nz at *
  generalize hnp : P.length = np at *
  have HNZ := Lib.hid hnz
  have HNP := Lib.hid hnp
  clear hnz hnp
  have hmf : ¬ most < 1 := by omega
  obtain ⟨i0, hi, hz0, hz1, hz2⟩ := info_parts Try.info45
  go_enter Try.func14, Try.ntmps14
  go_wp2
  go_loopg [7, 6] nz (fun gk i v wr => ∃ (g m cap : Nat) (av : Option Addr) (T : List (Nat × Nat × Nat)), gk = nz - g ∧ g ≤ nz ∧ i = .int .i64 g ∧ v = .slice av m cap ∧ m = T.length ∧ m ≤ 60 ∧ T = tri (Full P most) g ∧ wr.ownsRow (w.heap.size + 1) 45 6 v m (flat (mkB Z P T)) ∧ wr.heap[w.heap.size]? = some (.cells #[.int .i64 n1, .int .i64 n2, .int .i64 n3, .int .i64 n4, .slice sa nz sc, .slice pa pn pc, .slice ya np yc] 30 (0, 0)) ∧ Below w.heap.size w wr)
  case atStart =>
    refine ⟨0, 0, 0, none, [], by omega, by omega, rfl, rfl, rfl, by omega, rfl, World.ownsRow_nil _ _ _ _, heap_alloc_at _ _ _ rfl, (by repeat (first | exact Below.refl _ _ | exact Below.refl _ _ | (with_reducible refine Below.setCell ?_ (by first | omega | (simp; done) | (simp; omega)) _) | (with_reducible refine Below.alloc ?_ (by first | omega | (simp; done) | (simp; omega)) _) | (with_reducible refine Below.onDrewN ?_ _) | (with_reducible refine Below.drew ?_) | (with_reducible refine Below.ofExt ?_ (by first | omega | (simp; done) | (simp; omega)))))⟩
  case round =>
    obtain ⟨g, m, cap, av, T, hgk, hg, rfl, rfl, hmt, hm6, hT, hown, hl, hbel⟩ := hrel
    have HG := Lib.hid hgk
    have HMT := Lib.hid hmt
    have HT := Lib.hid hT
    have HO := Lib.hid hown
    have HLY := Lib.hid hl
    clear hgk hmt hT hown hl
    obtain ⟨hls, l4, l6⟩ := lay_some HLY.out
    by_cases hlt : g < nz
    · obtain ⟨rfl, hzl⟩ := HZA.out (by omega)
      have i1 : (0 : Int) ≤ (g : Int) ∧ (g : Int) < (nz : Int) := by omega
      have HMK : Hid (Making P most g 0 np T) := Lib.hid (by rw [HT.out, ← HNP.out]; exact making_start P most g)
      clear HT
      go_wp2
      go_loopg [8, 6] np (fun gk i v wr => ∃ (f k m cap : Nat) (av : Option Addr) (T : List (Nat × Nat × Nat)), gk = np - f ∧ f ≤ np ∧ i = .int .i64 f ∧ v = .slice av m cap ∧ m = T.length ∧ m ≤ 60 ∧ Making P most g f k T ∧ wr.ownsRow (w.heap.size + 1) 45 6 v m (flat (mkB Z P T)) ∧ wr.heap[w.heap.size]? = some (.cells #[.int .i64 n1, .int .i64 n2, .int .i64 n3, .int .i64 n4, .slice (some ⟨bz, oz, none⟩) nz sc, .slice pa pn pc, .slice ya np yc] 30 (0, 0)) ∧ Below w.heap.size w wr)
      case atStart => exact ⟨0, np, m, cap, av, T, by omega, by omega, rfl, rfl, HMT.out, hm6, HMK.out, HO.out, HLY.out, hbel⟩
      case round =>
        clear hbel hls l4 l6 HMT HMK HO HLY hm6
        obtain ⟨f, k, m, cap, av, T, hgf, hf, rfl, rfl, hmt, hm6, hmk, hown, hl, hbel⟩ := hrel
        have HGF := Lib.hid hgf
        have HMT := Lib.hid hmt
        have HMK := Lib.hid hmk
        have HO := Lib.hid hown
        have HLY := Lib.hid hl
        clear hgf hmt hmk hown hl
        obtain ⟨hls, l4, l6⟩ := lay_some HLY.out
        by_cases hltf : f < np
        · have KT2 := Lib.hid (KT.out f hltf)
          obtain ⟨rfl, hpl⟩ := HPA.out (by omega)
          obtain ⟨cp, px, pn2, pc2, cq⟩ := HPC.out f hltf
          have cz := HZC.out g hlt
          rw [← hbel.cell (by exact hpl)] at cp cq
          rw [← hbel.cell (by exact hzl)] at cz
          have hpl2 : bp < wr.heap.size := by omega
          have hzl2 : bz < wr.heap.size := by omega
          have i2 : (0 : Int) ≤ (f : Int) ∧ (f : Int) < (np : Int) := by omega
          by_cases h60 : m = 60
          · have h60b : ((m : Int) == 60) = true := by rw [beq_iff_eq]; omega
            have HL : Hid (60 < (tri (Full P most) Z.length).length) := Lib.hid (by
              have := HMK.out.more (by rw [HNP.out]; exact hltf) (show g < Z.length by rw [HNZ.out]; exact hlt)
              rw [← HMT.out] at this
              omega)
            clear h60
            go_wp2
            go_ret2
            exact Or.inr ⟨HL.out, rfl, (below_ext (by repeat (first | exact hbel | exact Below.refl _ _ | (with_reducible refine Below.setCell ?_ (by first | omega | (simp; done) | (simp; omega)) _) | (with_reducible refine Below.alloc ?_ (by first | omega | (simp; done) | (simp; omega)) _) | (with_reducible refine Below.onDrewN ?_ _) | (with_reducible refine Below.drew ?_) | (with_reducible refine Below.ofExt ?_ (by first | omega | (simp; done) | (simp; omega))))))⟩
          · have h60b : ((m : Int) == 60) = false := by rw [beq_eq_false_iff_ne]; omega
            have h60c : (m == 60) = false := by rw [beq_eq_false_iff_ne]; omega
            have HST := Lib.hid (HMK.out.step hm (by rw [HNP.out]; exact hltf))
            have hed := endOf_end (P := P) (most := most) (f := f) (by rw [HNP.out]; exact hltf) hm
            have hm59 : m ≤ 59 := by omega
            have hft := hed.lt
            have htn := hed.le
            rw [HNP.out] at htn
            clear hed
            generalize hte : endOf P most f = t at *
            have HTE := Lib.hid hte.symm
            generalize hpf : P.getD f 0 = pf at *
            generalize hzz : Z.getD g 0 = zz at *
            have HPF := Lib.hid hpf
            have HZZ := Lib.hid hzz
            have i4 : (t : Int) - (f : Int) ≤ 1000000 ∧ 0 ≤ (t : Int) - (f : Int) := by omega
            clear hpf hzz h60 hte
            go_wp2_with (first | (go_at_call 21; refine (KT2.out _ hbel).mono ?_; rintro e w' ⟨rfl, z, rfl⟩))
            have e4 := (ext_cell_mk wr z w.heap.size 4 hls).trans l4
            have e6 := (ext_cell_mk wr z w.heap.size 6 hls).trans l6
            have ez := (ext_cell_mk wr z bz (oz + g) hzl2).trans cz
            have ep := (ext_cell_mk wr z bp (op + f * 2) hpl2).trans cp
            have hb2 : Below w.heap.size w (ext wr z) := (by repeat (first | exact hbel | exact Below.refl _ _ | (with_reducible refine Below.setCell ?_ (by first | omega | (simp; done) | (simp; omega)) _) | (with_reducible refine Below.alloc ?_ (by first | omega | (simp; done) | (simp; omega)) _) | (with_reducible refine Below.onDrewN ?_ _) | (with_reducible refine Below.drew ?_) | (with_reducible refine Below.ofExt ?_ (by first | omega | (simp; done) | (simp; omega)))))
            have HO2 := Lib.hid (ownsRow_ext HO.out z)
            have HL2 := Lib.hid ((ext_block wr z w.heap.size hls).trans HLY.out)
            have hs1 : w.heap.size < (ext wr z).heap.size := by simp; omega
            have hs2 : bz < (ext wr z).heap.size := by simp; omega
            have hs3 : bp < (ext wr z).heap.size := by simp; omega
            clear l4 l6 cz cp cq hbel HO HLY hls
            generalize ext wr z = W1 at *
            have hrow : ∀ q', (Value.slice av m cap).ownBlock = some q' → w.heap.size + 1 ≤ q' := fun q' hq => (HO2.out.lt q' hq).1
            have ag : (Value.slice av m cap).ownBlock ≠ some w.heap.size := fun e => by have := hrow _ e; omega
            have az : (Value.slice av m cap).ownBlock ≠ some bz := fun e => by have := hrow _ e; omega
            have ap : (Value.slice av m cap).ownBlock ≠ some bp := fun e => by have := hrow _ e; omega
            go_region_held3 (fun w' => w'.cell? ⟨w.heap.size, 4, none⟩ = some (.slice (some ⟨bz, oz, none⟩) nz sc) ∧ w'.cell? ⟨w.heap.size, 6, none⟩ = some (.slice (some ⟨bp, op, none⟩) np yc) ∧ w'.cell? ⟨bz, oz + g, none⟩ = some (.int .i64 zz) ∧ w'.cell? ⟨bp, op + f * 2, none⟩ = some (.int .i64 pf))
              (first
                | go_keep
                | (go_split_ands
                   refine ⟨?_, ?_, ?_, ?_⟩
                   · (rw [hgrow.cell_far _ (by simp; omega) (Ne.symm ag)]; assumption)
                   · (rw [hgrow.cell_far _ (by simp; omega) (Ne.symm ag)]; assumption)
                   · (rw [hgrow.cell_far _ (by simp; omega) (Ne.symm az)]; assumption)
                   · (rw [hgrow.cell_far _ (by simp; omega) (Ne.symm ap)]; assumption)))
              ((refine step_append_lies _ (by rfl) _ _ _ (by rfl) (w.heap.size + 1) 45 i0 _ 6 48 Try.underlying33 hi hz0 hz1 hz2 rfl (by omega) (.slice av m cap) m (flat (mkB Z P T)) (by rfl) ((HO2.out.alloc _).drew) ⟨W1.heap.size, 0, none⟩ 1 1 [.int .i64 (IntKind.i64.wrap ((m : Int) + 1)), .int .i64 (g : Int), .int .i64 zz, .int .i64 pf, .int .i64 (f : Int), .int .i64 (IntKind.i64.wrap ((f : Int) + ((t : Int) - (f : Int))))] (by rfl) (by rfl) (World.news_of_block (cs := #[.int .i64 (IntKind.i64.wrap ((m : Int) + 1)), .int .i64 (g : Int), .int .i64 zz, .int .i64 pf, .int .i64 (f : Int), .int .i64 (IntKind.i64.wrap ((f : Int) + ((t : Int) - (f : Int))))]) (t := 45) (fr := (0, 0)) (heap_alloc_new W1 _)) (by simp [Value.oneCell']) (by omega) (by unfold maxLen; omega) (by omega) (by simp; omega) (W1.heap.size + 1) (by simp) ?_; intro gg cap3 w1 hown1 hgrow hat hlt3))
            have HB1 := Lib.hid (Below.grown (by repeat (first | exact hb2 | exact Below.refl _ _ | (with_reducible refine Below.setCell ?_ (by first | omega | (simp; done) | (simp; omega)) _) | (with_reducible refine Below.alloc ?_ (by first | omega | (simp; done) | (simp; omega)) _) | (with_reducible refine Below.onDrewN ?_ _) | (with_reducible refine Below.drew ?_) | (with_reducible refine Below.ofExt ?_ (by first | omega | (simp; done) | (simp; omega))))) hgrow (by first | omega | (simp; done) | (simp; omega)) (fun q' hq => by have := hrow q' hq; omega) : Below w.heap.size w w1)
            have HL1 := Lib.hid ((hgrow.block w.heap.size (by first | omega | (simp; done) | (simp; omega)) (fun e => by have := hrow _ e.symm; omega)).trans ((heap_alloc_lt _ _ _ (by first | omega | (simp; done) | (simp; omega))).trans HL2.out))
            have HO1 : Hid (w1.ownsRow (w.heap.size + 1) 45 6 (.slice (some ⟨gg, 0, none⟩) (m + 1) cap3) (m + 1) (flat (mkB Z P (T ++ [(g, f, t)])))) := Lib.hid (by
              rw [mkB_snoc, flat_snoc]
              have e : bunc (mkOne Z P T.length (g, f, t)) = [.int .i64 (IntKind.i64.wrap ((m : Int) + 1)), .int .i64 (g : Int), .int .i64 zz, .int .i64 pf, .int .i64 (f : Int), .int .i64 (IntKind.i64.wrap ((f : Int) + ((t : Int) - (f : Int))))] := by
                rw [IntWalk.i64_in ((m : Int) + 1) (by omega), IntWalk.i64_in ((f : Int) + ((t : Int) - (f : Int))) (by omega), show (f : Int) + ((t : Int) - (f : Int)) = t by omega]
                simp only [bunc, mkOne, ← HMT.out, HZZ.out, HPF.out]
              rw [e]
              exact hown1)
            clear hown1 hgrow hrow hat hlt3 e4 e6 ez ep ag az ap
            go_wp2
            go_roundg (np - t)
            case measure => rw [HGF.out]; omega
            case rel => exact ⟨t, k - 1, m + 1, cap3, some ⟨gg, 0, none⟩, _, rfl, htn, by go_num, rfl, by rw [List.length_append, ← HMT.out]; rfl, by omega, HST.out, HO1.out, HL1.out, HB1.out⟩
        · obtain rfl : f = np := by omega
          have HTE := Lib.hid (HMK.out.done (by rw [HNP.out]; omega))
          go_wp2
          go_roundg (nz - (g + 1))
          case measure => rw [HG.out]; omega
          case rel => exact ⟨g + 1, m, cap, av, T, rfl, by omega, by go_num, rfl, HMT.out, hm6, HTE.out, HO.out, HLY.out, hbel⟩
    · obtain rfl : g = nz := by omega
      obtain ⟨a2, cap2, e2, e3, e4, e5⟩ := owns6 HO.out
      have HB6 := Lib.hid e5
      clear e5
      injection e2 with e6 e7 e8
      subst e6 e8
      have HLE := Lib.hid e4
      have HLN := Lib.hid e3
      clear e3 e4 e7
      go_wp2
      go_ret2
      refine Or.inl ⟨by rw [HNZ.out, ← HT.out, ← HMT.out]; exact hm6, ?_⟩
      rw [HNZ.out, ← HT.out]
      exact ⟨av, cap, by rw [← HLN.out]; rfl, by rw [← HLN.out]; exact HLE.out, HB6.out, (below_ext (by repeat (first | exact hbel | exact Below.refl _ _ | (with_reducible refine Below.setCell ?_ (by first | omega | (simp; done) | (simp; omega)) _) | (with_reducible refine Below.alloc ?_ (by first | omega | (simp; done) | (simp; omega)) _) | (with_reducible refine Below.onDrewN ?_ _) | (with_reducible refine Below.drew ?_) | (with_reducible refine Below.ofExt ?_ (by first | omega | (simp; done) | (simp; omega))))))⟩
end Go.Proofs.Ytpfffpajnjeoeaa
