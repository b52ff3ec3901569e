/-
  BundleCounts returns true for all lays and limits; no condition.
-/
import Derived.Test.YtpfffpajnjeoeaaParts
import Derived.Deep.DeepCutAuto
namespace Go.Proofs.Ytpfffpajnjeoeaa
open Go.RowKit Go.ChangeShapes Go.WideShapes Go.ChangeAt

/-- How many of the first k bundles are of a garment. -/
def gcs (B : List Bun) (g : Int) (k : Nat) : Nat := (B.take k).countP (fun b => decide (b.g = g))
theorem gcs_zero (B : List Bun) (g : Int) : gcs B g 0 = 0 := by simp [gcs]
theorem gcs_le (B : List Bun) (g : Int) (k : Nat) : gcs B g k ≤ B.length := by
  unfold gcs
  have h1 := List.countP_le_length (p := fun b : Bun => decide (b.g = g)) (l := B.take k)
  simp at h1
  omega
theorem gcs_yes {B : List Bun} {g : Int} {k : Nat} (hk : k < B.length) (h : (bn B k).g = g) : gcs B g (k + 1) = gcs B g k + 1 := by
  unfold gcs
  rw [take_succ_bn hk, List.countP_append]
  simp [h]
theorem gcs_no {B : List Bun} {g : Int} {k : Nat} (hk : k < B.length) (h : (bn B k).g ≠ g) : gcs B g (k + 1) = gcs B g k := by
  unfold gcs
  rw [take_succ_bn hk, List.countP_append]
  simp [h]
/-- The counts of the first k bundles. -/
structure Cnts (B : List Bun) (nz k : Nat) (H : List Int) : Prop where
  len : H.length = nz
  val : ∀ g : Nat, g < nz → H.getD g 0 = (gcs B g k : Int)
theorem cnts_start (B : List Bun) (nz : Nat) : Cnts B nz 0 (List.replicate nz 0) := ⟨by simp, fun g hg => by rw [gcs_zero]; simp [List.getD, hg]⟩
theorem Cnts.step {B : List Bun} {nz k : Nat} {H : List Int} (h : Cnts B nz k H) (hk : k < B.length) {gn : Nat} (hg : (bn B k).g = (gn : Int)) (hl : gn < nz) : Cnts B nz (k + 1) (H.set gn (H.getD gn 0 + 1)) := by
  refine ⟨by simp [h.len], fun g hgl => ?_⟩
  by_cases e : gn = g
  · subst e
    rw [getD_set_eq _ _ _ _ (by rw [h.len]; exact hl), gcs_yes hk hg, h.val gn hl]
    omega
  · rw [getD_set_ne2 _ _ _ _ _ e, gcs_no hk (fun e2 => e (by rw [hg] at e2; omega)), h.val g hgl]
theorem made_gcs {Z P : List Int} {most : Int} {g : Nat} (hg : g < Z.length) : gcs (made Z P most) g (made Z P most).length = (Full P most).length := by
  have h1 := tri_count (F := Full P most) (fun _ => true) g Z.length
  rw [if_pos hg] at h1
  have h2 : (Full P most).countP (fun _ => true) = (Full P most).length := by simp
  rw [h2] at h1
  rw [← h1]
  unfold gcs
  rw [List.take_length]
  unfold made mkB
  have key : ∀ (T : List (Nat × Nat × Nat)) (f : Nat → Nat × Nat × Nat → Bun), (∀ k x, decide ((f k x).g = (g : Int)) = (decide (x.1 = g) && true)) → (T.mapIdx f).countP (fun b => decide (b.g = (g : Int))) = T.countP (fun x => decide (x.1 = g) && true) := by
    intro T
    induction T with
    | nil => intro f _; rfl
    | cons x T ih =>
      intro f hf
      rw [List.mapIdx_cons, List.countP_cons, List.countP_cons, ih (fun k => f (k + 1)) (fun k y => hf (k + 1) y)]
      rw [hf 0 x]
  apply key
  intro k x
  unfold mkOne
  rw [Bool.eq_iff_iff]
  simp
  omega
theorem made_tot {Z P : List Int} {most : Int} (hm : 1 ≤ most) {g : Nat} (hg : g < Z.length) : tot (made Z P most) g (made Z P most).length = P.length := by
  have ha := made_acc (Z := Z) (P := P) (most := most) hm rfl
  have hn := made_gap (Z := Z) (P := P) (most := most) hm rfl
  have h1 := (ha.tot_le (g := (g : Int))).2
  have h2 : ¬ tot (made Z P most) g (made Z P most).length < P.length := fun h => hn (ha.gap.2 ⟨g, hg, h⟩)
  have h3 : tot (made Z P most) g (made Z P most).length ≤ P.length := h1
  omega
theorem made_acc_at {Z P : List Int} {most : Int} (hm : 1 ≤ most) {k : Nat} (hk : k ≤ (made Z P most).length) : Acc Z P (made Z P most) k := (made_acc (Z := Z) (P := P) (most := most) hm rfl).mono hk
set_option maxRecDepth 100000 in
set_option maxHeartbeats 16000000 in
theorem counts_walk (y : Lay) (Z P : List Int) (most : Int) (w : World) (hZ : RowAt w y.sa (ints Z)) (hP : PliesAt w y.ya P) (_hyc : P.length ≤ y.yc) (hz : Z.length ≤ maxLen) (hp : P.length ≤ maxLen) (hw : (Lit.int .i64 most).wf = true) :
    Calls Try.prog 9 #[.agg #[.int .i64 y.n1, .int .i64 y.n2, .int .i64 y.n3, .int .i64 y.n4, .slice y.sa Z.length y.sc, .slice y.pa y.pn y.pc, .slice y.ya P.length y.yc], .int .i64 most] w fun e w' => e = .returned (.bool true) ∧ ∃ z, w' = ext w z := by
  unfold maxLen at hz hp
  have hmm := most_le hw
  by_cases g1 : Z.length ≤ 12 ∧ P.length ≤ 80
  · have KL := Lib.hid (fun W => Light_yes y Z.length P.length W g1.1 g1.2)
    by_cases g2 : most < 1
    · have K1 := Lib.hid (fun W => Make_range y Z.length P.length most W g2)
      clear hZ hP hw hmm _hyc
      obtain ⟨n1, n2, n3, n4, sa, sc, pa, pn, pc, ya, yc⟩ := y
      dsimp only at KL K1 ⊢
      generalize Z.length = nz at *
      generalize P.length = np at *
      go_enter Try.func9, Try.ntmps9
      go_wp2_with (first | (go_at_call 11; refine (KL.out _).mono ?_; rintro e w' ⟨rfl, z, rfl⟩) | (go_at_call 13; refine (K1.out _).mono ?_; rintro e w' ⟨rfl, z, rfl⟩) | (go_at_call 12; (first | (with_reducible refine (Calls.ext_of (alive_any _)).mono ?_) | refine (alive_any _).mono ?_); rintro e w' ⟨rfl, z9, rfl⟩))
      go_ret
      exact ⟨rfl, (below_ext (by repeat (first | exact Below.refl _ _ | exact Below.refl _ _ | (with_reducible refine Below.setCell ?_ (by first | omega | (simp; done) | (simp; omega)) _) | (with_reducible refine Below.alloc ?_ (by first | omega | (simp; done) | (simp; omega)) _) | (with_reducible refine Below.onDrewN ?_ _) | (with_reducible refine Below.drew ?_) | (with_reducible refine Below.ofExt ?_ (by first | omega | (simp; done) | (simp; omega))))))⟩
    · by_cases g3 : (made Z P most).length ≤ 60
      · have K1 := Lib.hid (Make_ok y Z P most w hZ hP (by omega) (by omega) (by omega) hmm g3)
        have HAT := Lib.hid (fun i hi => made_at (Z := Z) (P := P) (most := most) (i := i) (by omega) hi)
        have HTT := Lib.hid (fun g hg => made_tot (Z := Z) (P := P) (most := most) (g := g) (by omega) hg)
        have HGC := Lib.hid (fun g hg => made_gcs (Z := Z) (P := P) (most := most) (g := g) hg)
        have HTL := Lib.hid (fun k (hk : k ≤ (made Z P most).length) (g : Int) => (made_acc_at (Z := Z) (P := P) (most := most) (by omega) hk).tot_le (g := g))
        clear hw hZ hP _hyc
        obtain ⟨n1, n2, n3, n4, sa, sc, pa, pn, pc, ya, yc⟩ := y
        dsimp only at KL K1 ⊢
        generalize hnz : Z.length = nz at *
        generalize hnp : P.length = np at *
        have HNP := Lib.hid hnp
        clear hnz hnp
        generalize hfl : (Full P most).length = fl at *
        clear hfl
        generalize made Z P most = A at *
        have hmk := fun w => make1 (P := Try.prog) (t := 24) (e := 3) Try.underlying24 Try.info3 nz (by omega) (by omega) w
        go_enter Try.func9, Try.ntmps9
        go_wp2_with (first | (go_at_call 11; refine (KL.out _).mono ?_; rintro e w' ⟨rfl, z, rfl⟩))
        refine (K1.out _ (by repeat (first | exact Below.refl _ _ | exact Below.refl _ _ | (with_reducible refine Below.setCell ?_ (by first | omega | (simp; done) | (simp; omega)) _) | (with_reducible refine Below.alloc ?_ (by first | omega | (simp; done) | (simp; omega)) _) | (with_reducible refine Below.onDrewN ?_ _) | (with_reducible refine Below.drew ?_) | (with_reducible refine Below.ofExt ?_ (by first | omega | (simp; done) | (simp; omega)))))).mono ?_
        rintro e w' ⟨a1, cap1, rfl, hca, hb1, z1, rfl⟩
        have HLB := Lib.hid (made_box (w := w) (z1 := z) (z2 := z1) (X := .cells #[.int .i64 n1, .int .i64 n2, .int .i64 n3, .int .i64 n4, .slice sa nz sc, .slice pa pn pc, .slice ya np yc] 30))
        have HB1 := Lib.hid hb1
        have hW1 : Below w.heap.size w (ext (ext (w.alloc (.cells #[.int .i64 n1, .int .i64 n2, .int .i64 n3, .int .i64 n4, .slice sa nz sc, .slice pa pn pc, .slice ya np yc] 30)) z) z1) := (by repeat (first | exact Below.refl _ _ | exact Below.refl _ _ | (with_reducible refine Below.setCell ?_ (by first | omega | (simp; done) | (simp; omega)) _) | (with_reducible refine Below.alloc ?_ (by first | omega | (simp; done) | (simp; omega)) _) | (with_reducible refine Below.onDrewN ?_ _) | (with_reducible refine Below.drew ?_) | (with_reducible refine Below.ofExt ?_ (by first | omega | (simp; done) | (simp; omega)))))
        clear hb1
        go_upto_region 6 with fail
        generalize ext (ext (w.alloc (.cells #[.int .i64 n1, .int .i64 n2, .int .i64 n3, .int .i64 n4, .slice sa nz sc, .slice pa pn pc, .slice ya np yc] 30)) z) z1 = W1 at *
        generalize hna : A.length = n at *
        obtain ⟨ba, oa, haa, hac⟩ := HB1.out
        rw [hna] at haa hac
        have HAA := Lib.hid haa
        have HAC := Lib.hid hac
        have HNA := Lib.hid hna
        clear haa hac hna HB1
        have hl0 := lay_some HLB.out
        go_cut [7, 8] (fun s7 s8 wx => ∃ g h : Nat, s7 = .slice (some ⟨g, 0, none⟩) nz nz ∧ s8 = .slice (some ⟨h, 0, none⟩) nz nz ∧ g ≠ h ∧ W1.heap.size ≤ g ∧ W1.heap.size ≤ h ∧ Blk wx g 3 (ints (List.replicate nz 0)) ∧ Blk wx h 3 (ints (List.replicate nz 0)) ∧ Below W1.heap.size W1 wx)
        case first =>
          have l4 := hl0.2.1
          have hls0 := hl0.1
          go_region_held3 (fun w' => w'.cell? ⟨w.heap.size, 4, none⟩ = some (.slice sa nz sc)) (((try dsimp only); (repeat' apply And.intro) <;> ((repeat (first | rw [World.cell?_alloc_past _ _ _ (by first | omega | (simp; done) | (simp; omega))] | rw [World.cell?_drew])); assumption))) (first | fail)
          all_goals (go_wp2_with fail; go_meet; refine ⟨_, _, rfl, rfl, ?_, ?_, ?_, ?_, ?_, ?_⟩)
          all_goals first | (simp; done) | (simp; omega) | (refine blk_ints _ _ _ ?_; simp; done) | (refine Blk.alloc (blk_ints _ _ _ ?_) _; first | rfl | (simp; done)) | (refine Blk.drew (blk_ints _ _ _ ?_); simp; done) | (refine Blk.drew (Blk.alloc (blk_ints _ _ _ ?_) _); first | rfl | (simp; done)) | exact (by repeat (first | exact Below.refl _ _ | exact Below.refl _ _ | (with_reducible refine Below.setCell ?_ (by first | omega | (simp; done) | (simp; omega)) _) | (with_reducible refine Below.alloc ?_ (by first | omega | (simp; done) | (simp; omega)) _) | (with_reducible refine Below.onDrewN ?_ _) | (with_reducible refine Below.drew ?_) | (with_reducible refine Below.ofExt ?_ (by first | omega | (simp; done) | (simp; omega)))))
        case rest =>
          obtain ⟨g, h, rfl, rfl, hgh, hg1, hh1, hG, hH, hbx⟩ := hcut
          go_wp2_with fail
          go_loopg [9] n (fun gk i wr => ∃ (j : Nat) (H1 H2 : List Int), gk = n - j ∧ j ≤ n ∧ i = .int .i64 j ∧ Sums A nz j H1 ∧ Cnts A nz j H2 ∧ Blk wr g 3 (ints H1) ∧ Blk wr h 3 (ints H2) ∧ Below W1.heap.size W1 wr)
          case atStart => exact ⟨0, _, _, by omega, by omega, rfl, sums_start A nz, cnts_start A nz, hG, hH, hbx⟩
          case round =>
            clear hG hH hbx
            obtain ⟨j, H1, H2, hgj, hj, rfl, hS1, hS2, hG, hH, hbel⟩ := hrel
            have HG := Lib.hid hgj
            have HS1 := Lib.hid hS1
            have HS2 := Lib.hid hS2
            clear hgj hS1 hS2
            have hold : Below w.heap.size w wr := hW1.trans (hbel.mono hW1.size)
            have hsz := hold.size
            have hszW := hbel.size
            obtain ⟨hls, l0, l1, l2, l3, l4, l5, l6⟩ := lay_full ((hbel.block w.heap.size hl0.1).trans HLB.out)
            have hgl := hG.lt
            have hhl := hH.lt
            by_cases hlt : j < n
            · obtain ⟨rfl, hbl⟩ := HAA.out (by omega)
              obtain ⟨c0, c1, c2, c3, c4, c5⟩ := HAC.out j hlt
              obtain ⟨gg, f, t, e, hgz, hend⟩ := HAT.out j hlt
              have HT1 := Lib.hid (HS1.out.step (gn := gg) (by rw [e]) hgz)
              have HT2 := Lib.hid (HS2.out.step (by rw [HNA.out]; exact hlt) (gn := gg) (by rw [e]) hgz)
              rw [e] at HT1
              rw [← hbel.cell (by exact hbl)] at c0 c1 c2 c3 c4 c5
              rw [e] at c0 c1 c2 c3 c4 c5
              clear e
              dsimp only at c0 c1 c2 c3 c4 c5 HT1
              have hbl2 : ba < wr.heap.size := by omega
              have hft := hend.lt
              have htn := hend.le
              rw [HNP.out] at htn
              clear hend
              have i1 : (0 : Int) ≤ (j : Int) ∧ (j : Int) < (n : Int) := by omega
              have x1 : (0 : Int) ≤ (gg : Int) ∧ (gg : Int) < (nz : Int) := by omega
              have x2 : (0 : Int) ≤ (f : Int) ∧ (f : Int) < (t : Int) ∧ (t : Int) ≤ (np : Int) := by omega
              have q1 : decide ((gg : Int) < 0) = false := decide_eq_false (by omega)
              have q2 : decide ((nz : Int) ≤ (gg : Int)) = false := decide_eq_false (by omega)
              have q2b : decide (nz ≤ gg) = false := decide_eq_false (by omega)
              have q3 : decide ((np : Int) < (t : Int)) = false := decide_eq_false (by omega)
              have q3b : decide (np < t) = false := decide_eq_false (by omega)
              have q4 : decide ((f : Int) < 0) = false := decide_eq_false (by omega)
              have ch1 := hG.int (k := gg) (by rw [HS1.out.len]; exact hgz)
              have ch2 := hH.int (k := gg) (by rw [HS2.out.len]; exact hgz)
              have fh1 := hG.free gg
              have fh2 := hH.free gg
              have b1 : 0 ≤ H1.getD gg 0 ∧ H1.getD gg 0 ≤ np := by
                rw [HS1.out.val gg hgz]
                exact HTL.out j hj gg
              have b2 : 0 ≤ H2.getD gg 0 ∧ H2.getD gg 0 ≤ 60 := by
                rw [HS2.out.val gg hgz]
                have := gcs_le A gg j
                rw [HNA.out] at this
                omega
              rw [show H1.getD gg 0 + ((t : Int) - (f : Int)) = H1.getD gg 0 + (t : Int) - (f : Int) by omega] at HT1
              have hne1 : g ≠ ba := by omega
              have hne2 : h ≠ ba := by omega
              generalize H1.getD gg 0 = a1 at *
              generalize H2.getD gg 0 = a2 at *
              generalize P.getD f 0 = pf at *
              generalize Z.getD gg 0 = zg at *
              go_wp2_with fail
              refine wp_region_ext (by kernel_rfl) (by kernel_rfl) ?_
              repeat (go_big_quiet_step ((fail)))
              refine wpQuiet_nil ?_
              rintro _ ⟨z, rfl⟩
              go_wp2_with fail
              have hG2 := hG.ext z
              have hH2 := hH.ext z
              have hbel2 : Below W1.heap.size W1 (ext wr z) := (by repeat (first | exact hbel | exact Below.refl _ _ | (with_reducible refine Below.setCell ?_ (by first | omega | (simp; done) | (simp; omega)) _) | (with_reducible refine Below.alloc ?_ (by first | omega | (simp; done) | (simp; omega)) _) | (with_reducible refine Below.onDrewN ?_ _) | (with_reducible refine Below.drew ?_) | (with_reducible refine Below.ofExt ?_ (by first | omega | (simp; done) | (simp; omega)))))
              have d1 := (ext_cell_mk wr z ba (oa + j * 6 + 1) hbl2).trans c1
              have d4 := (ext_cell_mk wr z ba (oa + j * 6 + 4) hbl2).trans c4
              have d5 := (ext_cell_mk wr z ba (oa + j * 6 + 5) hbl2).trans c5
              refine wp_region_drew_tail 27 (by kernel_rfl) (by kernel_rfl) ?_
              simp only [List.take_succ_cons, List.take_zero, List.drop_succ_cons, List.drop_zero]
              repeat (go_big_quiet_step ((fail)))
              refine wpQuiet_nil ?_
              rintro _ ⟨d, rfl⟩
              go_wp2_with fail
              go_roundg (n - (j + 1))
              case measure => rw [HG.out]; omega
              case rel => exact ⟨j + 1, _, _, rfl, by omega, by go_num, HT1.out, HT2.out, (by repeat (first | exact hG | (with_reducible refine Blk.setInt ?_ _ _) | (with_reducible refine Blk.alloc ?_ _) | (with_reducible refine Blk.drewN ?_ _) | (with_reducible refine Blk.drew ?_) | (with_reducible refine Blk.ext ?_ _) | (with_reducible refine Blk.other ?_ (by first | omega | (simp; done) | (simp; omega)) _ _))), (by repeat (first | exact hH | (with_reducible refine Blk.setInt ?_ _ _) | (with_reducible refine Blk.alloc ?_ _) | (with_reducible refine Blk.drewN ?_ _) | (with_reducible refine Blk.drew ?_) | (with_reducible refine Blk.ext ?_ _) | (with_reducible refine Blk.other ?_ (by first | omega | (simp; done) | (simp; omega)) _ _))), (by repeat (first | exact hbel | exact Below.refl _ _ | (with_reducible refine Below.setCell ?_ (by first | omega | (simp; done) | (simp; omega)) _) | (with_reducible refine Below.alloc ?_ (by first | omega | (simp; done) | (simp; omega)) _) | (with_reducible refine Below.onDrewN ?_ _) | (with_reducible refine Below.drew ?_) | (with_reducible refine Below.ofExt ?_ (by first | omega | (simp; done) | (simp; omega)))))⟩
            · have HFN : Hid (∀ g0 : Nat, g0 < nz → H1.getD g0 0 = np ∧ H2.getD g0 0 = fl) := Lib.hid (fun g0 hg0 => by
                obtain rfl : j = n := by omega
                rw [HS1.out.val g0 hg0, HS2.out.val g0 hg0]
                exact ⟨HTT.out g0 hg0, by rw [HGC.out g0 hg0]⟩)
              have HL1 := Lib.hid HS1.out.len
              have HL2 := Lib.hid HS2.out.len
              go_wp2_with fail
              go_loopg [10] nz (fun gk i wr => ∃ k : Nat, gk = nz - k ∧ k ≤ nz ∧ i = .int .i64 k ∧ Blk wr g 3 (ints H1) ∧ Blk wr h 3 (ints H2) ∧ Below W1.heap.size W1 wr)
              case atStart => exact ⟨0, by omega, by omega, rfl, hG, hH, hbel⟩
              case round =>
                clear hG hH hbel hold hsz hszW hls l0 l1 l2 l3 l4 l5 l6 hgl hhl
                obtain ⟨k, hgk, hk, rfl, hG, hH, hbel⟩ := hrel
                have HK := Lib.hid hgk
                clear hgk
                have hold : Below w.heap.size w wr := hW1.trans (hbel.mono hW1.size)
                have hsz := hold.size
                have hszW := hbel.size
                obtain ⟨hls, l0, l1, l2, l3, l4, l5, l6⟩ := lay_full ((hbel.block w.heap.size hl0.1).trans HLB.out)
                by_cases hltk : k < nz
                · have ck1 := hG.int (k := k) (by rw [HL1.out]; exact hltk)
                  have ck2 := hH.int (k := k) (by rw [HL2.out]; exact hltk)
                  have ck3 := hH.int (k := 0) (by rw [HL2.out]; omega)
                  rw [(HFN.out k hltk).1] at ck1
                  rw [(HFN.out k hltk).2] at ck2
                  rw [(HFN.out 0 (by omega)).2] at ck3
                  have i1 : (0 : Int) ≤ (k : Int) ∧ (k : Int) < (nz : Int) := by omega
                  have i2 : (0 : Int) < (nz : Int) := by omega
                  go_wp2_with fail
                  refine wp_region_ext (by kernel_rfl) (by kernel_rfl) ?_
                  repeat (go_big_quiet_step ((fail)))
                  refine wpQuiet_nil ?_
                  rintro _ ⟨z, rfl⟩
                  go_wp2
                  go_roundg (nz - (k + 1))
                  case measure => rw [HK.out]; omega
                  case rel => exact ⟨k + 1, rfl, by omega, by go_num, (by repeat (first | exact hG | (with_reducible refine Blk.alloc ?_ _) | (with_reducible refine Blk.drewN ?_ _) | (with_reducible refine Blk.drew ?_) | (with_reducible refine Blk.ext ?_ _) | (with_reducible refine Blk.other ?_ (by first | omega | (simp; done) | (simp; omega)) _ _))), (by repeat (first | exact hH | (with_reducible refine Blk.alloc ?_ _) | (with_reducible refine Blk.drewN ?_ _) | (with_reducible refine Blk.drew ?_) | (with_reducible refine Blk.ext ?_ _) | (with_reducible refine Blk.other ?_ (by first | omega | (simp; done) | (simp; omega)) _ _))), (by repeat (first | exact hbel | exact Below.refl _ _ | (with_reducible refine Below.setCell ?_ (by first | omega | (simp; done) | (simp; omega)) _) | (with_reducible refine Below.alloc ?_ (by first | omega | (simp; done) | (simp; omega)) _) | (with_reducible refine Below.onDrewN ?_ _) | (with_reducible refine Below.drew ?_) | (with_reducible refine Below.ofExt ?_ (by first | omega | (simp; done) | (simp; omega)))))⟩
                · go_wp2_with (first | (go_at_call 12; (first | (with_reducible refine (Calls.ext_of (alive_any _)).mono ?_) | refine (alive_any _).mono ?_); rintro e w' ⟨rfl, z9, rfl⟩))
                  go_ret
                  exact ⟨rfl, (below_ext (by repeat (first | exact hold | exact Below.refl _ _ | (with_reducible refine Below.setCell ?_ (by first | omega | (simp; done) | (simp; omega)) _) | (with_reducible refine Below.alloc ?_ (by first | omega | (simp; done) | (simp; omega)) _) | (with_reducible refine Below.onDrewN ?_ _) | (with_reducible refine Below.drew ?_) | (with_reducible refine Below.ofExt ?_ (by first | omega | (simp; done) | (simp; omega))))))⟩
      · have K1 := Lib.hid (Make_long y Z P most w hZ hP (by omega) (by omega) (by omega) hmm g3)
        clear hZ hP hw hmm _hyc g3
        obtain ⟨n1, n2, n3, n4, sa, sc, pa, pn, pc, ya, yc⟩ := y
        dsimp only at KL K1 ⊢
        generalize Z.length = nz at *
        generalize P.length = np at *
        go_enter Try.func9, Try.ntmps9
        go_wp2_with (first | (go_at_call 11; refine (KL.out _).mono ?_; rintro e w' ⟨rfl, z, rfl⟩))
        refine (K1.out _ (by repeat (first | exact Below.refl _ _ | exact Below.refl _ _ | (with_reducible refine Below.setCell ?_ (by first | omega | (simp; done) | (simp; omega)) _) | (with_reducible refine Below.alloc ?_ (by first | omega | (simp; done) | (simp; omega)) _) | (with_reducible refine Below.onDrewN ?_ _) | (with_reducible refine Below.drew ?_) | (with_reducible refine Below.ofExt ?_ (by first | omega | (simp; done) | (simp; omega)))))).mono ?_
        rintro e w' ⟨rfl, z1, rfl⟩
        go_wp2_with (first | (go_at_call 12; (first | (with_reducible refine (Calls.ext_of (alive_any _)).mono ?_) | refine (alive_any _).mono ?_); rintro e w' ⟨rfl, z9, rfl⟩))
        go_ret
        exact ⟨rfl, (below_ext (by repeat (first | exact Below.refl _ _ | exact Below.refl _ _ | (with_reducible refine Below.setCell ?_ (by first | omega | (simp; done) | (simp; omega)) _) | (with_reducible refine Below.alloc ?_ (by first | omega | (simp; done) | (simp; omega)) _) | (with_reducible refine Below.onDrewN ?_ _) | (with_reducible refine Below.drew ?_) | (with_reducible refine Below.ofExt ?_ (by first | omega | (simp; done) | (simp; omega))))))⟩
  · have KL := Lib.hid (fun W => Light_no y Z.length P.length W g1)
    clear hZ hP g1 hw hmm _hyc
    obtain ⟨n1, n2, n3, n4, sa, sc, pa, pn, pc, ya, yc⟩ := y
    dsimp only at KL ⊢
    generalize Z.length = nz at *
    generalize P.length = np at *
    go_enter Try.func9, Try.ntmps9
    go_wp2_with (first | (go_at_call 11; refine (KL.out _).mono ?_; rintro e w' ⟨rfl, z, rfl⟩) | (go_at_call 12; (first | (with_reducible refine (Calls.ext_of (alive_any _)).mono ?_) | refine (alive_any _).mono ?_); rintro e w' ⟨rfl, z9, rfl⟩))
    go_ret
    exact ⟨rfl, (below_ext (by repeat (first | exact Below.refl _ _ | exact Below.refl _ _ | (with_reducible refine Below.setCell ?_ (by first | omega | (simp; done) | (simp; omega)) _) | (with_reducible refine Below.alloc ?_ (by first | omega | (simp; done) | (simp; omega)) _) | (with_reducible refine Below.onDrewN ?_ _) | (with_reducible refine Below.drew ?_) | (with_reducible refine Below.ofExt ?_ (by first | omega | (simp; done) | (simp; omega))))))⟩

set_option maxRecDepth 100000 in
theorem bundleCounts_lifted (os : Os) (started : os.Started) (H : Type) (enc : TypeId × Value → H) :
    ReturnsInHanded {} Try.checked os 9 .any (Rows.bundleCountsSpec.pre6 enc Try.prog Try.f9 Rows.bundleCountsRow.domain false) (Rows.bundleCountsSpec.post enc Try.prog Try.f9 false true false false) := by
  refine returnsInHanded_of_change (C := Try.checked) own started (by kernel_rfl) Try.func9
    (ChangeSpec.witness6 (enc := enc) (C := Try.checked) false ⟨#[], #[.agg #[.int .i64 0, .int .i64 0, .int .i64 0, .int .i64 0, .slice none 0 0, .slice none 0 0, .slice none 0 0], .int .i64 0], []⟩ 8 (by kernel_rfl) (by kernel_rfl) (by kernel_rfl) (by kernel_rfl)) ?_
  intro W base args ds gs before hval0 hW hcnd _
  have hval : ∀ (j : Nat) t v, Try.f9.params[j]? = some t → args[j]? = some v → Value.okWide Try.prog W .any base t v := hval0
  have hW' := hW
  obtain ⟨p, q, hA0, hV, rfl, hfz, hnd⟩ := hW
  have hA : DataW.TrodAll enc Try.prog W 0 (fun _ => true) true Try.f9.params.toList args.toList ds p := hA0
  rw [Try.params9] at hA hval
  obtain ⟨v0, v1, d0, d1, p0, p1, rfl, rfl, rfl, h0, h1⟩ := trodAll_two hA
  obtain ⟨y0, Z0, P0, rfl, mz0, rz0, cy0, mp0, rp0⟩ := open_lay (hval 0 30 v0 rfl rfl) h0
  obtain ⟨x1, rfl, rfl, rfl, w1⟩ := open_int Try.underlying3 (hval 1 3 v1 rfl rfl) h1
  refine (counts_walk y0 Z0 P0 x1 W rz0 rp0 cy0 mz0 mp0 w1).mono fun e W' ⟨he, z, hz⟩ => ?_
  subst he hz
  exact ⟨_, rfl, law_post rfl (by kernel_rfl) (by kernel_rfl) Try.underlying4 hW' (fun _ => ⟨rfl, rfl, rfl⟩) (ext_below _ _)⟩

theorem bundleCounts_holds : Rows.BundleCountsSaid :=
  OpenClaim.holds_of_wide 9 Try.f9 rfl rfl rfl rfl rfl rfl rfl ⟨rfl, rfl, rfl, rfl, rfl⟩ rfl rfl rfl rfl rfl (by kernel_rfl) Try.func9 (by kernel_rfl)
    (of_decide_eq_true (by kernel_rfl)) (by unfold Func.isWrapper; first | (rw [if_pos (by decide +kernel)]; kernel_rfl) | (rw [if_neg (by decide +kernel)]; exact ⟨rfl, rfl⟩))
    (fun os started H enc _ => bundleCounts_lifted os started H enc)
#print axioms bundleCounts_holds
end Go.Proofs.Ytpfffpajnjeoeaa
