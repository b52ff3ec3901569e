/-
  The contract of the reference's check of one bundle.
-/
import Derived.Test.YtpfffpajnjeoeaaOne
namespace Go.Proofs.Ytpfffpajnjeoeaa
open Go.RowKit

theorem find_least (B : List Bun) (g p : Int) : ∀ k, (∃ i, i < k ∧ i < B.length ∧ Has (bn B i) g p) → ∃ i, FindAt B g p i
  | 0, ⟨i, hi, _⟩ => by omega
  | k + 1, ⟨i, hi, hl, hh⟩ => by
    by_cases c : ∃ i, i < k ∧ i < B.length ∧ Has (bn B i) g p
    · exact find_least B g p k c
    · refine ⟨i, hl, hh, fun j hj hj2 => c ⟨j, by omega, by omega, hj2⟩⟩
theorem find_exists (B : List Bun) (g p : Int) : ∃ k y, FindIs B g p k y := by
  by_cases c : ∃ i, i < B.length ∧ Has (bn B i) g p
  · obtain ⟨i, hi, hh⟩ := c
    obtain ⟨k, hk⟩ := find_least B g p B.length ⟨i, hi, hi, hh⟩
    exact ⟨k, true, Or.inl ⟨k, hk, rfl, rfl⟩⟩
  · exact ⟨0, false, Or.inr ⟨fun i hi hh => c ⟨i, hi, hh⟩, rfl, rfl⟩⟩
set_option maxRecDepth 100000 in
set_option maxHeartbeats 8000000 in
theorem ROne_any (y : Lay) (Z P : List Int) (a : Option Addr) (c : Nat) (E : List Bun) (b : Bun) (w : World) (hZ : RowAt w y.sa (ints Z)) (hP : PliesAt w y.ya P) (hE : BunsAt w a E) (hz : Z.length ≤ 1000000) (hp : P.length ≤ 1000000) (he : E.length ≤ 1000000) (hV : ∀ i, i < E.length → (bn E i).f < (bn E i).o) :
    Calls Try.prog 23 #[.agg #[.int .i64 y.n1, .int .i64 y.n2, .int .i64 y.n3, .int .i64 y.n4, .slice y.sa Z.length y.sc, .slice y.pa y.pn y.pc, .slice y.ya P.length y.yc], .slice a E.length c, .agg #[.int .i64 b.t, .int .i64 b.g, .int .i64 b.s, .int .i64 b.l, .int .i64 b.f, .int .i64 b.o]] w fun e w' => e = .returned (.int .i64 (errOne Z P E b)) ∧ ∃ z, w' = ext w z := by
  obtain ⟨bt, bg, bs, bl, bf, bo⟩ := b
  obtain ⟨n1, n2, n3, n4, sa, sc, pa, pn, pc, ya, yc⟩ := y
  dsimp only at hZ hP ⊢
  obtain ⟨bz, oz, hza, hzc⟩ := row_spread hZ
  obtain ⟨bp, op, hpa, hpc⟩ := hP
  obtain ⟨be, oe, hea, hec⟩ := hE
  have HZA := Lib.hid hza
  have HZC := Lib.hid hzc
  have HPA := Lib.hid hpa
  have HPC := Lib.hid hpc
  have HEA := Lib.hid hea
  have HEC := Lib.hid hec
  clear hZ hza hzc hpa hpc hea hec
  generalize hnz : Z.length = nz at *
  generalize hnp : P.length = np at *
  generalize hne : E.length = ne at *
  have HNZ := Lib.hid hnz
  have HNP := Lib.hid hnp
  have HNE := Lib.hid hne
  have HV := Lib.hid hV
  clear hnz hnp hne hV
  by_cases hb : Bad Z P ⟨bt, bg, bs, bl, bf, bo⟩
  · have HE := Lib.hid (err3 (E := E) hb)
    have hb' : bg < 0 ∨ (nz : Int) ≤ bg ∨ bf < 0 ∨ bo ≤ bf ∨ (np : Int) < bo := by
      unfold Bad at hb
      rw [HNZ.out, HNP.out] at hb
      exact hb
    have HB := Lib.hid hb'
    clear hb hb'
    go_enter Try.func23, Try.ntmps23
    go_wp2
    all_goals first | (go_ret; exact ⟨ret_int HE.out.symm, (below_ext (by repeat (first | exact Below.refl _ _ | exact Below.refl _ _ | (with_reducible refine Below.setCell ?_ (by first | omega | (simp; done) | (simp; omega)) _) | (with_reducible refine Below.alloc ?_ (by first | omega | (simp; done) | (simp; omega)) _) | (with_reducible refine Below.onDrewN ?_ _) | (with_reducible refine Below.drew ?_) | (with_reducible refine Below.ofExt ?_ (by first | omega | (simp; done) | (simp; omega))))))⟩) | (exfalso; have := HB.out; omega)
  · have hb' : ¬ (bg < 0 ∨ (nz : Int) ≤ bg ∨ bf < 0 ∨ bo ≤ bf ∨ (np : Int) < bo) := by
      unfold Bad at hb
      rw [HNZ.out, HNP.out] at hb
      exact hb
    have HB := Lib.hid hb
    clear hb
    have g1 : 0 ≤ bg := by omega
    have g2 : 0 ≤ bf := by omega
    have g3 : 0 ≤ bo := by omega
    obtain ⟨gn, rfl⟩ := Int.eq_ofNat_of_zero_le g1
    obtain ⟨fn, rfl⟩ := Int.eq_ofNat_of_zero_le g2
    obtain ⟨on, rfl⟩ := Int.eq_ofNat_of_zero_le g3
    have hgn : gn < nz := by omega
    have hfo : fn < on := by omega
    have hon : on ≤ np := by omega
    have hx1 : (gn : Int) < (nz : Int) := by omega
    have hx2 : (fn : Int) < (on : Int) := by omega
    have hx3 : (on : Int) ≤ (np : Int) := by omega
    clear g1 g2 g3 hb'
    obtain ⟨rfl, hzl⟩ := HZA.out (by omega)
    obtain ⟨rfl, hpl⟩ := HPA.out (by omega)
    obtain ⟨W, hW, hWs, hWb, hWl, hWu⟩ := two_boxes (w := w) (X := .cells #[.int .i64 n1, .int .i64 n2, .int .i64 n3, .int .i64 n4, .slice (some ⟨bz, oz, none⟩) nz sc, .slice pa pn pc, .slice (some ⟨bp, op, none⟩) np yc] 30) (Y := .cells #[.int .i64 bt, .int .i64 gn, .int .i64 bs, .int .i64 bl, .int .i64 fn, .int .i64 on] 45)
    have HWS := Lib.hid hWs
    have HWB := Lib.hid hWb
    have HWL := Lib.hid hWl
    have HWU := Lib.hid hWu
    have HW := Lib.hid hW
    clear hWs hWb hWl hWu hW
    go_enter Try.func23, Try.ntmps23
    go_wp2
    rw [← HW.out]
    go_loopg [7] ne (fun gk i wr => ∃ j : Nat, gk = ne - j ∧ j ≤ ne ∧ i = .int .i64 j ∧ (∀ i', i' < j → (bn E i').t ≠ bt) ∧ Below (w.heap.size + 2) W wr)
    case atStart => exact ⟨0, by omega, by omega, rfl, fun i hi => by omega, Below.refl _ _⟩
    case round =>
      obtain ⟨j, hgj, hj, rfl, hno, hbel⟩ := hrel
      have HG := Lib.hid hgj
      have HO := Lib.hid hno
      clear hgj hno
      obtain ⟨L4, L6⟩ := lay_cells hbel (show w.heap.size < w.heap.size + 2 by omega) HWL.out
      obtain ⟨U0, U1, U2, U3, U4, U5⟩ := bun_cells hbel (show w.heap.size + 1 < w.heap.size + 2 by omega) HWU.out
      have hold : Below w.heap.size w wr := HWB.out.trans (hbel.mono (by omega))
      have hsz := hbel.size
      have hsz2 : w.heap.size < wr.heap.size := by have := HWS.out; omega
      have hsz3 : w.heap.size + 1 < wr.heap.size := by have := HWS.out; omega
      by_cases hlt : j < ne
      · obtain ⟨rfl, hel⟩ := HEA.out (by omega)
        obtain ⟨c0, c1, c2, c3, c4, c5⟩ := HEC.out j hlt
        rw [← hold.cell (by exact hel)] at c0 c1 c2 c3 c4 c5
        have i1 : (0 : Int) ≤ (j : Int) ∧ (j : Int) < (ne : Int) := by omega
        by_cases ht : (bn E j).t = bt
        · have HE := Lib.hid (err7 HB.out ⟨j, by rw [HNE.out]; exact hlt, ht⟩)
          rw [ht] at c0
          clear ht
          generalize bn E j = u at *
          go_wp2_with fail
          refine wp_region_ext (by kernel_rfl) (by kernel_rfl) ?_
          repeat (go_big_quiet_step ((fail)))
          refine wpQuiet_nil ?_
          rintro _ ⟨z, rfl⟩
          go_wp2
          go_ret
          exact ⟨ret_int HE.out.symm, (below_ext (by repeat (first | exact hold | exact Below.refl _ _ | (with_reducible refine Below.setCell ?_ (by first | omega | (simp; done) | (simp; omega)) _) | (with_reducible refine Below.alloc ?_ (by first | omega | (simp; done) | (simp; omega)) _) | (with_reducible refine Below.onDrewN ?_ _) | (with_reducible refine Below.drew ?_) | (with_reducible refine Below.ofExt ?_ (by first | omega | (simp; done) | (simp; omega))))))⟩
        · have htb : ((bn E j).t == bt) = false := by rw [beq_eq_false_iff_ne]; exact ht
          have HN2 : Hid (∀ i', i' < j + 1 → (bn E i').t ≠ bt) := Lib.hid (fun i' hi' => by
            by_cases e : i' = j
            · rw [e]; exact ht
            · exact HO.out i' (by omega))
          clear ht
          generalize bn E j = u at *
          go_wp2_with fail
          refine wp_region_ext (by kernel_rfl) (by kernel_rfl) ?_
          repeat (go_big_quiet_step ((fail)))
          refine wpQuiet_nil ?_
          rintro _ ⟨z, rfl⟩
          go_wp2
          go_roundg (ne - (j + 1))
          case measure => rw [HG.out]; omega
          case rel => exact ⟨j + 1, rfl, by omega, by go_num, HN2.out, (by repeat (first | exact hbel | exact Below.refl _ _ | (with_reducible refine Below.setCell ?_ (by first | omega | (simp; done) | (simp; omega)) _) | (with_reducible refine Below.alloc ?_ (by first | omega | (simp; done) | (simp; omega)) _) | (with_reducible refine Below.onDrewN ?_ _) | (with_reducible refine Below.drew ?_) | (with_reducible refine Below.ofExt ?_ (by first | omega | (simp; done) | (simp; omega)))))⟩
      · obtain rfl : j = ne := by omega
        have HT : Hid (¬ ∃ i, i < E.length ∧ (bn E i).t = bt) := Lib.hid (fun ⟨i, hi, e⟩ => HO.out i (by rw [HNE.out] at hi; exact hi) e)
        clear HO
        have cz := HZC.out gn hgn
        rw [← hold.cell (by exact hzl)] at cz
        by_cases hs : bs = Z.getD gn 0
        · have HS := Lib.hid hs
          rw [← hs] at cz
          clear hs
          go_wp2_with fail
          refine wp_region_ext (by kernel_rfl) (by kernel_rfl) ?_
          repeat (go_big_quiet_step ((fail)))
          refine wpQuiet_nil ?_
          rintro _ ⟨z, rfl⟩
          go_wp2_with fail
          have HB2 : Hid (Below (w.heap.size + 2) W (ext wr z)) := Lib.hid (by repeat (first | exact hbel | exact Below.refl _ _ | (with_reducible refine Below.setCell ?_ (by first | omega | (simp; done) | (simp; omega)) _) | (with_reducible refine Below.alloc ?_ (by first | omega | (simp; done) | (simp; omega)) _) | (with_reducible refine Below.onDrewN ?_ _) | (with_reducible refine Below.drew ?_) | (with_reducible refine Below.ofExt ?_ (by first | omega | (simp; done) | (simp; omega)))))
          go_loopg [8] (on - fn) (fun gk i wr => ∃ k : Nat, gk = on - k ∧ fn ≤ k ∧ k ≤ on ∧ i = .int .i64 k ∧ (∀ p, fn ≤ p → p < k → P.getD p 0 = bl) ∧ Below (w.heap.size + 2) W wr)
          case atStart => exact ⟨fn, by omega, by omega, by omega, rfl, fun p h1 h2 => by omega, HB2.out⟩
          case round =>
            clear hbel hold hsz hsz2 hsz3 L4 L6 U0 U1 U2 U3 U4 U5 cz HB2
            obtain ⟨k, hgk, hfk, hk, rfl, hno, hbel⟩ := hrel
            have HGK := Lib.hid hgk
            have HO := Lib.hid hno
            clear hgk hno
            obtain ⟨L4, L6⟩ := lay_cells hbel (show w.heap.size < w.heap.size + 2 by omega) HWL.out
            obtain ⟨U0, U1, U2, U3, U4, U5⟩ := bun_cells hbel (show w.heap.size + 1 < w.heap.size + 2 by omega) HWU.out
            have hold : Below w.heap.size w wr := HWB.out.trans (hbel.mono (by omega))
            have hsz := hbel.size
            have hsz2 : w.heap.size < wr.heap.size := by have := HWS.out; omega
            have hsz3 : w.heap.size + 1 < wr.heap.size := by have := HWS.out; omega
            by_cases hlt : k < on
            · obtain ⟨cp, px, pn2, pc2, cq⟩ := HPC.out k (by omega)
              rw [← hold.cell (by exact hpl)] at cp cq
              have i1 : (0 : Int) ≤ (k : Int) ∧ (k : Int) < (np : Int) := by omega
              by_cases hs : P.getD k 0 = bl
              · have HN2 : Hid (∀ p, fn ≤ p → p < k + 1 → P.getD p 0 = bl) := Lib.hid (fun p h1 h2 => by
                  by_cases e : p = k
                  · rw [e]; exact hs
                  · exact HO.out p h1 (by omega))
                rw [hs] at cp
                clear hs
                go_wp2_with fail
                refine wp_region_ext (by kernel_rfl) (by kernel_rfl) ?_
                repeat (go_big_quiet_step ((fail)))
                refine wpQuiet_nil ?_
                rintro _ ⟨z, rfl⟩
                go_wp2
                go_roundg (on - (k + 1))
                case measure => rw [HGK.out]; omega
                case rel => exact ⟨k + 1, rfl, by omega, by omega, by go_num, HN2.out, (by repeat (first | exact hbel | exact Below.refl _ _ | (with_reducible refine Below.setCell ?_ (by first | omega | (simp; done) | (simp; omega)) _) | (with_reducible refine Below.alloc ?_ (by first | omega | (simp; done) | (simp; omega)) _) | (with_reducible refine Below.onDrewN ?_ _) | (with_reducible refine Below.drew ?_) | (with_reducible refine Below.ofExt ?_ (by first | omega | (simp; done) | (simp; omega)))))⟩
              · have HE := Lib.hid (err16 HB.out HT.out (by simpa using HS.out) (fun hh => hs (hh k (by simp only; omega) (by simp only; omega))))
                have hsb : (P.getD k 0 != bl) = true := by rw [bne_iff_ne]; exact hs
                clear hs
                generalize P.getD k 0 = pl at *
                go_wp2_with fail
                refine wp_region_ext (by kernel_rfl) (by kernel_rfl) ?_
                repeat (go_big_quiet_step ((fail)))
                refine wpQuiet_nil ?_
                rintro _ ⟨z, rfl⟩
                go_wp2
                go_ret
                exact ⟨ret_int HE.out.symm, (below_ext (by repeat (first | exact hold | exact Below.refl _ _ | (with_reducible refine Below.setCell ?_ (by first | omega | (simp; done) | (simp; omega)) _) | (with_reducible refine Below.alloc ?_ (by first | omega | (simp; done) | (simp; omega)) _) | (with_reducible refine Below.onDrewN ?_ _) | (with_reducible refine Below.drew ?_) | (with_reducible refine Below.ofExt ?_ (by first | omega | (simp; done) | (simp; omega))))))⟩
            · obtain rfl : k = on := by omega
              have HSH : Hid (Shade P ⟨bt, gn, bs, bl, fn, k⟩) := Lib.hid (fun p h1 h2 => HO.out p (by simp only at h1; omega) (by simp only at h2; omega))
              clear HO
              go_wp2
              go_loopg [9] (k - fn) (fun gk i wr => ∃ m : Nat, gk = k - m ∧ fn ≤ m ∧ m ≤ k ∧ i = .int .i64 m ∧ (∀ p : Nat, fn ≤ p → p < m → ∀ i', i' < j → ¬ Has (bn E i') gn p) ∧ Below (w.heap.size + 2) W wr)
              case atStart => exact ⟨fn, by omega, by omega, by omega, rfl, fun p h1 h2 => by omega, hbel⟩
              case round =>
                clear hbel hold hsz hsz2 hsz3 L4 L6 U0 U1 U2 U3 U4 U5
                obtain ⟨m, hgm, hfm, hmk, rfl, hno, hbel⟩ := hrel
                have HGM := Lib.hid hgm
                have HO := Lib.hid hno
                clear hgm hno
                obtain ⟨L4, L6⟩ := lay_cells hbel (show w.heap.size < w.heap.size + 2 by omega) HWL.out
                obtain ⟨U0, U1, U2, U3, U4, U5⟩ := bun_cells hbel (show w.heap.size + 1 < w.heap.size + 2 by omega) HWU.out
                have hold : Below w.heap.size w wr := HWB.out.trans (hbel.mono (by omega))
                have hsz := hbel.size
                have hsz2 : w.heap.size < wr.heap.size := by have := HWS.out; omega
                have hsz3 : w.heap.size + 1 < wr.heap.size := by have := HWS.out; omega
                by_cases hlt : m < k
                · obtain ⟨r, yy, hF⟩ := find_exists E gn m
                  have KF := Lib.hid (fun W h => RFind_any a c E gn m W h (by rw [HNE.out]; omega) r yy hF)
                  rw [HNE.out] at KF
                  have HEB : Hid (BunsAt w a E) := Lib.hid ⟨be, oe, by rw [HNE.out]; exact HEA.out, by rw [HNE.out]; exact HEC.out⟩
                  rcases hF with ⟨i', hFA, rfl, rfl⟩ | ⟨hFN, rfl, rfl⟩
                  · have HE := Lib.hid (err14 HB.out HT.out (by simpa using HS.out) HSH.out ⟨i', hFA.1, hFA.2.1.1, by have := hFA.2.1.2.1; simp only; omega, by have := hFA.2.1.2.2; simp only; omega⟩)
                    clear hFA
                    go_wp2_with fail
                    refine (KF.out _ (HEB.out.below hold)).mono ?_
                    rintro e w' ⟨rfl, z2, rfl⟩
                    go_wp2
                    go_ret
                    exact ⟨ret_int HE.out.symm, (below_ext (by repeat (first | exact hold | exact Below.refl _ _ | (with_reducible refine Below.setCell ?_ (by first | omega | (simp; done) | (simp; omega)) _) | (with_reducible refine Below.alloc ?_ (by first | omega | (simp; done) | (simp; omega)) _) | (with_reducible refine Below.onDrewN ?_ _) | (with_reducible refine Below.drew ?_) | (with_reducible refine Below.ofExt ?_ (by first | omega | (simp; done) | (simp; omega))))))⟩
                  · have HN2 : Hid (∀ p : Nat, fn ≤ p → p < m + 1 → ∀ i', i' < j → ¬ Has (bn E i') gn p) := Lib.hid (fun p h1 h2 i' hi' => by
                      by_cases e : p = m
                      · rw [e]; exact hFN i' (by rw [HNE.out]; exact hi')
                      · exact HO.out p h1 (by omega) i' hi')
                    clear hFN
                    go_wp2_with fail
                    refine (KF.out _ (HEB.out.below hold)).mono ?_
                    rintro e w' ⟨rfl, z2, rfl⟩
                    go_wp2
                    go_roundg (k - (m + 1))
                    case measure => rw [HGM.out]; omega
                    case rel => exact ⟨m + 1, rfl, by omega, by omega, by go_num, HN2.out, (by repeat (first | exact hbel | exact Below.refl _ _ | (with_reducible refine Below.setCell ?_ (by first | omega | (simp; done) | (simp; omega)) _) | (with_reducible refine Below.alloc ?_ (by first | omega | (simp; done) | (simp; omega)) _) | (with_reducible refine Below.onDrewN ?_ _) | (with_reducible refine Below.drew ?_) | (with_reducible refine Below.ofExt ?_ (by first | omega | (simp; done) | (simp; omega)))))⟩
                · obtain rfl : m = k := by omega
                  have HE := Lib.hid (err0 HB.out HT.out (by simpa using HS.out) HSH.out (fun ⟨i, hi, o1, o2, o3⟩ => by
                    have hv := HV.out i (by rw [HNE.out] at hi; exact hi)
                    simp only at o1 o2 o3
                    exact HO.out (max (fn : Int) (bn E i).f).toNat (by omega) (by omega) i (by rw [HNE.out] at hi; exact hi) ⟨o1, by omega, by omega⟩))
                  clear HO
                  go_wp2
                  go_ret
                  exact ⟨ret_int HE.out.symm, (below_ext (by repeat (first | exact hold | exact Below.refl _ _ | (with_reducible refine Below.setCell ?_ (by first | omega | (simp; done) | (simp; omega)) _) | (with_reducible refine Below.alloc ?_ (by first | omega | (simp; done) | (simp; omega)) _) | (with_reducible refine Below.onDrewN ?_ _) | (with_reducible refine Below.drew ?_) | (with_reducible refine Below.ofExt ?_ (by first | omega | (simp; done) | (simp; omega))))))⟩
        · have HE := Lib.hid (err1 HB.out HT.out (by simpa using hs))
          have hsb : (bs != Z.getD gn 0) = true := by rw [bne_iff_ne]; exact hs
          clear hs
          generalize Z.getD gn 0 = zz at *
          go_wp2_with fail
          refine wp_region_ext (by kernel_rfl) (by kernel_rfl) ?_
          repeat (go_big_quiet_step ((fail)))
          refine wpQuiet_nil ?_
          rintro _ ⟨z, rfl⟩
          go_wp2
          go_ret
          exact ⟨ret_int HE.out.symm, (below_ext (by repeat (first | exact hold | exact Below.refl _ _ | (with_reducible refine Below.setCell ?_ (by first | omega | (simp; done) | (simp; omega)) _) | (with_reducible refine Below.alloc ?_ (by first | omega | (simp; done) | (simp; omega)) _) | (with_reducible refine Below.onDrewN ?_ _) | (with_reducible refine Below.drew ?_) | (with_reducible refine Below.ofExt ?_ (by first | omega | (simp; done) | (simp; omega))))))⟩
end Go.Proofs.Ytpfffpajnjeoeaa
