/-
  The contract of checkOne.
-/
import Derived.Test.YtpfffpajnjeoeaaFind
namespace Go.Proofs.Ytpfffpajnjeoeaa
open Go.RowKit

/-- What the first two blocks hold: a lay and a bundle. -/
theorem two_boxes {w : World} {X Y : Obj} : ∃ W, W = (w.alloc X).alloc Y ∧ W.heap.size = w.heap.size + 2 ∧ Below w.heap.size w W ∧ W.heap[w.heap.size]? = some X ∧ W.heap[w.heap.size + 1]? = some Y := by
  refine ⟨_, rfl, by simp, ?_, ?_, ?_⟩
  · exact (by repeat (first | exact Below.refl _ _ | exact Below.refl _ _ | (with_reducible refine Below.setCell ?_ (by first | omega | (simp; done) | (simp; omega)) _) | (with_reducible refine Below.alloc ?_ (by first | omega | (simp; done) | (simp; omega)) _) | (with_reducible refine Below.onDrewN ?_ _) | (with_reducible refine Below.drew ?_) | (with_reducible refine Below.ofExt ?_ (by first | omega | (simp; done) | (simp; omega)))))
  · rw [heap_alloc_lt _ _ _ (by simp)]; exact heap_alloc_at _ _ _ rfl
  · exact heap_alloc_at _ _ _ (by simp)
theorem lay_cells {W wr : World} {s B : Nat} (hbel : Below B W wr) (hs : s < B) {a b c d e f g : Value} {t : TypeId} (h : W.heap[s]? = some (.cells #[a, b, c, d, e, f, g] t (0, 0))) :
    wr.cell? ⟨s, 4, none⟩ = some e ∧ wr.cell? ⟨s, 6, none⟩ = some g := by
  have hc : ∀ k, wr.cell? ⟨s, k, none⟩ = W.cell? ⟨s, k, none⟩ := fun k => hbel.cell (p := ⟨s, k, none⟩) hs
  exact ⟨by rw [hc]; simp [World.cell?, h], by rw [hc]; simp [World.cell?, h]⟩
theorem bun_cells {W wr : World} {s B : Nat} (hbel : Below B W wr) (hs : s < B) {a b c d e f : Value} {t : TypeId} (h : W.heap[s]? = some (.cells #[a, b, c, d, e, f] t (0, 0))) :
    wr.cell? ⟨s, 0, none⟩ = some a ∧ wr.cell? ⟨s, 1, none⟩ = some b ∧ wr.cell? ⟨s, 2, none⟩ = some c ∧ wr.cell? ⟨s, 3, none⟩ = some d ∧ wr.cell? ⟨s, 4, none⟩ = some e ∧ wr.cell? ⟨s, 5, none⟩ = some f := by
  have hc : ∀ k, wr.cell? ⟨s, k, none⟩ = W.cell? ⟨s, k, none⟩ := fun k => hbel.cell (p := ⟨s, k, none⟩) hs
  exact ⟨by rw [hc]; simp [World.cell?, h], by rw [hc]; simp [World.cell?, h], by rw [hc]; simp [World.cell?, h], by rw [hc]; simp [World.cell?, h], by rw [hc]; simp [World.cell?, h], by rw [hc]; simp [World.cell?, h]⟩
set_option maxRecDepth 100000 in
set_option maxHeartbeats 8000000 in
theorem One_any (y : Lay) (Z P : List Int) (a : Option Addr) (c : Nat) (E : List Bun) (b : Bun) (w : World) (hZ : RowAt w y.sa (ints Z)) (hP : PliesAt w y.ya P) (hE : BunsAt w a E) (hz : Z.length ≤ 1000000) (hp : P.length ≤ 1000000) (he : E.length ≤ 1000000) (hyc : P.length ≤ y.yc) :
    Calls Try.prog 22 #[.agg #[.int .i64 y.n1, .int .i64 y.n2, .int .i64 y.n3, .int .i64 y.n4, .slice y.sa Z.length y.sc, .slice y.pa y.pn y.pc, .slice y.ya P.length y.yc], .slice a E.length c, .agg #[.int .i64 b.t, .int .i64 b.g, .int .i64 b.s, .int .i64 b.l, .int .i64 b.f, .int .i64 b.o]] w fun e w' => e = .returned (.int .i64 (errOne Z P E b)) ∧ ∃ z, w' = ext w z := by
  obtain ⟨bt, bg, bs, bl, bf, bo⟩ := b
  obtain ⟨n1, n2, n3, n4, sa, sc, pa, pn, pc, ya, yc⟩ := y
  dsimp only at hZ hP hyc ⊢
  obtain ⟨bz, oz, hza, hzc⟩ := row_spread hZ
  obtain ⟨bp, op, hpa, hpc⟩ := hP
  obtain ⟨be, oe, hea, hec⟩ := hE
  have HZA := Lib.hid hza
  have HZC := Lib.hid hzc
  have HPA := Lib.hid hpa
  have HPC := Lib.hid hpc
  have HEA := Lib.hid hea
  have HEC := Lib.hid hec
  clear hZ hza hzc hpa hpc hea hec
  generalize hnz : Z.length = nz at *
  generalize hnp : P.length = np at *
  generalize hne : E.length = ne at *
  have HNZ := Lib.hid hnz
  have HNP := Lib.hid hnp
  have HNE := Lib.hid hne
  clear hnz hnp hne
  by_cases hb : Bad Z P ⟨bt, bg, bs, bl, bf, bo⟩
  · have HE := Lib.hid (err3 (E := E) hb)
    have hb' : bg < 0 ∨ (nz : Int) ≤ bg ∨ bf < 0 ∨ bo ≤ bf ∨ (np : Int) < bo := by
      unfold Bad at hb
      rw [HNZ.out, HNP.out] at hb
      exact hb
    have HB := Lib.hid hb'
    clear hb hb'
    go_enter Try.func22, Try.ntmps22
    go_wp2
    all_goals first | (go_ret; exact ⟨ret_int HE.out.symm, (below_ext (by repeat (first | exact Below.refl _ _ | exact Below.refl _ _ | (with_reducible refine Below.setCell ?_ (by first | omega | (simp; done) | (simp; omega)) _) | (with_reducible refine Below.alloc ?_ (by first | omega | (simp; done) | (simp; omega)) _) | (with_reducible refine Below.onDrewN ?_ _) | (with_reducible refine Below.drew ?_) | (with_reducible refine Below.ofExt ?_ (by first | omega | (simp; done) | (simp; omega))))))⟩) | (exfalso; have := HB.out; omega)
  · have hb' : ¬ (bg < 0 ∨ (nz : Int) ≤ bg ∨ bf < 0 ∨ bo ≤ bf ∨ (np : Int) < bo) := by
      unfold Bad at hb
      rw [HNZ.out, HNP.out] at hb
      exact hb
    have HB := Lib.hid hb
    clear hb
    have g1 : 0 ≤ bg := by omega
    have g2 : 0 ≤ bf := by omega
    have g3 : 0 ≤ bo := by omega
    obtain ⟨gn, rfl⟩ := Int.eq_ofNat_of_zero_le g1
    obtain ⟨fn, rfl⟩ := Int.eq_ofNat_of_zero_le g2
    obtain ⟨on, rfl⟩ := Int.eq_ofNat_of_zero_le g3
    have hgn : gn < nz := by omega
    have hfo : fn < on := by omega
    have hon : on ≤ np := by omega
    have hx1 : (gn : Int) < (nz : Int) := by omega
    have hx2 : (fn : Int) < (on : Int) := by omega
    have hx3 : (on : Int) ≤ (np : Int) := by omega
    clear g1 g2 g3 hb'
    obtain ⟨rfl, hzl⟩ := HZA.out (by omega)
    obtain ⟨rfl, hpl⟩ := HPA.out (by omega)
    obtain ⟨W, hW, hWs, hWb, hWl, hWu⟩ := two_boxes (w := w) (X := .cells #[.int .i64 n1, .int .i64 n2, .int .i64 n3, .int .i64 n4, .slice (some ⟨bz, oz, none⟩) nz sc, .slice pa pn pc, .slice (some ⟨bp, op, none⟩) np yc] 30) (Y := .cells #[.int .i64 bt, .int .i64 gn, .int .i64 bs, .int .i64 bl, .int .i64 fn, .int .i64 on] 45)
    have HWS := Lib.hid hWs
    have HWB := Lib.hid hWb
    have HWL := Lib.hid hWl
    have HWU := Lib.hid hWu
    have HW := Lib.hid hW
    clear hWs hWb hWl hWu hW
    go_enter Try.func22, Try.ntmps22
    go_wp2
    rw [← HW.out]
    go_loopg [47] ne (fun gk i wr => ∃ j : Nat, gk = ne - j ∧ j ≤ ne ∧ i = .int .i64 j ∧ (∀ i', i' < j → (bn E i').t ≠ bt) ∧ Below (w.heap.size + 2) W wr)
    case atStart => exact ⟨0, by omega, by omega, rfl, fun i hi => by omega, Below.refl _ _⟩
    case round =>
      obtain ⟨j, hgj, hj, rfl, hno, hbel⟩ := hrel
      have HG := Lib.hid hgj
      have HO := Lib.hid hno
      clear hgj hno
      obtain ⟨L4, L6⟩ := lay_cells hbel (show w.heap.size < w.heap.size + 2 by omega) HWL.out
      obtain ⟨U0, U1, U2, U3, U4, U5⟩ := bun_cells hbel (show w.heap.size + 1 < w.heap.size + 2 by omega) HWU.out
      have hold : Below w.heap.size w wr := HWB.out.trans (hbel.mono (by omega))
      have hsz := hbel.size
      have hsz2 : w.heap.size < wr.heap.size := by have := HWS.out; omega
      have hsz3 : w.heap.size + 1 < wr.heap.size := by have := HWS.out; omega
      by_cases hlt : j < ne
      · obtain ⟨rfl, hel⟩ := HEA.out (by omega)
        obtain ⟨c0, c1, c2, c3, c4, c5⟩ := HEC.out j hlt
        rw [← hold.cell (by exact hel)] at c0 c1 c2 c3 c4 c5
        have i1 : (0 : Int) ≤ (j : Int) ∧ (j : Int) < (ne : Int) := by omega
        by_cases ht : (bn E j).t = bt
        · have HE := Lib.hid (err7 HB.out ⟨j, by rw [HNE.out]; exact hlt, ht⟩)
          rw [ht] at c0
          clear ht
          generalize bn E j = u at *
          go_wp2
          go_ret
          exact ⟨ret_int HE.out.symm, (below_ext (by repeat (first | exact hold | exact Below.refl _ _ | (with_reducible refine Below.setCell ?_ (by first | omega | (simp; done) | (simp; omega)) _) | (with_reducible refine Below.alloc ?_ (by first | omega | (simp; done) | (simp; omega)) _) | (with_reducible refine Below.onDrewN ?_ _) | (with_reducible refine Below.drew ?_) | (with_reducible refine Below.ofExt ?_ (by first | omega | (simp; done) | (simp; omega))))))⟩
        · have htb : ((bn E j).t == bt) = false := by rw [beq_eq_false_iff_ne]; exact ht
          have HN2 : Hid (∀ i', i' < j + 1 → (bn E i').t ≠ bt) := Lib.hid (fun i' hi' => by
            by_cases e : i' = j
            · rw [e]; exact ht
            · exact HO.out i' (by omega))
          clear ht
          generalize bn E j = u at *
          go_wp2
          go_roundg (ne - (j + 1))
          case measure => rw [HG.out]; omega
          case rel => exact ⟨j + 1, rfl, by omega, by go_num, HN2.out, (by repeat (first | exact hbel | exact Below.refl _ _ | (with_reducible refine Below.setCell ?_ (by first | omega | (simp; done) | (simp; omega)) _) | (with_reducible refine Below.alloc ?_ (by first | omega | (simp; done) | (simp; omega)) _) | (with_reducible refine Below.onDrewN ?_ _) | (with_reducible refine Below.drew ?_) | (with_reducible refine Below.ofExt ?_ (by first | omega | (simp; done) | (simp; omega)))))⟩
      · obtain rfl : j = ne := by omega
        have HT : Hid (¬ ∃ i, i < E.length ∧ (bn E i).t = bt) := Lib.hid (fun ⟨i, hi, e⟩ => HO.out i (by rw [HNE.out] at hi; exact hi) e)
        clear HO
        have cz := HZC.out gn hgn
        rw [← hold.cell (by exact hzl)] at cz
        by_cases hs : bs = Z.getD gn 0
        · have HS := Lib.hid hs
          rw [← hs] at cz
          clear hs
          go_wp2_with fail
          refine wp_region_ext (by kernel_rfl) (by kernel_rfl) ?_
          repeat (go_big_quiet_step ((fail)))
          refine wpQuiet_nil ?_
          rintro _ ⟨z, rfl⟩
          go_wp2_with fail
          generalize hmm : on - fn = mm at *
          have HMM := Lib.hid hmm
          have hmm2 : mm ≤ 1000000 := by omega
          clear hmm
          have HB2 : Hid (Below (w.heap.size + 2) W (ext wr z)) := Lib.hid (by repeat (first | exact hbel | exact Below.refl _ _ | (with_reducible refine Below.setCell ?_ (by first | omega | (simp; done) | (simp; omega)) _) | (with_reducible refine Below.alloc ?_ (by first | omega | (simp; done) | (simp; omega)) _) | (with_reducible refine Below.onDrewN ?_ _) | (with_reducible refine Below.drew ?_) | (with_reducible refine Below.ofExt ?_ (by first | omega | (simp; done) | (simp; omega)))))
          go_loopg [75] mm (fun gk i wr => ∃ k : Nat, gk = mm - k ∧ k ≤ mm ∧ i = .int .i64 k ∧ (∀ p, fn ≤ p → p < fn + k → P.getD p 0 = bl) ∧ Below (w.heap.size + 2) W wr)
          case atStart => exact ⟨0, by omega, by omega, rfl, fun p h1 h2 => by omega, HB2.out⟩
          case round =>
            clear hbel hold hsz hsz2 hsz3 L4 L6 U0 U1 U2 U3 U4 U5 cz HB2
            obtain ⟨k, hgk, hk, rfl, hno, hbel⟩ := hrel
            have HGK := Lib.hid hgk
            have HO := Lib.hid hno
            clear hgk hno
            obtain ⟨L4, L6⟩ := lay_cells hbel (show w.heap.size < w.heap.size + 2 by omega) HWL.out
            obtain ⟨U0, U1, U2, U3, U4, U5⟩ := bun_cells hbel (show w.heap.size + 1 < w.heap.size + 2 by omega) HWU.out
            have hold : Below w.heap.size w wr := HWB.out.trans (hbel.mono (by omega))
            have hsz := hbel.size
            have hsz2 : w.heap.size < wr.heap.size := by have := HWS.out; omega
            have hsz3 : w.heap.size + 1 < wr.heap.size := by have := HWS.out; omega
            by_cases hlt : k < mm
            · obtain ⟨cp, px, pn2, pc2, cq⟩ := HPC.out (fn + k) (by have := HMM.out; omega)
              rw [← hold.cell (by exact hpl)] at cp cq
              rw [show op + (fn + k) * 2 = op + fn * 2 + k * 2 by omega] at cp cq
              have i1 : (0 : Int) ≤ (k : Int) ∧ (k : Int) < (mm : Int) := by omega
              by_cases hs : P.getD (fn + k) 0 = bl
              · have HN2 : Hid (∀ p, fn ≤ p → p < fn + (k + 1) → P.getD p 0 = bl) := Lib.hid (fun p h1 h2 => by
                  by_cases e : p = fn + k
                  · rw [e]; exact hs
                  · exact HO.out p h1 (by omega))
                rw [hs] at cp
                clear hs
                go_wp2
                go_roundg (mm - (k + 1))
                case measure => rw [HGK.out]; omega
                case rel => exact ⟨k + 1, rfl, by omega, by go_num, HN2.out, (by repeat (first | exact hbel | exact Below.refl _ _ | (with_reducible refine Below.setCell ?_ (by first | omega | (simp; done) | (simp; omega)) _) | (with_reducible refine Below.alloc ?_ (by first | omega | (simp; done) | (simp; omega)) _) | (with_reducible refine Below.onDrewN ?_ _) | (with_reducible refine Below.drew ?_) | (with_reducible refine Below.ofExt ?_ (by first | omega | (simp; done) | (simp; omega)))))⟩
              · have HE := Lib.hid (err16 HB.out HT.out (by simpa using HS.out) (fun hh => hs (hh (fn + k) (by simp only; omega) (by have := HMM.out; simp only; omega))))
                have hsb : (P.getD (fn + k) 0 != bl) = true := by rw [bne_iff_ne]; exact hs
                clear hs
                generalize P.getD (fn + k) 0 = pl at *
                go_wp2
                go_ret
                exact ⟨ret_int HE.out.symm, (below_ext (by repeat (first | exact hold | exact Below.refl _ _ | (with_reducible refine Below.setCell ?_ (by first | omega | (simp; done) | (simp; omega)) _) | (with_reducible refine Below.alloc ?_ (by first | omega | (simp; done) | (simp; omega)) _) | (with_reducible refine Below.onDrewN ?_ _) | (with_reducible refine Below.drew ?_) | (with_reducible refine Below.ofExt ?_ (by first | omega | (simp; done) | (simp; omega))))))⟩
            · obtain rfl : k = mm := by omega
              have HSH : Hid (Shade P ⟨bt, gn, bs, bl, fn, on⟩) := Lib.hid (fun p h1 h2 => HO.out p (by simp only at h1; omega) (by have := HMM.out; simp only at h2; omega))
              clear HO
              go_wp2
              go_loopg [87] j (fun gk i wr => ∃ m : Nat, gk = j - m ∧ m ≤ j ∧ i = .int .i64 m ∧ (∀ i', i' < m → ¬ Overlap (bn E i') ⟨bt, gn, bs, bl, fn, on⟩) ∧ Below (w.heap.size + 2) W wr)
              case atStart => exact ⟨0, by omega, by omega, rfl, fun i hi => by omega, hbel⟩
              case round =>
                clear hbel hold hsz hsz2 hsz3 L4 L6 U0 U1 U2 U3 U4 U5
                obtain ⟨m, hgm, hmj, rfl, hno, hbel⟩ := hrel
                have HGM := Lib.hid hgm
                have HO := Lib.hid hno
                clear hgm hno
                obtain ⟨L4, L6⟩ := lay_cells hbel (show w.heap.size < w.heap.size + 2 by omega) HWL.out
                obtain ⟨U0, U1, U2, U3, U4, U5⟩ := bun_cells hbel (show w.heap.size + 1 < w.heap.size + 2 by omega) HWU.out
                have hold : Below w.heap.size w wr := HWB.out.trans (hbel.mono (by omega))
                have hsz := hbel.size
                have hsz2 : w.heap.size < wr.heap.size := by have := HWS.out; omega
                have hsz3 : w.heap.size + 1 < wr.heap.size := by have := HWS.out; omega
                by_cases hlt : m < j
                · obtain ⟨rfl, hel⟩ := HEA.out (by omega)
                  obtain ⟨c0, c1, c2, c3, c4, c5⟩ := HEC.out m hlt
                  rw [← hold.cell (by exact hel)] at c0 c1 c2 c3 c4 c5
                  have i1 : (0 : Int) ≤ (m : Int) ∧ (m : Int) < (j : Int) := by omega
                  by_cases hov : Overlap (bn E m) ⟨bt, gn, bs, bl, fn, on⟩
                  · have HE := Lib.hid (err14 HB.out HT.out (by simpa using HS.out) HSH.out ⟨m, by rw [HNE.out]; exact hlt, hov⟩)
                    obtain ⟨o1, o2, o3⟩ := hov
                    simp only at o1 o2 o3
                    rw [o1] at c1
                    clear o1
                    generalize bn E m = u at *
                    go_wp2
                    go_ret
                    exact ⟨ret_int HE.out.symm, (below_ext (by repeat (first | exact hold | exact Below.refl _ _ | (with_reducible refine Below.setCell ?_ (by first | omega | (simp; done) | (simp; omega)) _) | (with_reducible refine Below.alloc ?_ (by first | omega | (simp; done) | (simp; omega)) _) | (with_reducible refine Below.onDrewN ?_ _) | (with_reducible refine Below.drew ?_) | (with_reducible refine Below.ofExt ?_ (by first | omega | (simp; done) | (simp; omega))))))⟩
                  · have HN2 : Hid (∀ i', i' < m + 1 → ¬ Overlap (bn E i') ⟨bt, gn, bs, bl, fn, on⟩) := Lib.hid (fun i' hi' => by
                      by_cases e : i' = m
                      · rw [e]; exact hov
                      · exact HO.out i' (by omega))
                    by_cases o1 : (bn E m).g = (gn : Int)
                    · rw [o1] at c1
                      by_cases o2 : (bn E m).f < (on : Int)
                      · have o3 : ¬ (fn : Int) < (bn E m).o := fun e => hov ⟨o1, o2, e⟩
                        clear hov o1
                        generalize bn E m = u at *
                        go_wp2
                        go_roundg (j - (m + 1))
                        case measure => rw [HGM.out]; omega
                        case rel => exact ⟨m + 1, rfl, by omega, by go_num, HN2.out, (by repeat (first | exact hbel | exact Below.refl _ _ | (with_reducible refine Below.setCell ?_ (by first | omega | (simp; done) | (simp; omega)) _) | (with_reducible refine Below.alloc ?_ (by first | omega | (simp; done) | (simp; omega)) _) | (with_reducible refine Below.onDrewN ?_ _) | (with_reducible refine Below.drew ?_) | (with_reducible refine Below.ofExt ?_ (by first | omega | (simp; done) | (simp; omega)))))⟩
                      · clear hov o1
                        generalize bn E m = u at *
                        go_wp2
                        go_roundg (j - (m + 1))
                        case measure => rw [HGM.out]; omega
                        case rel => exact ⟨m + 1, rfl, by omega, by go_num, HN2.out, (by repeat (first | exact hbel | exact Below.refl _ _ | (with_reducible refine Below.setCell ?_ (by first | omega | (simp; done) | (simp; omega)) _) | (with_reducible refine Below.alloc ?_ (by first | omega | (simp; done) | (simp; omega)) _) | (with_reducible refine Below.onDrewN ?_ _) | (with_reducible refine Below.drew ?_) | (with_reducible refine Below.ofExt ?_ (by first | omega | (simp; done) | (simp; omega)))))⟩
                    · have o1b : ((bn E m).g == (gn : Int)) = false := by rw [beq_eq_false_iff_ne]; exact o1
                      clear hov o1
                      generalize bn E m = u at *
                      go_wp2
                      go_roundg (j - (m + 1))
                      case measure => rw [HGM.out]; omega
                      case rel => exact ⟨m + 1, rfl, by omega, by go_num, HN2.out, (by repeat (first | exact hbel | exact Below.refl _ _ | (with_reducible refine Below.setCell ?_ (by first | omega | (simp; done) | (simp; omega)) _) | (with_reducible refine Below.alloc ?_ (by first | omega | (simp; done) | (simp; omega)) _) | (with_reducible refine Below.onDrewN ?_ _) | (with_reducible refine Below.drew ?_) | (with_reducible refine Below.ofExt ?_ (by first | omega | (simp; done) | (simp; omega)))))⟩
                · obtain rfl : m = j := by omega
                  have HE := Lib.hid (err0 HB.out HT.out (by simpa using HS.out) HSH.out (fun ⟨i, hi, e⟩ => HO.out i (by rw [HNE.out] at hi; exact hi) e))
                  clear HO
                  go_wp2
                  go_ret
                  exact ⟨ret_int HE.out.symm, (below_ext (by repeat (first | exact hold | exact Below.refl _ _ | (with_reducible refine Below.setCell ?_ (by first | omega | (simp; done) | (simp; omega)) _) | (with_reducible refine Below.alloc ?_ (by first | omega | (simp; done) | (simp; omega)) _) | (with_reducible refine Below.onDrewN ?_ _) | (with_reducible refine Below.drew ?_) | (with_reducible refine Below.ofExt ?_ (by first | omega | (simp; done) | (simp; omega))))))⟩
        · have HE := Lib.hid (err1 HB.out HT.out (by simpa using hs))
          have hsb : (bs != Z.getD gn 0) = true := by rw [bne_iff_ne]; exact hs
          clear hs
          generalize Z.getD gn 0 = zz at *
          go_wp2_with fail
          refine wp_region_ext (by kernel_rfl) (by kernel_rfl) ?_
          repeat (go_big_quiet_step ((fail)))
          refine wpQuiet_nil ?_
          rintro _ ⟨z, rfl⟩
          go_wp2
          go_ret
          exact ⟨ret_int HE.out.symm, (below_ext (by repeat (first | exact hold | exact Below.refl _ _ | (with_reducible refine Below.setCell ?_ (by first | omega | (simp; done) | (simp; omega)) _) | (with_reducible refine Below.alloc ?_ (by first | omega | (simp; done) | (simp; omega)) _) | (with_reducible refine Below.onDrewN ?_ _) | (with_reducible refine Below.drew ?_) | (with_reducible refine Below.ofExt ?_ (by first | omega | (simp; done) | (simp; omega))))))⟩
end Go.Proofs.Ytpfffpajnjeoeaa
