/-
  The contract of the reference Check.
-/
import Derived.Test.YtpfffpajnjeoeaaCheck
namespace Go.Proofs.Ytpfffpajnjeoeaa
open Go.RowKit

theorem ROne_at (y : Lay) (Z P : List Int) (a : Option Addr) (c : Nat) (B : List Bun) (w : World) (hZ : RowAt w y.sa (ints Z)) (hP : PliesAt w y.ya P) (hB : BunsAt w a B) (hz : Z.length ≤ 1000000) (hp : P.length ≤ 1000000) (he : B.length ≤ 1000000) (j : Nat) (hj : j < B.length) (hacc : Acc Z P B j) (W : World) (hb : Below w.heap.size w W) :
    Calls Try.prog 23 #[.agg #[.int .i64 y.n1, .int .i64 y.n2, .int .i64 y.n3, .int .i64 y.n4, .slice y.sa Z.length y.sc, .slice y.pa y.pn y.pc, .slice y.ya P.length y.yc], .slice a j c, .agg #[.int .i64 (bn B j).t, .int .i64 (bn B j).g, .int .i64 (bn B j).s, .int .i64 (bn B j).l, .int .i64 (bn B j).f, .int .i64 (bn B j).o]] W fun e w' => e = .returned (.int .i64 (errOne Z P (B.take j) (bn B j))) ∧ ∃ z, w' = ext W z := by
  have := ROne_any y Z P a c (B.take j) (bn B j) W (hZ.below hb) (hP.below hb) ((hB.take j).below hb) hz hp (by simp; omega) (fun i hi => by
    have hij : i < j := by simp at hi; omega
    rw [bn_take hij]
    have := (hacc i hij).1.1
    unfold Bad at this
    omega)
  rw [take_len (by omega)] at this
  exact this
set_option maxRecDepth 100000 in
set_option maxHeartbeats 8000000 in
theorem RCheck_any (y : Lay) (Z P : List Int) (a : Option Addr) (c : Nat) (B : List Bun) (w : World) (hZ : RowAt w y.sa (ints Z)) (hP : PliesAt w y.ya P) (hB : BunsAt w a B) (hz : Z.length ≤ 1000000) (hp : P.length ≤ 1000000) (he : B.length ≤ 1000000) (hbc : B.length ≤ c) (e : Int) (hC : ChkIs Z P B e) :
    Calls Try.prog 19 #[.agg #[.int .i64 y.n1, .int .i64 y.n2, .int .i64 y.n3, .int .i64 y.n4, .slice y.sa Z.length y.sc, .slice y.pa y.pn y.pc, .slice y.ya P.length y.yc], .slice a B.length c] w fun e' w' => e' = .returned (.int .i64 e) ∧ ∃ z, w' = ext w z := by
  have KO := Lib.hid (fun j hj hacc W hb => ROne_at y Z P a c B w hZ hP hB hz hp he j hj hacc W hb)
  have KF := Lib.hid (fun (g p : Int) W (hb : Below w.heap.size w W) k yy hF => RFind_any a c B g p W (hB.below hb) he k yy hF)
  obtain ⟨n1, n2, n3, n4, sa, sc, pa, pn, pc, ya, yc⟩ := y
  dsimp only at hZ hP KO ⊢
  obtain ⟨be, oe, hea, hec⟩ := hB
  have HEA := Lib.hid hea
  have HEC := Lib.hid hec
  have HCK := Lib.hid hC
  clear hZ hP hea hec hC
  generalize hnz : Z.length = nz at *
  generalize hnp : P.length = np at *
  generalize hne : B.length = ne at *
  have HNZ := Lib.hid hnz
  have HNP := Lib.hid hnp
  have HNE := Lib.hid hne
  clear hnz hnp hne
  go_enter Try.func19, Try.ntmps19
  go_wp2
  go_loopg [5] ne (fun gk i wr => ∃ (j : Nat), gk = ne - j ∧ j ≤ ne ∧ i = .int .i64 j ∧ Acc Z P B j ∧ wr.heap[w.heap.size]? = some (.cells #[.int .i64 n1, .int .i64 n2, .int .i64 n3, .int .i64 n4, .slice sa nz sc, .slice pa pn pc, .slice ya np yc] 30 (0, 0)) ∧ Below w.heap.size w wr)
  case atStart =>
    refine ⟨0, by omega, by omega, rfl, acc_zero Z P B, ?_, (by repeat (first | exact Below.refl _ _ | exact Below.refl _ _ | (with_reducible refine Below.setCell ?_ (by first | omega | (simp; done) | (simp; omega)) _) | (with_reducible refine Below.alloc ?_ (by first | omega | (simp; done) | (simp; omega)) _) | (with_reducible refine Below.onDrewN ?_ _) | (with_reducible refine Below.drew ?_) | (with_reducible refine Below.ofExt ?_ (by first | omega | (simp; done) | (simp; omega)))))⟩
    exact heap_alloc_at _ _ _ rfl
  case round =>
    obtain ⟨j, hgj, hj, rfl, hacc, hl, hbel⟩ := hrel
    have HG := Lib.hid hgj
    have HACC := Lib.hid hacc
    have HLY := Lib.hid hl
    clear hgj hacc hl
    obtain ⟨hls, l0, l1, l2, l3, l4, l5, l6⟩ := lay_full HLY.out
    by_cases hlt : j < ne
    · have KO2 := Lib.hid (KO.out j (by omega) HACC.out)
      obtain ⟨rfl, hel⟩ := HEA.out (by omega)
      obtain ⟨c0, c1, c2, c3, c4, c5⟩ := HEC.out j hlt
      rw [← hbel.cell (by exact hel)] at c0 c1 c2 c3 c4 c5
      have i1 : (0 : Int) ≤ (j : Int) ∧ (j : Int) < (ne : Int) := by omega
      have i2 : (j : Int) ≤ (c : Int) := by omega
      have hel2 : be < wr.heap.size := by omega
      by_cases h0 : errOne Z P (B.take j) (bn B j) = 0
      · have HA2 := Lib.hid (HACC.out.succ (by rw [HNE.out]; exact hlt) h0)
        rw [h0] at KO2
        clear h0
        generalize bn B j = u at *
        go_wp2_with fail
        refine wp_region_ext (by kernel_rfl) (by kernel_rfl) ?_
        repeat (go_big_quiet_step ((first | (go_at_call 23; exact Calls.ext_of (KO2.out _ (by repeat (first | exact hbel | exact Below.refl _ _ | (with_reducible refine Below.setCell ?_ (by first | omega | (simp; done) | (simp; omega)) _) | (with_reducible refine Below.alloc ?_ (by first | omega | (simp; done) | (simp; omega)) _) | (with_reducible refine Below.onDrewN ?_ _) | (with_reducible refine Below.drew ?_) | (with_reducible refine Below.ofExt ?_ (by first | omega | (simp; done) | (simp; omega))))))))))
        refine wpQuiet_nil ?_
        rintro _ ⟨z, rfl⟩
        go_wp2
        go_roundg (ne - (j + 1))
        case measure => rw [HG.out]; omega
        case rel =>
          refine ⟨j + 1, rfl, by omega, by go_num, HA2.out, ?_, (by repeat (first | exact hbel | exact Below.refl _ _ | (with_reducible refine Below.setCell ?_ (by first | omega | (simp; done) | (simp; omega)) _) | (with_reducible refine Below.alloc ?_ (by first | omega | (simp; done) | (simp; omega)) _) | (with_reducible refine Below.onDrewN ?_ _) | (with_reducible refine Below.drew ?_) | (with_reducible refine Below.ofExt ?_ (by first | omega | (simp; done) | (simp; omega)))))⟩
          repeat (first | exact HLY.out | rw [heap_setCell_ne _ _ _ _ _ (by first | omega | (simp; done) | (simp; omega))] | rw [ext_block _ _ _ (by first | omega | (simp; done) | (simp; omega))] | rw [heap_alloc_lt _ _ _ (by first | omega | (simp; done) | (simp; omega))] | rw [heap_drewN])
      · have HE := Lib.hid (chk_unique HCK.out (Or.inl ⟨j, by rw [HNE.out]; exact hlt, HACC.out, rfl, h0⟩))
        have h0b : (errOne Z P (B.take j) (bn B j) != 0) = true := by rw [bne_iff_ne]; exact h0
        clear h0
        generalize errOne Z P (B.take j) (bn B j) = er at *
        generalize bn B j = u at *
        go_wp2_with fail
        refine wp_region_ext (by kernel_rfl) (by kernel_rfl) ?_
        repeat (go_big_quiet_step ((first | (go_at_call 23; exact Calls.ext_of (KO2.out _ (by repeat (first | exact hbel | exact Below.refl _ _ | (with_reducible refine Below.setCell ?_ (by first | omega | (simp; done) | (simp; omega)) _) | (with_reducible refine Below.alloc ?_ (by first | omega | (simp; done) | (simp; omega)) _) | (with_reducible refine Below.onDrewN ?_ _) | (with_reducible refine Below.drew ?_) | (with_reducible refine Below.ofExt ?_ (by first | omega | (simp; done) | (simp; omega))))))))))
        refine wpQuiet_nil ?_
        rintro _ ⟨z, rfl⟩
        go_wp2
        go_ret
        exact ⟨ret_int HE.out.symm, (below_ext (by repeat (first | exact hbel | exact Below.refl _ _ | (with_reducible refine Below.setCell ?_ (by first | omega | (simp; done) | (simp; omega)) _) | (with_reducible refine Below.alloc ?_ (by first | omega | (simp; done) | (simp; omega)) _) | (with_reducible refine Below.onDrewN ?_ _) | (with_reducible refine Below.drew ?_) | (with_reducible refine Below.ofExt ?_ (by first | omega | (simp; done) | (simp; omega))))))⟩
    · obtain rfl : j = ne := by omega
      have HACC2 : Hid (Acc Z P B B.length) := Lib.hid (by rw [HNE.out]; exact HACC.out)
      clear HACC
      go_wp2
      go_loopg [7] nz (fun gk i wr => ∃ (k : Nat), gk = nz - k ∧ k ≤ nz ∧ i = .int .i64 k ∧ (∀ g p : Nat, g < k → p < np → Cov B j g p) ∧ wr.heap[w.heap.size]? = some (.cells #[.int .i64 n1, .int .i64 n2, .int .i64 n3, .int .i64 n4, .slice sa nz sc, .slice pa pn pc, .slice ya np yc] 30 (0, 0)) ∧ Below w.heap.size w wr)
      case atStart => exact ⟨0, by omega, by omega, rfl, fun g p hg => by omega, HLY.out, hbel⟩
      case round =>
        clear hbel hls l0 l1 l2 l3 l4 l5 l6 HLY
        obtain ⟨k, hgk, hk, rfl, hno, hl, hbel⟩ := hrel
        have HGK := Lib.hid hgk
        have HNO := Lib.hid hno
        have HLY := Lib.hid hl
        clear hgk hno hl
        obtain ⟨hls, l0, l1, l2, l3, l4, l5, l6⟩ := lay_full HLY.out
        by_cases hlt : k < nz
        · go_wp2
          go_loopg [8] np (fun gk i wr => ∃ (m : Nat), gk = np - m ∧ m ≤ np ∧ i = .int .i64 m ∧ (∀ p : Nat, p < m → Cov B j k p) ∧ wr.heap[w.heap.size]? = some (.cells #[.int .i64 n1, .int .i64 n2, .int .i64 n3, .int .i64 n4, .slice sa nz sc, .slice pa pn pc, .slice ya np yc] 30 (0, 0)) ∧ Below w.heap.size w wr)
          case atStart => exact ⟨0, by omega, by omega, rfl, fun p hg => by omega, HLY.out, hbel⟩
          case round =>
            clear hbel hls l0 l1 l2 l3 l4 l5 l6 HLY
            obtain ⟨m, hgm, hm, rfl, hcv, hl, hbel⟩ := hrel
            have HGM := Lib.hid hgm
            have HCV := Lib.hid hcv
            have HLY := Lib.hid hl
            clear hgm hcv hl
            obtain ⟨hls, l0, l1, l2, l3, l4, l5, l6⟩ := lay_full HLY.out
            by_cases hltm : m < np
            · obtain ⟨r, yy, hF⟩ := find_exists B k m
              have KF2 := Lib.hid (fun W hb => KF.out k m W hb r yy hF)
              rcases hF with ⟨i', hFA, rfl, rfl⟩ | ⟨hFN, rfl, rfl⟩
              · have HN2 : Hid (∀ p : Nat, p < m + 1 → Cov B j k p) := Lib.hid (fun p hp => by
                  by_cases e : p = m
                  · subst e; exact ⟨i', by rw [← HNE.out]; exact hFA.1, hFA.2.1⟩
                  · exact HCV.out p (by omega))
                clear hFA
                go_wp2_with fail
                refine (KF2.out _ hbel).mono ?_
                rintro e w' ⟨rfl, z2, rfl⟩
                go_wp2
                go_roundg (np - (m + 1))
                case measure => rw [HGM.out]; omega
                case rel =>
                  refine ⟨m + 1, rfl, by omega, by go_num, HN2.out, ?_, (by repeat (first | exact hbel | exact Below.refl _ _ | (with_reducible refine Below.setCell ?_ (by first | omega | (simp; done) | (simp; omega)) _) | (with_reducible refine Below.alloc ?_ (by first | omega | (simp; done) | (simp; omega)) _) | (with_reducible refine Below.onDrewN ?_ _) | (with_reducible refine Below.drew ?_) | (with_reducible refine Below.ofExt ?_ (by first | omega | (simp; done) | (simp; omega)))))⟩
                  repeat (first | exact HLY.out | rw [heap_setCell_ne _ _ _ _ _ (by first | omega | (simp; done) | (simp; omega))] | rw [ext_block _ _ _ (by first | omega | (simp; done) | (simp; omega))] | rw [heap_alloc_lt _ _ _ (by first | omega | (simp; done) | (simp; omega))] | rw [heap_drewN])
              · have HE := Lib.hid (chk_unique HCK.out (Or.inr (Or.inl ⟨HACC2.out, ⟨k, m, by rw [HNZ.out]; exact hlt, by rw [HNP.out]; exact hltm, fun ⟨i, hi, hh⟩ => hFN i hi hh⟩, rfl⟩)))
                clear hFN
                go_wp2_with fail
                refine (KF2.out _ hbel).mono ?_
                rintro e w' ⟨rfl, z2, rfl⟩
                go_wp2
                go_ret
                exact ⟨ret_int HE.out.symm, (below_ext (by repeat (first | exact hbel | exact Below.refl _ _ | (with_reducible refine Below.setCell ?_ (by first | omega | (simp; done) | (simp; omega)) _) | (with_reducible refine Below.alloc ?_ (by first | omega | (simp; done) | (simp; omega)) _) | (with_reducible refine Below.onDrewN ?_ _) | (with_reducible refine Below.drew ?_) | (with_reducible refine Below.ofExt ?_ (by first | omega | (simp; done) | (simp; omega))))))⟩
            · obtain rfl : m = np := by omega
              have HN2 : Hid (∀ g p : Nat, g < k + 1 → p < m → Cov B j g p) := Lib.hid (fun g p hg hp => by
                by_cases e : g = k
                · subst e; exact HCV.out p hp
                · exact HNO.out g p (by omega) hp)
              go_wp2
              go_roundg (nz - (k + 1))
              case measure => rw [HGK.out]; omega
              case rel => exact ⟨k + 1, rfl, by omega, by go_num, HN2.out, HLY.out, hbel⟩
        · obtain rfl : k = nz := by omega
          have HE := Lib.hid (chk_unique HCK.out (Or.inr (Or.inr ⟨HACC2.out, fun ⟨g, p, hg, hp, hc⟩ => hc (by rw [HNE.out]; exact HNO.out g p (by rw [HNZ.out] at hg; exact hg) (by rw [HNP.out] at hp; exact hp)), rfl⟩)))
          go_wp2
          go_ret
          exact ⟨ret_int HE.out.symm, (below_ext (by repeat (first | exact hbel | exact Below.refl _ _ | (with_reducible refine Below.setCell ?_ (by first | omega | (simp; done) | (simp; omega)) _) | (with_reducible refine Below.alloc ?_ (by first | omega | (simp; done) | (simp; omega)) _) | (with_reducible refine Below.onDrewN ?_ _) | (with_reducible refine Below.drew ?_) | (with_reducible refine Below.ofExt ?_ (by first | omega | (simp; done) | (simp; omega))))))⟩
end Go.Proofs.Ytpfffpajnjeoeaa
