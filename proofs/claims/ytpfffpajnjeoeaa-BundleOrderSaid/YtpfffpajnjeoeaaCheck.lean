/-
  The contract of Check.
-/
import Derived.Test.YtpfffpajnjeoeaaROne
namespace Go.Proofs.Ytpfffpajnjeoeaa
open Go.RowKit

theorem Try.info3 : (Try.prog.info? 3).map (fun i => (i.zero, i.size, i.bytes)) = some (some (.int .i64 0), 1, 8) := by kernel_rfl
/-- The sums of the first k bundles. -/
structure Sums (B : List Bun) (nz k : Nat) (H : List Int) : Prop where
  len : H.length = nz
  val : ∀ g : Nat, g < nz → H.getD g 0 = tot B g k
theorem sums_start (B : List Bun) (nz : Nat) : Sums B nz 0 (List.replicate nz 0) := ⟨by simp, fun g hg => by simp [List.getD, hg, tot]⟩
theorem Sums.step {B : List Bun} {nz k : Nat} {H : List Int} (h : Sums B nz k H) {gn : Nat} (hg : (bn B k).g = (gn : Int)) (hl : gn < nz) : Sums B nz (k + 1) (H.set gn (H.getD gn 0 + ((bn B k).o - (bn B k).f))) := by
  refine ⟨by simp [h.len], fun g hgl => ?_⟩
  by_cases e : gn = g
  · subst e
    rw [getD_set_eq _ _ _ _ (by rw [h.len]; exact hl), tot_yes hg, h.val gn hl]
  · rw [getD_set_ne2 _ _ _ _ _ e, tot_no (fun e2 => e (by rw [hg] at e2; omega)), h.val g hgl]
theorem lay_full {w : World} {s : Nat} {a b c d e f g : Value} {t : TypeId} (h : w.heap[s]? = some (.cells #[a, b, c, d, e, f, g] t (0, 0))) :
    s < w.heap.size ∧ w.cell? ⟨s, 0, none⟩ = some a ∧ w.cell? ⟨s, 1, none⟩ = some b ∧ w.cell? ⟨s, 2, none⟩ = some c ∧ w.cell? ⟨s, 3, none⟩ = some d ∧ w.cell? ⟨s, 4, none⟩ = some e ∧ w.cell? ⟨s, 5, none⟩ = some f ∧ w.cell? ⟨s, 6, none⟩ = some g := by
  refine ⟨?_, by simp [World.cell?, h], by simp [World.cell?, h], by simp [World.cell?, h], by simp [World.cell?, h], by simp [World.cell?, h], by simp [World.cell?, h], by simp [World.cell?, h]⟩
  rcases Nat.lt_or_ge s w.heap.size with h1 | h1
  · exact h1
  · rw [Array.getElem?_eq_none h1] at h; cases h
/-- The contract of one check, for a list's own bundles. -/
theorem One_at (y : Lay) (Z P : List Int) (a : Option Addr) (c : Nat) (B : List Bun) (w : World) (hZ : RowAt w y.sa (ints Z)) (hP : PliesAt w y.ya P) (hB : BunsAt w a B) (hz : Z.length ≤ 1000000) (hp : P.length ≤ 1000000) (he : B.length ≤ 1000000) (hyc : P.length ≤ y.yc) (j : Nat) (hj : j < B.length) (W : World) (hb : Below w.heap.size w W) :
    Calls Try.prog 22 #[.agg #[.int .i64 y.n1, .int .i64 y.n2, .int .i64 y.n3, .int .i64 y.n4, .slice y.sa Z.length y.sc, .slice y.pa y.pn y.pc, .slice y.ya P.length y.yc], .slice a j c, .agg #[.int .i64 (bn B j).t, .int .i64 (bn B j).g, .int .i64 (bn B j).s, .int .i64 (bn B j).l, .int .i64 (bn B j).f, .int .i64 (bn B j).o]] W fun e w' => e = .returned (.int .i64 (errOne Z P (B.take j) (bn B j))) ∧ ∃ z, w' = ext W z := by
  have := One_any y Z P a c (B.take j) (bn B j) W (hZ.below hb) (hP.below hb) ((hB.take j).below hb) hz hp (by simp; omega) hyc
  rw [take_len (by omega)] at this
  exact this
set_option maxRecDepth 100000 in
set_option maxHeartbeats 8000000 in
theorem Check_any (y : Lay) (Z P : List Int) (a : Option Addr) (c : Nat) (B : List Bun) (w : World) (hZ : RowAt w y.sa (ints Z)) (hP : PliesAt w y.ya P) (hB : BunsAt w a B) (hz : Z.length ≤ 1000000) (hp : P.length ≤ 1000000) (he : B.length ≤ 1000000) (hyc : P.length ≤ y.yc) (hbc : B.length ≤ c) (e : Int) (hC : ChkIs Z P B e) :
    Calls Try.prog 18 #[.agg #[.int .i64 y.n1, .int .i64 y.n2, .int .i64 y.n3, .int .i64 y.n4, .slice y.sa Z.length y.sc, .slice y.pa y.pn y.pc, .slice y.ya P.length y.yc], .slice a B.length c] w fun e' w' => e' = .returned (.int .i64 e) ∧ ∃ z, w' = ext w z := by
  have KO := Lib.hid (fun j hj W hb => One_at y Z P a c B w hZ hP hB hz hp he hyc j hj W hb)
  obtain ⟨n1, n2, n3, n4, sa, sc, pa, pn, pc, ya, yc⟩ := y
  dsimp only at hZ hP hyc KO ⊢
  obtain ⟨be, oe, hea, hec⟩ := hB
  have HEA := Lib.hid hea
  have HEC := Lib.hid hec
  have HCK := Lib.hid hC
  clear hZ hP hea hec hC
  generalize hnz : Z.length = nz at *
  generalize hnp : P.length = np at *
  generalize hne : B.length = ne at *
  have HNZ := Lib.hid hnz
  have HNP := Lib.hid hnp
  have HNE := Lib.hid hne
  clear hnz hnp hne
  have hmk := fun w => make1 (P := Try.prog) (t := 24) (e := 3) Try.underlying24 Try.info3 nz (by omega) (by omega) w
  go_enter Try.func18, Try.ntmps18
  go_wp2
  go_loopg [18] ne (fun gk i wr => ∃ (j : Nat) (H : List Int), gk = ne - j ∧ j ≤ ne ∧ i = .int .i64 j ∧ Acc Z P B j ∧ Sums B nz j H ∧ Blk wr (w.heap.size + 1) 3 (ints H) ∧ wr.heap[w.heap.size]? = some (.cells #[.int .i64 n1, .int .i64 n2, .int .i64 n3, .int .i64 n4, .slice sa nz sc, .slice pa pn pc, .slice ya np yc] 30 (0, 0)) ∧ Below w.heap.size w wr)
  case atStart =>
    refine ⟨0, _, by omega, by omega, rfl, acc_zero Z P B, sums_start B nz, blk_ints _ _ _ (by simp), ?_, (by repeat (first | exact Below.refl _ _ | exact Below.refl _ _ | (with_reducible refine Below.setCell ?_ (by first | omega | (simp; done) | (simp; omega)) _) | (with_reducible refine Below.alloc ?_ (by first | omega | (simp; done) | (simp; omega)) _) | (with_reducible refine Below.onDrewN ?_ _) | (with_reducible refine Below.drew ?_) | (with_reducible refine Below.ofExt ?_ (by first | omega | (simp; done) | (simp; omega)))))⟩
    rw [heap_alloc_lt _ _ _ (by simp)]
    exact heap_alloc_at _ _ _ rfl
  case round =>
    obtain ⟨j, H, hgj, hj, rfl, hacc, hsum, hK, hl, hbel⟩ := hrel
    have HG := Lib.hid hgj
    have HACC := Lib.hid hacc
    have HSUM := Lib.hid hsum
    have HLY := Lib.hid hl
    clear hgj hacc hsum hl
    obtain ⟨hls, l0, l1, l2, l3, l4, l5, l6⟩ := lay_full HLY.out
    have hks := hK.lt
    by_cases hlt : j < ne
    · obtain ⟨rfl, hel⟩ := HEA.out (by omega)
      obtain ⟨c0, c1, c2, c3, c4, c5⟩ := HEC.out j hlt
      rw [← hbel.cell (by exact hel)] at c0 c1 c2 c3 c4 c5
      have i1 : (0 : Int) ≤ (j : Int) ∧ (j : Int) < (ne : Int) := by omega
      have i2 : (j : Int) ≤ (c : Int) := by omega
      have hel2 : be < wr.heap.size := by omega
      have KO2 := Lib.hid (KO.out j (by omega))
      by_cases h0 : errOne Z P (B.take j) (bn B j) = 0
      · have hok := (ok_take (Z := Z) (P := P) (B := B) (k := j) (by rw [HNE.out]; omega)).1 (err0_iff.1 h0)
        have HA2 := Lib.hid (HACC.out.succ (by rw [HNE.out]; exact hlt) h0)
        have hbad := hok.1.1
        unfold Bad at hbad
        rw [HNZ.out, HNP.out] at hbad
        obtain ⟨gn, hgn⟩ := Int.eq_ofNat_of_zero_le (show 0 ≤ (bn B j).g by omega)
        have hgl : gn < nz := by omega
        have HS2 := Lib.hid (HSUM.out.step hgn hgl)
        have hbd1 : 0 ≤ H.getD gn 0 ∧ H.getD gn 0 ≤ np := by
          rw [HSUM.out.val gn hgl, ← HNP.out]
          exact HACC.out.tot_le
        have hbd2 : 0 < (bn B j).o - (bn B j).f ∧ (bn B j).o - (bn B j).f ≤ np := by omega
        have hbd3 : 0 ≤ (bn B j).f ∧ (bn B j).f ≤ np ∧ (bn B j).o ≤ np := by omega
        have ch := hK.int (k := gn) (by rw [HSUM.out.len]; exact hgl)
        have fh := hK.free gn
        have hx1 : (gn : Int) < (nz : Int) := by omega
        rw [h0] at KO2
        clear h0 hok hbad
        rw [hgn] at c1 KO2
        clear hgn
        generalize H.getD gn 0 = hh at *
        generalize bn B j = u at *
        go_wp2_with fail
        refine wp_region_ext (by kernel_rfl) (by kernel_rfl) ?_
        repeat (go_big_quiet_step ((first | (go_at_call 22; exact Calls.ext_of (KO2.out _ (by repeat (first | exact hbel | exact Below.refl _ _ | (with_reducible refine Below.setCell ?_ (by first | omega | (simp; done) | (simp; omega)) _) | (with_reducible refine Below.alloc ?_ (by first | omega | (simp; done) | (simp; omega)) _) | (with_reducible refine Below.onDrewN ?_ _) | (with_reducible refine Below.drew ?_) | (with_reducible refine Below.ofExt ?_ (by first | omega | (simp; done) | (simp; omega))))))))))
        refine wpQuiet_nil ?_
        rintro _ ⟨z, rfl⟩
        go_wp2_with fail
        refine wp_region_drew_tail 12 (by kernel_rfl) (by kernel_rfl) ?_
        simp only [List.take_succ_cons, List.take_zero, List.drop_succ_cons, List.drop_zero]
        repeat (go_big_quiet_step ((fail)))
        refine wpQuiet_nil ?_
        rintro _ ⟨d, rfl⟩
        go_wp2
        go_roundg (ne - (j + 1))
        case measure => rw [HG.out]; omega
        case rel =>
          refine ⟨j + 1, _, rfl, by omega, by go_num, HA2.out, HS2.out, (by repeat (first | exact hK.setInt _ _ | (with_reducible refine Blk.alloc ?_ _) | (with_reducible refine Blk.drewN ?_ _) | (with_reducible refine Blk.drew ?_) | (with_reducible refine Blk.ext ?_ _) | (with_reducible refine Blk.other ?_ (by first | omega | (simp; done) | (simp; omega)) _ _))), ?_, (by repeat (first | exact hbel | exact Below.refl _ _ | (with_reducible refine Below.setCell ?_ (by first | omega | (simp; done) | (simp; omega)) _) | (with_reducible refine Below.alloc ?_ (by first | omega | (simp; done) | (simp; omega)) _) | (with_reducible refine Below.onDrewN ?_ _) | (with_reducible refine Below.drew ?_) | (with_reducible refine Below.ofExt ?_ (by first | omega | (simp; done) | (simp; omega)))))⟩
          repeat (first | exact HLY.out | rw [heap_setCell_ne _ _ _ _ _ (by first | omega | (simp; done) | (simp; omega))] | rw [ext_block _ _ _ (by first | omega | (simp; done) | (simp; omega))] | rw [heap_alloc_lt _ _ _ (by first | omega | (simp; done) | (simp; omega))] | rw [heap_drewN])
      · have HE := Lib.hid (chk_unique HCK.out (Or.inl ⟨j, by rw [HNE.out]; exact hlt, HACC.out, rfl, h0⟩))
        have h0b : (errOne Z P (B.take j) (bn B j) != 0) = true := by rw [bne_iff_ne]; exact h0
        clear h0
        generalize errOne Z P (B.take j) (bn B j) = er at *
        generalize bn B j = u at *
        go_wp2_with fail
        refine wp_region_ext (by kernel_rfl) (by kernel_rfl) ?_
        repeat (go_big_quiet_step ((first | (go_at_call 22; exact Calls.ext_of (KO2.out _ (by repeat (first | exact hbel | exact Below.refl _ _ | (with_reducible refine Below.setCell ?_ (by first | omega | (simp; done) | (simp; omega)) _) | (with_reducible refine Below.alloc ?_ (by first | omega | (simp; done) | (simp; omega)) _) | (with_reducible refine Below.onDrewN ?_ _) | (with_reducible refine Below.drew ?_) | (with_reducible refine Below.ofExt ?_ (by first | omega | (simp; done) | (simp; omega))))))))))
        refine wpQuiet_nil ?_
        rintro _ ⟨z, rfl⟩
        go_wp2
        go_ret
        exact ⟨ret_int HE.out.symm, (below_ext (by repeat (first | exact hbel | exact Below.refl _ _ | (with_reducible refine Below.setCell ?_ (by first | omega | (simp; done) | (simp; omega)) _) | (with_reducible refine Below.alloc ?_ (by first | omega | (simp; done) | (simp; omega)) _) | (with_reducible refine Below.onDrewN ?_ _) | (with_reducible refine Below.drew ?_) | (with_reducible refine Below.ofExt ?_ (by first | omega | (simp; done) | (simp; omega))))))⟩
    · obtain rfl : j = ne := by omega
      have HGP : Hid (Gap Z P B ↔ ∃ g : Nat, g < nz ∧ H.getD g 0 < np) := Lib.hid (by
        have ha := HACC.out
        rw [← HNE.out] at ha
        rw [ha.gap, HNZ.out, HNP.out]
        constructor
        · rintro ⟨g, hg, hh⟩; exact ⟨g, hg, by rw [HSUM.out.val g hg, ← HNE.out]; exact hh⟩
        · rintro ⟨g, hg, hh⟩; exact ⟨g, hg, by rw [HSUM.out.val g hg, ← HNE.out] at hh; exact hh⟩)
      have hHl := HSUM.out.len
      have HHL := Lib.hid hHl
      have HACC2 : Hid (Acc Z P B B.length) := Lib.hid (by rw [HNE.out]; exact HACC.out)
      clear hHl HSUM HACC
      go_wp2
      go_loopg [47] nz (fun gk i wr => ∃ (k : Nat), gk = nz - k ∧ k ≤ nz ∧ i = .int .i64 k ∧ (∀ g : Nat, g < k → ¬ H.getD g 0 < np) ∧ Blk wr (w.heap.size + 1) 3 (ints H) ∧ wr.heap[w.heap.size]? = some (.cells #[.int .i64 n1, .int .i64 n2, .int .i64 n3, .int .i64 n4, .slice sa nz sc, .slice pa pn pc, .slice ya np yc] 30 (0, 0)) ∧ Below w.heap.size w wr)
      case atStart => exact ⟨0, by omega, by omega, rfl, fun g hg => by omega, hK, HLY.out, hbel⟩
      case round =>
        clear hK hbel hls l0 l1 l2 l3 l4 l5 l6 hks HLY
        obtain ⟨k, hgk, hk, rfl, hno, hK, hl, hbel⟩ := hrel
        have HGK := Lib.hid hgk
        have HNO := Lib.hid hno
        have HLY := Lib.hid hl
        clear hgk hno hl
        obtain ⟨hls, l0, l1, l2, l3, l4, l5, l6⟩ := lay_full HLY.out
        have hks := hK.lt
        by_cases hlt : k < nz
        · have ch := hK.int (k := k) (by rw [HHL.out]; exact hlt)
          have i1 : (0 : Int) ≤ (k : Int) ∧ (k : Int) < (nz : Int) := by omega
          by_cases hh : H.getD k 0 < np
          · have HE := Lib.hid (chk_unique HCK.out (Or.inr (Or.inl ⟨HACC2.out, HGP.out.2 ⟨k, hlt, hh⟩, rfl⟩)))
            generalize H.getD k 0 = x at *
            go_wp2
            go_ret
            exact ⟨ret_int HE.out.symm, (below_ext (by repeat (first | exact hbel | exact Below.refl _ _ | (with_reducible refine Below.setCell ?_ (by first | omega | (simp; done) | (simp; omega)) _) | (with_reducible refine Below.alloc ?_ (by first | omega | (simp; done) | (simp; omega)) _) | (with_reducible refine Below.onDrewN ?_ _) | (with_reducible refine Below.drew ?_) | (with_reducible refine Below.ofExt ?_ (by first | omega | (simp; done) | (simp; omega))))))⟩
          · have HN2 : Hid (∀ g : Nat, g < k + 1 → ¬ H.getD g 0 < np) := Lib.hid (fun g hg => by
              by_cases e : g = k
              · rw [e]; exact hh
              · exact HNO.out g (by omega))
            generalize H.getD k 0 = x at *
            go_wp2
            go_roundg (nz - (k + 1))
            case measure => rw [HGK.out]; omega
            case rel => exact ⟨k + 1, rfl, by omega, by go_num, HN2.out, hK, HLY.out, hbel⟩
        · obtain rfl : k = nz := by omega
          have HE := Lib.hid (chk_unique HCK.out (Or.inr (Or.inr ⟨HACC2.out, fun hg => by
            obtain ⟨g, hg, hh⟩ := HGP.out.1 hg
            exact HNO.out g hg hh, rfl⟩)))
          go_wp2
          go_ret
          exact ⟨ret_int HE.out.symm, (below_ext (by repeat (first | exact hbel | exact Below.refl _ _ | (with_reducible refine Below.setCell ?_ (by first | omega | (simp; done) | (simp; omega)) _) | (with_reducible refine Below.alloc ?_ (by first | omega | (simp; done) | (simp; omega)) _) | (with_reducible refine Below.onDrewN ?_ _) | (with_reducible refine Below.drew ?_) | (with_reducible refine Below.ofExt ?_ (by first | omega | (simp; done) | (simp; omega))))))⟩
end Go.Proofs.Ytpfffpajnjeoeaa
