/-
  The contract of Make.
-/
import Derived.Test.YtpfffpajnjeoeaaMk
import Derived.Test.YtpfffpajnjeoeaaFind
namespace Go.Proofs.Ytpfffpajnjeoeaa
open Go.RowKit

theorem lay_some {w : World} {s : Nat} {a b c d e f g : Value} {t : TypeId} (h : w.heap[s]? = some (.cells #[a, b, c, d, e, f, g] t (0, 0))) :
    s < w.heap.size ∧ w.cell? ⟨s, 4, none⟩ = some e ∧ w.cell? ⟨s, 6, none⟩ = some g := by
  refine ⟨?_, by simp [World.cell?, h], by simp [World.cell?, h]⟩
  rcases Nat.lt_or_ge s w.heap.size with h1 | h1
  · exact h1
  · rw [Array.getElem?_eq_none h1] at h; cases h
/-- The cells of a bundle. -/
def bunc (b : Bun) : List Value := [.int .i64 b.t, .int .i64 b.g, .int .i64 b.s, .int .i64 b.l, .int .i64 b.f, .int .i64 b.o]
def flat (B : List Bun) : List Value := B.flatMap bunc
theorem flat_len (B : List Bun) : (flat B).length = B.length * 6 := by
  induction B with
  | nil => rfl
  | cons b B ih => simp [flat, bunc] at ih ⊢; omega
theorem flat_snoc (B : List Bun) (b : Bun) : flat (B ++ [b]) = flat B ++ bunc b := by simp [flat]
theorem flat_get : ∀ (B : List Bun) (i j : Nat), i < B.length → j < 6 → (flat B)[i * 6 + j]? = (bunc (bn B i))[j]?
  | [], i, j, hi, _ => by simp at hi
  | b :: B, 0, j, _, hj => by
    show (bunc b ++ flat B)[0 * 6 + j]? = _
    rw [List.getElem?_append_left (by simp [bunc]; omega)]
    simp [bn]
  | b :: B, i + 1, j, hi, hj => by
    show (bunc b ++ flat B)[(i + 1) * 6 + j]? = _
    rw [List.getElem?_append_right (by simp [bunc]; omega)]
    have e : (i + 1) * 6 + j - (bunc b).length = i * 6 + j := by simp [bunc]; omega
    rw [e, flat_get B i j (by simpa using hi) hj]
    simp [bn]
theorem owns6 {w : World} {base n : Nat} {v : Value} {B : List Bun} (h : w.ownsRow base 45 6 v n (flat B)) :
    ∃ a cap, v = .slice a n cap ∧ n = B.length ∧ n ≤ cap ∧ BunsAt w a B := by
  obtain ⟨hl, h | ⟨g, cap, cur, rfl, hg, hh, hn, hm, hs, ht⟩⟩ := h
  · obtain ⟨rfl, rfl⟩ := h
    have hb : B.length = 0 := by rw [flat_len] at hl; omega
    exact ⟨none, 0, rfl, hb.symm, Nat.le_refl _, 0, 0, fun h => by omega, fun i h => by omega⟩
  · have hb : n = B.length := by rw [flat_len] at hl; omega
    refine ⟨_, cap, rfl, hb, hn, g, 0, fun _ => ⟨rfl, ?_⟩, fun i hi => ?_⟩
    · rcases Nat.lt_or_ge g w.heap.size with h1 | h1
      · exact h1
      · rw [Array.getElem?_eq_none h1] at hh; cases hh
    · have hc : ∀ j, j < 6 → w.cell? ⟨g, 0 + i * 6 + j, none⟩ = (bunc (bn B i))[j]? := fun j hj => by
        rw [← flat_get B i j hi hj]
        have hlt : i * 6 + j < n * 6 := by omega
        simp only [World.cell?, hh, Nat.zero_add]
        rw [← ht, List.getElem?_take, if_pos hlt]
        simp
      exact ⟨hc 0 (by omega), hc 1 (by omega), hc 2 (by omega), hc 3 (by omega), hc 4 (by omega), hc 5 (by omega)⟩
theorem six_at (w : World) (a b c d e f : Value) (t : TypeId) (n : Nat) (h : n = w.heap.size) : ∀ (j : Nat) (u : Value), [a, b, c, d, e, f][j]? = some u → (w.alloc (.cells #[a, b, c, d, e, f] t)).cell? ((⟨n, 0, none⟩ : Addr).add j) = some u := by
  subst h
  intro j u hj
  match j, hj with
  | 0, hj => simpa [Addr.add, World.cell?_alloc_new] using hj
  | 1, hj => simpa [Addr.add, World.cell?_alloc_new] using hj
  | 2, hj => simpa [Addr.add, World.cell?_alloc_new] using hj
  | 3, hj => simpa [Addr.add, World.cell?_alloc_new] using hj
  | 4, hj => simpa [Addr.add, World.cell?_alloc_new] using hj
  | 5, hj => simpa [Addr.add, World.cell?_alloc_new] using hj
  | j + 6, hj => simp at hj
theorem Try.info45 : (Try.prog.info? 45).map (fun i => (i.zero, i.size, i.bytes)) = some (some (.agg #[.int .i64 0, .int .i64 0, .int .i64 0, .int .i64 0, .int .i64 0, .int .i64 0]), 6, 48) := by kernel_rfl
/-- What Make leaves. -/
def MadePost (A : List Bun) (w : World) (e : Ending) (w' : World) : Prop :=
  ∃ a cap, e = .returned (.tuple #[.slice a A.length cap, .int .i64 0]) ∧ A.length ≤ cap ∧ BunsAt w' a A ∧ ∃ z, w' = ext w z
/-- What Make answers, if the limit is not too small. -/
def MakePost (Z P : List Int) (most : Int) (w : World) (e : Ending) (w' : World) : Prop :=
  ((tri (Full P most) Z.length).length ≤ 60 ∧ MadePost (mkB Z P (tri (Full P most) Z.length)) w e w') ∨ (60 < (tri (Full P most) Z.length).length ∧ e = .returned (.tuple #[.slice none 0 0, .int .i64 5]) ∧ ∃ z, w' = ext w z)
set_option maxHeartbeats 400000 in
theorem Make_range (y : Lay) (nz np : Nat) (most : Int) (w : World) (hm : most < 1) :
    Calls Try.prog 13 #[.agg #[.int .i64 y.n1, .int .i64 y.n2, .int .i64 y.n3, .int .i64 y.n4, .slice y.sa nz y.sc, .slice y.pa y.pn y.pc, .slice y.ya np y.yc], .int .i64 most] w fun e w' => e = .returned (.tuple #[.slice none 0 0, .int .i64 3]) ∧ ∃ z, w' = ext w z := by
  go_enter Try.func13, Try.ntmps13
  go_wp2
  go_ret2
  exact ⟨rfl, (below_ext (by repeat (first | exact Below.refl _ _ | exact Below.refl _ _ | (with_reducible refine Below.setCell ?_ (by first | omega | (simp; done) | (simp; omega)) _) | (with_reducible refine Below.alloc ?_ (by first | omega | (simp; done) | (simp; omega)) _) | (with_reducible refine Below.onDrewN ?_ _) | (with_reducible refine Below.drew ?_) | (with_reducible refine Below.ofExt ?_ (by first | omega | (simp; done) | (simp; omega))))))⟩
set_option maxRecDepth 100000 in
set_option maxHeartbeats 8000000 in
theorem Make_any (y : Lay) (Z P : List Int) (most : Int) (w : World) (hZ : RowAt w y.sa (ints Z)) (hP : PliesAt w y.ya P) (hz : Z.length ≤ 1000000) (hp : P.length ≤ 1000000) (hm : 1 ≤ most) (hmm : most ≤ 9223372036854775807) :
    Calls Try.prog 13 #[.agg #[.int .i64 y.n1, .int .i64 y.n2, .int .i64 y.n3, .int .i64 y.n4, .slice y.sa Z.length y.sc, .slice y.pa y.pn y.pc, .slice y.ya P.length y.yc], .int .i64 most] w (MakePost Z P most w) := by
  obtain ⟨n1, n2, n3, n4, sa, sc, pa, pn, pc, ya, yc⟩ := y
  dsimp only at hZ hP ⊢
  obtain ⟨bz, oz, hza, hzc⟩ := row_spread hZ
  obtain ⟨bp, op, hpa, hpc⟩ := hP
  have HZA := Lib.hid hza
  have HZC := Lib.hid hzc
  have HPA := Lib.hid hpa
  have HPC := Lib.hid hpc
  clear hZ hza hzc hpa hpc
  generalize hnz : Z.length = nz at *
  generalize hnp : P.length = np at *
  have HNZ := Lib.hid hnz
  have HNP := Lib.hid hnp
  clear hnz hnp
  have hmf : ¬ most < 1 := by omega
  obtain ⟨i0, hi, hz0, hz1, hz2⟩ := info_parts Try.info45
  by_cases h0 : np = 0
  · have HE : Hid (tri (Full P most) Z.length = []) := Lib.hid (List.eq_nil_of_length_eq_zero (by
      rw [tri_len]
      have : Full P most = [] := by unfold Full; exact segs_nil (by rw [HNP.out]; omega)
      rw [this]; simp))
    subst h0
    go_enter Try.func13, Try.ntmps13
    go_wp2
    go_ret2
    refine Or.inl ⟨by rw [HE.out]; simp, ?_⟩
    rw [HE.out]
    exact ⟨none, 0, rfl, Nat.le_refl _, bunsAt_nil _ _, (below_ext (by repeat (first | exact Below.refl _ _ | exact Below.refl _ _ | (with_reducible refine Below.setCell ?_ (by first | omega | (simp; done) | (simp; omega)) _) | (with_reducible refine Below.alloc ?_ (by first | omega | (simp; done) | (simp; omega)) _) | (with_reducible refine Below.onDrewN ?_ _) | (with_reducible refine Below.drew ?_) | (with_reducible refine Below.ofExt ?_ (by first | omega | (simp; done) | (simp; omega))))))⟩
  · obtain ⟨rfl, hpl⟩ := HPA.out (by omega)
    have h0b : ((np : Int) == 0) = false := by rw [beq_eq_false_iff_ne]; omega
    have h0c : (np == 0) = false := by rw [beq_eq_false_iff_ne]; omega
    go_enter Try.func13, Try.ntmps13
    go_wp2
    go_loopg [22, 6] nz (fun gk i v wr => ∃ (g m cap : Nat) (av : Option Addr) (T : List (Nat × Nat × Nat)), gk = nz - g ∧ g ≤ nz ∧ i = .int .i64 g ∧ v = .slice av m cap ∧ m = T.length ∧ m ≤ 60 ∧ T = tri (Full P most) g ∧ wr.ownsRow (w.heap.size + 1) 45 6 v m (flat (mkB Z P T)) ∧ wr.heap[w.heap.size]? = some (.cells #[.int .i64 n1, .int .i64 n2, .int .i64 n3, .int .i64 n4, .slice sa nz sc, .slice pa pn pc, .slice (some ⟨bp, op, none⟩) np yc] 30 (0, 0)) ∧ Below w.heap.size w wr)
    case atStart =>
      refine ⟨0, 0, 0, none, [], by omega, by omega, rfl, rfl, rfl, by omega, rfl, World.ownsRow_nil _ _ _ _, heap_alloc_at _ _ _ rfl, (by repeat (first | exact Below.refl _ _ | exact Below.refl _ _ | (with_reducible refine Below.setCell ?_ (by first | omega | (simp; done) | (simp; omega)) _) | (with_reducible refine Below.alloc ?_ (by first | omega | (simp; done) | (simp; omega)) _) | (with_reducible refine Below.onDrewN ?_ _) | (with_reducible refine Below.drew ?_) | (with_reducible refine Below.ofExt ?_ (by first | omega | (simp; done) | (simp; omega)))))⟩
    case round =>
      obtain ⟨g, m, cap, av, T, hgk, hg, rfl, rfl, hmt, hm6, hT, hown, hl, hbel⟩ := hrel
      have HG := Lib.hid hgk
      have HMT := Lib.hid hmt
      have HT := Lib.hid hT
      have HO := Lib.hid hown
      have HLY := Lib.hid hl
      clear hgk hmt hT hown hl
      obtain ⟨hls, l4, l6⟩ := lay_some HLY.out
      by_cases hlt : g < nz
      · obtain ⟨rfl, hzl⟩ := HZA.out (by omega)
        have cz := HZC.out g hlt
        rw [← hbel.cell (by exact hzl)] at cz
        have i1 : (0 : Int) ≤ (g : Int) ∧ (g : Int) < (nz : Int) := by omega
        have HMK : Hid (Making P most g 0 np T) := Lib.hid (by rw [HT.out, ← HNP.out]; exact making_start P most g)
        generalize hzz : Z.getD g 0 = zz at *
        have HZZ := Lib.hid hzz
        clear hzz HT
        go_wp2
        go_loopg [9, 6] np (fun gk i v wr => ∃ (f k m cap : Nat) (av : Option Addr) (T : List (Nat × Nat × Nat)), gk = np - f ∧ f ≤ np ∧ i = .int .i64 f ∧ v = .slice av m cap ∧ m = T.length ∧ m ≤ 60 ∧ Making P most g f k T ∧ wr.ownsRow (w.heap.size + 1) 45 6 v m (flat (mkB Z P T)) ∧ wr.heap[w.heap.size]? = some (.cells #[.int .i64 n1, .int .i64 n2, .int .i64 n3, .int .i64 n4, .slice (some ⟨bz, oz, none⟩) nz sc, .slice pa pn pc, .slice (some ⟨bp, op, none⟩) np yc] 30 (0, 0)) ∧ Below w.heap.size w wr)
        case atStart => exact ⟨0, np, m, cap, av, T, by omega, by omega, rfl, rfl, HMT.out, hm6, HMK.out, HO.out, HLY.out, hbel⟩
        case round =>
          clear hbel hls l4 l6 cz HMT HMK HO HLY hm6
          obtain ⟨f, k, m, cap, av, T, hgf, hf, rfl, rfl, hmt, hm6, hmk, hown, hl, hbel⟩ := hrel
          have HGF := Lib.hid hgf
          have HMT := Lib.hid hmt
          have HMK := Lib.hid hmk
          have HO := Lib.hid hown
          have HLY := Lib.hid hl
          clear hgf hmt hmk hown hl
          obtain ⟨hls, l4, l6⟩ := lay_some HLY.out
          by_cases hltf : f < np
          · obtain ⟨cp, px, pn2, pc2, cq⟩ := HPC.out f hltf
            rw [← hbel.cell (by exact hpl)] at cp cq
            have i2 : (0 : Int) ≤ (f : Int) ∧ (f : Int) < (np : Int) := by omega
            by_cases h60 : m = 60
            · have h60b : ((m : Int) == 60) = true := by rw [beq_iff_eq]; omega
              have HL : Hid (60 < (tri (Full P most) Z.length).length) := Lib.hid (by
                have := HMK.out.more (by rw [HNP.out]; exact hltf) (show g < Z.length by rw [HNZ.out]; exact hlt)
                rw [← HMT.out] at this
                omega)
              clear h60
              go_wp2
              go_ret2
              exact Or.inr ⟨HL.out, rfl, (below_ext (by repeat (first | exact hbel | exact Below.refl _ _ | (with_reducible refine Below.setCell ?_ (by first | omega | (simp; done) | (simp; omega)) _) | (with_reducible refine Below.alloc ?_ (by first | omega | (simp; done) | (simp; omega)) _) | (with_reducible refine Below.onDrewN ?_ _) | (with_reducible refine Below.drew ?_) | (with_reducible refine Below.ofExt ?_ (by first | omega | (simp; done) | (simp; omega))))))⟩
            · have h60b : ((m : Int) == 60) = false := by rw [beq_eq_false_iff_ne]; omega
              have h60c : (m == 60) = false := by rw [beq_eq_false_iff_ne]; omega
              have HST := Lib.hid (HMK.out.step hm (by rw [HNP.out]; exact hltf))
              have HED := Lib.hid (endOf_end (P := P) (most := most) (f := f) (by rw [HNP.out]; exact hltf) hm)
              generalize hpf : P.getD f 0 = pf at *
              have HPF := Lib.hid hpf
              have hm59 : m ≤ 59 := by omega
              clear hpf h60
              go_wp2
              go_loopg [11] (np - f) (fun gk i wr2 => ∃ (t kk : Nat), gk = np - t + 1 ∧ f < t ∧ t ≤ np ∧ np ≤ kk + t ∧ (t : Int) - f ≤ most ∧ i = .int .i64 t ∧ scan P most f kk t = endOf P most f ∧ wr2 = wr)
              case atStart => exact ⟨f + 1, np, by omega, by omega, by omega, by omega, by omega, by go_num, by unfold endOf; rw [HNP.out], rfl⟩
              case round =>
                obtain ⟨t, kk, hgt, hft, htn, hkt, htm, rfl, hsc, rfl⟩ := hrel
                have HGT := Lib.hid hgt
                have HSC := Lib.hid hsc
                clear hgt hsc
                by_cases hgo : Goes P most f t
                · have HS2 := Lib.hid ((scan_go hgo (by rw [HNP.out]; omega)).symm.trans HSC.out)
                  have htl : t < np := by have := hgo.1; rw [HNP.out] at this; exact this
                  have htm2 : (t : Int) - f < most := hgo.2.1
                  obtain ⟨ct, tx, tn2, tc2, cu⟩ := HPC.out t htl
                  rw [← hbel.cell (by exact hpl)] at ct cu
                  rw [hgo.2.2, HPF.out] at ct
                  clear hgo
                  go_wp2
                  go_roundg (np - (t + 1) + 1)
                  case measure => rw [HGT.out]; omega
                  case rel => exact ⟨t + 1, kk - 1, rfl, by omega, by omega, by omega, by omega, by go_num, HS2.out, rfl⟩
                · have HTE : Hid (t = endOf P most f) := Lib.hid ((scan_stop hgo kk).symm.trans HSC.out)
                  by_cases htl : t < np
                  · obtain ⟨ct, tx, tn2, tc2, cu⟩ := HPC.out t htl
                    rw [← hbel.cell (by exact hpl)] at ct cu
                    by_cases htm2 : (t : Int) - f < most
                    · have hpe : (P.getD t 0 == pf) = false := by
                        rw [beq_eq_false_iff_ne]
                        exact fun e => hgo ⟨by rw [HNP.out]; exact htl, htm2, by rw [HPF.out]; exact e⟩
                      clear hgo
                      generalize P.getD t 0 = pt at *
                      go_wp2_with (first | (at_builtin; refine wpList_append_own _ rfl _ _ 33 rfl (w.heap.size + 1) 45 i0 (.agg #[.int .i64 0, .int .i64 0, .int .i64 0, .int .i64 0, .int .i64 0, .int .i64 0]) 6 48 Try.underlying33 hi hz0 hz1 hz2 rfl (by decide) _ m (flat (mkB Z P T)) rfl ?_ _ 1 1 [.int .i64 ((m : Int) + 1), .int .i64 (g : Int), .int .i64 zz, .int .i64 pf, .int .i64 (f : Int), .int .i64 (t : Int)] rfl rfl ?_ ?_ ?_ ?_ ?_ ?_))
                      all_goals try first | exact HO.out.alloc _ | exact six_at _ _ _ _ _ _ _ _ _ (by simp) | (simp [Value.oneCell']; done) | (simp only [Value.oneCell']; decide) | (unfold maxLen; omega) | omega | (simp; omega)
                      intro v' w1 hown1 hgrow _
                      have hrow : ∀ q', (Value.slice av m cap).ownBlock = some q' → w.heap.size + 1 ≤ q' := fun q' hq => (HO.out.lt q' hq).1
                      have HB1 := Lib.hid (Below.grown (by repeat (first | exact hbel | exact Below.refl _ _ | (with_reducible refine Below.setCell ?_ (by first | omega | (simp; done) | (simp; omega)) _) | (with_reducible refine Below.alloc ?_ (by first | omega | (simp; done) | (simp; omega)) _) | (with_reducible refine Below.onDrewN ?_ _) | (with_reducible refine Below.drew ?_) | (with_reducible refine Below.ofExt ?_ (by first | omega | (simp; done) | (simp; omega))))) hgrow (by first | omega | (simp; done) | (simp; omega)) (fun q' hq => by have := hrow q' hq; omega) : Below w.heap.size w w1)
                      have HL1 := Lib.hid ((hgrow.block w.heap.size (by first | omega | (simp; done) | (simp; omega)) (fun e => by have := hrow _ e.symm; omega)).trans ((heap_alloc_lt _ _ _ (by first | omega | (simp; done) | (simp; omega))).trans HLY.out))
                      have HO1 : Hid (w1.ownsRow (w.heap.size + 1) 45 6 v' (m + 1) (flat (mkB Z P (T ++ [(g, f, endOf P most f)])))) := Lib.hid (by
                        rw [mkB_snoc, flat_snoc]
                        have e : bunc (mkOne Z P T.length (g, f, endOf P most f)) = [.int .i64 ((m : Int) + 1), .int .i64 (g : Int), .int .i64 zz, .int .i64 pf, .int .i64 (f : Int), .int .i64 (t : Int)] := by
                          simp only [bunc, mkOne, ← HMT.out, HZZ.out, HPF.out, ← HTE.out]
                        rw [e]
                        exact hown1)
                      have HV := Lib.hid (owns6 HO1.out)
                      clear hown1 hgrow hrow cp cq l4 l6
                      go_wp2
                      go_roundg (np - t)
                      case measure => rw [HGF.out]; omega
                      case rel =>
                        obtain ⟨a2, cap2, e2, e3, e4, _⟩ := HV.out
                        exact ⟨t, k - 1, m + 1, cap2, a2, _, rfl, htn, rfl, e2, by rw [List.length_append, ← HMT.out]; rfl, by omega, by have := HST.out; rw [← HTE.out] at this ⊢; exact this, HO1.out, HL1.out, HB1.out⟩
                    · clear hgo
                      go_wp2_with (first | (at_builtin; refine wpList_append_own _ rfl _ _ 33 rfl (w.heap.size + 1) 45 i0 (.agg #[.int .i64 0, .int .i64 0, .int .i64 0, .int .i64 0, .int .i64 0, .int .i64 0]) 6 48 Try.underlying33 hi hz0 hz1 hz2 rfl (by decide) _ m (flat (mkB Z P T)) rfl ?_ _ 1 1 [.int .i64 ((m : Int) + 1), .int .i64 (g : Int), .int .i64 zz, .int .i64 pf, .int .i64 (f : Int), .int .i64 (t : Int)] rfl rfl ?_ ?_ ?_ ?_ ?_ ?_))
                      all_goals try first | exact HO.out.alloc _ | exact six_at _ _ _ _ _ _ _ _ _ (by simp) | (simp [Value.oneCell']; done) | (simp only [Value.oneCell']; decide) | (unfold maxLen; omega) | omega | (simp; omega)
                      intro v' w1 hown1 hgrow _
                      have hrow : ∀ q', (Value.slice av m cap).ownBlock = some q' → w.heap.size + 1 ≤ q' := fun q' hq => (HO.out.lt q' hq).1
                      have HB1 := Lib.hid (Below.grown (by repeat (first | exact hbel | exact Below.refl _ _ | (with_reducible refine Below.setCell ?_ (by first | omega | (simp; done) | (simp; omega)) _) | (with_reducible refine Below.alloc ?_ (by first | omega | (simp; done) | (simp; omega)) _) | (with_reducible refine Below.onDrewN ?_ _) | (with_reducible refine Below.drew ?_) | (with_reducible refine Below.ofExt ?_ (by first | omega | (simp; done) | (simp; omega))))) hgrow (by first | omega | (simp; done) | (simp; omega)) (fun q' hq => by have := hrow q' hq; omega) : Below w.heap.size w w1)
                      have HL1 := Lib.hid ((hgrow.block w.heap.size (by first | omega | (simp; done) | (simp; omega)) (fun e => by have := hrow _ e.symm; omega)).trans ((heap_alloc_lt _ _ _ (by first | omega | (simp; done) | (simp; omega))).trans HLY.out))
                      have HO1 : Hid (w1.ownsRow (w.heap.size + 1) 45 6 v' (m + 1) (flat (mkB Z P (T ++ [(g, f, endOf P most f)])))) := Lib.hid (by
                        rw [mkB_snoc, flat_snoc]
                        have e : bunc (mkOne Z P T.length (g, f, endOf P most f)) = [.int .i64 ((m : Int) + 1), .int .i64 (g : Int), .int .i64 zz, .int .i64 pf, .int .i64 (f : Int), .int .i64 (t : Int)] := by
                          simp only [bunc, mkOne, ← HMT.out, HZZ.out, HPF.out, ← HTE.out]
                        rw [e]
                        exact hown1)
                      have HV := Lib.hid (owns6 HO1.out)
                      clear hown1 hgrow hrow cp cq l4 l6
                      go_wp2
                      go_roundg (np - t)
                      case measure => rw [HGF.out]; omega
                      case rel =>
                        obtain ⟨a2, cap2, e2, e3, e4, _⟩ := HV.out
                        exact ⟨t, k - 1, m + 1, cap2, a2, _, rfl, htn, rfl, e2, by rw [List.length_append, ← HMT.out]; rfl, by omega, by have := HST.out; rw [← HTE.out] at this ⊢; exact this, HO1.out, HL1.out, HB1.out⟩
                  · clear hgo
                    go_wp2_with (first | (at_builtin; refine wpList_append_own _ rfl _ _ 33 rfl (w.heap.size + 1) 45 i0 (.agg #[.int .i64 0, .int .i64 0, .int .i64 0, .int .i64 0, .int .i64 0, .int .i64 0]) 6 48 Try.underlying33 hi hz0 hz1 hz2 rfl (by decide) _ m (flat (mkB Z P T)) rfl ?_ _ 1 1 [.int .i64 ((m : Int) + 1), .int .i64 (g : Int), .int .i64 zz, .int .i64 pf, .int .i64 (f : Int), .int .i64 (t : Int)] rfl rfl ?_ ?_ ?_ ?_ ?_ ?_))
                    all_goals try first | exact HO.out.alloc _ | exact six_at _ _ _ _ _ _ _ _ _ (by simp) | (simp [Value.oneCell']; done) | (simp only [Value.oneCell']; decide) | (unfold maxLen; omega) | omega | (simp; omega)
                    intro v' w1 hown1 hgrow _
                    have hrow : ∀ q', (Value.slice av m cap).ownBlock = some q' → w.heap.size + 1 ≤ q' := fun q' hq => (HO.out.lt q' hq).1
                    have HB1 := Lib.hid (Below.grown (by repeat (first | exact hbel | exact Below.refl _ _ | (with_reducible refine Below.setCell ?_ (by first | omega | (simp; done) | (simp; omega)) _) | (with_reducible refine Below.alloc ?_ (by first | omega | (simp; done) | (simp; omega)) _) | (with_reducible refine Below.onDrewN ?_ _) | (with_reducible refine Below.drew ?_) | (with_reducible refine Below.ofExt ?_ (by first | omega | (simp; done) | (simp; omega))))) hgrow (by first | omega | (simp; done) | (simp; omega)) (fun q' hq => by have := hrow q' hq; omega) : Below w.heap.size w w1)
                    have HL1 := Lib.hid ((hgrow.block w.heap.size (by first | omega | (simp; done) | (simp; omega)) (fun e => by have := hrow _ e.symm; omega)).trans ((heap_alloc_lt _ _ _ (by first | omega | (simp; done) | (simp; omega))).trans HLY.out))
                    have HO1 : Hid (w1.ownsRow (w.heap.size + 1) 45 6 v' (m + 1) (flat (mkB Z P (T ++ [(g, f, endOf P most f)])))) := Lib.hid (by
                      rw [mkB_snoc, flat_snoc]
                      have e : bunc (mkOne Z P T.length (g, f, endOf P most f)) = [.int .i64 ((m : Int) + 1), .int .i64 (g : Int), .int .i64 zz, .int .i64 pf, .int .i64 (f : Int), .int .i64 (t : Int)] := by
                        simp only [bunc, mkOne, ← HMT.out, HZZ.out, HPF.out, ← HTE.out]
                      rw [e]
                      exact hown1)
                    have HV := Lib.hid (owns6 HO1.out)
                    clear hown1 hgrow hrow cp cq l4 l6
                    go_wp2
                    go_roundg (np - t)
                    case measure => rw [HGF.out]; omega
                    case rel =>
                      obtain ⟨a2, cap2, e2, e3, e4, _⟩ := HV.out
                      exact ⟨t, k - 1, m + 1, cap2, a2, _, rfl, htn, rfl, e2, by rw [List.length_append, ← HMT.out]; rfl, by omega, by have := HST.out; rw [← HTE.out] at this ⊢; exact this, HO1.out, HL1.out, HB1.out⟩
          · obtain rfl : f = np := by omega
            have HTE := Lib.hid (HMK.out.done (by rw [HNP.out]; omega))
            go_wp2
            go_roundg (nz - (g + 1))
            case measure => rw [HG.out]; omega
            case rel => exact ⟨g + 1, m, cap, av, T, rfl, by omega, by go_num, rfl, HMT.out, hm6, HTE.out, HO.out, HLY.out, hbel⟩
      · obtain rfl : g = nz := by omega
        obtain ⟨a2, cap2, e2, e3, e4, e5⟩ := owns6 HO.out
        have HB6 := Lib.hid e5
        clear e5
        injection e2 with e6 e7 e8
        subst e6 e8
        have HLE := Lib.hid e4
        have HLN := Lib.hid e3
        clear e3 e4 e7
        go_wp2
        go_ret2
        refine Or.inl ⟨by rw [HNZ.out, ← HT.out, ← HMT.out]; exact hm6, ?_⟩
        rw [HNZ.out, ← HT.out]
        exact ⟨av, cap, by rw [← HLN.out]; rfl, by rw [← HLN.out]; exact HLE.out, HB6.out, (below_ext (by repeat (first | exact hbel | exact Below.refl _ _ | (with_reducible refine Below.setCell ?_ (by first | omega | (simp; done) | (simp; omega)) _) | (with_reducible refine Below.alloc ?_ (by first | omega | (simp; done) | (simp; omega)) _) | (with_reducible refine Below.onDrewN ?_ _) | (with_reducible refine Below.drew ?_) | (with_reducible refine Below.ofExt ?_ (by first | omega | (simp; done) | (simp; omega))))))⟩
end Go.Proofs.Ytpfffpajnjeoeaa
