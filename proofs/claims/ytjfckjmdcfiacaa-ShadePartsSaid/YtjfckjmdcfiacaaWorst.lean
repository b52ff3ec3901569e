/-
  The contract of Worst.
-/
import Derived.Test.YtjfckjmdcfiacaaMp
namespace Go.Proofs.Ytjfckjmdcfiacaa
open Go.RowKit

theorem blk6 {w : World} {g t : Nat} {a b c d e f : Value} (h : w.heap[g]? = some (.cells #[a, b, c, d, e, f] t (0, 0))) : w.cell? ⟨g, 0, none⟩ = some a ∧ w.cell? ⟨g, 1, none⟩ = some b ∧ w.cell? ⟨g, 2, none⟩ = some c ∧ w.cell? ⟨g, 3, none⟩ = some d ∧ w.cell? ⟨g, 4, none⟩ = some e ∧ w.cell? ⟨g, 5, none⟩ = some f :=
  ⟨by simp [World.cell?, h], by simp [World.cell?, h], by simp [World.cell?, h], by simp [World.cell?, h], by simp [World.cell?, h], by simp [World.cell?, h]⟩
set_option maxRecDepth 100000 in
set_option maxHeartbeats 8000000 in
theorem Worst_ok (a a' : Option Addr) (c c' : Nat) (L : List Tone) (X : List Int) (w : World) (h : TonesAt w a L) (h' : RowAt w a' (ints X)) (hwf : ∀ j, j < X.length → (Lit.int .i64 (X.getD j 0)).wf = true) (hl : L.length = X.length) (hm : L.length ≤ 1000000) (m : Int) (hW : IsWorst L X L.length 0 m) :
    Calls Try.prog 10 #[.slice a L.length c, .slice a' X.length c'] w fun e w' => e = .returned (.tuple #[.int .i64 m, .int .i64 0]) ∧ ∃ z, w' = ext w z := by
  obtain ⟨b, o, ha, hc⟩ := h.spread
  obtain ⟨b', o', ha', hc'⟩ := row_spread h'
  rw [← hl] at ha' hc' hwf ⊢
  have HA := Lib.hid ha
  have HA' := Lib.hid ha'
  have HC := Lib.hid hc
  have HC' := Lib.hid hc'
  have HW := Lib.hid hW
  have HF := Lib.hid hwf
  clear h h' ha ha' hc hc' hW hl hwf
  generalize hn : L.length = n at *
  clear hn
  have hmm := @run_makeMap Try.prog
  go_enter Try.func10, Try.ntmps10
  go_wp2
  go_loopg [20, 7] n (fun gk i v wr => ∃ (k : Nat) (y : Int) (f : Int → Option Span), gk = n - k ∧ k ≤ n ∧ i = .int .i64 k ∧ v = .int .i64 y ∧ IsWorst L X k 0 y ∧ Spans L X k f ∧ MapAt wr w.heap.size k f ∧ Below w.heap.size w wr)
  case atStart => exact ⟨0, 0, _, by omega, by omega, rfl, rfl, isWorst_start L X, spans_start L X, mapAt_made w _ rfl, (by repeat (first | exact hbel | exact Below.refl _ _ | (with_reducible refine Below.setCell ?_ (by first | omega | (simp; done) | (simp; omega)) _) | (with_reducible refine Below.alloc ?_ (by first | omega | (simp; done) | (simp; omega)) _) | (with_reducible refine Below.onDrewN ?_ _) | (with_reducible refine Below.drew ?_) | (with_reducible refine Below.ofExt ?_ (by first | omega | (simp; done) | (simp; omega)))))⟩
  case round =>
    obtain ⟨k, y, f, hgk, hk, rfl, rfl, hy, hf, hM, hbel⟩ := hrel
    have HG := Lib.hid hgk
    have hml := hM.lt
    clear hgk
    by_cases hlt : k < n
    · obtain ⟨rfl, hb1⟩ := HA.out (by omega)
      obtain ⟨rfl, hb2⟩ := HA'.out (by omega)
      have HY := Lib.hid (hy.span hf)
      have HS := Lib.hid hf.next
      have cx := HC'.out k hlt
      obtain ⟨ck0, ck1, ck2⟩ := HC.out k hlt
      rw [← hbel.cell (by exact hb2)] at cx
      rw [← hbel.cell (by exact hb1)] at ck0 ck1 ck2
      have hxw := Lib.hid (HF.out k hlt)
      have i1 : (0 : Int) ≤ (k : Int) ∧ (k : Int) < (n : Int) := by omega
      have hb1' : b < wr.heap.size := by omega
      have hb2' : b' < wr.heap.size := by omega
      clear hy hf
      unfold spanAt at HY HS
      generalize X.getD k 0 = x at *
      generalize tn L k = t at *
      cases hfx : f x with
      | none =>
        rw [hfx] at HY HS
        have HFX := Lib.hid hfx
        clear hfx
        go_wp2_with (first | (go_at_call 19; refine (limited_any t _).mono ?_; rintro e w' ⟨rfl, z, rfl⟩) | (at_lookup; refine wpList_look_span rfl _ _ rfl w.heap.size k f rfl x rfl ?_ hxw.out ⟨⟨0, 0, 0⟩, ⟨0, 0, 0⟩⟩ false (by rw [HFX.out]; rfl) (by rw [HFX.out]; rfl) ?_))
        · exact (by repeat (first | exact hM | (with_reducible refine MapAt.alloc ?_ _) | (with_reducible refine MapAt.drewN ?_ _) | (with_reducible refine MapAt.drew ?_) | (with_reducible refine MapAt.ext ?_ _) | (with_reducible refine MapAt.setCell ?_ (by first | omega | (simp; done) | (simp; omega)) _)))
        refine wp_region_drew_tail 6 (by kernel_rfl) (by kernel_rfl) ?_
        simp only [List.take_succ_cons, List.take_zero, List.drop_succ_cons, List.drop_zero]
        repeat (go_big_quiet_step ((fail)))
        refine wpQuiet_nil ?_
        rintro _ ⟨d, rfl⟩
        go_wp2_with (first | (at_mapUpdate; refine wpList_put_span rfl _ _ _ rfl w.heap.size k f rfl x rfl (⟨t.lim, t.lim⟩) rfl ?_ ?_ hxw.out ?_))
        · exact (by repeat (first | exact hM | (with_reducible refine MapAt.alloc ?_ _) | (with_reducible refine MapAt.drewN ?_ _) | (with_reducible refine MapAt.drew ?_) | (with_reducible refine MapAt.ext ?_ _) | (with_reducible refine MapAt.setCell ?_ (by first | omega | (simp; done) | (simp; omega)) _)))
        · unfold maxLen; omega
        intro w1 hM1 hg1
        have HB1 := Lib.hid (Below.grown (by repeat (first | exact hbel | exact Below.refl _ _ | (with_reducible refine Below.setCell ?_ (by first | omega | (simp; done) | (simp; omega)) _) | (with_reducible refine Below.alloc ?_ (by first | omega | (simp; done) | (simp; omega)) _) | (with_reducible refine Below.onDrewN ?_ _) | (with_reducible refine Below.drew ?_) | (with_reducible refine Below.ofExt ?_ (by first | omega | (simp; done) | (simp; omega))))) hg1 (by first | omega | (simp; done) | (simp; omega)) (fun q hq => by injection hq with hq; omega) : Below w.heap.size w w1)
        have hw1 := hg1.size
        have hwd := hg1.block (wr.heap.size + 1 + z.heap.size) (by first | omega | (simp; done) | (simp; omega)) (by simp; omega)
        obtain ⟨d0, d1, d2, d3, d4, d5⟩ := blk6 (hwd.trans (heap_alloc_at _ _ _ (by simp)))
        have HM1 := Lib.hid hM1
        clear hwd hg1 hM1 hM ck0 ck1 ck2 cx
        go_wp2_with (first | (go_at_call 12; refine (Distance_any ⟨_, _, _⟩ ⟨_, _, _⟩ _).mono ?_; rintro e w' ⟨rfl, z2, rfl⟩))
        go_roundg (n - (k + 1))
        case measure => rw [HG.out]; omega
        case rel => exact ⟨k + 1, _, _, rfl, by omega, by go_num, rfl, HY.out, HS.out, HM1.out.ext _, Below.ofExt HB1.out HB1.out.size⟩
      | some s =>
        rw [hfx] at HY HS
        have HFX := Lib.hid hfx
        clear hfx
        go_wp2_with (first | (go_at_call 19; refine (limited_any t _).mono ?_; rintro e w' ⟨rfl, z, rfl⟩) | (at_lookup; refine wpList_look_span rfl _ _ rfl w.heap.size k f rfl x rfl ?_ hxw.out s true (by rw [HFX.out]; rfl) (by rw [HFX.out]; rfl) ?_))
        · exact (by repeat (first | exact hM | (with_reducible refine MapAt.alloc ?_ _) | (with_reducible refine MapAt.drewN ?_ _) | (with_reducible refine MapAt.drew ?_) | (with_reducible refine MapAt.ext ?_ _) | (with_reducible refine MapAt.setCell ?_ (by first | omega | (simp; done) | (simp; omega)) _)))
        refine wp_region_drew_tail 6 (by kernel_rfl) (by kernel_rfl) ?_
        simp only [List.take_succ_cons, List.take_zero, List.drop_succ_cons, List.drop_zero]
        repeat (go_big_quiet_step ((fail)))
        refine wpQuiet_nil ?_
        rintro _ ⟨d, rfl⟩
        go_wp2_with (first | (at_mapUpdate; refine wpList_put_span rfl _ _ _ rfl w.heap.size k f rfl x rfl (s.add t.lim) rfl ?_ ?_ hxw.out ?_))
        · exact (by repeat (first | exact hM | (with_reducible refine MapAt.alloc ?_ _) | (with_reducible refine MapAt.drewN ?_ _) | (with_reducible refine MapAt.drew ?_) | (with_reducible refine MapAt.ext ?_ _) | (with_reducible refine MapAt.setCell ?_ (by first | omega | (simp; done) | (simp; omega)) _)))
        · unfold maxLen; omega
        intro w1 hM1 hg1
        have HB1 := Lib.hid (Below.grown (by repeat (first | exact hbel | exact Below.refl _ _ | (with_reducible refine Below.setCell ?_ (by first | omega | (simp; done) | (simp; omega)) _) | (with_reducible refine Below.alloc ?_ (by first | omega | (simp; done) | (simp; omega)) _) | (with_reducible refine Below.onDrewN ?_ _) | (with_reducible refine Below.drew ?_) | (with_reducible refine Below.ofExt ?_ (by first | omega | (simp; done) | (simp; omega))))) hg1 (by first | omega | (simp; done) | (simp; omega)) (fun q hq => by injection hq with hq; omega) : Below w.heap.size w w1)
        have hw1 := hg1.size
        have hwd := hg1.block (wr.heap.size + 1 + z.heap.size) (by first | omega | (simp; done) | (simp; omega)) (by simp; omega)
        obtain ⟨d0, d1, d2, d3, d4, d5⟩ := blk6 (hwd.trans (heap_alloc_at _ _ _ (by simp)))
        have HM1 := Lib.hid hM1
        clear hwd hg1 hM1 hM ck0 ck1 ck2 cx
        go_wp2_with (first | (go_at_call 12; refine (Distance_any ⟨_, _, _⟩ ⟨_, _, _⟩ _).mono ?_; rintro e w' ⟨rfl, z2, rfl⟩))
        go_roundg (n - (k + 1))
        case measure => rw [HG.out]; omega
        case rel => exact ⟨k + 1, _, _, rfl, by omega, by go_num, rfl, HY.out, HS.out, HM1.out.ext _, Below.ofExt HB1.out HB1.out.size⟩
    · obtain rfl : k = n := by omega
      have HY := Lib.hid (hy.unique HW.out)
      clear hy
      go_wp2
      go_ret2
      rw [HY.out]
      exact ⟨rfl, (below_ext (by repeat (first | exact hbel | exact Below.refl _ _ | (with_reducible refine Below.setCell ?_ (by first | omega | (simp; done) | (simp; omega)) _) | (with_reducible refine Below.alloc ?_ (by first | omega | (simp; done) | (simp; omega)) _) | (with_reducible refine Below.onDrewN ?_ _) | (with_reducible refine Below.drew ?_) | (with_reducible refine Below.ofExt ?_ (by first | omega | (simp; done) | (simp; omega))))))⟩
set_option maxHeartbeats 400000 in
theorem Worst_bad (a a' : Option Addr) (c c' n k : Nat) (w : World) (hn : n ≠ k) :
    Calls Try.prog 10 #[.slice a n c, .slice a' k c'] w fun e w' => e = .returned (.tuple #[.int .i64 0, .int .i64 1]) ∧ w' = w := by
  have hb : ((n : Int) != (k : Int)) = true := by rw [bne_iff_ne]; omega
  have hb' : (n != k) = true := by rw [bne_iff_ne]; omega
  go_enter Try.func10, Try.ntmps10
  go_wp2
  go_ret2
  exact ⟨rfl, rfl⟩
end Go.Proofs.Ytjfckjmdcfiacaa
