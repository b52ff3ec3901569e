/-
  The contract of Run.
-/
import Derived.Test.YtnnedgdbbecmcaaSame
namespace Go.Proofs.Ytnnedgdbbecmcaa
open Go.RowKit

theorem Try.info4 : (Try.prog.info? 4).map (fun i => (i.zero, i.size, i.bytes)) = some (some (.bool false), 1, 1) := by kernel_rfl

/-- What Run leaves. -/
def RunPost (P : List Bool × Reg × Int) (w : World) (e : Ending) (w' : World) : Prop :=
  ∃ a cap, e = .returned (.tuple #[.slice a P.1.length cap, .agg #[.int .i64 P.2.1.l, .int .i64 P.2.1.a, .int .i64 P.2.1.r], .int .i64 P.2.2]) ∧ RowAt w' a (P.1.map .bool) ∧ ∃ z, w' = ext w z
theorem runPost_err {P : List Bool × Reg × Int} {n : Int} (h : P = ([], ⟨0, 0, 0⟩, n)) {w w' : World} (hw : ∃ z, w' = ext w z) :
    RunPost P w (.returned (.tuple #[.slice none 0 0, .agg #[.int .i64 0, .int .i64 0, .int .i64 0], .int .i64 n])) w' := by
  subst h
  exact ⟨none, 0, rfl, rowAt_nil _ _, hw⟩

set_option maxHeartbeats 8000000 in
theorem Run_any (a a' : Option Addr) (c c' : Nat) (L F : List Int) (w : World) (h : RowAt w a (L.map (.int .i64))) (h' : RowAt w a' (F.map (.int .i64))) (hm : L.length ≤ 1000000) :
    Calls Try.prog 14 #[.slice a L.length c, .slice a' F.length c'] w (RunPost (runP L F) w) := by
  by_cases hl : L.length = F.length
  · have HP := Lib.hid (show runP L F = runG ⟨2, 0, 0⟩ L F [] by unfold runP; rw [if_pos hl])
    have HL := Lib.hid hl
    have h1 := Lib.hid h
    have h2 := Lib.hid h'
    clear h h'
    rw [← hl]
    clear hl
    generalize hn : L.length = n at *
    have HN := Lib.hid hn
    clear hn
    obtain ⟨i0, hi, hz0, hz1, hz2⟩ := info_parts Try.info4
    go_enter Try.func14, Try.ntmps14
    go_wp2_with (first | (go_at_call 13; (first | (with_reducible refine (Calls.ext_of (Start_any _)).mono ?_) | refine (Start_any _).mono ?_); rintro e w' ⟨rfl, z, rfl⟩))
    generalize hg7 : w.heap.size + 1 + z.heap.size = g7
    have G7 := Lib.hid hg7
    have hg7' : w.heap.size < g7 := by omega
    clear hg7
    go_loopw [8, 23] (fun v i wr => ∃ (k : Nat) (g : Reg) (D : List Bool), k ≤ n ∧ i = .int .i64 k ∧ RunInv L F k g D ∧ wr.ownsRow (g7 + 1) 4 1 v D.length (D.map .bool) ∧
      wr.heap[g7]? = some (.cells #[.int .i64 g.l, .int .i64 g.a, .int .i64 g.r] 23 (0, 0)) ∧ wr.heap[w.heap.size]? = some (.cells #[.int .i64 0, .int .i64 0, .int .i64 0] 23 (0, 0)) ∧ Below w.heap.size w wr) (fun _ i _ => n - (intOf i).toNat)
    case atStart =>
      refine ⟨0, ⟨2, 0, 0⟩, [], by omega, rfl, runInv_zero L F, World.ownsRow_nil _ _ _ _, ?_, ?_, ?_⟩
      · exact heap_alloc_at _ _ _ (by rw [← G7.out]; simp)
      · rw [heap_alloc_lt _ _ _ (by first | (simp; done) | (simp; omega)), ext_block _ _ _ (by first | (simp; done) | (simp; omega))]; exact heap_alloc_at _ _ _ rfl
      · exact (by repeat (first | exact Below.refl _ _ | (with_reducible refine Below.setCell ?_ (by first | (simp; done) | (simp; omega)) _) | (with_reducible refine Below.alloc ?_ (by first | (simp; done) | (simp; omega)) _) | (with_reducible refine Below.onDrewN ?_ _) | (with_reducible refine Below.drew ?_) | (with_reducible refine Below.ofExt ?_ (by first | (simp; done) | (simp; omega)))))
    case round =>
      obtain ⟨k, g, D, hk, rfl, hinv, hown, hb7, hb5, hbel⟩ := hrel
      have HI := Lib.hid hinv
      have HO := Lib.hid hown
      have H7 := Lib.hid hb7
      have H5 := Lib.hid hb5
      clear hinv hown hb7 hb5
      obtain ⟨s7, c70, c71, c72, f70, f71, f72⟩ := cell3 H7.out
      obtain ⟨s5, c50, c51, c52, f50, f51, f52⟩ := cell3 H5.out
      have hsz := hbel.size
      by_cases hlt : k < n
      · have kL : k < L.length := by rw [HN.out]; exact hlt
        have kF : k < F.length := by rw [← HL.out]; exact hlt
        obtain ⟨b, o, rfl, bl, hc⟩ := (h1.out.below hbel).at (k := k) (by simpa using kL)
        obtain ⟨b', o', rfl, bl', hc'⟩ := (h2.out.below hbel).at (k := k) (by simpa using kF)
        rw [List.getElem_map] at hc hc'
        have i1 : (0 : Int) ≤ (k : Int) := by omega
        have i2 : (k : Int) < (n : Int) := by omega
        by_cases hp : plE g.l g.a g.r L[k] = 0
        · by_cases hd : deE (plN g.l g.a g.r L[k]) (plC g.l g.a g.r L[k]) F[k] = 0
          · have hpb : (plE g.l g.a g.r L[k] != 0) = false := by simpa using hp
            have hdb : (deE (plN g.l g.a g.r L[k]) (plC g.l g.a g.r L[k]) F[k] != 0) = false := by simpa using hd
            have hsb : (swE g.l g.a g.r != 0) = false := by
              obtain ⟨q1, q2, _, _⟩ := sw_of_plan hp
              simp [swE_go q1 q2]
            have HE := Lib.hid (runInv_succ HI.out kL kF hp hd)
            clear hp hd
            generalize L[k] = m at *
            generalize F[k] = f at *
            go_wp2_with (first | (go_at_call 10; (first | (with_reducible refine (Calls.ext_of (Plan_any _ _ _ _ _)).mono ?_) | refine (Plan_any _ _ _ _ _).mono ?_); rintro e w' ⟨rfl, z, rfl⟩) | (go_at_call 15; (first | (with_reducible refine (Calls.ext_of (Switch_any _ _ _ _ _)).mono ?_) | refine (Switch_any _ _ _ _ _).mono ?_); rintro e w' ⟨rfl, z, rfl⟩))
            refine wp_region_ext (by kernel_rfl) (by kernel_rfl) ?_
            repeat (go_big_quiet_step ((first | (go_at_call 22; exact Calls.ext_of (Decide_any _ _ _ _)))))
            refine wpQuiet_nil ?_
            rintro _ ⟨x, rfl⟩
            go_wp2_with (first | (at_builtin; refine wpList_append_own _ rfl _ _ 34 rfl (g7 + 1) 4 i0 (.bool false) 1 1 Try.underlying34 hi hz0 hz1 hz2 rfl (by decide) _ D.length (D.map .bool) rfl ?own _ 1 1 [.bool (deB (plN g.l g.a g.r m) (plC g.l g.a g.r m) f)] rfl rfl ?c1 ?c2 ?c3 ?c4 ?c5 ?_) | (go_at_call 10; (first | (with_reducible refine (Calls.ext_of (Plan_any _ _ _ _ _)).mono ?_) | refine (Plan_any _ _ _ _ _).mono ?_); rintro e w' ⟨rfl, z, rfl⟩) | (go_at_call 15; (first | (with_reducible refine (Calls.ext_of (Switch_any _ _ _ _ _)).mono ?_) | refine (Switch_any _ _ _ _ _).mono ?_); rintro e w' ⟨rfl, z, rfl⟩))
            case own => repeat (first | exact HO.out | (with_reducible refine World.ownsRow.alloc ?_ _) | (with_reducible refine ownsRow_ext ?_ _) | (with_reducible refine ownsRow_setCell_below ?_ (by simp) _))
            case c1 => exact cell_one_at _ _ _ _ (by simp)
            case c2 => simp [Value.oneCell']
            case c3 => have := HI.out.len; unfold maxLen; omega
            case c4 => have := HI.out.len; omega
            case c5 => simp; omega
            intro v' w1 hown1 hgrow _
            have hrow : ∀ q, u8.ownBlock = some q → g7 + 1 ≤ q := fun q hq => (HO.out.lt q hq).1
            have hb1 : Below w.heap.size w w1 := Below.grown (by repeat (first | exact hbel | (with_reducible refine Below.setCell ?_ (by first | (simp; done) | (simp; omega)) _) | (with_reducible refine Below.alloc ?_ (by first | (simp; done) | (simp; omega)) _) | (with_reducible refine Below.onDrewN ?_ _) | (with_reducible refine Below.drew ?_) | (with_reducible refine Below.ofExt ?_ (by first | (simp; done) | (simp; omega))))) hgrow (by first | (simp; done) | (simp; omega)) (fun q hq => by have := hrow q hq; omega)
            have hw7 := hgrow.block g7 (by first | (simp; done) | (simp; omega)) (fun e => by have := hrow g7 e.symm; omega)
            have hw5 := hgrow.block w.heap.size (by first | (simp; done) | (simp; omega)) (fun e => by have := hrow w.heap.size e.symm; omega)
            have e71 : w1.heap[g7]? = some (.cells #[.int .i64 (sw g.l g.a g.r (deB (plN g.l g.a g.r m) (plC g.l g.a g.r m) f)).l, .int .i64 (sw g.l g.a g.r (deB (plN g.l g.a g.r m) (plC g.l g.a g.r m) f)).a, .int .i64 (sw g.l g.a g.r (deB (plN g.l g.a g.r m) (plC g.l g.a g.r m) f)).r] 23 (0, 0)) := by
              rw [hw7]
              repeat (first | rw [heap_alloc_lt _ _ _ (by first | (simp; done) | (simp; omega))] | rw [ext_block _ _ _ (by first | (simp; done) | (simp; omega))])
              exact heap_setCell_eq _ _ _ _ (heap_setCell_eq _ _ _ _ (heap_setCell_eq _ _ _ _ H7.out))
            have e51 : w1.heap[w.heap.size]? = some (.cells #[.int .i64 0, .int .i64 0, .int .i64 0] 23 (0, 0)) := by
              rw [hw5]
              repeat (first | rw [heap_alloc_lt _ _ _ (by first | (simp; done) | (simp; omega))] | rw [ext_block _ _ _ (by first | (simp; done) | (simp; omega))] | rw [heap_setCell_ne _ _ _ _ _ (by omega)])
              exact H5.out
            have H71 := Lib.hid e71
            have H51 := Lib.hid e51
            clear e71 e51
            have HO1 := Lib.hid hown1
            have HB1 := Lib.hid hb1
            clear hown1 hgrow hw7 hw5 hb1 hrow
            clear c70 c71 c72 f70 f71 f72 c50 c51 c52 f50 f51 f52
            go_wp2
            go_roundw
            case rel => exact ⟨k + 1, _, _, by omega, by go_num, HE.out, by simpa using HO1.out, H71.out, H51.out, HB1.out⟩
            case measure => simp [intOf]; omega
          · have hpb : (plE g.l g.a g.r L[k] != 0) = false := by simpa using hp
            have hdb : (deE (plN g.l g.a g.r L[k]) (plC g.l g.a g.r L[k]) F[k] != 0) = true := by simpa using hd
            have HE := Lib.hid (HP.out.trans (runInv_de HI.out kL kF hp hd))
            clear hp hd
            generalize L[k] = m at *
            generalize F[k] = f at *
            go_wp2_with (first | (go_at_call 10; (first | (with_reducible refine (Calls.ext_of (Plan_any _ _ _ _ _)).mono ?_) | refine (Plan_any _ _ _ _ _).mono ?_); rintro e w' ⟨rfl, z, rfl⟩) | (go_at_call 15; (first | (with_reducible refine (Calls.ext_of (Switch_any _ _ _ _ _)).mono ?_) | refine (Switch_any _ _ _ _ _).mono ?_); rintro e w' ⟨rfl, z, rfl⟩))
            refine wp_region_ext (by kernel_rfl) (by kernel_rfl) ?_
            repeat (go_big_quiet_step ((first | (go_at_call 22; exact Calls.ext_of (Decide_any _ _ _ _)))))
            refine wpQuiet_nil ?_
            rintro _ ⟨x, rfl⟩
            go_wp2_with (first | (go_at_call 10; (first | (with_reducible refine (Calls.ext_of (Plan_any _ _ _ _ _)).mono ?_) | refine (Plan_any _ _ _ _ _).mono ?_); rintro e w' ⟨rfl, z, rfl⟩) | (go_at_call 15; (first | (with_reducible refine (Calls.ext_of (Switch_any _ _ _ _ _)).mono ?_) | refine (Switch_any _ _ _ _ _).mono ?_); rintro e w' ⟨rfl, z, rfl⟩))
            exact bodyPost_ret (v := .tuple #[.slice none 0 0, .agg #[.int .i64 0, .int .i64 0, .int .i64 0], .int .i64 (deE (plN g.l g.a g.r m) (plC g.l g.a g.r m) f)]) (by simp [results, Try.results14, go_sem, s5, c50, c51, c52]) rfl (runPost_err HE.out (below_ext (by repeat (first | exact hbel | (with_reducible refine Below.setCell ?_ (by first | (simp; done) | (simp; omega)) _) | (with_reducible refine Below.alloc ?_ (by first | (simp; done) | (simp; omega)) _) | (with_reducible refine Below.onDrewN ?_ _) | (with_reducible refine Below.drew ?_) | (with_reducible refine Below.ofExt ?_ (by first | (simp; done) | (simp; omega)))))))
        · have hpb : (plE g.l g.a g.r L[k] != 0) = true := by simpa using hp
          have HE := Lib.hid (HP.out.trans (runInv_pl HI.out kL kF hp))
          clear hp
          generalize L[k] = m at *
          go_wp2_with (first | (go_at_call 10; (first | (with_reducible refine (Calls.ext_of (Plan_any _ _ _ _ _)).mono ?_) | refine (Plan_any _ _ _ _ _).mono ?_); rintro e w' ⟨rfl, z, rfl⟩) | (go_at_call 15; (first | (with_reducible refine (Calls.ext_of (Switch_any _ _ _ _ _)).mono ?_) | refine (Switch_any _ _ _ _ _).mono ?_); rintro e w' ⟨rfl, z, rfl⟩))
          exact bodyPost_ret (v := .tuple #[.slice none 0 0, .agg #[.int .i64 0, .int .i64 0, .int .i64 0], .int .i64 (plE g.l g.a g.r m)]) (by simp [results, Try.results14, go_sem, s5, c50, c51, c52]) rfl (runPost_err HE.out (below_ext (by repeat (first | exact hbel | (with_reducible refine Below.setCell ?_ (by first | (simp; done) | (simp; omega)) _) | (with_reducible refine Below.alloc ?_ (by first | (simp; done) | (simp; omega)) _) | (with_reducible refine Below.onDrewN ?_ _) | (with_reducible refine Below.drew ?_) | (with_reducible refine Below.ofExt ?_ (by first | (simp; done) | (simp; omega)))))))
      · have HE := Lib.hid (HP.out.trans (runInv_end HI.out (by rw [HN.out]; omega)))
        obtain ⟨av, cap, rfl, hlen, hrow⟩ := rowAt_owns HO.out
        have HR := Lib.hid hrow
        have HLN := Lib.hid hlen
        clear hrow hlen
        go_wp2
        refine wp_region_drew_tail 3 (by kernel_rfl) (by kernel_rfl) ?_
        simp only [List.take_succ_cons, List.take_zero, List.drop_succ_cons, List.drop_zero]
        repeat (go_big_quiet_step ((fail)))
        refine wpQuiet_nil ?_
        rintro _ ⟨d, rfl⟩
        go_wp2
        refine bodyPost_ret (v := .tuple #[.slice av D.length cap, .agg #[.int .i64 g.l, .int .i64 g.a, .int .i64 g.r], .int .i64 0]) (by simp [results, Try.results14, go_sem, c50, c51, c52]) rfl ?_
        rw [HE.out]
        refine ⟨av, cap, rfl, rowAt_of_owns (base := g7 + 1) (e := 4) (n := D.length) (cap := cap) ?_, (below_ext (by repeat (first | exact hbel | (with_reducible refine Below.setCell ?_ (by first | (simp; done) | (simp; omega)) _) | (with_reducible refine Below.alloc ?_ (by first | (simp; done) | (simp; omega)) _) | (with_reducible refine Below.onDrewN ?_ _) | (with_reducible refine Below.drew ?_) | (with_reducible refine Below.ofExt ?_ (by first | (simp; done) | (simp; omega))))))⟩
        repeat (first | exact HO.out | (with_reducible refine World.ownsRow.alloc ?_ _) | (with_reducible refine ownsRow_ext ?_ _) | (with_reducible refine ownsRow_drewN ?_ _) | (with_reducible refine ownsRow_setCell_below ?_ (by simp; omega) _))
  · have HE := Lib.hid (show runP L F = ([], ⟨0, 0, 0⟩, 1) by unfold runP; rw [if_neg hl])
    have hb : (L.length != F.length) = true := by rw [bne_iff_ne]; omega
    have hb2 : ((L.length : Int) != (F.length : Int)) = true := by rw [bne_iff_ne]; omega
    clear h h'
    go_enter Try.func14, Try.ntmps14
    go_wp2
    exact bodyPost_ret (v := .tuple #[.slice none 0 0, .agg #[.int .i64 0, .int .i64 0, .int .i64 0], .int .i64 1]) (by simp [results, Try.results14, go_sem]) rfl (runPost_err HE.out (below_ext (by repeat (first | exact Below.refl _ _ | (with_reducible refine Below.setCell ?_ (by first | (simp; done) | (simp; omega)) _) | (with_reducible refine Below.alloc ?_ (by first | (simp; done) | (simp; omega)) _) | (with_reducible refine Below.onDrewN ?_ _) | (with_reducible refine Below.drew ?_) | (with_reducible refine Below.ofExt ?_ (by first | (simp; done) | (simp; omega)))))))
end Go.Proofs.Ytnnedgdbbecmcaa
