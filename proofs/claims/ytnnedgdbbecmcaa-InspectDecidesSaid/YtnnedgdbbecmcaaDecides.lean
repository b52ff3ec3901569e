/-
  InspectDecides returns true for all lists; no condition.
-/
import Derived.Test.YtnnedgdbbecmcaaAl
import Derived.Test.YtnnedgdbbecmcaaArgs
import Derived.Deep.RegionHeld3
namespace Go.Proofs.Ytnnedgdbbecmcaa
open Go.RowKit Go.ChangeShapes Go.WideShapes Go.ChangeAt

theorem Try.cells3 : Try.prog.cellsOf 3 = 1 := by kernel_rfl
theorem Try.cells4 : Try.prog.cellsOf 4 = 1 := by kernel_rfl
theorem heap_drew1 (w : World) (n : Nat) : w.drew.heap[n]? = w.heap[n]? := rfl
theorem eq3_self (x y z : Int) : eq3 x y z x y z = true := by simp [eq3]

set_option maxRecDepth 100000 in
set_option maxHeartbeats 32000000 in
theorem decides_walk (ad ad' : Option Addr) (c c' : Nat) (L F : List Int) (w : World) (h : RowAt w ad (L.map (.int .i64))) (h' : RowAt w ad' (F.map (.int .i64))) (hm : L.length ≤ maxLen) :
    Calls Try.prog 4 #[.slice ad L.length c, .slice ad' F.length c'] w fun e w' => e = .returned (.bool true) ∧ ∃ z, w' = ext w z := by
  unfold maxLen at hm
  have h1 := Lib.hid h
  have h2 := Lib.hid h'
  clear h h'
  by_cases g1 : 100 < L.length
  · go_enter Try.func4, Try.ntmps4
    go_wp2_with (first | (go_at_call 11; (first | (with_reducible refine (Calls.ext_of (alive_any _)).mono ?_) | refine (alive_any _).mono ?_); rintro e w' ⟨rfl, z, rfl⟩))
    go_ret
    exact ⟨rfl, (below_ext (by repeat (first | exact Below.refl _ _ | (with_reducible refine Below.setCell ?_ (by first | (simp; done) | (simp; omega)) _) | (with_reducible refine Below.alloc ?_ (by first | (simp; done) | (simp; omega)) _) | (with_reducible refine Below.onDrewN ?_ _) | (with_reducible refine Below.drew ?_) | (with_reducible refine Below.ofExt ?_ (by first | (simp; done) | (simp; omega))))))⟩
  · by_cases g2 : L.length = F.length
    · have K1 := Lib.hid (fun W x y => Run_any ad ad' c c' L F W x y (by omega))
      have ER := Lib.hid (runG_err ⟨2, 0, 0⟩ L F [])
      have MO := Lib.hid (runG_more ⟨2, 0, 0⟩ L F [])
      have AT := Lib.hid (fun (k : Nat) (g : Reg) (D : List Bool) (h : RunInv L F k g D) (a : k < L.length) (b : k < F.length) => run_at h a b)
      have EN := Lib.hid (fun (k : Nat) (g : Reg) (D : List Bool) (h : RunInv L F k g D) (a : L.length ≤ k) => runInv_end h a)
      have eP : runP L F = runG ⟨2, 0, 0⟩ L F [] := by unfold runP; rw [if_pos g2]
      rw [eP] at K1
      clear eP
      generalize runG ⟨2, 0, 0⟩ L F [] = P at K1 ER MO AT EN
      obtain ⟨D, R, er⟩ := P
      simp only at ER MO AT EN
      have G2 := Lib.hid g2
      rw [← g2] at K1 ⊢
      clear g2
      generalize hn : L.length = n at hm g1 K1 MO EN G2 ⊢
      have HN := Lib.hid hn
      clear hn
      by_cases he : er = 0
      · subst he
        obtain ⟨T, eT, lT⟩ := MO.out rfl
        have hD : D.length = n := by rw [eT]; simpa using lT G2.out
        have HD := Lib.hid hD
        clear hD eT lT MO ER
        go_enter Try.func4, Try.ntmps4
        go_wp2_with fail
        refine (K1.out _ h1.out h2.out).mono ?_
        rintro e w' ⟨av, cap, rfl, hrow, z5, rfl⟩
        simp only
        rw [HD.out]
        have HR := Lib.hid hrow
        have R1 := Lib.hid (h1.out.ext z5)
        have R2 := Lib.hid (h2.out.ext z5)
        have hw5 := ext_below w z5
        clear hrow K1 h1 h2
        generalize ext w z5 = w5 at *
        go_wp2_with (first | (go_at_call 13; (first | (with_reducible refine (Calls.ext_of (Start_any _)).mono ?_) | refine (Start_any _).mono ?_); rintro e w' ⟨rfl, z, rfl⟩))
        generalize hg8 : w5.heap.size + 1 + z.heap.size = g8
        have G8 := Lib.hid hg8
        have hg8' : w5.heap.size < g8 := by omega
        clear hg8
        go_loopw [9] (fun i wr => ∃ (k : Nat) (g : Reg) (Dk : List Bool), k ≤ n ∧ i = .int .i64 k ∧ RunInv L F k g Dk ∧ wr.heap[g8]? = some (.cells #[.int .i64 g.l, .int .i64 g.a, .int .i64 g.r] 23 (0, 0)) ∧
          wr.heap[w5.heap.size]? = some (.cells #[.int .i64 R.l, .int .i64 R.a, .int .i64 R.r] 23 (0, 0)) ∧ Below w5.heap.size w5 wr) (fun i _ => n - (intOf i).toNat)
        case atStart =>
          refine ⟨0, ⟨2, 0, 0⟩, [], by omega, rfl, runInv_zero L F, ?_, ?_, ?_⟩
          · exact heap_alloc_at _ _ _ (by rw [← G8.out]; simp)
          · rw [heap_alloc_lt _ _ _ (by first | omega | (simp; done) | (simp; omega)), ext_block _ _ _ (by first | omega | (simp; done) | (simp; omega))]; exact heap_alloc_at _ _ _ rfl
          · exact (by repeat (first | exact Below.refl _ _ | (with_reducible refine Below.setCell ?_ (by first | (simp; done) | (simp; omega)) _) | (with_reducible refine Below.alloc ?_ (by first | (simp; done) | (simp; omega)) _) | (with_reducible refine Below.onDrewN ?_ _) | (with_reducible refine Below.drew ?_) | (with_reducible refine Below.ofExt ?_ (by first | (simp; done) | (simp; omega)))))
        case round =>
          obtain ⟨k, g, Dk, hk, rfl, hinv, hb8, hb6, hbel⟩ := hrel
          have HI := Lib.hid hinv
          have H8 := Lib.hid hb8
          have H6 := Lib.hid hb6
          clear hinv hb8 hb6
          obtain ⟨s8, c80, c81, c82, f80, f81, f82⟩ := cell3 H8.out
          obtain ⟨s6, c60, c61, c62, f60, f61, f62⟩ := cell3 H6.out
          have hsz := hbel.size
          by_cases hlt : k < n
          · have kL : k < L.length := by rw [HN.out]; exact hlt
            have kF : k < F.length := by rw [← G2.out]; exact hlt
            have kD : k < D.length := by rw [HD.out]; exact hlt
            obtain ⟨p0, d0, x0⟩ := AT.out k g Dk HI.out kL kF (by first | exact rfl | exact trivial)
            have s0 : swE g.l g.a g.r = 0 := by
              obtain ⟨q1, q2, _, _⟩ := sw_of_plan p0
              exact swE_go q1 q2
            have HE := Lib.hid (runInv_succ HI.out kL kF p0 d0)
            obtain ⟨b, o, rfl, bl, hc⟩ := (R1.out.below hbel).at (k := k) (by simpa using kL)
            obtain ⟨b1, o1, rfl, bl1, hc1⟩ := (R2.out.below hbel).at (k := k) (by simpa using kF)
            obtain ⟨b2, o2, rfl, bl2, hc2⟩ := (HR.out.below hbel).at (k := k) (by simpa using kD)
            rw [List.getElem_map] at hc hc1 hc2
            have i1 : (0 : Int) ≤ (k : Int) := by omega
            have i2 : (k : Int) < (n : Int) := by omega
            rw [List.getElem?_eq_getElem kD] at x0
            injection x0 with x0
            rw [x0] at hc2
            obtain ⟨f1', f2', f3'⟩ := de_spec d0
            rw [f3'] at hc2 HE
            have PL := Lib.hid (Plan_any g.l g.a g.r L[k])
            have SW := Lib.hid (Switch_any g.l g.a g.r (decide (F[k] ≤ plC g.l g.a g.r L[k])))
            rw [p0] at PL
            rw [s0] at SW
            clear p0 d0 s0 x0 f3' AT
            generalize L[k] = m at *
            generalize F[k] = f at *
            clear kL kF kD
            generalize plN g.l g.a g.r m = N at *
            generalize plC g.l g.a g.r m = C at *
            have db1 : decide (f < 0) = false := by simp; omega
            have db2 : decide (N < f) = false := by simp; omega
            by_cases hfc : f ≤ C
            · have ed : decide (f ≤ C) = true := by simpa using hfc
              rw [ed] at hc2 HE SW
              generalize sw g.l g.a g.r true = G' at *
              generalize Dk ++ [true] = Dk' at *
              go_wp2_with fail
              go_region_held3 (fun w' => w'.cell? ⟨g8, 0, none⟩ = some (.int .i64 g.l) ∧ w'.cell? ⟨g8, 1, none⟩ = some (.int .i64 g.a) ∧ w'.cell? ⟨g8, 2, none⟩ = some (.int .i64 g.r) ∧ w'.cell? ⟨b, o + k, none⟩ = some (.int .i64 m)) (((try dsimp only); (repeat' apply And.intro) <;> ((repeat (first | rw [ext_cell_mk _ _ _ _ (by first | omega | (simp; done) | (simp; omega))] | rw [World.cell?_alloc_past _ _ _ (by first | omega | (simp; done) | (simp; omega))] | rw [World.cell?_drew])); assumption))) (first | (go_at_call 10; refine (PL.out _).mono ?_; rintro e w' ⟨rfl, z, rfl⟩))
              · go_wp2_with fail
                refine wp_region_ext (by kernel_rfl) (by kernel_rfl) ?_
                repeat (go_big_quiet_step ((fail)))
                refine wpQuiet_nil ?_
                rintro _ ⟨y, rfl⟩
                go_wp2_with fail
                go_region_held3 (fun w' => w'.cell? ⟨g8, 0, none⟩ = some (.int .i64 g.l) ∧ w'.cell? ⟨g8, 1, none⟩ = some (.int .i64 g.a) ∧ w'.cell? ⟨g8, 2, none⟩ = some (.int .i64 g.r) ∧ w'.cell? ⟨b2, o2 + k, none⟩ = some (.bool true)) (((try dsimp only); (repeat' apply And.intro) <;> ((repeat (first | rw [ext_cell_mk _ _ _ _ (by first | omega | (simp; done) | (simp; omega))] | rw [World.cell?_alloc_past _ _ _ (by first | omega | (simp; done) | (simp; omega))] | rw [World.cell?_drew])); assumption))) (first | (go_at_call 15; refine (SW.out _).mono ?_; rintro e w' ⟨rfl, z, rfl⟩))
                · go_wp2
                  go_roundw
                  case rel =>
                    refine ⟨k + 1, G', Dk', by omega, by go_num, HE.out, ?_, ?_, (by repeat (first | exact hbel | (with_reducible refine Below.setCell ?_ (by first | omega | (simp; done) | (simp; omega)) _) | (with_reducible refine Below.alloc ?_ (by first | omega | (simp; done) | (simp; omega)) _) | (with_reducible refine Below.onDrewN ?_ _) | (with_reducible refine Below.drew ?_) | (with_reducible refine Below.ofExt ?_ (by first | omega | (simp; done) | (simp; omega)))))⟩
                    · repeat (first | rw [heap_alloc_lt _ _ _ (by first | omega | (simp; done) | (simp; omega))] | rw [ext_block _ _ _ (by first | omega | (simp; done) | (simp; omega))])
                      exact heap_setCell_eq _ _ _ _ (heap_setCell_eq _ _ _ _ (heap_setCell_eq _ _ _ _ H8.out))
                    · repeat (first | rw [heap_alloc_lt _ _ _ (by first | omega | (simp; done) | (simp; omega))] | rw [ext_block _ _ _ (by first | omega | (simp; done) | (simp; omega))] | rw [heap_setCell_ne _ _ _ _ _ (by omega)] | rw [heap_drew1])
                      exact H6.out
                  case measure => simp [intOf]; omega
                · go_wp2
                  go_roundw
                  case rel =>
                    refine ⟨k + 1, G', Dk', by omega, by go_num, HE.out, ?_, ?_, (by repeat (first | exact hbel | (with_reducible refine Below.setCell ?_ (by first | omega | (simp; done) | (simp; omega)) _) | (with_reducible refine Below.alloc ?_ (by first | omega | (simp; done) | (simp; omega)) _) | (with_reducible refine Below.onDrewN ?_ _) | (with_reducible refine Below.drew ?_) | (with_reducible refine Below.ofExt ?_ (by first | omega | (simp; done) | (simp; omega)))))⟩
                    · repeat (first | rw [heap_alloc_lt _ _ _ (by first | omega | (simp; done) | (simp; omega))] | rw [ext_block _ _ _ (by first | omega | (simp; done) | (simp; omega))])
                      exact heap_setCell_eq _ _ _ _ (heap_setCell_eq _ _ _ _ (heap_setCell_eq _ _ _ _ H8.out))
                    · repeat (first | rw [heap_alloc_lt _ _ _ (by first | omega | (simp; done) | (simp; omega))] | rw [ext_block _ _ _ (by first | omega | (simp; done) | (simp; omega))] | rw [heap_setCell_ne _ _ _ _ _ (by omega)] | rw [heap_drew1])
                      exact H6.out
                  case measure => simp [intOf]; omega
              · go_wp2_with fail
                refine wp_region_ext (by kernel_rfl) (by kernel_rfl) ?_
                repeat (go_big_quiet_step ((fail)))
                refine wpQuiet_nil ?_
                rintro _ ⟨y, rfl⟩
                go_wp2_with fail
                go_region_held3 (fun w' => w'.cell? ⟨g8, 0, none⟩ = some (.int .i64 g.l) ∧ w'.cell? ⟨g8, 1, none⟩ = some (.int .i64 g.a) ∧ w'.cell? ⟨g8, 2, none⟩ = some (.int .i64 g.r) ∧ w'.cell? ⟨b2, o2 + k, none⟩ = some (.bool true)) (((try dsimp only); (repeat' apply And.intro) <;> ((repeat (first | rw [ext_cell_mk _ _ _ _ (by first | omega | (simp; done) | (simp; omega))] | rw [World.cell?_alloc_past _ _ _ (by first | omega | (simp; done) | (simp; omega))] | rw [World.cell?_drew])); assumption))) (first | (go_at_call 15; refine (SW.out _).mono ?_; rintro e w' ⟨rfl, z, rfl⟩))
                · go_wp2
                  go_roundw
                  case rel =>
                    refine ⟨k + 1, G', Dk', by omega, by go_num, HE.out, ?_, ?_, (by repeat (first | exact hbel | (with_reducible refine Below.setCell ?_ (by first | omega | (simp; done) | (simp; omega)) _) | (with_reducible refine Below.alloc ?_ (by first | omega | (simp; done) | (simp; omega)) _) | (with_reducible refine Below.onDrewN ?_ _) | (with_reducible refine Below.drew ?_) | (with_reducible refine Below.ofExt ?_ (by first | omega | (simp; done) | (simp; omega)))))⟩
                    · repeat (first | rw [heap_alloc_lt _ _ _ (by first | omega | (simp; done) | (simp; omega))] | rw [ext_block _ _ _ (by first | omega | (simp; done) | (simp; omega))])
                      exact heap_setCell_eq _ _ _ _ (heap_setCell_eq _ _ _ _ (heap_setCell_eq _ _ _ _ H8.out))
                    · repeat (first | rw [heap_alloc_lt _ _ _ (by first | omega | (simp; done) | (simp; omega))] | rw [ext_block _ _ _ (by first | omega | (simp; done) | (simp; omega))] | rw [heap_setCell_ne _ _ _ _ _ (by omega)] | rw [heap_drew1])
                      exact H6.out
                  case measure => simp [intOf]; omega
                · go_wp2
                  go_roundw
                  case rel =>
                    refine ⟨k + 1, G', Dk', by omega, by go_num, HE.out, ?_, ?_, (by repeat (first | exact hbel | (with_reducible refine Below.setCell ?_ (by first | omega | (simp; done) | (simp; omega)) _) | (with_reducible refine Below.alloc ?_ (by first | omega | (simp; done) | (simp; omega)) _) | (with_reducible refine Below.onDrewN ?_ _) | (with_reducible refine Below.drew ?_) | (with_reducible refine Below.ofExt ?_ (by first | omega | (simp; done) | (simp; omega)))))⟩
                    · repeat (first | rw [heap_alloc_lt _ _ _ (by first | omega | (simp; done) | (simp; omega))] | rw [ext_block _ _ _ (by first | omega | (simp; done) | (simp; omega))])
                      exact heap_setCell_eq _ _ _ _ (heap_setCell_eq _ _ _ _ (heap_setCell_eq _ _ _ _ H8.out))
                    · repeat (first | rw [heap_alloc_lt _ _ _ (by first | omega | (simp; done) | (simp; omega))] | rw [ext_block _ _ _ (by first | omega | (simp; done) | (simp; omega))] | rw [heap_setCell_ne _ _ _ _ _ (by omega)] | rw [heap_drew1])
                      exact H6.out
                  case measure => simp [intOf]; omega
            · have ed : decide (f ≤ C) = false := by simpa using hfc
              rw [ed] at hc2 HE SW
              generalize sw g.l g.a g.r false = G' at *
              generalize Dk ++ [false] = Dk' at *
              go_wp2_with fail
              go_region_held3 (fun w' => w'.cell? ⟨g8, 0, none⟩ = some (.int .i64 g.l) ∧ w'.cell? ⟨g8, 1, none⟩ = some (.int .i64 g.a) ∧ w'.cell? ⟨g8, 2, none⟩ = some (.int .i64 g.r) ∧ w'.cell? ⟨b, o + k, none⟩ = some (.int .i64 m)) (((try dsimp only); (repeat' apply And.intro) <;> ((repeat (first | rw [ext_cell_mk _ _ _ _ (by first | omega | (simp; done) | (simp; omega))] | rw [World.cell?_alloc_past _ _ _ (by first | omega | (simp; done) | (simp; omega))] | rw [World.cell?_drew])); assumption))) (first | (go_at_call 10; refine (PL.out _).mono ?_; rintro e w' ⟨rfl, z, rfl⟩))
              · go_wp2_with fail
                refine wp_region_ext (by kernel_rfl) (by kernel_rfl) ?_
                repeat (go_big_quiet_step ((fail)))
                refine wpQuiet_nil ?_
                rintro _ ⟨y, rfl⟩
                go_wp2_with fail
                go_region_held3 (fun w' => w'.cell? ⟨g8, 0, none⟩ = some (.int .i64 g.l) ∧ w'.cell? ⟨g8, 1, none⟩ = some (.int .i64 g.a) ∧ w'.cell? ⟨g8, 2, none⟩ = some (.int .i64 g.r) ∧ w'.cell? ⟨b2, o2 + k, none⟩ = some (.bool false)) (((try dsimp only); (repeat' apply And.intro) <;> ((repeat (first | rw [ext_cell_mk _ _ _ _ (by first | omega | (simp; done) | (simp; omega))] | rw [World.cell?_alloc_past _ _ _ (by first | omega | (simp; done) | (simp; omega))] | rw [World.cell?_drew])); assumption))) (first | (go_at_call 15; refine (SW.out _).mono ?_; rintro e w' ⟨rfl, z, rfl⟩))
                · go_wp2
                  go_roundw
                  case rel =>
                    refine ⟨k + 1, G', Dk', by omega, by go_num, HE.out, ?_, ?_, (by repeat (first | exact hbel | (with_reducible refine Below.setCell ?_ (by first | omega | (simp; done) | (simp; omega)) _) | (with_reducible refine Below.alloc ?_ (by first | omega | (simp; done) | (simp; omega)) _) | (with_reducible refine Below.onDrewN ?_ _) | (with_reducible refine Below.drew ?_) | (with_reducible refine Below.ofExt ?_ (by first | omega | (simp; done) | (simp; omega)))))⟩
                    · repeat (first | rw [heap_alloc_lt _ _ _ (by first | omega | (simp; done) | (simp; omega))] | rw [ext_block _ _ _ (by first | omega | (simp; done) | (simp; omega))])
                      exact heap_setCell_eq _ _ _ _ (heap_setCell_eq _ _ _ _ (heap_setCell_eq _ _ _ _ H8.out))
                    · repeat (first | rw [heap_alloc_lt _ _ _ (by first | omega | (simp; done) | (simp; omega))] | rw [ext_block _ _ _ (by first | omega | (simp; done) | (simp; omega))] | rw [heap_setCell_ne _ _ _ _ _ (by omega)] | rw [heap_drew1])
                      exact H6.out
                  case measure => simp [intOf]; omega
                · go_wp2
                  go_roundw
                  case rel =>
                    refine ⟨k + 1, G', Dk', by omega, by go_num, HE.out, ?_, ?_, (by repeat (first | exact hbel | (with_reducible refine Below.setCell ?_ (by first | omega | (simp; done) | (simp; omega)) _) | (with_reducible refine Below.alloc ?_ (by first | omega | (simp; done) | (simp; omega)) _) | (with_reducible refine Below.onDrewN ?_ _) | (with_reducible refine Below.drew ?_) | (with_reducible refine Below.ofExt ?_ (by first | omega | (simp; done) | (simp; omega)))))⟩
                    · repeat (first | rw [heap_alloc_lt _ _ _ (by first | omega | (simp; done) | (simp; omega))] | rw [ext_block _ _ _ (by first | omega | (simp; done) | (simp; omega))])
                      exact heap_setCell_eq _ _ _ _ (heap_setCell_eq _ _ _ _ (heap_setCell_eq _ _ _ _ H8.out))
                    · repeat (first | rw [heap_alloc_lt _ _ _ (by first | omega | (simp; done) | (simp; omega))] | rw [ext_block _ _ _ (by first | omega | (simp; done) | (simp; omega))] | rw [heap_setCell_ne _ _ _ _ _ (by omega)] | rw [heap_drew1])
                      exact H6.out
                  case measure => simp [intOf]; omega
              · go_wp2_with fail
                refine wp_region_ext (by kernel_rfl) (by kernel_rfl) ?_
                repeat (go_big_quiet_step ((fail)))
                refine wpQuiet_nil ?_
                rintro _ ⟨y, rfl⟩
                go_wp2_with fail
                go_region_held3 (fun w' => w'.cell? ⟨g8, 0, none⟩ = some (.int .i64 g.l) ∧ w'.cell? ⟨g8, 1, none⟩ = some (.int .i64 g.a) ∧ w'.cell? ⟨g8, 2, none⟩ = some (.int .i64 g.r) ∧ w'.cell? ⟨b2, o2 + k, none⟩ = some (.bool false)) (((try dsimp only); (repeat' apply And.intro) <;> ((repeat (first | rw [ext_cell_mk _ _ _ _ (by first | omega | (simp; done) | (simp; omega))] | rw [World.cell?_alloc_past _ _ _ (by first | omega | (simp; done) | (simp; omega))] | rw [World.cell?_drew])); assumption))) (first | (go_at_call 15; refine (SW.out _).mono ?_; rintro e w' ⟨rfl, z, rfl⟩))
                · go_wp2
                  go_roundw
                  case rel =>
                    refine ⟨k + 1, G', Dk', by omega, by go_num, HE.out, ?_, ?_, (by repeat (first | exact hbel | (with_reducible refine Below.setCell ?_ (by first | omega | (simp; done) | (simp; omega)) _) | (with_reducible refine Below.alloc ?_ (by first | omega | (simp; done) | (simp; omega)) _) | (with_reducible refine Below.onDrewN ?_ _) | (with_reducible refine Below.drew ?_) | (with_reducible refine Below.ofExt ?_ (by first | omega | (simp; done) | (simp; omega)))))⟩
                    · repeat (first | rw [heap_alloc_lt _ _ _ (by first | omega | (simp; done) | (simp; omega))] | rw [ext_block _ _ _ (by first | omega | (simp; done) | (simp; omega))])
                      exact heap_setCell_eq _ _ _ _ (heap_setCell_eq _ _ _ _ (heap_setCell_eq _ _ _ _ H8.out))
                    · repeat (first | rw [heap_alloc_lt _ _ _ (by first | omega | (simp; done) | (simp; omega))] | rw [ext_block _ _ _ (by first | omega | (simp; done) | (simp; omega))] | rw [heap_setCell_ne _ _ _ _ _ (by omega)] | rw [heap_drew1])
                      exact H6.out
                  case measure => simp [intOf]; omega
                · go_wp2
                  go_roundw
                  case rel =>
                    refine ⟨k + 1, G', Dk', by omega, by go_num, HE.out, ?_, ?_, (by repeat (first | exact hbel | (with_reducible refine Below.setCell ?_ (by first | omega | (simp; done) | (simp; omega)) _) | (with_reducible refine Below.alloc ?_ (by first | omega | (simp; done) | (simp; omega)) _) | (with_reducible refine Below.onDrewN ?_ _) | (with_reducible refine Below.drew ?_) | (with_reducible refine Below.ofExt ?_ (by first | omega | (simp; done) | (simp; omega)))))⟩
                    · repeat (first | rw [heap_alloc_lt _ _ _ (by first | omega | (simp; done) | (simp; omega))] | rw [ext_block _ _ _ (by first | omega | (simp; done) | (simp; omega))])
                      exact heap_setCell_eq _ _ _ _ (heap_setCell_eq _ _ _ _ (heap_setCell_eq _ _ _ _ H8.out))
                    · repeat (first | rw [heap_alloc_lt _ _ _ (by first | omega | (simp; done) | (simp; omega))] | rw [ext_block _ _ _ (by first | omega | (simp; done) | (simp; omega))] | rw [heap_setCell_ne _ _ _ _ _ (by omega)] | rw [heap_drew1])
                      exact H6.out
                  case measure => simp [intOf]; omega
          · have en := EN.out k g Dk HI.out (by omega)
            simp only [Prod.mk.injEq, and_true] at en
            obtain ⟨rfl, rfl⟩ := en
            have t1 := eq3_self R.l R.a R.r
            go_wp2_with (first | (go_at_call 11; (first | (with_reducible refine (Calls.ext_of (alive_any _)).mono ?_) | refine (alive_any _).mono ?_); rintro e w' ⟨rfl, z, rfl⟩))
            go_ret
            exact ⟨rfl, below_ext (hw5.trans (Below.mono (by repeat (first | exact hbel | (with_reducible refine Below.setCell ?_ (by first | omega | (simp; done) | (simp; omega)) _) | (with_reducible refine Below.alloc ?_ (by first | omega | (simp; done) | (simp; omega)) _) | (with_reducible refine Below.onDrewN ?_ _) | (with_reducible refine Below.drew ?_) | (with_reducible refine Below.ofExt ?_ (by first | omega | (simp; done) | (simp; omega))))) hw5.size))⟩
      · obtain ⟨rfl, rfl⟩ := ER.out he
        have heb : (er != 0) = true := by simpa using he
        have t1 : eq3 0 0 0 0 0 0 = true := by decide
        clear he ER MO AT EN
        go_enter Try.func4, Try.ntmps4
        go_wp2_with fail
        refine (K1.out _ h1.out h2.out).mono ?_
        rintro e w' ⟨av, cap, rfl, hrow, z5, rfl⟩
        clear hrow K1
        go_wp2_with (first | (go_at_call 11; (first | (with_reducible refine (Calls.ext_of (alive_any _)).mono ?_) | refine (alive_any _).mono ?_); rintro e w' ⟨rfl, z, rfl⟩))
        go_ret
        exact ⟨rfl, (below_ext (by repeat (first | exact Below.refl _ _ | (with_reducible refine Below.setCell ?_ (by first | (simp; done) | (simp; omega)) _) | (with_reducible refine Below.alloc ?_ (by first | (simp; done) | (simp; omega)) _) | (with_reducible refine Below.onDrewN ?_ _) | (with_reducible refine Below.drew ?_) | (with_reducible refine Below.ofExt ?_ (by first | (simp; done) | (simp; omega))))))⟩
    · have q1 : (F.length != L.length) = true := by rw [bne_iff_ne]; omega
      have q2 : ((F.length : Int) != (L.length : Int)) = true := by rw [bne_iff_ne]; omega
      go_enter Try.func4, Try.ntmps4
      go_wp2_with (first | (go_at_call 11; (first | (with_reducible refine (Calls.ext_of (alive_any _)).mono ?_) | refine (alive_any _).mono ?_); rintro e w' ⟨rfl, z, rfl⟩))
      go_ret
      exact ⟨rfl, (below_ext (by repeat (first | exact Below.refl _ _ | (with_reducible refine Below.setCell ?_ (by first | (simp; done) | (simp; omega)) _) | (with_reducible refine Below.alloc ?_ (by first | (simp; done) | (simp; omega)) _) | (with_reducible refine Below.onDrewN ?_ _) | (with_reducible refine Below.drew ?_) | (with_reducible refine Below.ofExt ?_ (by first | (simp; done) | (simp; omega))))))⟩

set_option maxRecDepth 100000 in
theorem inspectDecides_lifted (os : Os) (started : os.Started) (H : Type) (enc : TypeId × Value → H) :
    ReturnsInHanded {} Try.checked os 4 .any (Rows.inspectDecidesSpec.pre6 enc Try.prog Try.f4 Rows.inspectDecidesRow.domain false) (Rows.inspectDecidesSpec.post enc Try.prog Try.f4 false true false false) := by
  refine returnsInHanded_of_change (C := Try.checked) own started (by kernel_rfl) Try.func4
    (ChangeSpec.witness6 (enc := enc) (C := Try.checked) false ⟨#[], #[.slice none 0 0, .slice none 0 0], []⟩ 8 (by kernel_rfl) (by kernel_rfl) (by kernel_rfl) (by kernel_rfl)) ?_
  intro W base args ds gs before hval0 hW hcnd _
  have hval : ∀ (j : Nat) t v, Try.f4.params[j]? = some t → args[j]? = some v → Value.okWide Try.prog W .any base t v := hval0
  have hW' := hW
  obtain ⟨p, q, hA0, hV, rfl, hfz, hnd⟩ := hW
  have hA : DataW.TrodAll enc Try.prog W 0 (fun _ => true) true Try.f4.params.toList args.toList ds p := hA0
  rw [Try.params4] at hA hval
  obtain ⟨v0, v1, d0, d1, p0, p1, rfl, rfl, rfl, h0, h1⟩ := trodAll_two hA
  obtain ⟨a0, c0, L, rfl, m0, r0⟩ := open_row1 (g := Value.int .i64) Try.underlying33 Try.cells3 cell_int (hval 0 33 v0 rfl rfl) h0
  obtain ⟨a1, c1, F, rfl, m1, r1⟩ := open_row1 (g := Value.int .i64) Try.underlying33 Try.cells3 cell_int (hval 1 33 v1 rfl rfl) h1
  refine (decides_walk a0 a1 c0 c1 L F W r0 r1 m0).mono fun e W' ⟨he, z, hz⟩ => ?_
  subst he hz
  exact ⟨_, rfl, law_post rfl (by kernel_rfl) (by kernel_rfl) Try.underlying4 hW' (fun _ => ⟨rfl, rfl, rfl⟩) (ext_below _ _)⟩

theorem inspectDecides_holds : Rows.InspectDecidesSaid :=
  OpenClaim.holds_of_wide 4 Try.f4 rfl rfl rfl rfl rfl rfl rfl ⟨rfl, rfl, rfl, rfl, rfl⟩ rfl rfl rfl rfl rfl (by kernel_rfl) Try.func4 (by kernel_rfl)
    (of_decide_eq_true (by kernel_rfl)) (by unfold Func.isWrapper; first | (rw [if_pos (by decide +kernel)]; kernel_rfl) | (rw [if_neg (by decide +kernel)]; exact ⟨rfl, rfl⟩))
    (fun os started H enc _ => inspectDecides_lifted os started H enc)
#print axioms inspectDecides_holds
end Go.Proofs.Ytnnedgdbbecmcaa
