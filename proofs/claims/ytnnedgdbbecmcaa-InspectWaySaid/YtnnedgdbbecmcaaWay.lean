/-
  InspectWay returns true for every list of decisions; no condition.
-/
import Derived.Test.YtnnedgdbbecmcaaAl
import Derived.Test.YtnnedgdbbecmcaaArgs
import Derived.Deep.RegionHeld3
namespace Go.Proofs.Ytnnedgdbbecmcaa
open Go.RowKit Go.ChangeShapes Go.WideShapes Go.ChangeAt

theorem Try.cells3 : Try.prog.cellsOf 3 = 1 := by kernel_rfl
theorem Try.cells4 : Try.prog.cellsOf 4 = 1 := by kernel_rfl

set_option maxHeartbeats 16000000 in
theorem way_walk (ad : Option Addr) (c : Nat) (L : List Bool) (w : World) (h : RowAt w ad (L.map .bool)) (hm : L.length ≤ maxLen) :
    Calls Try.prog 8 #[.slice ad L.length c] w fun e w' => e = .returned (.bool true) ∧ ∃ z, w' = ext w z := by
  unfold maxLen at hm
  have h1 := Lib.hid h
  clear h
  by_cases g1 : 300 < L.length
  · go_enter Try.func8, Try.ntmps8
    go_wp2_with (first | (go_at_call 11; (first | (with_reducible refine (Calls.ext_of (alive_any _)).mono ?_) | refine (alive_any _).mono ?_); rintro e w' ⟨rfl, z, rfl⟩))
    go_ret
    exact ⟨rfl, (below_ext (by repeat (first | exact Below.refl _ _ | (with_reducible refine Below.setCell ?_ (by first | (simp; done) | (simp; omega)) _) | (with_reducible refine Below.alloc ?_ (by first | (simp; done) | (simp; omega)) _) | (with_reducible refine Below.onDrewN ?_ _) | (with_reducible refine Below.drew ?_) | (with_reducible refine Below.ofExt ?_ (by first | (simp; done) | (simp; omega))))))⟩
  · generalize hn : L.length = n at *
    have HN := Lib.hid hn
    clear hn
    go_enter Try.func8, Try.ntmps8
    go_wp2_with (first | (go_at_call 13; (first | (with_reducible refine (Calls.ext_of (Start_any _)).mono ?_) | refine (Start_any _).mono ?_); rintro e w' ⟨rfl, z, rfl⟩))
    generalize hg3 : w.heap.size + z.heap.size = g3
    have G3 := Lib.hid hg3
    have hg3' : w.heap.size ≤ g3 := by omega
    clear hg3
    go_loopw [4, 5] (fun rj i wr => ∃ (k : Nat) (l a r rej : Int), k ≤ n ∧ i = .int .i64 k ∧ rj = .int .i64 rej ∧ WayInv l a r rej ∧ wr.heap[g3]? = some (.cells #[.int .i64 l, .int .i64 a, .int .i64 r] 23 (0, 0)) ∧ Below w.heap.size w wr) (fun _ i _ => n - (intOf i).toNat)
    case atStart =>
      refine ⟨0, 2, 0, 0, 0, by omega, rfl, rfl, wayInv_zero, ?_, ?_⟩
      · exact heap_alloc_at _ _ _ (by rw [← G3.out]; simp)
      · exact (by repeat (first | exact Below.refl _ _ | (with_reducible refine Below.setCell ?_ (by first | (simp; done) | (simp; omega)) _) | (with_reducible refine Below.alloc ?_ (by first | (simp; done) | (simp; omega)) _) | (with_reducible refine Below.onDrewN ?_ _) | (with_reducible refine Below.drew ?_) | (with_reducible refine Below.ofExt ?_ (by first | (simp; done) | (simp; omega)))))
    case round =>
      obtain ⟨k, l, a, r, rej, hk, rfl, rfl, hinv, hb3, hbel⟩ := hrel
      have HI := Lib.hid hinv
      have H3 := Lib.hid hb3
      have lo := hinv.lo
      have hi := hinv.hi
      clear hinv hb3
      obtain ⟨s3, c0, c1, c2, f0, f1, f2⟩ := cell3 H3.out
      have hsz := hbel.size
      by_cases hlt : k < n
      · have kL : k < L.length := by rw [HN.out]; exact hlt
        obtain ⟨b, o, rfl, bl, hc⟩ := (h1.out.below hbel).at (k := k) (by simpa using kL)
        rw [List.getElem_map] at hc
        generalize L[k] = x at hc
        clear kL
        have i1 : (0 : Int) ≤ (k : Int) := by omega
        have i2 : (k : Int) < (n : Int) := by omega
        have SW := Lib.hid (Switch_any l a r x)
        by_cases l4 : l = 4
        · subst l4
          have e8 := swE_stop HI.out.ok
          rw [e8] at SW
          clear e8
          go_wp2_with fail
          go_region_held3 (fun w' => w'.cell? ⟨g3, 0, none⟩ = some (.int .i64 4) ∧ w'.cell? ⟨g3, 1, none⟩ = some (.int .i64 a) ∧ w'.cell? ⟨g3, 2, none⟩ = some (.int .i64 r) ∧ w'.cell? ⟨b, o + k, none⟩ = some (.bool x)) (((try dsimp only); (repeat' apply And.intro) <;> ((repeat (first | rw [ext_cell_mk _ _ _ _ (by first | omega | (simp; done) | (simp; omega))] | rw [World.cell?_alloc_past _ _ _ (by first | omega | (simp; done) | (simp; omega))] | rw [World.cell?_drew])); assumption))) (first | (go_at_call 15; refine (SW.out _).mono ?_; rintro e w' ⟨rfl, z, rfl⟩))
          · go_wp2_with (first | (go_at_call 11; (first | (with_reducible refine (Calls.ext_of (alive_any _)).mono ?_) | refine (alive_any _).mono ?_); rintro e w' ⟨rfl, z, rfl⟩))
            go_ret
            exact ⟨rfl, (below_ext (by repeat (first | exact hbel | (with_reducible refine Below.setCell ?_ (by first | omega | (simp; done) | (simp; omega)) _) | (with_reducible refine Below.alloc ?_ (by first | omega | (simp; done) | (simp; omega)) _) | (with_reducible refine Below.onDrewN ?_ _) | (with_reducible refine Below.drew ?_) | (with_reducible refine Below.ofExt ?_ (by first | omega | (simp; done) | (simp; omega))))))⟩
          · go_wp2_with (first | (go_at_call 11; (first | (with_reducible refine (Calls.ext_of (alive_any _)).mono ?_) | refine (alive_any _).mono ?_); rintro e w' ⟨rfl, z, rfl⟩))
            go_ret
            exact ⟨rfl, (below_ext (by repeat (first | exact hbel | (with_reducible refine Below.setCell ?_ (by first | omega | (simp; done) | (simp; omega)) _) | (with_reducible refine Below.alloc ?_ (by first | omega | (simp; done) | (simp; omega)) _) | (with_reducible refine Below.onDrewN ?_ _) | (with_reducible refine Below.drew ?_) | (with_reducible refine Below.ofExt ?_ (by first | omega | (simp; done) | (simp; omega))))))⟩
        · obtain ⟨w1, n4, n3⟩ := way_step x HI.out l4
          have e0 := swE_go HI.out.ok l4
          rw [e0] at SW
          clear e0
          have HW := Lib.hid w1
          have N4 := Lib.hid n4
          have N3 := Lib.hid n3
          clear w1 n4 n3
          generalize (sw l a r x).l = x1 at *
          generalize (sw l a r x).a = x2 at *
          generalize (sw l a r x).r = x3 at *
          have l4b : (l == 4) = false := by simpa using l4
          by_cases l3 : l = 3
          · subst l3
            cases x
            · have ej : rejN 3 rej false = rej + 1 := by simp [rejN]
              rw [ej] at HW N4 N3
              clear ej
              by_cases y4 : x1 = 4
              · have q5 := N4.out y4
                subst y4
                obtain rfl : rej = 4 := by omega
                clear q5
                go_wp2_with fail
                go_region_held3 (fun w' => w'.cell? ⟨g3, 0, none⟩ = some (.int .i64 3) ∧ w'.cell? ⟨g3, 1, none⟩ = some (.int .i64 a) ∧ w'.cell? ⟨g3, 2, none⟩ = some (.int .i64 r) ∧ w'.cell? ⟨b, o + k, none⟩ = some (.bool false)) (((try dsimp only); (repeat' apply And.intro) <;> ((repeat (first | rw [ext_cell_mk _ _ _ _ (by first | omega | (simp; done) | (simp; omega))] | rw [World.cell?_alloc_past _ _ _ (by first | omega | (simp; done) | (simp; omega))] | rw [World.cell?_drew])); assumption))) (first | (go_at_call 15; refine (SW.out _).mono ?_; rintro e w' ⟨rfl, z, rfl⟩))
                · go_wp2
                  go_roundw
                  case rel =>
                    refine ⟨k + 1, 4, x2, x3, 5, by omega, by go_num, by go_num, HW.out, ?_, (by repeat (first | exact hbel | (with_reducible refine Below.setCell ?_ (by first | omega | (simp; done) | (simp; omega)) _) | (with_reducible refine Below.alloc ?_ (by first | omega | (simp; done) | (simp; omega)) _) | (with_reducible refine Below.onDrewN ?_ _) | (with_reducible refine Below.drew ?_) | (with_reducible refine Below.ofExt ?_ (by first | omega | (simp; done) | (simp; omega)))))⟩
                    repeat (first | rw [heap_alloc_lt _ _ _ (by first | omega | (simp; done) | (simp; omega))] | rw [ext_block _ _ _ (by first | omega | (simp; done) | (simp; omega))])
                    exact heap_setCell_eq _ _ _ _ (heap_setCell_eq _ _ _ _ (heap_setCell_eq _ _ _ _ H3.out))
                  case measure => simp [intOf]; omega
                · go_wp2
                  go_roundw
                  case rel =>
                    refine ⟨k + 1, 4, x2, x3, 5, by omega, by go_num, by go_num, HW.out, ?_, (by repeat (first | exact hbel | (with_reducible refine Below.setCell ?_ (by first | omega | (simp; done) | (simp; omega)) _) | (with_reducible refine Below.alloc ?_ (by first | omega | (simp; done) | (simp; omega)) _) | (with_reducible refine Below.onDrewN ?_ _) | (with_reducible refine Below.drew ?_) | (with_reducible refine Below.ofExt ?_ (by first | omega | (simp; done) | (simp; omega)))))⟩
                    repeat (first | rw [heap_alloc_lt _ _ _ (by first | omega | (simp; done) | (simp; omega))] | rw [ext_block _ _ _ (by first | omega | (simp; done) | (simp; omega))])
                    exact heap_setCell_eq _ _ _ _ (heap_setCell_eq _ _ _ _ (heap_setCell_eq _ _ _ _ H3.out))
                  case measure => simp [intOf]; omega
              · by_cases y3 : x1 = 3
                · have q5 := N3.out y3
                  subst y3
                  go_wp2_with fail
                  go_region_held3 (fun w' => w'.cell? ⟨g3, 0, none⟩ = some (.int .i64 3) ∧ w'.cell? ⟨g3, 1, none⟩ = some (.int .i64 a) ∧ w'.cell? ⟨g3, 2, none⟩ = some (.int .i64 r) ∧ w'.cell? ⟨b, o + k, none⟩ = some (.bool false)) (((try dsimp only); (repeat' apply And.intro) <;> ((repeat (first | rw [ext_cell_mk _ _ _ _ (by first | omega | (simp; done) | (simp; omega))] | rw [World.cell?_alloc_past _ _ _ (by first | omega | (simp; done) | (simp; omega))] | rw [World.cell?_drew])); assumption))) (first | (go_at_call 15; refine (SW.out _).mono ?_; rintro e w' ⟨rfl, z, rfl⟩))
                  · go_wp2
                    go_roundw
                    case rel =>
                      refine ⟨k + 1, 3, x2, x3, rej + 1, by omega, by go_num, by go_num, HW.out, ?_, (by repeat (first | exact hbel | (with_reducible refine Below.setCell ?_ (by first | omega | (simp; done) | (simp; omega)) _) | (with_reducible refine Below.alloc ?_ (by first | omega | (simp; done) | (simp; omega)) _) | (with_reducible refine Below.onDrewN ?_ _) | (with_reducible refine Below.drew ?_) | (with_reducible refine Below.ofExt ?_ (by first | omega | (simp; done) | (simp; omega)))))⟩
                      repeat (first | rw [heap_alloc_lt _ _ _ (by first | omega | (simp; done) | (simp; omega))] | rw [ext_block _ _ _ (by first | omega | (simp; done) | (simp; omega))])
                      exact heap_setCell_eq _ _ _ _ (heap_setCell_eq _ _ _ _ (heap_setCell_eq _ _ _ _ H3.out))
                    case measure => simp [intOf]; omega
                  · go_wp2
                    go_roundw
                    case rel =>
                      refine ⟨k + 1, 3, x2, x3, rej + 1, by omega, by go_num, by go_num, HW.out, ?_, (by repeat (first | exact hbel | (with_reducible refine Below.setCell ?_ (by first | omega | (simp; done) | (simp; omega)) _) | (with_reducible refine Below.alloc ?_ (by first | omega | (simp; done) | (simp; omega)) _) | (with_reducible refine Below.onDrewN ?_ _) | (with_reducible refine Below.drew ?_) | (with_reducible refine Below.ofExt ?_ (by first | omega | (simp; done) | (simp; omega)))))⟩
                      repeat (first | rw [heap_alloc_lt _ _ _ (by first | omega | (simp; done) | (simp; omega))] | rw [ext_block _ _ _ (by first | omega | (simp; done) | (simp; omega))])
                      exact heap_setCell_eq _ _ _ _ (heap_setCell_eq _ _ _ _ (heap_setCell_eq _ _ _ _ H3.out))
                    case measure => simp [intOf]; omega
                · have y4b : (x1 == 4) = false := by simpa using y4
                  have y3b : (x1 == 3) = false := by simpa using y3
                  go_wp2_with fail
                  go_region_held3 (fun w' => w'.cell? ⟨g3, 0, none⟩ = some (.int .i64 3) ∧ w'.cell? ⟨g3, 1, none⟩ = some (.int .i64 a) ∧ w'.cell? ⟨g3, 2, none⟩ = some (.int .i64 r) ∧ w'.cell? ⟨b, o + k, none⟩ = some (.bool false)) (((try dsimp only); (repeat' apply And.intro) <;> ((repeat (first | rw [ext_cell_mk _ _ _ _ (by first | omega | (simp; done) | (simp; omega))] | rw [World.cell?_alloc_past _ _ _ (by first | omega | (simp; done) | (simp; omega))] | rw [World.cell?_drew])); assumption))) (first | (go_at_call 15; refine (SW.out _).mono ?_; rintro e w' ⟨rfl, z, rfl⟩))
                  · go_wp2
                    go_roundw
                    case rel =>
                      refine ⟨k + 1, x1, x2, x3, rej + 1, by omega, by go_num, by go_num, HW.out, ?_, (by repeat (first | exact hbel | (with_reducible refine Below.setCell ?_ (by first | omega | (simp; done) | (simp; omega)) _) | (with_reducible refine Below.alloc ?_ (by first | omega | (simp; done) | (simp; omega)) _) | (with_reducible refine Below.onDrewN ?_ _) | (with_reducible refine Below.drew ?_) | (with_reducible refine Below.ofExt ?_ (by first | omega | (simp; done) | (simp; omega)))))⟩
                      repeat (first | rw [heap_alloc_lt _ _ _ (by first | omega | (simp; done) | (simp; omega))] | rw [ext_block _ _ _ (by first | omega | (simp; done) | (simp; omega))])
                      exact heap_setCell_eq _ _ _ _ (heap_setCell_eq _ _ _ _ (heap_setCell_eq _ _ _ _ H3.out))
                    case measure => simp [intOf]; omega
                  · go_wp2
                    go_roundw
                    case rel =>
                      refine ⟨k + 1, x1, x2, x3, rej + 1, by omega, by go_num, by go_num, HW.out, ?_, (by repeat (first | exact hbel | (with_reducible refine Below.setCell ?_ (by first | omega | (simp; done) | (simp; omega)) _) | (with_reducible refine Below.alloc ?_ (by first | omega | (simp; done) | (simp; omega)) _) | (with_reducible refine Below.onDrewN ?_ _) | (with_reducible refine Below.drew ?_) | (with_reducible refine Below.ofExt ?_ (by first | omega | (simp; done) | (simp; omega)))))⟩
                      repeat (first | rw [heap_alloc_lt _ _ _ (by first | omega | (simp; done) | (simp; omega))] | rw [ext_block _ _ _ (by first | omega | (simp; done) | (simp; omega))])
                      exact heap_setCell_eq _ _ _ _ (heap_setCell_eq _ _ _ _ (heap_setCell_eq _ _ _ _ H3.out))
                    case measure => simp [intOf]; omega
            · have ej : rejN 3 rej true = rej := by simp [rejN]
              rw [ej] at HW N4 N3
              clear ej
              by_cases y4 : x1 = 4
              · have q5 := N4.out y4
                subst y4
                obtain rfl : rej = 5 := q5
                go_wp2_with fail
                go_region_held3 (fun w' => w'.cell? ⟨g3, 0, none⟩ = some (.int .i64 3) ∧ w'.cell? ⟨g3, 1, none⟩ = some (.int .i64 a) ∧ w'.cell? ⟨g3, 2, none⟩ = some (.int .i64 r) ∧ w'.cell? ⟨b, o + k, none⟩ = some (.bool true)) (((try dsimp only); (repeat' apply And.intro) <;> ((repeat (first | rw [ext_cell_mk _ _ _ _ (by first | omega | (simp; done) | (simp; omega))] | rw [World.cell?_alloc_past _ _ _ (by first | omega | (simp; done) | (simp; omega))] | rw [World.cell?_drew])); assumption))) (first | (go_at_call 15; refine (SW.out _).mono ?_; rintro e w' ⟨rfl, z, rfl⟩))
                · go_wp2
                  go_roundw
                  case rel =>
                    refine ⟨k + 1, 4, x2, x3, 5, by omega, by go_num, by go_num, HW.out, ?_, (by repeat (first | exact hbel | (with_reducible refine Below.setCell ?_ (by first | omega | (simp; done) | (simp; omega)) _) | (with_reducible refine Below.alloc ?_ (by first | omega | (simp; done) | (simp; omega)) _) | (with_reducible refine Below.onDrewN ?_ _) | (with_reducible refine Below.drew ?_) | (with_reducible refine Below.ofExt ?_ (by first | omega | (simp; done) | (simp; omega)))))⟩
                    repeat (first | rw [heap_alloc_lt _ _ _ (by first | omega | (simp; done) | (simp; omega))] | rw [ext_block _ _ _ (by first | omega | (simp; done) | (simp; omega))])
                    exact heap_setCell_eq _ _ _ _ (heap_setCell_eq _ _ _ _ (heap_setCell_eq _ _ _ _ H3.out))
                  case measure => simp [intOf]; omega
                · go_wp2
                  go_roundw
                  case rel =>
                    refine ⟨k + 1, 4, x2, x3, 5, by omega, by go_num, by go_num, HW.out, ?_, (by repeat (first | exact hbel | (with_reducible refine Below.setCell ?_ (by first | omega | (simp; done) | (simp; omega)) _) | (with_reducible refine Below.alloc ?_ (by first | omega | (simp; done) | (simp; omega)) _) | (with_reducible refine Below.onDrewN ?_ _) | (with_reducible refine Below.drew ?_) | (with_reducible refine Below.ofExt ?_ (by first | omega | (simp; done) | (simp; omega)))))⟩
                    repeat (first | rw [heap_alloc_lt _ _ _ (by first | omega | (simp; done) | (simp; omega))] | rw [ext_block _ _ _ (by first | omega | (simp; done) | (simp; omega))])
                    exact heap_setCell_eq _ _ _ _ (heap_setCell_eq _ _ _ _ (heap_setCell_eq _ _ _ _ H3.out))
                  case measure => simp [intOf]; omega
              · by_cases y3 : x1 = 3
                · have q5 := N3.out y3
                  subst y3
                  go_wp2_with fail
                  go_region_held3 (fun w' => w'.cell? ⟨g3, 0, none⟩ = some (.int .i64 3) ∧ w'.cell? ⟨g3, 1, none⟩ = some (.int .i64 a) ∧ w'.cell? ⟨g3, 2, none⟩ = some (.int .i64 r) ∧ w'.cell? ⟨b, o + k, none⟩ = some (.bool true)) (((try dsimp only); (repeat' apply And.intro) <;> ((repeat (first | rw [ext_cell_mk _ _ _ _ (by first | omega | (simp; done) | (simp; omega))] | rw [World.cell?_alloc_past _ _ _ (by first | omega | (simp; done) | (simp; omega))] | rw [World.cell?_drew])); assumption))) (first | (go_at_call 15; refine (SW.out _).mono ?_; rintro e w' ⟨rfl, z, rfl⟩))
                  · go_wp2
                    go_roundw
                    case rel =>
                      refine ⟨k + 1, 3, x2, x3, rej, by omega, by go_num, by go_num, HW.out, ?_, (by repeat (first | exact hbel | (with_reducible refine Below.setCell ?_ (by first | omega | (simp; done) | (simp; omega)) _) | (with_reducible refine Below.alloc ?_ (by first | omega | (simp; done) | (simp; omega)) _) | (with_reducible refine Below.onDrewN ?_ _) | (with_reducible refine Below.drew ?_) | (with_reducible refine Below.ofExt ?_ (by first | omega | (simp; done) | (simp; omega)))))⟩
                      repeat (first | rw [heap_alloc_lt _ _ _ (by first | omega | (simp; done) | (simp; omega))] | rw [ext_block _ _ _ (by first | omega | (simp; done) | (simp; omega))])
                      exact heap_setCell_eq _ _ _ _ (heap_setCell_eq _ _ _ _ (heap_setCell_eq _ _ _ _ H3.out))
                    case measure => simp [intOf]; omega
                  · go_wp2
                    go_roundw
                    case rel =>
                      refine ⟨k + 1, 3, x2, x3, rej, by omega, by go_num, by go_num, HW.out, ?_, (by repeat (first | exact hbel | (with_reducible refine Below.setCell ?_ (by first | omega | (simp; done) | (simp; omega)) _) | (with_reducible refine Below.alloc ?_ (by first | omega | (simp; done) | (simp; omega)) _) | (with_reducible refine Below.onDrewN ?_ _) | (with_reducible refine Below.drew ?_) | (with_reducible refine Below.ofExt ?_ (by first | omega | (simp; done) | (simp; omega)))))⟩
                      repeat (first | rw [heap_alloc_lt _ _ _ (by first | omega | (simp; done) | (simp; omega))] | rw [ext_block _ _ _ (by first | omega | (simp; done) | (simp; omega))])
                      exact heap_setCell_eq _ _ _ _ (heap_setCell_eq _ _ _ _ (heap_setCell_eq _ _ _ _ H3.out))
                    case measure => simp [intOf]; omega
                · have y4b : (x1 == 4) = false := by simpa using y4
                  have y3b : (x1 == 3) = false := by simpa using y3
                  go_wp2_with fail
                  go_region_held3 (fun w' => w'.cell? ⟨g3, 0, none⟩ = some (.int .i64 3) ∧ w'.cell? ⟨g3, 1, none⟩ = some (.int .i64 a) ∧ w'.cell? ⟨g3, 2, none⟩ = some (.int .i64 r) ∧ w'.cell? ⟨b, o + k, none⟩ = some (.bool true)) (((try dsimp only); (repeat' apply And.intro) <;> ((repeat (first | rw [ext_cell_mk _ _ _ _ (by first | omega | (simp; done) | (simp; omega))] | rw [World.cell?_alloc_past _ _ _ (by first | omega | (simp; done) | (simp; omega))] | rw [World.cell?_drew])); assumption))) (first | (go_at_call 15; refine (SW.out _).mono ?_; rintro e w' ⟨rfl, z, rfl⟩))
                  · go_wp2
                    go_roundw
                    case rel =>
                      refine ⟨k + 1, x1, x2, x3, rej, by omega, by go_num, by go_num, HW.out, ?_, (by repeat (first | exact hbel | (with_reducible refine Below.setCell ?_ (by first | omega | (simp; done) | (simp; omega)) _) | (with_reducible refine Below.alloc ?_ (by first | omega | (simp; done) | (simp; omega)) _) | (with_reducible refine Below.onDrewN ?_ _) | (with_reducible refine Below.drew ?_) | (with_reducible refine Below.ofExt ?_ (by first | omega | (simp; done) | (simp; omega)))))⟩
                      repeat (first | rw [heap_alloc_lt _ _ _ (by first | omega | (simp; done) | (simp; omega))] | rw [ext_block _ _ _ (by first | omega | (simp; done) | (simp; omega))])
                      exact heap_setCell_eq _ _ _ _ (heap_setCell_eq _ _ _ _ (heap_setCell_eq _ _ _ _ H3.out))
                    case measure => simp [intOf]; omega
                  · go_wp2
                    go_roundw
                    case rel =>
                      refine ⟨k + 1, x1, x2, x3, rej, by omega, by go_num, by go_num, HW.out, ?_, (by repeat (first | exact hbel | (with_reducible refine Below.setCell ?_ (by first | omega | (simp; done) | (simp; omega)) _) | (with_reducible refine Below.alloc ?_ (by first | omega | (simp; done) | (simp; omega)) _) | (with_reducible refine Below.onDrewN ?_ _) | (with_reducible refine Below.drew ?_) | (with_reducible refine Below.ofExt ?_ (by first | omega | (simp; done) | (simp; omega)))))⟩
                      repeat (first | rw [heap_alloc_lt _ _ _ (by first | omega | (simp; done) | (simp; omega))] | rw [ext_block _ _ _ (by first | omega | (simp; done) | (simp; omega))])
                      exact heap_setCell_eq _ _ _ _ (heap_setCell_eq _ _ _ _ (heap_setCell_eq _ _ _ _ H3.out))
                    case measure => simp [intOf]; omega
          · have l3b : (l == 3) = false := by simpa using l3
            have ej : rejN l rej x = 0 := by simp [rejN, l3]
            rw [ej] at HW N4 N3
            clear ej
            by_cases y4 : x1 = 4
            · have q5 := N4.out y4
              exact absurd q5 (by decide)
            · by_cases y3 : x1 = 3
              · have q5 := N3.out y3
                subst y3
                go_wp2_with fail
                go_region_held3 (fun w' => w'.cell? ⟨g3, 0, none⟩ = some (.int .i64 l) ∧ w'.cell? ⟨g3, 1, none⟩ = some (.int .i64 a) ∧ w'.cell? ⟨g3, 2, none⟩ = some (.int .i64 r) ∧ w'.cell? ⟨b, o + k, none⟩ = some (.bool x)) (((try dsimp only); (repeat' apply And.intro) <;> ((repeat (first | rw [ext_cell_mk _ _ _ _ (by first | omega | (simp; done) | (simp; omega))] | rw [World.cell?_alloc_past _ _ _ (by first | omega | (simp; done) | (simp; omega))] | rw [World.cell?_drew])); assumption))) (first | (go_at_call 15; refine (SW.out _).mono ?_; rintro e w' ⟨rfl, z, rfl⟩))
                · go_wp2
                  go_roundw
                  case rel =>
                    refine ⟨k + 1, 3, x2, x3, 0, by omega, by go_num, by go_num, HW.out, ?_, (by repeat (first | exact hbel | (with_reducible refine Below.setCell ?_ (by first | omega | (simp; done) | (simp; omega)) _) | (with_reducible refine Below.alloc ?_ (by first | omega | (simp; done) | (simp; omega)) _) | (with_reducible refine Below.onDrewN ?_ _) | (with_reducible refine Below.drew ?_) | (with_reducible refine Below.ofExt ?_ (by first | omega | (simp; done) | (simp; omega)))))⟩
                    repeat (first | rw [heap_alloc_lt _ _ _ (by first | omega | (simp; done) | (simp; omega))] | rw [ext_block _ _ _ (by first | omega | (simp; done) | (simp; omega))])
                    exact heap_setCell_eq _ _ _ _ (heap_setCell_eq _ _ _ _ (heap_setCell_eq _ _ _ _ H3.out))
                  case measure => simp [intOf]; omega
                · go_wp2
                  go_roundw
                  case rel =>
                    refine ⟨k + 1, 3, x2, x3, 0, by omega, by go_num, by go_num, HW.out, ?_, (by repeat (first | exact hbel | (with_reducible refine Below.setCell ?_ (by first | omega | (simp; done) | (simp; omega)) _) | (with_reducible refine Below.alloc ?_ (by first | omega | (simp; done) | (simp; omega)) _) | (with_reducible refine Below.onDrewN ?_ _) | (with_reducible refine Below.drew ?_) | (with_reducible refine Below.ofExt ?_ (by first | omega | (simp; done) | (simp; omega)))))⟩
                    repeat (first | rw [heap_alloc_lt _ _ _ (by first | omega | (simp; done) | (simp; omega))] | rw [ext_block _ _ _ (by first | omega | (simp; done) | (simp; omega))])
                    exact heap_setCell_eq _ _ _ _ (heap_setCell_eq _ _ _ _ (heap_setCell_eq _ _ _ _ H3.out))
                  case measure => simp [intOf]; omega
              · have y4b : (x1 == 4) = false := by simpa using y4
                have y3b : (x1 == 3) = false := by simpa using y3
                go_wp2_with fail
                go_region_held3 (fun w' => w'.cell? ⟨g3, 0, none⟩ = some (.int .i64 l) ∧ w'.cell? ⟨g3, 1, none⟩ = some (.int .i64 a) ∧ w'.cell? ⟨g3, 2, none⟩ = some (.int .i64 r) ∧ w'.cell? ⟨b, o + k, none⟩ = some (.bool x)) (((try dsimp only); (repeat' apply And.intro) <;> ((repeat (first | rw [ext_cell_mk _ _ _ _ (by first | omega | (simp; done) | (simp; omega))] | rw [World.cell?_alloc_past _ _ _ (by first | omega | (simp; done) | (simp; omega))] | rw [World.cell?_drew])); assumption))) (first | (go_at_call 15; refine (SW.out _).mono ?_; rintro e w' ⟨rfl, z, rfl⟩))
                · go_wp2
                  go_roundw
                  case rel =>
                    refine ⟨k + 1, x1, x2, x3, 0, by omega, by go_num, by go_num, HW.out, ?_, (by repeat (first | exact hbel | (with_reducible refine Below.setCell ?_ (by first | omega | (simp; done) | (simp; omega)) _) | (with_reducible refine Below.alloc ?_ (by first | omega | (simp; done) | (simp; omega)) _) | (with_reducible refine Below.onDrewN ?_ _) | (with_reducible refine Below.drew ?_) | (with_reducible refine Below.ofExt ?_ (by first | omega | (simp; done) | (simp; omega)))))⟩
                    repeat (first | rw [heap_alloc_lt _ _ _ (by first | omega | (simp; done) | (simp; omega))] | rw [ext_block _ _ _ (by first | omega | (simp; done) | (simp; omega))])
                    exact heap_setCell_eq _ _ _ _ (heap_setCell_eq _ _ _ _ (heap_setCell_eq _ _ _ _ H3.out))
                  case measure => simp [intOf]; omega
                · go_wp2
                  go_roundw
                  case rel =>
                    refine ⟨k + 1, x1, x2, x3, 0, by omega, by go_num, by go_num, HW.out, ?_, (by repeat (first | exact hbel | (with_reducible refine Below.setCell ?_ (by first | omega | (simp; done) | (simp; omega)) _) | (with_reducible refine Below.alloc ?_ (by first | omega | (simp; done) | (simp; omega)) _) | (with_reducible refine Below.onDrewN ?_ _) | (with_reducible refine Below.drew ?_) | (with_reducible refine Below.ofExt ?_ (by first | omega | (simp; done) | (simp; omega)))))⟩
                    repeat (first | rw [heap_alloc_lt _ _ _ (by first | omega | (simp; done) | (simp; omega))] | rw [ext_block _ _ _ (by first | omega | (simp; done) | (simp; omega))])
                    exact heap_setCell_eq _ _ _ _ (heap_setCell_eq _ _ _ _ (heap_setCell_eq _ _ _ _ H3.out))
                  case measure => simp [intOf]; omega
      · go_wp2_with (first | (go_at_call 11; (first | (with_reducible refine (Calls.ext_of (alive_any _)).mono ?_) | refine (alive_any _).mono ?_); rintro e w' ⟨rfl, z, rfl⟩))
        go_ret
        exact ⟨rfl, (below_ext (by repeat (first | exact hbel | (with_reducible refine Below.setCell ?_ (by first | omega | (simp; done) | (simp; omega)) _) | (with_reducible refine Below.alloc ?_ (by first | omega | (simp; done) | (simp; omega)) _) | (with_reducible refine Below.onDrewN ?_ _) | (with_reducible refine Below.drew ?_) | (with_reducible refine Below.ofExt ?_ (by first | omega | (simp; done) | (simp; omega))))))⟩

set_option maxRecDepth 100000 in
theorem inspectWay_lifted (os : Os) (started : os.Started) (H : Type) (enc : TypeId × Value → H) :
    ReturnsInHanded {} Try.checked os 8 .any (Rows.inspectWaySpec.pre6 enc Try.prog Try.f8 Rows.inspectWayRow.domain false) (Rows.inspectWaySpec.post enc Try.prog Try.f8 false true false false) := by
  refine returnsInHanded_of_change (C := Try.checked) own started (by kernel_rfl) Try.func8
    (ChangeSpec.witness6 (enc := enc) (C := Try.checked) false ⟨#[], #[.slice none 0 0], []⟩ 8 (by kernel_rfl) (by kernel_rfl) (by kernel_rfl) (by kernel_rfl)) ?_
  intro W base args ds gs before hval0 hW hcnd _
  have hval : ∀ (j : Nat) t v, Try.f8.params[j]? = some t → args[j]? = some v → Value.okWide Try.prog W .any base t v := hval0
  have hW' := hW
  obtain ⟨p, q, hA0, hV, rfl, hfz, hnd⟩ := hW
  have hA : DataW.TrodAll enc Try.prog W 0 (fun _ => true) true Try.f8.params.toList args.toList ds p := hA0
  rw [Try.params8] at hA hval
  obtain ⟨v0, d0, rfl, rfl, h0⟩ := trodAll_one hA
  obtain ⟨a0, c0, L, rfl, m0, r0⟩ := open_row1 (g := Value.bool) Try.underlying34 Try.cells4 cell_bool (hval 0 34 v0 rfl rfl) h0
  refine (way_walk a0 c0 L W r0 m0).mono fun e W' ⟨he, z, hz⟩ => ?_
  subst he hz
  exact ⟨_, rfl, law_post rfl (by kernel_rfl) (by kernel_rfl) Try.underlying4 hW' (fun _ => ⟨rfl, rfl, rfl⟩) (ext_below _ _)⟩

theorem inspectWay_holds : Rows.InspectWaySaid :=
  OpenClaim.holds_of_wide 8 Try.f8 rfl rfl rfl rfl rfl rfl rfl ⟨rfl, rfl, rfl, rfl, rfl⟩ rfl rfl rfl rfl rfl (by kernel_rfl) Try.func8 (by kernel_rfl)
    (of_decide_eq_true (by kernel_rfl)) (by unfold Func.isWrapper; first | (rw [if_pos (by decide +kernel)]; kernel_rfl) | (rw [if_neg (by decide +kernel)]; exact ⟨rfl, rfl⟩))
    (fun os started H enc _ => inspectWay_lifted os started H enc)
#print axioms inspectWay_holds
end Go.Proofs.Ytnnedgdbbecmcaa
