/-
  StripeMoves returns true for every repeat, all points and every number of repeats; no condition.
-/
import Derived.Test.YtlllamcaamlbgaaMul
import Derived.Test.YtlllamcaamlbgaaOpen
import Derived.Deep.RegionHeld3
import Derived.Deep.DeepCutAuto
namespace Go.Proofs.Ytlllamcaamlbgaa
open Go.RowKit Go.ChangeShapes Go.WideShapes Go.ChangeAt Go.Joins

theorem far_bd {a b : Int} (h : farB a b = false) : -1048576 ≤ a ∧ a ≤ 1048576 ∧ -1048576 ≤ b ∧ b ≤ 1048576 := by
  unfold farB at h
  simp at h
  omega
theorem mul_bd2 (a b : Int) (ha : -1048576 ≤ a) (ha2 : a ≤ 1048576) (hb : -128 ≤ b) (hb2 : b ≤ 128) : -134217728 ≤ a * b ∧ a * b ≤ 134217728 := by
  have h : (a * b).natAbs ≤ 1048576 * 128 := by
    rw [Int.natAbs_mul]
    exact Nat.mul_le_mul (by omega) (by omega)
  omega
theorem far_quarter {a b : Int} (h : farB (bnd a * bnd 4) (bnd b * bnd 4) = false) : -262144 ≤ a ∧ a ≤ 262144 ∧ -262144 ≤ b ∧ b ≤ 262144 := by
  rw [show bnd 4 = 4 from rfl] at h
  unfold farB bnd at h
  simp at h
  omega
set_option maxHeartbeats 4000000 in
theorem moves_early (x y a0 a1 b0 b1 c0 c1 n : Int) (w : World) (h : farB (bnd a0 * bnd 4) (bnd a1 * bnd 4) = true ∨ farB (bnd b0 * bnd 4) (bnd b1 * bnd 4) = true ∨ farB (bnd c0 * bnd 4) (bnd c1 * bnd 4) = true) :
    Calls Try.prog 8 #[.agg #[.int .i64 (x), .int .i64 (y)], .agg #[.int .i64 (a0), .int .i64 (a1), .int .i64 (b0), .int .i64 (b1), .int .i64 (c0), .int .i64 (c1)], .int .i8 n] w fun e w' => e = .returned (.bool true) ∧ ∃ z, w' = ext w z := by
  cases p1 : farB (bnd a0 * bnd 4) (bnd a1 * bnd 4)
  · cases p2 : farB (bnd b0 * bnd 4) (bnd b1 * bnd 4)
    · have p3 : farB (bnd c0 * bnd 4) (bnd c1 * bnd 4) = true := by
        rcases h with h | h | h
        · rw [p1] at h; cases h
        · rw [p2] at h; cases h
        · exact h
      clear h
      go_enter Try.func8, Try.ntmps8
      go_wp2_with (first | (go_at_call 20; (first | (with_reducible refine (Calls.ext_of (times_any _ _ _ _ _)).mono ?_) | refine (times_any _ _ _ _ _).mono ?_); rintro e w' ⟨rfl, z, rfl⟩) | (go_at_call 19; (first | (with_reducible refine (Calls.ext_of (far_any _ _ _)).mono ?_) | refine (far_any _ _ _).mono ?_); rintro e w' ⟨rfl, z, rfl⟩) | (go_at_call 14; (first | (with_reducible refine (Calls.ext_of (alive_any _)).mono ?_) | refine (alive_any _).mono ?_); rintro e w' ⟨rfl, z, rfl⟩) | (go_at_call 10; (first | (with_reducible refine (Calls.ext_of (Norm_any _ _ _)).mono ?_) | refine (Norm_any _ _ _).mono ?_); rintro e w' ⟨rfl, z, rfl⟩) | (go_at_call 15; (first | (with_reducible refine (Calls.ext_of (Same_any _ _ _ _ _ _ _)).mono ?_) | refine (Same_any _ _ _ _ _ _ _).mono ?_); rintro e w' ⟨rfl, z, rfl⟩))
      go_ret
      exact ⟨rfl, (below_ext (by repeat (first | exact Below.refl _ _ | (with_reducible refine Below.setCell ?_ (by first | (simp; done) | (simp; omega)) _) | (with_reducible refine Below.alloc ?_ (by first | (simp; done) | (simp; omega)) _) | (with_reducible refine Below.onDrewN ?_ _) | (with_reducible refine Below.drew ?_) | (with_reducible refine Below.ofExt ?_ (by first | (simp; done) | (simp; omega))))))⟩
    · clear h
      go_enter Try.func8, Try.ntmps8
      go_wp2_with (first | (go_at_call 20; (first | (with_reducible refine (Calls.ext_of (times_any _ _ _ _ _)).mono ?_) | refine (times_any _ _ _ _ _).mono ?_); rintro e w' ⟨rfl, z, rfl⟩) | (go_at_call 19; (first | (with_reducible refine (Calls.ext_of (far_any _ _ _)).mono ?_) | refine (far_any _ _ _).mono ?_); rintro e w' ⟨rfl, z, rfl⟩) | (go_at_call 14; (first | (with_reducible refine (Calls.ext_of (alive_any _)).mono ?_) | refine (alive_any _).mono ?_); rintro e w' ⟨rfl, z, rfl⟩) | (go_at_call 10; (first | (with_reducible refine (Calls.ext_of (Norm_any _ _ _)).mono ?_) | refine (Norm_any _ _ _).mono ?_); rintro e w' ⟨rfl, z, rfl⟩) | (go_at_call 15; (first | (with_reducible refine (Calls.ext_of (Same_any _ _ _ _ _ _ _)).mono ?_) | refine (Same_any _ _ _ _ _ _ _).mono ?_); rintro e w' ⟨rfl, z, rfl⟩))
      go_ret
      exact ⟨rfl, (below_ext (by repeat (first | exact Below.refl _ _ | (with_reducible refine Below.setCell ?_ (by first | (simp; done) | (simp; omega)) _) | (with_reducible refine Below.alloc ?_ (by first | (simp; done) | (simp; omega)) _) | (with_reducible refine Below.onDrewN ?_ _) | (with_reducible refine Below.drew ?_) | (with_reducible refine Below.ofExt ?_ (by first | (simp; done) | (simp; omega))))))⟩
  · clear h
    go_enter Try.func8, Try.ntmps8
    go_wp2_with (first | (go_at_call 20; (first | (with_reducible refine (Calls.ext_of (times_any _ _ _ _ _)).mono ?_) | refine (times_any _ _ _ _ _).mono ?_); rintro e w' ⟨rfl, z, rfl⟩) | (go_at_call 19; (first | (with_reducible refine (Calls.ext_of (far_any _ _ _)).mono ?_) | refine (far_any _ _ _).mono ?_); rintro e w' ⟨rfl, z, rfl⟩) | (go_at_call 14; (first | (with_reducible refine (Calls.ext_of (alive_any _)).mono ?_) | refine (alive_any _).mono ?_); rintro e w' ⟨rfl, z, rfl⟩) | (go_at_call 10; (first | (with_reducible refine (Calls.ext_of (Norm_any _ _ _)).mono ?_) | refine (Norm_any _ _ _).mono ?_); rintro e w' ⟨rfl, z, rfl⟩) | (go_at_call 15; (first | (with_reducible refine (Calls.ext_of (Same_any _ _ _ _ _ _ _)).mono ?_) | refine (Same_any _ _ _ _ _ _ _).mono ?_); rintro e w' ⟨rfl, z, rfl⟩))
    go_ret
    exact ⟨rfl, (below_ext (by repeat (first | exact Below.refl _ _ | (with_reducible refine Below.setCell ?_ (by first | (simp; done) | (simp; omega)) _) | (with_reducible refine Below.alloc ?_ (by first | (simp; done) | (simp; omega)) _) | (with_reducible refine Below.onDrewN ?_ _) | (with_reducible refine Below.drew ?_) | (with_reducible refine Below.ofExt ?_ (by first | (simp; done) | (simp; omega))))))⟩

set_option maxRecDepth 100000 in
set_option maxHeartbeats 8000000 in
theorem moves_main (x y a0 a1 b0 b1 c0 c1 n : Int) (w : World) (p1 : farB (bnd a0 * bnd 4) (bnd a1 * bnd 4) = false) (p2 : farB (bnd b0 * bnd 4) (bnd b1 * bnd 4) = false) (p3 : farB (bnd c0 * bnd 4) (bnd c1 * bnd 4) = false) (k1 : -128 ≤ n) (k2 : n ≤ 127) :
    Calls Try.prog 8 #[.agg #[.int .i64 (x), .int .i64 (y)], .agg #[.int .i64 (a0), .int .i64 (a1), .int .i64 (b0), .int .i64 (b1), .int .i64 (c0), .int .i64 (c1)], .int .i8 n] w fun e w' => e = .returned (.bool true) ∧ ∃ z, w' = ext w z := by
  obtain ⟨r1, r2, r3, r4⟩ := far_quarter p1
  obtain ⟨s1, s2, s3, s4⟩ := far_quarter p2
  obtain ⟨t1, t2, t3, t4⟩ := far_quarter p3
  have hx := per_bd x
  have hy := per_bd y
  have B0 := Lib.hid (bnd_id (per x) (by omega) (by omega))
  have B1 := Lib.hid (bnd_id (per y) (by omega) (by omega))
  have Bn := Lib.hid (bnd_id n (by omega) (by omega))
  have m1 := mul_bd2 (bnd (per x)) (bnd n) (by rw [B0.out]; omega) (by rw [B0.out]; omega) (by rw [Bn.out]; omega) (by rw [Bn.out]; omega)
  have m2 := mul_bd2 (bnd (per y)) (bnd n) (by rw [B1.out]; omega) (by rw [B1.out]; omega) (by rw [Bn.out]; omega) (by rw [Bn.out]; omega)
  have e1 : eq2 (md (lim a0) (per x)) (md (lim a1) (per y)) (md (lim b0) (per x)) (md (lim b1) (per y)) = eq2 (md (lim (a0 + c0)) (per x)) (md (lim (a1 + c1)) (per y)) (md (lim (b0 + c0)) (per x)) (md (lim (b1 + c1)) (per y)) := by
    have h1 := md_both (per x) a0 b0 c0
    have h2 := md_both (per y) a1 b1 c1
    rw [lim_id a0 (by omega) (by omega), lim_id a1 (by omega) (by omega), lim_id b0 (by omega) (by omega), lim_id b1 (by omega) (by omega),
      lim_id (a0 + c0) (by omega) (by omega), lim_id (a1 + c1) (by omega) (by omega), lim_id (b0 + c0) (by omega) (by omega), lim_id (b1 + c1) (by omega) (by omega)]
    unfold eq2
    rw [Bool.eq_iff_iff]
    simp [h1, h2]
  have E1 := Lib.hid e1
  clear e1
  have e2 : farB (a0 + bnd (per x) * bnd n) (a1 + bnd (per y) * bnd n) = false → eq2 (md (lim a0) (per x)) (md (lim a1) (per y)) (md (lim (a0 + bnd (per x) * bnd n)) (per x)) (md (lim (a1 + bnd (per y) * bnd n)) (per y)) = true := fun h => by
    obtain ⟨q1, q2, q3, q4⟩ := far_bd h
    rw [lim_id _ q1 q2, lim_id _ q3 q4, lim_id a0 (by omega) (by omega), lim_id a1 (by omega) (by omega), B0.out, B1.out, md_move, md_move]
    simp [eq2]
  have E2 := Lib.hid e2
  clear e2
  go_enter Try.func8, Try.ntmps8
  go_upto_region 5 with (first | (go_at_call 20; (first | (with_reducible refine (Calls.ext_of (times_any _ _ _ _ _)).mono ?_) | refine (times_any _ _ _ _ _).mono ?_); rintro e w' ⟨rfl, z, rfl⟩) | (go_at_call 19; (first | (with_reducible refine (Calls.ext_of (far_any _ _ _)).mono ?_) | refine (far_any _ _ _).mono ?_); rintro e w' ⟨rfl, z, rfl⟩) | (go_at_call 14; (first | (with_reducible refine (Calls.ext_of (alive_any _)).mono ?_) | refine (alive_any _).mono ?_); rintro e w' ⟨rfl, z, rfl⟩) | (go_at_call 10; (first | (with_reducible refine (Calls.ext_of (Norm_any _ _ _)).mono ?_) | refine (Norm_any _ _ _).mono ?_); rintro e w' ⟨rfl, z, rfl⟩) | (go_at_call 15; (first | (with_reducible refine (Calls.ext_of (Same_any _ _ _ _ _ _ _)).mono ?_) | refine (Same_any _ _ _ _ _ _ _).mono ?_); rintro e w' ⟨rfl, z, rfl⟩))
  go_cut [9, 10] (fun s9 s10 wx => ∃ g h : Nat, s9 = .pointer (some ⟨g, 0, none⟩) ∧ s10 = .pointer (some ⟨h, 0, none⟩) ∧ wx.cell? ⟨g, 0, none⟩ = some (.int .i64 (a0 + c0)) ∧ wx.cell? ⟨g, 1, none⟩ = some (.int .i64 (a1 + c1)) ∧ wx.cell? ⟨h, 0, none⟩ = some (.int .i64 (b0 + c0)) ∧ wx.cell? ⟨h, 1, none⟩ = some (.int .i64 (b1 + c1)) ∧ wx.cell? ⟨w.heap.size, 0, none⟩ = some (.int .i64 (x)) ∧ wx.cell? ⟨w.heap.size, 1, none⟩ = some (.int .i64 (y)) ∧ wx.cell? ⟨w.heap.size + 1, 0, none⟩ = some (.int .i64 (a0)) ∧ wx.cell? ⟨w.heap.size + 1, 1, none⟩ = some (.int .i64 (a1)) ∧ wx.cell? ⟨w.heap.size + 1, 2, none⟩ = some (.int .i64 (b0)) ∧ wx.cell? ⟨w.heap.size + 1, 3, none⟩ = some (.int .i64 (b1)) ∧ wx.cell? ⟨w.heap.size + 1, 4, none⟩ = some (.int .i64 (c0)) ∧ wx.cell? ⟨w.heap.size + 1, 5, none⟩ = some (.int .i64 (c1)) ∧ wx.cell? ⟨w.heap.size + 1 + 1 + 1 + z.heap.size, 0, none⟩ = some (.int .i64 (per x)) ∧ wx.cell? ⟨w.heap.size + 1 + 1 + 1 + z.heap.size, 1, none⟩ = some (.int .i64 (per y)) ∧ Below w.heap.size w wx)
  case first =>
    have w1 : IntKind.i64.wrap (a0 + c0) = a0 + c0 := IntWalk.i64_in _ (by omega)
    have w2 : IntKind.i64.wrap (a1 + c1) = a1 + c1 := IntWalk.i64_in _ (by omega)
    have w3 : IntKind.i64.wrap (b0 + c0) = b0 + c0 := IntWalk.i64_in _ (by omega)
    have w4 : IntKind.i64.wrap (b1 + c1) = b1 + c1 := IntWalk.i64_in _ (by omega)
    clear m1 m2
    go_region_held3 (fun w' => w'.cell? ⟨w.heap.size, 0, none⟩ = some (.int .i64 (x)) ∧ w'.cell? ⟨w.heap.size, 1, none⟩ = some (.int .i64 (y)) ∧ w'.cell? ⟨w.heap.size + 1, 0, none⟩ = some (.int .i64 (a0)) ∧ w'.cell? ⟨w.heap.size + 1, 1, none⟩ = some (.int .i64 (a1)) ∧ w'.cell? ⟨w.heap.size + 1, 2, none⟩ = some (.int .i64 (b0)) ∧ w'.cell? ⟨w.heap.size + 1, 3, none⟩ = some (.int .i64 (b1)) ∧ w'.cell? ⟨w.heap.size + 1, 4, none⟩ = some (.int .i64 (c0)) ∧ w'.cell? ⟨w.heap.size + 1, 5, none⟩ = some (.int .i64 (c1)) ∧ w'.cell? ⟨w.heap.size + 1 + 1 + 1 + z.heap.size, 0, none⟩ = some (.int .i64 (per x)) ∧ w'.cell? ⟨w.heap.size + 1 + 1 + 1 + z.heap.size, 1, none⟩ = some (.int .i64 (per y))) (((try dsimp only); (repeat' apply And.intro) <;> ((repeat (first | rw [ext_cell_mk _ _ _ _ (by first | (simp; done) | (simp; omega))] | rw [World.cell?_alloc_past _ _ _ (by first | (simp; done) | (simp; omega))] | rw [World.cell?_drew])); simp [go_sem]))) (first | fail)
    all_goals (go_wp2_with fail; go_meet; refine ⟨_, _, rfl, rfl, ?_, ?_, ?_, ?_, ?_, ?_, ?_, ?_, ?_, ?_, ?_, ?_, ?_, ?_, ?_⟩)
    all_goals first | (simp [go_sem]; done) | exact (by repeat (first | exact Below.refl _ _ | (with_reducible refine Below.setCell ?_ (by first | (simp; done) | (simp; omega)) _) | (with_reducible refine Below.alloc ?_ (by first | (simp; done) | (simp; omega)) _) | (with_reducible refine Below.onDrewN ?_ _) | (with_reducible refine Below.drew ?_) | (with_reducible refine Below.ofExt ?_ (by first | (simp; done) | (simp; omega)))))
  case rest =>
    obtain ⟨g, h, rfl, rfl, c1', c2', c3', c4', c5', c6', c7', c8', c9', c10', c11', c12', c13', c14', hb⟩ := hcut
    have m1a := m1.1
    have m1b := m1.2
    have m2a := m2.1
    have m2b := m2.2
    clear m1 m2 hx hy
    have hz := World.block_lt_of_cell? _ _ c7'
    simp only at hz
    have z1 : ∀ n1 : Nat, w.heap.size < wc.heap.size + n1 := by intros; omega
    have y1 : ∀ n1 : Nat, w.heap.size + 1 < wc.heap.size + n1 := by intros; omega
    have z2 : ∀ n1 n2 : Nat, w.heap.size < wc.heap.size + n1 + n2 := by intros; omega
    have y2 : ∀ n1 n2 : Nat, w.heap.size + 1 < wc.heap.size + n1 + n2 := by intros; omega
    have z3 : ∀ n1 n2 n3 : Nat, w.heap.size < wc.heap.size + n1 + n2 + n3 := by intros; omega
    have y3 : ∀ n1 n2 n3 : Nat, w.heap.size + 1 < wc.heap.size + n1 + n2 + n3 := by intros; omega
    have z4 : ∀ n1 n2 n3 n4 : Nat, w.heap.size < wc.heap.size + n1 + n2 + n3 + n4 := by intros; omega
    have y4 : ∀ n1 n2 n3 n4 : Nat, w.heap.size + 1 < wc.heap.size + n1 + n2 + n3 + n4 := by intros; omega
    have z5 : ∀ n1 n2 n3 n4 n5 : Nat, w.heap.size < wc.heap.size + n1 + n2 + n3 + n4 + n5 := by intros; omega
    have y5 : ∀ n1 n2 n3 n4 n5 : Nat, w.heap.size + 1 < wc.heap.size + n1 + n2 + n3 + n4 + n5 := by intros; omega
    cases p7 : eq2 (md (lim a0) (per x)) (md (lim a1) (per y)) (md (lim b0) (per x)) (md (lim b1) (per y))
    · have p8 := E1.out.symm.trans p7
      cases p6 : farB (a0 + bnd (per x) * bnd n) (a1 + bnd (per y) * bnd n)
      · have e3 := E2.out p6
        go_wp2_with fail
        refine wp_region_ext (by kernel_rfl) (by kernel_rfl) ?_
        repeat (go_big_quiet_step ((first | (go_at_call 15; first | (with_reducible exact Calls.ext_to (Same_any _ _ _ _ _ _ _) (congrArg Value.bool p7)) | (with_reducible exact Calls.ext_to (Same_any _ _ _ _ _ _ _) (congrArg Value.bool p8)) | exact Calls.ext_of (Same_any _ _ _ _ _ _ _)))))
        refine wpQuiet_nil ?_
        rintro _ ⟨k, rfl⟩
        go_wp2_with (first | (go_at_call 20; (first | (with_reducible refine (Calls.ext_of (times_any _ _ _ _ _)).mono ?_) | refine (times_any _ _ _ _ _).mono ?_); rintro e w' ⟨rfl, z, rfl⟩) | (go_at_call 19; (first | (with_reducible refine (Calls.ext_of (far_any _ _ _)).mono ?_) | refine (far_any _ _ _).mono ?_); rintro e w' ⟨rfl, z, rfl⟩) | (go_at_call 14; (first | (with_reducible refine (Calls.ext_of (alive_any _)).mono ?_) | refine (alive_any _).mono ?_); rintro e w' ⟨rfl, z, rfl⟩) | (go_at_call 10; (first | (with_reducible refine (Calls.ext_of (Norm_any _ _ _)).mono ?_) | refine (Norm_any _ _ _).mono ?_); rintro e w' ⟨rfl, z, rfl⟩) | (go_at_call 15; (first | (with_reducible refine (Calls.ext_of (Same_any _ _ _ _ _ _ _)).mono ?_) | refine (Same_any _ _ _ _ _ _ _).mono ?_); rintro e w' ⟨rfl, z, rfl⟩))
        go_ret
        exact ⟨rfl, (below_ext (by repeat (first | exact hb | exact Below.refl _ _ | (with_reducible refine Below.setCell ?_ (by first | (simp; done) | (simp; omega) | (simp; have := hb.size; omega) | (have := hb.size; omega)) _) | (with_reducible refine Below.alloc ?_ (by first | (simp; done) | (simp; omega) | (simp; have := hb.size; omega) | (have := hb.size; omega)) _) | (with_reducible refine Below.onDrewN ?_ _) | (with_reducible refine Below.drew ?_) | (with_reducible refine Below.ofExt ?_ (by first | (simp; done) | (simp; omega) | (simp; have := hb.size; omega) | (have := hb.size; omega))))))⟩
      · skip
        go_wp2_with fail
        refine wp_region_ext (by kernel_rfl) (by kernel_rfl) ?_
        repeat (go_big_quiet_step ((first | (go_at_call 15; first | (with_reducible exact Calls.ext_to (Same_any _ _ _ _ _ _ _) (congrArg Value.bool p7)) | (with_reducible exact Calls.ext_to (Same_any _ _ _ _ _ _ _) (congrArg Value.bool p8)) | exact Calls.ext_of (Same_any _ _ _ _ _ _ _)))))
        refine wpQuiet_nil ?_
        rintro _ ⟨k, rfl⟩
        go_wp2_with (first | (go_at_call 20; (first | (with_reducible refine (Calls.ext_of (times_any _ _ _ _ _)).mono ?_) | refine (times_any _ _ _ _ _).mono ?_); rintro e w' ⟨rfl, z, rfl⟩) | (go_at_call 19; (first | (with_reducible refine (Calls.ext_of (far_any _ _ _)).mono ?_) | refine (far_any _ _ _).mono ?_); rintro e w' ⟨rfl, z, rfl⟩) | (go_at_call 14; (first | (with_reducible refine (Calls.ext_of (alive_any _)).mono ?_) | refine (alive_any _).mono ?_); rintro e w' ⟨rfl, z, rfl⟩) | (go_at_call 10; (first | (with_reducible refine (Calls.ext_of (Norm_any _ _ _)).mono ?_) | refine (Norm_any _ _ _).mono ?_); rintro e w' ⟨rfl, z, rfl⟩) | (go_at_call 15; (first | (with_reducible refine (Calls.ext_of (Same_any _ _ _ _ _ _ _)).mono ?_) | refine (Same_any _ _ _ _ _ _ _).mono ?_); rintro e w' ⟨rfl, z, rfl⟩))
        go_ret
        exact ⟨rfl, (below_ext (by repeat (first | exact hb | exact Below.refl _ _ | (with_reducible refine Below.setCell ?_ (by first | (simp; done) | (simp; omega) | (simp; have := hb.size; omega) | (have := hb.size; omega)) _) | (with_reducible refine Below.alloc ?_ (by first | (simp; done) | (simp; omega) | (simp; have := hb.size; omega) | (have := hb.size; omega)) _) | (with_reducible refine Below.onDrewN ?_ _) | (with_reducible refine Below.drew ?_) | (with_reducible refine Below.ofExt ?_ (by first | (simp; done) | (simp; omega) | (simp; have := hb.size; omega) | (have := hb.size; omega))))))⟩
    · have p8 := E1.out.symm.trans p7
      cases p6 : farB (a0 + bnd (per x) * bnd n) (a1 + bnd (per y) * bnd n)
      · have e3 := E2.out p6
        go_wp2_with fail
        refine wp_region_ext (by kernel_rfl) (by kernel_rfl) ?_
        repeat (go_big_quiet_step ((first | (go_at_call 15; first | (with_reducible exact Calls.ext_to (Same_any _ _ _ _ _ _ _) (congrArg Value.bool p7)) | (with_reducible exact Calls.ext_to (Same_any _ _ _ _ _ _ _) (congrArg Value.bool p8)) | exact Calls.ext_of (Same_any _ _ _ _ _ _ _)))))
        refine wpQuiet_nil ?_
        rintro _ ⟨k, rfl⟩
        go_wp2_with (first | (go_at_call 20; (first | (with_reducible refine (Calls.ext_of (times_any _ _ _ _ _)).mono ?_) | refine (times_any _ _ _ _ _).mono ?_); rintro e w' ⟨rfl, z, rfl⟩) | (go_at_call 19; (first | (with_reducible refine (Calls.ext_of (far_any _ _ _)).mono ?_) | refine (far_any _ _ _).mono ?_); rintro e w' ⟨rfl, z, rfl⟩) | (go_at_call 14; (first | (with_reducible refine (Calls.ext_of (alive_any _)).mono ?_) | refine (alive_any _).mono ?_); rintro e w' ⟨rfl, z, rfl⟩) | (go_at_call 10; (first | (with_reducible refine (Calls.ext_of (Norm_any _ _ _)).mono ?_) | refine (Norm_any _ _ _).mono ?_); rintro e w' ⟨rfl, z, rfl⟩) | (go_at_call 15; (first | (with_reducible refine (Calls.ext_of (Same_any _ _ _ _ _ _ _)).mono ?_) | refine (Same_any _ _ _ _ _ _ _).mono ?_); rintro e w' ⟨rfl, z, rfl⟩))
        go_ret
        exact ⟨rfl, (below_ext (by repeat (first | exact hb | exact Below.refl _ _ | (with_reducible refine Below.setCell ?_ (by first | (simp; done) | (simp; omega) | (simp; have := hb.size; omega) | (have := hb.size; omega)) _) | (with_reducible refine Below.alloc ?_ (by first | (simp; done) | (simp; omega) | (simp; have := hb.size; omega) | (have := hb.size; omega)) _) | (with_reducible refine Below.onDrewN ?_ _) | (with_reducible refine Below.drew ?_) | (with_reducible refine Below.ofExt ?_ (by first | (simp; done) | (simp; omega) | (simp; have := hb.size; omega) | (have := hb.size; omega))))))⟩
      · skip
        go_wp2_with fail
        refine wp_region_ext (by kernel_rfl) (by kernel_rfl) ?_
        repeat (go_big_quiet_step ((first | (go_at_call 15; first | (with_reducible exact Calls.ext_to (Same_any _ _ _ _ _ _ _) (congrArg Value.bool p7)) | (with_reducible exact Calls.ext_to (Same_any _ _ _ _ _ _ _) (congrArg Value.bool p8)) | exact Calls.ext_of (Same_any _ _ _ _ _ _ _)))))
        refine wpQuiet_nil ?_
        rintro _ ⟨k, rfl⟩
        go_wp2_with (first | (go_at_call 20; (first | (with_reducible refine (Calls.ext_of (times_any _ _ _ _ _)).mono ?_) | refine (times_any _ _ _ _ _).mono ?_); rintro e w' ⟨rfl, z, rfl⟩) | (go_at_call 19; (first | (with_reducible refine (Calls.ext_of (far_any _ _ _)).mono ?_) | refine (far_any _ _ _).mono ?_); rintro e w' ⟨rfl, z, rfl⟩) | (go_at_call 14; (first | (with_reducible refine (Calls.ext_of (alive_any _)).mono ?_) | refine (alive_any _).mono ?_); rintro e w' ⟨rfl, z, rfl⟩) | (go_at_call 10; (first | (with_reducible refine (Calls.ext_of (Norm_any _ _ _)).mono ?_) | refine (Norm_any _ _ _).mono ?_); rintro e w' ⟨rfl, z, rfl⟩) | (go_at_call 15; (first | (with_reducible refine (Calls.ext_of (Same_any _ _ _ _ _ _ _)).mono ?_) | refine (Same_any _ _ _ _ _ _ _).mono ?_); rintro e w' ⟨rfl, z, rfl⟩))
        go_ret
        exact ⟨rfl, (below_ext (by repeat (first | exact hb | exact Below.refl _ _ | (with_reducible refine Below.setCell ?_ (by first | (simp; done) | (simp; omega) | (simp; have := hb.size; omega) | (have := hb.size; omega)) _) | (with_reducible refine Below.alloc ?_ (by first | (simp; done) | (simp; omega) | (simp; have := hb.size; omega) | (have := hb.size; omega)) _) | (with_reducible refine Below.onDrewN ?_ _) | (with_reducible refine Below.drew ?_) | (with_reducible refine Below.ofExt ?_ (by first | (simp; done) | (simp; omega) | (simp; have := hb.size; omega) | (have := hb.size; omega))))))⟩

theorem moves_walk (x y a0 a1 b0 b1 c0 c1 n : Int) (w : World) (k1 : -128 ≤ n) (k2 : n ≤ 127) : Calls Try.prog 8 #[.agg #[.int .i64 (x), .int .i64 (y)], .agg #[.int .i64 (a0), .int .i64 (a1), .int .i64 (b0), .int .i64 (b1), .int .i64 (c0), .int .i64 (c1)], .int .i8 n] w fun e w' => e = .returned (.bool true) ∧ ∃ z, w' = ext w z := by
  cases p1 : farB (bnd a0 * bnd 4) (bnd a1 * bnd 4)
  · cases p2 : farB (bnd b0 * bnd 4) (bnd b1 * bnd 4)
    · cases p3 : farB (bnd c0 * bnd 4) (bnd c1 * bnd 4)
      · exact moves_main x y a0 a1 b0 b1 c0 c1 n w p1 p2 p3 k1 k2
      · exact moves_early x y a0 a1 b0 b1 c0 c1 n w (.inr (.inr p3))
    · exact moves_early x y a0 a1 b0 b1 c0 c1 n w (.inr (.inl p2))
  · exact moves_early x y a0 a1 b0 b1 c0 c1 n w (.inl p1)

theorem fit8_of {n : Int} (h : (Lit.int .i8 n).wf = true) : -128 ≤ n ∧ n ≤ 127 := by
  simp [Lit.wf, IntKind.min, IntKind.max, IntKind.signed, IntKind.bits] at h
  exact ⟨by omega, by omega⟩

set_option maxRecDepth 100000 in
theorem stripeMoves_lifted (os : Os) (started : os.Started) (H : Type) (enc : TypeId × Value → H) :
    ReturnsInHanded {} Try.checked os 8 .any (Rows.stripeMovesSpec.pre6 enc Try.prog Try.f8 Rows.stripeMovesRow.domain false) (Rows.stripeMovesSpec.post enc Try.prog Try.f8 false true false false) := by
  refine returnsInHanded_of_change (C := Try.checked) own started (by kernel_rfl) Try.func8
    (ChangeSpec.witness6 (enc := enc) (C := Try.checked) false ⟨#[], #[.agg #[.int .i64 0, .int .i64 0], .agg #[.int .i64 0, .int .i64 0, .int .i64 0, .int .i64 0, .int .i64 0, .int .i64 0], .int .i8 0], []⟩ 8 (by kernel_rfl) (by kernel_rfl) (by kernel_rfl) (by kernel_rfl)) ?_
  intro W base args ds gs before hval0 hW hcnd _
  have hval : ∀ (j : Nat) t v, Try.f8.params[j]? = some t → args[j]? = some v → Value.okWide Try.prog W .any base t v := hval0
  have hW' := hW
  obtain ⟨p, q, hA0, hV, rfl, hfz, hnd⟩ := hW
  have hA : DataW.TrodAll enc Try.prog W 0 (fun _ => true) true Try.f8.params.toList args.toList ds p := hA0
  rw [Try.params8] at hA hval
  obtain ⟨v0, v1, v2, d0, d1, d2, p0, p1, p2, rfl, rfl, rfl, h0, h1, h2⟩ := trodAll_three hA
  obtain ⟨x, y, rfl, wx, wy⟩ := open_pair (t := 23) Try.underlying23 Try.cells23 (hval 0 23 v0 rfl rfl) h0
  obtain ⟨a0, a1, b0, b1, c0, c1, rfl, ⟨f0, f1⟩, ⟨f2, f3⟩, ⟨f4, f5⟩⟩ := open_three Try.underlying33 (hval 1 33 v1 rfl rfl) h1
  obtain ⟨n, rfl, rfl, rfl, wn⟩ := open_int Try.underlying35 (hval 2 35 v2 rfl rfl) h2
  refine (moves_walk x y a0 a1 b0 b1 c0 c1 n W (fit8_of wn).1 (fit8_of wn).2).mono fun e W' ⟨he, z, hz⟩ => ?_
  subst he hz
  exact ⟨_, rfl, law_post rfl (by kernel_rfl) (by kernel_rfl) Try.underlying4 hW' (fun _ => ⟨rfl, rfl, rfl⟩) (ext_below _ _)⟩

theorem stripeMoves_holds : Rows.StripeMovesSaid :=
  OpenClaim.holds_of_wide 8 Try.f8 rfl rfl rfl rfl rfl rfl rfl ⟨rfl, rfl, rfl, rfl, rfl⟩ rfl rfl rfl rfl rfl (by kernel_rfl) Try.func8 (by kernel_rfl)
    (of_decide_eq_true (by kernel_rfl)) (by unfold Func.isWrapper; first | (rw [if_pos (by decide +kernel)]; kernel_rfl) | (rw [if_neg (by decide +kernel)]; exact ⟨rfl, rfl⟩))
    (fun os started H enc _ => stripeMoves_lifted os started H enc)
#print axioms stripeMoves_holds
end Go.Proofs.Ytlllamcaamlbgaa
