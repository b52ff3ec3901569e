/-
  StripeNext returns true for every repeat and all points; no condition.
-/
import Derived.Test.YtlllamcaamlbgaaBool
import Derived.Test.YtlllamcaamlbgaaOpen
import Derived.Deep.RegionHeld3
import Derived.Deep.DeepCutAuto
namespace Go.Proofs.Ytlllamcaamlbgaa
open Go.RowKit Go.ChangeShapes Go.WideShapes Go.ChangeAt Go.Joins

set_option maxHeartbeats 1000000 in
theorem next_far (x y a b c d : Int) (w : World) (h : farB a b = true ∨ farB c d = true) : Calls Try.prog 5 #[.agg #[.int .i64 (x), .int .i64 (y)], .agg #[.int .i64 (a), .int .i64 (b)], .agg #[.int .i64 (c), .int .i64 (d)]] w fun e w' => e = .returned (.bool true) ∧ ∃ z, w' = ext w z := by
  cases p : farB a b
  · have q : farB c d = true := by rcases h with h | h <;> simp_all
    clear h
    go_enter Try.func5, Try.ntmps5
    go_wp2_with (first | (go_at_call 19; refine (far_any _ _ _).mono ?_; rintro e w' ⟨rfl, z, rfl⟩; try rw [ext_ext]) | (go_at_call 14; refine (alive_any _).mono ?_; rintro e w' ⟨rfl, z, rfl⟩; try rw [ext_ext]))
    go_ret
    exact ⟨rfl, (below_ext (by repeat (first | exact Below.refl _ _ | (with_reducible refine Below.setCell ?_ (by first | (simp; done) | (simp; omega)) _) | (with_reducible refine Below.alloc ?_ (by first | (simp; done) | (simp; omega)) _) | (with_reducible refine Below.onDrewN ?_ _) | (with_reducible refine Below.drew ?_) | (with_reducible refine Below.ofExt ?_ (by first | (simp; done) | (simp; omega))))))⟩
  · clear h
    go_enter Try.func5, Try.ntmps5
    go_wp2_with (first | (go_at_call 19; refine (far_any _ _ _).mono ?_; rintro e w' ⟨rfl, z, rfl⟩; try rw [ext_ext]) | (go_at_call 14; refine (alive_any _).mono ?_; rintro e w' ⟨rfl, z, rfl⟩; try rw [ext_ext]))
    go_ret
    exact ⟨rfl, (below_ext (by repeat (first | exact Below.refl _ _ | (with_reducible refine Below.setCell ?_ (by first | (simp; done) | (simp; omega)) _) | (with_reducible refine Below.alloc ?_ (by first | (simp; done) | (simp; omega)) _) | (with_reducible refine Below.onDrewN ?_ _) | (with_reducible refine Below.drew ?_) | (with_reducible refine Below.ofExt ?_ (by first | (simp; done) | (simp; omega))))))⟩

theorem far_bd {a b : Int} (h : farB a b = false) : -1048576 ≤ a ∧ a ≤ 1048576 ∧ -1048576 ≤ b ∧ b ≤ 1048576 := by
  unfold farB at h
  simp at h
  omega

set_option maxHeartbeats 8000000 in
theorem next_near (x y a b c d : Int) (w : World) (p : farB a b = false) (q : farB c d = false) : Calls Try.prog 5 #[.agg #[.int .i64 (x), .int .i64 (y)], .agg #[.int .i64 (a), .int .i64 (b)], .agg #[.int .i64 (c), .int .i64 (d)]] w fun e w' => e = .returned (.bool true) ∧ ∃ z, w' = ext w z := by
  obtain ⟨a1, a2, b1, b2⟩ := far_bd p
  obtain ⟨c1, c2, d1, d2⟩ := far_bd q
  have hx := per_bd x
  have hy := per_bd y
  have LA := Lib.hid (lim_id a a1 a2)
  have LB := Lib.hid (lim_id b b1 b2)
  have LC := Lib.hid (lim_id c c1 c2)
  have LD := Lib.hid (lim_id d d1 d2)
  have n1 : a ≤ nx (per x) (lim a) (lim c) := by rw [LA.out]; exact nx_ge _ _ _ hx.1
  have n2 : b ≤ nx (per y) (lim b) (lim d) := by rw [LB.out]; exact nx_ge _ _ _ hy.1
  have m1 : nx (per x) (lim a) (lim c) - a ≤ max (per x - 1) 0 := by rw [LA.out]; exact nx_le _ _ _ hx.1
  have m2 : nx (per y) (lim b) (lim d) - b ≤ max (per y - 1) 0 := by rw [LB.out]; exact nx_le _ _ _ hy.1
  have e2 : (eq2 (nx (per x) (lim a) (lim c)) (nx (per y) (lim b) (lim d)) a b == eq2 (md (lim a) (per x)) (md (lim b) (per y)) (md (lim c) (per x)) (md (lim d) (per y))) = true := by
    have h1 := nx_eq (per x) a c
    have h2 := nx_eq (per y) b d
    rw [LA.out, LB.out, LC.out, LD.out]
    unfold eq2
    simp only [beq_iff_eq]
    rw [Bool.eq_iff_iff]
    simp [h1, h2]
  go_enter Try.func5, Try.ntmps5
  go_upto_region 3 with (first | (go_at_call 19; refine (far_any _ _ _).mono ?_; rintro e w' ⟨rfl, z, rfl⟩; try rw [ext_ext]) | (go_at_call 14; refine (alive_any _).mono ?_; rintro e w' ⟨rfl, z, rfl⟩; try rw [ext_ext]))
  go_cut [7, 8] (fun s7 s8 wx => ∃ g h : Nat, s7 = .pointer (some ⟨g, 0, none⟩) ∧ s8 = .pointer (some ⟨h, 0, none⟩) ∧ wx.cell? ⟨g, 0, none⟩ = some (.int .i64 (nx (per x) (lim a) (lim c))) ∧ wx.cell? ⟨g, 1, none⟩ = some (.int .i64 (nx (per y) (lim b) (lim d))) ∧ wx.cell? ⟨h, 0, none⟩ = some (.int .i64 (per x)) ∧ wx.cell? ⟨h, 1, none⟩ = some (.int .i64 (per y)) ∧ wx.cell? ⟨w.heap.size, 0, none⟩ = some (.int .i64 (x)) ∧ wx.cell? ⟨w.heap.size, 1, none⟩ = some (.int .i64 (y)) ∧ wx.cell? ⟨w.heap.size + 1, 0, none⟩ = some (.int .i64 (a)) ∧ wx.cell? ⟨w.heap.size + 1, 1, none⟩ = some (.int .i64 (b)) ∧ wx.cell? ⟨w.heap.size + 1 + 1, 0, none⟩ = some (.int .i64 (c)) ∧ wx.cell? ⟨w.heap.size + 1 + 1, 1, none⟩ = some (.int .i64 (d)) ∧ Below w.heap.size w wx)
  case first =>
    go_region_held3 (fun w' => w'.cell? ⟨w.heap.size, 0, none⟩ = some (.int .i64 (x)) ∧ w'.cell? ⟨w.heap.size, 1, none⟩ = some (.int .i64 (y)) ∧ w'.cell? ⟨w.heap.size + 1, 0, none⟩ = some (.int .i64 (a)) ∧ w'.cell? ⟨w.heap.size + 1, 1, none⟩ = some (.int .i64 (b)) ∧ w'.cell? ⟨w.heap.size + 1 + 1, 0, none⟩ = some (.int .i64 (c)) ∧ w'.cell? ⟨w.heap.size + 1 + 1, 1, none⟩ = some (.int .i64 (d))) (((try dsimp only); (repeat' apply And.intro) <;> ((repeat (first | rw [ext_cell_mk _ _ _ _ (by first | (simp; done) | (simp; omega))] | rw [World.cell?_alloc_past _ _ _ (by first | (simp; done) | (simp; omega))] | rw [World.cell?_drew])); simp [go_sem])))
      (first
        | (go_at_call 17; refine (Next_any _ _ _ _ _ _ _).mono ?_; rintro e w' ⟨rfl, z, rfl⟩)
        | (go_at_call 10; refine (Norm_any _ _ _).mono ?_; rintro e w' ⟨rfl, z, rfl⟩))
    all_goals (go_wp2_with fail; go_meet; refine ⟨_, _, rfl, rfl, ?_, ?_, ?_, ?_, ?_, ?_, ?_, ?_, ?_, ?_, ?_⟩)
    all_goals first | (simp [go_sem]; done) | exact (by repeat (first | exact Below.refl _ _ | (with_reducible refine Below.setCell ?_ (by first | (simp; done) | (simp; omega)) _) | (with_reducible refine Below.alloc ?_ (by first | (simp; done) | (simp; omega)) _) | (with_reducible refine Below.onDrewN ?_ _) | (with_reducible refine Below.drew ?_) | (with_reducible refine Below.ofExt ?_ (by first | (simp; done) | (simp; omega)))))
  case rest =>
    obtain ⟨g, h, rfl, rfl, c1, c2, c3, c4, c5, c6, c7, c8, c9, c10, hb⟩ := hcut
    have hx1 := hx.1
    have hx2 := hx.2
    have hy1 := hy.1
    have hy2 := hy.2
    have v1 : nx (per x) (lim a) (lim c) ≤ 3145728 := by omega
    have v2 : nx (per y) (lim b) (lim d) ≤ 3145728 := by omega
    cases p3 : farB (nx (per x) (lim a) (lim c)) (nx (per y) (lim b) (lim d))
    · have e1 : eq2 (md (lim (nx (per x) (lim a) (lim c))) (per x)) (md (lim (nx (per y) (lim b) (lim d))) (per y)) (md (lim c) (per x)) (md (lim d) (per y)) = true := by
        obtain ⟨r1, r2, r3, r4⟩ := far_bd p3
        rw [lim_id _ r1 r2, lim_id _ r3 r4, nx_md, nx_md]
        simp [eq2]
      by_cases hxn : per x < 1
      · have q1 : nx (per x) (lim a) (lim c) - a ≤ 0 := by omega
        by_cases hyn : per y < 1
        · have q2 : nx (per y) (lim b) (lim d) - b ≤ 0 := by omega
          clear m1 m2 hx hy
          go_wp2_with fail
          refine wp_region_ext (by kernel_rfl) (by kernel_rfl) ?_
          repeat (go_big_quiet_step ((first | (go_at_call 19; first | (with_reducible exact Calls.ext_to (far_any _ _ _) (congrArg Value.bool e1)) | (with_reducible exact Calls.ext_to (far_any _ _ _) (congrArg Value.bool p3)) | exact Calls.ext_of (far_any _ _ _)) | (go_at_call 15; first | (with_reducible exact Calls.ext_to (Same_any _ _ _ _ _ _ _) (congrArg Value.bool e1)) | (with_reducible exact Calls.ext_to (Same_any _ _ _ _ _ _ _) (congrArg Value.bool p3)) | exact Calls.ext_of (Same_any _ _ _ _ _ _ _)) | (go_at_call 14; exact Calls.ext_of (alive_any _)))))
          refine wpQuiet_nil ?_
          rintro _ ⟨k, rfl⟩
          go_wp2
          go_ret
          exact ⟨rfl, below_ext (Below.ofExt hb hb.size)⟩
        · have q2 : nx (per y) (lim b) (lim d) - b ≤ per y - 1 := by omega
          clear m1 m2 hx hy
          go_wp2_with fail
          refine wp_region_ext (by kernel_rfl) (by kernel_rfl) ?_
          repeat (go_big_quiet_step ((first | (go_at_call 19; first | (with_reducible exact Calls.ext_to (far_any _ _ _) (congrArg Value.bool e1)) | (with_reducible exact Calls.ext_to (far_any _ _ _) (congrArg Value.bool p3)) | exact Calls.ext_of (far_any _ _ _)) | (go_at_call 15; first | (with_reducible exact Calls.ext_to (Same_any _ _ _ _ _ _ _) (congrArg Value.bool e1)) | (with_reducible exact Calls.ext_to (Same_any _ _ _ _ _ _ _) (congrArg Value.bool p3)) | exact Calls.ext_of (Same_any _ _ _ _ _ _ _)) | (go_at_call 14; exact Calls.ext_of (alive_any _)))))
          refine wpQuiet_nil ?_
          rintro _ ⟨k, rfl⟩
          go_wp2
          go_ret
          exact ⟨rfl, below_ext (Below.ofExt hb hb.size)⟩
      · have q1 : nx (per x) (lim a) (lim c) - a ≤ per x - 1 := by omega
        by_cases hyn : per y < 1
        · have q2 : nx (per y) (lim b) (lim d) - b ≤ 0 := by omega
          clear m1 m2 hx hy
          go_wp2_with fail
          refine wp_region_ext (by kernel_rfl) (by kernel_rfl) ?_
          repeat (go_big_quiet_step ((first | (go_at_call 19; first | (with_reducible exact Calls.ext_to (far_any _ _ _) (congrArg Value.bool e1)) | (with_reducible exact Calls.ext_to (far_any _ _ _) (congrArg Value.bool p3)) | exact Calls.ext_of (far_any _ _ _)) | (go_at_call 15; first | (with_reducible exact Calls.ext_to (Same_any _ _ _ _ _ _ _) (congrArg Value.bool e1)) | (with_reducible exact Calls.ext_to (Same_any _ _ _ _ _ _ _) (congrArg Value.bool p3)) | exact Calls.ext_of (Same_any _ _ _ _ _ _ _)) | (go_at_call 14; exact Calls.ext_of (alive_any _)))))
          refine wpQuiet_nil ?_
          rintro _ ⟨k, rfl⟩
          go_wp2
          go_ret
          exact ⟨rfl, below_ext (Below.ofExt hb hb.size)⟩
        · have q2 : nx (per y) (lim b) (lim d) - b ≤ per y - 1 := by omega
          clear m1 m2 hx hy
          go_wp2_with fail
          refine wp_region_ext (by kernel_rfl) (by kernel_rfl) ?_
          repeat (go_big_quiet_step ((first | (go_at_call 19; first | (with_reducible exact Calls.ext_to (far_any _ _ _) (congrArg Value.bool e1)) | (with_reducible exact Calls.ext_to (far_any _ _ _) (congrArg Value.bool p3)) | exact Calls.ext_of (far_any _ _ _)) | (go_at_call 15; first | (with_reducible exact Calls.ext_to (Same_any _ _ _ _ _ _ _) (congrArg Value.bool e1)) | (with_reducible exact Calls.ext_to (Same_any _ _ _ _ _ _ _) (congrArg Value.bool p3)) | exact Calls.ext_of (Same_any _ _ _ _ _ _ _)) | (go_at_call 14; exact Calls.ext_of (alive_any _)))))
          refine wpQuiet_nil ?_
          rintro _ ⟨k, rfl⟩
          go_wp2
          go_ret
          exact ⟨rfl, below_ext (Below.ofExt hb hb.size)⟩
    · by_cases hxn : per x < 1
      · have q1 : nx (per x) (lim a) (lim c) - a ≤ 0 := by omega
        by_cases hyn : per y < 1
        · have q2 : nx (per y) (lim b) (lim d) - b ≤ 0 := by omega
          clear m1 m2 hx hy
          go_wp2_with fail
          refine wp_region_ext (by kernel_rfl) (by kernel_rfl) ?_
          repeat (go_big_quiet_step ((first | (go_at_call 19; first | (with_reducible exact Calls.ext_to (far_any _ _ _) (congrArg Value.bool p3)) | exact Calls.ext_of (far_any _ _ _)) | (go_at_call 15; first | (with_reducible exact Calls.ext_to (Same_any _ _ _ _ _ _ _) (congrArg Value.bool p3)) | exact Calls.ext_of (Same_any _ _ _ _ _ _ _)) | (go_at_call 14; exact Calls.ext_of (alive_any _)))))
          refine wpQuiet_nil ?_
          rintro _ ⟨k, rfl⟩
          go_wp2
          go_ret
          exact ⟨rfl, below_ext (Below.ofExt hb hb.size)⟩
        · have q2 : nx (per y) (lim b) (lim d) - b ≤ per y - 1 := by omega
          clear m1 m2 hx hy
          go_wp2_with fail
          refine wp_region_ext (by kernel_rfl) (by kernel_rfl) ?_
          repeat (go_big_quiet_step ((first | (go_at_call 19; first | (with_reducible exact Calls.ext_to (far_any _ _ _) (congrArg Value.bool p3)) | exact Calls.ext_of (far_any _ _ _)) | (go_at_call 15; first | (with_reducible exact Calls.ext_to (Same_any _ _ _ _ _ _ _) (congrArg Value.bool p3)) | exact Calls.ext_of (Same_any _ _ _ _ _ _ _)) | (go_at_call 14; exact Calls.ext_of (alive_any _)))))
          refine wpQuiet_nil ?_
          rintro _ ⟨k, rfl⟩
          go_wp2
          go_ret
          exact ⟨rfl, below_ext (Below.ofExt hb hb.size)⟩
      · have q1 : nx (per x) (lim a) (lim c) - a ≤ per x - 1 := by omega
        by_cases hyn : per y < 1
        · have q2 : nx (per y) (lim b) (lim d) - b ≤ 0 := by omega
          clear m1 m2 hx hy
          go_wp2_with fail
          refine wp_region_ext (by kernel_rfl) (by kernel_rfl) ?_
          repeat (go_big_quiet_step ((first | (go_at_call 19; first | (with_reducible exact Calls.ext_to (far_any _ _ _) (congrArg Value.bool p3)) | exact Calls.ext_of (far_any _ _ _)) | (go_at_call 15; first | (with_reducible exact Calls.ext_to (Same_any _ _ _ _ _ _ _) (congrArg Value.bool p3)) | exact Calls.ext_of (Same_any _ _ _ _ _ _ _)) | (go_at_call 14; exact Calls.ext_of (alive_any _)))))
          refine wpQuiet_nil ?_
          rintro _ ⟨k, rfl⟩
          go_wp2
          go_ret
          exact ⟨rfl, below_ext (Below.ofExt hb hb.size)⟩
        · have q2 : nx (per y) (lim b) (lim d) - b ≤ per y - 1 := by omega
          clear m1 m2 hx hy
          go_wp2_with fail
          refine wp_region_ext (by kernel_rfl) (by kernel_rfl) ?_
          repeat (go_big_quiet_step ((first | (go_at_call 19; first | (with_reducible exact Calls.ext_to (far_any _ _ _) (congrArg Value.bool p3)) | exact Calls.ext_of (far_any _ _ _)) | (go_at_call 15; first | (with_reducible exact Calls.ext_to (Same_any _ _ _ _ _ _ _) (congrArg Value.bool p3)) | exact Calls.ext_of (Same_any _ _ _ _ _ _ _)) | (go_at_call 14; exact Calls.ext_of (alive_any _)))))
          refine wpQuiet_nil ?_
          rintro _ ⟨k, rfl⟩
          go_wp2
          go_ret
          exact ⟨rfl, below_ext (Below.ofExt hb hb.size)⟩


theorem next_walk (x y a b c d : Int) (w : World) : Calls Try.prog 5 #[.agg #[.int .i64 (x), .int .i64 (y)], .agg #[.int .i64 (a), .int .i64 (b)], .agg #[.int .i64 (c), .int .i64 (d)]] w fun e w' => e = .returned (.bool true) ∧ ∃ z, w' = ext w z := by
  cases p : farB a b
  · cases q : farB c d
    · exact next_near x y a b c d w p q
    · exact next_far x y a b c d w (.inr q)
  · exact next_far x y a b c d w (.inl p)

set_option maxRecDepth 100000 in
theorem stripeNext_lifted (os : Os) (started : os.Started) (H : Type) (enc : TypeId × Value → H) :
    ReturnsInHanded {} Try.checked os 5 .any (Rows.stripeNextSpec.pre6 enc Try.prog Try.f5 Rows.stripeNextRow.domain false) (Rows.stripeNextSpec.post enc Try.prog Try.f5 false true false false) := by
  refine returnsInHanded_of_change (C := Try.checked) own started (by kernel_rfl) Try.func5
    (ChangeSpec.witness6 (enc := enc) (C := Try.checked) false ⟨#[], #[.agg #[.int .i64 0, .int .i64 0], .agg #[.int .i64 0, .int .i64 0], .agg #[.int .i64 0, .int .i64 0]], []⟩ 8 (by kernel_rfl) (by kernel_rfl) (by kernel_rfl) (by kernel_rfl)) ?_
  intro W base args ds gs before hval0 hW hcnd _
  have hval : ∀ (j : Nat) t v, Try.f5.params[j]? = some t → args[j]? = some v → Value.okWide Try.prog W .any base t v := hval0
  have hW' := hW
  obtain ⟨p, q, hA0, hV, rfl, hfz, hnd⟩ := hW
  have hA : DataW.TrodAll enc Try.prog W 0 (fun _ => true) true Try.f5.params.toList args.toList ds p := hA0
  rw [Try.params5] at hA hval
  obtain ⟨v0, v1, v2, d0, d1, d2, p0, p1, p2, rfl, rfl, rfl, h0, h1, h2⟩ := trodAll_three hA
  obtain ⟨x, y, rfl, wx, wy⟩ := open_pair (t := 23) Try.underlying23 Try.cells23 (hval 0 23 v0 rfl rfl) h0
  obtain ⟨a, b, rfl, wa, wb⟩ := open_pair (t := 24) Try.underlying24 Try.cells24 (hval 1 24 v1 rfl rfl) h1
  obtain ⟨c, d, rfl, wc, wd⟩ := open_pair (t := 24) Try.underlying24 Try.cells24 (hval 2 24 v2 rfl rfl) h2
  refine (next_walk x y a b c d W).mono fun e W' ⟨he, z, hz⟩ => ?_
  subst he hz
  exact ⟨_, rfl, law_post rfl (by kernel_rfl) (by kernel_rfl) Try.underlying4 hW' (fun _ => ⟨rfl, rfl, rfl⟩) (ext_below _ _)⟩

theorem stripeNext_holds : Rows.StripeNextSaid :=
  OpenClaim.holds_of_wide 5 Try.f5 rfl rfl rfl rfl rfl rfl rfl ⟨rfl, rfl, rfl, rfl, rfl⟩ rfl rfl rfl rfl rfl (by kernel_rfl) Try.func5 (by kernel_rfl)
    (of_decide_eq_true (by kernel_rfl)) (by unfold Func.isWrapper; first | (rw [if_pos (by decide +kernel)]; kernel_rfl) | (rw [if_neg (by decide +kernel)]; exact ⟨rfl, rfl⟩))
    (fun os started H enc _ => stripeNext_lifted os started H enc)
#print axioms stripeNext_holds
end Go.Proofs.Ytlllamcaamlbgaa
