/-
  StripeBounds returns true for every repeat and every point; no condition.
-/
import Derived.Test.YtlllamcaamlbgaaBool
import Derived.Test.YtlllamcaamlbgaaOpen
import Derived.Deep.RegionHeld3
import Derived.Deep.DeepCutAuto
namespace Go.Proofs.Ytlllamcaamlbgaa
open Go.RowKit Go.ChangeShapes Go.WideShapes Go.ChangeAt Go.Joins

set_option maxHeartbeats 4000000 in
theorem bounds_walk (x y a b : Int) (w : World) : Calls Try.prog 6 #[.agg #[.int .i64 (x), .int .i64 (y)], .agg #[.int .i64 (a), .int .i64 (b)]] w fun e w' => e = .returned (.bool true) ∧ ∃ z, w' = ext w z := by
  have hx := per_bd x
  have hy := per_bd y
  have e1 : eq2 (md (lim (md (lim a) (per x))) (per x)) (md (lim (md (lim b) (per y))) (per y)) (md (lim a) (per x)) (md (lim b) (per y)) = true := by rw [md_again _ _ hx.1 hx.2, md_again _ _ hy.1 hy.2]; simp [eq2]
  have e2 : eq2 (md (lim a) (per x)) (md (lim b) (per y)) (md (lim (md (lim a) (per x))) (per x)) (md (lim (md (lim b) (per y))) (per y)) = true := by rw [md_again _ _ hx.1 hx.2, md_again _ _ hy.1 hy.2]; simp [eq2]
  have e3 : eq2 (per (per x)) (per (per y)) (per x) (per y) = true := by rw [per_per, per_per]; simp [eq2]
  have e4 : eq2 (md (lim a) (per (per x))) (md (lim b) (per (per y))) (md (lim a) (per x)) (md (lim b) (per y)) = true := by rw [per_per, per_per]; simp [eq2]
  have b1 := md_bd (lim a) (per x) hx.1
  have b2 := md_bd (lim b) (per y) hy.1
  go_enter Try.func6, Try.ntmps6
  go_upto_region 1 with fail
  go_cut [5, 6] (fun s5 s6 wx => ∃ g h : Nat, s5 = .pointer (some ⟨g, 0, none⟩) ∧ s6 = .pointer (some ⟨h, 0, none⟩) ∧ wx.cell? ⟨g, 0, none⟩ = some (.int .i64 (md (lim a) (per x))) ∧ wx.cell? ⟨g, 1, none⟩ = some (.int .i64 (md (lim b) (per y))) ∧ wx.cell? ⟨h, 0, none⟩ = some (.int .i64 (per x)) ∧ wx.cell? ⟨h, 1, none⟩ = some (.int .i64 (per y)) ∧ wx.cell? ⟨w.heap.size, 0, none⟩ = some (.int .i64 (x)) ∧ wx.cell? ⟨w.heap.size, 1, none⟩ = some (.int .i64 (y)) ∧ wx.cell? ⟨w.heap.size + 1, 0, none⟩ = some (.int .i64 (a)) ∧ wx.cell? ⟨w.heap.size + 1, 1, none⟩ = some (.int .i64 (b)) ∧ Below w.heap.size w wx)
  case first =>
    go_region_held3 (fun w' => w'.cell? ⟨w.heap.size, 0, none⟩ = some (.int .i64 (x)) ∧ w'.cell? ⟨w.heap.size, 1, none⟩ = some (.int .i64 (y)) ∧ w'.cell? ⟨w.heap.size + 1, 0, none⟩ = some (.int .i64 (a)) ∧ w'.cell? ⟨w.heap.size + 1, 1, none⟩ = some (.int .i64 (b))) (((try dsimp only); (repeat' apply And.intro) <;> ((repeat (first | rw [ext_cell_mk _ _ _ _ (by first | (simp; done) | (simp; omega))] | rw [World.cell?_alloc_past _ _ _ (by first | (simp; done) | (simp; omega))] | rw [World.cell?_drew])); simp)))
      (first
        | (go_at_call 12; refine (Phase_any _ _ _ _ _).mono ?_; rintro e w' ⟨rfl, z, rfl⟩)
        | (go_at_call 10; refine (Norm_any _ _ _).mono ?_; rintro e w' ⟨rfl, z, rfl⟩))
    all_goals (go_wp2_with fail; go_meet; refine ⟨_, _, rfl, rfl, ?_, ?_, ?_, ?_, ?_, ?_, ?_, ?_, ?_⟩)
    all_goals first | (simp [go_sem]; done) | exact (by repeat (first | exact Below.refl _ _ | (with_reducible refine Below.setCell ?_ (by first | (simp; done) | (simp; omega)) _) | (with_reducible refine Below.alloc ?_ (by first | (simp; done) | (simp; omega)) _) | (with_reducible refine Below.onDrewN ?_ _) | (with_reducible refine Below.drew ?_) | (with_reducible refine Below.ofExt ?_ (by first | (simp; done) | (simp; omega)))))
  case rest =>
    obtain ⟨g, h, rfl, rfl, c1, c2, c3, c4, c5, c6, c7, c8, hb⟩ := hcut
    have d1 : decide (0 ≤ md (lim a) (per x)) = true := by simp; omega
    have d2 : decide (0 ≤ md (lim b) (per y)) = true := by simp; omega
    have f1 : 0 ≤ md (lim a) (per x) := b1.1
    have f2 : 0 ≤ md (lim b) (per y) := b2.1
    have hx1 := hx.1
    have hx2 := hx.2
    have hy1 := hy.1
    have hy2 := hy.2
    by_cases hxn : per x < 1
    · have q1 : md (lim a) (per x) ≤ 0 := by omega
      by_cases hyn : per y < 1
      · have q2 : md (lim b) (per y) ≤ 0 := by omega
        clear b1 b2 hx hy
        go_wp2_with fail
        refine wp_region_ext (by kernel_rfl) (by kernel_rfl) ?_
        repeat (go_big_quiet_step ((first | (go_at_call 10; exact Calls.ext_of (Norm_any _ _ _)) | (go_at_call 12; exact Calls.ext_of (Phase_any _ _ _ _ _)) | (go_at_call 14; exact Calls.ext_of (alive_any _)) | (go_at_call 15; exact Calls.ext_of (Same_any _ _ _ _ _ _ _)))))
        refine wpQuiet_nil ?_
        rintro _ ⟨k, rfl⟩
        go_wp2
        go_ret
        exact ⟨rfl, below_ext (Below.ofExt hb hb.size)⟩
      · have q2 : md (lim b) (per y) ≤ per y - 1 := by omega
        clear b1 b2 hx hy
        go_wp2_with fail
        refine wp_region_ext (by kernel_rfl) (by kernel_rfl) ?_
        repeat (go_big_quiet_step ((first | (go_at_call 10; exact Calls.ext_of (Norm_any _ _ _)) | (go_at_call 12; exact Calls.ext_of (Phase_any _ _ _ _ _)) | (go_at_call 14; exact Calls.ext_of (alive_any _)) | (go_at_call 15; exact Calls.ext_of (Same_any _ _ _ _ _ _ _)))))
        refine wpQuiet_nil ?_
        rintro _ ⟨k, rfl⟩
        go_wp2
        go_ret
        exact ⟨rfl, below_ext (Below.ofExt hb hb.size)⟩
    · have q1 : md (lim a) (per x) ≤ per x - 1 := by omega
      by_cases hyn : per y < 1
      · have q2 : md (lim b) (per y) ≤ 0 := by omega
        clear b1 b2 hx hy
        go_wp2_with fail
        refine wp_region_ext (by kernel_rfl) (by kernel_rfl) ?_
        repeat (go_big_quiet_step ((first | (go_at_call 10; exact Calls.ext_of (Norm_any _ _ _)) | (go_at_call 12; exact Calls.ext_of (Phase_any _ _ _ _ _)) | (go_at_call 14; exact Calls.ext_of (alive_any _)) | (go_at_call 15; exact Calls.ext_of (Same_any _ _ _ _ _ _ _)))))
        refine wpQuiet_nil ?_
        rintro _ ⟨k, rfl⟩
        go_wp2
        go_ret
        exact ⟨rfl, below_ext (Below.ofExt hb hb.size)⟩
      · have q2 : md (lim b) (per y) ≤ per y - 1 := by omega
        clear b1 b2 hx hy
        go_wp2_with fail
        refine wp_region_ext (by kernel_rfl) (by kernel_rfl) ?_
        repeat (go_big_quiet_step ((first | (go_at_call 10; exact Calls.ext_of (Norm_any _ _ _)) | (go_at_call 12; exact Calls.ext_of (Phase_any _ _ _ _ _)) | (go_at_call 14; exact Calls.ext_of (alive_any _)) | (go_at_call 15; exact Calls.ext_of (Same_any _ _ _ _ _ _ _)))))
        refine wpQuiet_nil ?_
        rintro _ ⟨k, rfl⟩
        go_wp2
        go_ret
        exact ⟨rfl, below_ext (Below.ofExt hb hb.size)⟩

set_option maxRecDepth 100000 in
theorem stripeBounds_lifted (os : Os) (started : os.Started) (H : Type) (enc : TypeId × Value → H) :
    ReturnsInHanded {} Try.checked os 6 .any (Rows.stripeBoundsSpec.pre6 enc Try.prog Try.f6 Rows.stripeBoundsRow.domain false) (Rows.stripeBoundsSpec.post enc Try.prog Try.f6 false true false false) := by
  refine returnsInHanded_of_change (C := Try.checked) own started (by kernel_rfl) Try.func6
    (ChangeSpec.witness6 (enc := enc) (C := Try.checked) false ⟨#[], #[.agg #[.int .i64 0, .int .i64 0], .agg #[.int .i64 0, .int .i64 0]], []⟩ 8 (by kernel_rfl) (by kernel_rfl) (by kernel_rfl) (by kernel_rfl)) ?_
  intro W base args ds gs before hval0 hW hcnd _
  have hval : ∀ (j : Nat) t v, Try.f6.params[j]? = some t → args[j]? = some v → Value.okWide Try.prog W .any base t v := hval0
  have hW' := hW
  obtain ⟨p, q, hA0, hV, rfl, hfz, hnd⟩ := hW
  have hA : DataW.TrodAll enc Try.prog W 0 (fun _ => true) true Try.f6.params.toList args.toList ds p := hA0
  rw [Try.params6] at hA hval
  obtain ⟨v0, v1, d0, d1, p0, p1, rfl, rfl, rfl, h0, h1⟩ := trodAll_two hA
  obtain ⟨x, y, rfl, wx, wy⟩ := open_pair (t := 23) Try.underlying23 Try.cells23 (hval 0 23 v0 rfl rfl) h0
  obtain ⟨a, b, rfl, wa, wb⟩ := open_pair (t := 24) Try.underlying24 Try.cells24 (hval 1 24 v1 rfl rfl) h1
  refine (bounds_walk x y a b W).mono fun e W' ⟨he, z, hz⟩ => ?_
  subst he hz
  exact ⟨_, rfl, law_post rfl (by kernel_rfl) (by kernel_rfl) Try.underlying4 hW' (fun _ => ⟨rfl, rfl, rfl⟩) (ext_below _ _)⟩

theorem stripeBounds_holds : Rows.StripeBoundsSaid :=
  OpenClaim.holds_of_wide 6 Try.f6 rfl rfl rfl rfl rfl rfl rfl ⟨rfl, rfl, rfl, rfl, rfl⟩ rfl rfl rfl rfl rfl (by kernel_rfl) Try.func6 (by kernel_rfl)
    (of_decide_eq_true (by kernel_rfl)) (by unfold Func.isWrapper; first | (rw [if_pos (by decide +kernel)]; kernel_rfl) | (rw [if_neg (by decide +kernel)]; exact ⟨rfl, rfl⟩))
    (fun os started H enc _ => stripeBounds_lifted os started H enc)
#print axioms stripeBounds_holds
end Go.Proofs.Ytlllamcaamlbgaa
