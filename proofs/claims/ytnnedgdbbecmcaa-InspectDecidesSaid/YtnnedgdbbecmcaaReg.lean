/-
  The contracts of the functions on regimes and plans.
-/
import Derived.Test.YtnnedgdbbecmcaaExt
import Derived.Test.YtnnedgdbbecmcaaPlain
namespace Go.Proofs.Ytnnedgdbbecmcaa
open Go.RowKit

theorem ret_int {k : IntKind} {a b : Int} (h : a = b) : Ending.returned (.int k a) = .returned (.int k b) := by rw [h]
theorem ret_bool {a b : Bool} (h : a = b) : Ending.returned (.bool a) = .returned (.bool b) := by rw [h]

set_option maxHeartbeats 4000000 in
theorem valid_any (l a r : Int) (w : World) : Calls Try.prog 21 #[.agg #[.int .i64 (l), .int .i64 (a), .int .i64 (r)]] w fun e w' => e = .returned (.bool (okR l a r)) ∧ ∃ z, w' = ext w z := by
  by_cases h1 : a < 0
  · go_enter Try.func21, Try.ntmps21
    go_wp2
    go_ret
    exact ⟨ret_bool (by unfold okR; simp <;> omega), (below_ext (by repeat (first | exact Below.refl _ _ | (with_reducible refine Below.setCell ?_ (by first | (simp; done) | (simp; omega)) _) | (with_reducible refine Below.alloc ?_ (by first | (simp; done) | (simp; omega)) _) | (with_reducible refine Below.onDrewN ?_ _) | (with_reducible refine Below.drew ?_) | (with_reducible refine Below.ofExt ?_ (by first | (simp; done) | (simp; omega))))))⟩
  · by_cases h2 : r < 0
    · go_enter Try.func21, Try.ntmps21
      go_wp2
      go_ret
      exact ⟨ret_bool (by unfold okR; simp <;> omega), (below_ext (by repeat (first | exact Below.refl _ _ | (with_reducible refine Below.setCell ?_ (by first | (simp; done) | (simp; omega)) _) | (with_reducible refine Below.alloc ?_ (by first | (simp; done) | (simp; omega)) _) | (with_reducible refine Below.onDrewN ?_ _) | (with_reducible refine Below.drew ?_) | (with_reducible refine Below.ofExt ?_ (by first | (simp; done) | (simp; omega))))))⟩
    · by_cases l2 : l = 2
      · subst l2
        by_cases r0 : r = 0
        · subst r0
          by_cases a10 : a < 10
          · go_enter Try.func21, Try.ntmps21
            go_wp2
            go_ret
            exact ⟨ret_bool (by unfold okR; simp <;> omega), (below_ext (by repeat (first | exact Below.refl _ _ | (with_reducible refine Below.setCell ?_ (by first | (simp; done) | (simp; omega)) _) | (with_reducible refine Below.alloc ?_ (by first | (simp; done) | (simp; omega)) _) | (with_reducible refine Below.onDrewN ?_ _) | (with_reducible refine Below.drew ?_) | (with_reducible refine Below.ofExt ?_ (by first | (simp; done) | (simp; omega))))))⟩
          · go_enter Try.func21, Try.ntmps21
            go_wp2
            go_ret
            exact ⟨ret_bool (by unfold okR; simp <;> omega), (below_ext (by repeat (first | exact Below.refl _ _ | (with_reducible refine Below.setCell ?_ (by first | (simp; done) | (simp; omega)) _) | (with_reducible refine Below.alloc ?_ (by first | (simp; done) | (simp; omega)) _) | (with_reducible refine Below.onDrewN ?_ _) | (with_reducible refine Below.drew ?_) | (with_reducible refine Below.ofExt ?_ (by first | (simp; done) | (simp; omega))))))⟩
        · have r0b : (r == 0) = false := by simpa using r0
          by_cases r1 : r = 1
          · subst r1
            by_cases a5 : a < 5
            · go_enter Try.func21, Try.ntmps21
              go_wp2
              go_ret
              exact ⟨ret_bool (by unfold okR; simp <;> omega), (below_ext (by repeat (first | exact Below.refl _ _ | (with_reducible refine Below.setCell ?_ (by first | (simp; done) | (simp; omega)) _) | (with_reducible refine Below.alloc ?_ (by first | (simp; done) | (simp; omega)) _) | (with_reducible refine Below.onDrewN ?_ _) | (with_reducible refine Below.drew ?_) | (with_reducible refine Below.ofExt ?_ (by first | (simp; done) | (simp; omega))))))⟩
            · go_enter Try.func21, Try.ntmps21
              go_wp2
              go_ret
              exact ⟨ret_bool (by unfold okR; simp <;> omega), (below_ext (by repeat (first | exact Below.refl _ _ | (with_reducible refine Below.setCell ?_ (by first | (simp; done) | (simp; omega)) _) | (with_reducible refine Below.alloc ?_ (by first | (simp; done) | (simp; omega)) _) | (with_reducible refine Below.onDrewN ?_ _) | (with_reducible refine Below.drew ?_) | (with_reducible refine Below.ofExt ?_ (by first | (simp; done) | (simp; omega))))))⟩
          · have r1b : (r == 1) = false := by simpa using r1
            go_enter Try.func21, Try.ntmps21
            go_wp2
            go_ret
            exact ⟨ret_bool (by unfold okR; simp <;> omega), (below_ext (by repeat (first | exact Below.refl _ _ | (with_reducible refine Below.setCell ?_ (by first | (simp; done) | (simp; omega)) _) | (with_reducible refine Below.alloc ?_ (by first | (simp; done) | (simp; omega)) _) | (with_reducible refine Below.onDrewN ?_ _) | (with_reducible refine Below.drew ?_) | (with_reducible refine Below.ofExt ?_ (by first | (simp; done) | (simp; omega))))))⟩
      · have l2b : (l == 2) = false := by simpa using l2
        by_cases l3 : l = 3
        · subst l3
          by_cases a5 : a < 5
          · by_cases r5 : r < 5
            · go_enter Try.func21, Try.ntmps21
              go_wp2
              go_ret
              exact ⟨ret_bool (by unfold okR; simp <;> omega), (below_ext (by repeat (first | exact Below.refl _ _ | (with_reducible refine Below.setCell ?_ (by first | (simp; done) | (simp; omega)) _) | (with_reducible refine Below.alloc ?_ (by first | (simp; done) | (simp; omega)) _) | (with_reducible refine Below.onDrewN ?_ _) | (with_reducible refine Below.drew ?_) | (with_reducible refine Below.ofExt ?_ (by first | (simp; done) | (simp; omega))))))⟩
            · go_enter Try.func21, Try.ntmps21
              go_wp2
              go_ret
              exact ⟨ret_bool (by unfold okR; simp <;> omega), (below_ext (by repeat (first | exact Below.refl _ _ | (with_reducible refine Below.setCell ?_ (by first | (simp; done) | (simp; omega)) _) | (with_reducible refine Below.alloc ?_ (by first | (simp; done) | (simp; omega)) _) | (with_reducible refine Below.onDrewN ?_ _) | (with_reducible refine Below.drew ?_) | (with_reducible refine Below.ofExt ?_ (by first | (simp; done) | (simp; omega))))))⟩
          · go_enter Try.func21, Try.ntmps21
            go_wp2
            go_ret
            exact ⟨ret_bool (by unfold okR; simp <;> omega), (below_ext (by repeat (first | exact Below.refl _ _ | (with_reducible refine Below.setCell ?_ (by first | (simp; done) | (simp; omega)) _) | (with_reducible refine Below.alloc ?_ (by first | (simp; done) | (simp; omega)) _) | (with_reducible refine Below.onDrewN ?_ _) | (with_reducible refine Below.drew ?_) | (with_reducible refine Below.ofExt ?_ (by first | (simp; done) | (simp; omega))))))⟩
        · have l3b : (l == 3) = false := by simpa using l3
          by_cases l1 : l = 1
          · subst l1
            by_cases a0 : a = 0
            · subst a0
              by_cases r0 : r = 0
              · subst r0
                go_enter Try.func21, Try.ntmps21
                go_wp2
                go_ret
                exact ⟨ret_bool (by unfold okR; simp <;> omega), (below_ext (by repeat (first | exact Below.refl _ _ | (with_reducible refine Below.setCell ?_ (by first | (simp; done) | (simp; omega)) _) | (with_reducible refine Below.alloc ?_ (by first | (simp; done) | (simp; omega)) _) | (with_reducible refine Below.onDrewN ?_ _) | (with_reducible refine Below.drew ?_) | (with_reducible refine Below.ofExt ?_ (by first | (simp; done) | (simp; omega))))))⟩
              · have r0b : (r == 0) = false := by simpa using r0
                go_enter Try.func21, Try.ntmps21
                go_wp2
                go_ret
                exact ⟨ret_bool (by unfold okR; simp <;> omega), (below_ext (by repeat (first | exact Below.refl _ _ | (with_reducible refine Below.setCell ?_ (by first | (simp; done) | (simp; omega)) _) | (with_reducible refine Below.alloc ?_ (by first | (simp; done) | (simp; omega)) _) | (with_reducible refine Below.onDrewN ?_ _) | (with_reducible refine Below.drew ?_) | (with_reducible refine Below.ofExt ?_ (by first | (simp; done) | (simp; omega))))))⟩
            · have a0b : (a == 0) = false := by simpa using a0
              go_enter Try.func21, Try.ntmps21
              go_wp2
              go_ret
              exact ⟨ret_bool (by unfold okR; simp <;> omega), (below_ext (by repeat (first | exact Below.refl _ _ | (with_reducible refine Below.setCell ?_ (by first | (simp; done) | (simp; omega)) _) | (with_reducible refine Below.alloc ?_ (by first | (simp; done) | (simp; omega)) _) | (with_reducible refine Below.onDrewN ?_ _) | (with_reducible refine Below.drew ?_) | (with_reducible refine Below.ofExt ?_ (by first | (simp; done) | (simp; omega))))))⟩
          · have l1b : (l == 1) = false := by simpa using l1
            by_cases l4 : l = 4
            · subst l4
              by_cases a0 : a = 0
              · subst a0
                by_cases r0 : r = 0
                · subst r0
                  go_enter Try.func21, Try.ntmps21
                  go_wp2
                  go_ret
                  exact ⟨ret_bool (by unfold okR; simp <;> omega), (below_ext (by repeat (first | exact Below.refl _ _ | (with_reducible refine Below.setCell ?_ (by first | (simp; done) | (simp; omega)) _) | (with_reducible refine Below.alloc ?_ (by first | (simp; done) | (simp; omega)) _) | (with_reducible refine Below.onDrewN ?_ _) | (with_reducible refine Below.drew ?_) | (with_reducible refine Below.ofExt ?_ (by first | (simp; done) | (simp; omega))))))⟩
                · have r0b : (r == 0) = false := by simpa using r0
                  go_enter Try.func21, Try.ntmps21
                  go_wp2
                  go_ret
                  exact ⟨ret_bool (by unfold okR; simp <;> omega), (below_ext (by repeat (first | exact Below.refl _ _ | (with_reducible refine Below.setCell ?_ (by first | (simp; done) | (simp; omega)) _) | (with_reducible refine Below.alloc ?_ (by first | (simp; done) | (simp; omega)) _) | (with_reducible refine Below.onDrewN ?_ _) | (with_reducible refine Below.drew ?_) | (with_reducible refine Below.ofExt ?_ (by first | (simp; done) | (simp; omega))))))⟩
              · have a0b : (a == 0) = false := by simpa using a0
                go_enter Try.func21, Try.ntmps21
                go_wp2
                go_ret
                exact ⟨ret_bool (by unfold okR; simp <;> omega), (below_ext (by repeat (first | exact Below.refl _ _ | (with_reducible refine Below.setCell ?_ (by first | (simp; done) | (simp; omega)) _) | (with_reducible refine Below.alloc ?_ (by first | (simp; done) | (simp; omega)) _) | (with_reducible refine Below.onDrewN ?_ _) | (with_reducible refine Below.drew ?_) | (with_reducible refine Below.ofExt ?_ (by first | (simp; done) | (simp; omega))))))⟩
            · have l4b : (l == 4) = false := by simpa using l4
              go_enter Try.func21, Try.ntmps21
              go_wp2
              go_ret
              exact ⟨ret_bool (by unfold okR; simp <;> omega), (below_ext (by repeat (first | exact Below.refl _ _ | (with_reducible refine Below.setCell ?_ (by first | (simp; done) | (simp; omega)) _) | (with_reducible refine Below.alloc ?_ (by first | (simp; done) | (simp; omega)) _) | (with_reducible refine Below.onDrewN ?_ _) | (with_reducible refine Below.drew ?_) | (with_reducible refine Below.ofExt ?_ (by first | (simp; done) | (simp; omega))))))⟩

set_option maxHeartbeats 4000000 in
theorem Right_any (l a r : Int) (w : World) : Calls Try.prog 25 #[.agg #[.int .i64 (l), .int .i64 (a), .int .i64 (r)]] w fun e w' => e = .returned (.bool (okR l a r)) ∧ ∃ z, w' = ext w z := by
  by_cases h1 : a < 0
  · go_enter Try.func25, Try.ntmps25
    go_wp2
    go_ret
    exact ⟨ret_bool (by unfold okR; simp <;> omega), (below_ext (by repeat (first | exact Below.refl _ _ | (with_reducible refine Below.setCell ?_ (by first | (simp; done) | (simp; omega)) _) | (with_reducible refine Below.alloc ?_ (by first | (simp; done) | (simp; omega)) _) | (with_reducible refine Below.onDrewN ?_ _) | (with_reducible refine Below.drew ?_) | (with_reducible refine Below.ofExt ?_ (by first | (simp; done) | (simp; omega))))))⟩
  · by_cases h2 : r < 0
    · go_enter Try.func25, Try.ntmps25
      go_wp2
      go_ret
      exact ⟨ret_bool (by unfold okR; simp <;> omega), (below_ext (by repeat (first | exact Below.refl _ _ | (with_reducible refine Below.setCell ?_ (by first | (simp; done) | (simp; omega)) _) | (with_reducible refine Below.alloc ?_ (by first | (simp; done) | (simp; omega)) _) | (with_reducible refine Below.onDrewN ?_ _) | (with_reducible refine Below.drew ?_) | (with_reducible refine Below.ofExt ?_ (by first | (simp; done) | (simp; omega))))))⟩
    · by_cases l2 : l = 2
      · subst l2
        by_cases r0 : r = 0
        · subst r0
          by_cases a10 : a ≤ 9
          · go_enter Try.func25, Try.ntmps25
            go_wp2
            go_ret
            exact ⟨ret_bool (by unfold okR; simp <;> omega), (below_ext (by repeat (first | exact Below.refl _ _ | (with_reducible refine Below.setCell ?_ (by first | (simp; done) | (simp; omega)) _) | (with_reducible refine Below.alloc ?_ (by first | (simp; done) | (simp; omega)) _) | (with_reducible refine Below.onDrewN ?_ _) | (with_reducible refine Below.drew ?_) | (with_reducible refine Below.ofExt ?_ (by first | (simp; done) | (simp; omega))))))⟩
          · go_enter Try.func25, Try.ntmps25
            go_wp2
            go_ret
            exact ⟨ret_bool (by unfold okR; simp <;> omega), (below_ext (by repeat (first | exact Below.refl _ _ | (with_reducible refine Below.setCell ?_ (by first | (simp; done) | (simp; omega)) _) | (with_reducible refine Below.alloc ?_ (by first | (simp; done) | (simp; omega)) _) | (with_reducible refine Below.onDrewN ?_ _) | (with_reducible refine Below.drew ?_) | (with_reducible refine Below.ofExt ?_ (by first | (simp; done) | (simp; omega))))))⟩
        · have r0b : (r == 0) = false := by simpa using r0
          by_cases r1 : r = 1
          · subst r1
            by_cases a5 : a ≤ 4
            · go_enter Try.func25, Try.ntmps25
              go_wp2
              go_ret
              exact ⟨ret_bool (by unfold okR; simp <;> omega), (below_ext (by repeat (first | exact Below.refl _ _ | (with_reducible refine Below.setCell ?_ (by first | (simp; done) | (simp; omega)) _) | (with_reducible refine Below.alloc ?_ (by first | (simp; done) | (simp; omega)) _) | (with_reducible refine Below.onDrewN ?_ _) | (with_reducible refine Below.drew ?_) | (with_reducible refine Below.ofExt ?_ (by first | (simp; done) | (simp; omega))))))⟩
            · go_enter Try.func25, Try.ntmps25
              go_wp2
              go_ret
              exact ⟨ret_bool (by unfold okR; simp <;> omega), (below_ext (by repeat (first | exact Below.refl _ _ | (with_reducible refine Below.setCell ?_ (by first | (simp; done) | (simp; omega)) _) | (with_reducible refine Below.alloc ?_ (by first | (simp; done) | (simp; omega)) _) | (with_reducible refine Below.onDrewN ?_ _) | (with_reducible refine Below.drew ?_) | (with_reducible refine Below.ofExt ?_ (by first | (simp; done) | (simp; omega))))))⟩
          · have r1b : (r == 1) = false := by simpa using r1
            go_enter Try.func25, Try.ntmps25
            go_wp2
            go_ret
            exact ⟨ret_bool (by unfold okR; simp <;> omega), (below_ext (by repeat (first | exact Below.refl _ _ | (with_reducible refine Below.setCell ?_ (by first | (simp; done) | (simp; omega)) _) | (with_reducible refine Below.alloc ?_ (by first | (simp; done) | (simp; omega)) _) | (with_reducible refine Below.onDrewN ?_ _) | (with_reducible refine Below.drew ?_) | (with_reducible refine Below.ofExt ?_ (by first | (simp; done) | (simp; omega))))))⟩
      · have l2b : (l == 2) = false := by simpa using l2
        by_cases l3 : l = 3
        · subst l3
          by_cases r5 : r ≤ 4
          · by_cases a5 : a ≤ 4
            · go_enter Try.func25, Try.ntmps25
              go_wp2
              go_ret
              exact ⟨ret_bool (by unfold okR; simp <;> omega), (below_ext (by repeat (first | exact Below.refl _ _ | (with_reducible refine Below.setCell ?_ (by first | (simp; done) | (simp; omega)) _) | (with_reducible refine Below.alloc ?_ (by first | (simp; done) | (simp; omega)) _) | (with_reducible refine Below.onDrewN ?_ _) | (with_reducible refine Below.drew ?_) | (with_reducible refine Below.ofExt ?_ (by first | (simp; done) | (simp; omega))))))⟩
            · go_enter Try.func25, Try.ntmps25
              go_wp2
              go_ret
              exact ⟨ret_bool (by unfold okR; simp <;> omega), (below_ext (by repeat (first | exact Below.refl _ _ | (with_reducible refine Below.setCell ?_ (by first | (simp; done) | (simp; omega)) _) | (with_reducible refine Below.alloc ?_ (by first | (simp; done) | (simp; omega)) _) | (with_reducible refine Below.onDrewN ?_ _) | (with_reducible refine Below.drew ?_) | (with_reducible refine Below.ofExt ?_ (by first | (simp; done) | (simp; omega))))))⟩
          · go_enter Try.func25, Try.ntmps25
            go_wp2
            go_ret
            exact ⟨ret_bool (by unfold okR; simp <;> omega), (below_ext (by repeat (first | exact Below.refl _ _ | (with_reducible refine Below.setCell ?_ (by first | (simp; done) | (simp; omega)) _) | (with_reducible refine Below.alloc ?_ (by first | (simp; done) | (simp; omega)) _) | (with_reducible refine Below.onDrewN ?_ _) | (with_reducible refine Below.drew ?_) | (with_reducible refine Below.ofExt ?_ (by first | (simp; done) | (simp; omega))))))⟩
        · have l3b : (l == 3) = false := by simpa using l3
          by_cases l1 : l = 1
          · subst l1
            by_cases r0 : r = 0
            · subst r0
              by_cases a0 : a = 0
              · subst a0
                go_enter Try.func25, Try.ntmps25
                go_wp2
                go_ret
                exact ⟨ret_bool (by unfold okR; simp <;> omega), (below_ext (by repeat (first | exact Below.refl _ _ | (with_reducible refine Below.setCell ?_ (by first | (simp; done) | (simp; omega)) _) | (with_reducible refine Below.alloc ?_ (by first | (simp; done) | (simp; omega)) _) | (with_reducible refine Below.onDrewN ?_ _) | (with_reducible refine Below.drew ?_) | (with_reducible refine Below.ofExt ?_ (by first | (simp; done) | (simp; omega))))))⟩
              · have a0b : (a == 0) = false := by simpa using a0
                go_enter Try.func25, Try.ntmps25
                go_wp2
                go_ret
                exact ⟨ret_bool (by unfold okR; simp <;> omega), (below_ext (by repeat (first | exact Below.refl _ _ | (with_reducible refine Below.setCell ?_ (by first | (simp; done) | (simp; omega)) _) | (with_reducible refine Below.alloc ?_ (by first | (simp; done) | (simp; omega)) _) | (with_reducible refine Below.onDrewN ?_ _) | (with_reducible refine Below.drew ?_) | (with_reducible refine Below.ofExt ?_ (by first | (simp; done) | (simp; omega))))))⟩
            · have r0b : (r == 0) = false := by simpa using r0
              go_enter Try.func25, Try.ntmps25
              go_wp2
              go_ret
              exact ⟨ret_bool (by unfold okR; simp <;> omega), (below_ext (by repeat (first | exact Below.refl _ _ | (with_reducible refine Below.setCell ?_ (by first | (simp; done) | (simp; omega)) _) | (with_reducible refine Below.alloc ?_ (by first | (simp; done) | (simp; omega)) _) | (with_reducible refine Below.onDrewN ?_ _) | (with_reducible refine Below.drew ?_) | (with_reducible refine Below.ofExt ?_ (by first | (simp; done) | (simp; omega))))))⟩
          · have l1b : (l == 1) = false := by simpa using l1
            by_cases l4 : l = 4
            · subst l4
              by_cases r0 : r = 0
              · subst r0
                by_cases a0 : a = 0
                · subst a0
                  go_enter Try.func25, Try.ntmps25
                  go_wp2
                  go_ret
                  exact ⟨ret_bool (by unfold okR; simp <;> omega), (below_ext (by repeat (first | exact Below.refl _ _ | (with_reducible refine Below.setCell ?_ (by first | (simp; done) | (simp; omega)) _) | (with_reducible refine Below.alloc ?_ (by first | (simp; done) | (simp; omega)) _) | (with_reducible refine Below.onDrewN ?_ _) | (with_reducible refine Below.drew ?_) | (with_reducible refine Below.ofExt ?_ (by first | (simp; done) | (simp; omega))))))⟩
                · have a0b : (a == 0) = false := by simpa using a0
                  go_enter Try.func25, Try.ntmps25
                  go_wp2
                  go_ret
                  exact ⟨ret_bool (by unfold okR; simp <;> omega), (below_ext (by repeat (first | exact Below.refl _ _ | (with_reducible refine Below.setCell ?_ (by first | (simp; done) | (simp; omega)) _) | (with_reducible refine Below.alloc ?_ (by first | (simp; done) | (simp; omega)) _) | (with_reducible refine Below.onDrewN ?_ _) | (with_reducible refine Below.drew ?_) | (with_reducible refine Below.ofExt ?_ (by first | (simp; done) | (simp; omega))))))⟩
              · have r0b : (r == 0) = false := by simpa using r0
                go_enter Try.func25, Try.ntmps25
                go_wp2
                go_ret
                exact ⟨ret_bool (by unfold okR; simp <;> omega), (below_ext (by repeat (first | exact Below.refl _ _ | (with_reducible refine Below.setCell ?_ (by first | (simp; done) | (simp; omega)) _) | (with_reducible refine Below.alloc ?_ (by first | (simp; done) | (simp; omega)) _) | (with_reducible refine Below.onDrewN ?_ _) | (with_reducible refine Below.drew ?_) | (with_reducible refine Below.ofExt ?_ (by first | (simp; done) | (simp; omega))))))⟩
            · have l4b : (l == 4) = false := by simpa using l4
              go_enter Try.func25, Try.ntmps25
              go_wp2
              go_ret
              exact ⟨ret_bool (by unfold okR; simp <;> omega), (below_ext (by repeat (first | exact Below.refl _ _ | (with_reducible refine Below.setCell ?_ (by first | (simp; done) | (simp; omega)) _) | (with_reducible refine Below.alloc ?_ (by first | (simp; done) | (simp; omega)) _) | (with_reducible refine Below.onDrewN ?_ _) | (with_reducible refine Below.drew ?_) | (with_reducible refine Below.ofExt ?_ (by first | (simp; done) | (simp; omega))))))⟩

end Go.Proofs.Ytnnedgdbbecmcaa
