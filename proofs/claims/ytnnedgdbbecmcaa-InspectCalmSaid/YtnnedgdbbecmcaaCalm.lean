/-
  InspectCalm returns true for every list of lots; no condition.
-/
import Derived.Test.YtnnedgdbbecmcaaAl
import Derived.Test.YtnnedgdbbecmcaaArgs
namespace Go.Proofs.Ytnnedgdbbecmcaa
open Go.RowKit Go.ChangeShapes Go.WideShapes Go.ChangeAt

theorem Try.cells3 : Try.prog.cellsOf 3 = 1 := by kernel_rfl
theorem Try.cells4 : Try.prog.cellsOf 4 = 1 := by kernel_rfl
theorem Try.info3 : (Try.prog.info? 3).map (fun i => (i.zero, i.size, i.bytes)) = some (some (.int .i64 0), 1, 8) := by kernel_rfl
theorem eq3_self (x y z : Int) : eq3 x y z x y z = true := by simp [eq3]

set_option maxHeartbeats 16000000 in
theorem calm_walk (ad : Option Addr) (c : Nat) (L : List Int) (w : World) (h : RowAt w ad (L.map (.int .i64))) (hm : L.length ≤ maxLen) :
    Calls Try.prog 9 #[.slice ad L.length c] w fun e w' => e = .returned (.bool true) ∧ ∃ z, w' = ext w z := by
  unfold maxLen at hm
  have h1 := Lib.hid h
  clear h
  by_cases g1 : 200 < L.length
  · go_enter Try.func9, Try.ntmps9
    go_wp2_with (first | (go_at_call 11; (first | (with_reducible refine (Calls.ext_of (alive_any _)).mono ?_) | refine (alive_any _).mono ?_); rintro e w' ⟨rfl, z, rfl⟩))
    go_ret
    exact ⟨rfl, (below_ext (by repeat (first | exact Below.refl _ _ | (with_reducible refine Below.setCell ?_ (by first | (simp; done) | (simp; omega)) _) | (with_reducible refine Below.alloc ?_ (by first | (simp; done) | (simp; omega)) _) | (with_reducible refine Below.onDrewN ?_ _) | (with_reducible refine Below.drew ?_) | (with_reducible refine Below.ofExt ?_ (by first | (simp; done) | (simp; omega))))))⟩
  · have hz := fun W => make1 Try.underlying33 Try.info3 L.length (by omega) (by decide) W
    have R1 : ∀ W a', RowAt W ad (L.map (.int .i64)) → RowAt W a' (List.replicate L.length (.int .i64 0)) → Calls Try.prog 14 #[.slice ad L.length c, .slice a' L.length L.length] W (RunPost (runP L (List.replicate L.length 0)) W) := fun W a' x y => by
      have := Run_any ad a' c L.length L (List.replicate L.length 0) W x (by simpa using y) (by omega)
      simpa using this
    have CA := Lib.hid (calm_all L)
    have KR := Lib.hid R1
    clear R1
    generalize hn : L.length = n at *
    have HN := Lib.hid hn
    clear hn
    go_enter Try.func9, Try.ntmps9
    go_wp2
    go_loop [3] (fun i => ∃ k : Nat, k ≤ n ∧ i = .int .i64 k ∧ AllIn L k) (fun i => n - (intOf i).toNat)
    case atStart => exact ⟨0, by omega, rfl, fun i _ hi => by omega⟩
    case round =>
      obtain ⟨k, hk, rfl, hall⟩ := hrel
      have HA := Lib.hid hall
      clear hall
      by_cases hlt : k < n
      · have kL : k < L.length := by rw [HN.out]; exact hlt
        obtain ⟨b, o, rfl, bl, hc⟩ := h1.out.at (k := k) (by simpa using kL)
        rw [List.getElem_map] at hc
        have i1 : (0 : Int) ≤ (k : Int) := by omega
        have i2 : (k : Int) < (n : Int) := by omega
        by_cases m1 : L[k] < 2
        · clear hz
          generalize L[k] = m at *
          go_wp2_with (first | (go_at_call 11; (first | (with_reducible refine (Calls.ext_of (alive_any _)).mono ?_) | refine (alive_any _).mono ?_); rintro e w' ⟨rfl, z, rfl⟩))
          go_ret
          exact ⟨rfl, (below_ext (by repeat (first | exact Below.refl _ _ | (with_reducible refine Below.setCell ?_ (by first | (simp; done) | (simp; omega)) _) | (with_reducible refine Below.alloc ?_ (by first | (simp; done) | (simp; omega)) _) | (with_reducible refine Below.onDrewN ?_ _) | (with_reducible refine Below.drew ?_) | (with_reducible refine Below.ofExt ?_ (by first | (simp; done) | (simp; omega))))))⟩
        · by_cases m2 : 200 < L[k]
          · clear hz
            generalize L[k] = m at *
            go_wp2_with (first | (go_at_call 11; (first | (with_reducible refine (Calls.ext_of (alive_any _)).mono ?_) | refine (alive_any _).mono ?_); rintro e w' ⟨rfl, z, rfl⟩))
            go_ret
            exact ⟨rfl, (below_ext (by repeat (first | exact Below.refl _ _ | (with_reducible refine Below.setCell ?_ (by first | (simp; done) | (simp; omega)) _) | (with_reducible refine Below.alloc ?_ (by first | (simp; done) | (simp; omega)) _) | (with_reducible refine Below.onDrewN ?_ _) | (with_reducible refine Below.drew ?_) | (with_reducible refine Below.ofExt ?_ (by first | (simp; done) | (simp; omega))))))⟩
          · have HB := Lib.hid (allIn_succ HA.out kL ⟨by omega, by omega⟩)
            generalize L[k] = m at *
            go_wp2_with (first | (go_at_call 11; (first | (with_reducible refine (Calls.ext_of (alive_any _)).mono ?_) | refine (alive_any _).mono ?_); rintro e w' ⟨rfl, z, rfl⟩))
            go_round
            case rel => exact ⟨k + 1, by omega, by go_num, HB.out⟩
            case measure => simp [intOf]; omega
      · obtain rfl : k = n := by omega
        have e1 := CA.out (allIn_all (by rw [HN.out]; exact HA.out))
        rw [e1] at KR
        clear e1 CA HA
        by_cases h10 : 10 ≤ k
        · have ec : calmR k = ⟨1, 0, 0⟩ := by simp [calmR, h10]
          rw [ec] at KR
          clear ec
          have t1 := eq3_self 1 0 0
          go_wp2_with fail
          refine (KR.out _ _ (h1.out.below (by repeat (first | exact Below.refl _ _ | (with_reducible refine Below.setCell ?_ (by first | (simp; done) | (simp; omega)) _) | (with_reducible refine Below.alloc ?_ (by first | (simp; done) | (simp; omega)) _) | (with_reducible refine Below.onDrewN ?_ _) | (with_reducible refine Below.drew ?_) | (with_reducible refine Below.ofExt ?_ (by first | (simp; done) | (simp; omega)))))) (rowAt_zeros rfl _ _ _ (by first | (simp; done) | (simp; omega)))).mono ?_
          rintro e w' ⟨av, cap, rfl, hrow, z5, rfl⟩
          clear KR hz h1
          have HR := Lib.hid hrow
          clear hrow
          go_wp2_with fail
          go_loop [7] (fun i => ∃ j : Nat, j ≤ k ∧ i = .int .i64 j) (fun i => k - (intOf i).toNat)
          case atStart => exact ⟨0, by omega, rfl⟩
          case round =>
            obtain ⟨j, hj, rfl⟩ := hrel
            by_cases hjk : j < k
            · obtain ⟨b, o, rfl, bl, hc⟩ := HR.out.at (k := j) (by simpa using hjk)
              simp at bl hc
              have i1 : (0 : Int) ≤ (j : Int) := by omega
              have i2 : (j : Int) < (k : Int) := by omega
              go_wp2
              go_round
              case rel => exact ⟨j + 1, by omega, by go_num⟩
              case measure => simp [intOf]; omega
            · obtain rfl : j = k := by omega
              go_wp2_with (first | (go_at_call 11; (first | (with_reducible refine (Calls.ext_of (alive_any _)).mono ?_) | refine (alive_any _).mono ?_); rintro e w' ⟨rfl, z, rfl⟩))
              go_ret
              exact ⟨rfl, (below_ext (by repeat (first | exact Below.refl _ _ | (with_reducible refine Below.setCell ?_ (by first | (simp; done) | (simp; omega)) _) | (with_reducible refine Below.alloc ?_ (by first | (simp; done) | (simp; omega)) _) | (with_reducible refine Below.onDrewN ?_ _) | (with_reducible refine Below.drew ?_) | (with_reducible refine Below.ofExt ?_ (by first | (simp; done) | (simp; omega))))))⟩
        · have ec : calmR k = ⟨2, (k : Int), 0⟩ := by simp [calmR, h10]
          rw [ec] at KR
          clear ec
          have t1 := eq3_self 2 (k : Int) 0
          go_wp2_with fail
          refine (KR.out _ _ (h1.out.below (by repeat (first | exact Below.refl _ _ | (with_reducible refine Below.setCell ?_ (by first | (simp; done) | (simp; omega)) _) | (with_reducible refine Below.alloc ?_ (by first | (simp; done) | (simp; omega)) _) | (with_reducible refine Below.onDrewN ?_ _) | (with_reducible refine Below.drew ?_) | (with_reducible refine Below.ofExt ?_ (by first | (simp; done) | (simp; omega)))))) (rowAt_zeros rfl _ _ _ (by first | (simp; done) | (simp; omega)))).mono ?_
          rintro e w' ⟨av, cap, rfl, hrow, z5, rfl⟩
          clear KR hz h1
          have HR := Lib.hid hrow
          clear hrow
          go_wp2_with fail
          go_loop [7] (fun i => ∃ j : Nat, j ≤ k ∧ i = .int .i64 j) (fun i => k - (intOf i).toNat)
          case atStart => exact ⟨0, by omega, rfl⟩
          case round =>
            obtain ⟨j, hj, rfl⟩ := hrel
            by_cases hjk : j < k
            · obtain ⟨b, o, rfl, bl, hc⟩ := HR.out.at (k := j) (by simpa using hjk)
              simp at bl hc
              have i1 : (0 : Int) ≤ (j : Int) := by omega
              have i2 : (j : Int) < (k : Int) := by omega
              go_wp2
              go_round
              case rel => exact ⟨j + 1, by omega, by go_num⟩
              case measure => simp [intOf]; omega
            · obtain rfl : j = k := by omega
              go_wp2_with (first | (go_at_call 11; (first | (with_reducible refine (Calls.ext_of (alive_any _)).mono ?_) | refine (alive_any _).mono ?_); rintro e w' ⟨rfl, z, rfl⟩))
              go_ret
              exact ⟨rfl, (below_ext (by repeat (first | exact Below.refl _ _ | (with_reducible refine Below.setCell ?_ (by first | (simp; done) | (simp; omega)) _) | (with_reducible refine Below.alloc ?_ (by first | (simp; done) | (simp; omega)) _) | (with_reducible refine Below.onDrewN ?_ _) | (with_reducible refine Below.drew ?_) | (with_reducible refine Below.ofExt ?_ (by first | (simp; done) | (simp; omega))))))⟩

set_option maxRecDepth 100000 in
theorem inspectCalm_lifted (os : Os) (started : os.Started) (H : Type) (enc : TypeId × Value → H) :
    ReturnsInHanded {} Try.checked os 9 .any (Rows.inspectCalmSpec.pre6 enc Try.prog Try.f9 Rows.inspectCalmRow.domain false) (Rows.inspectCalmSpec.post enc Try.prog Try.f9 false true false false) := by
  refine returnsInHanded_of_change (C := Try.checked) own started (by kernel_rfl) Try.func9
    (ChangeSpec.witness6 (enc := enc) (C := Try.checked) false ⟨#[], #[.slice none 0 0], []⟩ 8 (by kernel_rfl) (by kernel_rfl) (by kernel_rfl) (by kernel_rfl)) ?_
  intro W base args ds gs before hval0 hW hcnd _
  have hval : ∀ (j : Nat) t v, Try.f9.params[j]? = some t → args[j]? = some v → Value.okWide Try.prog W .any base t v := hval0
  have hW' := hW
  obtain ⟨p, q, hA0, hV, rfl, hfz, hnd⟩ := hW
  have hA : DataW.TrodAll enc Try.prog W 0 (fun _ => true) true Try.f9.params.toList args.toList ds p := hA0
  rw [Try.params9] at hA hval
  obtain ⟨v0, d0, rfl, rfl, h0⟩ := trodAll_one hA
  obtain ⟨a0, c0, L, rfl, m0, r0⟩ := open_row1 (g := Value.int .i64) Try.underlying33 Try.cells3 cell_int (hval 0 33 v0 rfl rfl) h0
  refine (calm_walk a0 c0 L W r0 m0).mono fun e W' ⟨he, z, hz⟩ => ?_
  subst he hz
  exact ⟨_, rfl, law_post rfl (by kernel_rfl) (by kernel_rfl) Try.underlying4 hW' (fun _ => ⟨rfl, rfl, rfl⟩) (ext_below _ _)⟩

theorem inspectCalm_holds : Rows.InspectCalmSaid :=
  OpenClaim.holds_of_wide 9 Try.f9 rfl rfl rfl rfl rfl rfl rfl ⟨rfl, rfl, rfl, rfl, rfl⟩ rfl rfl rfl rfl rfl (by kernel_rfl) Try.func9 (by kernel_rfl)
    (of_decide_eq_true (by kernel_rfl)) (by unfold Func.isWrapper; first | (rw [if_pos (by decide +kernel)]; kernel_rfl) | (rw [if_neg (by decide +kernel)]; exact ⟨rfl, rfl⟩))
    (fun os started H enc _ => inspectCalm_lifted os started H enc)
#print axioms inspectCalm_holds
end Go.Proofs.Ytnnedgdbbecmcaa
