/-
  The contracts of the functions on numbers.
-/
import Derived.Test.YtlllamcaamlbgaaExt
import Derived.Test.YtlllamcaamlbgaaPlain
namespace Go.Proofs.Ytlllamcaamlbgaa
open Go.RowKit

theorem ret_int {k : IntKind} {a b : Int} (h : a = b) : Ending.returned (.int k a) = .returned (.int k b) := by rw [h]

set_option maxHeartbeats 400000 in
theorem period_any (n : Int) (w : World) : Calls Try.prog 21 #[.int .i64 n] w fun e w' => e = .returned (.int .i64 (per n)) ∧ w' = w := by
  by_cases h1 : n < 1
  · have hf : per n = 0 := by unfold per; rw [if_pos (by omega)]
    have HF := Lib.hid hf
    clear hf
    go_enter Try.func21, Try.ntmps21
    go_wp2
    go_ret
    exact ⟨ret_int HF.out.symm, rfl⟩
  · by_cases h2 : 1048576 < n
    · have hf : per n = 0 := by unfold per; rw [if_pos (by omega)]
      have HF := Lib.hid hf
      clear hf
      go_enter Try.func21, Try.ntmps21
      go_wp2
      go_ret
      exact ⟨ret_int HF.out.symm, rfl⟩
    · have hf : per n = n := by unfold per; rw [if_neg (by omega)]
      have HF := Lib.hid hf
      clear hf
      go_enter Try.func21, Try.ntmps21
      go_wp2
      go_ret
      exact ⟨ret_int HF.out.symm, rfl⟩
set_option maxHeartbeats 400000 in
theorem norm_any (n : Int) (w : World) : Calls Try.prog 22 #[.int .i64 n] w fun e w' => e = .returned (.int .i64 (per n)) ∧ w' = w := by
  by_cases h1 : n < 1
  · have hf : per n = 0 := by unfold per; rw [if_pos (by omega)]
    have HF := Lib.hid hf
    clear hf
    go_enter Try.func22, Try.ntmps22
    go_wp2
    go_ret
    exact ⟨ret_int HF.out.symm, rfl⟩
  · by_cases h2 : 1048576 < n
    · have hf : per n = 0 := by unfold per; rw [if_pos (by omega)]
      have HF := Lib.hid hf
      clear hf
      go_enter Try.func22, Try.ntmps22
      go_wp2
      go_ret
      exact ⟨ret_int HF.out.symm, rfl⟩
    · have hf : per n = n := by unfold per; rw [if_neg (by omega)]
      have HF := Lib.hid hf
      clear hf
      go_enter Try.func22, Try.ntmps22
      go_wp2
      go_ret
      exact ⟨ret_int HF.out.symm, rfl⟩
set_option maxHeartbeats 400000 in
theorem limited_any (n : Int) (w : World) : Calls Try.prog 24 #[.int .i64 n] w fun e w' => e = .returned (.int .i64 (lim n)) ∧ w' = w := by
  by_cases h1 : n < -1048576
  · have HF := Lib.hid (show lim n = -1048576 by unfold lim; omega)
    go_enter Try.func24, Try.ntmps24
    go_wp2
    go_ret
    exact ⟨ret_int HF.out.symm, rfl⟩
  · by_cases h2 : 1048576 < n
    · have HF := Lib.hid (show lim n = 1048576 by unfold lim; omega)
      go_enter Try.func24, Try.ntmps24
      go_wp2
      go_ret
      exact ⟨ret_int HF.out.symm, rfl⟩
    · have HF := Lib.hid (show lim n = n by unfold lim; omega)
      go_enter Try.func24, Try.ntmps24
      go_wp2
      go_ret
      exact ⟨ret_int HF.out.symm, rfl⟩
set_option maxHeartbeats 400000 in
theorem within_any (n : Int) (w : World) : Calls Try.prog 29 #[.int .i64 n] w fun e w' => e = .returned (.int .i64 (lim n)) ∧ w' = w := by
  by_cases h1 : n < -1048576
  · have HF := Lib.hid (show lim n = -1048576 by unfold lim; omega)
    go_enter Try.func29, Try.ntmps29
    go_wp2
    go_ret
    exact ⟨ret_int HF.out.symm, rfl⟩
  · by_cases h2 : 1048576 < n
    · have HF := Lib.hid (show lim n = 1048576 by unfold lim; omega)
      go_enter Try.func29, Try.ntmps29
      go_wp2
      go_ret
      exact ⟨ret_int HF.out.symm, rfl⟩
    · have HF := Lib.hid (show lim n = n by unfold lim; omega)
      go_enter Try.func29, Try.ntmps29
      go_wp2
      go_ret
      exact ⟨ret_int HF.out.symm, rfl⟩
set_option maxHeartbeats 400000 in
theorem modulo_any (n p : Int) (w : World) (hp : 0 ≤ p) (hp2 : p ≤ 1048576) (hn : -4194304 ≤ n) (hn2 : n ≤ 4194304) :
    Calls Try.prog 23 #[.int .i64 n, .int .i64 p] w fun e w' => e = .returned (.int .i64 (md n p)) ∧ w' = w := by
  by_cases h0 : p = 0
  · subst h0
    have HF := Lib.hid (show md n 0 = 0 from rfl)
    go_enter Try.func23, Try.ntmps23
    go_wp2
    go_ret
    exact ⟨ret_int HF.out.symm, rfl⟩
  · have hb : (p == 0) = false := by simpa using h0
    have h1 : 0 < p := by omega
    have HF := Lib.hid (show md n p = n % p by unfold md; rw [if_neg h0])
    have hq : ¬ (p = -1) := by omega
    by_cases hs : 0 ≤ n
    · have h2 := Int.emod_nonneg n (b := p) (by omega)
      have h3 := Int.emod_lt_of_pos n (b := p) h1
      go_enter Try.func23, Try.ntmps23
      go_wp2
      go_ret
      exact ⟨ret_int (by rw [HF.out]; exact emod_md n p), rfl⟩
    · have HG := Lib.hid (tmod_md n p h1)
      obtain ⟨h2, h3⟩ := tmod_bd n p h1
      go_enter Try.func23, Try.ntmps23
      go_wp2
      go_ret
      exact ⟨ret_int (by rw [HF.out, ← HG.out, Int.add_emod_right]), rfl⟩
set_option maxHeartbeats 400000 in
theorem next_any (p a b : Int) (w : World) (hp : 0 ≤ p) (hp2 : p ≤ 1048576) (ha : -1048576 ≤ a) (ha2 : a ≤ 1048576) (hb : -1048576 ≤ b) (hb2 : b ≤ 1048576) :
    Calls Try.prog 26 #[.int .i64 p, .int .i64 a, .int .i64 b] w fun e w' => e = .returned (.int .i64 (nx p a b)) ∧ w' = w := by
  have hm := md_bd (b - a) p hp
  have hm1 : 0 ≤ md (b - a) p := hm.1
  have hm2 : md (b - a) p ≤ 1048576 := by omega
  clear hm
  have HF := Lib.hid (show nx p a b = a + md (b - a) p from rfl)
  go_enter Try.func26, Try.ntmps26
  go_wp2_with (go_at_call 23; refine (modulo_any _ _ _ (by omega) (by omega) (by omega) (by omega)).mono ?_; rintro e w' ⟨rfl, rfl⟩)
  go_ret
  exact ⟨ret_int HF.out.symm, rfl⟩

theorem phase_val (p n : Int) (h : per p ≠ 0) : md (lim n) (per p) = if (lim n).tmod p < 0 then (lim n).tmod p + p else (lim n).tmod p := by
  have hp : per p = p := per_ne p h
  have h0 : 0 < p := by have := per_bd p; omega
  rw [hp]
  unfold md
  rw [if_neg (by omega)]
  have h1 := Int.tmod_eq_emod (a := lim n) (b := p)
  have h4 : (p.natAbs : Int) = p := by omega
  have h2 := Int.emod_nonneg (lim n) (b := p) (by omega)
  have h3 := Int.emod_lt_of_pos (lim n) (b := p) h0
  split at h1 <;> split <;> omega
set_option maxHeartbeats 400000 in
theorem phase_any (p n : Int) (w : World) : Calls Try.prog 25 #[.int .i64 p, .int .i64 n] w fun e w' => e = .returned (.int .i64 (md (lim n) (per p))) ∧ w' = w := by
  by_cases h0 : per p = 0
  · have hb : (per p == 0) = true := by simpa using h0
    have HF := Lib.hid (show md (lim n) (per p) = 0 by unfold md; rw [if_pos h0])
    clear h0
    go_enter Try.func25, Try.ntmps25
    go_wp2_with (go_at_call 22; refine (norm_any _ _).mono ?_; rintro e w' ⟨rfl, rfl⟩)
    go_ret
    exact ⟨ret_int HF.out.symm, rfl⟩
  · have hb : (per p == 0) = false := by simpa using h0
    have HF := Lib.hid (phase_val p n h0)
    have hp : per p = p := per_ne p h0
    have hp0 : 0 < p := by have := per_bd p; omega
    have hp2 : p ≤ 1048576 := by have := per_bd p; omega
    clear hp
    obtain ⟨h2, h3⟩ := tmod_bd (lim n) p hp0
    obtain ⟨h4, h5⟩ := lim_bd n
    have hq : ¬ (p = -1) := by omega
    by_cases hs : (lim n).tmod p < 0
    · have HG := Lib.hid (HF.out.trans (if_pos hs))
      have h6 : ¬ 0 ≤ lim n := fun h => by have := Int.tmod_nonneg p h; omega
      go_enter Try.func25, Try.ntmps25
      go_wp2_with (first | (go_at_call 22; refine (norm_any _ _).mono ?_; rintro e w' ⟨rfl, rfl⟩) | (go_at_call 29; refine (within_any _ _).mono ?_; rintro e w' ⟨rfl, rfl⟩))
      go_ret
      exact ⟨ret_int HG.out.symm, rfl⟩
    · have HG := Lib.hid (HF.out.trans (if_neg hs))
      by_cases h6 : 0 ≤ lim n
      · have HT := Lib.hid (Int.tmod_eq_emod_of_nonneg (b := p) h6)
        have hs' : 0 ≤ lim n % p := by rw [← HT.out]; omega
        go_enter Try.func25, Try.ntmps25
        go_wp2_with (first | (go_at_call 22; refine (norm_any _ _).mono ?_; rintro e w' ⟨rfl, rfl⟩) | (go_at_call 29; refine (within_any _ _).mono ?_; rintro e w' ⟨rfl, rfl⟩))
        go_ret
        exact ⟨ret_int (by rw [HG.out, HT.out]), rfl⟩
      · go_enter Try.func25, Try.ntmps25
        go_wp2_with (first | (go_at_call 22; refine (norm_any _ _).mono ?_; rintro e w' ⟨rfl, rfl⟩) | (go_at_call 29; refine (within_any _ _).mono ?_; rintro e w' ⟨rfl, rfl⟩))
        go_ret
        exact ⟨ret_int HG.out.symm, rfl⟩
set_option maxHeartbeats 400000 in
theorem bound_any (n : Int) (w : World) : Calls Try.prog 28 #[.int .i64 n] w fun e w' => e = .returned (.int .i64 (bnd n)) ∧ w' = w := by
  by_cases h1 : n < -1073741824
  · have HF := Lib.hid (show bnd n = -1073741824 by unfold bnd; omega)
    go_enter Try.func28, Try.ntmps28
    go_wp2
    go_ret
    exact ⟨ret_int HF.out.symm, rfl⟩
  · by_cases h2 : 1073741824 < n
    · have HF := Lib.hid (show bnd n = 1073741824 by unfold bnd; omega)
      go_enter Try.func28, Try.ntmps28
      go_wp2
      go_ret
      exact ⟨ret_int HF.out.symm, rfl⟩
    · have HF := Lib.hid (show bnd n = n by unfold bnd; omega)
      go_enter Try.func28, Try.ntmps28
      go_wp2
      go_ret
      exact ⟨ret_int HF.out.symm, rfl⟩
set_option maxHeartbeats 400000 in
theorem rnext_any (p a b : Int) (w : World) : Calls Try.prog 27 #[.int .i64 p, .int .i64 a, .int .i64 b] w fun e w' => e = .returned (.int .i64 (nx (per p) (lim a) (lim b))) ∧ w' = w := by
  by_cases h0 : per p = 0
  · have hb : (per p == 0) = true := by simpa using h0
    have HF := Lib.hid (show nx (per p) (lim a) (lim b) = lim a by unfold nx md; rw [if_pos h0]; omega)
    clear h0
    go_enter Try.func27, Try.ntmps27
    go_wp2_with (first | (go_at_call 22; refine (norm_any _ _).mono ?_; rintro e w' ⟨rfl, rfl⟩) | (go_at_call 29; refine (within_any _ _).mono ?_; rintro e w' ⟨rfl, rfl⟩))
    go_ret
    exact ⟨ret_int HF.out.symm, rfl⟩
  · have hb : (per p == 0) = false := by simpa using h0
    have hq := per_bd p
    have HF := Lib.hid (rnx (per p) a b (by omega) (by omega))
    have b1 := md_bd (lim a) (per p) (by omega)
    have b2 := md_bd (lim b) (per p) (by omega)
    have b3 := md_bd (lim (md (lim b) (per p) - md (lim a) (per p))) (per p) (by omega)
    have b4 := lim_bd a
    clear h0
    go_enter Try.func27, Try.ntmps27
    go_wp2_with (first | (go_at_call 22; refine (norm_any _ _).mono ?_; rintro e w' ⟨rfl, rfl⟩) | (go_at_call 29; refine (within_any _ _).mono ?_; rintro e w' ⟨rfl, rfl⟩) | (go_at_call 25; refine (phase_any _ _ _).mono ?_; rintro e w' ⟨rfl, rfl⟩))
    go_ret
    exact ⟨ret_int HF.out, rfl⟩
end Go.Proofs.Ytlllamcaamlbgaa
