/-
  Counting the numbers below n that meet a condition; no program in sight.
-/
import Derived.KernelRfl
namespace Go.Proofs.Ytpfffpajnjeoeaa

open Classical in
/-- How many numbers below n meet Q. -/
noncomputable def cnt (Q : Nat → Prop) (n : Nat) : Nat := ((List.range n).filter fun i => decide (Q i)).length
theorem cnt_zero (Q : Nat → Prop) : cnt Q 0 = 0 := by simp [cnt]
theorem cnt_succ_yes {Q : Nat → Prop} {n : Nat} (h : Q n) : cnt Q (n + 1) = cnt Q n + 1 := by simp [cnt, List.range_succ, List.filter_append, h]
theorem cnt_succ_no {Q : Nat → Prop} {n : Nat} (h : ¬ Q n) : cnt Q (n + 1) = cnt Q n := by simp [cnt, List.range_succ, List.filter_append, h]
theorem cnt_le (Q : Nat → Prop) (n : Nat) : cnt Q n ≤ n := by
  induction n with
  | zero => simp [cnt_zero]
  | succ n ih =>
    by_cases h : Q n
    · rw [cnt_succ_yes h]; omega
    · rw [cnt_succ_no h]; omega
theorem cnt_congr {Q R : Nat → Prop} (n : Nat) (h : ∀ i, i < n → (Q i ↔ R i)) : cnt Q n = cnt R n := by
  induction n with
  | zero => simp [cnt_zero]
  | succ n ih =>
    have e := ih (fun i hi => h i (by omega))
    by_cases hq : Q n
    · rw [cnt_succ_yes hq, cnt_succ_yes ((h n (by omega)).1 hq), e]
    · rw [cnt_succ_no hq, cnt_succ_no (fun hr => hq ((h n (by omega)).2 hr)), e]
theorem cnt_all {Q : Nat → Prop} (n : Nat) (h : ∀ i, i < n → Q i) : cnt Q n = n := by
  induction n with
  | zero => simp [cnt_zero]
  | succ n ih => rw [cnt_succ_yes (h n (by omega)), ih (fun i hi => h i (by omega))]
theorem cnt_none {Q : Nat → Prop} (n : Nat) (h : ∀ i, i < n → ¬ Q i) : cnt Q n = 0 := by
  induction n with
  | zero => simp [cnt_zero]
  | succ n ih => rw [cnt_succ_no (h n (by omega)), ih (fun i hi => h i (by omega))]
theorem cnt_lt {Q : Nat → Prop} {n i : Nat} (hi : i < n) (h : ¬ Q i) : cnt Q n < n := by
  induction n with
  | zero => omega
  | succ n ih =>
    by_cases e : i = n
    · subst e
      rw [cnt_succ_no h]
      have := cnt_le Q i
      omega
    · have := ih (by omega)
      by_cases hq : Q n
      · rw [cnt_succ_yes hq]; omega
      · rw [cnt_succ_no hq]; omega
theorem cnt_full {Q : Nat → Prop} {n : Nat} (h : n ≤ cnt Q n) : ∀ i, i < n → Q i := fun i hi => by
  by_cases c : Q i
  · exact c
  · have := cnt_lt hi c
    omega
theorem cnt_or {Q R : Nat → Prop} (n : Nat) (h : ∀ i, i < n → ¬ (Q i ∧ R i)) : cnt (fun i => Q i ∨ R i) n = cnt Q n + cnt R n := by
  induction n with
  | zero => simp [cnt_zero]
  | succ n ih =>
    have e := ih (fun i hi => h i (by omega))
    have hn := h n (by omega)
    by_cases hq : Q n
    · rw [cnt_succ_yes (Q := fun i => Q i ∨ R i) (Or.inl hq), cnt_succ_yes hq, cnt_succ_no (fun hr => hn ⟨hq, hr⟩), e]; omega
    · by_cases hr : R n
      · rw [cnt_succ_yes (Q := fun i => Q i ∨ R i) (Or.inr hr), cnt_succ_yes hr, cnt_succ_no hq, e]; omega
      · rw [cnt_succ_no (Q := fun i => Q i ∨ R i) (fun c => c.elim hq hr), cnt_succ_no hr, cnt_succ_no hq, e]
theorem cnt_range (a b n : Nat) (hab : a ≤ b) (hb : b ≤ n) : cnt (fun i => a ≤ i ∧ i < b) n = b - a := by
  induction n with
  | zero => simp [cnt_zero]; omega
  | succ n ih =>
    by_cases c : b ≤ n
    · rw [cnt_succ_no (by omega), ih c]
    · obtain rfl : b = n + 1 := by omega
      by_cases d : a ≤ n
      · rw [cnt_succ_yes ⟨d, by omega⟩]
        have e : cnt (fun i => a ≤ i ∧ i < n + 1) n = cnt (fun i => a ≤ i ∧ i < n) n := cnt_congr n (fun i hi => by omega)
        rw [e]
        clear ih e
        have key : ∀ m, a ≤ m → cnt (fun i => a ≤ i ∧ i < m) m = m - a := by
          intro m
          induction m with
          | zero => intro _; simp [cnt_zero]
          | succ m ihm =>
            intro h
            by_cases c2 : a ≤ m
            · rw [cnt_succ_yes ⟨c2, by omega⟩]
              have e2 : cnt (fun i => a ≤ i ∧ i < m + 1) m = cnt (fun i => a ≤ i ∧ i < m) m := cnt_congr m (fun i hi => by omega)
              rw [e2, ihm c2]; omega
            · rw [cnt_none _ (fun i hi h2 => by omega)]; omega
        rw [key n d]; omega
      · rw [cnt_none _ (fun i hi h2 => by omega)]; omega
end Go.Proofs.Ytpfffpajnjeoeaa
