/-
  Connected components of a finite graph on the numbers below n: steps, reachability, first members and their numbers; no program in sight.
-/
import Derived.KernelRfl
namespace Go.Proofs.Ytjfckjmdcfiacaa

/-- j is reached from i in at most t steps of N. -/
def Reach (N : Nat → Nat → Prop) : Nat → Nat → Nat → Prop
  | 0, i, j => i = j
  | t + 1, i, j => Reach N t i j ∨ ∃ k, Reach N t i k ∧ N k j
/-- i and j are connected. -/
def Conn (N : Nat → Nat → Prop) (i j : Nat) : Prop := ∃ t, Reach N t i j

section
variable {N : Nat → Nat → Prop}
theorem Reach.up {t i j : Nat} (h : Reach N t i j) : Reach N (t + 1) i j := Or.inl h
theorem Reach.le {t u i j : Nat} (h : Reach N t i j) (hu : t ≤ u) : Reach N u i j := by
  induction u with
  | zero => obtain rfl : t = 0 := by omega
            exact h
  | succ u ih =>
    by_cases c : t ≤ u
    · exact (ih c).up
    · obtain rfl : t = u + 1 := by omega
      exact h
theorem Reach.step {t i k j : Nat} (h : Reach N t i k) (hs : N k j) : Reach N (t + 1) i j := Or.inr ⟨k, h, hs⟩
theorem Conn.refl (i : Nat) : Conn N i i := ⟨0, rfl⟩
theorem Conn.step {i k j : Nat} (h : Conn N i k) (hs : N k j) : Conn N i j := by
  obtain ⟨t, ht⟩ := h
  exact ⟨t + 1, ht.step hs⟩
theorem Conn.trans {i j k : Nat} (h : Conn N i j) (h2 : Conn N j k) : Conn N i k := by
  obtain ⟨t, ht⟩ := h2
  induction t generalizing k with
  | zero => obtain rfl : j = k := ht
            exact h
  | succ t ih =>
    rcases ht with ht | ⟨m, hm, hs⟩
    · exact ih ht
    · exact (ih hm).step hs
theorem Conn.symm (hN : ∀ i j, N i j → N j i) {i j : Nat} (h : Conn N i j) : Conn N j i := by
  obtain ⟨t, ht⟩ := h
  induction t generalizing j with
  | zero => obtain rfl : i = j := ht
            exact Conn.refl _
  | succ t ih =>
    rcases ht with ht | ⟨m, hm, hs⟩
    · exact ih ht
    · exact Conn.trans (Conn.step (Conn.refl j) (hN _ _ hs)) (ih hm)
/-- A set that holds i and is closed under steps holds all that is connected to i. -/
theorem Conn.closed {P : Nat → Prop} {i j : Nat} (h : Conn N i j) (hi : P i) (hc : ∀ k m, P k → N k m → P m) : P j := by
  obtain ⟨t, ht⟩ := h
  induction t generalizing j with
  | zero => obtain rfl : i = j := ht
            exact hi
  | succ t ih =>
    rcases ht with ht | ⟨m, hm, hs⟩
    · exact ih ht
    · exact hc _ _ (ih hm) hs
end

/-! ### Counting -/
open Classical in
/-- How many numbers below n meet P. -/
noncomputable def cnt (P : Nat → Prop) (n : Nat) : Nat := ((List.range n).filter fun i => decide (P i)).length
theorem cnt_zero (P : Nat → Prop) : cnt P 0 = 0 := by simp [cnt]
theorem cnt_succ_yes {P : Nat → Prop} {n : Nat} (h : P n) : cnt P (n + 1) = cnt P n + 1 := by simp [cnt, List.range_succ, List.filter_append, h]
theorem cnt_succ_no {P : Nat → Prop} {n : Nat} (h : ¬ P n) : cnt P (n + 1) = cnt P n := by simp [cnt, List.range_succ, List.filter_append, h]
theorem cnt_le (P : Nat → Prop) (n : Nat) : cnt P n ≤ n := by
  induction n with
  | zero => simp [cnt_zero]
  | succ n ih =>
    by_cases h : P n
    · rw [cnt_succ_yes h]; omega
    · rw [cnt_succ_no h]; omega
theorem cnt_mono_n (P : Nat → Prop) {m n : Nat} (h : m ≤ n) : cnt P m ≤ cnt P n := by
  induction n with
  | zero => obtain rfl : m = 0 := by omega
            exact Nat.le_refl _
  | succ n ih =>
    by_cases c : m = n + 1
    · subst c; exact Nat.le_refl _
    · have := ih (by omega)
      by_cases h : P n
      · rw [cnt_succ_yes h]; omega
      · rw [cnt_succ_no h]; omega
theorem cnt_lt (P : Nat → Prop) {m n : Nat} (h : m < n) (hm : P m) : cnt P m < cnt P n := by
  have h1 := cnt_mono_n P (show m + 1 ≤ n by omega)
  rw [cnt_succ_yes hm] at h1
  omega
theorem cnt_mono {P Q : Nat → Prop} (n : Nat) (h : ∀ i, i < n → P i → Q i) : cnt P n ≤ cnt Q n := by
  induction n with
  | zero => simp [cnt_zero]
  | succ n ih =>
    have := ih (fun i hi => h i (by omega))
    by_cases hp : P n
    · rw [cnt_succ_yes hp, cnt_succ_yes (h n (by omega) hp)]; omega
    · by_cases hq : Q n
      · rw [cnt_succ_no hp, cnt_succ_yes hq]; omega
      · rw [cnt_succ_no hp, cnt_succ_no hq]; exact this
/-- A smaller set of the same size is the same set. -/
theorem cnt_same {P Q : Nat → Prop} (n : Nat) (h : ∀ i, i < n → P i → Q i) (e : cnt Q n ≤ cnt P n) : ∀ i, i < n → Q i → P i := by
  induction n with
  | zero => intro i hi; omega
  | succ n ih =>
    have h1 := cnt_mono n (fun i hi => h i (by omega : i < n + 1))
    intro i hi hq
    by_cases hp : P n
    · have hq' := h n (by omega) hp
      rw [cnt_succ_yes hp, cnt_succ_yes hq'] at e
      by_cases c : i = n
      · subst c; exact hp
      · exact ih (fun i hi => h i (by omega)) (by omega) i (by omega) hq
    · rw [cnt_succ_no hp] at e
      by_cases hq' : Q n
      · rw [cnt_succ_yes hq'] at e; omega
      · rw [cnt_succ_no hq'] at e
        by_cases c : i = n
        · subst c; exact absurd hq hq'
        · exact ih (fun i hi => h i (by omega)) (by omega) i (by omega) hq

section
variable {N : Nat → Nat → Prop} {n : Nat}
theorem reach_lt (hN : ∀ i j, N i j → j < n) {t i j : Nat} (hi : i < n) (h : Reach N t i j) : j < n := by
  induction t generalizing j with
  | zero => obtain rfl : i = j := h
            exact hi
  | succ t ih =>
    rcases h with h | ⟨m, _, hs⟩
    · exact ih h
    · exact hN _ _ hs
/-- Either nothing new is reached by one step more, or more than t numbers are reached. -/
theorem reach_grows (hN : ∀ i j, N i j → j < n) {i : Nat} (hi : i < n) : ∀ t, (∀ j, Reach N (t + 1) i j → Reach N t i j) ∨ t + 2 ≤ cnt (fun j => Reach N (t + 1) i j) n := by
  have one : 1 ≤ cnt (fun j => Reach N 0 i j) n := by
    have := cnt_lt (fun j => Reach N 0 i j) hi rfl
    omega
  intro t
  induction t with
  | zero =>
    by_cases c : ∀ j, Reach N 1 i j → Reach N 0 i j
    · exact Or.inl c
    · refine Or.inr ?_
      show 0 + 2 ≤ cnt (fun j => Reach N 1 i j) n
      rcases Nat.lt_or_ge (cnt (fun j => Reach N 0 i j) n) (cnt (fun j => Reach N 1 i j) n) with h | h
      · omega
      · exact absurd (fun j hj => cnt_same n (fun k _ hk => Reach.up hk) h j (reach_lt hN hi hj) hj) c
  | succ t ih =>
    rcases ih with ih | ih
    · refine Or.inl fun j hj => ?_
      rcases hj with hj | ⟨m, hm, hs⟩
      · exact hj
      · exact (ih m hm).step hs
    · by_cases c : ∀ j, Reach N (t + 1 + 1) i j → Reach N (t + 1) i j
      · exact Or.inl c
      · refine Or.inr ?_
        rcases Nat.lt_or_ge (cnt (fun j => Reach N (t + 1) i j) n) (cnt (fun j => Reach N (t + 1 + 1) i j) n) with h | h
        · omega
        · exact absurd (fun j hj => cnt_same n (fun k _ hk => Reach.up hk) h j (reach_lt hN hi hj) hj) c
/-- Whatever is connected is reached in n - 1 steps. -/
theorem conn_reach (hN : ∀ i j, N i j → j < n) {i j : Nat} (hi : i < n) (h : Conn N i j) : Reach N (n - 1) i j := by
  have closed : ∀ t, (∀ j, Reach N (t + 1) i j → Reach N t i j) → ∀ u j, Reach N u i j → Reach N t i j := by
    intro t ht u
    induction u with
    | zero => intro j hj; exact Reach.le hj (by omega)
    | succ u ih =>
      intro j hj
      rcases hj with hj | ⟨m, hm, hs⟩
      · exact ih j hj
      · exact ht j ((ih m hm).step hs)
  obtain ⟨u, hu⟩ := h
  by_cases c1 : n = 1
  · subst c1
    have h0 := reach_lt hN hi hu
    obtain rfl : i = 0 := by omega
    obtain rfl : j = 0 := by omega
    rfl
  · rcases reach_grows hN hi (n - 2) with h | h
    · exact (closed _ h u j hu).le (by omega)
    · have hle := cnt_le (fun j => Reach N (n - 2 + 1) i j) n
      have e1 : n - 2 + 1 = n - 1 := by omega
      rw [e1] at h
      have hall := cnt_same (P := fun j => Reach N (n - 1) i j) (Q := fun _ => True) n (fun _ _ _ => trivial) (by have := cnt_le (fun _ => True) n; omega)
      exact hall j (reach_lt hN hi hu) trivial
end
end Go.Proofs.Ytjfckjmdcfiacaa
