/-
  The lots as the chapter numbers them: the first member of a component, the number of components that begin before it; and the two ways to compute them, step by step; no program in sight.
-/
import Derived.Test.YtjfckjmdcfiacaaGraph
import Derived.Test.YtjfckjmdcfiacaaPlain
namespace Go.Proofs.Ytjfckjmdcfiacaa

/-- A tone of a list. -/
def tn (L : List Tone) (i : Nat) : Tone := L.getD i ⟨0, 0, 0⟩
/-- Two tones of a list are within the tolerance. -/
def Nr (L : List Tone) (tol : Int) (i j : Nat) : Prop := i < L.length ∧ j < L.length ∧ dist (tn L i) (tn L j) ≤ tol
theorem nr_symm {L : List Tone} {tol : Int} : ∀ i j, Nr L tol i j → Nr L tol j i := fun i j ⟨h1, h2, h3⟩ => ⟨h2, h1, by rw [dist_symm]; exact h3⟩
theorem nr_lt {L : List Tone} {tol : Int} : ∀ i j, Nr L tol i j → j < L.length := fun _ _ h => h.2.1

section
variable {N : Nat → Nat → Prop}
/-- r is the first member of the component of i. -/
def Root (N : Nat → Nat → Prop) (r i : Nat) : Prop := Conn N r i ∧ ∀ m, m < r → ¬ Conn N m i
/-- r is the first member of its component. -/
def First (N : Nat → Nat → Prop) (r : Nat) : Prop := ∀ m, m < r → ¬ Conn N m r
theorem root_exists (i : Nat) : ∃ r, Root N r i := by
  have : ∀ k, (∃ r, r < k ∧ Conn N r i) → ∃ r, Root N r i := by
    intro k
    induction k with
    | zero => rintro ⟨r, hr, _⟩; omega
    | succ k ih =>
      intro h
      by_cases c : ∃ r, r < k ∧ Conn N r i
      · exact ih c
      · obtain ⟨r, hr, hc⟩ := h
        have e : r = k := by
          rcases Nat.lt_or_ge r k with h1 | h1
          · exact absurd ⟨r, h1, hc⟩ c
          · omega
        subst e
        exact ⟨r, hc, fun m hm hm2 => c ⟨m, hm, hm2⟩⟩
  exact this (i + 1) ⟨i, by omega, Conn.refl i⟩
theorem Root.le {r i : Nat} (h : Root N r i) : r ≤ i := by
  rcases Nat.lt_or_ge i r with c | c
  · exact absurd (Conn.refl i) (h.2 i c)
  · exact c
theorem Root.unique {r s i : Nat} (h : Root N r i) (h2 : Root N s i) : r = s := by
  rcases Nat.lt_trichotomy r s with c | c | c
  · exact absurd h.1 (h2.2 r c)
  · exact c
  · exact absurd h2.1 (h.2 s c)
theorem Root.first (_hN : ∀ i j, N i j → N j i) {r i : Nat} (h : Root N r i) : First N r := fun m hm hc => h.2 m hm (hc.trans h.1)
theorem Root.of_conn (hN : ∀ i j, N i j → N j i) {r i j : Nat} (h : Root N r i) (hc : Conn N i j) : Root N r j :=
  ⟨h.1.trans hc, fun m hm hm2 => h.2 m hm (hm2.trans (hc.symm hN))⟩
theorem Root.self {i : Nat} (h : First N i) : Root N i i := ⟨Conn.refl i, h⟩
theorem Root.conn (hN : ∀ i j, N i j → N j i) {r i j : Nat} (h : Root N r i) (h2 : Root N r j) : Conn N i j := (h.1.symm hN).trans h2.1
/-- The number of the lot whose first member is r. -/
noncomputable def num (N : Nat → Nat → Prop) (r : Nat) : Nat := cnt (First N) r
theorem num_lt (N : Nat → Nat → Prop) {r s : Nat} (h : r < s) (hr : First N r) : num N r < num N s := cnt_lt _ h hr
theorem num_inj (N : Nat → Nat → Prop) {r s : Nat} (hr : First N r) (hs : First N s) (e : num N r = num N s) : r = s := by
  rcases Nat.lt_trichotomy r s with c | c | c
  · have := num_lt N c hr; omega
  · exact c
  · have := num_lt N c hs; omega

/-- The right lots. -/
def LotsOk (N : Nat → Nat → Prop) (n : Nat) (X : List Int) : Prop := X.length = n ∧ ∀ i r, i < n → Root N r i → X[i]? = some (num N r : Int)
theorem lots_unique {n : Nat} {X Y : List Int} (hx : LotsOk N n X) (hy : LotsOk N n Y) : X = Y := by
  apply List.ext_getElem?
  intro i
  by_cases c : i < n
  · obtain ⟨r, hr⟩ := root_exists (N := N) i
    rw [hx.2 i r c hr, hy.2 i r c hr]
  · rw [List.getElem?_eq_none (by rw [hx.1]; omega), List.getElem?_eq_none (by rw [hy.1]; omega)]
/-- Same number, same component. -/
theorem lots_conn (hN : ∀ i j, N i j → N j i) {n : Nat} {X : List Int} (hx : LotsOk N n X) {i j : Nat} (hi : i < n) (hj : j < n) : X[i]? = X[j]? ↔ Conn N i j := by
  obtain ⟨r, hr⟩ := root_exists (N := N) i
  obtain ⟨s, hs⟩ := root_exists (N := N) j
  rw [hx.2 i r hi hr, hx.2 j s hj hs]
  constructor
  · intro e
    have e' : num N r = num N s := by injection e with e; omega
    have := num_inj N (hr.first hN) (hs.first hN) e'
    subst this
    exact hr.conn hN hs
  · intro h
    have := (hr.of_conn hN h).unique hs
    rw [this]
end
end Go.Proofs.Ytjfckjmdcfiacaa
