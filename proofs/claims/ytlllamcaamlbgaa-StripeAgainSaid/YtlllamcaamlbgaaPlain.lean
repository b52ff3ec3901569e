/-
  The plain arithmetic of periods and phases: no program in sight.
-/
import Derived.KernelRfl
namespace Go.Proofs.Ytlllamcaamlbgaa

/-- A period as it counts. -/
def per (n : Int) : Int := if n < 1 ∨ 1048576 < n then 0 else n
/-- A coordinate as it counts. -/
def lim (n : Int) : Int := min (max n (-1048576)) 1048576
/-- A number modulo a period, 0 without stripes. -/
def md (n p : Int) : Int := if p = 0 then 0 else n % p
/-- The next number with a phase. -/
def nx (p a b : Int) : Int := a + md (b - a) p

theorem per_bd (n : Int) : 0 ≤ per n ∧ per n ≤ 1048576 := by unfold per; split <;> omega
theorem per_ne (p : Int) (h : per p ≠ 0) : per p = p := by
  unfold per at h ⊢
  by_cases c : p < 1 ∨ 1048576 < p
  · rw [if_pos c] at h; exact absurd rfl h
  · rw [if_neg c]
theorem lim_bd (n : Int) : -1048576 ≤ lim n ∧ lim n ≤ 1048576 := by unfold lim; omega
theorem md_bd (n p : Int) (h : 0 ≤ p) : 0 ≤ md n p ∧ (md n p < p ∨ md n p = 0) := by
  unfold md
  split
  · omega
  · have h1 := Int.emod_nonneg n (b := p) (by omega)
    have h2 := Int.emod_lt_of_pos n (b := p) (by omega)
    omega
theorem md_bd' (n p : Int) (h : 0 ≤ p) : 0 ≤ md n p ∧ md n p ≤ max (p - 1) 0 := by
  have := md_bd n p h; omega
theorem tmod_bd (n p : Int) (h : 0 < p) : -p < n.tmod p ∧ n.tmod p < p := by
  have h1 := Int.tmod_eq_emod (a := n) (b := p)
  have h2 := Int.emod_nonneg n (b := p) (by omega)
  have h3 := Int.emod_lt_of_pos n (b := p) h
  have h4 : (p.natAbs : Int) = p := by omega
  split at h1
  · omega
  · rename_i hd
    have : n % p ≠ 0 := fun e => hd (Or.inr (Int.dvd_of_emod_eq_zero e))
    omega
theorem tmod_md (n p : Int) (h : 0 < p) : (n.tmod p + p) % p = n % p := by
  have h1 := Int.tmod_eq_emod (a := n) (b := p)
  have h4 : (p.natAbs : Int) = p := by omega
  rw [Int.add_emod_right, h1]
  split
  · simp
  · rw [h4, Int.sub_emod, Int.emod_self]; simp
theorem emod_md (n p : Int) : (n % p + p) % p = n % p := by
  rw [Int.add_emod_right]; simp
end Go.Proofs.Ytlllamcaamlbgaa
namespace Go.Proofs.Ytlllamcaamlbgaa
/-- The nearest number within 2^30. -/
def bnd (n : Int) : Int := min (max n (-1073741824)) 1073741824
theorem bnd_bd (n : Int) : -1073741824 ≤ bnd n ∧ bnd n ≤ 1073741824 := by unfold bnd; omega
theorem lim_id (n : Int) (h : -1048576 ≤ n) (h2 : n ≤ 1048576) : lim n = n := by unfold lim; omega
theorem per_per (n : Int) : per (per n) = per n := by
  unfold per
  by_cases c : n < 1 ∨ 1048576 < n
  · rw [if_pos c]; rfl
  · rw [if_neg c, if_neg c]
/-- The reference's way to the next number. -/
theorem rnx (p a b : Int) (h0 : 0 < p) (h1 : p ≤ 1048576) : lim a + md (lim (md (lim b) p - md (lim a) p)) p = nx p (lim a) (lim b) := by
  have ha := md_bd (lim a) p (by omega)
  have hb := md_bd (lim b) p (by omega)
  rw [lim_id (md (lim b) p - md (lim a) p) (by omega) (by omega)]
  unfold nx md
  simp only [if_neg (show ¬ p = 0 by omega)]
  rw [← Int.sub_emod]
end Go.Proofs.Ytlllamcaamlbgaa
namespace Go.Proofs.Ytlllamcaamlbgaa
theorem mul_bd (a b : Int) (ha : -1073741824 ≤ a) (ha2 : a ≤ 1073741824) (hb : -1073741824 ≤ b) (hb2 : b ≤ 1073741824) :
    -1152921504606846976 ≤ a * b ∧ a * b ≤ 1152921504606846976 := by
  have h : (a * b).natAbs ≤ 1073741824 * 1073741824 := by
    rw [Int.natAbs_mul]
    exact Nat.mul_le_mul (by omega) (by omega)
  omega
end Go.Proofs.Ytlllamcaamlbgaa
namespace Go.Proofs.Ytlllamcaamlbgaa
theorem md_md (n p : Int) : md (md n p) p = md n p := by
  unfold md
  by_cases h : p = 0
  · simp [h]
  · simp [h]
theorem md_again (n p : Int) (h : 0 ≤ p) (h2 : p ≤ 1048576) : md (lim (md n p)) p = md n p := by
  have := md_bd n p h
  rw [lim_id _ (by omega) (by omega), md_md]
end Go.Proofs.Ytlllamcaamlbgaa
namespace Go.Proofs.Ytlllamcaamlbgaa
theorem nx_ge (p a c : Int) (h : 0 ≤ p) : a ≤ nx p a c := by have := md_bd (c - a) p h; unfold nx; omega
theorem nx_le (p a c : Int) (h : 0 ≤ p) : nx p a c - a ≤ max (p - 1) 0 := by have := md_bd' (c - a) p h; unfold nx; omega
theorem nx_md (p a c : Int) : md (nx p a c) p = md c p := by
  unfold nx md
  by_cases h : p = 0
  · simp [h]
  · simp only [if_neg h]
    rw [Int.add_emod_emod]
    congr 1; omega
theorem nx_eq (p a c : Int) : nx p a c = a ↔ md a p = md c p := by
  constructor
  · intro e
    rw [← nx_md p a c, e]
  · intro e
    unfold nx
    have : md (c - a) p = 0 := by
      unfold md at *
      by_cases h0 : p = 0
      · simp [h0]
      · simp only [if_neg h0] at *
        rw [Int.sub_emod, e]; simp
    omega
end Go.Proofs.Ytlllamcaamlbgaa
namespace Go.Proofs.Ytlllamcaamlbgaa
theorem nx_mono (p a d b : Int) (h : 0 ≤ p) (hd : 0 ≤ d) : nx p a b ≤ nx p (a + d) b := by
  by_cases h0 : p = 0
  · subst h0; unfold nx md; simp; omega
  · have e1 := nx_md p a b
    have e2 := nx_md p (a + d) b
    have g1 := nx_le p a b h
    have g2 := nx_ge p (a + d) b h
    unfold md at e1 e2
    rw [if_neg h0, if_neg h0] at e1 e2
    have hz : (nx p (a + d) b - nx p a b) % p = 0 := by rw [Int.sub_emod, e1, e2]; simp
    obtain ⟨k, hk⟩ := Int.dvd_of_emod_eq_zero hz
    have hk0 : 0 ≤ k := by
      rcases Int.lt_or_le k 0 with hk1 | hk1
      · have : p * k ≤ p * (-1) := Int.mul_le_mul_of_nonneg_left (by omega) h
        omega
      · exact hk1
    have : 0 ≤ p * k := Int.mul_nonneg h hk0
    omega
theorem md_move (p a k : Int) : md (a + p * k) p = md a p := by
  unfold md
  split
  · rfl
  · rw [Int.add_mul_emod_self_left]
theorem md_both (p a b d : Int) : md (a + d) p = md (b + d) p ↔ md a p = md b p := by
  unfold md
  split
  · simp
  · constructor
    · intro h
      have h2 : (a + d - d) % p = (b + d - d) % p := by rw [Int.sub_emod, h, ← Int.sub_emod]
      simpa using h2
    · intro h
      rw [Int.add_emod, h, ← Int.add_emod]
theorem bnd_id (n : Int) (h : -1073741824 ≤ n) (h2 : n ≤ 1073741824) : bnd n = n := by unfold bnd; omega
end Go.Proofs.Ytlllamcaamlbgaa
