/-
  Accepted bundles in another order, and without one of them; no program in sight.
-/
import Derived.Test.YtpfffpajnjeoeaaChk
namespace Go.Proofs.Ytpfffpajnjeoeaa

/-- Two bundles do not stand in each other's way. -/
def Apart (c b : Bun) : Prop := c.t ≠ b.t ∧ ¬ Overlap c b
theorem overlap_symm {b c : Bun} (h : Overlap b c) : Overlap c b := ⟨h.1.symm, h.2.2, h.2.1⟩
theorem apart_symm {b c : Bun} (h : Apart b c) : Apart c b := ⟨fun e => h.1 e.symm, fun e => h.2 (overlap_symm e)⟩
theorem bn_get {B : List Bun} {i : Nat} (h : i < B.length) : bn B i = B[i] := by simp [bn, List.getD, h]
theorem acc_iff {Z P : List Int} {B : List Bun} : Acc Z P B B.length ↔ (∀ b ∈ B, Sane Z P b) ∧ B.Pairwise Apart := by
  constructor
  · intro h
    refine ⟨fun b hb => ?_, ?_⟩
    · obtain ⟨i, hi, rfl⟩ := List.mem_iff_getElem.1 hb
      rw [← bn_get hi]
      exact (h i hi).1
    · rw [List.pairwise_iff_getElem]
      intro i j hi hj hij
      rw [← bn_get hi, ← bn_get hj]
      exact (h j hj).2 i hij
  · rintro ⟨h1, h2⟩ i hi
    rw [List.pairwise_iff_getElem] at h2
    refine ⟨by rw [bn_get hi]; exact h1 _ (List.getElem_mem hi), fun j hj => ?_⟩
    rw [bn_get hi, bn_get (show j < B.length by omega)]
    exact h2 j i (by omega) hi hj
theorem cov_iff {B : List Bun} {g p : Int} : Cov B B.length g p ↔ ∃ b ∈ B, Has b g p := by
  constructor
  · rintro ⟨i, hi, h⟩
    rw [bn_get hi] at h
    exact ⟨_, List.getElem_mem hi, h⟩
  · rintro ⟨b, hb, h⟩
    obtain ⟨i, hi, rfl⟩ := List.mem_iff_getElem.1 hb
    exact ⟨i, hi, by rw [bn_get hi]; exact h⟩
/-- The order does not matter. -/
theorem chk_perm {Z P : List Int} {B C : List Bun} (hp : B.Perm C) (h : ChkIs Z P B 0) : ChkIs Z P C 0 := by
  obtain ⟨ha, hg⟩ := chk_ok h
  obtain ⟨h1, h2⟩ := acc_iff.1 ha
  refine chk_mk (acc_iff.2 ⟨fun b hb => h1 b (hp.mem_iff.2 hb), hp.pairwise h2 apart_symm⟩) ?_
  rintro ⟨g, p, hz, hpl, hc⟩
  apply hg
  refine ⟨g, p, hz, hpl, fun hcov => hc ?_⟩
  obtain ⟨b, hb, hh⟩ := cov_iff.1 hcov
  exact cov_iff.2 ⟨b, hp.mem_iff.1 hb, hh⟩
theorem turned_perm (B : List Bun) (n : Nat) : B.Perm (B.drop n ++ B.take n) := by
  have h := (List.perm_append_comm (l₁ := B.take n) (l₂ := B.drop n))
  rw [List.take_append_drop] at h
  exact h
/-- Without one of them there is a gap. -/
theorem chk_less {Z P : List Int} {B : List Bun} (h : ChkIs Z P B 0) {n : Nat} (hn : n < B.length) : ChkIs Z P (B.take n ++ B.drop (n + 1)) 20 := by
  obtain ⟨ha, _⟩ := chk_ok h
  obtain ⟨h1, h2⟩ := acc_iff.1 ha
  have hsub : (B.take n ++ B.drop (n + 1)).Sublist B := by
    have e : B = B.take n ++ B.drop n := (List.take_append_drop n B).symm
    have hs : (B.drop (n + 1)).Sublist (B.drop n) := by
      rw [show B.drop (n + 1) = (B.drop n).drop 1 by rw [List.drop_drop]]
      exact List.drop_sublist 1 _
    exact (List.Sublist.append (List.Sublist.refl _) hs).trans (by rw [← e]; exact List.Sublist.refl _)
  refine Or.inr (Or.inl ⟨acc_iff.2 ⟨fun b hb => h1 b (hsub.subset hb), h2.sublist hsub⟩, ?_, rfl⟩)
  have hs := (ha n hn).1.1
  unfold Bad at hs
  refine ⟨(bn B n).g.toNat, (bn B n).f.toNat, by omega, by omega, fun hcov => ?_⟩
  obtain ⟨c, hc, hh⟩ := cov_iff.1 hcov
  have hov : ∀ i, i < B.length → i ≠ n → B[i]? = some c → False := fun i hi hne he => by
    have ei : bn B i = c := by
      rw [bn_get hi]
      rw [List.getElem?_eq_getElem hi] at he
      injection he
    have ho : Overlap c (bn B n) := by
      obtain ⟨q1, q2, q3⟩ := hh
      exact ⟨by omega, by omega, by omega⟩
    rcases Nat.lt_or_ge i n with hl | hl
    · exact ((ha n hn).2 i hl).2 (by rw [ei]; exact ho)
    · exact ((ha i hi).2 n (by omega)).2 (by rw [ei]; exact overlap_symm ho)
  rcases List.mem_append.1 hc with hc | hc
  · obtain ⟨i, hi, e⟩ := List.mem_iff_getElem.1 hc
    have hi' : i < n := by simp at hi; omega
    exact hov i (by omega) (by omega) (by rw [List.getElem?_eq_getElem (by omega), ← e]; simp)
  · obtain ⟨i, hi, e⟩ := List.mem_iff_getElem.1 hc
    have hi' : n + 1 + i < B.length := by simp at hi; omega
    exact hov (n + 1 + i) hi' (by omega) (by rw [List.getElem?_eq_getElem hi', ← e]; simp)
/-- The first bundle that has a ply of an accepted bundle is that bundle. -/
theorem acc_find {Z P : List Int} {B : List Bun} (h : Acc Z P B B.length) {i : Nat} (hi : i < B.length) {p : Int} (h1 : (bn B i).f ≤ p) (h2 : p < (bn B i).o) : FindAt B (bn B i).g p i := by
  refine ⟨hi, ⟨rfl, h1, h2⟩, fun j hj hh => ?_⟩
  obtain ⟨q1, q2, q3⟩ := hh
  exact ((h i hi).2 j hj).2 ⟨q1, by omega, by omega⟩
end Go.Proofs.Ytpfffpajnjeoeaa
