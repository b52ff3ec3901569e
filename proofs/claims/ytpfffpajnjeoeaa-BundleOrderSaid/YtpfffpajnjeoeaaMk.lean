/-
  The bundles of a lay: where each ends, all of a garment, all of a lay; no program in sight.
-/
import Derived.Test.YtpfffpajnjeoeaaChk
namespace Go.Proofs.Ytpfffpajnjeoeaa

/-- A bundle from f on goes on at t. -/
def Goes (P : List Int) (most : Int) (f t : Nat) : Prop := t < P.length ∧ (t : Int) - f < most ∧ P.getD t 0 = P.getD f 0
instance (P : List Int) (most : Int) (f t : Nat) : Decidable (Goes P most f t) := inferInstanceAs (Decidable (_ ∧ _))
def scan (P : List Int) (most : Int) (f : Nat) : Nat → Nat → Nat
  | 0, t => t
  | k + 1, t => if Goes P most f t then scan P most f k (t + 1) else t
/-- Where a bundle from f on ends. -/
def endOf (P : List Int) (most : Int) (f : Nat) : Nat := scan P most f P.length (f + 1)
section
variable {P : List Int} {most : Int} {f : Nat}
theorem scan_stop {t : Nat} (h : ¬ Goes P most f t) (k : Nat) : scan P most f k t = t := by
  cases k with
  | zero => rfl
  | succ k => simp only [scan, if_neg h]
theorem scan_go {k t : Nat} (h : Goes P most f t) (hk : P.length ≤ k + t) : scan P most f k t = scan P most f (k - 1) (t + 1) := by
  cases k with
  | zero => have := h.1; omega
  | succ k => simp only [scan, if_pos h]; rfl
/-- What is said of an end. -/
structure IsEnd (P : List Int) (most : Int) (f e : Nat) : Prop where
  lt : f < e
  le : e ≤ P.length
  few : (e : Int) - f ≤ most
  lot : ∀ p, f ≤ p → p < e → P.getD p 0 = P.getD f 0
  stop : ¬ Goes P most f e
theorem scan_end : ∀ k t, P.length ≤ k + t → f < t → t ≤ P.length → (t : Int) - f ≤ most → (∀ p, f ≤ p → p < t → P.getD p 0 = P.getD f 0) → IsEnd P most f (scan P most f k t)
  | 0, t, hk, h1, h2, h3, h4 => ⟨h1, h2, h3, h4, fun h => by have := h.1; simp only [scan] at this; omega⟩
  | k + 1, t, hk, h1, h2, h3, h4 => by
    by_cases c : Goes P most f t
    · rw [scan_go c hk]
      refine scan_end k (t + 1) (by omega) (by omega) (by have := c.1; omega) (by have := c.2.1; omega) (fun p hp hp2 => ?_)
      by_cases e : p = t
      · rw [e]; exact c.2.2
      · exact h4 p hp (by omega)
    · rw [scan_stop c]
      exact ⟨h1, h2, h3, h4, c⟩
theorem endOf_end (hf : f < P.length) (hm : 1 ≤ most) : IsEnd P most f (endOf P most f) :=
  scan_end P.length (f + 1) (by omega) (by omega) (by omega) (by omega) (fun p h1 h2 => by rw [show p = f by omega])
end
/-- From f on, the bundles of a garment. -/
def segs (P : List Int) (most : Int) : Nat → Nat → List (Nat × Nat)
  | 0, _ => []
  | k + 1, f => if f < P.length then (f, endOf P most f) :: segs P most k (endOf P most f) else []
def Full (P : List Int) (most : Int) : List (Nat × Nat) := segs P most P.length 0
section
variable {P : List Int} {most : Int}
theorem segs_cons {k f : Nat} (hf : f < P.length) (hk : P.length ≤ k + f) : segs P most k f = (f, endOf P most f) :: segs P most (k - 1) (endOf P most f) := by
  cases k with
  | zero => omega
  | succ k => simp only [segs, if_pos hf]; rfl
theorem segs_nil {k f : Nat} (hf : P.length ≤ f) : segs P most k f = [] := by
  cases k with
  | zero => rfl
  | succ k => simp only [segs, if_neg (show ¬ f < P.length by omega)]
/-- Each ply from f on is in one of them. -/
theorem segs_count (hm : 1 ≤ most) {p : Nat} (hp : p < P.length) : ∀ k f, P.length ≤ k + f → (segs P most k f).countP (fun x => decide (x.1 ≤ p ∧ p < x.2)) = if f ≤ p then 1 else 0
  | 0, f, hk => by rw [if_neg (by omega)]; rfl
  | k + 1, f, hk => by
    by_cases c : f < P.length
    · have he := endOf_end c hm
      have h1 := he.lt
      rw [segs_cons c hk, List.countP_cons, segs_count hm hp (k + 1 - 1) (endOf P most f) (by omega)]
      by_cases d : f ≤ p
      · rw [if_pos d]
        by_cases d2 : p < endOf P most f
        · rw [if_neg (by omega)]; simp [d, d2]
        · rw [if_pos (by omega)]; simp [d2]
      · rw [if_neg d, if_neg (by omega)]; simp [d]
    · rw [segs_nil (by omega), if_neg (by omega)]; rfl
theorem full_count (hm : 1 ≤ most) {p : Nat} (hp : p < P.length) : (Full P most).countP (fun x => decide (x.1 ≤ p ∧ p < x.2)) = 1 := by
  rw [Full, segs_count hm hp _ _ (by omega), if_pos (by omega)]
theorem segs_mem (hm : 1 ≤ most) : ∀ k f, P.length ≤ k + f → ∀ x ∈ segs P most k f, f ≤ x.1 ∧ x.1 < P.length ∧ IsEnd P most x.1 x.2
  | 0, f, hk, x, hx => by simp [segs] at hx
  | k + 1, f, hk, x, hx => by
    by_cases c : f < P.length
    · have he := endOf_end c hm
      have h1 := he.lt
      rw [segs_cons c hk] at hx
      rcases List.mem_cons.1 hx with rfl | hx
      · exact ⟨Nat.le_refl _, c, he⟩
      · obtain ⟨h2, h3, h4⟩ := segs_mem hm (k + 1 - 1) _ (by omega) x hx
        exact ⟨by omega, h3, h4⟩
    · rw [segs_nil (by omega)] at hx
      simp at hx
theorem full_mem (hm : 1 ≤ most) {x : Nat × Nat} (hx : x ∈ Full P most) : x.1 < P.length ∧ IsEnd P most x.1 x.2 := (segs_mem hm _ _ (by omega) x hx).2
/-- No two overlap. -/
theorem segs_apart (hm : 1 ≤ most) : ∀ k f, P.length ≤ k + f → (segs P most k f).Pairwise (fun x y => x.2 ≤ y.1)
  | 0, f, hk => List.Pairwise.nil
  | k + 1, f, hk => by
    by_cases c : f < P.length
    · have he := endOf_end c hm
      have h1 := he.lt
      rw [segs_cons c hk]
      exact List.Pairwise.cons (fun x hx => (segs_mem hm (k + 1 - 1) _ (by omega) x hx).1) (segs_apart hm (k + 1 - 1) _ (by omega))
    · rw [segs_nil (by omega)]; exact List.Pairwise.nil
end
/-- The bundles of the first g garments: garment, from, to. -/
def tri (F : List (Nat × Nat)) (g : Nat) : List (Nat × Nat × Nat) := (List.range g).flatMap fun g' => F.map fun x => (g', x)
theorem tri_zero (F : List (Nat × Nat)) : tri F 0 = [] := rfl
theorem tri_succ (F : List (Nat × Nat)) (g : Nat) : tri F (g + 1) = tri F g ++ F.map fun x => (g, x) := by simp [tri, List.range_succ, List.flatMap_append]
theorem tri_len (F : List (Nat × Nat)) (g : Nat) : (tri F g).length = g * F.length := by
  induction g with
  | zero => simp [tri_zero]
  | succ g ih => rw [tri_succ, List.length_append, ih]; simp [Nat.succ_mul]
theorem tri_mem {F : List (Nat × Nat)} {g : Nat} {x : Nat × Nat × Nat} : x ∈ tri F g ↔ x.1 < g ∧ x.2 ∈ F := by
  unfold tri
  simp only [List.mem_flatMap, List.mem_range, List.mem_map]
  constructor
  · rintro ⟨g', hg, y, hy, rfl⟩; exact ⟨hg, hy⟩
  · rintro ⟨h1, h2⟩; exact ⟨x.1, h1, x.2, h2, rfl⟩
theorem tri_count {F : List (Nat × Nat)} (q : Nat × Nat → Bool) (g0 : Nat) : ∀ g, (tri F g).countP (fun x => decide (x.1 = g0) && q x.2) = if g0 < g then F.countP q else 0
  | 0 => by simp [tri_zero]
  | g + 1 => by
    rw [tri_succ, List.countP_append, tri_count q g0 g, List.countP_map]
    by_cases c : g = g0
    · subst c
      rw [if_neg (by omega), if_pos (by omega), Nat.zero_add]
      congr 1
      funext x
      simp
    · have e : F.countP ((fun x : Nat × Nat × Nat => decide (x.1 = g0) && q x.2) ∘ fun x => (g, x)) = 0 := by
        rw [List.countP_eq_zero]
        intro x _
        simp [c]
      rw [e]
      by_cases d : g0 < g
      · rw [if_pos d, if_pos (by omega)]; omega
      · rw [if_neg d, if_neg (by omega)]
/-- No two of one garment overlap. -/
theorem tri_apart {F : List (Nat × Nat)} (hF : F.Pairwise (fun x y => x.2 ≤ y.1)) : ∀ g, (tri F g).Pairwise (fun x y => x.1 = y.1 → x.2.2 ≤ y.2.1)
  | 0 => List.Pairwise.nil
  | g + 1 => by
    rw [tri_succ, List.pairwise_append]
    refine ⟨tri_apart hF g, ?_, fun x hx y hy e => ?_⟩
    · rw [List.pairwise_map]
      refine hF.imp ?_
      intro a b h _
      exact h
    · obtain ⟨z, _, rfl⟩ := List.mem_map.1 hy
      have := (tri_mem.1 hx).1
      simp only at e
      omega

/-- Bundles out of garments and their plies. -/
def mkOne (Z P : List Int) (k : Nat) (x : Nat × Nat × Nat) : Bun := ⟨(k : Int) + 1, x.1, Z.getD x.1 0, P.getD x.2.1 0, x.2.1, x.2.2⟩
def mkB (Z P : List Int) (T : List (Nat × Nat × Nat)) : List Bun := T.mapIdx (mkOne Z P)
theorem mkB_len (Z P : List Int) (T : List (Nat × Nat × Nat)) : (mkB Z P T).length = T.length := by simp [mkB]
theorem mkB_snoc (Z P : List Int) (T : List (Nat × Nat × Nat)) (x : Nat × Nat × Nat) : mkB Z P (T ++ [x]) = mkB Z P T ++ [mkOne Z P T.length x] := by simp [mkB, List.mapIdx_append]
theorem mkB_at (Z P : List Int) (T : List (Nat × Nat × Nat)) {i : Nat} (h : i < T.length) : bn (mkB Z P T) i = mkOne Z P i T[i] := by
  simp [bn, mkB, List.getD, h]

/-! ### The state of the making -/
/-- At garment g, from ply f on, with the bundles T. -/
structure Making (P : List Int) (most : Int) (g f k : Nat) (T : List (Nat × Nat × Nat)) : Prop where
  parts : ∃ pre, T = tri (Full P most) g ++ pre.map (fun x => (g, x)) ∧ Full P most = pre ++ segs P most k f
  fuel : P.length ≤ k + f
  le : f ≤ P.length
theorem making_start (P : List Int) (most : Int) (g : Nat) : Making P most g 0 P.length (tri (Full P most) g) := ⟨⟨[], by simp, rfl⟩, by omega, by omega⟩
theorem Making.step {P : List Int} {most : Int} {g f k : Nat} {T : List (Nat × Nat × Nat)} (hm : 1 ≤ most) (h : Making P most g f k T) (hf : f < P.length) : Making P most g (endOf P most f) (k - 1) (T ++ [(g, f, endOf P most f)]) := by
  obtain ⟨⟨pre, h1, h2⟩, h3, h4⟩ := h
  have he := endOf_end hf hm
  have h5 := he.lt
  refine ⟨⟨pre ++ [(f, endOf P most f)], ?_, ?_⟩, by omega, he.le⟩
  · rw [h1]; simp
  · rw [h2, segs_cons hf h3]; simp
theorem Making.done {P : List Int} {most : Int} {g f k : Nat} {T : List (Nat × Nat × Nat)} (h : Making P most g f k T) (hf : P.length ≤ f) : T = tri (Full P most) (g + 1) := by
  obtain ⟨⟨pre, h1, h2⟩, _, _⟩ := h
  rw [segs_nil hf, List.append_nil] at h2
  rw [h1, tri_succ, ← h2]
theorem tri_le (F : List (Nat × Nat)) {g m : Nat} (h : g ≤ m) : (tri F g).length ≤ (tri F m).length := by
  rw [tri_len, tri_len]
  exact Nat.mul_le_mul_right _ h
/-- If there is more to come, the whole is longer. -/
theorem Making.more {P : List Int} {most : Int} {g f k : Nat} {T : List (Nat × Nat × Nat)} (h : Making P most g f k T) (hf : f < P.length) {m : Nat} (hg : g < m) : T.length < (tri (Full P most) m).length := by
  obtain ⟨⟨pre, h1, h2⟩, h3, _⟩ := h
  have h4 := tri_le (Full P most) (show g + 1 ≤ m by omega)
  have h5 : (tri (Full P most) (g + 1)).length = (tri (Full P most) g).length + (Full P most).length := by rw [tri_succ]; simp
  have h6 : (Full P most).length = pre.length + (segs P most k f).length := by rw [h2]; simp
  have h7 : T.length = (tri (Full P most) g).length + pre.length := by rw [h1]; simp
  rw [segs_cons hf h3] at h6
  simp at h6
  omega

/-! ### What is made is accepted -/
theorem made_sane {Z P : List Int} {most : Int} (hm : 1 ≤ most) {T : List (Nat × Nat × Nat)} (hT : T = tri (Full P most) Z.length) {i : Nat} (hi : i < T.length) : Sane Z P (bn (mkB Z P T) i) ∧ IsEnd P most T[i].2.1 T[i].2.2 ∧ T[i].1 < Z.length := by
  have hx : T[i] ∈ tri (Full P most) Z.length := by rw [← hT]; exact List.getElem_mem hi
  obtain ⟨h1, h2⟩ := tri_mem.1 hx
  obtain ⟨h3, h4⟩ := full_mem hm h2
  rw [mkB_at Z P T hi]
  have h5 := h4.lt
  have h6 := h4.le
  refine ⟨⟨?_, ?_, ?_⟩, h4, h1⟩
  · unfold Bad mkOne; simp only; omega
  · unfold mkOne; simp
  · intro p h7 h8
    unfold mkOne at h7 h8 ⊢
    simp only at h7 h8 ⊢
    exact h4.lot p (by omega) (by omega)
theorem made_acc {Z P : List Int} {most : Int} (hm : 1 ≤ most) {T : List (Nat × Nat × Nat)} (hT : T = tri (Full P most) Z.length) : Acc Z P (mkB Z P T) (mkB Z P T).length := fun i hi => by
  rw [mkB_len] at hi
  refine ⟨(made_sane hm hT hi).1, fun j hj => ?_⟩
  rw [mkB_at Z P T hi, mkB_at Z P T (show j < T.length by omega)]
  refine ⟨by unfold mkOne; simp only; omega, fun h => ?_⟩
  obtain ⟨h1, h2, h3⟩ := h
  unfold mkOne at h1 h2 h3
  simp only at h1 h2 h3
  have hap := tri_apart (segs_apart hm (P := P) P.length 0 (by omega)) Z.length
  have hap2 : T.Pairwise (fun x y => x.1 = y.1 → x.2.2 ≤ y.2.1) := by rw [hT]; exact hap
  have := List.pairwise_iff_getElem.1 hap2 j i (by omega) hi hj (by omega)
  omega
/-- How many of the bundles have a garment and a ply. -/
theorem made_count {Z P : List Int} {most : Int} (hm : 1 ≤ most) {T : List (Nat × Nat × Nat)} (hT : T = tri (Full P most) Z.length) {g p : Nat} (hg : g < Z.length) (hp : p < P.length) : (mkB Z P T).countP (fun b => decide (Has b g p)) = 1 := by
  have h1 := tri_count (F := Full P most) (fun x => decide (x.1 ≤ p ∧ p < x.2)) g Z.length
  rw [if_pos hg, full_count hm hp, ← hT] at h1
  rw [← h1]
  clear h1 hT
  unfold mkB
  generalize 0 = z at *
  have key : ∀ (T : List (Nat × Nat × Nat)) (f : Nat → Nat × Nat × Nat → Bun), (∀ k x, decide (Has (f k x) g p) = (decide (x.1 = g) && decide (x.2.1 ≤ p ∧ p < x.2.2))) → (T.mapIdx f).countP (fun b => decide (Has b g p)) = T.countP (fun x => decide (x.1 = g) && decide (x.2.1 ≤ p ∧ p < x.2.2)) := by
    intro T
    induction T with
    | nil => intro f _; rfl
    | cons x T ih =>
      intro f hf
      rw [List.mapIdx_cons, List.countP_cons, List.countP_cons, ih (fun k => f (k + 1)) (fun k y => hf (k + 1) y)]
      rw [hf 0 x]
  apply key
  intro k x
  unfold Has mkOne
  rw [Bool.eq_iff_iff]
  simp
  omega
theorem countP_pos_at {B : List Bun} {q : Bun → Bool} (h : 0 < B.countP q) : ∃ i, i < B.length ∧ q (bn B i) = true := by
  obtain ⟨b, hb, hq⟩ := List.countP_pos_iff.1 h
  obtain ⟨i, hi, e⟩ := List.mem_iff_getElem.1 hb
  exact ⟨i, hi, by simp [bn, List.getD, hi, e, hq]⟩
theorem made_gap {Z P : List Int} {most : Int} (hm : 1 ≤ most) {T : List (Nat × Nat × Nat)} (hT : T = tri (Full P most) Z.length) : ¬ Gap Z P (mkB Z P T) := fun ⟨g, p, hg, hp, hc⟩ => by
  obtain ⟨i, hi, h⟩ := countP_pos_at (by rw [made_count hm hT hg hp]; omega)
  exact hc ⟨i, hi, by simpa using h⟩
theorem made_chk {Z P : List Int} {most : Int} (hm : 1 ≤ most) {T : List (Nat × Nat × Nat)} (hT : T = tri (Full P most) Z.length) : ChkIs Z P (mkB Z P T) 0 := chk_mk (made_acc hm hT) (made_gap hm hT)
end Go.Proofs.Ytpfffpajnjeoeaa
