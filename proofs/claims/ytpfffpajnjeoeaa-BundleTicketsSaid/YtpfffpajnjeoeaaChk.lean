/-
  What it means that bundles are accepted: one after others, all of them, without a gap; no program in sight.
-/
import Derived.Test.YtpfffpajnjeoeaaCnt
namespace Go.Proofs.Ytpfffpajnjeoeaa

/-- A bundle: ticket, garment, size, lot, from, to. -/
structure Bun where
  t : Int
  g : Int
  s : Int
  l : Int
  f : Int
  o : Int
/-- The bundle at an index. -/
def bn (B : List Bun) (i : Nat) : Bun := B.getD i ⟨0, 0, 0, 0, 0, 0⟩
/-- A bundle has a garment and a ply. -/
def Has (b : Bun) (g p : Int) : Prop := b.g = g ∧ b.f ≤ p ∧ p < b.o
instance (b : Bun) (g p : Int) : Decidable (Has b g p) := inferInstanceAs (Decidable (_ ∧ _))
def FindAt (B : List Bun) (g p : Int) (k : Nat) : Prop := k < B.length ∧ Has (bn B k) g p ∧ ∀ j, j < k → ¬ Has (bn B j) g p
def FindNo (B : List Bun) (g p : Int) : Prop := ∀ j, j < B.length → ¬ Has (bn B j) g p
theorem findAt_unique {B : List Bun} {g p : Int} {k k' : Nat} (h : FindAt B g p k) (h' : FindAt B g p k') : k = k' := by
  rcases Nat.lt_trichotomy k k' with c | c | c
  · exact absurd h.2.1 (h'.2.2 k c)
  · exact c
  · exact absurd h'.2.1 (h.2.2 k' c)
theorem findAt_no {B : List Bun} {g p : Int} {k : Nat} (h : FindAt B g p k) (h' : FindNo B g p) : False := h' k h.1 h.2.1

def Overlap (b c : Bun) : Prop := b.g = c.g ∧ b.f < c.o ∧ c.f < b.o
def Bad (Z P : List Int) (b : Bun) : Prop := b.g < 0 ∨ (Z.length : Int) ≤ b.g ∨ b.f < 0 ∨ b.o ≤ b.f ∨ (P.length : Int) < b.o
instance (Z P : List Int) (b : Bun) : Decidable (Bad Z P b) := inferInstanceAs (Decidable (_ ∨ _))
/-- The lot of a bundle is that of its plies. -/
def Shade (P : List Int) (b : Bun) : Prop := ∀ p : Nat, b.f ≤ p → (p : Int) < b.o → P.getD p 0 = b.l
/-- A bundle that can be accepted after no other. -/
def Sane (Z P : List Int) (b : Bun) : Prop := ¬ Bad Z P b ∧ b.s = Z.getD b.g.toNat 0 ∧ Shade P b
/-- A bundle that can be accepted after others. -/
def Ok (Z P : List Int) (E : List Bun) (b : Bun) : Prop := Sane Z P b ∧ ∀ i, i < E.length → (bn E i).t ≠ b.t ∧ ¬ Overlap (bn E i) b
open Classical in
/-- The error of a bundle after others. -/
noncomputable def errOne (Z P : List Int) (E : List Bun) (b : Bun) : Int :=
  if Bad Z P b then 3
  else if ∃ i, i < E.length ∧ (bn E i).t = b.t then 7
  else if ¬ b.s = Z.getD b.g.toNat 0 then 1
  else if ¬ Shade P b then 16
  else if ∃ i, i < E.length ∧ Overlap (bn E i) b then 14
  else 0
section
variable {Z P : List Int} {E : List Bun} {b : Bun}
theorem err3 (h : Bad Z P b) : errOne Z P E b = 3 := by unfold errOne; rw [if_pos h]
theorem err7 (h : ¬ Bad Z P b) (h2 : ∃ i, i < E.length ∧ (bn E i).t = b.t) : errOne Z P E b = 7 := by unfold errOne; rw [if_neg h, if_pos h2]
theorem err1 (h : ¬ Bad Z P b) (h2 : ¬ ∃ i, i < E.length ∧ (bn E i).t = b.t) (h3 : ¬ b.s = Z.getD b.g.toNat 0) : errOne Z P E b = 1 := by unfold errOne; rw [if_neg h, if_neg h2, if_pos h3]
theorem err16 (h : ¬ Bad Z P b) (h2 : ¬ ∃ i, i < E.length ∧ (bn E i).t = b.t) (h3 : b.s = Z.getD b.g.toNat 0) (h4 : ¬ Shade P b) : errOne Z P E b = 16 := by
  unfold errOne; rw [if_neg h, if_neg h2, if_neg (fun c => c h3), if_pos h4]
theorem err14 (h : ¬ Bad Z P b) (h2 : ¬ ∃ i, i < E.length ∧ (bn E i).t = b.t) (h3 : b.s = Z.getD b.g.toNat 0) (h4 : Shade P b) (h5 : ∃ i, i < E.length ∧ Overlap (bn E i) b) : errOne Z P E b = 14 := by
  unfold errOne; rw [if_neg h, if_neg h2, if_neg (fun c => c h3), if_neg (fun c => c h4), if_pos h5]
theorem err0 (h : ¬ Bad Z P b) (h2 : ¬ ∃ i, i < E.length ∧ (bn E i).t = b.t) (h3 : b.s = Z.getD b.g.toNat 0) (h4 : Shade P b) (h5 : ¬ ∃ i, i < E.length ∧ Overlap (bn E i) b) : errOne Z P E b = 0 := by
  unfold errOne; rw [if_neg h, if_neg h2, if_neg (fun c => c h3), if_neg (fun c => c h4), if_neg h5]
theorem err0_iff : errOne Z P E b = 0 ↔ Ok Z P E b := by
  constructor
  · intro h
    by_cases h1 : Bad Z P b
    · rw [err3 h1] at h; omega
    · by_cases h2 : ∃ i, i < E.length ∧ (bn E i).t = b.t
      · rw [err7 h1 h2] at h; omega
      · by_cases h3 : b.s = Z.getD b.g.toNat 0
        · by_cases h4 : Shade P b
          · by_cases h5 : ∃ i, i < E.length ∧ Overlap (bn E i) b
            · rw [err14 h1 h2 h3 h4 h5] at h; omega
            · exact ⟨⟨h1, h3, h4⟩, fun i hi => ⟨fun e => h2 ⟨i, hi, e⟩, fun e => h5 ⟨i, hi, e⟩⟩⟩
          · rw [err16 h1 h2 h3 h4] at h; omega
        · rw [err1 h1 h2 h3] at h; omega
  · rintro ⟨⟨h1, h3, h4⟩, h⟩
    exact err0 h1 (fun ⟨i, hi, e⟩ => (h i hi).1 e) h3 h4 (fun ⟨i, hi, e⟩ => (h i hi).2 e)
end

/-! ### All bundles -/
theorem bn_take {B : List Bun} {i j : Nat} (h : j < i) : bn (B.take i) j = bn B j := by
  unfold bn
  simp [List.getD, h]
theorem take_len {B : List Bun} {i : Nat} (h : i ≤ B.length) : (B.take i).length = i := by simp [h]
/-- The first k bundles are accepted. -/
def Acc (Z P : List Int) (B : List Bun) (k : Nat) : Prop := ∀ i, i < k → Sane Z P (bn B i) ∧ ∀ j, j < i → (bn B j).t ≠ (bn B i).t ∧ ¬ Overlap (bn B j) (bn B i)
theorem acc_zero (Z P : List Int) (B : List Bun) : Acc Z P B 0 := fun i hi => by omega
theorem ok_take {Z P : List Int} {B : List Bun} {k : Nat} (hk : k ≤ B.length) {b : Bun} : Ok Z P (B.take k) b ↔ Sane Z P b ∧ ∀ j, j < k → (bn B j).t ≠ b.t ∧ ¬ Overlap (bn B j) b := by
  unfold Ok
  rw [take_len hk]
  constructor
  · rintro ⟨h1, h2⟩
    exact ⟨h1, fun j hj => by rw [← bn_take (B := B) hj]; exact h2 j hj⟩
  · rintro ⟨h1, h2⟩
    exact ⟨h1, fun j hj => by rw [bn_take hj]; exact h2 j hj⟩
theorem Acc.succ {Z P : List Int} {B : List Bun} {k : Nat} (h : Acc Z P B k) (hk : k < B.length) (he : errOne Z P (B.take k) (bn B k) = 0) : Acc Z P B (k + 1) := fun i hi => by
  by_cases c : i = k
  · subst c; exact (ok_take (by omega)).1 (err0_iff.1 he)
  · exact h i (by omega)
theorem Acc.mono {Z P : List Int} {B : List Bun} {k m : Nat} (h : Acc Z P B k) (hm : m ≤ k) : Acc Z P B m := fun i hi => h i (by omega)
theorem Acc.err {Z P : List Int} {B : List Bun} {k i : Nat} (h : Acc Z P B k) (hi : i < k) (hk : k ≤ B.length) : errOne Z P (B.take i) (bn B i) = 0 := err0_iff.2 ((ok_take (by omega)).2 (h i hi))
/-- One of the first k bundles has a garment and a ply. -/
def Cov (B : List Bun) (k : Nat) (g p : Int) : Prop := ∃ i, i < k ∧ Has (bn B i) g p
/-- A garment and a ply are in no bundle. -/
def Gap (Z P : List Int) (B : List Bun) : Prop := ∃ g p : Nat, g < Z.length ∧ p < P.length ∧ ¬ Cov B B.length g p
/-- The error of bundles. -/
def ChkIs (Z P : List Int) (B : List Bun) (e : Int) : Prop :=
  (∃ i, i < B.length ∧ Acc Z P B i ∧ errOne Z P (B.take i) (bn B i) = e ∧ e ≠ 0) ∨ (Acc Z P B B.length ∧ Gap Z P B ∧ e = 20) ∨ (Acc Z P B B.length ∧ ¬ Gap Z P B ∧ e = 0)
theorem chk_from (Z P : List Int) (B : List Bun) : ∀ m k, m + k = B.length → Acc Z P B k → ∃ e, ChkIs Z P B e
  | 0, k, hk, h => by
    obtain rfl : k = B.length := by omega
    by_cases g : Gap Z P B
    · exact ⟨20, Or.inr (Or.inl ⟨h, g, rfl⟩)⟩
    · exact ⟨0, Or.inr (Or.inr ⟨h, g, rfl⟩)⟩
  | m + 1, k, hk, h => by
    by_cases he : errOne Z P (B.take k) (bn B k) = 0
    · exact chk_from Z P B m (k + 1) (by omega) (h.succ (by omega) he)
    · exact ⟨_, Or.inl ⟨k, by omega, h, rfl, he⟩⟩
theorem chk_exists (Z P : List Int) (B : List Bun) : ∃ e, ChkIs Z P B e := chk_from Z P B B.length 0 (by omega) (acc_zero Z P B)
theorem chk_unique {Z P : List Int} {B : List Bun} {e e' : Int} (h : ChkIs Z P B e) (h' : ChkIs Z P B e') : e = e' := by
  have no : ∀ {i : Nat} {k : Nat} {e : Int}, i < B.length → Acc Z P B k → i < k → k ≤ B.length → errOne Z P (B.take i) (bn B i) = e → e ≠ 0 → False := fun hi ha hik hk he hne => hne (he.symm.trans (ha.err hik hk))
  rcases h with ⟨i, hi, ha, he, hne⟩ | ⟨ha, hg, rfl⟩ | ⟨ha, hg, rfl⟩
  · rcases h' with ⟨i', hi', ha', he', hne'⟩ | ⟨ha', hg', rfl⟩ | ⟨ha', hg', rfl⟩
    · rcases Nat.lt_trichotomy i i' with c | c | c
      · exact (no hi ha' c (by omega) he hne).elim
      · subst c; exact he.symm.trans he'
      · exact (no hi' ha c (by omega) he' hne').elim
    · exact (no hi ha' hi (Nat.le_refl _) he hne).elim
    · exact (no hi ha' hi (Nat.le_refl _) he hne).elim
  · rcases h' with ⟨i', hi', ha', he', hne'⟩ | ⟨ha', hg', rfl⟩ | ⟨ha', hg', rfl⟩
    · exact (no hi' ha hi' (Nat.le_refl _) he' hne').elim
    · rfl
    · exact absurd hg hg'
  · rcases h' with ⟨i', hi', ha', he', hne'⟩ | ⟨ha', hg', rfl⟩ | ⟨ha', hg', rfl⟩
    · exact (no hi' ha hi' (Nat.le_refl _) he' hne').elim
    · exact absurd hg' hg
    · rfl
theorem chk_ok {Z P : List Int} {B : List Bun} (h : ChkIs Z P B 0) : Acc Z P B B.length ∧ ¬ Gap Z P B := by
  rcases h with ⟨_, _, _, _, hne⟩ | ⟨_, _, e⟩ | ⟨ha, hg, _⟩
  · exact absurd rfl hne
  · omega
  · exact ⟨ha, hg⟩
theorem chk_mk {Z P : List Int} {B : List Bun} (h : Acc Z P B B.length) (hg : ¬ Gap Z P B) : ChkIs Z P B 0 := Or.inr (Or.inr ⟨h, hg, rfl⟩)

/-! ### Sums -/
/-- How many plies the first k bundles of a garment have. -/
def tot (B : List Bun) (g : Int) : Nat → Int
  | 0 => 0
  | k + 1 => tot B g k + if (bn B k).g = g then (bn B k).o - (bn B k).f else 0
theorem tot_yes {B : List Bun} {g : Int} {k : Nat} (h : (bn B k).g = g) : tot B g (k + 1) = tot B g k + ((bn B k).o - (bn B k).f) := by
  show _ + _ = _
  rw [if_pos h]
theorem tot_no {B : List Bun} {g : Int} {k : Nat} (h : (bn B k).g ≠ g) : tot B g (k + 1) = tot B g k := by
  show _ + _ = _
  rw [if_neg h]; omega
theorem Acc.tot {Z P : List Int} {B : List Bun} (g : Int) : ∀ k, Acc Z P B k → tot B g k = (cnt (fun p => Cov B k g p) P.length : Int)
  | 0, _ => by
    rw [cnt_none _ (fun i _ ⟨j, hj, _⟩ => by omega)]
    rfl
  | k + 1, h => by
    have ih := Acc.tot g k (h.mono (by omega))
    obtain ⟨⟨hb, _, _⟩, hd⟩ := h k (by omega)
    have hb' : 0 ≤ (bn B k).f ∧ (bn B k).f < (bn B k).o ∧ (bn B k).o ≤ P.length := by unfold Bad at hb; omega
    by_cases c : (bn B k).g = g
    · rw [tot_yes c, ih]
      have e1 : cnt (fun p : Nat => Cov B (k + 1) g p) P.length = cnt (fun p : Nat => Cov B k g p ∨ ((bn B k).f.toNat ≤ p ∧ p < (bn B k).o.toNat)) P.length := cnt_congr _ (fun p hp => by
        constructor
        · rintro ⟨i, hi, h2⟩
          by_cases e : i = k
          · subst e
            obtain ⟨_, h3, h4⟩ := h2
            exact Or.inr ⟨by omega, by omega⟩
          · exact Or.inl ⟨i, by omega, h2⟩
        · rintro (⟨i, hi, h2⟩ | ⟨h3, h4⟩)
          · exact ⟨i, by omega, h2⟩
          · exact ⟨k, by omega, c, by omega, by omega⟩)
      have dis : ∀ p, p < P.length → ¬ (Cov B k g (p : Int) ∧ ((bn B k).f.toNat ≤ p ∧ p < (bn B k).o.toNat)) := fun p hp hh => by
        obtain ⟨⟨i, hi, h2⟩, h3, h4⟩ := hh
        exact (hd i hi).2 ⟨h2.1.trans c.symm, by have := h2.2.1; omega, by have := h2.2.2; omega⟩
      rw [e1, cnt_or (Q := fun p : Nat => Cov B k g (p : Int)) (R := fun p : Nat => (bn B k).f.toNat ≤ p ∧ p < (bn B k).o.toNat) _ dis, cnt_range _ _ _ (by omega) (by omega)]
      omega
    · rw [tot_no c, ih]
      congr 1
      apply cnt_congr
      intro p hp
      constructor
      · rintro ⟨i, hi, h2⟩; exact ⟨i, by omega, h2⟩
      · rintro ⟨i, hi, h2⟩
        by_cases e : i = k
        · subst e; exact absurd h2.1 c
        · exact ⟨i, by omega, h2⟩
theorem Acc.tot_le {Z P : List Int} {B : List Bun} {g : Int} {k : Nat} (h : Acc Z P B k) : 0 ≤ Go.Proofs.Ytpfffpajnjeoeaa.tot B g k ∧ Go.Proofs.Ytpfffpajnjeoeaa.tot B g k ≤ P.length := by
  have := cnt_le (fun p : Nat => Cov B k g p) P.length
  rw [h.tot g k]
  omega
theorem Acc.gap {Z P : List Int} {B : List Bun} (h : Acc Z P B B.length) : Gap Z P B ↔ ∃ g : Nat, g < Z.length ∧ Go.Proofs.Ytpfffpajnjeoeaa.tot B g B.length < P.length := by
  constructor
  · rintro ⟨g, p, hg, hp, hc⟩
    refine ⟨g, hg, ?_⟩
    rw [h.tot g _]
    have := cnt_lt (Q := fun p : Nat => Cov B B.length g p) hp hc
    omega
  · rintro ⟨g, hg, hlt⟩
    apply Classical.byContradiction
    intro hn
    rw [h.tot g _, cnt_all _ (fun p hp => Classical.byContradiction fun hc => hn ⟨g, p, hg, hp, hc⟩)] at hlt
    omega
end Go.Proofs.Ytpfffpajnjeoeaa
