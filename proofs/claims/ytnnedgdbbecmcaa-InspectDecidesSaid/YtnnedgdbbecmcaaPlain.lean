/-
  The plain rules of inspection: regimes, switching, plans, decisions; no program in sight.
-/
import Derived.KernelRfl
namespace Go.Proofs.Ytnnedgdbbecmcaa

/-- A regime that occurs. -/
def okR (l a r : Int) : Bool := decide (0 ≤ a ∧ 0 ≤ r ∧ ((l = 2 ∧ ((r = 0 ∧ a < 10) ∨ (r = 1 ∧ a < 5))) ∨ (l = 3 ∧ a < 5 ∧ r < 5) ∨ ((l = 1 ∨ l = 4) ∧ a = 0 ∧ r = 0)))
/-- A regime as three numbers. -/
structure Reg where
  l : Int
  a : Int
  r : Int
/-- After an accepted lot, at the levels 2 and 3. -/
def accR (l a r : Int) : Reg :=
  if l = 3 then (if a + 1 = 5 then ⟨2, 0, 0⟩ else ⟨3, a + 1, r⟩)
  else if a + 1 = 10 then ⟨1, 0, 0⟩ else ⟨l, a + 1, if a + 1 = 5 then 0 else r⟩
/-- After a rejected lot, at the levels 2 and 3. -/
def rejR (l r : Int) : Reg :=
  if l = 2 ∧ r + 1 = 2 then ⟨3, 0, 0⟩ else if l = 3 ∧ r + 1 = 5 then ⟨4, 0, 0⟩ else ⟨l, 0, r + 1⟩
/-- The error of Switch. -/
def swE (l a r : Int) : Int := if okR l a r = false then 1 else if l = 4 then 8 else 0
/-- The regime of Switch. -/
def sw (l a r : Int) (b : Bool) : Reg :=
  if swE l a r = 0 then (if l = 1 then (if b then ⟨l, a, r⟩ else ⟨2, 0, 0⟩) else if b then accR l a r else rejR l r) else ⟨0, 0, 0⟩
/-- The least number from k on whose square is at least n. -/
def rtGo : Nat → Int → Int → Int
  | 0, k, _ => k
  | f + 1, k, n => if k * k < n then rtGo f (k + 1) n else k
def rt (n : Int) : Int := rtGo 40 0 n
/-- The error of Plan. -/
def plE (l a r m : Int) : Int := if okR l a r = false then 1 else if m < 2 ∨ 200 < m then 3 else if l = 4 then 8 else 0
def plN (l a r m : Int) : Int := if plE l a r m = 0 then min (rt (if l = 1 then m else 4 * m)) m else 0
def plC (l a r m : Int) : Int := if plE l a r m = 0 then plN l a r m / (if l = 3 then 10 else 5) else 0
/-- The error of Check. -/
def ckE (n c m : Int) : Int := if n < 1 ∨ m < n ∨ 200 < m ∨ c < 0 ∨ n ≤ c then 3 else 0
/-- The error and the answer of Decide. -/
def deE (n c f : Int) : Int := if ckE n c n ≠ 0 ∨ f < 0 ∨ n < f then 3 else 0
def deB (n c f : Int) : Bool := if deE n c f = 0 then decide (f ≤ c) else false

theorem rtGo_eq (n : Int) : ∀ (f : Nat) (k j : Int), j - k ≤ f → k ≤ j → (∀ i, k ≤ i → i < j → i * i < n) → n ≤ j * j → rtGo f k n = j
  | 0, k, j, h1, h2, _, _ => by simp only [rtGo]; omega
  | f + 1, k, j, h1, h2, h3, h4 => by
    simp only [rtGo]
    by_cases h : k = j
    · subst h; rw [if_neg (by omega)]
    · rw [if_pos (h3 k (by omega) (by omega))]
      exact rtGo_eq n f (k + 1) j (by omega) (by omega) (fun i hi hj => h3 i (by omega) hj) h4
theorem rt_eq (n j : Int) (h0 : 0 ≤ j) (h1 : j ≤ 40) (h2 : ∀ i, 0 ≤ i → i < j → i * i < n) (h3 : n ≤ j * j) : rt n = j :=
  rtGo_eq n 40 0 j (by omega) h0 h2 h3
end Go.Proofs.Ytnnedgdbbecmcaa
namespace Go.Proofs.Ytnnedgdbbecmcaa
theorem ok_bd {l a r : Int} (h : okR l a r = true) : 0 ≤ a ∧ a < 10 ∧ 0 ≤ r ∧ r < 10 ∧ (l = 1 ∨ l = 2 ∨ l = 3 ∨ l = 4) := by
  unfold okR at h
  simp at h
  omega
theorem swE_bad {l a r : Int} (h : okR l a r = false) : swE l a r = 1 := by simp [swE, h]
theorem swE_stop {a r : Int} (h : okR 4 a r = true) : swE 4 a r = 8 := by simp [swE, h]
theorem swE_go {l a r : Int} (h : okR l a r = true) (h4 : l ≠ 4) : swE l a r = 0 := by simp [swE, h, h4]
theorem sw_bad {l a r : Int} {b : Bool} (h : okR l a r = false) : sw l a r b = ⟨0, 0, 0⟩ := by simp [sw, swE_bad h]
theorem sw_stop {a r : Int} {b : Bool} (h : okR 4 a r = true) : sw 4 a r b = ⟨0, 0, 0⟩ := by simp [sw, swE_stop h]
theorem sw_red {a r : Int} {b : Bool} (h : okR 1 a r = true) : sw 1 a r b = if b then ⟨1, a, r⟩ else ⟨2, 0, 0⟩ := by simp [sw, swE_go h]
theorem sw_mid {l a r : Int} {b : Bool} (h : okR l a r = true) (h4 : l ≠ 4) (h1 : l ≠ 1) : sw l a r b = if b then accR l a r else rejR l r := by simp [sw, swE_go h h4, h1]
end Go.Proofs.Ytnnedgdbbecmcaa
namespace Go.Proofs.Ytnnedgdbbecmcaa
/-- All numbers before k have a smaller square. -/
def Small (n k : Int) : Prop := ∀ i, 0 ≤ i → i < k → i * i < n
theorem small_zero (n : Int) : Small n 0 := fun i h0 h1 => by omega
theorem small_succ {n k : Int} (h : Small n k) (hk : k * k < n) : Small n (k + 1) := fun i h0 h1 => by
  by_cases e : i = k
  · rw [e]; exact hk
  · exact h i h0 (by omega)
theorem sq_lt {k : Int} (h : k * k < 900) (h0 : 0 ≤ k) : k < 30 := by
  rcases Int.lt_or_le k 30 with h1 | h1
  · exact h1
  · have : 30 * 30 ≤ k * k := Int.mul_le_mul h1 h1 (by omega) h0
    omega
theorem sq_bd {k : Int} (h0 : 0 ≤ k) (h1 : k ≤ 30) : 0 ≤ k * k ∧ k * k ≤ 900 := by
  have h2 : k * k ≤ 30 * 30 := Int.mul_le_mul h1 h1 h0 (by omega)
  exact ⟨Int.mul_nonneg h0 h0, by omega⟩
theorem rt_small {n k : Int} (h0 : 0 ≤ k) (h1 : k ≤ 30) (h : Small n k) (hn : n ≤ k * k) : rt n = k := rt_eq n k h0 (by omega) h hn
theorem rt_spec (n : Int) (hn : n ≤ 900) : ∃ k, rt n = k ∧ 0 ≤ k ∧ k ≤ 30 ∧ Small n k ∧ n ≤ k * k := by
  have step : ∀ f : Nat, ∀ k : Int, 0 ≤ k → k + f = 30 → Small n k → ∃ j, 0 ≤ j ∧ j ≤ 30 ∧ Small n j ∧ n ≤ j * j := by
    intro f
    induction f with
    | zero =>
      intro k h0 h1 h2
      obtain rfl : k = 30 := by omega
      exact ⟨30, h0, by omega, h2, by omega⟩
    | succ f ih =>
      intro k h0 h1 h2
      by_cases h : k * k < n
      · exact ih (k + 1) (by omega) (by omega) (small_succ h2 h)
      · exact ⟨k, h0, by omega, h2, by omega⟩
  obtain ⟨k, h0, h1, h2, h3⟩ := step 30 0 (by omega) (by omega) (small_zero n)
  exact ⟨k, rt_small h0 h1 h2 h3, h0, h1, h2, h3⟩
theorem plE_bad {l a r m : Int} (h : okR l a r = false) : plE l a r m = 1 := by simp [plE, h]
theorem plE_lot {l a r m : Int} (h : okR l a r = true) (hm : m < 2 ∨ 200 < m) : plE l a r m = 3 := by simp [plE, h, hm]
theorem plE_stop {a r m : Int} (h : okR 4 a r = true) (hm : ¬ (m < 2 ∨ 200 < m)) : plE 4 a r m = 8 := by simp [plE, h, hm]
theorem plE_go {l a r m : Int} (h : okR l a r = true) (hm : ¬ (m < 2 ∨ 200 < m)) (h4 : l ≠ 4) : plE l a r m = 0 := by simp [plE, h, hm, h4]
theorem plN_err {l a r m : Int} (h : plE l a r m ≠ 0) : plN l a r m = 0 := by simp [plN, h]
theorem plC_err {l a r m : Int} (h : plE l a r m ≠ 0) : plC l a r m = 0 := by simp [plC, h]
theorem plN_go {l a r m : Int} (h : plE l a r m = 0) : plN l a r m = min (rt (if l = 1 then m else 4 * m)) m := by simp [plN, h]
theorem plC_go {l a r m : Int} (h : plE l a r m = 0) : plC l a r m = plN l a r m / (if l = 3 then 10 else 5) := by simp [plC, h]
end Go.Proofs.Ytnnedgdbbecmcaa
namespace Go.Proofs.Ytnnedgdbbecmcaa
/-- The run over lots and findings from a regime on. -/
def runG : Reg → List Int → List Int → List Bool → List Bool × Reg × Int
  | g, m :: ms, f :: fs, D =>
    if plE g.l g.a g.r m = 0 then
      if deE (plN g.l g.a g.r m) (plC g.l g.a g.r m) f = 0 then
        runG (sw g.l g.a g.r (deB (plN g.l g.a g.r m) (plC g.l g.a g.r m) f)) ms fs (D ++ [deB (plN g.l g.a g.r m) (plC g.l g.a g.r m) f])
      else ([], ⟨0, 0, 0⟩, deE (plN g.l g.a g.r m) (plC g.l g.a g.r m) f)
    else ([], ⟨0, 0, 0⟩, plE g.l g.a g.r m)
  | g, _, _, D => (D, g, 0)
def runP (L F : List Int) : List Bool × Reg × Int := if L.length = F.length then runG ⟨2, 0, 0⟩ L F [] else ([], ⟨0, 0, 0⟩, 1)
/-- What holds after k lots. -/
structure RunInv (L F : List Int) (k : Nat) (g : Reg) (D : List Bool) : Prop where
  eq : runG ⟨2, 0, 0⟩ L F [] = runG g (L.drop k) (F.drop k) D
  len : D.length = k
theorem runInv_zero (L F : List Int) : RunInv L F 0 ⟨2, 0, 0⟩ [] := ⟨rfl, rfl⟩
theorem drop_cons {L : List Int} {k : Nat} (h : k < L.length) : L.drop k = L[k] :: L.drop (k + 1) := List.drop_eq_getElem_cons h
theorem runInv_pl {L F : List Int} {k : Nat} {g : Reg} {D : List Bool} (h : RunInv L F k g D) (hL : k < L.length) (hF : k < F.length) (he : plE g.l g.a g.r L[k] ≠ 0) :
    runG ⟨2, 0, 0⟩ L F [] = ([], ⟨0, 0, 0⟩, plE g.l g.a g.r L[k]) := by
  rw [h.eq, drop_cons hL, drop_cons hF, runG, if_neg he]
theorem runInv_de {L F : List Int} {k : Nat} {g : Reg} {D : List Bool} (h : RunInv L F k g D) (hL : k < L.length) (hF : k < F.length) (h0 : plE g.l g.a g.r L[k] = 0)
    (he : deE (plN g.l g.a g.r L[k]) (plC g.l g.a g.r L[k]) F[k] ≠ 0) : runG ⟨2, 0, 0⟩ L F [] = ([], ⟨0, 0, 0⟩, deE (plN g.l g.a g.r L[k]) (plC g.l g.a g.r L[k]) F[k]) := by
  rw [h.eq, drop_cons hL, drop_cons hF, runG, if_pos h0, if_neg he]
theorem runInv_succ {L F : List Int} {k : Nat} {g : Reg} {D : List Bool} (h : RunInv L F k g D) (hL : k < L.length) (hF : k < F.length) (h0 : plE g.l g.a g.r L[k] = 0)
    (h1 : deE (plN g.l g.a g.r L[k]) (plC g.l g.a g.r L[k]) F[k] = 0) :
    RunInv L F (k + 1) (sw g.l g.a g.r (deB (plN g.l g.a g.r L[k]) (plC g.l g.a g.r L[k]) F[k])) (D ++ [deB (plN g.l g.a g.r L[k]) (plC g.l g.a g.r L[k]) F[k]]) :=
  ⟨by rw [h.eq, drop_cons hL, drop_cons hF, runG, if_pos h0, if_pos h1], by simp [h.len]⟩
theorem runInv_end {L F : List Int} {k : Nat} {g : Reg} {D : List Bool} (h : RunInv L F k g D) (hL : L.length ≤ k) : runG ⟨2, 0, 0⟩ L F [] = (D, g, 0) := by
  rw [h.eq, List.drop_of_length_le hL, runG]
  intro m ms f fs e; cases e
theorem sw_of_plan {l a r m : Int} (h : plE l a r m = 0) : okR l a r = true ∧ l ≠ 4 ∧ 2 ≤ m ∧ m ≤ 200 := by
  unfold plE at h
  cases hk : okR l a r
  · rw [hk] at h; simp at h
  · rw [hk] at h
    simp only [Bool.true_eq_false, if_false] at h
    split at h
    · omega
    · split at h
      · omega
      · exact ⟨rfl, by assumption, by omega, by omega⟩
end Go.Proofs.Ytnnedgdbbecmcaa
namespace Go.Proofs.Ytnnedgdbbecmcaa
theorem rt_mono {m n : Int} (h : m ≤ n) (hn : n ≤ 900) : rt m ≤ rt n := by
  obtain ⟨k, ek, k0, k1, ks, kn⟩ := rt_spec n hn
  obtain ⟨j, ej, j0, j1, js, jn⟩ := rt_spec m (by omega)
  rw [ek, ej]
  rcases Int.lt_or_le k j with h1 | h1
  · have := js k k0 h1; omega
  · exact h1
/-- What a plan for a lot is good for. -/
structure PlanOk (sz n N C part : Int) : Prop where
  n1 : 1 ≤ N
  n2 : N ≤ n
  c0 : 0 ≤ C
  c1 : C < N
  sq : N < n → sz ≤ N * N
  lo : (N - 1) * (N - 1) < sz
  cc : C = N / part
theorem plan_ok {sz n part : Int} (h1 : 2 ≤ n) (h2 : n ≤ 200) (hs : n ≤ sz) (hs2 : sz ≤ 4 * n) (hp : 5 ≤ part) : PlanOk sz n (min (rt sz) n) (min (rt sz) n / part) part := by
  obtain ⟨k, ek, k0, k1, ks, kn⟩ := rt_spec sz (by omega)
  rw [ek]
  have k2 : 1 ≤ k := by
    rcases Int.lt_or_le k 1 with h | h
    · have : k = 0 := by omega
      subst this; omega
    · exact h
  have hm : 1 ≤ min k n := by omega
  have d1 : 0 ≤ min k n / part := Int.ediv_nonneg (by omega) (by omega)
  have d2 : min k n / part < min k n := by
    apply Int.ediv_lt_of_lt_mul (by omega)
    have : min k n * 1 < min k n * part := Int.mul_lt_mul_of_pos_left (by omega) (by omega)
    omega
  refine ⟨hm, by omega, d1, d2, fun h => ?_, ?_, rfl⟩
  · rw [show min k n = k by omega]; exact kn
  · have h3 := ks (k - 1) (by omega) (by omega)
    rcases Int.lt_or_le n k with h4 | h4
    · rw [show min k n = n by omega]
      exact ks (n - 1) (by omega) (by omega)
    · rw [show min k n = k by omega]; exact h3
theorem plE_cases {l a r n : Int} (h1 : 2 ≤ n) (h2 : n ≤ 200) : (plE l a r n = 0 ∧ okR l a r = true ∧ l ≠ 4) ∨ ((plE l a r n = 1 ∨ plE l a r n = 8) ∧ plN l a r n = 0 ∧ plC l a r n = 0) := by
  cases hk : okR l a r
  · have e := plE_bad (m := n) hk
    exact Or.inr ⟨Or.inl e, plN_err (by rw [e]; decide), plC_err (by rw [e]; decide)⟩
  · by_cases h4 : l = 4
    · subst h4
      have e := plE_stop (m := n) hk (by omega)
      exact Or.inr ⟨Or.inr e, plN_err (by rw [e]; decide), plC_err (by rw [e]; decide)⟩
    · exact Or.inl ⟨plE_go hk (by omega) h4, rfl, h4⟩
theorem sq_200 {k : Int} (h0 : 0 ≤ k) (h1 : k ≤ 200) : 0 ≤ k * k ∧ k * k ≤ 40000 := by
  have h2 : k * k ≤ 200 * 200 := Int.mul_le_mul h1 h1 h0 (by omega)
  exact ⟨Int.mul_nonneg h0 h0, by omega⟩
end Go.Proofs.Ytnnedgdbbecmcaa
namespace Go.Proofs.Ytnnedgdbbecmcaa
theorem runG_len : ∀ (g : Reg) (L F : List Int) (D : List Bool), (runG g L F D).1.length ≤ D.length + L.length
  | g, [], F, D => by simp [runG]
  | g, m :: ms, [], D => by simp [runG]
  | g, m :: ms, f :: fs, D => by
    rw [runG]
    split
    · split
      · have := runG_len (sw g.l g.a g.r (deB (plN g.l g.a g.r m) (plC g.l g.a g.r m) f)) ms fs (D ++ [deB (plN g.l g.a g.r m) (plC g.l g.a g.r m) f])
        simp at this ⊢
        omega
      · simp
    · simp
theorem runP_len (L F : List Int) : (runP L F).1.length ≤ L.length := by
  unfold runP
  split
  · simpa using runG_len ⟨2, 0, 0⟩ L F []
  · simp
end Go.Proofs.Ytnnedgdbbecmcaa
namespace Go.Proofs.Ytnnedgdbbecmcaa
/-- What holds on the way: at the tightened level the rejected lots are counted. -/
structure WayInv (l a r rej : Int) : Prop where
  ok : okR l a r = true
  lo : 0 ≤ rej
  hi : rej ≤ 5
  at3 : l = 3 → rej = r
theorem wayInv_zero : WayInv 2 0 0 0 := ⟨by decide, by decide, by decide, fun h => by cases h⟩
/-- The count after a step. -/
def rejN (l rej : Int) (b : Bool) : Int := if l = 3 then (if b then rej else rej + 1) else 0
theorem sw_okR {l a r : Int} {b : Bool} (hk : okR l a r = true) (h4 : l ≠ 4) : okR (sw l a r b).l (sw l a r b).a (sw l a r b).r = true := by
  by_cases h1 : l = 1
  · subst h1
    rw [sw_red hk]
    cases b
    · simp only [Bool.false_eq_true, if_false]; decide
    · exact hk
  · rw [sw_mid hk h4 h1]
    unfold okR at hk
    simp at hk
    cases b
    · simp only [Bool.false_eq_true, if_false]
      unfold rejR
      (repeat' split) <;> (unfold okR; simp <;> omega)
    · simp only [if_true]
      unfold accR
      (repeat' split) <;> (unfold okR; simp <;> omega)
theorem way_step {l a r rej : Int} (b : Bool) (h : WayInv l a r rej) (h4 : l ≠ 4) :
    WayInv (sw l a r b).l (sw l a r b).a (sw l a r b).r (rejN l rej b) ∧ ((sw l a r b).l = 4 → rejN l rej b = 5) ∧ ((sw l a r b).l = 3 → rejN l rej b ≤ 4) := by
  have hk := h.ok
  have hs := sw_okR (b := b) hk h4
  have hb := ok_bd hk
  have h3 := h.at3
  have hlo := h.lo
  have hhi := h.hi
  have key : ((sw l a r b).l = 3 → rejN l rej b = (sw l a r b).r) ∧ ((sw l a r b).l = 4 → rejN l rej b = 5) ∧ 0 ≤ rejN l rej b ∧ rejN l rej b ≤ 5 := by
    by_cases h1 : l = 1
    · subst h1
      rw [sw_red hk]
      unfold rejN
      cases b <;> simp
    · rw [sw_mid hk h4 h1]
      have hk' := hk
      unfold okR at hk'
      simp at hk'
      unfold rejN
      cases b
      · simp only [Bool.false_eq_true, if_false]
        unfold rejR
        (repeat' split) <;> simp <;> omega
      · simp only [if_true]
        unfold accR
        (repeat' split) <;> simp <;> omega
  obtain ⟨k1, k2, k3, k4⟩ := key
  refine ⟨⟨hs, k3, k4, k1⟩, k2, fun e => ?_⟩
  have := k1 e
  have hq : (sw l a r b).r < 5 := by
    unfold okR at hs
    simp at hs
    omega
  omega
end Go.Proofs.Ytnnedgdbbecmcaa
namespace Go.Proofs.Ytnnedgdbbecmcaa
/-- The regime after k accepted lots from the beginning. -/
def calmR (k : Nat) : Reg := if 10 ≤ k then ⟨1, 0, 0⟩ else ⟨2, k, 0⟩
theorem calm_plan (k : Nat) {m : Int} (h1 : 2 ≤ m) (h2 : m ≤ 200) :
    plE (calmR k).l (calmR k).a (calmR k).r m = 0 ∧ deE (plN (calmR k).l (calmR k).a (calmR k).r m) (plC (calmR k).l (calmR k).a (calmR k).r m) 0 = 0 ∧
      deB (plN (calmR k).l (calmR k).a (calmR k).r m) (plC (calmR k).l (calmR k).a (calmR k).r m) 0 = true ∧ sw (calmR k).l (calmR k).a (calmR k).r true = calmR (k + 1) := by
  have hk : okR (calmR k).l (calmR k).a (calmR k).r = true := by
    unfold calmR
    split
    · decide
    · unfold okR; simp; omega
  have h4 : (calmR k).l ≠ 4 := by unfold calmR; split <;> simp
  have h3 : (calmR k).l ≠ 3 := by unfold calmR; split <;> simp
  have e0 := plE_go hk (show ¬ (m < 2 ∨ 200 < m) by omega) h4
  have PO : PlanOk (if (calmR k).l = 1 then m else 4 * m) m (plN (calmR k).l (calmR k).a (calmR k).r m) (plC (calmR k).l (calmR k).a (calmR k).r m) 5 := by
    rw [plC_go e0, plN_go e0, if_neg h3]
    exact plan_ok h1 h2 (by split <;> omega) (by split <;> omega) (by omega)
  have p1 := PO.n1
  have p2 := PO.n2
  have p3 := PO.c0
  have p4 := PO.c1
  have d0 : deE (plN (calmR k).l (calmR k).a (calmR k).r m) (plC (calmR k).l (calmR k).a (calmR k).r m) 0 = 0 := by
    unfold deE ckE
    rw [if_neg (by rw [if_neg (by omega)]; omega)]
  refine ⟨e0, d0, ?_, ?_⟩
  · unfold deB
    rw [if_pos d0]
    simpa using p3
  · by_cases c : 10 ≤ k
    · have e1 : calmR k = ⟨1, 0, 0⟩ := by simp [calmR, c]
      have e2 : calmR (k + 1) = ⟨1, 0, 0⟩ := by simp [calmR, show 10 ≤ k + 1 by omega]
      rw [e1, e2]
      rfl
    · have e1 : calmR k = ⟨2, k, 0⟩ := by simp [calmR, c]
      rw [e1] at hk ⊢
      simp only at hk ⊢
      rw [sw_mid hk (by decide) (by decide)]
      simp only [if_true]
      unfold accR
      rw [if_neg (by decide)]
      by_cases c9 : k = 9
      · subst c9; rfl
      · rw [if_neg (by omega)]
        unfold calmR
        rw [if_neg (show ¬ (10 ≤ k + 1) by omega)]
        simp
theorem calm_run : ∀ (L : List Int) (k : Nat) (D : List Bool), (∀ m ∈ L, 2 ≤ m ∧ m ≤ 200) → runG (calmR k) L (List.replicate L.length 0) D = (D ++ List.replicate L.length true, calmR (k + L.length), 0)
  | [], k, D, _ => by simp [runG]
  | m :: ms, k, D, h => by
    obtain ⟨h1, h2⟩ := h m (by simp)
    obtain ⟨e0, d0, b0, s0⟩ := calm_plan k h1 h2
    rw [List.length_cons, List.replicate_succ, runG, if_pos e0, if_pos d0, b0, s0, calm_run ms (k + 1) (D ++ [true]) (fun x hx => h x (by simp [hx]))]
    simp [List.replicate_succ, Nat.add_comm, Nat.add_left_comm]
theorem calm_all (L : List Int) (h : ∀ m ∈ L, 2 ≤ m ∧ m ≤ 200) : runP L (List.replicate L.length 0) = (List.replicate L.length true, calmR L.length, 0) := by
  unfold runP
  rw [if_pos (by simp)]
  have := calm_run L 0 [] h
  simpa [calmR] using this
/-- The first k lots are within the limits. -/
def AllIn (L : List Int) (k : Nat) : Prop := ∀ i (h : i < L.length), i < k → 2 ≤ L[i] ∧ L[i] ≤ 200
theorem allIn_succ {L : List Int} {k : Nat} (h : AllIn L k) (hk : k < L.length) (h2 : 2 ≤ L[k] ∧ L[k] ≤ 200) : AllIn L (k + 1) := fun i hi hik => by
  by_cases c : i = k
  · subst c; exact h2
  · exact h i hi (by omega)
theorem allIn_all {L : List Int} (h : AllIn L L.length) : ∀ m ∈ L, 2 ≤ m ∧ m ≤ 200 := fun m hm => by
  obtain ⟨i, hi, rfl⟩ := List.getElem_of_mem hm
  exact h i hi hi
end Go.Proofs.Ytnnedgdbbecmcaa
namespace Go.Proofs.Ytnnedgdbbecmcaa
theorem runG_err : ∀ (g : Reg) (L F : List Int) (D : List Bool), (runG g L F D).2.2 ≠ 0 → (runG g L F D).1 = [] ∧ (runG g L F D).2.1 = ⟨0, 0, 0⟩
  | g, [], F, D, h => by simp [runG] at h
  | g, m :: ms, [], D, h => by simp [runG] at h
  | g, m :: ms, f :: fs, D, h => by
    rw [runG] at h ⊢
    split
    · rename_i h1
      rw [if_pos h1] at h
      split
      · rename_i h2
        rw [if_pos h2] at h
        exact runG_err _ ms fs _ h
      · exact ⟨rfl, rfl⟩
    · exact ⟨rfl, rfl⟩
theorem runG_more : ∀ (g : Reg) (L F : List Int) (D : List Bool), (runG g L F D).2.2 = 0 → ∃ T, (runG g L F D).1 = D ++ T ∧ (L.length = F.length → T.length = L.length)
  | g, [], F, D, h => ⟨[], by simp [runG], by simp⟩
  | g, m :: ms, [], D, h => ⟨[], by simp [runG], by simp⟩
  | g, m :: ms, f :: fs, D, h => by
    rw [runG] at h ⊢
    by_cases h1 : plE g.l g.a g.r m = 0
    · rw [if_pos h1] at h ⊢
      by_cases h2 : deE (plN g.l g.a g.r m) (plC g.l g.a g.r m) f = 0
      · rw [if_pos h2] at h ⊢
        obtain ⟨T, e, hl⟩ := runG_more _ ms fs _ h
        exact ⟨deB (plN g.l g.a g.r m) (plC g.l g.a g.r m) f :: T, by rw [e]; simp, fun q => by simp at q ⊢; exact hl q⟩
      · rw [if_neg h2] at h
        exact absurd h h2
    · rw [if_neg h1] at h
      exact absurd h h1
/-- What a run without error tells at each lot. -/
theorem run_at {L F : List Int} {k : Nat} {g : Reg} {D : List Bool} (h : RunInv L F k g D) (hL : k < L.length) (hF : k < F.length) (h0 : (runG ⟨2, 0, 0⟩ L F []).2.2 = 0) :
    plE g.l g.a g.r L[k] = 0 ∧ deE (plN g.l g.a g.r L[k]) (plC g.l g.a g.r L[k]) F[k] = 0 ∧ (runG ⟨2, 0, 0⟩ L F []).1[k]? = some (deB (plN g.l g.a g.r L[k]) (plC g.l g.a g.r L[k]) F[k]) := by
  have e0 : plE g.l g.a g.r L[k] = 0 := by
    rcases Decidable.em (plE g.l g.a g.r L[k] = 0) with c | c
    · exact c
    · rw [runInv_pl h hL hF c] at h0; exact absurd h0 c
  have e1 : deE (plN g.l g.a g.r L[k]) (plC g.l g.a g.r L[k]) F[k] = 0 := by
    rcases Decidable.em (deE (plN g.l g.a g.r L[k]) (plC g.l g.a g.r L[k]) F[k] = 0) with c | c
    · exact c
    · rw [runInv_de h hL hF e0 c] at h0; exact absurd h0 c
  refine ⟨e0, e1, ?_⟩
  have hs := runInv_succ h hL hF e0 e1
  have h0' := h0
  rw [hs.eq] at h0'
  obtain ⟨T, e, _⟩ := runG_more _ _ _ _ h0'
  rw [hs.eq, e]
  have hl := h.len
  rw [List.append_assoc, List.getElem?_append_right (by omega), hl]
  simp
theorem de_spec {n c f : Int} (h : deE n c f = 0) : 0 ≤ f ∧ f ≤ n ∧ deB n c f = decide (f ≤ c) := by
  have hb : deB n c f = decide (f ≤ c) := by unfold deB; rw [if_pos h]
  unfold deE at h
  split at h
  · cases h
  · exact ⟨by omega, by omega, hb⟩
end Go.Proofs.Ytnnedgdbbecmcaa
