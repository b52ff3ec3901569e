/-
  The reference's way to the lots, step by step: each number takes the least number of a neighbour, round by round; then the first members are counted; no program in sight.
-/
import Derived.Test.YtjfckjmdcfiacaaComp
namespace Go.Proofs.Ytjfckjmdcfiacaa

theorem getD_set_eq {α : Type} (X : List α) (i : Nat) (v d : α) (h : i < X.length) : (X.set i v).getD i d = v := by
  simp [List.getD, h]
theorem getD_set_ne2 {α : Type} (X : List α) (i j : Nat) (v d : α) (h : i ≠ j) : (X.set i v).getD j d = X.getD j d := by
  simp [List.getD, h]

section
variable {N : Nat → Nat → Prop} {n : Nat}
/-- After t rounds, in the next one at member i and neighbour k. -/
structure Relax (N : Nat → Nat → Prop) (n t i k : Nat) (F : List Nat) : Prop where
  len : F.length = n
  conn : ∀ j, j < n → Conn N (F.getD j 0) j
  base : ∀ j, j < n → ∀ m, Reach N t m j → F.getD j 0 ≤ m
  done : ∀ j, j < i → j < n → ∀ m, Reach N (t + 1) m j → F.getD j 0 ≤ m
  now : ∀ k', k' < k → N k' i → ∀ m, Reach N t m k' → F.getD i 0 ≤ m

theorem relax_start (n : Nat) : Relax N n 0 0 0 (List.range n) where
  len := by simp
  conn := fun j hj => by
    have : (List.range n).getD j 0 = j := by simp [List.getD, hj]
    rw [this]; exact Conn.refl j
  base := fun j hj m h => by
    have : (List.range n).getD j 0 = j := by simp [List.getD, hj]
    rw [this]
    obtain rfl : m = j := h
    exact Nat.le_refl _
  done := fun j hj => by omega
  now := fun k' hk => by omega
theorem Relax.le_self {t i k : Nat} {F : List Nat} (h : Relax N n t i k F) {j : Nat} (hj : j < n) : F.getD j 0 ≤ j :=
  h.base j hj j (Reach.le (t := 0) rfl (by omega))
theorem Relax.no {t i k : Nat} {F : List Nat} (h : Relax N n t i k F) (hn : ¬ N k i) : Relax N n t i (k + 1) F where
  len := h.len
  conn := h.conn
  base := h.base
  done := h.done
  now := fun k' hk' hN => by
    by_cases c : k' = k
    · subst c; exact absurd hN hn
    · exact h.now k' (by omega) hN
theorem Relax.yes {t i k : Nat} {F : List Nat} (h : Relax N n t i k F) (hi : i < n) (hk : k < n) (hn : N k i) : Relax N n t i (k + 1) (F.set i (min (F.getD i 0) (F.getD k 0))) := by
  have hil : i < F.length := by rw [h.len]; exact hi
  have le : ∀ j, (F.set i (min (F.getD i 0) (F.getD k 0))).getD j 0 ≤ F.getD j 0 := fun j => by
    by_cases c : i = j
    · subst c; rw [getD_set_eq _ _ _ _ hil]; omega
    · rw [getD_set_ne2 _ _ _ _ _ c]; omega
  refine ⟨by simp [h.len], fun j hj => ?_, fun j hj m hm => Nat.le_trans (le j) (h.base j hj m hm), fun j hj1 hj m hm => Nat.le_trans (le j) (h.done j hj1 hj m hm), fun k' hk' hN m hm => ?_⟩
  · by_cases c : i = j
    · subst c
      rw [getD_set_eq _ _ _ _ hil]
      rcases Nat.le_total (F.getD i 0) (F.getD k 0) with c | c
      · rw [Nat.min_eq_left c]; exact h.conn i hj
      · rw [Nat.min_eq_right c]; exact (h.conn k hk).step hn
    · rw [getD_set_ne2 _ _ _ _ _ c]; exact h.conn j hj
  · by_cases c : k' = k
    · subst c
      rw [getD_set_eq _ _ _ _ hil]
      have := h.base k' hk m hm
      omega
    · exact Nat.le_trans (le i) (h.now k' (by omega) hN m hm)
theorem Relax.next (hN : ∀ i j, N i j → i < n) {t i : Nat} {F : List Nat} (h : Relax N n t i n F) : Relax N n t (i + 1) 0 F where
  len := h.len
  conn := h.conn
  base := h.base
  done := fun j hj hjn m hm => by
    by_cases c : j = i
    · subst c
      rcases hm with hm | ⟨k, hk, hs⟩
      · exact h.base j hjn m hm
      · exact h.now k (hN _ _ hs) hs m hk
    · exact h.done j (by omega) hjn m hm
  now := fun k' hk => by omega
theorem Relax.round {t : Nat} {F : List Nat} (h : Relax N n t n 0 F) : Relax N n (t + 1) 0 0 F where
  len := h.len
  conn := h.conn
  base := fun j hj m hm => h.done j hj hj m hm
  done := fun j hj => by omega
  now := fun k' hk => by omega
/-- After n rounds each holds the first member of its component. -/
theorem Relax.root (hN : ∀ i j, N i j → j < n) {F : List Nat} (h : Relax N n n 0 0 F) {j : Nat} (hj : j < n) : Root N (F.getD j 0) j := by
  refine ⟨h.conn j hj, fun m hm hc => ?_⟩
  have h1 := h.le_self hj
  have h2 := h.base j hj m ((conn_reach hN (by omega) hc).le (by omega))
  omega

/-! ### The numbers -/
/-- The first i members have their numbers. -/
structure Numd (N : Nat → Nat → Prop) (n i : Nat) (c : Nat) (X : List Int) : Prop where
  len : X.length = n
  cnt : c = cnt (First N) i
  val : ∀ j, j < i → ∀ r, Root N r j → X.getD j 0 = (num N r : Int)
theorem numd_start (n : Nat) : Numd N n 0 0 (List.replicate n 0) where
  len := by simp
  cnt := by rw [cnt_zero]
  val := fun j hj => by omega
theorem Numd.first {i c : Nat} {X : List Int} (h : Numd N n i c X) (hi : i < n) (hf : Root N i i) : Numd N n (i + 1) (c + 1) (X.set i (c : Int)) where
  len := by simp [h.len]
  cnt := by rw [cnt_succ_yes (show First N i from hf.2), h.cnt]
  val := fun j hj r hr => by
    by_cases e : i = j
    · subst e
      rw [getD_set_eq _ _ _ _ (by rw [h.len]; exact hi), h.cnt, hr.unique hf]
      rfl
    · rw [getD_set_ne2 _ _ _ _ _ e]
      exact h.val j (by omega) r hr
theorem Numd.later (hN : ∀ i j, N i j → N j i) {i c r : Nat} {X : List Int} (h : Numd N n i c X) (hi : i < n) (hr : Root N r i) (hne : r ≠ i) : Numd N n (i + 1) c (X.set i (X.getD r 0)) where
  len := by simp [h.len]
  cnt := by
    have hf : ¬ First N i := fun hf => hne (hr.unique (Root.self hf))
    rw [cnt_succ_no hf, h.cnt]
  val := fun j hj s hs => by
    by_cases e : i = j
    · subst e
      rw [getD_set_eq _ _ _ _ (by rw [h.len]; exact hi), hs.unique hr]
      have := hr.le
      exact h.val r (by omega) r (Root.self (hr.first hN))
    · rw [getD_set_ne2 _ _ _ _ _ e]
      exact h.val j (by omega) s hs
theorem getD_some {α : Type} {X : List α} {i : Nat} {d v : α} (hi : i < X.length) (h : X.getD i d = v) : X[i]? = some v := by
  rw [List.getElem?_eq_getElem hi]
  simpa [List.getD, hi] using h
theorem Numd.ok {c : Nat} {X : List Int} (h : Numd N n n c X) : LotsOk N n X :=
  ⟨h.len, fun i r hi hr => getD_some (by rw [h.len]; exact hi) (h.val i hi r hr)⟩

/-! ### The search from first members on -/
/-- What a search for the members of i has found. -/
structure Found (N : Nat → Nat → Prop) (n i : Nat) (X : List Int) (S : List Nat) : Prop where
  len : X.length = n
  lo : ∀ j, j < n → ∀ r, Root N r j → r < i → X.getD j 0 = (num N r : Int)
  hi : ∀ j, j < n → ∀ r, Root N r j → i < r → X.getD j 0 = -1
  mid : ∀ j, j < n → Root N i j → X.getD j 0 = (num N i : Int) ∨ X.getD j 0 = -1
  self : X.getD i 0 = (num N i : Int)
  stk : ∀ s, s ∈ S → s < n ∧ Root N i s
/-- Before member i. -/
structure Srch (N : Nat → Nat → Prop) (n i : Nat) (c : Nat) (X : List Int) : Prop where
  len : X.length = n
  cnt : c = cnt (First N) i
  val : ∀ j, j < n → ∀ r, Root N r j → X.getD j 0 = if r < i then (num N r : Int) else -1
/-- Between two pops: all but the members on the stack have handed their neighbours on. -/
structure Pops (N : Nat → Nat → Prop) (n i : Nat) (X : List Int) (S : List Nat) : Prop extends Found N n i X S where
  clo : ∀ j, j < n → Root N i j → X.getD j 0 = (num N i : Int) → j ∈ S ∨ ∀ k, k < n → N j k → X.getD k 0 = (num N i : Int)
/-- Behind the pop of f, at neighbour k. -/
structure Pushes (N : Nat → Nat → Prop) (n i f k : Nat) (X : List Int) (S : List Nat) : Prop extends Found N n i X S where
  from_ : f < n ∧ Root N i f
  seen : ∀ k', k' < k → N f k' → X.getD k' 0 = (num N i : Int)
  clo : ∀ j, j < n → Root N i j → X.getD j 0 = (num N i : Int) → j ∈ S ∨ j = f ∨ ∀ k, k < n → N j k → X.getD k 0 = (num N i : Int)

theorem srch_start (n : Nat) : Srch N n 0 0 (List.replicate n (-1)) where
  len := by simp
  cnt := by rw [cnt_zero]
  val := fun j hj r _ => by
    rw [if_neg (by omega)]
    simp [List.getD, hj]
/-- A member that has its number. -/
theorem Srch.skip (hN : ∀ i j, N i j → N j i) {i c : Nat} {X : List Int} (h : Srch N n i c X) (hi : i < n) (hx : X.getD i 0 ≠ -1) : Srch N n (i + 1) c X := by
  obtain ⟨r, hr⟩ := root_exists (N := N) i
  have hv := h.val i hi r hr
  have hlt : r < i := by
    rcases Nat.lt_or_ge r i with c | c
    · exact c
    · rw [if_neg (by omega)] at hv; exact absurd hv hx
  have hnf : ¬ First N i := fun hf => by
    have := hr.unique (Root.self hf)
    omega
  refine ⟨h.len, by rw [cnt_succ_no hnf, h.cnt], fun j hj s hs => ?_⟩
  rw [h.val j hj s hs]
  by_cases c : s < i
  · rw [if_pos c, if_pos (by omega)]
  · have hne : s ≠ i := fun e => by
      subst e
      exact hnf (hs.first hN)
    rw [if_neg c, if_neg (by omega)]
theorem Srch.first {i c : Nat} {X : List Int} (h : Srch N n i c X) (hi : i < n) (hx : X.getD i 0 = -1) : First N i := by
  obtain ⟨r, hr⟩ := root_exists (N := N) i
  have hv := h.val i hi r hr
  have hle := hr.le
  by_cases c : r < i
  · rw [if_pos c] at hv; omega
  · obtain rfl : r = i := by omega
    exact hr.2
/-- A new lot begins. -/
theorem Srch.begin {i c : Nat} {X : List Int} (h : Srch N n i c X) (hi : i < n) (hx : X.getD i 0 = -1) : Pops N n i (X.set i (c : Int)) [i] := by
  have hf := h.first hi hx
  have hil : i < X.length := by rw [h.len]; exact hi
  have hc : c = num N i := h.cnt
  refine ⟨⟨by simp [h.len], fun j hj r hr hlt => ?_, fun j hj r hr hlt => ?_, fun j hj hr => ?_, by rw [getD_set_eq _ _ _ _ hil, hc], fun s hs => ?_⟩, fun j hj hr hv => ?_⟩
  · have hne : i ≠ j := fun e => by
      subst e
      have := hr.unique (Root.self hf); omega
    rw [getD_set_ne2 _ _ _ _ _ hne, h.val j hj r hr, if_pos hlt]
  · have hne : i ≠ j := fun e => by
      subst e
      have := hr.unique (Root.self hf); omega
    rw [getD_set_ne2 _ _ _ _ _ hne, h.val j hj r hr, if_neg (by omega)]
  · by_cases e : i = j
    · subst e; rw [getD_set_eq _ _ _ _ hil, hc]; exact Or.inl rfl
    · rw [getD_set_ne2 _ _ _ _ _ e, h.val j hj i hr, if_neg (by omega)]; exact Or.inr rfl
  · obtain rfl : s = i := by simpa using hs
    exact ⟨hi, Root.self hf⟩
  · by_cases e : i = j
    · subst e; exact Or.inl (by simp)
    · rw [getD_set_ne2 _ _ _ _ _ e, h.val j hj i hr, if_neg (by omega)] at hv
      omega
/-- One is popped. -/
theorem Pops.pop {i f : Nat} {X : List Int} {S : List Nat} (h : Pops N n i X (S ++ [f])) : Pushes N n i f 0 X S where
  len := h.len
  lo := h.lo
  hi := h.hi
  mid := h.mid
  self := h.self
  stk := fun s hs => h.stk s (by simp [hs])
  from_ := h.stk f (by simp)
  seen := fun k' hk => by omega
  clo := fun j hj hr hv => by
    rcases h.clo j hj hr hv with c | c
    · simp only [List.mem_append, List.mem_singleton] at c
      rcases c with c | c
      · exact Or.inl c
      · exact Or.inr (Or.inl c)
    · exact Or.inr (Or.inr c)
theorem Pushes.no {i f k : Nat} {X : List Int} {S : List Nat} (hN : ∀ i j, N i j → N j i) (h : Pushes N n i f k X S) (hk : k < n) (hno : ¬ (X.getD k 0 = -1 ∧ N f k)) : Pushes N n i f (k + 1) X S where
  toFound := h.toFound
  from_ := h.from_
  seen := fun k' hk' hs => by
    by_cases e : k' = k
    · subst e
      rcases h.mid k' hk (h.from_.2.of_conn hN ((Conn.refl f).step hs)) with c | c
      · exact c
      · exact absurd ⟨c, hs⟩ hno
    · exact h.seen k' (by omega) hs
  clo := h.clo
theorem Pushes.yes {i f k : Nat} {X : List Int} {S : List Nat} (hN : ∀ i j, N i j → N j i) (h : Pushes N n i f k X S) (hk : k < n) (hx : X.getD k 0 = -1) (hs : N f k) (c : Int) (hc : c = (num N i : Int)) : Pushes N n i f (k + 1) (X.set k c) (S ++ [k]) := by
  have hr : Root N i k := h.from_.2.of_conn hN ((Conn.refl f).step hs)
  have hkl : k < X.length := by rw [h.len]; exact hk
  subst hc
  have keep : ∀ j, X.getD j 0 = (num N i : Int) → (X.set k (num N i : Int)).getD j 0 = (num N i : Int) := fun j hj => by
    by_cases e : k = j
    · subst e; exact getD_set_eq _ _ _ _ hkl
    · rw [getD_set_ne2 _ _ _ _ _ e]; exact hj
  refine ⟨⟨by simp [h.len], fun j hj r hr' hlt => ?_, fun j hj r hr' hlt => ?_, fun j hj hr' => ?_, keep i h.self, fun s hs' => ?_⟩, h.from_, fun k' hk' hs' => ?_, fun j hj hr' hv => ?_⟩
  · have hne : k ≠ j := fun e => by
      subst e
      have := hr'.unique hr; omega
    rw [getD_set_ne2 _ _ _ _ _ hne]; exact h.lo j hj r hr' hlt
  · have hne : k ≠ j := fun e => by
      subst e
      have := hr'.unique hr; omega
    rw [getD_set_ne2 _ _ _ _ _ hne]; exact h.hi j hj r hr' hlt
  · by_cases e : k = j
    · subst e; exact Or.inl (getD_set_eq _ _ _ _ hkl)
    · rw [getD_set_ne2 _ _ _ _ _ e]; exact h.mid j hj hr'
  · simp only [List.mem_append, List.mem_singleton] at hs'
    rcases hs' with h1 | rfl
    · exact h.stk s h1
    · exact ⟨hk, hr⟩
  · by_cases e : k' = k
    · subst e; exact getD_set_eq _ _ _ _ hkl
    · exact keep k' (h.seen k' (by omega) hs')
  · by_cases e : k = j
    · subst e; exact Or.inl (by simp)
    · rw [getD_set_ne2 _ _ _ _ _ e] at hv
      rcases h.clo j hj hr' hv with c | c | c
      · exact Or.inl (by simp [c])
      · exact Or.inr (Or.inl c)
      · exact Or.inr (Or.inr fun m hm hjm => keep m (c m hm hjm))
/-- The popped one has handed all its neighbours on. -/
theorem Pushes.all {i f : Nat} {X : List Int} {S : List Nat} (h : Pushes N n i f n X S) : Pops N n i X S where
  toFound := h.toFound
  clo := fun j hj hr hv => by
    rcases h.clo j hj hr hv with c | rfl | c
    · exact Or.inl c
    · exact Or.inr fun k hk hs => h.seen k hk hs
    · exact Or.inr c
/-- The stack is empty: the lot is whole. -/
theorem Pops.done (hN : ∀ i j, N i j → N j i) (hlt : ∀ i j, N i j → j < n) {i c : Nat} {X : List Int} (h : Pops N n i X []) (hi : i < n) (hf : First N i) (hc : c = cnt (First N) i) : Srch N n (i + 1) (c + 1) X where
  len := h.len
  cnt := by rw [cnt_succ_yes hf, hc]
  val := fun j hj r hr => by
    rcases Nat.lt_trichotomy r i with c | rfl | c
    · rw [if_pos (by omega)]; exact h.lo j hj r hr c
    · rw [if_pos (by omega)]
      refine (Conn.closed (P := fun j => j < n ∧ Root N r j ∧ X.getD j 0 = (num N r : Int)) hr.1 ⟨hi, Root.self hf, h.self⟩ ?_).2.2
      rintro k m ⟨hk, hrk, hv⟩ hs
      have hm := hlt _ _ hs
      refine ⟨hm, hrk.of_conn hN ((Conn.refl k).step hs), ?_⟩
      rcases h.clo k hk hrk hv with c | c
      · simp at c
      · exact c m hm hs
    · rw [if_neg (by omega)]; exact h.hi j hj r hr c
theorem Srch.ok {c : Nat} {X : List Int} (h : Srch N n n c X) : LotsOk N n X :=
  ⟨h.len, fun i r hi hr => getD_some (by rw [h.len]; exact hi) (by
    have := hr.le
    rw [h.val i hi r hr, if_pos (by omega)])⟩
/-- How many have no number yet. -/
def bare (X : List Int) : Nat := X.countP (fun x => x == -1)
theorem bare_le (X : List Int) : bare X ≤ X.length := List.countP_le_length
theorem bare_set {X : List Int} {k : Nat} {c : Int} (hk : k < X.length) (hx : X.getD k 0 = -1) (hc : c ≠ -1) : bare (X.set k c) + 1 = bare X := by
  have hx' : X[k] = -1 := by simpa [List.getD, hk] using hx
  have h1 : 0 < X.countP (fun x => x == -1) := List.countP_pos_iff.2 ⟨X[k], List.getElem_mem hk, by simp [hx']⟩
  unfold bare
  rw [List.countP_set hk]
  simp [hx', hc]
  omega
end
end Go.Proofs.Ytjfckjmdcfiacaa
