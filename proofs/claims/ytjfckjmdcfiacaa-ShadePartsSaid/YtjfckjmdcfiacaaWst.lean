/-
  The greatest distance within a lot: what it is, and how it is gathered pair by pair, and span by span; no program in sight.
-/
import Derived.Test.YtjfckjmdcfiacaaComp
namespace Go.Proofs.Ytjfckjmdcfiacaa

/-- m is the greatest distance of two of the first i tones, and of the first k with the tone i, that have one number. -/
structure IsWorst (L : List Tone) (X : List Int) (i k : Nat) (m : Int) : Prop where
  nn : 0 ≤ m
  ub : ∀ p q, p < q → (q < i ∨ (q = i ∧ p < k)) → X.getD p 0 = X.getD q 0 → dist (tn L p) (tn L q) ≤ m
  at_ : m = 0 ∨ ∃ p q, p < q ∧ (q < i ∨ (q = i ∧ p < k)) ∧ X.getD p 0 = X.getD q 0 ∧ dist (tn L p) (tn L q) = m
theorem isWorst_start (L : List Tone) (X : List Int) : IsWorst L X 0 0 0 := ⟨by omega, fun p q h1 h2 => by omega, Or.inl rfl⟩
theorem IsWorst.unique {L : List Tone} {X : List Int} {i k : Nat} {m m' : Int} (h : IsWorst L X i k m) (h' : IsWorst L X i k m') : m = m' := by
  have le : ∀ {m m' : Int}, IsWorst L X i k m → IsWorst L X i k m' → m ≤ m' := fun h h' => by
    rcases h.at_ with e | ⟨p, q, h1, h2, h3, h4⟩
    · have := h'.nn; omega
    · have := h'.ub p q h1 h2 h3; omega
  have h1 := le h h'
  have h2 := le h' h
  omega
theorem IsWorst.no {L : List Tone} {X : List Int} {i k : Nat} {m : Int} (h : IsWorst L X i k m) (hne : X.getD k 0 ≠ X.getD i 0) : IsWorst L X i (k + 1) m := by
  refine ⟨h.nn, fun p q h1 h2 h3 => ?_, ?_⟩
  · by_cases c : q = i ∧ p = k
    · rw [c.1, c.2] at h3; exact absurd h3 hne
    · exact h.ub p q h1 (by omega) h3
  · rcases h.at_ with e | ⟨p, q, h1, h2, h3, h4⟩
    · exact Or.inl e
    · exact Or.inr ⟨p, q, h1, by omega, h3, h4⟩
theorem IsWorst.yes {L : List Tone} {X : List Int} {i k : Nat} {m : Int} (h : IsWorst L X i k m) (hk : k < i) (he : X.getD k 0 = X.getD i 0) : IsWorst L X i (k + 1) (max m (dist (tn L i) (tn L k))) := by
  have hs := dist_symm (tn L i) (tn L k)
  have hd := (dist_bd (tn L i) (tn L k)).1
  refine ⟨by have := h.nn; omega, fun p q h1 h2 h3 => ?_, ?_⟩
  · by_cases c : q = i ∧ p = k
    · rw [c.1, c.2]; omega
    · have := h.ub p q h1 (by omega) h3; omega
  · rcases Int.le_total m (dist (tn L i) (tn L k)) with c | c
    · rw [Int.max_eq_right c]
      exact Or.inr ⟨k, i, hk, Or.inr ⟨rfl, by omega⟩, he, hs.symm⟩
    · rw [Int.max_eq_left c]
      rcases h.at_ with e | ⟨p, q, h1, h2, h3, h4⟩
      · exact Or.inl e
      · exact Or.inr ⟨p, q, h1, by omega, h3, h4⟩
theorem IsWorst.next {L : List Tone} {X : List Int} {i : Nat} {m : Int} (h : IsWorst L X i i m) : IsWorst L X (i + 1) 0 m := by
  refine ⟨h.nn, fun p q h1 h2 h3 => h.ub p q h1 (by omega) h3, ?_⟩
  rcases h.at_ with e | ⟨p, q, h1, h2, h3, h4⟩
  · exact Or.inl e
  · exact Or.inr ⟨p, q, h1, by omega, h3, h4⟩

/-! ### Spans -/
/-- The numbers g at the places S lie from lo to hi, and reach both. -/
def Ends (g : Nat → Int) (S : Nat → Prop) (lo hi : Int) : Prop := (∀ j, S j → lo ≤ g j ∧ g j ≤ hi) ∧ (∃ j, S j ∧ g j = lo) ∧ ∃ j, S j ∧ g j = hi
theorem ends_one (g : Nat → Int) (S : Nat → Prop) (i : Nat) (h : ∀ j, S j ↔ j = i) : Ends g S (g i) (g i) :=
  ⟨fun j hj => by rw [(h j).1 hj]; omega, ⟨i, (h i).2 rfl, rfl⟩, ⟨i, (h i).2 rfl, rfl⟩⟩
theorem Ends.add {g : Nat → Int} {S T : Nat → Prop} {lo hi : Int} (h : Ends g S lo hi) (i : Nat) (hT : ∀ j, T j ↔ S j ∨ j = i) : Ends g T (min lo (g i)) (max hi (g i)) := by
  obtain ⟨h1, ⟨p, hp, ep⟩, ⟨q, hq, eq⟩⟩ := h
  refine ⟨fun j hj => ?_, ?_, ?_⟩
  · rcases (hT j).1 hj with c | c
    · have := h1 j c; omega
    · rw [c]; omega
  · rcases Int.le_total lo (g i) with c | c
    · exact ⟨p, (hT p).2 (Or.inl hp), by omega⟩
    · exact ⟨i, (hT i).2 (Or.inr rfl), by omega⟩
  · rcases Int.le_total (g i) hi with c | c
    · exact ⟨q, (hT q).2 (Or.inl hq), by omega⟩
    · exact ⟨i, (hT i).2 (Or.inr rfl), by omega⟩
/-- A span of tones. -/
structure Span where
  lo : Tone
  hi : Tone
/-- The span of the tones at the places S. -/
structure SpanOk (L : List Tone) (S : Nat → Prop) (s : Span) : Prop where
  l : Ends (fun j => lm (tn L j).l) S s.lo.l s.hi.l
  a : Ends (fun j => lm (tn L j).a) S s.lo.a s.hi.a
  b : Ends (fun j => lm (tn L j).b) S s.lo.b s.hi.b
def Span.add (s : Span) (t : Tone) : Span := ⟨⟨min s.lo.l t.l, min s.lo.a t.a, min s.lo.b t.b⟩, ⟨max s.hi.l t.l, max s.hi.a t.a, max s.hi.b t.b⟩⟩
theorem spanOk_one (L : List Tone) (S : Nat → Prop) (i : Nat) (h : ∀ j, S j ↔ j = i) : SpanOk L S ⟨(tn L i).lim, (tn L i).lim⟩ :=
  ⟨ends_one (fun j => lm (tn L j).l) S i h, ends_one (fun j => lm (tn L j).a) S i h, ends_one (fun j => lm (tn L j).b) S i h⟩
theorem SpanOk.add {L : List Tone} {S T : Nat → Prop} {s : Span} (h : SpanOk L S s) (i : Nat) (hT : ∀ j, T j ↔ S j ∨ j = i) : SpanOk L T (s.add (tn L i).lim) :=
  ⟨h.l.add i hT, h.a.add i hT, h.b.add i hT⟩
theorem Ends.ap {g : Nat → Int} {S : Nat → Prop} {lo hi : Int} (h : Ends g S lo hi) (hg : ∀ j, lm (g j) = g j) : ap lo hi = hi - lo ∧ 0 ≤ hi - lo := by
  obtain ⟨h1, ⟨p, hp, ep⟩, ⟨q, hq, eq⟩⟩ := h
  have e1 := hg p
  have e2 := hg q
  have e3 := (h1 p hp).2
  rw [ep] at e1 e3
  rw [eq] at e2
  unfold Go.Proofs.Ytjfckjmdcfiacaa.ap
  rw [e1, e2]
  omega
/-- The distance of the ends of a span is the greatest distance of two of its tones. -/
theorem SpanOk.dist {L : List Tone} {S : Nat → Prop} {s : Span} (h : SpanOk L S s) :
    (∀ p q, S p → S q → dist (tn L p) (tn L q) ≤ dist s.lo s.hi) ∧ ∃ p q, S p ∧ S q ∧ dist (tn L p) (tn L q) = dist s.lo s.hi := by
  have hl := h.l.ap (fun j => lm_lm _)
  have ha := h.a.ap (fun j => lm_lm _)
  have hb := h.b.ap (fun j => lm_lm _)
  have ub : ∀ p q, S p → S q → Go.Proofs.Ytjfckjmdcfiacaa.dist (tn L p) (tn L q) ≤ Go.Proofs.Ytjfckjmdcfiacaa.dist s.lo s.hi := fun p q hp hq => by
    have l1 := h.l.1 p hp
    have l2 := h.l.1 q hq
    have a1 := h.a.1 p hp
    have a2 := h.a.1 q hq
    have b1 := h.b.1 p hp
    have b2 := h.b.1 q hq
    simp only at l1 l2 a1 a2 b1 b2
    unfold Go.Proofs.Ytjfckjmdcfiacaa.dist
    rw [hl.1, ha.1, hb.1]
    unfold Go.Proofs.Ytjfckjmdcfiacaa.ap
    omega
  have get : ∀ {g : Nat → Int} {lo hi : Int}, Ends g S lo hi → (∀ p q, g q - g p ≤ Go.Proofs.Ytjfckjmdcfiacaa.dist (tn L p) (tn L q)) → hi - lo = Go.Proofs.Ytjfckjmdcfiacaa.dist s.lo s.hi →
      ∃ p q, S p ∧ S q ∧ Go.Proofs.Ytjfckjmdcfiacaa.dist (tn L p) (tn L q) = Go.Proofs.Ytjfckjmdcfiacaa.dist s.lo s.hi := fun {g lo hi} he hg e => by
    obtain ⟨_, ⟨p, hp, ep⟩, ⟨q, hq, eq⟩⟩ := he
    refine ⟨p, q, hp, hq, ?_⟩
    have h1 := ub p q hp hq
    have h2 := hg p q
    omega
  refine ⟨ub, ?_⟩
  have e : Go.Proofs.Ytjfckjmdcfiacaa.dist s.lo s.hi = max (max (s.hi.l - s.lo.l) (s.hi.a - s.lo.a)) (s.hi.b - s.lo.b) := by
    unfold Go.Proofs.Ytjfckjmdcfiacaa.dist
    rw [hl.1, ha.1, hb.1]
  by_cases c1 : s.hi.l - s.lo.l = Go.Proofs.Ytjfckjmdcfiacaa.dist s.lo s.hi
  · exact get h.l (fun p q => by unfold Go.Proofs.Ytjfckjmdcfiacaa.dist Go.Proofs.Ytjfckjmdcfiacaa.ap; omega) c1
  · by_cases c2 : s.hi.a - s.lo.a = Go.Proofs.Ytjfckjmdcfiacaa.dist s.lo s.hi
    · exact get h.a (fun p q => by unfold Go.Proofs.Ytjfckjmdcfiacaa.dist Go.Proofs.Ytjfckjmdcfiacaa.ap; omega) c2
    · exact get h.b (fun p q => by unfold Go.Proofs.Ytjfckjmdcfiacaa.dist Go.Proofs.Ytjfckjmdcfiacaa.ap; omega) (by omega)

/-- What the map of spans holds behind the first i tones. -/
def Spans (L : List Tone) (X : List Int) (i : Nat) (f : Int → Option Span) : Prop :=
  ∀ v, (f v = none ∧ ∀ j, j < i → X.getD j 0 ≠ v) ∨ ∃ s, f v = some s ∧ SpanOk L (fun j => j < i ∧ X.getD j 0 = v) s
theorem spans_start (L : List Tone) (X : List Int) : Spans L X 0 (fun _ => none) := fun v => Or.inl ⟨rfl, fun j hj => by omega⟩
/-- The span of the tone i. -/
def spanAt (L : List Tone) (i : Nat) : Option Span → Span
  | none => ⟨(tn L i).lim, (tn L i).lim⟩
  | some s => s.add (tn L i).lim
theorem spanAt_ok {L : List Tone} {X : List Int} {i : Nat} {f : Int → Option Span} (h : Spans L X i f) : SpanOk L (fun j => j < i + 1 ∧ X.getD j 0 = X.getD i 0) (spanAt L i (f (X.getD i 0))) := by
  rcases h (X.getD i 0) with ⟨e, hn⟩ | ⟨s, e, hs⟩
  · rw [e]
    have h1 : ∀ j, (j < i + 1 ∧ X.getD j 0 = X.getD i 0) ↔ j = i := fun j => by
      constructor
      · rintro ⟨h1, h2⟩
        rcases Nat.lt_or_ge j i with c | c
        · exact absurd h2 (hn j c)
        · omega
      · rintro rfl; exact ⟨by omega, rfl⟩
    exact spanOk_one L _ i h1
  · rw [e]
    refine hs.add i (fun j => ?_)
    constructor
    · rintro ⟨h1, h2⟩
      by_cases c : j = i
      · exact Or.inr c
      · exact Or.inl ⟨by omega, h2⟩
    · rintro (⟨h1, h2⟩ | rfl)
      · exact ⟨by omega, h2⟩
      · exact ⟨by omega, rfl⟩
theorem Spans.next {L : List Tone} {X : List Int} {i : Nat} {f : Int → Option Span} (h : Spans L X i f) : Spans L X (i + 1) (fun v => if v = X.getD i 0 then some (spanAt L i (f (X.getD i 0))) else f v) := fun v => by
  by_cases c : v = X.getD i 0
  · subst c
    exact Or.inr ⟨_, by simp, spanAt_ok h⟩
  · simp only [if_neg c]
    rcases h v with ⟨e, hn⟩ | ⟨s, e, hs⟩
    · refine Or.inl ⟨e, fun j hj => ?_⟩
      by_cases d : j = i
      · rw [d]; exact fun e => c e.symm
      · exact hn j (by omega)
    · refine Or.inr ⟨s, e, ?_⟩
      have e2 : (fun j => j < i + 1 ∧ X.getD j 0 = v) = fun j => j < i ∧ X.getD j 0 = v := by
        funext j
        apply propext
        constructor
        · rintro ⟨h1, h2⟩
          refine ⟨?_, h2⟩
          by_cases d : j = i
          · rw [d] at h2; exact absurd h2.symm c
          · omega
        · rintro ⟨h1, h2⟩; exact ⟨by omega, h2⟩
      rw [e2]
      exact hs
theorem IsWorst.span {L : List Tone} {X : List Int} {i : Nat} {m : Int} {f : Int → Option Span} (h : IsWorst L X i 0 m) (hf : Spans L X i f) :
    IsWorst L X (i + 1) 0 (max m (dist (spanAt L i (f (X.getD i 0))).lo (spanAt L i (f (X.getD i 0))).hi)) := by
  obtain ⟨ub, p, q, ⟨hp, ep⟩, ⟨hq, eq⟩, ed⟩ := (spanAt_ok hf).dist
  generalize dist (spanAt L i (f (X.getD i 0))).lo (spanAt L i (f (X.getD i 0))).hi = d at *
  refine ⟨by have := h.nn; omega, fun p' q' h1 h2 h3 => ?_, ?_⟩
  · by_cases c : q' = i
    · subst c
      have := ub p' q' ⟨by omega, h3⟩ ⟨by omega, rfl⟩
      omega
    · have := h.ub p' q' h1 (by omega) h3
      omega
  · rcases Int.le_total m d with c | c
    · rw [Int.max_eq_right c]
      rcases Nat.lt_trichotomy p q with c | c | c
      · exact Or.inr ⟨p, q, c, by omega, by rw [ep, eq], ed⟩
      · rw [c, dist_self] at ed; exact Or.inl ed.symm
      · exact Or.inr ⟨q, p, c, by omega, by rw [ep, eq], by rw [dist_symm]; exact ed⟩
    · rw [Int.max_eq_left c]
      rcases h.at_ with e | ⟨p, q, h1, h2, h3, h4⟩
      · exact Or.inl e
      · exact Or.inr ⟨p, q, h1, by omega, h3, h4⟩

/-! ### Chains -/
theorem reach_dist {L : List Tone} {tol : Int} (ht : 0 ≤ tol) {t i j : Nat} (h : Reach (Nr L tol) t i j) : dist (tn L i) (tn L j) ≤ tol * t := by
  induction t generalizing j with
  | zero => obtain rfl : i = j := h
            rw [dist_self]; simp
  | succ t ih =>
    have e : tol * ((t + 1 : Nat) : Int) = tol * t + tol := by rw [Int.natCast_add, Int.mul_add]; simp
    rcases h with h | ⟨k, hk, hs⟩
    · have := ih h; omega
    · have h1 := ih hk
      have h2 := hs.2.2
      have h3 := dist_tri (tn L i) (tn L k) (tn L j)
      omega
theorem conn_dist {L : List Tone} {tol : Int} (ht : 0 ≤ tol) {i j : Nat} (hi : i < L.length) (h : Conn (Nr L tol) i j) : dist (tn L i) (tn L j) ≤ tol * ((L.length - 1 : Nat) : Int) :=
  reach_dist ht (conn_reach nr_lt hi h)
theorem conn_mono {L : List Tone} {tol more : Int} (hm : tol ≤ more) {i j : Nat} (h : Conn (Nr L tol) i j) : Conn (Nr L more) i j :=
  Conn.closed (P := fun k => Conn (Nr L more) i k) h (Conn.refl i) (fun k m hk hs => hk.step ⟨hs.1, hs.2.1, by have := hs.2.2; omega⟩)
theorem conn_all {L : List Tone} {tol : Int} (hm : 2000 ≤ tol) {i j : Nat} (hi : i < L.length) (hj : j < L.length) : Conn (Nr L tol) i j :=
  (Conn.refl i).step ⟨hi, hj, by have := (dist_bd (tn L i) (tn L j)).2; omega⟩
end Go.Proofs.Ytjfckjmdcfiacaa
