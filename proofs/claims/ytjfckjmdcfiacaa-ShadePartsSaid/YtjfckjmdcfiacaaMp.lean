/-
  A map of spans that a call makes: what it holds, a look-up and a store.
-/
import Derived.Test.YtjfckjmdcfiacaaCmp
import Derived.Maps.OwnSet
namespace Go.Proofs.Ytjfckjmdcfiacaa
open Go.RowKit Go.Maps

/-- A span as a value. -/
def spv (s : Span) : Value := .agg #[.int .i64 s.lo.l, .int .i64 s.lo.a, .int .i64 s.lo.b, .int .i64 s.hi.l, .int .i64 s.hi.a, .int .i64 s.hi.b]
/-- A span as a datum. -/
def spd (s : Span) : DataW Unit := .agg [.lit (.int .i64 s.lo.l), .lit (.int .i64 s.lo.a), .lit (.int .i64 s.lo.b), .lit (.int .i64 s.hi.l), .lit (.int .i64 s.hi.a), .lit (.int .i64 s.hi.b)]
theorem spv_inj {s t : Span} (h : spv s = spv t) : s = t := by
  obtain ⟨⟨a, b, c⟩, ⟨d, e, f⟩⟩ := s
  obtain ⟨⟨a', b', c'⟩, ⟨d', e', f'⟩⟩ := t
  simp [spv] at h
  simp [h]
theorem spd_inj {s t : Span} (h : spd s = spd t) : s = t := by
  obtain ⟨⟨a, b, c⟩, ⟨d, e, f⟩⟩ := s
  obtain ⟨⟨a', b', c'⟩, ⟨d', e', f'⟩⟩ := t
  simp [spd] at h
  simp [h]
open Classical in
/-- How an element reads. -/
noncomputable def spanElem (v : Value) : Option (DataW Unit × List MemPlace) := if h : ∃ s, v = spv s then some (spd h.choose, []) else none
theorem spanElem_mk (s : Span) : spanElem (spv s) = some (spd s, []) := by
  have h : ∃ t, spv s = spv t := ⟨s, rfl⟩
  unfold spanElem
  rw [dif_pos h, ← spv_inj h.choose_spec]
theorem spanElem_inv {v : Value} {z : DataW Unit × List MemPlace} (h : spanElem v = some z) : ∃ s, v = spv s ∧ z = (spd s, []) := by
  unfold spanElem at h
  split at h
  · rename_i hc
    injection h with h
    exact ⟨_, hc.choose_spec, h.symm⟩
  · cases h
theorem key3 : Keyed Try.prog 3 := int_keyed Try.underlying3
theorem zero43 (w : World) : (zeroValue 43).run Try.prog w = .ok (spv ⟨⟨0, 0, 0⟩, ⟨0, 0, 0⟩⟩) w := by kernel_rfl
theorem und40 : Try.prog.underlying 40 = some (.map 3 43) := by kernel_rfl

/-- Block b is a map of at most n spans that holds f. -/
def MapAt (w : World) (b n : Nat) (f : Int → Option Span) : Prop :=
  ∃ D : DataW Unit, w.ownsMap Try.prog 3 spanElem b n D ∧ ∀ k, (f k = none ∧ Maps.has D (.int .i64 k) = false) ∨ ∃ s, f k = some s ∧ Maps.has D (.int .i64 k) = true ∧ ∀ z, D.atKey (.int .i64 k) z = spd s
theorem MapAt.lt {w : World} {b n : Nat} {f : Int → Option Span} (h : MapAt w b n f) : b < w.heap.size := by
  obtain ⟨D, h, _⟩ := h
  exact h.lt
theorem MapAt.kept {w w' : World} {b n : Nat} {f : Int → Option Span} {row : Option Nat} (h : MapAt w b n f) (hg : w.grownBy w' row) (hne : some b ≠ row) : MapAt w' b n f := by
  obtain ⟨D, h, r⟩ := h
  exact ⟨D, h.kept hg hne, r⟩
theorem MapAt.alloc {w : World} {b n : Nat} {f : Int → Option Span} (h : MapAt w b n f) (o : Obj) : MapAt (w.alloc o) b n f := h.kept (World.grownBy_alloc w o none) (by simp)
theorem MapAt.ext {w : World} {b n : Nat} {f : Int → Option Span} (h : MapAt w b n f) (x : World) : MapAt (ext w x) b n f := h.kept (grown_ext w x none) (by simp)
theorem MapAt.drew {w : World} {b n : Nat} {f : Int → Option Span} (h : MapAt w b n f) : MapAt w.drew b n f := h
theorem MapAt.drewN {w : World} {b n : Nat} {f : Int → Option Span} (h : MapAt w b n f) (d : Nat) : MapAt (w.drewN d) b n f := h
theorem MapAt.setCell {w : World} {b n : Nat} {f : Int → Option Span} (h : MapAt w b n f) {g o : Nat} (hg : b ≠ g) (v : Value) : MapAt (w.setCell ⟨g, o, none⟩ v) b n f := by
  obtain ⟨D, h, r⟩ := h
  exact ⟨D, h.setCell hg v, r⟩
theorem mapAt_made (w : World) (b : Nat) (hb : b = w.heap.size) : MapAt (w.alloc (.map #[] 0)) b 0 (fun _ => none) := by
  subst hb
  exact ⟨.map [], World.ownsMap_made w Try.prog 3 spanElem, fun k => Or.inl ⟨rfl, rfl⟩⟩
theorem MapAt.look {w : World} {b n : Nat} {f : Int → Option Span} (h : MapAt w b n f) {k : Int} (hk : (Lit.int .i64 k).wf = true) :
    (Instr.lookup 40 (.map (some b)) (.int .i64 k) true).run Try.prog w = .ok (.tuple #[spv ((f k).getD ⟨⟨0, 0, 0⟩, ⟨0, 0, 0⟩⟩), .bool (f k).isSome]) w := by
  obtain ⟨D, h, r⟩ := h
  obtain ⟨v, ps, hrun, hv⟩ := h.look_ok key3 und40 (zero43 w) (spanElem_mk _) (keyOf_int_mk Try.underlying3 hk)
  obtain ⟨s, rfl, hs⟩ := spanElem_inv hv
  injection hs with hs _
  rw [hrun]
  rcases r k with ⟨e, hh⟩ | ⟨s2, e, hh, ha⟩
  · rw [atKey_of_not_has hh] at hs
    rw [e, hh, spd_inj hs]
    rfl
  · rw [ha] at hs
    rw [e, hh, spd_inj hs]
    rfl
theorem MapAt.put {w : World} {b n : Nat} {f : Int → Option Span} (h : MapAt w b n f) (hn : n < maxLen) {k : Int} (hk : (Lit.int .i64 k).wf = true) (s : Span) :
    ∃ w', (Instr.mapUpdate 40 (.map (some b)) (.int .i64 k) (spv s)).run Try.prog w = .ok () w' ∧ MapAt w' b (n + 1) (fun k' => if k' = k then some s else f k') ∧ w.grownBy w' (some b) := by
  obtain ⟨D, h, r⟩ := h
  have hm := h.isMap
  obtain ⟨w', hrun, h', hg⟩ := h.update key3 und40 hn (keyOf_int_mk Try.underlying3 hk) (spanElem_mk s)
  refine ⟨w', hrun, ⟨_, h', fun k' => ?_⟩, hg⟩
  by_cases c : k' = k
  · subst c
    exact Or.inr ⟨s, by simp, has_put_same hm (by simp [WideAt.IsKeyLit]) _, fun z => atKey_put_same hm (by simp [WideAt.IsKeyLit]) _ z⟩
  · have hne : (Lit.int IntKind.i64 k') ≠ Lit.int .i64 k := fun e => by injection e with _ e; exact c e
    simp only [if_neg c]
    rcases r k' with ⟨e, hh⟩ | ⟨s2, e, hh, ha⟩
    · exact Or.inl ⟨e, by rw [has_put_other hne]; exact hh⟩
    · exact Or.inr ⟨s2, e, by rw [has_put_other hne]; exact hh, fun z => by rw [atKey_put_other hne]; exact ha z⟩
theorem wpList_look_span {w : World} {ops : Array Oper} {rest : List Oper} {o : Oper} {a : Act} {Q : Exit → Act → World → Prop}
    (hg : o.guard = none) (m x : Operand) (hop : o.op = Op.lookup 40 m x true) (b n : Nat) (f : Int → Option Span)
    (hm : a.eval m = .map (some b)) (k : Int) (hx : a.eval x = .int .i64 k) (h : MapAt w b n f) (hk : (Lit.int .i64 k).wf = true) (s : Span) (y : Bool) (hs : (f k).getD ⟨⟨0, 0, 0⟩, ⟨0, 0, 0⟩⟩ = s) (hy : (f k).isSome = y)
    (hK : wpList Try.prog ops Q rest (a.put o.dst (.tuple #[.agg #[.int .i64 s.lo.l, .int .i64 s.lo.a, .int .i64 s.lo.b, .int .i64 s.hi.l, .int .i64 s.hi.a, .int .i64 s.hi.b], .bool y])) w) :
    wpList Try.prog ops Q (o :: rest) a w := by
  refine wpList_plain hg fun K' hK' => ?_
  have hrun := h.look hk
  rw [hs, hy] at hrun
  unfold Oper.wp
  simp [execOp, hop, hm, hx, hrun, Result.andThen]
  exact hK' _ _ hK
theorem wpList_put_span {w : World} {ops : Array Oper} {rest : List Oper} {o : Oper} {a : Act} {Q : Exit → Act → World → Prop}
    (hg : o.guard = none) (m x v : Operand) (hop : o.op = Op.mapUpdate 40 m x v) (b n : Nat) (f : Int → Option Span)
    (hm : a.eval m = .map (some b)) (k : Int) (hx : a.eval x = .int .i64 k) (s : Span) (hv : a.eval v = .agg #[.int .i64 s.lo.l, .int .i64 s.lo.a, .int .i64 s.lo.b, .int .i64 s.hi.l, .int .i64 s.hi.a, .int .i64 s.hi.b])
    (h : MapAt w b n f) (hn : n < maxLen) (hk : (Lit.int .i64 k).wf = true)
    (hK : ∀ w', MapAt w' b (n + 1) (fun k' => if k' = k then some s else f k') → w.grownBy w' (some b) → wpList Try.prog ops Q rest (a.put o.dst undef) w') :
    wpList Try.prog ops Q (o :: rest) a w := by
  refine wpList_plain hg fun K' hK' => ?_
  obtain ⟨w', hrun, r1, r2⟩ := h.put hn hk s
  have hv' : a.eval v = spv s := hv
  unfold Oper.wp
  simp [execOp, hop, hm, hx, hv', hrun, Result.andThen]
  exact hK' _ _ (hK w' r1 r2)
end Go.Proofs.Ytjfckjmdcfiacaa
