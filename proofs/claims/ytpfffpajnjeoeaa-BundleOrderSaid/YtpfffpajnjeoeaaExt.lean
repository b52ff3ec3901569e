/-
  What a call may leave behind: the worlds that extend a world by new blocks and draws; a region whose operations and callees only read old memory is walked once for every order.
-/
import Derived.Test.YtpfffpajnjeoeaaRows
import Derived.WalkKit
import Derived.WalkSpells
import Derived.WalkLawsBesides
import Derived.BigQuiet
import Derived.Deep.QuietTactic
import Derived.StillTailTactics
import Derived.ProofKit
import Derived.OpenShut
import Derived.Lib.Hide
namespace Go.Proofs.Ytpfffpajnjeoeaa
open Go.RowKit

/-- The world w with new blocks and draws. -/
def ext (w x : World) : World := { w with heap := w.heap ++ x.heap, drawn := x.drawn }

theorem ext_size (w x : World) : (ext w x).heap.size = w.heap.size + x.heap.size := by simp [ext]
theorem ext_block (w x : World) (k : Nat) (h : k < w.heap.size) : (ext w x).heap[k]? = w.heap[k]? := by
  show (w.heap ++ x.heap)[k]? = _
  rw [Array.getElem?_append_left h]
theorem ext_cell (w x : World) (a : Addr) (h : a.block < w.heap.size) : (ext w x).cell? a = w.cell? a :=
  World.cell?_of_block (ext_block w x _ h)
theorem ext_cell_mk (w x : World) (b o : Nat) (h : b < w.heap.size) : (ext w x).cell? ⟨b, o, none⟩ = w.cell? ⟨b, o, none⟩ :=
  ext_cell w x _ h
theorem ext_cell_some (w x : World) (a : Addr) (h : (w.cell? a).isSome = true) : (ext w x).cell? a = w.cell? a := by
  obtain ⟨u, hu⟩ := Option.isSome_iff_exists.1 h
  exact ext_cell w x a (World.block_lt_of_cell? w a hu)
theorem ext_frozen_mk (w x : World) (b o : Nat) (h : b < w.heap.size) : (ext w x).frozen? ⟨b, o, none⟩ = w.frozen? ⟨b, o, none⟩ :=
  World.frozen?_of_block (ext_block w x _ h)
theorem ext_ext (w x y : World) : ext (ext w x) y = ext w (ext x y) := by simp [ext, Array.append_assoc]
theorem ext_drew (w x : World) : (ext w x).drew = ext w x.drew := rfl
theorem ext_drewN (w x : World) (n : Nat) : (ext w x).drewN n = ext w (x.drewN n) := rfl
theorem ext_setCell (w x : World) (b o : Nat) (v : Value) (h : b < w.heap.size) : (ext w x).setCell ⟨b, o, none⟩ v = ext (w.setCell ⟨b, o, none⟩ v) x := by
  simp only [ext, World.setCell, World.mk.injEq, and_true]
  apply Array.ext_getElem?
  intro i
  by_cases hi : i < w.heap.size
  · have e : ∀ f, (w.heap.modify b f ++ x.heap)[i]? = (w.heap.modify b f)[i]? := fun f => Array.getElem?_append_left (by simpa using hi)
    rw [e, Array.getElem?_modify, Array.getElem?_modify, Array.getElem?_append_left hi]
  · have : ¬ b = i := by omega
    simp [Array.getElem?_modify, Array.getElem?_append, hi, this]
theorem drewN_setCell (w : World) (n : Nat) (a : Addr) (v : Value) : (w.drewN n).setCell a v = (w.setCell a v).drewN n := rfl
theorem drewN_alloc (w : World) (n : Nat) (o : Obj) : (w.drewN n).alloc o = (w.alloc o).drewN n := rfl
theorem ext_of_drew (w x : World) : ext w.drew x = ext w x := rfl
theorem ext_of_drewN (w x : World) (n : Nat) : ext (w.drewN n) x = ext w x := rfl
theorem drew_heap (w : World) : w.drew.heap = w.heap := rfl
theorem ext_below (w x : World) : Below w.heap.size w (ext w x) :=
  ⟨rfl, rfl, rfl, by rw [ext_size]; omega, fun k hk => ext_block w x k hk⟩
theorem below_ext {w w' : World} (h : Below w.heap.size w w') : ∃ x, w' = ext w x := by
  refine ⟨{ w' with heap := w'.heap.extract w.heap.size w'.heap.size }, ?_⟩
  have e : w'.heap = w.heap ++ w'.heap.extract w.heap.size w'.heap.size := by
    apply Array.ext_getElem?
    intro i
    by_cases hi : i < w.heap.size
    · rw [Array.getElem?_append_left hi]; exact h.block i hi
    · rw [Array.getElem?_append_right (by omega), Array.getElem?_extract]
      have := h.size
      by_cases h2 : i < w'.heap.size
      · rw [if_pos (by omega)]; congr 1; omega
      · rw [if_neg (by omega)]; simp; omega
  cases w'
  have h1 := h.os; have h2 := h.tape; have h3 := h.output
  simp only at h1 h2 h3 e
  subst h1 h2 h3
  simp only [ext, World.mk.injEq, and_true]
  exact e
theorem ext_nil (w : World) : ∃ x, w = ext w x := below_ext (Below.refl _ _)
/-- What holds of a contract stated over 'ext' in a world that is an 'ext' itself. -/
theorem ext_in {w x w'' : World} (h : ∃ y, w'' = ext (ext w x) y) : ∃ y, w'' = ext w y := by
  obtain ⟨y, rfl⟩ := h
  exact ⟨_, ext_ext w x y⟩
theorem Below.ofExt {B : Nat} {a w x : World} (h : Below B a w) (hB : B ≤ w.heap.size) : Below B a (ext w x) :=
  h.trans ((ext_below w x).mono hB)

theorem Below.onDrewN {B : Nat} {a w : World} (h : Below B a w) (n : Nat) : Below B a (w.drewN n) := ⟨h.os, h.tape, h.output, h.size, h.block⟩

/-- A contract met inside a region, in a world of the class. -/
theorem Calls.ext_of {P : Program} {f : FuncId} {args : Array Value} {w x : World} {v : Value}
    (h : Calls P f args (ext w x) fun e w' => e = .returned v ∧ ∃ y, w' = ext (ext w x) y) : Calls P f args (ext w x) fun e w'' => e = .returned v ∧ ∃ y, w'' = ext w y :=
  h.mono fun _ _ ⟨he, hw⟩ => ⟨he, ext_in hw⟩
/-- The same, the value rewritten. -/
theorem Calls.ext_to {P : Program} {f : FuncId} {args : Array Value} {w x : World} {v v' : Value}
    (h : Calls P f args (ext w x) fun e w' => e = .returned v ∧ ∃ y, w' = ext (ext w x) y) (hv : v = v') : Calls P f args (ext w x) fun e w'' => e = .returned v' ∧ ∃ y, w'' = ext w y :=
  hv ▸ Calls.ext_of h
theorem Calls.ext_same {P : Program} {f : FuncId} {args : Array Value} {w x : World} {v : Value}
    (h : Calls P f args (ext w x) fun e w' => e = .returned v ∧ w' = ext w x) : Calls P f args (ext w x) fun e w'' => e = .returned v ∧ ∃ y, w'' = ext w y :=
  h.mono fun _ _ ⟨he, hw⟩ => ⟨he, x, hw⟩

/-- A region whose operations only read what was there, and whose callees make at most new memory. -/
theorem wp_region_ext {P : Program} {id : Nat} {Q : Exit → Act → World → Prop} {a : Act} {w : World} {l : List Oper} (hm : P.follows .mixedOrders = true) (hB : Region.lexB .any l.toArray = true)
    (h : wpQuiet P l.toArray (fun w' => ∃ x, w' = ext w x) (fun a' => ∀ w', (∃ x, w' = ext w x) → Q .normal a' w') l a) : (Code.region id l.toArray true).wp P Q a w :=
  wp_region_quiet (C := fun w' => ∃ x, w' = ext w x) hm hB (below_ext (w' := w.drew) (Below.refl _ _).drew) (by simpa using h)

section
variable {P : Program} {ops : Array Oper} {md : Region.Mode} {C : World → Prop}
/-- The first f operations, all of number below n, in whatever order, each quiet in the class C; then L. -/
def wpHead (P : Program) (md : Region.Mode) (ops : Array Oper) (C : World → Prop) (n : Nat) (L : Array Bool → Act → Prop) : Nat → Array Bool → Act → Prop
  | 0, listed, a => L listed a
  | f + 1, listed, a =>
    Region.ready md ops listed ≠ [] ∧ ∀ i ∈ Region.ready md ops listed, i < n ∧ qOp P ops C i (wpHead P md ops C n L f (listed.setIfInBounds i true)) a

theorem wpAny_of_wpHead {n g : Nat} {L : Array Bool → Act → Prop} {Q' : Exit → Act → World → Prop} (hL : ∀ listed a w, C w → L listed a → wpAny P md ops Q' g listed a w) :
    ∀ (f : Nat) (listed : Array Bool) (a : Act) (w : World), C w → wpHead P md ops C n L f listed a → wpAny P md ops Q' (f + g) listed a w
  | 0, listed, a, w, hw, h => by rw [Nat.zero_add]; exact hL _ _ _ hw h
  | f + 1, listed, a, w, hw, h => by
    rw [show f + 1 + g = (f + g) + 1 by omega]
    exact ⟨fun h0 => absurd h0 h.1, fun i hi => wpOp_of_qOp hw (fun a' w' hw' h' => wpAny_of_wpHead hL f _ a' w' hw' h') (h.2 i hi).2⟩

theorem wpHead_first {n i : Nat} {oi : Oper} {v : Value} {L : Array Bool → Act → Prop} (hi : ops[i]? = some oi) (hsel : ∀ (j : Nat) (o : Oper) cs b, ops[j]? = some o → o.op ≠ .select cs b)
    (hs : Region.sinkB md ops n = true) (hc : Region.chainB md ops n = true) (hn : n < ops.size) (hin : i < n)
    (hdone : ∀ listed a, L listed a → ∀ j ∈ Region.ready md ops listed, n ≤ j) :
    ∀ (f : Nat) (listed : Array Bool) (a : Act), HeadInv md ops n listed →
      (∀ j oj, ops[j]? = some oj → j ≠ i → listed.getD j true = false → (∀ e ∈ oj.after, Region.binds md e = true → e.on ≠ i) → oi.apart ops oj = true) →
      i ∈ Region.ready md ops listed → YieldsIn P ops C oi v a →
      wpHead P md ops C n L f (listed.setIfInBounds i true) (a.put oi.dst v) → wpHead P md ops C n L (f + 1) listed a := by
  intro f
  have below : ∀ (listed : Array Bool), HeadInv md ops n listed → i ∈ Region.ready md ops listed → ∀ j ∈ Region.ready md ops listed, j < n := fun listed inv hr j hj => by
    rcases Nat.lt_or_ge j n with h | h
    · exact h
    · exact absurd hj (tail_waits hs hc hn inv _ i rfl hin (mem_ready.1 hr).1 j h)
  induction f with
  | zero =>
    intro listed a inv _ hr hy H
    refine ⟨fun h => (by rw [h] at hr; cases hr), fun j hj => ⟨below listed inv hr j hj, ?_⟩⟩
    by_cases hji : j = i
    · subst hji; exact hy.qOp hi H
    · have h1 := hdone _ _ H j (ready_mono hj hji)
      have h2 := below listed inv hr j hj
      omega
  | succ f ih =>
    intro listed a inv hfree hr hy H
    have hun := (mem_ready.1 hr).1
    refine ⟨fun h => (by rw [h] at hr; cases hr), fun j hj => ⟨below listed inv hr j hj, ?_⟩⟩
    by_cases hji : j = i
    · subst hji; exact hy.qOp hi H
    · have h1 := (H.2 j (ready_mono hj hji)).2
      obtain ⟨hjun, oj, hoj, hall⟩ := mem_ready.1 hj
      have hnot : ∀ e ∈ oj.after, Region.binds md e = true → e.on ≠ i := fun e he hb heq => by
        have h2 := hall e he hb
        rw [heq, getD_both hun] at h2
        cases h2
      have h2 := qOp_put hoj (hfree j oj hoj hji hjun hnot) (fun cs b => hsel i oi cs b hi) (fun cs b => hsel j oj cs b hoj) hy h1
      have hfree' : ∀ k ok, ops[k]? = some ok → k ≠ i → (listed.setIfInBounds j true).getD k true = false →
          (∀ e ∈ ok.after, Region.binds md e = true → e.on ≠ i) → oi.apart ops ok = true := fun k ok hk hki hu hno => by
        refine hfree k ok hk hki ?_ hno
        by_cases hjk : j = k
        · subst hjk; exact hjun
        · rw [getD_set_ne true hjk] at hu; exact hu
      refine qOp_mono (fun a' h3 => ih (listed.setIfInBounds j true) a' (inv.set hj (below listed inv hr j hj)) hfree' (ready_mono hr (Ne.symm hji)) h3.1 ?_) h2
      rw [Array.setIfInBounds_comm _ _ hji]
      exact h3.2

theorem wpHead_lex {n g : Nat} {Lq : Act → Prop} (hsel : Region.noSelect ops = true) (hs : Region.sinkB md ops n = true) (hc : Region.chainB md ops n = true) (hn : n < ops.size) :
    ∀ (l : List Oper) (k : Nat) (listed : Array Bool) (a : Act), (∀ j, j < l.length → l[j]? = ops[k + j]?) → k + l.length = n → HeadInv md ops n listed →
    Region.lexHead md ops g l.length k listed = true → wpQuiet P ops C Lq l a →
    wpHead P md ops C n (fun listed' a' => Region.seqB md ops g n listed' = true ∧ Lq a') l.length listed a
  | [], k, listed, a, _, hk, _, hB, h => by
    have : k = n := by simpa using hk
    subst this
    exact ⟨by simpa [Region.lexHead] using hB, h⟩
  | o :: l, k, listed, a, hl, hk, inv, hB, h => by
    have h0 : ops[k]? = some o := by simpa using (hl 0 (by simp)).symm
    simp only [List.length_cons, Region.lexHead, Bool.and_eq_true] at hB
    obtain ⟨⟨hr, hf⟩, hB'⟩ := hB
    have hkn : k < n := by simp only [List.length_cons] at hk; omega
    have hr' : k ∈ Region.ready md ops listed := by simpa using hr
    have hst : qOp P ops C k (wpQuiet P ops C Lq l) a := by unfold qOp; simp only [h0]; exact h
    obtain ⟨v, hy, hK⟩ := yieldsIn_of_qOp h0 hst
    exact wpHead_first h0 (Region.noSelect_spec hsel) hs hc hn hkn (fun listed' a' hL => seqB_ready hL.1) l.length listed a inv (Region.free_spec h0 hf) hr' hy
      (wpHead_lex hsel hs hc hn l (k + 1) _ _ (fun j hj => by have := hl (j + 1) (by simp; omega); simpa [Nat.add_assoc, Nat.add_comm 1 j] using this) (by simp only [List.length_cons] at hk; omega) (inv.set hr' hkn) hB' hK)

/-- A region whose first n operations are quiet in a class, and whose others come behind them in one order. -/
theorem wp_region_head {id : Nat} {Q : Exit → Act → World → Prop} {a : Act} {w : World} {l : List Oper} (n : Nat) (hm : P.follows .mixedOrders = true) (hB : Region.lexTailB .any l.toArray n = true) (hC : C w.drew)
    (h : wpQuiet P l.toArray C (fun a' => ∀ w', C w' → wpList P l.toArray Q (l.drop n) a' w') (l.take n) a) : (Code.region id l.toArray true).wp P Q a w := by
  simp only [Region.lexTailB, Bool.and_eq_true, decide_eq_true_eq] at hB
  obtain ⟨⟨⟨⟨hsel, hn⟩, hs⟩, hc⟩, hlex⟩ := hB
  have hn' : n < l.length := by simpa using hn
  have htl : (l.take n).length = n := by simp; omega
  have hdl : (l.drop n).length = l.toArray.size - n := by simp
  have inv0 : HeadInv .any l.toArray n (Array.replicate l.toArray.size false) :=
    ⟨by simp, fun j oj _ hl => (by rw [getD_replicate_false] at hl; cases hl), fun t _ ht => getD_in (by simpa using ht) (getD_replicate_false _ _)⟩
  have H := wpHead_lex (md := .any) (g := l.toArray.size - n) hsel hs hc hn (l.take n) 0 _ a (fun j hj => by
    have hj' : j < n := by rw [htl] at hj; exact hj
    simp [hj']) (by simpa using htl) inv0 (by rw [htl]; exact hlex) h
  refine wp_region_any hm ?_
  have := wpAny_of_wpHead (C := C) (Q' := Q) (g := l.toArray.size - n) (fun listed a' w' hw' hL => by
    have := wpAny_of_seq (md := .any) (Q' := Q) (l.drop n) n listed a' w' (fun j => by simp [List.getElem?_drop]) (by rw [hdl]; exact hL.1) (hL.2 w' hw')
    rwa [hdl] at this) _ _ _ w.drew hC H
  rw [htl, show n + (l.toArray.size - n) = l.toArray.size by omega] at this
  exact this
end

/-- The same at the class of the worlds that extend w. -/
theorem wp_region_ext_tail {P : Program} {id : Nat} {Q : Exit → Act → World → Prop} {a : Act} {w : World} {l : List Oper} (n : Nat) (hm : P.follows .mixedOrders = true) (hB : Region.lexTailB .any l.toArray n = true)
    (h : wpQuiet P l.toArray (fun w' => ∃ x, w' = ext w x) (fun a' => ∀ w', (∃ x, w' = ext w x) → wpList P l.toArray Q (l.drop n) a' w') (l.take n) a) : (Code.region id l.toArray true).wp P Q a w :=
  wp_region_head (C := fun w' => ∃ x, w' = ext w x) n hm hB (below_ext (w' := w.drew) (Below.refl _ _).drew) h
/-- The same where nothing but draws is left behind. -/
theorem wp_region_drew_tail {P : Program} {id : Nat} {Q : Exit → Act → World → Prop} {a : Act} {w : World} {l : List Oper} (n : Nat) (hm : P.follows .mixedOrders = true) (hB : Region.lexTailB .any l.toArray n = true)
    (h : wpQuiet P l.toArray (fun w' => ∃ k, w' = w.drewN k) (fun a' => ∀ w', (∃ k, w' = w.drewN k) → wpList P l.toArray Q (l.drop n) a' w') (l.take n) a) : (Code.region id l.toArray true).wp P Q a w :=
  wp_region_head (C := fun w' => ∃ k, w' = w.drewN k) n hm hB ⟨1, rfl⟩ h

theorem lt_a1 (s n : Nat) : (s < s + 1 + n) = True := by simp; omega
theorem lt_a2 (s n m : Nat) : (s < s + 1 + n + m) = True := by simp; omega
theorem le_a2 (s n m : Nat) : (s ≤ s + n + m) = True := by simp; omega
theorem lt_a3 (s n m k : Nat) : (s < s + 1 + n + m + k) = True := by simp; omega
theorem le_a3 (s n m k : Nat) : (s ≤ s + n + m + k) = True := by simp; omega
theorem lt_a4 (s n m k l : Nat) : (s < s + 1 + n + m + k + l) = True := by simp; omega
theorem le_a4 (s n m k l : Nat) : (s ≤ s + n + m + k + l) = True := by simp; omega
theorem lt_a5 (s n m k l i : Nat) : (s < s + 1 + n + m + k + l + i) = True := by simp; omega
theorem le_a5 (s n m k l i : Nat) : (s ≤ s + n + m + k + l + i) = True := by simp; omega
theorem lt_a6 (s n m k l i j : Nat) : (s < s + 1 + n + m + k + l + i + j) = True := by simp; omega
theorem le_a6 (s n m k l i j : Nat) : (s ≤ s + n + m + k + l + i + j) = True := by simp; omega
theorem lt_s1 (a b n : Nat) (h : a < b) : (a < b + n) = True := by simp; omega
theorem lt_s2 (a b n m : Nat) (h : a < b) : (a < b + n + m) = True := by simp; omega
theorem lt_s3 (a b n m k : Nat) (h : a < b) : (a < b + n + m + k) = True := by simp; omega
theorem lt_s4 (a b n m k l : Nat) (h : a < b) : (a < b + n + m + k + l) = True := by simp; omega
theorem lt_s5 (a b n m k l i : Nat) (h : a < b) : (a < b + n + m + k + l + i) = True := by simp; omega
theorem lt_s6 (a b n m k l i j : Nat) (h : a < b) : (a < b + n + m + k + l + i + j) = True := by simp; omega
attribute [go_sem] lt_s1 lt_s2 lt_s3 lt_s4 lt_s5 lt_s6
attribute [go_sem, simp] lt_a1 lt_a2 lt_a3 lt_a4 lt_a5 lt_a6 le_a2 le_a3 le_a4 le_a5 le_a6
attribute [go_sem, simp] ext_of_drew ext_of_drewN drew_heap
attribute [go_sem, simp] ext_size ext_cell_mk ext_frozen_mk ext_setCell drewN_setCell drewN_alloc
attribute [go_sem] ext_cell_some
end Go.Proofs.Ytpfffpajnjeoeaa
