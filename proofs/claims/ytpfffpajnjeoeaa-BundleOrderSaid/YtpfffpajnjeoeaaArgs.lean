/-
  How an argument that is a slice reads: a list of its elements, cell by cell.
-/
import Derived.Test.YtpfffpajnjeoeaaLaw
import Derived.Test.YtpfffpajnjeoeaaRow
import Derived.Deep.Slices
namespace Go.Proofs.Ytpfffpajnjeoeaa
open Go.RowKit Go.ChangeShapes Go.WideShapes Go.ChangeAt Go.Deep

theorem list_of {α : Type} {P : Nat → α → Prop} : ∀ n : Nat, (∀ i, i < n → ∃ z, P i z) → ∃ L : List α, L.length = n ∧ ∀ i (h : i < L.length), P i L[i]
  | 0, _ => ⟨[], rfl, fun i h => by simp at h⟩
  | n + 1, h => by
    obtain ⟨L, hl, hL⟩ := list_of n (fun i hi => h i (by omega))
    obtain ⟨z, hz⟩ := h n (by omega)
    refine ⟨L ++ [z], by simp [hl], fun i hi => ?_⟩
    by_cases c : i < L.length
    · rw [List.getElem_append_left c]; exact hL i c
    · have : i = n := by simp at hi; omega
      subst this
      rw [List.getElem_append_right (by omega)]
      simpa [hl] using hz
theorem spot_of {w : World} {a : Addr} {v : Value} (h : w.cell? a = some v) : a = ⟨a.block, a.off, none⟩ := by
  obtain ⟨b, o, s⟩ := a
  cases s with
  | none => rfl
  | some s =>
    simp only [World.cell?] at h
    split at h
    · simp at h
    · cases h

theorem addr_add2 (b o i j : Nat) : ((⟨b, o, none⟩ : Addr).add i).add j = ⟨b, o + (i + j), none⟩ := by
  unfold Addr.add
  by_cases h1 : i = 0 <;> by_cases h2 : j = 0 <;> simp [h1, h2, Nat.add_assoc]

section
variable {H : Type} {enc : TypeId × Value → H} {w : World} {spare : Nat → Bool} {held : Bool}
/-- A slice of elements of K cells each. -/
theorem open_rows {α : Type} {g : α → List Value} {K : Nat} {t e : TypeId} {r : Reach} {b0 : Nat} {v : Value} {d : DataW H} {p : List MemPlace} (hK : 0 < K) (ht : Try.prog.underlying t = some (.slice e)) (hC : Try.prog.cellsOf e = K)
    (hel : ∀ (fuel : Nat) (cs : List Value) (x : DataW H × List MemPlace), DataW.trod enc Try.prog w 0 spare held fuel e cs = some x → ∃ z : α, cs = g z)
    (hv : Value.okWide Try.prog w r b0 t v) (hd : DataW.Trod enc Try.prog w 0 spare held t v d p) :
    ∃ (a : Option Addr) (cap : Nat) (L : List α), v = .slice a L.length cap ∧ L.length ≤ maxLen ∧
      ∀ i, i < L.length → ∃ b o, a = some ⟨b, o, none⟩ ∧ b < w.heap.size ∧ ∀ i' (_ : i' < L.length) j, j < K → w.cell? ⟨b, o + (i' * K + j), none⟩ = (g L[i'])[j]? := by
  obtain ⟨a, len, cap, rfl⟩ := okWide_slice ht hv
  obtain ⟨fuel, hf⟩ := hd
  rcases open_slice ht hf with ⟨hcs, _⟩ | ⟨a', len', cap', m, n, D, Pl, hcs, _, hl, hm, hmm, _, hi⟩
  · simp [Value.cells] at hcs
    obtain ⟨rfl, rfl, rfl⟩ := hcs
    exact ⟨none, 0, [], rfl, by simp [maxLen], fun i h => by simp at h⟩
  · simp [Value.cells] at hcs
    obtain ⟨rfl, rfl, rfl⟩ := hcs
    have hle : len ≤ m := by rw [hmm]; split <;> omega
    obtain ⟨L, hL, hP⟩ := list_of (P := fun i z => w.cells? 0 (a'.add (i * K)) K = some (g z)) len (fun i hin => by
      obtain ⟨cs', h1, h2⟩ := hi i (by omega)
      obtain ⟨z, rfl⟩ := hel _ _ _ h2
      rw [hC] at h1
      exact ⟨z, h1⟩)
    subst hL
    refine ⟨some a', cap, L, rfl, by omega, fun i hin => ?_⟩
    have hc : ∀ i' (_ : i' < L.length) j, j < K → w.cell? ((a'.add (i' * K)).add j) = (g L[i'])[j]? := fun i' hi' j hj => by
      obtain ⟨_, hlen, hat⟩ := World.cells?_some (hP i' hi')
      exact hat j hj
    have h0 : ∃ u, w.cell? a' = some u := by
      have hl0 : 0 < L.length := by omega
      obtain ⟨_, hlen, hat⟩ := World.cells?_some (hP 0 hl0)
      refine ⟨(g L[0])[0]'(by omega), ?_⟩
      have := hat 0 hK
      rw [List.getElem?_eq_getElem (by omega)] at this
      simpa [Addr.add] using this
    obtain ⟨u, hu⟩ := h0
    have hsp := spot_of hu
    refine ⟨a'.block, a'.off, by rw [← hsp], World.block_lt_of_cell? w _ hu, fun i' hi' j hj => ?_⟩
    have := hc i' hi' j hj
    rw [hsp] at this
    rw [addr_add2] at this
    exact this
theorem cell_int (fuel : Nat) (cs : List Value) (x : DataW H × List MemPlace) (h : DataW.trod enc Try.prog w 0 spare held fuel 3 cs = some x) : ∃ z : Int, cs = [.int .i64 z] := by
  obtain ⟨z, hz, _, _⟩ := DataW.trod_int Try.underlying3 h
  exact ⟨z, hz⟩
theorem cell_bool (fuel : Nat) (cs : List Value) (x : DataW H × List MemPlace) (h : DataW.trod enc Try.prog w 0 spare held fuel 4 cs = some x) : ∃ z : Bool, cs = [.bool z] := by
  obtain ⟨z, hz, _⟩ := DataW.trod_bool Try.underlying4 h
  exact ⟨z, hz⟩
/-- A slice of elements of one cell. -/
theorem open_row1 {α : Type} {g : α → Value} {t e : TypeId} {r : Reach} {b0 : Nat} {v : Value} {d : DataW H} {p : List MemPlace} (ht : Try.prog.underlying t = some (.slice e)) (hC : Try.prog.cellsOf e = 1)
    (hel : ∀ (fuel : Nat) (cs : List Value) (x : DataW H × List MemPlace), DataW.trod enc Try.prog w 0 spare held fuel e cs = some x → ∃ z : α, cs = [g z])
    (hv : Value.okWide Try.prog w r b0 t v) (hd : DataW.Trod enc Try.prog w 0 spare held t v d p) :
    ∃ (a : Option Addr) (cap : Nat) (L : List α), v = .slice a L.length cap ∧ L.length ≤ maxLen ∧ RowAt w a (L.map g) := by
  obtain ⟨a, cap, L, hv', hm, hc⟩ := open_rows (g := fun z => [g z]) (by decide) ht hC hel hv hd
  refine ⟨a, cap, L, hv', hm, fun i hi => ?_⟩
  obtain ⟨b, o, e1, e2, e3⟩ := hc i (by simpa using hi)
  refine ⟨b, o, e1, e2, fun j hj => ?_⟩
  have hj' : j < L.length := by simpa using hj
  have := e3 j hj' 0 (by decide)
  simp only [Nat.mul_one, Nat.add_zero] at this
  rw [this]
  simp [hj']
end
end Go.Proofs.Ytpfffpajnjeoeaa
