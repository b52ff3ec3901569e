/-
  How a slice of one-cell elements reads in memory, and that new memory does not change it.
-/
import Derived.Test.YtpfffpajnjeoeaaExt
namespace Go.Proofs.Ytpfffpajnjeoeaa
open Go.RowKit

/-- The array behind a slice begins with the values xs. -/
def RowAt (w : World) (a : Option Addr) (xs : List Value) : Prop :=
  ∀ i, i < xs.length → ∃ b o, a = some ⟨b, o, none⟩ ∧ b < w.heap.size ∧ ∀ j, j < xs.length → w.cell? ⟨b, o + j, none⟩ = xs[j]?

theorem rowAt_nil (w : World) (a : Option Addr) : RowAt w a [] := fun i h => by simp at h
theorem RowAt.below {w w' : World} {a : Option Addr} {xs : List Value} (h : RowAt w a xs) (hb : Below w.heap.size w w') : RowAt w' a xs := fun i hi => by
  obtain ⟨b, o, e, hlt, hc⟩ := h i hi
  exact ⟨b, o, e, Nat.lt_of_lt_of_le hlt hb.size, fun j hj => (hb.cell (p := ⟨b, o + j, none⟩) hlt).trans (hc j hj)⟩
theorem RowAt.ext {w : World} {a : Option Addr} {xs : List Value} (h : RowAt w a xs) (x : World) : RowAt (ext w x) a xs := h.below (ext_below w x)
/-- One element. -/
theorem RowAt.at {w : World} {a : Option Addr} {xs : List Value} (h : RowAt w a xs) {k : Nat} (hk : k < xs.length) :
    ∃ b o, a = some ⟨b, o, none⟩ ∧ b < w.heap.size ∧ w.cell? ⟨b, o + k, none⟩ = some xs[k] := by
  obtain ⟨b, o, e, hlt, hc⟩ := h k hk
  exact ⟨b, o, e, hlt, by rw [hc k hk, List.getElem?_eq_getElem hk]⟩
/-- A row that the call has made. -/
theorem rowAt_owns {w : World} {base e n : Nat} {v : Value} {xs : List Value} (h : w.ownsRow base e 1 v n xs) :
    ∃ a cap, v = .slice a n cap ∧ n = xs.length ∧ RowAt w a xs := by
  obtain ⟨hl, h | ⟨g, cap, cur, rfl, hg, hh, hn, hm, hs, ht⟩⟩ := h
  · obtain ⟨rfl, rfl⟩ := h
    have : xs = [] := List.eq_nil_of_length_eq_zero (by simpa using hl)
    subst this
    exact ⟨none, 0, rfl, rfl, rowAt_nil _ _⟩
  · have hl' : n = xs.length := by simpa using hl.symm
    subst hl'
    refine ⟨_, cap, rfl, rfl, fun i hi => ⟨g, 0, rfl, ?_, fun j hj => ?_⟩⟩
    · rcases Nat.lt_or_ge g w.heap.size with h1 | h1
      · exact h1
      · rw [Array.getElem?_eq_none h1] at hh; cases hh
    · simp only [World.cell?, hh, Nat.zero_add]
      simp only [Nat.mul_one] at ht
      rw [← ht, List.getElem?_take_of_lt hj]
      simp
theorem rowAt_of_owns {w : World} {base e n cap : Nat} {a : Option Addr} {xs : List Value} (h : w.ownsRow base e 1 (.slice a n cap) n xs) : RowAt w a xs := by
  obtain ⟨a2, cap2, e2, _, hr⟩ := rowAt_owns h
  injection e2 with e3 e4 e5
  rw [e3]
  exact hr
theorem grown_ext (w x : World) (row : Option Nat) : w.grownBy (ext w x) row := ⟨rfl, rfl, rfl, by rw [ext_size]; omega, fun i hi _ => ext_block w x i hi⟩
theorem ownsRow_ext {w : World} {base e size n : Nat} {v : Value} {xs : List Value} (h : w.ownsRow base e size v n xs) (x : World) : (ext w x).ownsRow base e size v n xs := by
  cases hv : v.ownBlock with
  | none => exact h.kept (grown_ext w x none) (.inl hv)
  | some k => exact h.kept (grown_ext w x none) (.inr (by rw [hv]; simp))
theorem ownsRow_drewN {w : World} {base e size n : Nat} {v : Value} {xs : List Value} (h : w.ownsRow base e size v n xs) (k : Nat) : (w.drewN k).ownsRow base e size v n xs := h
/-- A block of three cells. -/
theorem cell3 {w : World} {g t : Nat} {x y z : Value} (h : w.heap[g]? = some (.cells #[x, y, z] t (0, 0))) :
    g < w.heap.size ∧ w.cell? ⟨g, 0, none⟩ = some x ∧ w.cell? ⟨g, 1, none⟩ = some y ∧ w.cell? ⟨g, 2, none⟩ = some z ∧ w.frozen? ⟨g, 0, none⟩ = false ∧ w.frozen? ⟨g, 1, none⟩ = false ∧ w.frozen? ⟨g, 2, none⟩ = false := by
  refine ⟨?_, by simp [World.cell?, h], by simp [World.cell?, h], by simp [World.cell?, h], by simp [World.frozen?, h], by simp [World.frozen?, h], by simp [World.frozen?, h]⟩
  rcases Nat.lt_or_ge g w.heap.size with h1 | h1
  · exact h1
  · rw [Array.getElem?_eq_none h1] at h; cases h
theorem cell_one_at (w : World) (x : Value) (t : TypeId) (n : Nat) (h : n = w.heap.size) : ∀ (j : Nat) (u : Value), [x][j]? = some u → (w.alloc (.cells #[x] t)).cell? ((⟨n, 0, none⟩ : Addr).add j) = some u := by
  subst h
  exact cell_one_new _ _ _
/-- n cells of one value. -/
def zeros (z : Value) (n : Nat) : Array Value := madeCells z.cells (n * 1)
theorem zeros_get {z : Value} (hz : z.cells = #[z]) {n j : Nat} (h : j < n) : (zeros z n)[j]? = some z := by
  unfold zeros
  rw [hz, ← Array.getElem?_toList, toList_madeCells_one]
  simp [h]
theorem zeros_size {z : Value} (n : Nat) : (zeros z n).size = n := by
  unfold zeros
  rw [size_madeCells]; omega
theorem make1 {P : Program} {t e : TypeId} {z : Value} {bytes : Nat} (ht : P.underlying t = some (.slice e)) (hinfo : (P.info? e).map (fun i => (i.zero, i.size, i.bytes)) = some (some z, 1, bytes)) (n : Nat) (hn : n ≤ 1000000) (hb : bytes ≤ 1000) (w : World) :
    (Instr.makeSlice t (.int .i64 (n : Int)) (.int .i64 (n : Int))).run P w = .ok (.slice (some ⟨w.heap.size, 0, none⟩) n n) (w.alloc (.cells (zeros z n) e)) := by
  obtain ⟨i, hi, hz, hs, hy⟩ := info_parts hinfo
  have hle : (i.bytes : Int) * (n : Int) ≤ 281474976710656 := by
    have h1 : i.bytes * n ≤ 1000 * 1000000 := Nat.mul_le_mul (by omega) hn
    have h2 : ((i.bytes * n : Nat) : Int) ≤ 281474976710656 := by omega
    rwa [Int.natCast_mul] at h2
  have hr := run_make (P := P) w t e i z ht hi hz .i64 .i64 n n (by omega) (by omega) hle (by omega)
  simp only [Int.toNat_natCast, hs] at hr
  exact hr
theorem rowAt_zeros {w : World} {z : Value} (hz : z.cells = #[z]) (n : Nat) (e : TypeId) (b : Nat) (hb : b = w.heap.size) : RowAt (w.alloc (.cells (zeros z n) e)) (some ⟨b, 0, none⟩) (List.replicate n z) := fun i hi => by
  refine ⟨b, 0, rfl, by simp [hb], fun j hj => ?_⟩
  have hj' : j < n := by simpa using hj
  subst hb
  rw [World.cell?_alloc_new, Nat.zero_add, zeros_get hz hj']
  simp [hj']
theorem heap_alloc_at (w : World) (o : Obj) (n : Nat) (h : n = w.heap.size) : (w.alloc o).heap[n]? = some o := by
  subst h
  show (w.heap.push o)[w.heap.size]? = _
  simp
theorem heap_alloc_lt (w : World) (o : Obj) (n : Nat) (h : n < w.heap.size) : (w.alloc o).heap[n]? = w.heap[n]? := Below.heap_alloc w o n h
theorem heap_drewN (w : World) (k : Nat) (n : Nat) : (w.drewN k).heap[n]? = w.heap[n]? := rfl
theorem heap_setCell_ne (w : World) (b o : Nat) (v : Value) (n : Nat) (h : n ≠ b) : (w.setCell ⟨b, o, none⟩ v).heap[n]? = w.heap[n]? := Below.heap_setCell w ⟨b, o, none⟩ v n h
theorem heap_setCell_eq (w : World) (b o : Nat) (v : Value) {c : Array Value} {t : TypeId} {fz : Nat × Nat} (h : w.heap[b]? = some (.cells c t fz)) :
    (w.setCell ⟨b, o, none⟩ v).heap[b]? = some (.cells (c.setIfInBounds o v) t fz) := by
  simp [World.setCell, Array.getElem?_modify, h]
end Go.Proofs.Ytpfffpajnjeoeaa
