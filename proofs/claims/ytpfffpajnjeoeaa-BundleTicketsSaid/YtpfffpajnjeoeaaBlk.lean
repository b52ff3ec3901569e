/-
  Blocks of a known content in memory.
-/
import Derived.Test.YtpfffpajnjeoeaaRow
namespace Go.Proofs.Ytpfffpajnjeoeaa
open Go.RowKit

/-- Block g holds the values xs, and no more. -/
def Blk (w : World) (g e : Nat) (xs : List Value) : Prop := w.heap[g]? = some (.cells xs.toArray e (0, 0))
theorem Blk.lt {w : World} {g e : Nat} {xs : List Value} (h : Blk w g e xs) : g < w.heap.size := by
  rcases Nat.lt_or_ge g w.heap.size with h1 | h1
  · exact h1
  · unfold Blk at h; rw [Array.getElem?_eq_none h1] at h; cases h
theorem Blk.cell {w : World} {g e : Nat} {xs : List Value} (h : Blk w g e xs) {k : Nat} (hk : k < xs.length) : w.cell? ⟨g, k, none⟩ = some xs[k] := by
  unfold Blk at h
  simp [World.cell?, h, hk]
theorem Blk.free {w : World} {g e : Nat} {xs : List Value} (h : Blk w g e xs) (k : Nat) : w.frozen? ⟨g, k, none⟩ = false := by
  unfold Blk at h
  simp [World.frozen?, h]
theorem Blk.ext {w : World} {g e : Nat} {xs : List Value} (h : Blk w g e xs) (x : World) : Blk (ext w x) g e xs := (ext_block w x g h.lt).trans h
theorem Blk.drewN {w : World} {g e : Nat} {xs : List Value} (h : Blk w g e xs) (d : Nat) : Blk (w.drewN d) g e xs := h
theorem Blk.drew {w : World} {g e : Nat} {xs : List Value} (h : Blk w g e xs) : Blk w.drew g e xs := h
theorem Blk.alloc {w : World} {g e : Nat} {xs : List Value} (h : Blk w g e xs) (o : Obj) : Blk (w.alloc o) g e xs := (heap_alloc_lt w o g h.lt).trans h
theorem blk_new (w : World) (xs : List Value) (e n : Nat) (hn : n = w.heap.size) : Blk (w.alloc (.cells xs.toArray e)) n e xs := heap_alloc_at w _ n hn
theorem Blk.set {w : World} {g e : Nat} {xs : List Value} (h : Blk w g e xs) (k : Nat) (v : Value) : Blk (w.setCell ⟨g, k, none⟩ v) g e (xs.set k v) := by
  unfold Blk at h ⊢
  rw [heap_setCell_eq w g k v h]
  simp
theorem Blk.other {w : World} {g e : Nat} {xs : List Value} (h : Blk w g e xs) {b : Nat} (hb : g ≠ b) (o : Nat) (v : Value) : Blk (w.setCell ⟨b, o, none⟩ v) g e xs := (heap_setCell_ne w b o v g hb).trans h
theorem Blk.grown {w w' : World} {g e : Nat} {xs : List Value} (h : Blk w g e xs) {row : Option Nat} (hg : w.grownBy w' row) (hr : row ≠ some g) : Blk w' g e xs := (hg.block g h.lt (fun e => hr e.symm)).trans h
theorem Blk.row {w : World} {g e : Nat} {xs : List Value} (h : Blk w g e xs) : RowAt w (some ⟨g, 0, none⟩) xs := fun i hi =>
  ⟨g, 0, rfl, h.lt, fun j hj => by rw [Nat.zero_add, h.cell hj, List.getElem?_eq_getElem hj]⟩
theorem Blk.below {w w' : World} {g e : Nat} {xs : List Value} (h : Blk w g e xs) (hb : Below w.heap.size w w') : Blk w' g e xs := (hb.block g h.lt).trans h

/-- Numbers as values. -/
def ints (X : List Int) : List Value := X.map (.int .i64)
def nats (F : List Nat) : List Value := F.map fun (x : Nat) => .int .i64 (x : Int)
def bools (B : List Bool) : List Value := B.map .bool
theorem ints_len (X : List Int) : (ints X).length = X.length := by simp [ints]
theorem nats_len (X : List Nat) : (nats X).length = X.length := by simp [nats]
theorem bools_len (X : List Bool) : (bools X).length = X.length := by simp [bools]
theorem ints_set (X : List Int) (k : Nat) (v : Int) : (ints X).set k (.int .i64 v) = ints (X.set k v) := by simp [ints]
theorem nats_set (X : List Nat) (k v : Nat) : (nats X).set k (.int .i64 (v : Int)) = nats (X.set k v) := by simp [nats, List.map_set]
theorem bools_set (X : List Bool) (k : Nat) (v : Bool) : (bools X).set k (.bool v) = bools (X.set k v) := by simp [bools]
theorem Blk.int {w : World} {g e : Nat} {X : List Int} (h : Blk w g e (ints X)) {k : Nat} (hk : k < X.length) : w.cell? ⟨g, k, none⟩ = some (.int .i64 (X.getD k 0)) := by
  rw [h.cell (by simpa [ints_len] using hk)]
  simp [ints, List.getD, hk]
theorem Blk.nat {w : World} {g e : Nat} {X : List Nat} (h : Blk w g e (nats X)) {k : Nat} (hk : k < X.length) : w.cell? ⟨g, k, none⟩ = some (.int .i64 ((X.getD k 0 : Nat) : Int)) := by
  rw [h.cell (by simpa [nats_len] using hk)]
  simp [nats, List.getD, hk]
theorem Blk.bool {w : World} {g e : Nat} {X : List Bool} (h : Blk w g e (bools X)) {k : Nat} (hk : k < X.length) : w.cell? ⟨g, k, none⟩ = some (.bool (X.getD k false)) := by
  rw [h.cell (by simpa [bools_len] using hk)]
  simp [bools, List.getD, hk]
theorem Blk.setInt {w : World} {g e : Nat} {X : List Int} (h : Blk w g e (ints X)) (k : Nat) (v : Int) : Blk (w.setCell ⟨g, k, none⟩ (.int .i64 v)) g e (ints (X.set k v)) := ints_set X k v ▸ h.set k _
theorem Blk.setNat {w : World} {g e : Nat} {X : List Nat} (h : Blk w g e (nats X)) (k v : Nat) : Blk (w.setCell ⟨g, k, none⟩ (.int .i64 (v : Int))) g e (nats (X.set k v)) := nats_set X k v ▸ h.set k _
theorem Blk.setBool {w : World} {g e : Nat} {X : List Bool} (h : Blk w g e (bools X)) (k : Nat) (v : Bool) : Blk (w.setCell ⟨g, k, none⟩ (.bool v)) g e (bools (X.set k v)) := bools_set X k v ▸ h.set k _
theorem zeros_list {z : Value} (hz : z.cells = #[z]) (n : Nat) : zeros z n = (List.replicate n z).toArray := by
  apply Array.ext_getElem?
  intro i
  by_cases h : i < n
  · rw [zeros_get hz h]; simp [h]
  · rw [Array.getElem?_eq_none (by rw [zeros_size]; omega), Array.getElem?_eq_none (by simp; omega)]
theorem blk_ints (w : World) (n m : Nat) (hm : m = w.heap.size) : Blk (w.alloc (.cells (zeros (.int .i64 0) n) 3)) m 3 (ints (List.replicate n 0)) := by
  rw [zeros_list (by rfl)]
  simp only [ints, List.map_replicate]
  exact blk_new w _ 3 m hm
theorem blk_nats (w : World) (n m : Nat) (hm : m = w.heap.size) : Blk (w.alloc (.cells (zeros (.int .i64 0) n) 3)) m 3 (nats (List.replicate n 0)) := by
  rw [zeros_list (by rfl)]
  simp only [nats, List.map_replicate]
  exact blk_new w _ 3 m hm
theorem blk_bools (w : World) (n m : Nat) (hm : m = w.heap.size) : Blk (w.alloc (.cells (zeros (.bool false) n) 4)) m 4 (bools (List.replicate n false)) := by
  rw [zeros_list (by rfl)]
  simp only [bools, List.map_replicate]
  exact blk_new w _ 4 m hm

theorem ret_int {k : IntKind} {a b : Int} (h : a = b) : Ending.returned (.int k a) = .returned (.int k b) := by rw [h]
theorem ret_bool {a b : Bool} (h : a = b) : Ending.returned (.bool a) = .returned (.bool b) := by rw [h]
theorem row_spread {w : World} {a : Option Addr} {X : List Int} (h : RowAt w a (ints X)) : ∃ b o, (0 < X.length → a = some ⟨b, o, none⟩ ∧ b < w.heap.size) ∧ ∀ j, j < X.length → w.cell? ⟨b, o + j, none⟩ = some (.int .i64 (X.getD j 0)) := by
  by_cases c : 0 < X.length
  · obtain ⟨b, o, e, hlt, hc⟩ := h 0 (by simpa [ints_len] using c)
    refine ⟨b, o, fun _ => ⟨e, hlt⟩, fun j hj => ?_⟩
    rw [hc j (by simpa [ints_len] using hj)]
    simp [ints, List.getD, hj]
  · exact ⟨0, 0, fun h => absurd h c, fun i hi => by omega⟩
theorem getD_set_eq {α : Type} (X : List α) (i : Nat) (v d : α) (h : i < X.length) : (X.set i v).getD i d = v := by
  simp [List.getD, h]
theorem getD_set_ne2 {α : Type} (X : List α) (i j : Nat) (v d : α) (h : i ≠ j) : (X.set i v).getD j d = X.getD j d := by
  simp [List.getD, h]
end Go.Proofs.Ytpfffpajnjeoeaa
