/-
  How lists of plies and of bundles lie in memory.
-/
import Derived.Test.YtpfffpajnjeoeaaBlk
import Derived.Test.YtpfffpajnjeoeaaChk
namespace Go.Proofs.Ytpfffpajnjeoeaa
open Go.RowKit

/-- What a lay holds beside its sizes and lots. -/
structure Lay where
  n1 : Int
  n2 : Int
  n3 : Int
  n4 : Int
  sa : Option Addr
  sc : Nat
  pa : Option Addr
  pn : Nat
  pc : Nat
  ya : Option Addr
  yc : Nat
/-- The array behind a slice begins with plies of the lots P. -/
def PliesAt (w : World) (a : Option Addr) (P : List Int) : Prop :=
  ∃ b o, (0 < P.length → a = some ⟨b, o, none⟩ ∧ b < w.heap.size) ∧ ∀ i, i < P.length →
    w.cell? ⟨b, o + i * 2, none⟩ = some (.int .i64 (P.getD i 0)) ∧ ∃ x n c, w.cell? ⟨b, o + i * 2 + 1, none⟩ = some (.slice x n c)
theorem PliesAt.below {w w' : World} {a : Option Addr} {P : List Int} (h : PliesAt w a P) (hb : Below w.heap.size w w') : PliesAt w' a P := by
  obtain ⟨b, o, ha, hc⟩ := h
  refine ⟨b, o, fun hp => ⟨(ha hp).1, Nat.lt_of_lt_of_le (ha hp).2 hb.size⟩, fun i hi => ?_⟩
  have hlt := (ha (by omega)).2
  obtain ⟨h1, x, n, c, h2⟩ := hc i hi
  exact ⟨(hb.cell (p := ⟨b, o + i * 2, none⟩) hlt).trans h1, x, n, c, (hb.cell (p := ⟨b, o + i * 2 + 1, none⟩) hlt).trans h2⟩
/-- The array behind a slice begins with the bundles B. -/
def BunsAt (w : World) (a : Option Addr) (B : List Bun) : Prop :=
  ∃ b o, (0 < B.length → a = some ⟨b, o, none⟩ ∧ b < w.heap.size) ∧ ∀ i, i < B.length →
    w.cell? ⟨b, o + i * 6, none⟩ = some (.int .i64 (bn B i).t) ∧ w.cell? ⟨b, o + i * 6 + 1, none⟩ = some (.int .i64 (bn B i).g) ∧ w.cell? ⟨b, o + i * 6 + 2, none⟩ = some (.int .i64 (bn B i).s) ∧
    w.cell? ⟨b, o + i * 6 + 3, none⟩ = some (.int .i64 (bn B i).l) ∧ w.cell? ⟨b, o + i * 6 + 4, none⟩ = some (.int .i64 (bn B i).f) ∧ w.cell? ⟨b, o + i * 6 + 5, none⟩ = some (.int .i64 (bn B i).o)
theorem BunsAt.below {w w' : World} {a : Option Addr} {B : List Bun} (h : BunsAt w a B) (hb : Below w.heap.size w w') : BunsAt w' a B := by
  obtain ⟨b, o, ha, hc⟩ := h
  refine ⟨b, o, fun hp => ⟨(ha hp).1, Nat.lt_of_lt_of_le (ha hp).2 hb.size⟩, fun i hi => ?_⟩
  have hlt := (ha (by omega)).2
  have e : ∀ k, w'.cell? ⟨b, k, none⟩ = w.cell? ⟨b, k, none⟩ := fun k => hb.cell (p := ⟨b, k, none⟩) hlt
  simp only [e]
  exact hc i hi
theorem BunsAt.ext {w : World} {a : Option Addr} {B : List Bun} (h : BunsAt w a B) (x : World) : BunsAt (ext w x) a B := h.below (ext_below w x)
theorem BunsAt.take {w : World} {a : Option Addr} {B : List Bun} (h : BunsAt w a B) (k : Nat) : BunsAt w a (B.take k) := by
  obtain ⟨b, o, ha, hc⟩ := h
  have hl : (B.take k).length ≤ B.length := by simp; omega
  refine ⟨b, o, fun hp => ha (by omega), fun i hi => ?_⟩
  have hik : i < k := by simp at hi; omega
  rw [bn_take hik]
  exact hc i (by omega)
theorem bunsAt_nil (w : World) (a : Option Addr) : BunsAt w a [] := ⟨0, 0, fun h => by simp at h, fun i h => by simp at h⟩
end Go.Proofs.Ytpfffpajnjeoeaa
