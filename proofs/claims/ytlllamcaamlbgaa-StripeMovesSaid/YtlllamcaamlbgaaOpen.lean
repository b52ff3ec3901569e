/-
  How the arguments of the laws read: pairs of numbers, and three pairs.
-/
import Derived.Test.YtlllamcaamlbgaaLaw
import Derived.Lib.SmallJoins
namespace Go.Proofs.Ytlllamcaamlbgaa
open Go.RowKit Go.ChangeShapes Go.WideShapes Go.ChangeAt

theorem Try.cells23 : Try.prog.cellsOf 23 = 2 := by kernel_rfl
theorem Try.cells24 : Try.prog.cellsOf 24 = 2 := by kernel_rfl
theorem Try.cells3 : Try.prog.cellsOf 3 = 1 := by kernel_rfl
theorem Try.cells33 : Try.prog.cellsOf 33 = 6 := by kernel_rfl
/-- A number of 64 bits. -/
def Fit (n : Int) : Prop := -9223372036854775808 ≤ n ∧ n ≤ 9223372036854775807
theorem fit_of {n : Int} (h : (Lit.int .i64 n).wf = true) : Fit n := by
  simp [Lit.wf, IntKind.min, IntKind.max, IntKind.signed, IntKind.bits] at h
  exact ⟨by omega, by omega⟩

section
variable {H : Type} {enc : TypeId × Value → H} {w : World} {base : Nat} {spare : Nat → Bool} {held : Bool}
theorem pair_cells {t : TypeId} {g h : Field} {fuel : Nat} {cs : List Value} {x : DataW H × List MemPlace}
    (hs : Try.prog.underlying t = some (.struct #[g, h])) (hg : g.type = 3 ∧ g.offset = 0) (hh : h.type = 3 ∧ h.offset = 1) (hC : Try.prog.cellsOf t = 2)
    (hf : DataW.trod enc Try.prog w base spare held fuel t cs = some x) : ∃ a b, cs = [.int .i64 a, .int .i64 b] ∧ Fit a ∧ Fit b := by
  obtain ⟨xs, n, _, _, hl, hxl, hi⟩ := DataW.trod_struct hs hf
  have h0 := hi 0 g rfl
  have h1 := hi 1 h rfl
  have hxl' : xs.length = 2 := hxl
  rw [hg.1, hg.2, Try.cells3, List.getElem?_eq_getElem (by omega)] at h0
  rw [hh.1, hh.2, Try.cells3, List.getElem?_eq_getElem (by omega)] at h1
  obtain ⟨a, ha, _, wa⟩ := DataW.trod_int Try.underlying3 h0
  obtain ⟨b, hb, _, wb⟩ := DataW.trod_int Try.underlying3 h1
  rw [hC] at hl
  obtain ⟨c0, c1, rfl⟩ : ∃ c0 c1, cs = [c0, c1] := by
    match cs, hl with
    | [c0, c1], _ => exact ⟨c0, c1, rfl⟩
  simp at ha hb
  exact ⟨a, b, by rw [ha, hb], fit_of wa, fit_of wb⟩
theorem open_pair {r : Reach} {b0 : Nat} {t : TypeId} {g h : Field} {v : Value} {d : DataW H} {p : List MemPlace}
    (hs : Try.prog.underlying t = some (.struct #[g, h])) (hC : Try.prog.cellsOf t = 2) (hv : Value.okWide Try.prog w r b0 t v) (hd : DataW.Trod enc Try.prog w base spare held t v d p)
    (hg : g.type = 3 ∧ g.offset = 0 := by exact ⟨rfl, rfl⟩) (hh : h.type = 3 ∧ h.offset = 1 := by exact ⟨rfl, rfl⟩) :
    ∃ a b, v = .agg #[.int .i64 a, .int .i64 b] ∧ Fit a ∧ Fit b := by
  obtain ⟨cs, rfl, _⟩ := okWide_struct hs hv
  obtain ⟨fuel, hf⟩ := hd
  obtain ⟨a, b, e, fa, fb⟩ := pair_cells hs hg hh hC hf
  obtain ⟨l⟩ := cs
  have e' : l = [.int .i64 a, .int .i64 b] := by simpa [Value.cells] using e
  subst e'
  exact ⟨a, b, rfl, fa, fb⟩
theorem open_three {r : Reach} {b0 : Nat} {g h k : Field} {v : Value} {d : DataW H} {p : List MemPlace}
    (hs : Try.prog.underlying 33 = some (.struct #[g, h, k])) (hv : Value.okWide Try.prog w r b0 33 v) (hd : DataW.Trod enc Try.prog w base spare held 33 v d p)
    (hg : g.type = 24 ∧ g.offset = 0 := by exact ⟨rfl, rfl⟩) (hh : h.type = 24 ∧ h.offset = 2 := by exact ⟨rfl, rfl⟩) (hk : k.type = 24 ∧ k.offset = 4 := by exact ⟨rfl, rfl⟩) :
    ∃ a b c d e f, v = .agg #[.int .i64 a, .int .i64 b, .int .i64 c, .int .i64 d, .int .i64 e, .int .i64 f] ∧ (Fit a ∧ Fit b) ∧ (Fit c ∧ Fit d) ∧ (Fit e ∧ Fit f) := by
  obtain ⟨cs, rfl, _⟩ := okWide_struct hs hv
  obtain ⟨fuel, hf⟩ := hd
  obtain ⟨l⟩ := cs
  obtain ⟨xs, n, _, _, hl, hxl, hi⟩ := DataW.trod_struct hs hf
  have h0 := hi 0 g rfl
  have h1 := hi 1 h rfl
  have h2 := hi 2 k rfl
  have hxl' : xs.length = 3 := hxl
  rw [hg.1, hg.2, Try.cells24, List.getElem?_eq_getElem (by omega)] at h0
  rw [hh.1, hh.2, Try.cells24, List.getElem?_eq_getElem (by omega)] at h1
  rw [hk.1, hk.2, Try.cells24, List.getElem?_eq_getElem (by omega)] at h2
  obtain ⟨a, b, e0, fa, fb⟩ := pair_cells Try.underlying24 ⟨rfl, rfl⟩ ⟨rfl, rfl⟩ Try.cells24 h0
  obtain ⟨c, d', e1, fc, fd⟩ := pair_cells Try.underlying24 ⟨rfl, rfl⟩ ⟨rfl, rfl⟩ Try.cells24 h1
  obtain ⟨e, f, e2, fe, ff⟩ := pair_cells Try.underlying24 ⟨rfl, rfl⟩ ⟨rfl, rfl⟩ Try.cells24 h2
  rw [Try.cells33] at hl
  have hl' : l.length = 6 := by simpa [Value.cells] using hl
  obtain ⟨c0, c1, c2, c3, c4, c5, rfl⟩ : ∃ c0 c1 c2 c3 c4 c5, l = [c0, c1, c2, c3, c4, c5] := by
    match l, hl' with
    | [c0, c1, c2, c3, c4, c5], _ => exact ⟨c0, c1, c2, c3, c4, c5, rfl⟩
  simp [Value.cells] at e0 e1 e2
  obtain ⟨rfl, rfl⟩ := e0
  obtain ⟨rfl, rfl⟩ := e1
  obtain ⟨rfl, rfl⟩ := e2
  exact ⟨_, _, _, _, _, _, rfl, ⟨fa, fb⟩, ⟨fc, fd⟩, ⟨fe, ff⟩⟩
end
end Go.Proofs.Ytlllamcaamlbgaa
