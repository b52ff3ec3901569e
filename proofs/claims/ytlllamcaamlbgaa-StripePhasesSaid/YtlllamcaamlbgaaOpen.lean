/-
  How the arguments of the laws read: pairs of numbers, and three pairs.
-/
import Derived.Test.YtlllamcaamlbgaaLaw
import Derived.Lib.SmallJoins
namespace Go.Proofs.Ytlllamcaamlbgaa
open Go.RowKit Go.ChangeShapes Go.WideShapes Go.ChangeAt

theorem Try.cells23 : Try.prog.cellsOf 23 = 2 := by kernel_rfl
theorem Try.cells24 : Try.prog.cellsOf 24 = 2 := by kernel_rfl
theorem Try.cells3 : Try.prog.cellsOf 3 = 1 := by kernel_rfl
theorem Try.cells33 : Try.prog.cellsOf 33 = 6 := by kernel_rfl
/-- A number of 64 bits. -/
def Fit (n : Int) : Prop := -9223372036854775808 ≤ n ∧ n ≤ 9223372036854775807
theorem fit_of {n : Int} (h : (Lit.int .i64 n).wf = true) : Fit n := by
  simp [Lit.wf, IntKind.min, IntKind.max, IntKind.signed, IntKind.bits] at h
  exact ⟨by omega, by omega⟩

section
variable {H : Type} {enc : TypeId × Value → H} {w : World} {base : Nat} {spare : Nat → Bool} {held : Bool}
theorem pair_cells {t : TypeId} {g h : Field} {fuel : Nat} {cs : List Value} {x : DataW H × List MemPlace}
    (hs : Try.prog.underlying t = some (.struct #[g, h])) (hg : g.type = 3 ∧ g.offset = 0) (hh : h.type = 3 ∧ h.offset = 1) (hC : Try.prog.cellsOf t = 2)
    (hf : DataW.trod enc Try.prog w base spare held fuel t cs = some x) : ∃ a b, cs = [.int .i64 a, .int .i64 b] ∧ Fit a ∧ Fit b := by
  obtain ⟨xs, n, _, _, hl, hxl, hi⟩ := DataW.trod_struct hs hf
  have h0 := hi 0 g rfl
  have h1 := hi 1 h rfl
  have hxl' : xs.length = 2 := hxl
  rw [hg.1, hg.2, Try.cells3, List.getElem?_eq_getElem (by omega)] at h0
  rw [hh.1, hh.2, Try.cells3, List.getElem?_eq_getElem (by omega)] at h1
  obtain ⟨a, ha, _, wa⟩ := DataW.trod_int Try.underlying3 h0
  obtain ⟨b, hb, _, wb⟩ := DataW.trod_int Try.underlying3 h1
  rw [hC] at hl
  obtain ⟨c0, c1, rfl⟩ : ∃ c0 c1, cs = [c0, c1] := by
    match cs, hl with
    | [c0, c1], _ => exact ⟨c0, c1, rfl⟩
  simp at ha hb
  exact ⟨a, b, by rw [ha, hb], fit_of wa, fit_of wb⟩
theorem open_pair {r : Reach} {b0 : Nat} {t : TypeId} {g h : Field} {v : Value} {d : DataW H} {p : List MemPlace}
    (hs : Try.prog.underlying t = some (.struct #[g, h])) (hC : Try.prog.cellsOf t = 2) (hv : Value.okWide Try.prog w r b0 t v) (hd : DataW.Trod enc Try.prog w base spare held t v d p)
    (hg : g.type = 3 ∧ g.offset = 0 := by exact ⟨rfl, rfl⟩) (hh : h.type = 3 ∧ h.offset = 1 := by exact ⟨rfl, rfl⟩) :
    ∃ a b, v = .agg #[.int .i64 a, .int .i64 b] ∧ Fit a ∧ Fit b := by
  obtain ⟨cs, rfl, _⟩ := okWide_struct hs hv
  obtain ⟨fuel, hf⟩ := hd
  obtain ⟨a, b, e, fa, fb⟩ := pair_cells hs hg hh hC hf
  obtain ⟨l⟩ := cs
  have e' : l = [.int .i64 a, .int .i64 b] := by simpa [Value.cells] using e
  subst e'
  exact ⟨a, b, rfl, fa, fb⟩
end
end Go.Proofs.Ytlllamcaamlbgaa
