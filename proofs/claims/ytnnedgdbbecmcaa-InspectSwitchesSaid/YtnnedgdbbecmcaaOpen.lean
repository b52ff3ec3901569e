/-
  How the arguments of the laws read: regimes.
-/
import Derived.Test.YtnnedgdbbecmcaaLaw
import Derived.Lib.SmallJoins
namespace Go.Proofs.Ytnnedgdbbecmcaa
open Go.RowKit Go.ChangeShapes Go.WideShapes Go.ChangeAt

theorem Try.cells23 : Try.prog.cellsOf 23 = 3 := by kernel_rfl
theorem Try.cells3 : Try.prog.cellsOf 3 = 1 := by kernel_rfl
section
variable {H : Type} {enc : TypeId × Value → H} {w : World} {base : Nat} {spare : Nat → Bool} {held : Bool}
theorem open_reg {r : Reach} {b0 : Nat} {g h k : Field} {v : Value} {d : DataW H} {p : List MemPlace}
    (hs : Try.prog.underlying 23 = some (.struct #[g, h, k])) (hv : Value.okWide Try.prog w r b0 23 v) (hd : DataW.Trod enc Try.prog w base spare held 23 v d p)
    (hg : g.type = 3 ∧ g.offset = 0 := by exact ⟨rfl, rfl⟩) (hh : h.type = 3 ∧ h.offset = 1 := by exact ⟨rfl, rfl⟩) (hk : k.type = 3 ∧ k.offset = 2 := by exact ⟨rfl, rfl⟩) :
    ∃ a b c, v = .agg #[.int .i64 a, .int .i64 b, .int .i64 c] := by
  obtain ⟨cs, rfl, _⟩ := okWide_struct hs hv
  obtain ⟨fuel, hf⟩ := hd
  obtain ⟨l⟩ := cs
  obtain ⟨xs, n, _, _, hl, hxl, hi⟩ := DataW.trod_struct hs hf
  have h0 := hi 0 g rfl
  have h1 := hi 1 h rfl
  have h2 := hi 2 k rfl
  have hxl' : xs.length = 3 := hxl
  rw [hg.1, hg.2, Try.cells3, List.getElem?_eq_getElem (by omega)] at h0
  rw [hh.1, hh.2, Try.cells3, List.getElem?_eq_getElem (by omega)] at h1
  rw [hk.1, hk.2, Try.cells3, List.getElem?_eq_getElem (by omega)] at h2
  obtain ⟨a, e0, _, _⟩ := DataW.trod_int Try.underlying3 h0
  obtain ⟨b, e1, _, _⟩ := DataW.trod_int Try.underlying3 h1
  obtain ⟨c, e2, _, _⟩ := DataW.trod_int Try.underlying3 h2
  rw [Try.cells23] at hl
  have hl' : l.length = 3 := by simpa [Value.cells] using hl
  obtain ⟨c0, c1, c2, rfl⟩ : ∃ c0 c1 c2, l = [c0, c1, c2] := by
    match l, hl' with
    | [c0, c1, c2], _ => exact ⟨c0, c1, c2, rfl⟩
  simp [Value.cells] at e0 e1 e2
  subst e0 e1 e2
  exact ⟨_, _, _, rfl⟩
end
end Go.Proofs.Ytnnedgdbbecmcaa
