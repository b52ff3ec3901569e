/-
  How the arguments of the laws read: tones, lists of tones, lists of numbers.
-/
import Derived.Test.YtjfckjmdcfiacaaArgs
import Derived.Test.YtjfckjmdcfiacaaBlk
import Derived.Lib.SmallJoins
namespace Go.Proofs.Ytjfckjmdcfiacaa
open Go.RowKit Go.ChangeShapes Go.WideShapes Go.ChangeAt Go.Deep

theorem Try.cells3 : Try.prog.cellsOf 3 = 1 := by kernel_rfl
theorem Try.cells23 : Try.prog.cellsOf 23 = 3 := by kernel_rfl
/-- A number of 64 bits. -/
def Fit (n : Int) : Prop := -9223372036854775808 ≤ n ∧ n ≤ 9223372036854775807
theorem fit_of {n : Int} (h : (Lit.int .i64 n).wf = true) : Fit n := by
  simp [Lit.wf, IntKind.min, IntKind.max, IntKind.signed, IntKind.bits] at h
  exact ⟨by omega, by omega⟩
/-- The components of a tone are of 64 bits. -/
def Tone.Fit (t : Tone) : Prop := Go.Proofs.Ytjfckjmdcfiacaa.Fit t.l ∧ Go.Proofs.Ytjfckjmdcfiacaa.Fit t.a ∧ Go.Proofs.Ytjfckjmdcfiacaa.Fit t.b

section
variable {H : Type} {enc : TypeId × Value → H} {w : World} {base : Nat} {spare : Nat → Bool} {held : Bool}
theorem tone_cells {t : TypeId} {g h k : Field} {fuel : Nat} {cs : List Value} {x : DataW H × List MemPlace}
    (hs : Try.prog.underlying t = some (.struct #[g, h, k])) (hg : g.type = 3 ∧ g.offset = 0) (hh : h.type = 3 ∧ h.offset = 1) (hk : k.type = 3 ∧ k.offset = 2) (hC : Try.prog.cellsOf t = 3)
    (hf : DataW.trod enc Try.prog w base spare held fuel t cs = some x) : ∃ u : Tone, cs = [.int .i64 u.l, .int .i64 u.a, .int .i64 u.b] ∧ u.Fit := by
  obtain ⟨xs, n, _, _, hl, hxl, hi⟩ := DataW.trod_struct hs hf
  have h0 := hi 0 g rfl
  have h1 := hi 1 h rfl
  have h2 := hi 2 k rfl
  have hxl' : xs.length = 3 := hxl
  rw [hg.1, hg.2, Try.cells3, List.getElem?_eq_getElem (by omega)] at h0
  rw [hh.1, hh.2, Try.cells3, List.getElem?_eq_getElem (by omega)] at h1
  rw [hk.1, hk.2, Try.cells3, List.getElem?_eq_getElem (by omega)] at h2
  obtain ⟨a, ha, _, wa⟩ := DataW.trod_int Try.underlying3 h0
  obtain ⟨b, hb, _, wb⟩ := DataW.trod_int Try.underlying3 h1
  obtain ⟨c, hc, _, wc⟩ := DataW.trod_int Try.underlying3 h2
  rw [hC] at hl
  obtain ⟨c0, c1, c2, rfl⟩ : ∃ c0 c1 c2, cs = [c0, c1, c2] := by
    match cs, hl with
    | [c0, c1, c2], _ => exact ⟨c0, c1, c2, rfl⟩
  simp at ha hb hc
  exact ⟨⟨a, b, c⟩, by rw [ha, hb, hc], fit_of wa, fit_of wb, fit_of wc⟩
theorem open_tone {r : Go.Reach} {b0 : Nat} {v : Value} {d : DataW H} {p : List MemPlace}
    (hv : Value.okWide Try.prog w r b0 23 v) (hd : DataW.Trod enc Try.prog w base spare held 23 v d p) :
    ∃ u : Tone, v = .agg #[.int .i64 u.l, .int .i64 u.a, .int .i64 u.b] ∧ u.Fit := by
  obtain ⟨cs, rfl, _⟩ := okWide_struct Try.underlying23 hv
  obtain ⟨fuel, hf⟩ := hd
  obtain ⟨u, e, fu⟩ := tone_cells Try.underlying23 ⟨rfl, rfl⟩ ⟨rfl, rfl⟩ ⟨rfl, rfl⟩ Try.cells23 hf
  obtain ⟨l⟩ := cs
  have e' : l = [.int .i64 u.l, .int .i64 u.a, .int .i64 u.b] := by simpa [Value.cells] using e
  subst e'
  exact ⟨u, rfl, fu⟩
theorem open_tones {r : Go.Reach} {b0 : Nat} {v : Value} {d : DataW H} {p : List MemPlace} (hv : Value.okWide Try.prog w r b0 24 v) (hd : DataW.Trod enc Try.prog w 0 spare held 24 v d p) :
    ∃ (a : Option Addr) (cap : Nat) (L : List Tone), v = .slice a L.length cap ∧ L.length ≤ maxLen ∧ TonesAt w a L := by
  obtain ⟨a, cap, L, hv', hm, hc⟩ := open_rows (g := fun u : Tone => [.int .i64 u.l, .int .i64 u.a, .int .i64 u.b]) (K := 3) (by decide) Try.underlying24 Try.cells23
    (fun fuel cs x h => by obtain ⟨u, e, _⟩ := tone_cells Try.underlying23 ⟨rfl, rfl⟩ ⟨rfl, rfl⟩ ⟨rfl, rfl⟩ Try.cells23 h; exact ⟨u, e⟩) hv hd
  refine ⟨a, cap, L, hv', hm, fun i hi => ?_⟩
  obtain ⟨b, o, e1, e2, e3⟩ := hc i hi
  refine ⟨b, o, e1, e2, fun j hj => ?_⟩
  have ht : tn L j = L[j] := by simp [tn, List.getD, hj]
  rw [ht]
  exact ⟨e3 j hj 0 (by decide), e3 j hj 1 (by decide), e3 j hj 2 (by decide)⟩
theorem open_nums {r : Go.Reach} {b0 : Nat} {v : Value} {d : DataW H} {p : List MemPlace} (hv : Value.okWide Try.prog w r b0 25 v) (hd : DataW.Trod enc Try.prog w 0 spare held 25 v d p) :
    ∃ (a : Option Addr) (cap : Nat) (X : List Int), v = .slice a X.length cap ∧ X.length ≤ maxLen ∧ RowAt w a (ints X) ∧ ∀ j, j < X.length → (Lit.int .i64 (X.getD j 0)).wf = true := by
  obtain ⟨a, cap, L, hv', hm, hr⟩ := open_row1 (α := { x : Int // (Lit.int .i64 x).wf = true }) (g := fun x => .int .i64 x.1) Try.underlying25 Try.cells3
    (fun fuel cs x h => by obtain ⟨z, hz, _, hw⟩ := DataW.trod_int Try.underlying3 h; exact ⟨⟨z, hw⟩, hz⟩) hv hd
  refine ⟨a, cap, L.map (·.1), by simpa using hv', by simpa using hm, by simpa [ints, Function.comp] using hr, fun j hj => ?_⟩
  have hj' : j < L.length := by simpa using hj
  have : (L.map (·.1)).getD j 0 = L[j].1 := by simp [List.getD, hj']
  rw [this]
  exact L[j].2
end
end Go.Proofs.Ytjfckjmdcfiacaa
