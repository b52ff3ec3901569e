/-
  How the arguments of the laws read: lays, and lists of bundles.
-/
import Derived.Test.YtpfffpajnjeoeaaArgs
import Derived.Test.YtpfffpajnjeoeaaMem
import Derived.Lib.SmallJoins
namespace Go.Proofs.Ytpfffpajnjeoeaa
open Go.RowKit Go.ChangeShapes Go.WideShapes Go.ChangeAt Go.Deep

theorem Try.cells3 : Try.prog.cellsOf 3 = 1 := by kernel_rfl
theorem Try.cells23 : Try.prog.cellsOf 23 = 2 := by kernel_rfl
theorem Try.cells24 : Try.prog.cellsOf 24 = 1 := by kernel_rfl
theorem Try.cells25 : Try.prog.cellsOf 25 = 1 := by kernel_rfl
theorem Try.cells27 : Try.prog.cellsOf 27 = 6 := by kernel_rfl
theorem Try.cells28 : Try.prog.cellsOf 28 = 1 := by kernel_rfl
theorem Try.cells30 : Try.prog.cellsOf 30 = 7 := by kernel_rfl
theorem Try.cells45 : Try.prog.cellsOf 45 = 6 := by kernel_rfl
theorem Try.cells46 : Try.prog.cellsOf 46 = 1 := by kernel_rfl
theorem Try.cells48 : Try.prog.cellsOf 48 = 2 := by kernel_rfl

section
variable {H : Type} {enc : TypeId × Value → H} {w : World} {spare : Nat → Bool} {held : Bool}
/-- A slice of elements of K cells each, as a cell. -/
theorem open_rowsC {α : Type} {Q : α → List Value → Prop} {K : Nat} {t e : TypeId} {fuel : Nat} {cs : List Value} {x : DataW H × List MemPlace} (hK : 0 < K) (ht : Try.prog.underlying t = some (.slice e)) (hC : Try.prog.cellsOf e = K)
    (hel : ∀ (fuel : Nat) (cs : List Value) (x : DataW H × List MemPlace), DataW.trod enc Try.prog w 0 spare held fuel e cs = some x → cs.length = K ∧ ∃ z : α, Q z cs)
    (hf : DataW.trod enc Try.prog w 0 spare held fuel t cs = some x) :
    ∃ (a : Option Addr) (cap : Nat) (L : List α), cs = [.slice a L.length cap] ∧ L.length ≤ cap ∧ L.length ≤ maxLen ∧
      ∃ b o, (0 < L.length → a = some ⟨b, o, none⟩ ∧ b < w.heap.size) ∧ ∀ i (_ : i < L.length), ∃ cs', Q L[i] cs' ∧ ∀ j, j < K → w.cell? ⟨b, o + (i * K + j), none⟩ = cs'[j]? := by
  rcases open_slice ht hf with ⟨hcs, _⟩ | ⟨a', len', cap', m, n, D, Pl, hcs, _, hl, hm, hmm, _, hi⟩
  · exact ⟨none, 0, [], hcs, by simp, by simp [maxLen], 0, 0, fun h => by simp at h, fun i h => by simp at h⟩
  · have hle : len' ≤ m := by rw [hmm]; split <;> omega
    obtain ⟨L, hL, hP⟩ := list_of (P := fun i z => ∃ cs', w.cells? 0 (a'.add (i * K)) K = some cs' ∧ cs'.length = K ∧ Q z cs') len' (fun i hin => by
      obtain ⟨cs', h1, h2⟩ := hi i (by omega)
      obtain ⟨hlen, z, hz⟩ := hel _ _ _ h2
      rw [hC] at h1
      exact ⟨z, cs', h1, hlen, hz⟩)
    subst hL
    refine ⟨some a', cap', L, hcs, hl, by omega, a'.block, a'.off, fun hp => ?_, fun i hin => ?_⟩
    · obtain ⟨cs', h1, hlen, _⟩ := hP 0 hp
      obtain ⟨_, hlen2, hat⟩ := World.cells?_some h1
      have hu : w.cell? a' = some (cs'[0]'(by omega)) := by
        have := hat 0 hK
        rw [List.getElem?_eq_getElem (by omega)] at this
        simpa [Addr.add] using this
      exact ⟨by rw [← spot_of hu], World.block_lt_of_cell? w _ hu⟩
    · obtain ⟨cs', h1, hlen, hq⟩ := hP i hin
      obtain ⟨_, hlen2, hat⟩ := World.cells?_some h1
      refine ⟨cs', hq, fun j hj => ?_⟩
      have hsp : a' = ⟨a'.block, a'.off, none⟩ := by
        obtain ⟨cs0, h10, hlen0, _⟩ := hP 0 (by omega)
        obtain ⟨_, _, hat0⟩ := World.cells?_some h10
        have hu : w.cell? a' = some (cs0[0]'(by omega)) := by
          have := hat0 0 hK
          rw [List.getElem?_eq_getElem (by omega)] at this
          simpa [Addr.add] using this
        exact spot_of hu
      have := hat j hj
      rw [hsp, addr_add2] at this
      exact this
theorem int_cell {fuel : Nat} {cs : List Value} {x : DataW H × List MemPlace} (h : DataW.trod enc Try.prog w 0 spare held fuel 3 cs = some x) : ∃ z : Int, cs = [.int .i64 z] := by
  obtain ⟨z, hz, _, _⟩ := DataW.trod_int Try.underlying3 h
  exact ⟨z, hz⟩
theorem nums_cell {fuel : Nat} {cs : List Value} {x : DataW H × List MemPlace} (h : DataW.trod enc Try.prog w 0 spare held fuel 24 cs = some x) :
    ∃ (a : Option Addr) (cap : Nat) (Z : List Int), cs = [.slice a Z.length cap] ∧ Z.length ≤ maxLen ∧ RowAt w a (ints Z) := by
  obtain ⟨a, cap, L, h1, _, h3, b, o, ha, hc⟩ := open_rowsC (Q := fun (z : Int) cs => cs = [.int .i64 z]) (by decide) Try.underlying24 Try.cells3 (fun fuel cs x h => by
    obtain ⟨z, hz⟩ := int_cell h
    exact ⟨by rw [hz]; rfl, z, hz⟩) h
  refine ⟨a, cap, L, h1, h3, fun i hi => ?_⟩
  have hl : i < L.length := by simpa [ints_len] using hi
  obtain ⟨e1, e2⟩ := ha (by omega)
  refine ⟨b, o, e1, e2, fun j hj => ?_⟩
  have hjl : j < L.length := by simpa [ints_len] using hj
  obtain ⟨cs', hq, hat⟩ := hc j hjl
  have := hat 0 (by decide)
  rw [hq] at this
  simp only [Nat.mul_one, Nat.add_zero] at this
  rw [this]
  simp [ints, hjl]
/-- A slice, whatever it holds. -/
theorem any_cell {t e : TypeId} (ht : Try.prog.underlying t = some (.slice e)) {fuel : Nat} {cs : List Value} {x : DataW H × List MemPlace} (h : DataW.trod enc Try.prog w 0 spare held fuel t cs = some x) :
    ∃ (a : Option Addr) (n cap : Nat), cs = [.slice a n cap] := by
  rcases open_slice ht h with ⟨hcs, _⟩ | ⟨a', len', cap', m, n, D, Pl, hcs, _⟩
  · exact ⟨none, 0, 0, hcs⟩
  · exact ⟨some a', len', cap', hcs⟩
theorem ply_cells {t : TypeId} {g h : Field} {fuel : Nat} {cs : List Value} {x : DataW H × List MemPlace}
    (hs : Try.prog.underlying t = some (.struct #[g, h])) (hg : g.type = 3 ∧ g.offset = 0) (hh : h.type = 46 ∧ h.offset = 1) (hC : Try.prog.cellsOf t = 2)
    (hf : DataW.trod enc Try.prog w 0 spare held fuel t cs = some x) : cs.length = 2 ∧ ∃ z : Int, ∃ a n c, cs = [.int .i64 z, .slice a n c] := by
  obtain ⟨xs, n, _, _, hl, hxl, hi⟩ := DataW.trod_struct hs hf
  have h0 := hi 0 g rfl
  have h1 := hi 1 h rfl
  have hxl' : xs.length = 2 := hxl
  rw [hg.1, hg.2, Try.cells3, List.getElem?_eq_getElem (by omega)] at h0
  rw [hh.1, hh.2, Try.cells46, List.getElem?_eq_getElem (by omega)] at h1
  obtain ⟨z, hz⟩ := int_cell h0
  obtain ⟨a, n2, c, hc⟩ := any_cell Try.underlying46 h1
  rw [hC] at hl
  obtain ⟨c0, c1, rfl⟩ : ∃ c0 c1, cs = [c0, c1] := by
    match cs, hl with
    | [c0, c1], _ => exact ⟨c0, c1, rfl⟩
  simp at hz hc
  exact ⟨rfl, z, a, n2, c, by rw [hz, hc]⟩
theorem plies_cell {fuel : Nat} {cs : List Value} {x : DataW H × List MemPlace} (h : DataW.trod enc Try.prog w 0 spare held fuel 28 cs = some x) :
    ∃ (a : Option Addr) (cap : Nat) (P : List Int), cs = [.slice a P.length cap] ∧ P.length ≤ cap ∧ P.length ≤ maxLen ∧ PliesAt w a P := by
  obtain ⟨a, cap, L, h1, h2, h3, b, o, ha, hc⟩ := open_rowsC (Q := fun (z : Int) cs => ∃ a n c, cs = [.int .i64 z, .slice a n c]) (by decide) Try.underlying28 Try.cells48 (fun fuel cs x h => ply_cells Try.underlying48 ⟨rfl, rfl⟩ ⟨rfl, rfl⟩ Try.cells48 h) h
  refine ⟨a, cap, L, h1, h2, h3, b, o, ha, fun i hi => ?_⟩
  obtain ⟨cs', ⟨a', n', c', rfl⟩, hat⟩ := hc i hi
  have e : L.getD i 0 = L[i] := by simp [List.getD, hi]
  rw [e]
  exact ⟨hat 0 (by decide), a', n', c', hat 1 (by decide)⟩
theorem pair_cells {t : TypeId} {g h : Field} {fuel : Nat} {cs : List Value} {x : DataW H × List MemPlace}
    (hs : Try.prog.underlying t = some (.struct #[g, h])) (hg : g.type = 3 ∧ g.offset = 0) (hh : h.type = 3 ∧ h.offset = 1) (hC : Try.prog.cellsOf t = 2)
    (hf : DataW.trod enc Try.prog w 0 spare held fuel t cs = some x) : ∃ a b : Int, cs = [.int .i64 a, .int .i64 b] := by
  obtain ⟨xs, n, _, _, hl, hxl, hi⟩ := DataW.trod_struct hs hf
  have h0 := hi 0 g rfl
  have h1 := hi 1 h rfl
  have hxl' : xs.length = 2 := hxl
  rw [hg.1, hg.2, Try.cells3, List.getElem?_eq_getElem (by omega)] at h0
  rw [hh.1, hh.2, Try.cells3, List.getElem?_eq_getElem (by omega)] at h1
  obtain ⟨a, ha⟩ := int_cell h0
  obtain ⟨b, hb⟩ := int_cell h1
  rw [hC] at hl
  obtain ⟨c0, c1, rfl⟩ : ∃ c0 c1, cs = [c0, c1] := by
    match cs, hl with
    | [c0, c1], _ => exact ⟨c0, c1, rfl⟩
  simp at ha hb
  exact ⟨a, b, by rw [ha, hb]⟩
theorem marker_cells {t : TypeId} {g h i k l : Field} {fuel : Nat} {cs : List Value} {x : DataW H × List MemPlace}
    (hs : Try.prog.underlying t = some (.struct #[g, h, i, k, l])) (hg : g.type = 3 ∧ g.offset = 0) (hh : h.type = 3 ∧ h.offset = 1) (hi' : i.type = 23 ∧ i.offset = 2) (hk : k.type = 24 ∧ k.offset = 4) (hl' : l.type = 25 ∧ l.offset = 5) (hC : Try.prog.cellsOf t = 6)
    (hf : DataW.trod enc Try.prog w 0 spare held fuel t cs = some x) :
    ∃ (n1 n2 n3 n4 : Int) (sa : Option Addr) (sc : Nat) (Z : List Int) (pa : Option Addr) (pn pc : Nat), cs = [.int .i64 n1, .int .i64 n2, .int .i64 n3, .int .i64 n4, .slice sa Z.length sc, .slice pa pn pc] ∧ Z.length ≤ maxLen ∧ RowAt w sa (ints Z) := by
  obtain ⟨xs, n, _, _, hl, hxl, hi⟩ := DataW.trod_struct hs hf
  have h0 := hi 0 g rfl
  have h1 := hi 1 h rfl
  have h2 := hi 2 i rfl
  have h3 := hi 3 k rfl
  have h4 := hi 4 l rfl
  have hxl' : xs.length = 5 := hxl
  rw [hg.1, hg.2, Try.cells3, List.getElem?_eq_getElem (by omega)] at h0
  rw [hh.1, hh.2, Try.cells3, List.getElem?_eq_getElem (by omega)] at h1
  rw [hi'.1, hi'.2, Try.cells23, List.getElem?_eq_getElem (by omega)] at h2
  rw [hk.1, hk.2, Try.cells24, List.getElem?_eq_getElem (by omega)] at h3
  rw [hl'.1, hl'.2, Try.cells25, List.getElem?_eq_getElem (by omega)] at h4
  obtain ⟨n1, e1⟩ := int_cell h0
  obtain ⟨n2, e2⟩ := int_cell h1
  obtain ⟨n3, n4, e3⟩ := pair_cells Try.underlying23 ⟨rfl, rfl⟩ ⟨rfl, rfl⟩ Try.cells23 h2
  obtain ⟨sa, sc, Z, e4, hZ, hr⟩ := nums_cell h3
  obtain ⟨pa, pn, pc, e5⟩ := any_cell Try.underlying25 h4
  rw [hC] at hl
  obtain ⟨c0, c1, c2, c3, c4, c5, rfl⟩ : ∃ c0 c1 c2 c3 c4 c5, cs = [c0, c1, c2, c3, c4, c5] := by
    match cs, hl with
    | [c0, c1, c2, c3, c4, c5], _ => exact ⟨c0, c1, c2, c3, c4, c5, rfl⟩
  simp at e1 e2 e3 e4 e5
  exact ⟨n1, n2, n3, n4, sa, sc, Z, pa, pn, pc, by rw [e1, e2, e3.1, e3.2, e4, e5], hZ, hr⟩
theorem lay_parts {t : TypeId} {g h : Field} {fuel : Nat} {cs : List Value} {x : DataW H × List MemPlace}
    (hs : Try.prog.underlying t = some (.struct #[g, h])) (hg : g.type = 27 ∧ g.offset = 0) (hh : h.type = 28 ∧ h.offset = 6) (hC : Try.prog.cellsOf t = 7)
    (hf : DataW.trod enc Try.prog w 0 spare held fuel t cs = some x) :
    ∃ (y : Lay) (Z P : List Int), cs = [.int .i64 y.n1, .int .i64 y.n2, .int .i64 y.n3, .int .i64 y.n4, .slice y.sa Z.length y.sc, .slice y.pa y.pn y.pc, .slice y.ya P.length y.yc] ∧ Z.length ≤ maxLen ∧ RowAt w y.sa (ints Z) ∧ P.length ≤ y.yc ∧ P.length ≤ maxLen ∧ PliesAt w y.ya P := by
  obtain ⟨xs, n, _, _, hl, hxl, hi⟩ := DataW.trod_struct hs hf
  have h0 := hi 0 g rfl
  have h1 := hi 1 h rfl
  have hxl' : xs.length = 2 := hxl
  rw [hg.1, hg.2, Try.cells27, List.getElem?_eq_getElem (by omega)] at h0
  rw [hh.1, hh.2, Try.cells28, List.getElem?_eq_getElem (by omega)] at h1
  obtain ⟨n1, n2, n3, n4, sa, sc, Z, pa, pn, pc, e1, hZ, hr⟩ := marker_cells Try.underlying27 ⟨rfl, rfl⟩ ⟨rfl, rfl⟩ ⟨rfl, rfl⟩ ⟨rfl, rfl⟩ ⟨rfl, rfl⟩ Try.cells27 h0
  obtain ⟨ya, yc, P, e2, hP1, hP2, hP3⟩ := plies_cell h1
  rw [hC] at hl
  obtain ⟨c0, c1, c2, c3, c4, c5, c6, rfl⟩ : ∃ c0 c1 c2 c3 c4 c5 c6, cs = [c0, c1, c2, c3, c4, c5, c6] := by
    match cs, hl with
    | [c0, c1, c2, c3, c4, c5, c6], _ => exact ⟨c0, c1, c2, c3, c4, c5, c6, rfl⟩
  simp at e1 e2
  obtain ⟨rfl, rfl, rfl, rfl, rfl, rfl⟩ := e1
  subst e2
  exact ⟨⟨n1, n2, n3, n4, sa, sc, pa, pn, pc, ya, yc⟩, Z, P, rfl, hZ, hr, hP1, hP2, hP3⟩
theorem open_lay {r : Go.Reach} {b0 : Nat} {v : Value} {d : DataW H} {p : List MemPlace} (hv : Value.okWide Try.prog w r b0 30 v) (hd : DataW.Trod enc Try.prog w 0 spare held 30 v d p) :
    ∃ (y : Lay) (Z P : List Int), v = .agg #[.int .i64 y.n1, .int .i64 y.n2, .int .i64 y.n3, .int .i64 y.n4, .slice y.sa Z.length y.sc, .slice y.pa y.pn y.pc, .slice y.ya P.length y.yc] ∧ Z.length ≤ maxLen ∧ RowAt w y.sa (ints Z) ∧ P.length ≤ y.yc ∧ P.length ≤ maxLen ∧ PliesAt w y.ya P := by
  obtain ⟨cs, rfl, _⟩ := okWide_struct Try.underlying30 hv
  obtain ⟨fuel, hf⟩ := hd
  obtain ⟨y, Z, P, e, h⟩ := lay_parts Try.underlying30 ⟨rfl, rfl⟩ ⟨rfl, rfl⟩ Try.cells30 hf
  obtain ⟨l⟩ := cs
  refine ⟨y, Z, P, ?_, h⟩
  have e' : l = [.int .i64 y.n1, .int .i64 y.n2, .int .i64 y.n3, .int .i64 y.n4, .slice y.sa Z.length y.sc, .slice y.pa y.pn y.pc, .slice y.ya P.length y.yc] := by simpa [Value.cells] using e
  rw [e']
theorem bun_parts {t : TypeId} {g h i k l m : Field} {fuel : Nat} {cs : List Value} {x : DataW H × List MemPlace}
    (hs : Try.prog.underlying t = some (.struct #[g, h, i, k, l, m])) (hg : g.type = 3 ∧ g.offset = 0) (hh : h.type = 3 ∧ h.offset = 1) (hi' : i.type = 3 ∧ i.offset = 2) (hk : k.type = 3 ∧ k.offset = 3) (hl' : l.type = 3 ∧ l.offset = 4) (hm : m.type = 3 ∧ m.offset = 5) (hC : Try.prog.cellsOf t = 6)
    (hf : DataW.trod enc Try.prog w 0 spare held fuel t cs = some x) : cs.length = 6 ∧ ∃ b : Bun, cs = [.int .i64 b.t, .int .i64 b.g, .int .i64 b.s, .int .i64 b.l, .int .i64 b.f, .int .i64 b.o] := by
  obtain ⟨xs, n, _, _, hl, hxl, hi⟩ := DataW.trod_struct hs hf
  have h0 := hi 0 g rfl
  have h1 := hi 1 h rfl
  have h2 := hi 2 i rfl
  have h3 := hi 3 k rfl
  have h4 := hi 4 l rfl
  have h5 := hi 5 m rfl
  have hxl' : xs.length = 6 := hxl
  rw [hg.1, hg.2, Try.cells3, List.getElem?_eq_getElem (by omega)] at h0
  rw [hh.1, hh.2, Try.cells3, List.getElem?_eq_getElem (by omega)] at h1
  rw [hi'.1, hi'.2, Try.cells3, List.getElem?_eq_getElem (by omega)] at h2
  rw [hk.1, hk.2, Try.cells3, List.getElem?_eq_getElem (by omega)] at h3
  rw [hl'.1, hl'.2, Try.cells3, List.getElem?_eq_getElem (by omega)] at h4
  rw [hm.1, hm.2, Try.cells3, List.getElem?_eq_getElem (by omega)] at h5
  obtain ⟨n0, e0⟩ := int_cell h0
  obtain ⟨n1, e1⟩ := int_cell h1
  obtain ⟨n2, e2⟩ := int_cell h2
  obtain ⟨n3, e3⟩ := int_cell h3
  obtain ⟨n4, e4⟩ := int_cell h4
  obtain ⟨n5, e5⟩ := int_cell h5
  rw [hC] at hl
  obtain ⟨c0, c1, c2, c3, c4, c5, rfl⟩ : ∃ c0 c1 c2 c3 c4 c5, cs = [c0, c1, c2, c3, c4, c5] := by
    match cs, hl with
    | [c0, c1, c2, c3, c4, c5], _ => exact ⟨c0, c1, c2, c3, c4, c5, rfl⟩
  simp at e0 e1 e2 e3 e4 e5
  exact ⟨rfl, ⟨n0, n1, n2, n3, n4, n5⟩, by rw [e0, e1, e2, e3, e4, e5]⟩
theorem open_buns {r : Go.Reach} {b0 : Nat} {v : Value} {d : DataW H} {p : List MemPlace} (hv : Value.okWide Try.prog w r b0 33 v) (hd : DataW.Trod enc Try.prog w 0 spare held 33 v d p) :
    ∃ (a : Option Addr) (cap : Nat) (B : List Bun), v = .slice a B.length cap ∧ B.length ≤ cap ∧ B.length ≤ maxLen ∧ BunsAt w a B := by
  obtain ⟨a0, len, cap0, rfl⟩ := okWide_slice Try.underlying33 hv
  obtain ⟨fuel, hf⟩ := hd
  obtain ⟨a, cap, L, h1, h2, h3, b, o, ha, hc⟩ := open_rowsC (Q := fun (b : Bun) cs => cs = [.int .i64 b.t, .int .i64 b.g, .int .i64 b.s, .int .i64 b.l, .int .i64 b.f, .int .i64 b.o]) (by decide) Try.underlying33 Try.cells45 (fun fuel cs x h => bun_parts Try.underlying45 ⟨rfl, rfl⟩ ⟨rfl, rfl⟩ ⟨rfl, rfl⟩ ⟨rfl, rfl⟩ ⟨rfl, rfl⟩ ⟨rfl, rfl⟩ Try.cells45 h) hf
  simp [Value.cells] at h1
  obtain ⟨rfl, rfl, rfl⟩ := h1
  refine ⟨a0, cap0, L, rfl, h2, h3, b, o, ha, fun i hi => ?_⟩
  obtain ⟨cs', rfl, hat⟩ := hc i hi
  have e : bn L i = L[i] := by simp [bn, List.getD, hi]
  rw [e]
  exact ⟨hat 0 (by decide), hat 1 (by decide), hat 2 (by decide), hat 3 (by decide), hat 4 (by decide), hat 5 (by decide)⟩
end
end Go.Proofs.Ytpfffpajnjeoeaa
