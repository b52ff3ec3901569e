/-
  The contracts of Find and of the reference Find.
-/
import Derived.Test.YtpfffpajnjeoeaaMem
import Derived.Deep.LoopGhost
namespace Go.Proofs.Ytpfffpajnjeoeaa
open Go.RowKit

/-- What Find answers. -/
def FindIs (B : List Bun) (g p : Int) (k : Int) (y : Bool) : Prop := (∃ i : Nat, FindAt B g p i ∧ k = i ∧ y = true) ∨ (FindNo B g p ∧ k = 0 ∧ y = false)
theorem find_unique {B : List Bun} {g p k k' : Int} {y y' : Bool} (h : FindIs B g p k y) (h' : FindIs B g p k' y') : k = k' ∧ y = y' := by
  rcases h with ⟨i, h1, rfl, rfl⟩ | ⟨h1, rfl, rfl⟩
  · rcases h' with ⟨i', h1', rfl, rfl⟩ | ⟨h1', rfl, rfl⟩
    · exact ⟨by rw [findAt_unique h1 h1'], rfl⟩
    · exact (findAt_no h1 h1').elim
  · rcases h' with ⟨i', h1', rfl, rfl⟩ | ⟨h1', rfl, rfl⟩
    · exact (findAt_no h1' h1).elim
    · exact ⟨rfl, rfl⟩
set_option maxRecDepth 100000 in
set_option maxHeartbeats 4000000 in
theorem Find_any (a : Option Addr) (c : Nat) (B : List Bun) (g p : Int) (w : World) (h : BunsAt w a B) (hm : B.length ≤ 1000000) (k : Int) (y : Bool) (hF : FindIs B g p k y) :
    Calls Try.prog 16 #[.slice a B.length c, .int .i64 g, .int .i64 p] w fun e w' => e = .returned (.tuple #[.int .i64 k, .bool y]) ∧ ∃ z, w' = ext w z := by
  obtain ⟨b, o, ha, hc⟩ := h
  have HA := Lib.hid ha
  have HC := Lib.hid hc
  have HF := Lib.hid hF
  clear ha hc hF
  generalize hn : B.length = n at *
  have HN := Lib.hid hn
  clear hn
  go_enter Try.func16, Try.ntmps16
  go_wp2
  go_loopg [12] n (fun gk i wr => ∃ j : Nat, gk = n - j ∧ j ≤ n ∧ i = .int .i64 j ∧ (∀ i', i' < j → ¬ Has (bn B i') g p) ∧ Below w.heap.size w wr)
  case atStart => exact ⟨0, by omega, by omega, rfl, fun i hi => by omega, Below.refl _ _⟩
  case round =>
    obtain ⟨j, hgj, hj, rfl, hno, hbel⟩ := hrel
    have HG := Lib.hid hgj
    have HO := Lib.hid hno
    clear hgj hno
    have hsz := hbel.size
    by_cases hlt : j < n
    · obtain ⟨rfl, hbl⟩ := HA.out (by omega)
      obtain ⟨c0, c1, c2, c3, c4, c5⟩ := HC.out j hlt
      rw [← hbel.cell (by exact hbl)] at c0 c1 c2 c3 c4 c5
      have i1 : (0 : Int) ≤ (j : Int) ∧ (j : Int) < (n : Int) := by omega
      have hb' : b < wr.heap.size := by omega
      by_cases hh : Has (bn B j) g p
      · have HE := Lib.hid (find_unique HF.out (Or.inl ⟨j, ⟨by rw [HN.out]; exact hlt, hh, HO.out⟩, rfl, rfl⟩))
        obtain ⟨hg, hf, ho⟩ := hh
        rw [hg] at c1
        clear hg
        generalize bn B j = u at *
        go_wp2
        go_ret2
        obtain ⟨rfl, rfl⟩ := HE.out
        exact ⟨rfl, (below_ext (by repeat (first | exact hbel | exact Below.refl _ _ | (with_reducible refine Below.setCell ?_ (by first | omega | (simp; done) | (simp; omega)) _) | (with_reducible refine Below.alloc ?_ (by first | omega | (simp; done) | (simp; omega)) _) | (with_reducible refine Below.onDrewN ?_ _) | (with_reducible refine Below.drew ?_) | (with_reducible refine Below.ofExt ?_ (by first | omega | (simp; done) | (simp; omega))))))⟩
      · have HN2 : Hid (∀ i', i' < j + 1 → ¬ Has (bn B i') g p) := Lib.hid (fun i' hi' => by
          by_cases e : i' = j
          · rw [e]; exact hh
          · exact HO.out i' (by omega))
        by_cases hg : (bn B j).g = g
        · rw [hg] at c1
          by_cases hf : (bn B j).f ≤ p
          · have ho : ¬ p < (bn B j).o := fun e => hh ⟨hg, hf, e⟩
            clear hh hg
            generalize bn B j = u at *
            go_wp2
            go_roundg (n - (j + 1))
            case measure => rw [HG.out]; omega
            case rel => exact ⟨j + 1, rfl, by omega, by go_num, HN2.out, (by repeat (first | exact hbel | exact Below.refl _ _ | (with_reducible refine Below.setCell ?_ (by first | omega | (simp; done) | (simp; omega)) _) | (with_reducible refine Below.alloc ?_ (by first | omega | (simp; done) | (simp; omega)) _) | (with_reducible refine Below.onDrewN ?_ _) | (with_reducible refine Below.drew ?_) | (with_reducible refine Below.ofExt ?_ (by first | omega | (simp; done) | (simp; omega)))))⟩
          · clear hh hg
            generalize bn B j = u at *
            go_wp2
            go_roundg (n - (j + 1))
            case measure => rw [HG.out]; omega
            case rel => exact ⟨j + 1, rfl, by omega, by go_num, HN2.out, (by repeat (first | exact hbel | exact Below.refl _ _ | (with_reducible refine Below.setCell ?_ (by first | omega | (simp; done) | (simp; omega)) _) | (with_reducible refine Below.alloc ?_ (by first | omega | (simp; done) | (simp; omega)) _) | (with_reducible refine Below.onDrewN ?_ _) | (with_reducible refine Below.drew ?_) | (with_reducible refine Below.ofExt ?_ (by first | omega | (simp; done) | (simp; omega)))))⟩
        · have hgb : ((bn B j).g == g) = false := by rw [beq_eq_false_iff_ne]; exact hg
          clear hh hg
          generalize bn B j = u at *
          go_wp2
          go_roundg (n - (j + 1))
          case measure => rw [HG.out]; omega
          case rel => exact ⟨j + 1, rfl, by omega, by go_num, HN2.out, (by repeat (first | exact hbel | exact Below.refl _ _ | (with_reducible refine Below.setCell ?_ (by first | omega | (simp; done) | (simp; omega)) _) | (with_reducible refine Below.alloc ?_ (by first | omega | (simp; done) | (simp; omega)) _) | (with_reducible refine Below.onDrewN ?_ _) | (with_reducible refine Below.drew ?_) | (with_reducible refine Below.ofExt ?_ (by first | omega | (simp; done) | (simp; omega)))))⟩
    · obtain rfl : j = n := by omega
      have HE := Lib.hid (find_unique HF.out (Or.inr ⟨fun i hi => HO.out i (by rw [HN.out] at hi; exact hi), rfl, rfl⟩))
      go_wp2
      go_ret2
      obtain ⟨rfl, rfl⟩ := HE.out
      exact ⟨rfl, (below_ext (by repeat (first | exact hbel | exact Below.refl _ _ | (with_reducible refine Below.setCell ?_ (by first | omega | (simp; done) | (simp; omega)) _) | (with_reducible refine Below.alloc ?_ (by first | omega | (simp; done) | (simp; omega)) _) | (with_reducible refine Below.onDrewN ?_ _) | (with_reducible refine Below.drew ?_) | (with_reducible refine Below.ofExt ?_ (by first | omega | (simp; done) | (simp; omega))))))⟩
set_option maxRecDepth 100000 in
set_option maxHeartbeats 4000000 in
theorem RFind_any (a : Option Addr) (c : Nat) (B : List Bun) (g p : Int) (w : World) (h : BunsAt w a B) (hm : B.length ≤ 1000000) (k : Int) (y : Bool) (hF : FindIs B g p k y) :
    Calls Try.prog 17 #[.slice a B.length c, .int .i64 g, .int .i64 p] w fun e w' => e = .returned (.tuple #[.int .i64 k, .bool y]) ∧ ∃ z, w' = ext w z := by
  obtain ⟨b, o, ha, hc⟩ := h
  have HA := Lib.hid ha
  have HC := Lib.hid hc
  have HF := Lib.hid hF
  clear ha hc hF
  generalize hn : B.length = n at *
  have HN := Lib.hid hn
  clear hn
  go_enter Try.func17, Try.ntmps17
  go_wp2
  go_loopg [8] n (fun gk i wr => ∃ j : Nat, gk = n - j ∧ j ≤ n ∧ i = .int .i64 j ∧ (∀ i', i' < j → ¬ Has (bn B i') g p) ∧ Below w.heap.size w wr)
  case atStart => exact ⟨0, by omega, by omega, rfl, fun i hi => by omega, Below.refl _ _⟩
  case round =>
    obtain ⟨j, hgj, hj, rfl, hno, hbel⟩ := hrel
    have HG := Lib.hid hgj
    have HO := Lib.hid hno
    clear hgj hno
    have hsz := hbel.size
    by_cases hlt : j < n
    · obtain ⟨rfl, hbl⟩ := HA.out (by omega)
      obtain ⟨c0, c1, c2, c3, c4, c5⟩ := HC.out j hlt
      rw [← hbel.cell (by exact hbl)] at c0 c1 c2 c3 c4 c5
      have i1 : (0 : Int) ≤ (j : Int) ∧ (j : Int) < (n : Int) := by omega
      have hb' : b < wr.heap.size := by omega
      by_cases hh : Has (bn B j) g p
      · have HE := Lib.hid (find_unique HF.out (Or.inl ⟨j, ⟨by rw [HN.out]; exact hlt, hh, HO.out⟩, rfl, rfl⟩))
        obtain ⟨hg, hf, ho⟩ := hh
        rw [hg] at c1
        clear hg
        generalize bn B j = u at *
        go_wp2
        go_ret2
        obtain ⟨rfl, rfl⟩ := HE.out
        exact ⟨rfl, (below_ext (by repeat (first | exact hbel | exact Below.refl _ _ | (with_reducible refine Below.setCell ?_ (by first | omega | (simp; done) | (simp; omega)) _) | (with_reducible refine Below.alloc ?_ (by first | omega | (simp; done) | (simp; omega)) _) | (with_reducible refine Below.onDrewN ?_ _) | (with_reducible refine Below.drew ?_) | (with_reducible refine Below.ofExt ?_ (by first | omega | (simp; done) | (simp; omega))))))⟩
      · have HN2 : Hid (∀ i', i' < j + 1 → ¬ Has (bn B i') g p) := Lib.hid (fun i' hi' => by
          by_cases e : i' = j
          · rw [e]; exact hh
          · exact HO.out i' (by omega))
        by_cases hg : (bn B j).g = g
        · rw [hg] at c1
          by_cases hf : (bn B j).f ≤ p
          · have ho : ¬ p < (bn B j).o := fun e => hh ⟨hg, hf, e⟩
            clear hh hg
            generalize bn B j = u at *
            go_wp2
            go_roundg (n - (j + 1))
            case measure => rw [HG.out]; omega
            case rel => exact ⟨j + 1, rfl, by omega, by go_num, HN2.out, (by repeat (first | exact hbel | exact Below.refl _ _ | (with_reducible refine Below.setCell ?_ (by first | omega | (simp; done) | (simp; omega)) _) | (with_reducible refine Below.alloc ?_ (by first | omega | (simp; done) | (simp; omega)) _) | (with_reducible refine Below.onDrewN ?_ _) | (with_reducible refine Below.drew ?_) | (with_reducible refine Below.ofExt ?_ (by first | omega | (simp; done) | (simp; omega)))))⟩
          · clear hh hg
            generalize bn B j = u at *
            go_wp2
            go_roundg (n - (j + 1))
            case measure => rw [HG.out]; omega
            case rel => exact ⟨j + 1, rfl, by omega, by go_num, HN2.out, (by repeat (first | exact hbel | exact Below.refl _ _ | (with_reducible refine Below.setCell ?_ (by first | omega | (simp; done) | (simp; omega)) _) | (with_reducible refine Below.alloc ?_ (by first | omega | (simp; done) | (simp; omega)) _) | (with_reducible refine Below.onDrewN ?_ _) | (with_reducible refine Below.drew ?_) | (with_reducible refine Below.ofExt ?_ (by first | omega | (simp; done) | (simp; omega)))))⟩
        · have hgb : ((bn B j).g == g) = false := by rw [beq_eq_false_iff_ne]; exact hg
          clear hh hg
          generalize bn B j = u at *
          go_wp2
          go_roundg (n - (j + 1))
          case measure => rw [HG.out]; omega
          case rel => exact ⟨j + 1, rfl, by omega, by go_num, HN2.out, (by repeat (first | exact hbel | exact Below.refl _ _ | (with_reducible refine Below.setCell ?_ (by first | omega | (simp; done) | (simp; omega)) _) | (with_reducible refine Below.alloc ?_ (by first | omega | (simp; done) | (simp; omega)) _) | (with_reducible refine Below.onDrewN ?_ _) | (with_reducible refine Below.drew ?_) | (with_reducible refine Below.ofExt ?_ (by first | omega | (simp; done) | (simp; omega)))))⟩
    · obtain rfl : j = n := by omega
      have HE := Lib.hid (find_unique HF.out (Or.inr ⟨fun i hi => HO.out i (by rw [HN.out] at hi; exact hi), rfl, rfl⟩))
      go_wp2
      go_ret2
      obtain ⟨rfl, rfl⟩ := HE.out
      exact ⟨rfl, (below_ext (by repeat (first | exact hbel | exact Below.refl _ _ | (with_reducible refine Below.setCell ?_ (by first | omega | (simp; done) | (simp; omega)) _) | (with_reducible refine Below.alloc ?_ (by first | omega | (simp; done) | (simp; omega)) _) | (with_reducible refine Below.onDrewN ?_ _) | (with_reducible refine Below.drew ?_) | (with_reducible refine Below.ofExt ?_ (by first | omega | (simp; done) | (simp; omega))))))⟩
end Go.Proofs.Ytpfffpajnjeoeaa
