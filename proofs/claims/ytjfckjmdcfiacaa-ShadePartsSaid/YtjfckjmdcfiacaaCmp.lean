/-
  The contracts of the comparison of two lists and of the reference Worst.
-/
import Derived.Test.YtjfckjmdcfiacaaLots
import Derived.Test.YtjfckjmdcfiacaaWst
namespace Go.Proofs.Ytjfckjmdcfiacaa
open Go.RowKit

/-- The array behind a slice begins with the numbers X. -/
theorem row_spread {w : World} {a : Option Addr} {X : List Int} (h : RowAt w a (ints X)) : ∃ b o, (0 < X.length → a = some ⟨b, o, none⟩ ∧ b < w.heap.size) ∧ ∀ j, j < X.length → w.cell? ⟨b, o + j, none⟩ = some (.int .i64 (X.getD j 0)) := by
  by_cases c : 0 < X.length
  · obtain ⟨b, o, e, hlt, hc⟩ := h 0 (by simpa [ints_len] using c)
    refine ⟨b, o, fun _ => ⟨e, hlt⟩, fun j hj => ?_⟩
    rw [hc j (by simpa [ints_len] using hj)]
    simp [ints, List.getD, hj]
  · exact ⟨0, 0, fun h => absurd h c, fun i hi => by omega⟩
theorem list_eq_getD {D E : List Int} (hl : D.length = E.length) (h : ∀ i, i < D.length → D.getD i 0 = E.getD i 0) : D = E := by
  apply List.ext_getElem hl
  intro i h1 h2
  have := h i h1
  simpa [List.getD, h1, h2] using this

set_option maxHeartbeats 2000000 in
theorem Same_any (a a' : Option Addr) (c c' : Nat) (D E : List Int) (w : World) (h : RowAt w a (ints D)) (h' : RowAt w a' (ints E)) (hm : D.length ≤ 1000000) :
    Calls Try.prog 16 #[.slice a D.length c, .slice a' E.length c'] w fun e w' => e = .returned (.bool (decide (D = E))) ∧ ∃ z, w' = ext w z := by
  by_cases hl : D.length = E.length
  · have HL := Lib.hid hl
    obtain ⟨b, o, ha, hc⟩ := row_spread h
    obtain ⟨b', o', ha', hc'⟩ := row_spread h'
    rw [← hl] at ha' hc'
    have HA := Lib.hid ha
    have HA' := Lib.hid ha'
    have HC := Lib.hid hc
    have HC' := Lib.hid hc'
    clear h h' ha ha' hc hc'
    rw [← hl]
    clear hl
    generalize hn : D.length = n at *
    have HN := Lib.hid hn
    clear hn
    go_enter Try.func16, Try.ntmps16
    go_wp2
    go_loopw [5] (fun i wr => ∃ k d : Nat, k ≤ n ∧ i = .int .i64 k ∧ (∀ j, j < k → D.getD j 0 = E.getD j 0) ∧ wr = w.drewN d) (fun i _ => n - (intOf i).toNat)
    case atStart => exact ⟨0, 0, by omega, rfl, fun i hi => by omega, rfl⟩
    case round =>
      obtain ⟨k, d, hk, rfl, hag, rfl⟩ := hrel
      have HG := Lib.hid hag
      clear hag
      by_cases hlt : k < n
      · obtain ⟨rfl, _⟩ := HA.out (by omega)
        obtain ⟨rfl, _⟩ := HA'.out (by omega)
        have cd := HC.out k hlt
        have ce := HC'.out k hlt
        have i1 : (0 : Int) ≤ (k : Int) := by omega
        have i2 : (k : Int) < (n : Int) := by omega
        by_cases hx : D.getD k 0 = E.getD k 0
        · have HE := Lib.hid hx
          rw [hx] at cd
          clear hx
          generalize E.getD k 0 = x at cd ce
          go_wp2_with fail
          go_quiet (fail)
          go_wp2
          go_roundw
          case rel =>
            refine ⟨k + 1, _, by omega, by go_num, fun j hj => ?_, rfl⟩
            by_cases e : j = k
            · rw [e]; exact HE.out
            · exact HG.out j (by omega)
          case measure => simp [intOf]; omega
        · have hx' : (D.getD k 0 != E.getD k 0) = true := by rw [bne_iff_ne]; exact hx
          have HF := Lib.hid (show decide (D = E) = false by
            simp only [decide_eq_false_iff_not]
            intro e
            subst e
            exact hx rfl)
          clear hx
          generalize D.getD k 0 = x at cd hx'
          generalize E.getD k 0 = y at ce hx'
          go_wp2_with fail
          go_quiet (fail)
          go_wp2
          go_ret
          exact ⟨ret_bool HF.out.symm, (below_ext (by repeat (first | exact Below.refl _ _ | exact Below.refl _ _ | (with_reducible refine Below.setCell ?_ (by first | omega | (simp; done) | (simp; omega)) _) | (with_reducible refine Below.alloc ?_ (by first | omega | (simp; done) | (simp; omega)) _) | (with_reducible refine Below.onDrewN ?_ _) | (with_reducible refine Below.drew ?_) | (with_reducible refine Below.ofExt ?_ (by first | omega | (simp; done) | (simp; omega))))))⟩
      · have HF := Lib.hid (show decide (D = E) = true by
          simp only [decide_eq_true_eq]
          exact list_eq_getD (HN.out.trans HL.out) (fun i hi => HG.out i (by rw [HN.out] at hi; omega)))
        go_wp2
        go_ret
        exact ⟨ret_bool HF.out.symm, (below_ext (by repeat (first | exact Below.refl _ _ | exact Below.refl _ _ | (with_reducible refine Below.setCell ?_ (by first | omega | (simp; done) | (simp; omega)) _) | (with_reducible refine Below.alloc ?_ (by first | omega | (simp; done) | (simp; omega)) _) | (with_reducible refine Below.onDrewN ?_ _) | (with_reducible refine Below.drew ?_) | (with_reducible refine Below.ofExt ?_ (by first | omega | (simp; done) | (simp; omega))))))⟩
  · have HF := Lib.hid (show decide (D = E) = false by
      simp only [decide_eq_false_iff_not]
      intro e
      subst e
      exact hl rfl)
    have hb : ((D.length : Int) != (E.length : Int)) = true := by rw [bne_iff_ne]; omega
    have hb' : (D.length != E.length) = true := by rw [bne_iff_ne]; omega
    clear h h'
    go_enter Try.func16, Try.ntmps16
    go_wp2
    go_ret
    exact ⟨ret_bool HF.out.symm, (below_ext (by repeat (first | exact Below.refl _ _ | exact Below.refl _ _ | (with_reducible refine Below.setCell ?_ (by first | omega | (simp; done) | (simp; omega)) _) | (with_reducible refine Below.alloc ?_ (by first | omega | (simp; done) | (simp; omega)) _) | (with_reducible refine Below.onDrewN ?_ _) | (with_reducible refine Below.drew ?_) | (with_reducible refine Below.ofExt ?_ (by first | omega | (simp; done) | (simp; omega))))))⟩

set_option maxRecDepth 100000 in
set_option maxHeartbeats 4000000 in
theorem RWorst_ok (a a' : Option Addr) (c c' : Nat) (L : List Tone) (X : List Int) (w : World) (h : TonesAt w a L) (h' : RowAt w a' (ints X)) (hl : L.length = X.length) (hm : L.length ≤ 1000000) (m : Int) (hW : IsWorst L X L.length 0 m) :
    Calls Try.prog 11 #[.slice a L.length c, .slice a' X.length c'] w fun e w' => e = .returned (.tuple #[.int .i64 m, .int .i64 0]) ∧ ∃ z, w' = ext w z := by
  obtain ⟨b, o, ha, hc⟩ := h.spread
  obtain ⟨b', o', ha', hc'⟩ := row_spread h'
  rw [← hl] at ha' hc' ⊢
  have HA := Lib.hid ha
  have HA' := Lib.hid ha'
  have HC := Lib.hid hc
  have HC' := Lib.hid hc'
  have HW := Lib.hid hW
  clear h h' ha ha' hc hc' hW hl
  generalize hn : L.length = n at *
  clear hn
  go_enter Try.func11, Try.ntmps11
  go_wp2
  go_loopg [7, 6] n (fun gk i v wr => ∃ (k : Nat) (y : Int), gk = n - k ∧ k ≤ n ∧ i = .int .i64 k ∧ v = .int .i64 y ∧ IsWorst L X k 0 y ∧ Below w.heap.size w wr)
  case atStart => exact ⟨0, 0, by omega, by omega, rfl, rfl, isWorst_start L X, Below.refl _ _⟩
  case round =>
    obtain ⟨k, y, hgk, hk, rfl, rfl, hy, hbel⟩ := hrel
    have HG := Lib.hid hgk
    clear hgk
    by_cases hlt : k < n
    · obtain ⟨rfl, hb1⟩ := HA.out (by omega)
      obtain ⟨rfl, hb2⟩ := HA'.out (by omega)
      go_wp2
      go_loopg [8, 6] k (fun gk2 i v wr => ∃ (j : Nat) (y : Int), gk2 = k - j ∧ j ≤ k ∧ i = .int .i64 j ∧ v = .int .i64 y ∧ IsWorst L X k j y ∧ Below w.heap.size w wr)
      case atStart => exact ⟨0, y, by omega, by omega, rfl, rfl, hy, hbel⟩
      case round =>
        clear hy hbel
        obtain ⟨j, y, hgj, hj, rfl, rfl, hy, hbel⟩ := hrel
        have HGJ := Lib.hid hgj
        have hsz := hbel.size
        clear hgj
        by_cases hltj : j < k
        · have cx := HC'.out k hlt
          have cy := HC'.out j (by omega)
          obtain ⟨ck0, ck1, ck2⟩ := HC.out k hlt
          obtain ⟨cj0, cj1, cj2⟩ := HC.out j (by omega)
          rw [← hbel.cell (by exact hb2)] at cx cy
          rw [← hbel.cell (by exact hb1)] at ck0 ck1 ck2 cj0 cj1 cj2
          have i1 : (0 : Int) ≤ (k : Int) ∧ (k : Int) < (n : Int) := by omega
          have i2 : (0 : Int) ≤ (j : Int) ∧ (j : Int) < (n : Int) := by omega
          by_cases hx : X.getD j 0 = X.getD k 0
          · have HY := Lib.hid (hy.yes hltj hx)
            rw [hx] at cy
            clear hy hx
            generalize X.getD k 0 = x at cx cy
            generalize tn L k = tk at *
            generalize tn L j = tj at *
            go_wp2_with fail
            go_quiet (fail)
            go_wp2_with fail
            refine wp_region_ext (by kernel_rfl) (by kernel_rfl) ?_
            repeat (go_big_quiet_step ((first | (go_at_call 13; exact Calls.ext_of (RDistance_any _ _ _)))))
            refine wpQuiet_nil ?_
            rintro _ ⟨z, rfl⟩
            go_wp2
            go_roundg (k - (j + 1))
            case measure => rw [HGJ.out]; omega
            case rel => exact ⟨j + 1, _, rfl, by omega, by go_num, rfl, HY.out, (by repeat (first | exact hbel | exact Below.refl _ _ | (with_reducible refine Below.setCell ?_ (by first | omega | (simp; done) | (simp; omega)) _) | (with_reducible refine Below.alloc ?_ (by first | omega | (simp; done) | (simp; omega)) _) | (with_reducible refine Below.onDrewN ?_ _) | (with_reducible refine Below.drew ?_) | (with_reducible refine Below.ofExt ?_ (by first | omega | (simp; done) | (simp; omega)))))⟩
          · have HY := Lib.hid (hy.no hx)
            have hxb : (X.getD k 0 == X.getD j 0) = false := by rw [beq_eq_false_iff_ne]; exact fun e => hx e.symm
            clear hy hx
            generalize X.getD k 0 = x at *
            generalize X.getD j 0 = x2 at *
            go_wp2_with fail
            go_quiet (fail)
            go_wp2
            go_roundg (k - (j + 1))
            case measure => rw [HGJ.out]; omega
            case rel => exact ⟨j + 1, _, rfl, by omega, by go_num, rfl, HY.out, (by repeat (first | exact hbel | exact Below.refl _ _ | (with_reducible refine Below.setCell ?_ (by first | omega | (simp; done) | (simp; omega)) _) | (with_reducible refine Below.alloc ?_ (by first | omega | (simp; done) | (simp; omega)) _) | (with_reducible refine Below.onDrewN ?_ _) | (with_reducible refine Below.drew ?_) | (with_reducible refine Below.ofExt ?_ (by first | omega | (simp; done) | (simp; omega)))))⟩
        · obtain rfl : j = k := by omega
          have HY := Lib.hid hy.next
          clear hy
          go_wp2
          go_roundg (n - (j + 1))
          case measure => rw [HG.out]; omega
          case rel => exact ⟨j + 1, _, rfl, by omega, by go_num, rfl, HY.out, hbel⟩
    · obtain rfl : k = n := by omega
      have HY := Lib.hid (hy.unique HW.out)
      clear hy
      go_wp2
      go_ret2
      rw [HY.out]
      exact ⟨rfl, (below_ext (by repeat (first | exact hbel | exact Below.refl _ _ | (with_reducible refine Below.setCell ?_ (by first | omega | (simp; done) | (simp; omega)) _) | (with_reducible refine Below.alloc ?_ (by first | omega | (simp; done) | (simp; omega)) _) | (with_reducible refine Below.onDrewN ?_ _) | (with_reducible refine Below.drew ?_) | (with_reducible refine Below.ofExt ?_ (by first | omega | (simp; done) | (simp; omega))))))⟩
set_option maxHeartbeats 400000 in
theorem RWorst_bad (a a' : Option Addr) (c c' n k : Nat) (w : World) (hn : n ≠ k) :
    Calls Try.prog 11 #[.slice a n c, .slice a' k c'] w fun e w' => e = .returned (.tuple #[.int .i64 0, .int .i64 1]) ∧ w' = w := by
  have hb : ((n : Int) != (k : Int)) = true := by rw [bne_iff_ne]; omega
  have hb' : (n != k) = true := by rw [bne_iff_ne]; omega
  go_enter Try.func11, Try.ntmps11
  go_wp2
  go_ret2
  exact ⟨rfl, rfl⟩
end Go.Proofs.Ytjfckjmdcfiacaa
