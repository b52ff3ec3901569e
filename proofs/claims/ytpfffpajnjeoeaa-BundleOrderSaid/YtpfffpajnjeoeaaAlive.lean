/-
  The example of the chapter holds.
-/
import Derived.Test.YtpfffpajnjeoeaaRMake
import Derived.Test.YtpfffpajnjeoeaaRCheck
namespace Go.Proofs.Ytpfffpajnjeoeaa
open Go.RowKit

theorem fields_of {P : Program} {t : TypeId} {fs : Array Field} (h : P.underlying t = some (.struct fs)) : P.fieldsOf t = fs := by simp only [Program.fieldsOf, h]
theorem stood45 : Try.prog.stoodInHeld 45 = false := by kernel_rfl
theorem guard45 : Try.prog.eqGuardType Try.prog.depth 45 = false := by kernel_rfl
theorem neq45 (a b c d e f : Int) (w : World) : (binOp .neq 45 (.agg #[.int .i64 a, .int .i64 b, .int .i64 c, .int .i64 d, .int .i64 e, .int .i64 f]) (.agg #[.int .i64 a, .int .i64 b, .int .i64 c, .int .i64 d, .int .i64 e, .int .i64 f])).run Try.prog w = .ok (.bool false) w := by
  rw [run_neq_struct, run_equalIn_struct w 9999 45 _ _ (by rw [fields_of Try.underlying45]; exact Try.underlying45) stood45, fields_of Try.underlying45]
  simp [Op.eqFields, go_sem]
attribute [go_sem ↓] neq45
attribute [go_sem] guard45
set_option maxRecDepth 100000 in
set_option maxHeartbeats 4000000 in
theorem Same_eq (a a' : Option Addr) (c c' : Nat) (B : List Bun) (w : World) (h : BunsAt w a B) (h' : BunsAt w a' B) (hm : B.length ≤ 1000000) :
    Calls Try.prog 15 #[.slice a B.length c, .slice a' B.length c'] w fun e w' => e = .returned (.bool true) ∧ ∃ z, w' = ext w z := by
  obtain ⟨b, o, ha, hc⟩ := h
  obtain ⟨b', o', ha', hc'⟩ := h'
  have HA := Lib.hid ha
  have HC := Lib.hid hc
  have HA' := Lib.hid ha'
  have HC' := Lib.hid hc'
  clear ha hc ha' hc'
  generalize hn : B.length = n at *
  clear hn
  go_enter Try.func15, Try.ntmps15
  go_wp2
  go_loopg [5] n (fun gk i wr => ∃ j : Nat, gk = n - j ∧ j ≤ n ∧ i = .int .i64 j ∧ Below w.heap.size w wr)
  case atStart => exact ⟨0, by omega, by omega, rfl, Below.refl _ _⟩
  case round =>
    obtain ⟨j, hgj, hj, rfl, hbel⟩ := hrel
    have HG := Lib.hid hgj
    clear hgj
    have hsz := hbel.size
    by_cases hlt : j < n
    · obtain ⟨rfl, hbl⟩ := HA.out (by omega)
      obtain ⟨rfl, hbl'⟩ := HA'.out (by omega)
      obtain ⟨c0, c1, c2, c3, c4, c5⟩ := HC.out j hlt
      obtain ⟨d0, d1, d2, d3, d4, d5⟩ := HC'.out j hlt
      rw [← hbel.cell (by exact hbl)] at c0 c1 c2 c3 c4 c5
      rw [← hbel.cell (by exact hbl')] at d0 d1 d2 d3 d4 d5
      have i1 : (0 : Int) ≤ (j : Int) ∧ (j : Int) < (n : Int) := by omega
      generalize bn B j = u at *
      go_wp2_with fail
      refine wp_region_ext (by kernel_rfl) (by kernel_rfl) ?_
      repeat (go_big_quiet_step ((fail)))
      refine wpQuiet_nil ?_
      rintro _ ⟨z, rfl⟩
      go_wp2
      go_roundg (n - (j + 1))
      case measure => rw [HG.out]; omega
      case rel => exact ⟨j + 1, rfl, by omega, by go_num, (by repeat (first | exact hbel | exact Below.refl _ _ | (with_reducible refine Below.setCell ?_ (by first | omega | (simp; done) | (simp; omega)) _) | (with_reducible refine Below.alloc ?_ (by first | omega | (simp; done) | (simp; omega)) _) | (with_reducible refine Below.onDrewN ?_ _) | (with_reducible refine Below.drew ?_) | (with_reducible refine Below.ofExt ?_ (by first | omega | (simp; done) | (simp; omega)))))⟩
    · go_wp2
      go_ret
      exact ⟨rfl, (below_ext (by repeat (first | exact hbel | exact Below.refl _ _ | (with_reducible refine Below.setCell ?_ (by first | omega | (simp; done) | (simp; omega)) _) | (with_reducible refine Below.alloc ?_ (by first | omega | (simp; done) | (simp; omega)) _) | (with_reducible refine Below.onDrewN ?_ _) | (with_reducible refine Below.drew ?_) | (with_reducible refine Below.ofExt ?_ (by first | omega | (simp; done) | (simp; omega))))))⟩
set_option maxHeartbeats 400000 in
theorem Light_yes (y : Lay) (nz np : Nat) (w : World) (h1 : nz ≤ 12) (h2 : np ≤ 80) :
    Calls Try.prog 11 #[.agg #[.int .i64 y.n1, .int .i64 y.n2, .int .i64 y.n3, .int .i64 y.n4, .slice y.sa nz y.sc, .slice y.pa y.pn y.pc, .slice y.ya np y.yc]] w fun e w' => e = .returned (.bool true) ∧ ∃ z, w' = ext w z := by
  have d1 : decide ((nz : Int) ≤ 12) = true := decide_eq_true (by omega)
  have d2 : decide ((np : Int) ≤ 80) = true := decide_eq_true (by omega)
  have h3 : (nz : Int) ≤ 12 := by omega
  have h4 : (np : Int) ≤ 80 := by omega
  go_enter Try.func11, Try.ntmps11
  go_wp2
  go_ret
  exact ⟨rfl, (below_ext (by repeat (first | exact Below.refl _ _ | exact Below.refl _ _ | (with_reducible refine Below.setCell ?_ (by first | omega | (simp; done) | (simp; omega)) _) | (with_reducible refine Below.alloc ?_ (by first | omega | (simp; done) | (simp; omega)) _) | (with_reducible refine Below.onDrewN ?_ _) | (with_reducible refine Below.drew ?_) | (with_reducible refine Below.ofExt ?_ (by first | omega | (simp; done) | (simp; omega))))))⟩
set_option maxHeartbeats 400000 in
theorem Light_no (y : Lay) (nz np : Nat) (w : World) (h1 : ¬ (nz ≤ 12 ∧ np ≤ 80)) :
    Calls Try.prog 11 #[.agg #[.int .i64 y.n1, .int .i64 y.n2, .int .i64 y.n3, .int .i64 y.n4, .slice y.sa nz y.sc, .slice y.pa y.pn y.pc, .slice y.ya np y.yc]] w fun e w' => e = .returned (.bool false) ∧ ∃ z, w' = ext w z := by
  by_cases h2 : nz ≤ 12
  · have h3 : ¬ np ≤ 80 := fun h => h1 ⟨h2, h⟩
    have d1 : decide ((nz : Int) ≤ 12) = true := decide_eq_true (by omega)
    have d2 : decide ((np : Int) ≤ 80) = false := decide_eq_false (by omega)
    have h3 : (nz : Int) ≤ 12 := by omega
    have h4 : ¬ (np : Int) ≤ 80 := by omega
    clear h1
    go_enter Try.func11, Try.ntmps11
    go_wp2
    go_ret
    exact ⟨rfl, (below_ext (by repeat (first | exact Below.refl _ _ | exact Below.refl _ _ | (with_reducible refine Below.setCell ?_ (by first | omega | (simp; done) | (simp; omega)) _) | (with_reducible refine Below.alloc ?_ (by first | omega | (simp; done) | (simp; omega)) _) | (with_reducible refine Below.onDrewN ?_ _) | (with_reducible refine Below.drew ?_) | (with_reducible refine Below.ofExt ?_ (by first | omega | (simp; done) | (simp; omega))))))⟩
  · have d1 : decide ((nz : Int) ≤ 12) = false := decide_eq_false (by omega)
    have h3 : ¬ (nz : Int) ≤ 12 := by omega
    clear h1
    go_enter Try.func11, Try.ntmps11
    go_wp2
    go_ret
    exact ⟨rfl, (below_ext (by repeat (first | exact Below.refl _ _ | exact Below.refl _ _ | (with_reducible refine Below.setCell ?_ (by first | omega | (simp; done) | (simp; omega)) _) | (with_reducible refine Below.alloc ?_ (by first | omega | (simp; done) | (simp; omega)) _) | (with_reducible refine Below.onDrewN ?_ _) | (with_reducible refine Below.drew ?_) | (with_reducible refine Below.ofExt ?_ (by first | omega | (simp; done) | (simp; omega))))))⟩
/-- What the example's lay is. -/
def LayPost (w : World) (e : Ending) (w' : World) : Prop :=
  ∃ g h, e = .returned (.agg #[.int .i64 0, .int .i64 0, .int .i64 0, .int .i64 0, .slice (some ⟨g, 0, none⟩) 2 2, .slice none 0 0, .slice (some ⟨h, 0, none⟩) 4 4]) ∧ RowAt w' (some ⟨g, 0, none⟩) (ints [2, 0]) ∧ PliesAt w' (some ⟨h, 0, none⟩) [0, 0, 0, 1] ∧ ∃ z, w' = ext w z
theorem row2 {w : World} {b e : Nat} (x y : Int) (hb : b = w.heap.size) : RowAt (w.alloc (.cells #[.int .i64 x, .int .i64 y] e)) (some ⟨b, 0, none⟩) (ints [x, y]) := fun i hi =>
  ⟨b, 0, rfl, by simp [hb], fun j hj => by
    subst hb
    simp only [World.cell?_alloc_new]
    match j, hj with
    | 0, _ => rfl
    | 1, _ => rfl⟩
theorem plies4 {w : World} {b e : Nat} (hb : b = w.heap.size) : PliesAt (w.alloc (.cells #[.int .i64 0, .slice none 0 0, .int .i64 0, .slice none 0 0, .int .i64 0, .slice none 0 0, .int .i64 1, .slice none 0 0] e)) (some ⟨b, 0, none⟩) [0, 0, 0, 1] := by
  refine ⟨b, 0, fun _ => ⟨rfl, by simp [hb]⟩, fun j hj => ?_⟩
  subst hb
  simp only [World.cell?_alloc_new]
  match j, hj with
  | 0, _ => exact ⟨rfl, _, _, _, rfl⟩
  | 1, _ => exact ⟨rfl, _, _, _, rfl⟩
  | 2, _ => exact ⟨rfl, _, _, _, rfl⟩
  | 3, _ => exact ⟨rfl, _, _, _, rfl⟩
set_option maxHeartbeats 1000000 in
theorem lay_any (w : World) : Calls Try.prog 20 #[] w (LayPost w) := by
  go_enter Try.func20, Try.ntmps20
  go_wp2
  refine bodyPost_ret (v := .agg #[.int .i64 0, .int .i64 0, .int .i64 0, .int .i64 0, .slice (some ⟨w.heap.size + 1, 0, none⟩) 2 2, .slice none 0 0, .slice (some ⟨w.heap.size + 1 + 1, 0, none⟩) 4 4]) (by simp [results, Try.results20, go_sem]) rfl ?_
  refine ⟨_, _, rfl, ?_, ?_, (below_ext (by repeat (first | exact Below.refl _ _ | exact Below.refl _ _ | (with_reducible refine Below.setCell ?_ (by first | omega | (simp; done) | (simp; omega)) _) | (with_reducible refine Below.alloc ?_ (by first | omega | (simp; done) | (simp; omega)) _) | (with_reducible refine Below.onDrewN ?_ _) | (with_reducible refine Below.drew ?_) | (with_reducible refine Below.ofExt ?_ (by first | omega | (simp; done) | (simp; omega))))))⟩
  · exact (row2 (w := w.alloc _) (e := 3) 2 0 (by simp)).below (Below.alloc (Below.refl _ _) (Nat.le_refl _) _)
  · exact plies4 (by simp)
/-- The example's bundles. -/
def exA : List Bun := [⟨1, 0, 2, 0, 0, 2⟩, ⟨2, 0, 2, 0, 2, 3⟩, ⟨3, 0, 2, 1, 3, 4⟩, ⟨4, 1, 0, 0, 0, 2⟩, ⟨5, 1, 0, 0, 2, 3⟩, ⟨6, 1, 0, 1, 3, 4⟩]
theorem ex_list : mkB [2, 0] [0, 0, 0, 1] (tri (Full [0, 0, 0, 1] 2) 2) = exA := by kernel_rfl
theorem ex_len : (tri (Full [0, 0, 0, 1] 2) 2).length = 6 := by kernel_rfl
theorem ex_find : FindIs exA 1 2 4 true := Or.inl ⟨4, ⟨by decide, by decide, by decide⟩, rfl, rfl⟩
theorem ex_chk : ChkIs [2, 0] [0, 0, 0, 1] exA 0 := ex_list ▸ made_chk (Z := [2, 0]) (P := [0, 0, 0, 1]) (most := 2) (by decide) rfl
theorem acc_take {Z P : List Int} {B : List Bun} {k : Nat} (h : Acc Z P B k) (hk : k ≤ B.length) : Acc Z P (B.take k) (B.take k).length := fun i hi => by
  rw [take_len hk] at hi
  rw [bn_take hi]
  exact ⟨(h i hi).1, fun j hj => by rw [bn_take (by omega)]; exact (h i hi).2 j hj⟩
theorem ex_none : ∀ i, i < 5 → ¬ Has (bn (exA.take 5) i) 1 3 := by decide
theorem ex_chk5 : ChkIs [2, 0] [0, 0, 0, 1] (exA.take 5) 20 :=
  Or.inr (Or.inl ⟨acc_take ((chk_ok ex_chk).1.mono (by decide)) (by decide), ⟨1, 3, by decide, by decide, fun ⟨i, hi, h⟩ => ex_none i hi h⟩, rfl⟩)
theorem Make_ex (g h : Nat) (w : World) (hr : RowAt w (some ⟨g, 0, none⟩) (ints [2, 0])) (hp : PliesAt w (some ⟨h, 0, none⟩) [0, 0, 0, 1]) :
    Calls Try.prog 13 #[.agg #[.int .i64 0, .int .i64 0, .int .i64 0, .int .i64 0, .slice (some ⟨g, 0, none⟩) 2 2, .slice none 0 0, .slice (some ⟨h, 0, none⟩) 4 4], .int .i64 2] w fun e w' =>
      ∃ b o cap, e = .returned (.tuple #[.slice (some ⟨b, o, none⟩) 6 cap, .int .i64 0]) ∧ 6 ≤ cap ∧ BunsAt w' (some ⟨b, o, none⟩) exA ∧ ∃ z, w' = ext w z := by
  refine (Make_any ⟨0, 0, 0, 0, some ⟨g, 0, none⟩, 2, none, 0, 0, some ⟨h, 0, none⟩, 4⟩ [2, 0] [0, 0, 0, 1] 2 w hr hp (by decide) (by decide) (by decide) (by decide)).mono ?_
  rintro e w' (⟨h1, a, cap, rfl, h2, h3, h4⟩ | ⟨h1, _⟩)
  · have e1 : mkB [2, 0] [0, 0, 0, 1] (tri (Full [0, 0, 0, 1] 2) ([2, 0] : List Int).length) = exA := ex_list
    rw [e1] at h2 h3 ⊢
    obtain ⟨b, o, ha, _⟩ := id h3
    obtain ⟨rfl, _⟩ := ha (by decide)
    exact ⟨b, o, cap, rfl, h2, h3, h4⟩
  · have e1 : (tri (Full [0, 0, 0, 1] 2) ([2, 0] : List Int).length).length = 6 := ex_len
    omega
theorem Find_ex (b o c : Nat) (w : World) (h : BunsAt w (some ⟨b, o, none⟩) exA) :
    Calls Try.prog 16 #[.slice (some ⟨b, o, none⟩) 6 c, .int .i64 1, .int .i64 2] w fun e w' => e = .returned (.tuple #[.int .i64 4, .bool true]) ∧ ∃ z, w' = ext w z :=
  Find_any _ c exA 1 2 w h (by decide) 4 true ex_find
theorem Check_ex (g h b o c : Nat) (w : World) (hr : RowAt w (some ⟨g, 0, none⟩) (ints [2, 0])) (hp : PliesAt w (some ⟨h, 0, none⟩) [0, 0, 0, 1]) (hB : BunsAt w (some ⟨b, o, none⟩) exA) (hc : 6 ≤ c) :
    Calls Try.prog 18 #[.agg #[.int .i64 0, .int .i64 0, .int .i64 0, .int .i64 0, .slice (some ⟨g, 0, none⟩) 2 2, .slice none 0 0, .slice (some ⟨h, 0, none⟩) 4 4], .slice (some ⟨b, o, none⟩) 6 c] w fun e w' => e = .returned (.int .i64 0) ∧ ∃ z, w' = ext w z :=
  Check_any ⟨0, 0, 0, 0, some ⟨g, 0, none⟩, 2, none, 0, 0, some ⟨h, 0, none⟩, 4⟩ [2, 0] [0, 0, 0, 1] _ c exA w hr hp hB (by decide) (by decide) (by decide) (Nat.le_refl 4) hc 0 ex_chk
theorem Check_ex5 (g h b o c : Nat) (w : World) (hr : RowAt w (some ⟨g, 0, none⟩) (ints [2, 0])) (hp : PliesAt w (some ⟨h, 0, none⟩) [0, 0, 0, 1]) (hB : BunsAt w (some ⟨b, o, none⟩) exA) (hc : 6 ≤ c) :
    Calls Try.prog 18 #[.agg #[.int .i64 0, .int .i64 0, .int .i64 0, .int .i64 0, .slice (some ⟨g, 0, none⟩) 2 2, .slice none 0 0, .slice (some ⟨h, 0, none⟩) 4 4], .slice (some ⟨b, o, none⟩) 5 c] w fun e w' => e = .returned (.int .i64 20) ∧ ∃ z, w' = ext w z :=
  Check_any ⟨0, 0, 0, 0, some ⟨g, 0, none⟩, 2, none, 0, 0, some ⟨h, 0, none⟩, 4⟩ [2, 0] [0, 0, 0, 1] _ c (exA.take 5) w hr hp (hB.take 5) (by decide) (by decide) (by decide) (Nat.le_refl 4) (show 5 ≤ c by omega) 20 ex_chk5
theorem Same_ex (b o c b' c' : Nat) (w : World) (hB : BunsAt w (some ⟨b, o, none⟩) exA) (h : BunsAt w (some ⟨b', 0, none⟩) (exA.take 3)) :
    Calls Try.prog 15 #[.slice (some ⟨b, o, none⟩) 3 c, .slice (some ⟨b', 0, none⟩) 3 c'] w fun e w' => e = .returned (.bool true) ∧ ∃ z, w' = ext w z :=
  Same_eq _ _ c c' (exA.take 3) w (hB.take 3) h (by decide)
theorem buns3 {w : World} {b e : Nat} (hb : b = w.heap.size) : BunsAt (w.alloc (.cells #[.int .i64 1, .int .i64 0, .int .i64 2, .int .i64 0, .int .i64 0, .int .i64 2, .int .i64 2, .int .i64 0, .int .i64 2, .int .i64 0, .int .i64 2, .int .i64 3, .int .i64 3, .int .i64 0, .int .i64 2, .int .i64 1, .int .i64 3, .int .i64 4] e)) (some ⟨b, 0, none⟩) (exA.take 3) := by
  refine ⟨b, 0, fun _ => ⟨rfl, by simp [hb]⟩, fun j hj => ?_⟩
  subst hb
  simp only [World.cell?_alloc_new]
  match j, hj with
  | 0, _ => exact ⟨rfl, rfl, rfl, rfl, rfl, rfl⟩
  | 1, _ => exact ⟨rfl, rfl, rfl, rfl, rfl, rfl⟩
  | 2, _ => exact ⟨rfl, rfl, rfl, rfl, rfl, rfl⟩
theorem buns3_drew {w : World} {b e : Nat} (hb : b = w.heap.size) : BunsAt (w.alloc (.cells #[.int .i64 1, .int .i64 0, .int .i64 2, .int .i64 0, .int .i64 0, .int .i64 2, .int .i64 2, .int .i64 0, .int .i64 2, .int .i64 0, .int .i64 2, .int .i64 3, .int .i64 3, .int .i64 0, .int .i64 2, .int .i64 1, .int .i64 3, .int .i64 4] e)).drew (some ⟨b, 0, none⟩) (exA.take 3) := buns3 (e := e) hb
set_option maxRecDepth 100000 in
set_option maxHeartbeats 8000000 in
theorem alive_any (w : World) : Calls Try.prog 12 #[] w fun e w' => e = .returned (.bool true) ∧ ∃ z, w' = ext w z := by
  go_enter Try.func12, Try.ntmps12
  go_wp2_with fail
  refine (lay_any _).mono ?_
  rintro e w' ⟨g1, h1, rfl, hr1, hp1, z1, rfl⟩
  have HR1 := Lib.hid hr1
  have HP1 := Lib.hid hp1
  clear hr1 hp1
  go_wp2_with fail
  refine (Make_ex _ _ _ HR1.out HP1.out).mono ?_
  rintro e w' ⟨b, o, cap, rfl, hcap, hB, z2, rfl⟩
  have HB := Lib.hid hB
  clear hB HR1 HP1
  go_wp2_with fail
  refine (lay_any _).mono ?_
  rintro e w' ⟨g2, h2, rfl, _, _, z3, rfl⟩
  go_wp2_with fail
  refine (Make_range ⟨0, 0, 0, 0, some ⟨g2, 0, none⟩, 2, none, 0, 0, some ⟨h2, 0, none⟩, 4⟩ 2 4 0 _ (by decide)).mono ?_
  rintro e w' ⟨rfl, z4, rfl⟩
  go_wp2_with fail
  refine (Find_ex _ _ _ _ (HB.out.below (by repeat (first | exact Below.refl _ _ | exact Below.refl _ _ | (with_reducible refine Below.setCell ?_ (by first | omega | (simp; done) | (simp; omega)) _) | (with_reducible refine Below.alloc ?_ (by first | omega | (simp; done) | (simp; omega)) _) | (with_reducible refine Below.onDrewN ?_ _) | (with_reducible refine Below.drew ?_) | (with_reducible refine Below.ofExt ?_ (by first | omega | (simp; done) | (simp; omega))))))).mono ?_
  rintro e w' ⟨rfl, z5, rfl⟩
  go_wp2_with fail
  have hB5 : BunsAt (ext (ext (ext (ext (ext w z1) z2) z3) z4) z5) (some ⟨b, o, none⟩) exA := HB.out.below (by repeat (first | exact Below.refl _ _ | exact Below.refl _ _ | (with_reducible refine Below.setCell ?_ (by first | omega | (simp; done) | (simp; omega)) _) | (with_reducible refine Below.alloc ?_ (by first | omega | (simp; done) | (simp; omega)) _) | (with_reducible refine Below.onDrewN ?_ _) | (with_reducible refine Below.drew ?_) | (with_reducible refine Below.ofExt ?_ (by first | omega | (simp; done) | (simp; omega)))))
  have hb5 : Below w.heap.size w (ext (ext (ext (ext (ext w z1) z2) z3) z4) z5) := (by repeat (first | exact Below.refl _ _ | exact Below.refl _ _ | (with_reducible refine Below.setCell ?_ (by first | omega | (simp; done) | (simp; omega)) _) | (with_reducible refine Below.alloc ?_ (by first | omega | (simp; done) | (simp; omega)) _) | (with_reducible refine Below.onDrewN ?_ _) | (with_reducible refine Below.drew ?_) | (with_reducible refine Below.ofExt ?_ (by first | omega | (simp; done) | (simp; omega)))))
  have HB5 := Lib.hid hB5
  clear hB5 HB
  generalize ext (ext (ext (ext (ext w z1) z2) z3) z4) z5 = W at *
  have hsz5 := hb5.size
  have hc3 : (3 : Int) ≤ (cap : Int) := by omega
  have hc5 : (5 : Int) ≤ (cap : Int) := by omega
  go_region_held3 (fun w' => True) (trivial)
    (first
      | (go_at_call 15; refine (Same_ex _ _ _ _ _ _ ?_ ?_).mono ?_; (exact HB5.out.below (by repeat (first | exact Below.refl _ _ | exact Below.refl _ _ | (with_reducible refine Below.setCell ?_ (by first | omega | (simp; done) | (simp; omega)) _) | (with_reducible refine Below.alloc ?_ (by first | omega | (simp; done) | (simp; omega)) _) | (with_reducible refine Below.onDrewN ?_ _) | (with_reducible refine Below.drew ?_) | (with_reducible refine Below.ofExt ?_ (by first | omega | (simp; done) | (simp; omega)))))); (first | exact buns3 (by simp) | exact buns3_drew (by simp)); rintro e w' ⟨rfl, z6, rfl⟩)
      | (go_at_call 20; refine (lay_any _).mono ?_; rintro e w' ⟨g7, h7, rfl, hr7, hp7, z7, rfl⟩)
      | (go_at_call 18; with_reducible refine (Check_ex _ _ _ _ _ _ hr7 hp7 ?_ hcap).mono ?_; (exact HB5.out.below (by repeat (first | exact Below.refl _ _ | exact Below.refl _ _ | (with_reducible refine Below.setCell ?_ (by first | omega | (simp; done) | (simp; omega)) _) | (with_reducible refine Below.alloc ?_ (by first | omega | (simp; done) | (simp; omega)) _) | (with_reducible refine Below.onDrewN ?_ _) | (with_reducible refine Below.drew ?_) | (with_reducible refine Below.ofExt ?_ (by first | omega | (simp; done) | (simp; omega)))))); rintro e w' ⟨rfl, z8, rfl⟩)
      | (go_at_call 18; with_reducible refine (Check_ex5 _ _ _ _ _ _ hr7 hp7 ?_ hcap).mono ?_; (exact HB5.out.below (by repeat (first | exact Below.refl _ _ | exact Below.refl _ _ | (with_reducible refine Below.setCell ?_ (by first | omega | (simp; done) | (simp; omega)) _) | (with_reducible refine Below.alloc ?_ (by first | omega | (simp; done) | (simp; omega)) _) | (with_reducible refine Below.onDrewN ?_ _) | (with_reducible refine Below.drew ?_) | (with_reducible refine Below.ofExt ?_ (by first | omega | (simp; done) | (simp; omega)))))); rintro e w' ⟨rfl, z9, rfl⟩))
  go_wp2
  go_ret
  exact ⟨rfl, (below_ext (by repeat (first | exact hb5 | exact Below.refl _ _ | (with_reducible refine Below.setCell ?_ (by first | omega | (simp; done) | (simp; omega)) _) | (with_reducible refine Below.alloc ?_ (by first | omega | (simp; done) | (simp; omega)) _) | (with_reducible refine Below.onDrewN ?_ _) | (with_reducible refine Below.drew ?_) | (with_reducible refine Below.ofExt ?_ (by first | omega | (simp; done) | (simp; omega))))))⟩
end Go.Proofs.Ytpfffpajnjeoeaa
