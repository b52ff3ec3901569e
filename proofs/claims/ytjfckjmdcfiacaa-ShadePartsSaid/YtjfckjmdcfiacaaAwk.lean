/-
  The examples of the chapter hold.
-/
import Derived.Test.YtjfckjmdcfiacaaWorst
namespace Go.Proofs.Ytjfckjmdcfiacaa
open Go.RowKit

/-- The example's tones. -/
def exL : List Tone := [⟨0, 0, 0⟩, ⟨9, 0, 0⟩, ⟨2, 0, 0⟩, ⟨4, 1, 0⟩]
theorem root_cert {N : Nat → Nat → Prop} (cl : Nat → Nat) (h1 : ∀ i j, N i j → cl i = cl j) (h3 : ∀ m, cl m ≤ m) {i : Nat} (h2 : Conn N (cl i) i) : Root N (cl i) i := by
  refine ⟨h2, fun m hm hc => ?_⟩
  have e : cl m = cl i := Conn.closed (P := fun k => cl m = cl k) hc rfl (fun k j hk hs => hk.trans (h1 k j hs))
  have := h3 m
  omega
def cl2 (i : Nat) : Nat := if i = 2 ∨ i = 3 then 0 else i
theorem near2 : ∀ i, i < 4 → ∀ j, j < 4 → dist (tn exL i) (tn exL j) ≤ 2 → cl2 i = cl2 j := by decide
theorem near1 : ∀ i, i < 4 → ∀ j, j < 4 → dist (tn exL i) (tn exL j) ≤ 1 → i = j := by decide
theorem dist02 : dist (tn exL 0) (tn exL 2) ≤ 2 := by decide
theorem dist23 : dist (tn exL 2) (tn exL 3) ≤ 2 := by decide
theorem lots_ex2 : LotsOk (Nr exL 2) 4 [0, 1, 0, 0] := by
  have h1 : ∀ i j, Nr exL 2 i j → cl2 i = cl2 j := fun i j h => near2 i h.1 j h.2.1 h.2.2
  have h3 : ∀ m, cl2 m ≤ m := fun m => by unfold cl2; split <;> omega
  have c0 : Root (Nr exL 2) 0 0 := root_cert cl2 h1 h3 (i := 0) (Conn.refl 0)
  have c1 : Root (Nr exL 2) 1 1 := root_cert cl2 h1 h3 (i := 1) (Conn.refl 1)
  have s2 : Conn (Nr exL 2) 0 2 := (Conn.refl 0).step ⟨by decide, by decide, dist02⟩
  have c2 : Root (Nr exL 2) 0 2 := root_cert cl2 h1 h3 (i := 2) s2
  have c3 : Root (Nr exL 2) 0 3 := root_cert cl2 h1 h3 (i := 3) (s2.step ⟨by decide, by decide, dist23⟩)
  have n0 : num (Nr exL 2) 0 = 0 := cnt_zero _
  have n1 : num (Nr exL 2) 1 = 1 := by unfold num; rw [cnt_succ_yes (show First (Nr exL 2) 0 from c0.2), cnt_zero]
  refine ⟨rfl, fun i r hi hr => ?_⟩
  match i, hi with
  | 0, _ => rw [hr.unique c0, n0]; rfl
  | 1, _ => rw [hr.unique c1, n1]; rfl
  | 2, _ => rw [hr.unique c2, n0]; rfl
  | 3, _ => rw [hr.unique c3, n0]; rfl
theorem lots_ex1 : LotsOk (Nr exL 1) 4 [0, 1, 2, 3] := by
  have h1 : ∀ i j, Nr exL 1 i j → i = j := fun i j h => near1 i h.1 j h.2.1 h.2.2
  have c : ∀ i, Root (Nr exL 1) i i := fun i => root_cert (fun x => x) h1 (fun m => Nat.le_refl _) (i := i) (Conn.refl i)
  have n : ∀ i, num (Nr exL 1) i = i := fun i => by
    induction i with
    | zero => exact cnt_zero _
    | succ i ih =>
      have e := cnt_succ_yes (show First (Nr exL 1) i from (c i).2)
      unfold num at ih ⊢
      rw [e, ih]
  refine ⟨rfl, fun i r hi hr => ?_⟩
  rw [hr.unique (c i), n i]
  match i, hi with
  | 0, _ => rfl
  | 1, _ => rfl
  | 2, _ => rfl
  | 3, _ => rfl
theorem worst_ub : ∀ p, p < 4 → ∀ q, q < 4 → ([0, 1, 0, 0] : List Int).getD p 0 = ([0, 1, 0, 0] : List Int).getD q 0 → dist (tn exL p) (tn exL q) ≤ 4 := by decide
theorem worst_ex : IsWorst exL [0, 1, 0, 0] 4 0 4 :=
  ⟨by decide, fun p q h1 h2 h3 => worst_ub p (by omega) q (by omega) h3, Or.inr ⟨0, 3, by decide, by decide, by decide, by decide⟩⟩
theorem tones_ex {w : World} {b : Nat} (hb : b = w.heap.size) : TonesAt (w.alloc (.cells #[.int .i64 0, .int .i64 0, .int .i64 0, .int .i64 9, .int .i64 0, .int .i64 0, .int .i64 2, .int .i64 0, .int .i64 0, .int .i64 4, .int .i64 1, .int .i64 0] 23)) (some ⟨b, 0, none⟩) exL := fun i hi => by
  refine ⟨b, 0, rfl, by simp [hb], fun j hj => ?_⟩
  subst hb
  simp only [World.cell?_alloc_new]
  match j, hj with
  | 0, _ => exact ⟨rfl, rfl, rfl⟩
  | 1, _ => exact ⟨rfl, rfl, rfl⟩
  | 2, _ => exact ⟨rfl, rfl, rfl⟩
  | 3, _ => exact ⟨rfl, rfl, rfl⟩
theorem row4 {w : World} {b e : Nat} (x y z t : Int) (hb : b = w.heap.size) : RowAt (w.alloc (.cells #[.int .i64 x, .int .i64 y, .int .i64 z, .int .i64 t] e)) (some ⟨b, 0, none⟩) (ints [x, y, z, t]) := fun i hi =>
  ⟨b, 0, rfl, by simp [hb], fun j hj => by
    subst hb
    simp only [World.cell?_alloc_new]
    match j, hj with
    | 0, _ => rfl
    | 1, _ => rfl
    | 2, _ => rfl
    | 3, _ => rfl⟩
theorem Lots_ex2 (b c : Nat) (w : World) (h : TonesAt w (some ⟨b, 0, none⟩) exL) :
    Calls Try.prog 14 #[.slice (some ⟨b, 0, none⟩) 4 c, .int .i64 2] w fun e w' => ∃ g, e = .returned (.tuple #[.slice (some ⟨g, 0, none⟩) 4 4, .int .i64 0]) ∧ Blk w' g 3 (ints [0, 1, 0, 0]) ∧ ∃ z, w' = ext w z :=
  Lots_ok _ c exL 2 w h (by decide) (by decide) [0, 1, 0, 0] lots_ex2
theorem Lots_ex1 (b c : Nat) (w : World) (h : TonesAt w (some ⟨b, 0, none⟩) exL) :
    Calls Try.prog 14 #[.slice (some ⟨b, 0, none⟩) 4 c, .int .i64 1] w fun e w' => ∃ g, e = .returned (.tuple #[.slice (some ⟨g, 0, none⟩) 4 4, .int .i64 0]) ∧ Blk w' g 3 (ints [0, 1, 2, 3]) ∧ ∃ z, w' = ext w z :=
  Lots_ok _ c exL 1 w h (by decide) (by decide) [0, 1, 2, 3] lots_ex1
theorem Worst_ex (b b' c c' : Nat) (w : World) (h : TonesAt w (some ⟨b, 0, none⟩) exL) (h' : RowAt w (some ⟨b', 0, none⟩) (ints [0, 1, 0, 0])) :
    Calls Try.prog 10 #[.slice (some ⟨b, 0, none⟩) 4 c, .slice (some ⟨b', 0, none⟩) 4 c'] w fun e w' => e = .returned (.tuple #[.int .i64 4, .int .i64 0]) ∧ ∃ z, w' = ext w z :=
  Worst_ok _ _ c c' exL [0, 1, 0, 0] w h h' (by decide) rfl (by decide) 4 worst_ex
theorem Same_ex (b b' c c' : Nat) (X : List Int) (hX : X.length = 4) (w : World) (h : RowAt w (some ⟨b, 0, none⟩) (ints X)) (h' : RowAt w (some ⟨b', 0, none⟩) (ints X)) :
    Calls Try.prog 16 #[.slice (some ⟨b, 0, none⟩) 4 c, .slice (some ⟨b', 0, none⟩) 4 c'] w fun e w' => e = .returned (.bool true) ∧ ∃ z, w' = ext w z := by
  have := Same_any _ _ c c' X X w h h' (by omega)
  rw [hX] at this
  simpa using this
theorem Dist_ex1 (w : World) : Calls Try.prog 12 #[.agg #[.int .i64 50, .int .i64 0, .int .i64 10], .agg #[.int .i64 52, .int .i64 (-3), .int .i64 10]] w fun e w' => e = .returned (.int .i64 3) ∧ ∃ z, w' = ext w z :=
  Distance_any ⟨50, 0, 10⟩ ⟨52, -3, 10⟩ w
theorem Dist_ex2 (w : World) : Calls Try.prog 12 #[.agg #[.int .i64 5000, .int .i64 0, .int .i64 0], .agg #[.int .i64 999, .int .i64 0, .int .i64 0]] w fun e w' => e = .returned (.int .i64 1) ∧ ∃ z, w' = ext w z :=
  Distance_any ⟨5000, 0, 0⟩ ⟨999, 0, 0⟩ w

set_option maxHeartbeats 4000000 in
theorem awake_any (w : World) : Calls Try.prog 9 #[] w fun e w' => e = .returned (.bool true) ∧ ∃ z, w' = ext w z := by
  go_enter Try.func9, Try.ntmps9
  go_wp2_with fail
  refine (Lots_ex2 _ _ _ (tones_ex rfl)).mono ?_
  rintro e w' ⟨g1, rfl, hB1, z1, rfl⟩
  have HT := Lib.hid ((tones_ex (w := w) rfl).ext z1)
  have hg1 := hB1.lt
  have HB1 := Lib.hid hB1
  clear hB1
  go_wp2_with fail
  refine (Lots_ex1 _ _ _ HT.out).mono ?_
  rintro e w' ⟨g2, rfl, hB2, z2, rfl⟩
  have HT2 := Lib.hid (HT.out.ext z2)
  have hg2 := hB2.lt
  have HB2 := Lib.hid hB2
  clear hB2 HT
  go_wp2_with fail
  refine (Lots_neg _ _ 4 (-1) _ (by decide) (by decide)).mono ?_
  rintro e w' ⟨rfl, rfl⟩
  go_wp2_with fail
  refine (Worst_ex _ _ _ _ _ (HT2.out.below (by repeat (first | exact Below.refl _ _ | exact Below.refl _ _ | (with_reducible refine Below.setCell ?_ (by first | omega | (simp; done) | (simp; omega)) _) | (with_reducible refine Below.alloc ?_ (by first | omega | (simp; done) | (simp; omega)) _) | (with_reducible refine Below.onDrewN ?_ _) | (with_reducible refine Below.drew ?_) | (with_reducible refine Below.ofExt ?_ (by first | omega | (simp; done) | (simp; omega)))))) (row4 0 1 0 0 (by simp))).mono ?_
  rintro e w' ⟨rfl, z3, rfl⟩
  go_wp2_with fail
  refine (Worst_bad _ _ _ _ 4 0 _ (by decide)).mono ?_
  rintro e w' ⟨rfl, rfl⟩
  go_wp2_with fail
  refine (Same_ex _ _ _ _ [0, 1, 0, 0] rfl _ (HB1.out.row.below (by repeat (first | exact Below.refl _ _ | exact Below.refl _ _ | (with_reducible refine Below.setCell ?_ (by first | omega | (simp; done) | (simp; omega)) _) | (with_reducible refine Below.alloc ?_ (by first | omega | (simp; done) | (simp; omega)) _) | (with_reducible refine Below.onDrewN ?_ _) | (with_reducible refine Below.drew ?_) | (with_reducible refine Below.ofExt ?_ (by first | omega | (simp; done) | (simp; omega)))))) (row4 0 1 0 0 (by simp))).mono ?_
  rintro e w' ⟨rfl, z4, rfl⟩
  go_wp2_with fail
  refine (Same_ex _ _ _ _ [0, 1, 2, 3] rfl _ (HB2.out.row.below (by repeat (first | exact Below.refl _ _ | exact Below.refl _ _ | (with_reducible refine Below.setCell ?_ (by first | omega | (simp; done) | (simp; omega)) _) | (with_reducible refine Below.alloc ?_ (by first | omega | (simp; done) | (simp; omega)) _) | (with_reducible refine Below.onDrewN ?_ _) | (with_reducible refine Below.drew ?_) | (with_reducible refine Below.ofExt ?_ (by first | omega | (simp; done) | (simp; omega)))))) (row4 0 1 2 3 (by simp))).mono ?_
  rintro e w' ⟨rfl, z5, rfl⟩
  clear HT2 HB1 HB2 hg1 hg2
  go_wp2_with fail
  refine (Dist_ex1 _).mono ?_
  rintro e w' ⟨rfl, z6, rfl⟩
  go_wp2_with fail
  refine (Dist_ex2 _).mono ?_
  rintro e w' ⟨rfl, z7, rfl⟩
  go_wp2_with fail
  go_ret
  exact ⟨rfl, (below_ext (by repeat (first | exact Below.refl _ _ | exact Below.refl _ _ | (with_reducible refine Below.setCell ?_ (by first | omega | (simp; done) | (simp; omega)) _) | (with_reducible refine Below.alloc ?_ (by first | omega | (simp; done) | (simp; omega)) _) | (with_reducible refine Below.onDrewN ?_ _) | (with_reducible refine Below.drew ?_) | (with_reducible refine Below.ofExt ?_ (by first | omega | (simp; done) | (simp; omega))))))⟩
end Go.Proofs.Ytjfckjmdcfiacaa
