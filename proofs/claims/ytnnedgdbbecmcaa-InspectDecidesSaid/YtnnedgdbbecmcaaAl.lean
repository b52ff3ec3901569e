/-
  The examples of the chapter hold.
-/
import Derived.Test.YtnnedgdbbecmcaaRun
namespace Go.Proofs.Ytnnedgdbbecmcaa
open Go.RowKit

theorem fields_of {P : Program} {t : TypeId} {fs : Array Field} (h : P.underlying t = some (.struct fs)) : P.fieldsOf t = fs := by simp only [Program.fieldsOf, h]
theorem stood23 : Try.prog.stoodInHeld 23 = false := by kernel_rfl
theorem stood25 : Try.prog.stoodInHeld 25 = false := by kernel_rfl
theorem guard23 : Try.prog.eqGuardType Try.prog.depth 23 = false := by kernel_rfl
theorem guard25 : Try.prog.eqGuardType Try.prog.depth 25 = false := by kernel_rfl
/-- Two pairs, two triples of numbers are equal. -/
def eq2 (a b c d : Int) : Bool := a == c && b == d
def eq3 (a b c d e f : Int) : Bool := a == d && b == e && c == f
theorem eql25 (a b c d : Int) (w : World) : (binOp .eql 25 (.agg #[.int .i64 a, .int .i64 b]) (.agg #[.int .i64 c, .int .i64 d])).run Try.prog w = .ok (.bool (eq2 a b c d)) w := by
  rw [run_eql_struct, run_equalIn_struct w 9999 25 _ _ (by rw [fields_of Try.underlying25]; exact Try.underlying25) stood25, fields_of Try.underlying25]
  unfold eq2
  by_cases h1 : a = c <;> by_cases h2 : b = d <;> simp [Op.eqFields, go_sem, h1, h2]
theorem eql23 (a b c d e f : Int) (w : World) : (binOp .eql 23 (.agg #[.int .i64 a, .int .i64 b, .int .i64 c]) (.agg #[.int .i64 d, .int .i64 e, .int .i64 f])).run Try.prog w = .ok (.bool (eq3 a b c d e f)) w := by
  rw [run_eql_struct, run_equalIn_struct w 9999 23 _ _ (by rw [fields_of Try.underlying23]; exact Try.underlying23) stood23, fields_of Try.underlying23]
  unfold eq3
  by_cases h1 : a = d <;> by_cases h2 : b = e <;> by_cases h3 : c = f <;> simp [Op.eqFields, go_sem, h1, h2, h3]
attribute [go_sem ↓] eql23 eql25
attribute [go_sem] guard23 guard25

theorem run_ex : runP [50, 50] [3, 4] = ([true, false], ⟨2, 0, 1⟩, 0) := by kernel_rfl
theorem rowAt_two {w : World} {b : Nat} {x y : Value} (h : b < w.heap.size) (h0 : w.cell? ⟨b, 0, none⟩ = some x) (h1 : w.cell? ⟨b, 1, none⟩ = some y) : RowAt w (some ⟨b, 0, none⟩) [x, y] :=
  fun i hi => ⟨b, 0, rfl, h, fun j hj => by
    match j, hj with
    | 0, _ => simpa using h0
    | 1, _ => simpa using h1⟩

theorem Run_ex (b b' c c' : Nat) (w : World) (h : RowAt w (some ⟨b, 0, none⟩) [.int .i64 50, .int .i64 50]) (h' : RowAt w (some ⟨b', 0, none⟩) [.int .i64 3, .int .i64 4]) :
    Calls Try.prog 14 #[.slice (some ⟨b, 0, none⟩) 2 c, .slice (some ⟨b', 0, none⟩) 2 c'] w fun e w' => ∃ a cap, e = .returned (.tuple #[.slice a 2 cap, .agg #[.int .i64 2, .int .i64 0, .int .i64 1], .int .i64 0]) ∧ RowAt w' a [.bool true, .bool false] ∧ ∃ z, w' = ext w z := by
  have R := Run_any (some ⟨b, 0, none⟩) (some ⟨b', 0, none⟩) c c' [50, 50] [3, 4] w h h' (by decide)
  rw [run_ex] at R
  exact R
theorem Same_ex (a a' : Option Addr) (c c' : Nat) (w : World) (h : RowAt w a [.bool true, .bool false]) (h' : RowAt w a' [.bool true, .bool false]) :
    Calls Try.prog 20 #[.slice a 2 c, .slice a' 2 c'] w fun e w' => e = .returned (.bool true) ∧ ∃ z, w' = ext w z :=
  Same_any a a' c c' [true, false] [true, false] w h h' (by decide)

set_option maxHeartbeats 4000000 in
theorem alive_any (w : World) : Calls Try.prog 11 #[] w fun e w' => e = .returned (.bool true) ∧ ∃ z, w' = ext w z := by
  have p1 : (plE 2 0 0 50 == 0) = true := by decide
  have p2 : eq2 (plN 2 0 0 50) (plC 2 0 0 50) 15 3 = true := by decide
  have s1 : (swE 2 3 1 == 0) = true := by decide
  have s2 : eq3 (sw 2 3 1 false).l (sw 2 3 1 false).a (sw 2 3 1 false).r 3 0 0 = true := by decide
  have s3 : (swE 4 0 0 == 8) = true := by decide
  have t1 : eq3 2 0 0 2 0 0 = true := by decide
  have t2 : eq3 2 0 1 2 0 1 = true := by decide

  go_enter Try.func11, Try.ntmps11
  go_wp2_with (first | (go_at_call 13; (first | (with_reducible refine (Calls.ext_of (Start_any _)).mono ?_) | refine (Start_any _).mono ?_); rintro e w' ⟨rfl, z, rfl⟩) | (go_at_call 10; (first | (with_reducible refine (Calls.ext_of (Plan_any _ _ _ _ _)).mono ?_) | refine (Plan_any _ _ _ _ _).mono ?_); rintro e w' ⟨rfl, z, rfl⟩) | (go_at_call 15; (first | (with_reducible refine (Calls.ext_of (Switch_any _ _ _ _ _)).mono ?_) | refine (Switch_any _ _ _ _ _).mono ?_); rintro e w' ⟨rfl, z, rfl⟩))
  refine (Run_ex _ _ _ _ _ (rowAt_two (by first | (simp; done) | (simp; omega)) (by simp [go_sem]) (by simp [go_sem])) (rowAt_two (by first | (simp; done) | (simp; omega)) (by simp [go_sem]) (by simp [go_sem]))).mono ?_
  rintro e w' ⟨a, cap, rfl, hrow, z5, rfl⟩
  have HR := Lib.hid hrow
  clear hrow
  go_wp2_with (first | (go_at_call 13; (first | (with_reducible refine (Calls.ext_of (Start_any _)).mono ?_) | refine (Start_any _).mono ?_); rintro e w' ⟨rfl, z, rfl⟩) | (go_at_call 10; (first | (with_reducible refine (Calls.ext_of (Plan_any _ _ _ _ _)).mono ?_) | refine (Plan_any _ _ _ _ _).mono ?_); rintro e w' ⟨rfl, z, rfl⟩) | (go_at_call 15; (first | (with_reducible refine (Calls.ext_of (Switch_any _ _ _ _ _)).mono ?_) | refine (Switch_any _ _ _ _ _).mono ?_); rintro e w' ⟨rfl, z, rfl⟩))
  refine (Same_ex _ _ _ _ _ (HR.out.below (by repeat (first | exact Below.refl _ _ | (with_reducible refine Below.setCell ?_ (by first | (simp; done) | (simp; omega)) _) | (with_reducible refine Below.alloc ?_ (by first | (simp; done) | (simp; omega)) _) | (with_reducible refine Below.onDrewN ?_ _) | (with_reducible refine Below.drew ?_) | (with_reducible refine Below.ofExt ?_ (by first | (simp; done) | (simp; omega)))))) (rowAt_two (by first | (simp; done) | (simp; omega)) (by simp [go_sem]) (by simp [go_sem]))).mono ?_
  rintro e w' ⟨rfl, z6, rfl⟩
  clear HR
  go_wp2_with (first | (go_at_call 13; (first | (with_reducible refine (Calls.ext_of (Start_any _)).mono ?_) | refine (Start_any _).mono ?_); rintro e w' ⟨rfl, z, rfl⟩) | (go_at_call 10; (first | (with_reducible refine (Calls.ext_of (Plan_any _ _ _ _ _)).mono ?_) | refine (Plan_any _ _ _ _ _).mono ?_); rintro e w' ⟨rfl, z, rfl⟩) | (go_at_call 15; (first | (with_reducible refine (Calls.ext_of (Switch_any _ _ _ _ _)).mono ?_) | refine (Switch_any _ _ _ _ _).mono ?_); rintro e w' ⟨rfl, z, rfl⟩))
  go_ret
  exact ⟨rfl, (below_ext (by repeat (first | exact Below.refl _ _ | (with_reducible refine Below.setCell ?_ (by first | (simp; done) | (simp; omega)) _) | (with_reducible refine Below.alloc ?_ (by first | (simp; done) | (simp; omega)) _) | (with_reducible refine Below.onDrewN ?_ _) | (with_reducible refine Below.drew ?_) | (with_reducible refine Below.ofExt ?_ (by first | (simp; done) | (simp; omega))))))⟩
end Go.Proofs.Ytnnedgdbbecmcaa
