/-
  The contract of the products.
-/
import Derived.Test.YtlllamcaamlbgaaBool
namespace Go.Proofs.Ytlllamcaamlbgaa
open Go.RowKit

set_option maxHeartbeats 400000 in
theorem times_any (a b c d : Int) (w : World) : Calls Try.prog 20 #[.agg #[.int .i64 (a), .int .i64 (b)], .agg #[.int .i64 (c), .int .i64 (d)]] w fun e w' => e = .returned (.agg #[.int .i64 (bnd a * bnd c), .int .i64 (bnd b * bnd d)]) ∧ ∃ z, w' = ext w z := by
  have m1 := mul_bd (bnd a) (bnd c) (bnd_bd a).1 (bnd_bd a).2 (bnd_bd c).1 (bnd_bd c).2
  have m2 := mul_bd (bnd b) (bnd d) (bnd_bd b).1 (bnd_bd b).2 (bnd_bd d).1 (bnd_bd d).2
  have w1 : IntKind.i64.wrap (bnd a * bnd c) = bnd a * bnd c := IntWalk.i64_in _ (by omega)
  have w2 : IntKind.i64.wrap (bnd b * bnd d) = bnd b * bnd d := IntWalk.i64_in _ (by omega)
  clear m1 m2
  go_enter Try.func20, Try.ntmps20
  go_wp2
  refine wp_region_drew_tail 15 (by kernel_rfl) (by kernel_rfl) ?_
  simp only [List.take_succ_cons, List.take_zero, List.drop_succ_cons, List.drop_zero]
  repeat (go_big_quiet_step ((first | (go_at_call 28; exact Calls.quiet_of_same (bound_any _ _)))))
  refine wpQuiet_nil ?_
  rintro _ ⟨k, rfl⟩
  go_wp2
  exact bodyPost_ret (v := .agg #[.int .i64 (bnd a * bnd c), .int .i64 (bnd b * bnd d)]) (by simp [results, Try.results20, go_sem]) rfl ⟨rfl, (below_ext (by repeat (first | exact Below.refl _ _ | (with_reducible refine Below.setCell ?_ (by first | (simp; done) | (simp; omega)) _) | (with_reducible refine Below.alloc ?_ (by first | (simp; done) | (simp; omega)) _) | (with_reducible refine Below.onDrewN ?_ _) | (with_reducible refine Below.drew ?_) | (with_reducible refine Below.ofExt ?_ (by first | (simp; done) | (simp; omega))))))⟩
end Go.Proofs.Ytlllamcaamlbgaa
