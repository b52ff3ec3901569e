/-
  No cell of these rows narrows 'for every input' (looked for: loops, veiled, ifaces, maps, wideKeys, modest, calm, conditions, laid).
  DERIVED. THE GIVEN ROWS OF THIS SEAT. 7 by the template 'for every input the law returns true; each argument reads behind the call as it read before'; 0 by the template 'total and deterministic' (their statements: YtlllamcaamlbgaaTotals.lean).
  GIVEN WITH THE SEED: the statements are not yours to turn. If you find one false, say at which input.
  Laid BY PROGRAM, IN A SANDBOX (cutbox-rows.mjs): the forced cells as the released guide's own fill.sh prints them over the translation 74d1b7a751e861ee… (all of the seat's roots in one cut). By AI agents, Wed Nov 11 2026. No macro, syntax, notation, axiom, sorry.
-/
import Derived.Test.YtlllamcaamlbgaaChecked
import GoSem.Claim
import GoSem.ClaimJoined
import GoSem.ClaimMapViews
import Derived.JoinedTies
import Derived.KernelRfl
namespace Go.Proofs.Ytlllamcaamlbgaa
/- THE CELL 'sum', in the pinned program and in every row, IS THE sha256 OF THE DUMP (.gsa) THAT YtlllamcaamlbgaaProg.lean LOADS. Nothing in Lean hashes anything: it is a label: what it is worth is what the hold of that sum in a sandbox is worth. -/
noncomputable def Try.pinned : Pinned := { name := "ytlllamcaamlbgaa", sum := "74d1b7a751e861ee2757784982ef4ab05015b83532a28b31f4c9ed507edd476c", checked := Try.checked }
namespace Rows
def none {H : Type} : Left H := { results := [], args := [] }

/-- 'garmentlaw28.StripePhases': WHATEVER THE INPUT: true; the input reads as it did. -/
def stripePhasesSpec : ChangeSpec := { name := "stripePhases", fn := fun _ => fun
  | [d1, d2] => { results := [.lit (.bool true)], args := [d1, d2] }
  | _ => none }
def stripePhasesRow : OpenClaim := { program := "ytlllamcaamlbgaa", sum := "74d1b7a751e861ee2757784982ef4ab05015b83532a28b31f4c9ed507edd476c", func := "garment/garmentlaw28.StripePhases", spec := "stripePhases", apart := false }
def StripePhasesSaid : Prop := stripePhasesRow.holds Try.pinned (OpenSpec.ofChange stripePhasesSpec)

/-- ITS FALSE NEIGHBOUR: 'it returns false'. Refute it at one input. -/
def stripePhasesWrong : ChangeSpec := { name := "stripePhases", fn := fun _ => fun
  | [d1, d2] => { results := [.lit (.bool false)], args := [d1, d2] }
  | _ => none }
def StripePhasesWrongFalsely : Prop := stripePhasesRow.holds Try.pinned (OpenSpec.ofChange stripePhasesWrong)

/-- 'garmentlaw28.StripeNexts': WHATEVER THE INPUT: true; the input reads as it did. -/
def stripeNextsSpec : ChangeSpec := { name := "stripeNexts", fn := fun _ => fun
  | [d1, d2, d3] => { results := [.lit (.bool true)], args := [d1, d2, d3] }
  | _ => none }
def stripeNextsRow : OpenClaim := { program := "ytlllamcaamlbgaa", sum := "74d1b7a751e861ee2757784982ef4ab05015b83532a28b31f4c9ed507edd476c", func := "garment/garmentlaw28.StripeNexts", spec := "stripeNexts", apart := false }
def StripeNextsSaid : Prop := stripeNextsRow.holds Try.pinned (OpenSpec.ofChange stripeNextsSpec)

/-- ITS FALSE NEIGHBOUR: 'it returns false'. Refute it at one input. -/
def stripeNextsWrong : ChangeSpec := { name := "stripeNexts", fn := fun _ => fun
  | [d1, d2, d3] => { results := [.lit (.bool false)], args := [d1, d2, d3] }
  | _ => none }
def StripeNextsWrongFalsely : Prop := stripeNextsRow.holds Try.pinned (OpenSpec.ofChange stripeNextsWrong)

/-- 'garmentlaw28.StripeNext': WHATEVER THE INPUT: true; the input reads as it did. -/
def stripeNextSpec : ChangeSpec := { name := "stripeNext", fn := fun _ => fun
  | [d1, d2, d3] => { results := [.lit (.bool true)], args := [d1, d2, d3] }
  | _ => none }
def stripeNextRow : OpenClaim := { program := "ytlllamcaamlbgaa", sum := "74d1b7a751e861ee2757784982ef4ab05015b83532a28b31f4c9ed507edd476c", func := "garment/garmentlaw28.StripeNext", spec := "stripeNext", apart := false }
def StripeNextSaid : Prop := stripeNextRow.holds Try.pinned (OpenSpec.ofChange stripeNextSpec)

/-- ITS FALSE NEIGHBOUR: 'it returns false'. Refute it at one input. -/
def stripeNextWrong : ChangeSpec := { name := "stripeNext", fn := fun _ => fun
  | [d1, d2, d3] => { results := [.lit (.bool false)], args := [d1, d2, d3] }
  | _ => none }
def StripeNextWrongFalsely : Prop := stripeNextRow.holds Try.pinned (OpenSpec.ofChange stripeNextWrong)

/-- 'garmentlaw28.StripeBounds': WHATEVER THE INPUT: true; the input reads as it did. -/
def stripeBoundsSpec : ChangeSpec := { name := "stripeBounds", fn := fun _ => fun
  | [d1, d2] => { results := [.lit (.bool true)], args := [d1, d2] }
  | _ => none }
def stripeBoundsRow : OpenClaim := { program := "ytlllamcaamlbgaa", sum := "74d1b7a751e861ee2757784982ef4ab05015b83532a28b31f4c9ed507edd476c", func := "garment/garmentlaw28.StripeBounds", spec := "stripeBounds", apart := false }
def StripeBoundsSaid : Prop := stripeBoundsRow.holds Try.pinned (OpenSpec.ofChange stripeBoundsSpec)

/-- ITS FALSE NEIGHBOUR: 'it returns false'. Refute it at one input. -/
def stripeBoundsWrong : ChangeSpec := { name := "stripeBounds", fn := fun _ => fun
  | [d1, d2] => { results := [.lit (.bool false)], args := [d1, d2] }
  | _ => none }
def StripeBoundsWrongFalsely : Prop := stripeBoundsRow.holds Try.pinned (OpenSpec.ofChange stripeBoundsWrong)

/-- 'garmentlaw28.StripeEquivalence': WHATEVER THE INPUT: true; the input reads as it did. -/
def stripeEquivalenceSpec : ChangeSpec := { name := "stripeEquivalence", fn := fun _ => fun
  | [d1, d2] => { results := [.lit (.bool true)], args := [d1, d2] }
  | _ => none }
def stripeEquivalenceRow : OpenClaim := { program := "ytlllamcaamlbgaa", sum := "74d1b7a751e861ee2757784982ef4ab05015b83532a28b31f4c9ed507edd476c", func := "garment/garmentlaw28.StripeEquivalence", spec := "stripeEquivalence", apart := false }
def StripeEquivalenceSaid : Prop := stripeEquivalenceRow.holds Try.pinned (OpenSpec.ofChange stripeEquivalenceSpec)

/-- ITS FALSE NEIGHBOUR: 'it returns false'. Refute it at one input. -/
def stripeEquivalenceWrong : ChangeSpec := { name := "stripeEquivalence", fn := fun _ => fun
  | [d1, d2] => { results := [.lit (.bool false)], args := [d1, d2] }
  | _ => none }
def StripeEquivalenceWrongFalsely : Prop := stripeEquivalenceRow.holds Try.pinned (OpenSpec.ofChange stripeEquivalenceWrong)

/-- 'garmentlaw28.StripeMoves': WHATEVER THE INPUT: true; the input reads as it did. -/
def stripeMovesSpec : ChangeSpec := { name := "stripeMoves", fn := fun _ => fun
  | [d1, d2, d3] => { results := [.lit (.bool true)], args := [d1, d2, d3] }
  | _ => none }
def stripeMovesRow : OpenClaim := { program := "ytlllamcaamlbgaa", sum := "74d1b7a751e861ee2757784982ef4ab05015b83532a28b31f4c9ed507edd476c", func := "garment/garmentlaw28.StripeMoves", spec := "stripeMoves", apart := false }
def StripeMovesSaid : Prop := stripeMovesRow.holds Try.pinned (OpenSpec.ofChange stripeMovesSpec)

/-- ITS FALSE NEIGHBOUR: 'it returns false'. Refute it at one input. -/
def stripeMovesWrong : ChangeSpec := { name := "stripeMoves", fn := fun _ => fun
  | [d1, d2, d3] => { results := [.lit (.bool false)], args := [d1, d2, d3] }
  | _ => none }
def StripeMovesWrongFalsely : Prop := stripeMovesRow.holds Try.pinned (OpenSpec.ofChange stripeMovesWrong)

/-- 'garmentlaw28.StripeAgain': WHATEVER THE INPUT: true; the input reads as it did. -/
def stripeAgainSpec : ChangeSpec := { name := "stripeAgain", fn := fun _ => fun
  | [d1, d2] => { results := [.lit (.bool true)], args := [d1, d2] }
  | _ => none }
def stripeAgainRow : OpenClaim := { program := "ytlllamcaamlbgaa", sum := "74d1b7a751e861ee2757784982ef4ab05015b83532a28b31f4c9ed507edd476c", func := "garment/garmentlaw28.StripeAgain", spec := "stripeAgain", apart := false }
def StripeAgainSaid : Prop := stripeAgainRow.holds Try.pinned (OpenSpec.ofChange stripeAgainSpec)

/-- ITS FALSE NEIGHBOUR: 'it returns false'. Refute it at one input. -/
def stripeAgainWrong : ChangeSpec := { name := "stripeAgain", fn := fun _ => fun
  | [d1, d2] => { results := [.lit (.bool false)], args := [d1, d2] }
  | _ => none }
def StripeAgainWrongFalsely : Prop := stripeAgainRow.holds Try.pinned (OpenSpec.ofChange stripeAgainWrong)

/- THE SECOND FORM. 'bulk': how many values and letters a reading holds, each counted each time it is reached (what is shared counts as often as it is met; a slice's spare places count too). A statement '..UptoSaid' is the law's where the arguments, and the package variables that the reading takes, are together of bulk at most 1048576: NARROWER than '..Said'. Prove '..Said' where nothing that the law and all that it calls make is longer than what came in: it says more and counts as full. Else prove '..UptoSaid'. A law counts once. -/
mutual
def uptoBulk {H : Type} : DataW H → Nat
  | .lit (.string bytes) => bytes.length + 1
  | .lit _ => 1
  | .nil => 1
  | .ptr d => uptoBulk d + 1
  | .slice elems spare => uptoBulkAll elems + uptoBulkAll spare + 1
  | .agg parts => uptoBulkAll parts + 1
  | .iface _ d => uptoBulk d + 1
  | .map entries => uptoBulkEntries entries + 1
  | .held _ => 1
def uptoBulkAll {H : Type} : List (DataW H) → Nat
  | [] => 0
  | d :: r => uptoBulk d + uptoBulkAll r
def uptoBulkEntries {H : Type} : List (Lit × DataW H) → Nat
  | [] => 0
  | x :: r => uptoBulkEntry x + uptoBulkEntries r
def uptoBulkEntry {H : Type} : Lit × DataW H → Nat
  | (.string bytes, d) => bytes.length + uptoBulk d + 1
  | (_, d) => uptoBulk d + 1
 end
def uptoSmall : (H : Type) → List (DataW H) → Bool := fun _ ds => decide (uptoBulkAll ds ≤ 1048576)
def OpenSpec.upto (s : _root_.Go.ChangeSpec) : _root_.Go.OpenSpec := { _root_.Go.OpenSpec.ofChange s with cond := some uptoSmall }

/-- 'garmentlaw28.StripePhases', WHERE WHAT IT READS IS OF BULK AT MOST 1048576: true; the input reads as it did. -/
def stripePhasesUptoRow : OpenClaim := { program := "ytlllamcaamlbgaa", sum := "74d1b7a751e861ee2757784982ef4ab05015b83532a28b31f4c9ed507edd476c", func := "garment/garmentlaw28.StripePhases", spec := "stripePhases", apart := false, narrowed := true }
def StripePhasesUptoSaid : Prop := stripePhasesUptoRow.holds Try.pinned (OpenSpec.upto stripePhasesSpec)

/-- 'garmentlaw28.StripeNexts', WHERE WHAT IT READS IS OF BULK AT MOST 1048576: true; the input reads as it did. -/
def stripeNextsUptoRow : OpenClaim := { program := "ytlllamcaamlbgaa", sum := "74d1b7a751e861ee2757784982ef4ab05015b83532a28b31f4c9ed507edd476c", func := "garment/garmentlaw28.StripeNexts", spec := "stripeNexts", apart := false, narrowed := true }
def StripeNextsUptoSaid : Prop := stripeNextsUptoRow.holds Try.pinned (OpenSpec.upto stripeNextsSpec)

/-- 'garmentlaw28.StripeNext', WHERE WHAT IT READS IS OF BULK AT MOST 1048576: true; the input reads as it did. -/
def stripeNextUptoRow : OpenClaim := { program := "ytlllamcaamlbgaa", sum := "74d1b7a751e861ee2757784982ef4ab05015b83532a28b31f4c9ed507edd476c", func := "garment/garmentlaw28.StripeNext", spec := "stripeNext", apart := false, narrowed := true }
def StripeNextUptoSaid : Prop := stripeNextUptoRow.holds Try.pinned (OpenSpec.upto stripeNextSpec)

/-- 'garmentlaw28.StripeBounds', WHERE WHAT IT READS IS OF BULK AT MOST 1048576: true; the input reads as it did. -/
def stripeBoundsUptoRow : OpenClaim := { program := "ytlllamcaamlbgaa", sum := "74d1b7a751e861ee2757784982ef4ab05015b83532a28b31f4c9ed507edd476c", func := "garment/garmentlaw28.StripeBounds", spec := "stripeBounds", apart := false, narrowed := true }
def StripeBoundsUptoSaid : Prop := stripeBoundsUptoRow.holds Try.pinned (OpenSpec.upto stripeBoundsSpec)

/-- 'garmentlaw28.StripeEquivalence', WHERE WHAT IT READS IS OF BULK AT MOST 1048576: true; the input reads as it did. -/
def stripeEquivalenceUptoRow : OpenClaim := { program := "ytlllamcaamlbgaa", sum := "74d1b7a751e861ee2757784982ef4ab05015b83532a28b31f4c9ed507edd476c", func := "garment/garmentlaw28.StripeEquivalence", spec := "stripeEquivalence", apart := false, narrowed := true }
def StripeEquivalenceUptoSaid : Prop := stripeEquivalenceUptoRow.holds Try.pinned (OpenSpec.upto stripeEquivalenceSpec)

/-- 'garmentlaw28.StripeMoves', WHERE WHAT IT READS IS OF BULK AT MOST 1048576: true; the input reads as it did. -/
def stripeMovesUptoRow : OpenClaim := { program := "ytlllamcaamlbgaa", sum := "74d1b7a751e861ee2757784982ef4ab05015b83532a28b31f4c9ed507edd476c", func := "garment/garmentlaw28.StripeMoves", spec := "stripeMoves", apart := false, narrowed := true }
def StripeMovesUptoSaid : Prop := stripeMovesUptoRow.holds Try.pinned (OpenSpec.upto stripeMovesSpec)

/-- 'garmentlaw28.StripeAgain', WHERE WHAT IT READS IS OF BULK AT MOST 1048576: true; the input reads as it did. -/
def stripeAgainUptoRow : OpenClaim := { program := "ytlllamcaamlbgaa", sum := "74d1b7a751e861ee2757784982ef4ab05015b83532a28b31f4c9ed507edd476c", func := "garment/garmentlaw28.StripeAgain", spec := "stripeAgain", apart := false, narrowed := true }
def StripeAgainUptoSaid : Prop := stripeAgainUptoRow.holds Try.pinned (OpenSpec.upto stripeAgainSpec)

end Rows
end Go.Proofs.Ytlllamcaamlbgaa
