/-
  No cell of these rows narrows 'for every input' (looked for: loops, veiled, ifaces, maps, wideKeys, modest, calm, conditions, laid).
  DERIVED. THE GIVEN ROWS OF THIS SEAT. 7 by the template 'for every input the law returns true; each argument reads behind the call as it read before'; 0 by the template 'total and deterministic' (their statements: YtnnedgdbbecmcaaTotals.lean).
  GIVEN WITH THE SEED: the statements are not yours to turn. If you find one false, say at which input.
  Laid BY PROGRAM, IN A SANDBOX (cutbox-rows.mjs): the forced cells as the released guide's own fill.sh prints them over the translation 17862675db8d8f49… (all of the seat's roots in one cut). By AI agents, Wed Nov 11 2026. No macro, syntax, notation, axiom, sorry.
-/
import Derived.Test.YtnnedgdbbecmcaaChecked
import GoSem.Claim
import GoSem.ClaimJoined
import GoSem.ClaimMapViews
import Derived.JoinedTies
import Derived.KernelRfl
namespace Go.Proofs.Ytnnedgdbbecmcaa
/- THE CELL 'sum', in the pinned program and in every row, IS THE sha256 OF THE DUMP (.gsa) THAT YtnnedgdbbecmcaaProg.lean LOADS. Nothing in Lean hashes anything: it is a label: what it is worth is what the hold of that sum in a sandbox is worth. -/
noncomputable def Try.pinned : Pinned := { name := "ytnnedgdbbecmcaa", sum := "17862675db8d8f49531de7efd6ce2c1a32a210d05f2ef2ee994d6b4d52969e05", checked := Try.checked }
namespace Rows
def none {H : Type} : Left H := { results := [], args := [] }

/-- 'garmentlaw54.InspectPlans': WHATEVER THE INPUT: true; the input reads as it did. -/
def inspectPlansSpec : ChangeSpec := { name := "inspectPlans", fn := fun _ => fun
  | [d1, d2] => { results := [.lit (.bool true)], args := [d1, d2] }
  | _ => none }
def inspectPlansRow : OpenClaim := { program := "ytnnedgdbbecmcaa", sum := "17862675db8d8f49531de7efd6ce2c1a32a210d05f2ef2ee994d6b4d52969e05", func := "garment/garmentlaw54.InspectPlans", spec := "inspectPlans", apart := false }
def InspectPlansSaid : Prop := inspectPlansRow.holds Try.pinned (OpenSpec.ofChange inspectPlansSpec)

/-- ITS FALSE NEIGHBOUR: 'it returns false'. Refute it at one input. -/
def inspectPlansWrong : ChangeSpec := { name := "inspectPlans", fn := fun _ => fun
  | [d1, d2] => { results := [.lit (.bool false)], args := [d1, d2] }
  | _ => none }
def InspectPlansWrongFalsely : Prop := inspectPlansRow.holds Try.pinned (OpenSpec.ofChange inspectPlansWrong)

/-- 'garmentlaw54.InspectDecides': WHATEVER THE INPUT: true; the input reads as it did. -/
def inspectDecidesSpec : ChangeSpec := { name := "inspectDecides", fn := fun _ => fun
  | [d1, d2] => { results := [.lit (.bool true)], args := [d1, d2] }
  | _ => none }
def inspectDecidesRow : OpenClaim := { program := "ytnnedgdbbecmcaa", sum := "17862675db8d8f49531de7efd6ce2c1a32a210d05f2ef2ee994d6b4d52969e05", func := "garment/garmentlaw54.InspectDecides", spec := "inspectDecides", apart := false }
def InspectDecidesSaid : Prop := inspectDecidesRow.holds Try.pinned (OpenSpec.ofChange inspectDecidesSpec)

/-- ITS FALSE NEIGHBOUR: 'it returns false'. Refute it at one input. -/
def inspectDecidesWrong : ChangeSpec := { name := "inspectDecides", fn := fun _ => fun
  | [d1, d2] => { results := [.lit (.bool false)], args := [d1, d2] }
  | _ => none }
def InspectDecidesWrongFalsely : Prop := inspectDecidesRow.holds Try.pinned (OpenSpec.ofChange inspectDecidesWrong)

/-- 'garmentlaw54.InspectRules': WHATEVER THE INPUT: true; the input reads as it did. -/
def inspectRulesSpec : ChangeSpec := { name := "inspectRules", fn := fun _ => fun
  | [d1, d2, d3] => { results := [.lit (.bool true)], args := [d1, d2, d3] }
  | _ => none }
def inspectRulesRow : OpenClaim := { program := "ytnnedgdbbecmcaa", sum := "17862675db8d8f49531de7efd6ce2c1a32a210d05f2ef2ee994d6b4d52969e05", func := "garment/garmentlaw54.InspectRules", spec := "inspectRules", apart := false }
def InspectRulesSaid : Prop := inspectRulesRow.holds Try.pinned (OpenSpec.ofChange inspectRulesSpec)

/-- ITS FALSE NEIGHBOUR: 'it returns false'. Refute it at one input. -/
def inspectRulesWrong : ChangeSpec := { name := "inspectRules", fn := fun _ => fun
  | [d1, d2, d3] => { results := [.lit (.bool false)], args := [d1, d2, d3] }
  | _ => none }
def InspectRulesWrongFalsely : Prop := inspectRulesRow.holds Try.pinned (OpenSpec.ofChange inspectRulesWrong)

/-- 'garmentlaw54.InspectRuns': WHATEVER THE INPUT: true; the input reads as it did. -/
def inspectRunsSpec : ChangeSpec := { name := "inspectRuns", fn := fun _ => fun
  | [d1, d2] => { results := [.lit (.bool true)], args := [d1, d2] }
  | _ => none }
def inspectRunsRow : OpenClaim := { program := "ytnnedgdbbecmcaa", sum := "17862675db8d8f49531de7efd6ce2c1a32a210d05f2ef2ee994d6b4d52969e05", func := "garment/garmentlaw54.InspectRuns", spec := "inspectRuns", apart := false }
def InspectRunsSaid : Prop := inspectRunsRow.holds Try.pinned (OpenSpec.ofChange inspectRunsSpec)

/-- ITS FALSE NEIGHBOUR: 'it returns false'. Refute it at one input. -/
def inspectRunsWrong : ChangeSpec := { name := "inspectRuns", fn := fun _ => fun
  | [d1, d2] => { results := [.lit (.bool false)], args := [d1, d2] }
  | _ => none }
def InspectRunsWrongFalsely : Prop := inspectRunsRow.holds Try.pinned (OpenSpec.ofChange inspectRunsWrong)

/-- 'garmentlaw54.InspectSwitches': WHATEVER THE INPUT: true; the input reads as it did. -/
def inspectSwitchesSpec : ChangeSpec := { name := "inspectSwitches", fn := fun _ => fun
  | [d1, d2] => { results := [.lit (.bool true)], args := [d1, d2] }
  | _ => none }
def inspectSwitchesRow : OpenClaim := { program := "ytnnedgdbbecmcaa", sum := "17862675db8d8f49531de7efd6ce2c1a32a210d05f2ef2ee994d6b4d52969e05", func := "garment/garmentlaw54.InspectSwitches", spec := "inspectSwitches", apart := false }
def InspectSwitchesSaid : Prop := inspectSwitchesRow.holds Try.pinned (OpenSpec.ofChange inspectSwitchesSpec)

/-- ITS FALSE NEIGHBOUR: 'it returns false'. Refute it at one input. -/
def inspectSwitchesWrong : ChangeSpec := { name := "inspectSwitches", fn := fun _ => fun
  | [d1, d2] => { results := [.lit (.bool false)], args := [d1, d2] }
  | _ => none }
def InspectSwitchesWrongFalsely : Prop := inspectSwitchesRow.holds Try.pinned (OpenSpec.ofChange inspectSwitchesWrong)

/-- 'garmentlaw54.InspectWay': WHATEVER THE INPUT: true; the input reads as it did. -/
def inspectWaySpec : ChangeSpec := { name := "inspectWay", fn := fun _ => fun
  | [d] => { results := [.lit (.bool true)], args := [d] }
  | _ => none }
def inspectWayRow : OpenClaim := { program := "ytnnedgdbbecmcaa", sum := "17862675db8d8f49531de7efd6ce2c1a32a210d05f2ef2ee994d6b4d52969e05", func := "garment/garmentlaw54.InspectWay", spec := "inspectWay", apart := false }
def InspectWaySaid : Prop := inspectWayRow.holds Try.pinned (OpenSpec.ofChange inspectWaySpec)

/-- ITS FALSE NEIGHBOUR: 'it returns false'. Refute it at one input. -/
def inspectWayWrong : ChangeSpec := { name := "inspectWay", fn := fun _ => fun
  | [d] => { results := [.lit (.bool false)], args := [d] }
  | _ => none }
def InspectWayWrongFalsely : Prop := inspectWayRow.holds Try.pinned (OpenSpec.ofChange inspectWayWrong)

/-- 'garmentlaw54.InspectCalm': WHATEVER THE INPUT: true; the input reads as it did. -/
def inspectCalmSpec : ChangeSpec := { name := "inspectCalm", fn := fun _ => fun
  | [d] => { results := [.lit (.bool true)], args := [d] }
  | _ => none }
def inspectCalmRow : OpenClaim := { program := "ytnnedgdbbecmcaa", sum := "17862675db8d8f49531de7efd6ce2c1a32a210d05f2ef2ee994d6b4d52969e05", func := "garment/garmentlaw54.InspectCalm", spec := "inspectCalm", apart := false }
def InspectCalmSaid : Prop := inspectCalmRow.holds Try.pinned (OpenSpec.ofChange inspectCalmSpec)

/-- ITS FALSE NEIGHBOUR: 'it returns false'. Refute it at one input. -/
def inspectCalmWrong : ChangeSpec := { name := "inspectCalm", fn := fun _ => fun
  | [d] => { results := [.lit (.bool false)], args := [d] }
  | _ => none }
def InspectCalmWrongFalsely : Prop := inspectCalmRow.holds Try.pinned (OpenSpec.ofChange inspectCalmWrong)

/- THE SECOND FORM. 'bulk': how many values and letters a reading holds, each counted each time it is reached (what is shared counts as often as it is met; a slice's spare places count too). A statement '..UptoSaid' is the law's where the arguments, and the package variables that the reading takes, are together of bulk at most 1048576: NARROWER than '..Said'. Prove '..Said' where nothing that the law and all that it calls make is longer than what came in: it says more and counts as full. Else prove '..UptoSaid'. A law counts once. -/
mutual
def uptoBulk {H : Type} : DataW H → Nat
  | .lit (.string bytes) => bytes.length + 1
  | .lit _ => 1
  | .nil => 1
  | .ptr d => uptoBulk d + 1
  | .slice elems spare => uptoBulkAll elems + uptoBulkAll spare + 1
  | .agg parts => uptoBulkAll parts + 1
  | .iface _ d => uptoBulk d + 1
  | .map entries => uptoBulkEntries entries + 1
  | .held _ => 1
def uptoBulkAll {H : Type} : List (DataW H) → Nat
  | [] => 0
  | d :: r => uptoBulk d + uptoBulkAll r
def uptoBulkEntries {H : Type} : List (Lit × DataW H) → Nat
  | [] => 0
  | x :: r => uptoBulkEntry x + uptoBulkEntries r
def uptoBulkEntry {H : Type} : Lit × DataW H → Nat
  | (.string bytes, d) => bytes.length + uptoBulk d + 1
  | (_, d) => uptoBulk d + 1
 end
def uptoSmall : (H : Type) → List (DataW H) → Bool := fun _ ds => decide (uptoBulkAll ds ≤ 1048576)
def OpenSpec.upto (s : _root_.Go.ChangeSpec) : _root_.Go.OpenSpec := { _root_.Go.OpenSpec.ofChange s with cond := some uptoSmall }

/-- 'garmentlaw54.InspectPlans', WHERE WHAT IT READS IS OF BULK AT MOST 1048576: true; the input reads as it did. -/
def inspectPlansUptoRow : OpenClaim := { program := "ytnnedgdbbecmcaa", sum := "17862675db8d8f49531de7efd6ce2c1a32a210d05f2ef2ee994d6b4d52969e05", func := "garment/garmentlaw54.InspectPlans", spec := "inspectPlans", apart := false, narrowed := true }
def InspectPlansUptoSaid : Prop := inspectPlansUptoRow.holds Try.pinned (OpenSpec.upto inspectPlansSpec)

/-- 'garmentlaw54.InspectDecides', WHERE WHAT IT READS IS OF BULK AT MOST 1048576: true; the input reads as it did. -/
def inspectDecidesUptoRow : OpenClaim := { program := "ytnnedgdbbecmcaa", sum := "17862675db8d8f49531de7efd6ce2c1a32a210d05f2ef2ee994d6b4d52969e05", func := "garment/garmentlaw54.InspectDecides", spec := "inspectDecides", apart := false, narrowed := true }
def InspectDecidesUptoSaid : Prop := inspectDecidesUptoRow.holds Try.pinned (OpenSpec.upto inspectDecidesSpec)

/-- 'garmentlaw54.InspectRules', WHERE WHAT IT READS IS OF BULK AT MOST 1048576: true; the input reads as it did. -/
def inspectRulesUptoRow : OpenClaim := { program := "ytnnedgdbbecmcaa", sum := "17862675db8d8f49531de7efd6ce2c1a32a210d05f2ef2ee994d6b4d52969e05", func := "garment/garmentlaw54.InspectRules", spec := "inspectRules", apart := false, narrowed := true }
def InspectRulesUptoSaid : Prop := inspectRulesUptoRow.holds Try.pinned (OpenSpec.upto inspectRulesSpec)

/-- 'garmentlaw54.InspectRuns', WHERE WHAT IT READS IS OF BULK AT MOST 1048576: true; the input reads as it did. -/
def inspectRunsUptoRow : OpenClaim := { program := "ytnnedgdbbecmcaa", sum := "17862675db8d8f49531de7efd6ce2c1a32a210d05f2ef2ee994d6b4d52969e05", func := "garment/garmentlaw54.InspectRuns", spec := "inspectRuns", apart := false, narrowed := true }
def InspectRunsUptoSaid : Prop := inspectRunsUptoRow.holds Try.pinned (OpenSpec.upto inspectRunsSpec)

/-- 'garmentlaw54.InspectSwitches', WHERE WHAT IT READS IS OF BULK AT MOST 1048576: true; the input reads as it did. -/
def inspectSwitchesUptoRow : OpenClaim := { program := "ytnnedgdbbecmcaa", sum := "17862675db8d8f49531de7efd6ce2c1a32a210d05f2ef2ee994d6b4d52969e05", func := "garment/garmentlaw54.InspectSwitches", spec := "inspectSwitches", apart := false, narrowed := true }
def InspectSwitchesUptoSaid : Prop := inspectSwitchesUptoRow.holds Try.pinned (OpenSpec.upto inspectSwitchesSpec)

/-- 'garmentlaw54.InspectWay', WHERE WHAT IT READS IS OF BULK AT MOST 1048576: true; the input reads as it did. -/
def inspectWayUptoRow : OpenClaim := { program := "ytnnedgdbbecmcaa", sum := "17862675db8d8f49531de7efd6ce2c1a32a210d05f2ef2ee994d6b4d52969e05", func := "garment/garmentlaw54.InspectWay", spec := "inspectWay", apart := false, narrowed := true }
def InspectWayUptoSaid : Prop := inspectWayUptoRow.holds Try.pinned (OpenSpec.upto inspectWaySpec)

/-- 'garmentlaw54.InspectCalm', WHERE WHAT IT READS IS OF BULK AT MOST 1048576: true; the input reads as it did. -/
def inspectCalmUptoRow : OpenClaim := { program := "ytnnedgdbbecmcaa", sum := "17862675db8d8f49531de7efd6ce2c1a32a210d05f2ef2ee994d6b4d52969e05", func := "garment/garmentlaw54.InspectCalm", spec := "inspectCalm", apart := false, narrowed := true }
def InspectCalmUptoSaid : Prop := inspectCalmUptoRow.holds Try.pinned (OpenSpec.upto inspectCalmSpec)

end Rows
end Go.Proofs.Ytnnedgdbbecmcaa
