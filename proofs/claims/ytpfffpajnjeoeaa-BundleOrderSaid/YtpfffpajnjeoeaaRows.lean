/-
  No cell of these rows narrows 'for every input' (looked for: loops, veiled, ifaces, maps, wideKeys, modest, calm, conditions, laid).
  DERIVED. THE GIVEN ROWS OF THIS SEAT. 8 by the template 'for every input the law returns true; each argument reads behind the call as it read before'; 0 by the template 'total and deterministic' (their statements: YtpfffpajnjeoeaaTotals.lean).
  GIVEN WITH THE SEED: the statements are not yours to turn. If you find one false, say at which input.
  Laid BY PROGRAM, IN A SANDBOX (cutbox-rows.mjs): the forced cells as the released guide's own fill.sh prints them over the translation ac8096c1f0615455… (all of the seat's roots in one cut). By AI agents, Wed Nov 11 2026. No macro, syntax, notation, axiom, sorry.
-/
import Derived.Test.YtpfffpajnjeoeaaChecked
import GoSem.Claim
import GoSem.ClaimJoined
import GoSem.ClaimMapViews
import Derived.JoinedTies
import Derived.KernelRfl
namespace Go.Proofs.Ytpfffpajnjeoeaa
/- THE CELL 'sum', in the pinned program and in every row, IS THE sha256 OF THE DUMP (.gsa) THAT YtpfffpajnjeoeaaProg.lean LOADS. Nothing in Lean hashes anything: it is a label: what it is worth is what the hold of that sum in a sandbox is worth. -/
noncomputable def Try.pinned : Pinned := { name := "ytpfffpajnjeoeaa", sum := "ac8096c1f0615455c3d30b3c08229657a5bd75d2cca51a59228ac4310fe81424", checked := Try.checked }
namespace Rows
def none {H : Type} : Left H := { results := [], args := [] }

/-- 'garmentlaw44.BundleMakes': WHATEVER THE INPUT: true; the input reads as it did. -/
def bundleMakesSpec : ChangeSpec := { name := "bundleMakes", fn := fun _ => fun
  | [d1, d2] => { results := [.lit (.bool true)], args := [d1, d2] }
  | _ => none }
def bundleMakesRow : OpenClaim := { program := "ytpfffpajnjeoeaa", sum := "ac8096c1f0615455c3d30b3c08229657a5bd75d2cca51a59228ac4310fe81424", func := "garment/garmentlaw44.BundleMakes", spec := "bundleMakes", apart := false }
def BundleMakesSaid : Prop := bundleMakesRow.holds Try.pinned (OpenSpec.ofChange bundleMakesSpec)

/-- ITS FALSE NEIGHBOUR: 'it returns false'. Refute it at one input. -/
def bundleMakesWrong : ChangeSpec := { name := "bundleMakes", fn := fun _ => fun
  | [d1, d2] => { results := [.lit (.bool false)], args := [d1, d2] }
  | _ => none }
def BundleMakesWrongFalsely : Prop := bundleMakesRow.holds Try.pinned (OpenSpec.ofChange bundleMakesWrong)

/-- 'garmentlaw44.BundleFinds': WHATEVER THE INPUT: true; the input reads as it did. -/
def bundleFindsSpec : ChangeSpec := { name := "bundleFinds", fn := fun _ => fun
  | [d1, d2, d3] => { results := [.lit (.bool true)], args := [d1, d2, d3] }
  | _ => none }
def bundleFindsRow : OpenClaim := { program := "ytpfffpajnjeoeaa", sum := "ac8096c1f0615455c3d30b3c08229657a5bd75d2cca51a59228ac4310fe81424", func := "garment/garmentlaw44.BundleFinds", spec := "bundleFinds", apart := false }
def BundleFindsSaid : Prop := bundleFindsRow.holds Try.pinned (OpenSpec.ofChange bundleFindsSpec)

/-- ITS FALSE NEIGHBOUR: 'it returns false'. Refute it at one input. -/
def bundleFindsWrong : ChangeSpec := { name := "bundleFinds", fn := fun _ => fun
  | [d1, d2, d3] => { results := [.lit (.bool false)], args := [d1, d2, d3] }
  | _ => none }
def BundleFindsWrongFalsely : Prop := bundleFindsRow.holds Try.pinned (OpenSpec.ofChange bundleFindsWrong)

/-- 'garmentlaw44.BundleChecks': WHATEVER THE INPUT: true; the input reads as it did. -/
def bundleChecksSpec : ChangeSpec := { name := "bundleChecks", fn := fun _ => fun
  | [d1, d2] => { results := [.lit (.bool true)], args := [d1, d2] }
  | _ => none }
def bundleChecksRow : OpenClaim := { program := "ytpfffpajnjeoeaa", sum := "ac8096c1f0615455c3d30b3c08229657a5bd75d2cca51a59228ac4310fe81424", func := "garment/garmentlaw44.BundleChecks", spec := "bundleChecks", apart := false }
def BundleChecksSaid : Prop := bundleChecksRow.holds Try.pinned (OpenSpec.ofChange bundleChecksSpec)

/-- ITS FALSE NEIGHBOUR: 'it returns false'. Refute it at one input. -/
def bundleChecksWrong : ChangeSpec := { name := "bundleChecks", fn := fun _ => fun
  | [d1, d2] => { results := [.lit (.bool false)], args := [d1, d2] }
  | _ => none }
def BundleChecksWrongFalsely : Prop := bundleChecksRow.holds Try.pinned (OpenSpec.ofChange bundleChecksWrong)

/-- 'garmentlaw44.BundleParts': WHATEVER THE INPUT: true; the input reads as it did. -/
def bundlePartsSpec : ChangeSpec := { name := "bundleParts", fn := fun _ => fun
  | [d1, d2] => { results := [.lit (.bool true)], args := [d1, d2] }
  | _ => none }
def bundlePartsRow : OpenClaim := { program := "ytpfffpajnjeoeaa", sum := "ac8096c1f0615455c3d30b3c08229657a5bd75d2cca51a59228ac4310fe81424", func := "garment/garmentlaw44.BundleParts", spec := "bundleParts", apart := false }
def BundlePartsSaid : Prop := bundlePartsRow.holds Try.pinned (OpenSpec.ofChange bundlePartsSpec)

/-- ITS FALSE NEIGHBOUR: 'it returns false'. Refute it at one input. -/
def bundlePartsWrong : ChangeSpec := { name := "bundleParts", fn := fun _ => fun
  | [d1, d2] => { results := [.lit (.bool false)], args := [d1, d2] }
  | _ => none }
def BundlePartsWrongFalsely : Prop := bundlePartsRow.holds Try.pinned (OpenSpec.ofChange bundlePartsWrong)

/-- 'garmentlaw44.BundleLimits': WHATEVER THE INPUT: true; the input reads as it did. -/
def bundleLimitsSpec : ChangeSpec := { name := "bundleLimits", fn := fun _ => fun
  | [d1, d2] => { results := [.lit (.bool true)], args := [d1, d2] }
  | _ => none }
def bundleLimitsRow : OpenClaim := { program := "ytpfffpajnjeoeaa", sum := "ac8096c1f0615455c3d30b3c08229657a5bd75d2cca51a59228ac4310fe81424", func := "garment/garmentlaw44.BundleLimits", spec := "bundleLimits", apart := false }
def BundleLimitsSaid : Prop := bundleLimitsRow.holds Try.pinned (OpenSpec.ofChange bundleLimitsSpec)

/-- ITS FALSE NEIGHBOUR: 'it returns false'. Refute it at one input. -/
def bundleLimitsWrong : ChangeSpec := { name := "bundleLimits", fn := fun _ => fun
  | [d1, d2] => { results := [.lit (.bool false)], args := [d1, d2] }
  | _ => none }
def BundleLimitsWrongFalsely : Prop := bundleLimitsRow.holds Try.pinned (OpenSpec.ofChange bundleLimitsWrong)

/-- 'garmentlaw44.BundleTickets': WHATEVER THE INPUT: true; the input reads as it did. -/
def bundleTicketsSpec : ChangeSpec := { name := "bundleTickets", fn := fun _ => fun
  | [d1, d2, d3] => { results := [.lit (.bool true)], args := [d1, d2, d3] }
  | _ => none }
def bundleTicketsRow : OpenClaim := { program := "ytpfffpajnjeoeaa", sum := "ac8096c1f0615455c3d30b3c08229657a5bd75d2cca51a59228ac4310fe81424", func := "garment/garmentlaw44.BundleTickets", spec := "bundleTickets", apart := false }
def BundleTicketsSaid : Prop := bundleTicketsRow.holds Try.pinned (OpenSpec.ofChange bundleTicketsSpec)

/-- ITS FALSE NEIGHBOUR: 'it returns false'. Refute it at one input. -/
def bundleTicketsWrong : ChangeSpec := { name := "bundleTickets", fn := fun _ => fun
  | [d1, d2, d3] => { results := [.lit (.bool false)], args := [d1, d2, d3] }
  | _ => none }
def BundleTicketsWrongFalsely : Prop := bundleTicketsRow.holds Try.pinned (OpenSpec.ofChange bundleTicketsWrong)

/-- 'garmentlaw44.BundleCounts': WHATEVER THE INPUT: true; the input reads as it did. -/
def bundleCountsSpec : ChangeSpec := { name := "bundleCounts", fn := fun _ => fun
  | [d1, d2] => { results := [.lit (.bool true)], args := [d1, d2] }
  | _ => none }
def bundleCountsRow : OpenClaim := { program := "ytpfffpajnjeoeaa", sum := "ac8096c1f0615455c3d30b3c08229657a5bd75d2cca51a59228ac4310fe81424", func := "garment/garmentlaw44.BundleCounts", spec := "bundleCounts", apart := false }
def BundleCountsSaid : Prop := bundleCountsRow.holds Try.pinned (OpenSpec.ofChange bundleCountsSpec)

/-- ITS FALSE NEIGHBOUR: 'it returns false'. Refute it at one input. -/
def bundleCountsWrong : ChangeSpec := { name := "bundleCounts", fn := fun _ => fun
  | [d1, d2] => { results := [.lit (.bool false)], args := [d1, d2] }
  | _ => none }
def BundleCountsWrongFalsely : Prop := bundleCountsRow.holds Try.pinned (OpenSpec.ofChange bundleCountsWrong)

/-- 'garmentlaw44.BundleOrder': WHATEVER THE INPUT: true; the input reads as it did. -/
def bundleOrderSpec : ChangeSpec := { name := "bundleOrder", fn := fun _ => fun
  | [d1, d2, d3] => { results := [.lit (.bool true)], args := [d1, d2, d3] }
  | _ => none }
def bundleOrderRow : OpenClaim := { program := "ytpfffpajnjeoeaa", sum := "ac8096c1f0615455c3d30b3c08229657a5bd75d2cca51a59228ac4310fe81424", func := "garment/garmentlaw44.BundleOrder", spec := "bundleOrder", apart := false }
def BundleOrderSaid : Prop := bundleOrderRow.holds Try.pinned (OpenSpec.ofChange bundleOrderSpec)

/-- ITS FALSE NEIGHBOUR: 'it returns false'. Refute it at one input. -/
def bundleOrderWrong : ChangeSpec := { name := "bundleOrder", fn := fun _ => fun
  | [d1, d2, d3] => { results := [.lit (.bool false)], args := [d1, d2, d3] }
  | _ => none }
def BundleOrderWrongFalsely : Prop := bundleOrderRow.holds Try.pinned (OpenSpec.ofChange bundleOrderWrong)

/- THE SECOND FORM. 'bulk': how many values and letters a reading holds, each counted each time it is reached (what is shared counts as often as it is met; a slice's spare places count too). A statement '..UptoSaid' is the law's where the arguments, and the package variables that the reading takes, are together of bulk at most 1048576: NARROWER than '..Said'. Prove '..Said' where nothing that the law and all that it calls make is longer than what came in: it says more and counts as full. Else prove '..UptoSaid'. A law counts once. -/
mutual
def uptoBulk {H : Type} : DataW H → Nat
  | .lit (.string bytes) => bytes.length + 1
  | .lit _ => 1
  | .nil => 1
  | .ptr d => uptoBulk d + 1
  | .slice elems spare => uptoBulkAll elems + uptoBulkAll spare + 1
  | .agg parts => uptoBulkAll parts + 1
  | .iface _ d => uptoBulk d + 1
  | .map entries => uptoBulkEntries entries + 1
  | .held _ => 1
def uptoBulkAll {H : Type} : List (DataW H) → Nat
  | [] => 0
  | d :: r => uptoBulk d + uptoBulkAll r
def uptoBulkEntries {H : Type} : List (Lit × DataW H) → Nat
  | [] => 0
  | x :: r => uptoBulkEntry x + uptoBulkEntries r
def uptoBulkEntry {H : Type} : Lit × DataW H → Nat
  | (.string bytes, d) => bytes.length + uptoBulk d + 1
  | (_, d) => uptoBulk d + 1
 end
def uptoSmall : (H : Type) → List (DataW H) → Bool := fun _ ds => decide (uptoBulkAll ds ≤ 1048576)
def OpenSpec.upto (s : _root_.Go.ChangeSpec) : _root_.Go.OpenSpec := { _root_.Go.OpenSpec.ofChange s with cond := some uptoSmall }

/-- 'garmentlaw44.BundleMakes', WHERE WHAT IT READS IS OF BULK AT MOST 1048576: true; the input reads as it did. -/
def bundleMakesUptoRow : OpenClaim := { program := "ytpfffpajnjeoeaa", sum := "ac8096c1f0615455c3d30b3c08229657a5bd75d2cca51a59228ac4310fe81424", func := "garment/garmentlaw44.BundleMakes", spec := "bundleMakes", apart := false, narrowed := true }
def BundleMakesUptoSaid : Prop := bundleMakesUptoRow.holds Try.pinned (OpenSpec.upto bundleMakesSpec)

/-- 'garmentlaw44.BundleFinds', WHERE WHAT IT READS IS OF BULK AT MOST 1048576: true; the input reads as it did. -/
def bundleFindsUptoRow : OpenClaim := { program := "ytpfffpajnjeoeaa", sum := "ac8096c1f0615455c3d30b3c08229657a5bd75d2cca51a59228ac4310fe81424", func := "garment/garmentlaw44.BundleFinds", spec := "bundleFinds", apart := false, narrowed := true }
def BundleFindsUptoSaid : Prop := bundleFindsUptoRow.holds Try.pinned (OpenSpec.upto bundleFindsSpec)

/-- 'garmentlaw44.BundleChecks', WHERE WHAT IT READS IS OF BULK AT MOST 1048576: true; the input reads as it did. -/
def bundleChecksUptoRow : OpenClaim := { program := "ytpfffpajnjeoeaa", sum := "ac8096c1f0615455c3d30b3c08229657a5bd75d2cca51a59228ac4310fe81424", func := "garment/garmentlaw44.BundleChecks", spec := "bundleChecks", apart := false, narrowed := true }
def BundleChecksUptoSaid : Prop := bundleChecksUptoRow.holds Try.pinned (OpenSpec.upto bundleChecksSpec)

/-- 'garmentlaw44.BundleParts', WHERE WHAT IT READS IS OF BULK AT MOST 1048576: true; the input reads as it did. -/
def bundlePartsUptoRow : OpenClaim := { program := "ytpfffpajnjeoeaa", sum := "ac8096c1f0615455c3d30b3c08229657a5bd75d2cca51a59228ac4310fe81424", func := "garment/garmentlaw44.BundleParts", spec := "bundleParts", apart := false, narrowed := true }
def BundlePartsUptoSaid : Prop := bundlePartsUptoRow.holds Try.pinned (OpenSpec.upto bundlePartsSpec)

/-- 'garmentlaw44.BundleLimits', WHERE WHAT IT READS IS OF BULK AT MOST 1048576: true; the input reads as it did. -/
def bundleLimitsUptoRow : OpenClaim := { program := "ytpfffpajnjeoeaa", sum := "ac8096c1f0615455c3d30b3c08229657a5bd75d2cca51a59228ac4310fe81424", func := "garment/garmentlaw44.BundleLimits", spec := "bundleLimits", apart := false, narrowed := true }
def BundleLimitsUptoSaid : Prop := bundleLimitsUptoRow.holds Try.pinned (OpenSpec.upto bundleLimitsSpec)

/-- 'garmentlaw44.BundleTickets', WHERE WHAT IT READS IS OF BULK AT MOST 1048576: true; the input reads as it did. -/
def bundleTicketsUptoRow : OpenClaim := { program := "ytpfffpajnjeoeaa", sum := "ac8096c1f0615455c3d30b3c08229657a5bd75d2cca51a59228ac4310fe81424", func := "garment/garmentlaw44.BundleTickets", spec := "bundleTickets", apart := false, narrowed := true }
def BundleTicketsUptoSaid : Prop := bundleTicketsUptoRow.holds Try.pinned (OpenSpec.upto bundleTicketsSpec)

/-- 'garmentlaw44.BundleCounts', WHERE WHAT IT READS IS OF BULK AT MOST 1048576: true; the input reads as it did. -/
def bundleCountsUptoRow : OpenClaim := { program := "ytpfffpajnjeoeaa", sum := "ac8096c1f0615455c3d30b3c08229657a5bd75d2cca51a59228ac4310fe81424", func := "garment/garmentlaw44.BundleCounts", spec := "bundleCounts", apart := false, narrowed := true }
def BundleCountsUptoSaid : Prop := bundleCountsUptoRow.holds Try.pinned (OpenSpec.upto bundleCountsSpec)

/-- 'garmentlaw44.BundleOrder', WHERE WHAT IT READS IS OF BULK AT MOST 1048576: true; the input reads as it did. -/
def bundleOrderUptoRow : OpenClaim := { program := "ytpfffpajnjeoeaa", sum := "ac8096c1f0615455c3d30b3c08229657a5bd75d2cca51a59228ac4310fe81424", func := "garment/garmentlaw44.BundleOrder", spec := "bundleOrder", apart := false, narrowed := true }
def BundleOrderUptoSaid : Prop := bundleOrderUptoRow.holds Try.pinned (OpenSpec.upto bundleOrderSpec)

end Rows
end Go.Proofs.Ytpfffpajnjeoeaa
