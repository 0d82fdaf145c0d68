/-
  No cell of these rows narrows 'for every input' (looked for: loops, veiled, ifaces, maps, wideKeys, modest, calm, conditions, laid).
  DERIVED. THE GIVEN ROWS OF THIS SEAT. 10 by the template 'for every input the law returns true; each argument reads behind the call as it read before'; 0 by the template 'total and deterministic' (their statements: YtbkgakgdbmjmjaaGreatTotals.lean).
  GIVEN WITH THE SEED: the statements are not yours to turn. If you find one false, say at which input.
  Laid BY PROGRAM, IN A SANDBOX (cutbox-rows.mjs): the forced cells as the released guide's own fill.sh prints them over the translation b5b120f13c1ee17d… (all of the seat's roots in one cut). By AI agents, Wed Nov 11 2026. No macro, syntax, notation, axiom, sorry.
-/
import Derived.Test.YtbkgakgdbmjmjaaGreatChecked
import GoSem.Claim
import GoSem.ClaimJoined
import GoSem.ClaimMapViews
import Derived.JoinedTies
import Derived.KernelRfl
namespace Go.Proofs.YtbkgakgdbmjmjaaGreat
/- THE CELL 'sum', in the pinned program and in every row, IS THE sha256 OF THE DUMP (.gsa) THAT YtbkgakgdbmjmjaaGreatProg.lean LOADS. Nothing in Lean hashes anything: it is a label: what it is worth is what the hold of that sum in a sandbox is worth. -/
noncomputable def Tryz.pinned : Pinned := { name := "ytbkgakgdbmjmjaagreat", sum := "b5b120f13c1ee17d1172b969e0b962a209514cc5811783a28a82640fe3d9bd70", checked := Tryz.checked }
namespace Rows
def none {H : Type} : Left H := { results := [], args := [] }

/-- 'planispherelaw34.ForceSums': WHATEVER THE INPUT: true; the input reads as it did. -/
def forceSumsSpec : ChangeSpec := { name := "forceSums", fn := fun _ => fun
  | [d1, d2, d3, d4] => { results := [.lit (.bool true)], args := [d1, d2, d3, d4] }
  | _ => none }
def forceSumsRow : OpenClaim := { program := "ytbkgakgdbmjmjaagreat", sum := "b5b120f13c1ee17d1172b969e0b962a209514cc5811783a28a82640fe3d9bd70", func := "planisphere/planispherelaw34.ForceSums", spec := "forceSums", inPlace := ["math/bits.Sub64"], unfollowed := true, recurses := true, named := ["math/bits.overflowError", "math/bits.divideError"], apart := false }
def ForceSumsSaid : Prop := forceSumsRow.holds Tryz.pinned (OpenSpec.ofChange forceSumsSpec)

/-- ITS FALSE NEIGHBOUR: 'it returns false'. Refute it at one input. -/
def forceSumsWrong : ChangeSpec := { name := "forceSums", fn := fun _ => fun
  | [d1, d2, d3, d4] => { results := [.lit (.bool false)], args := [d1, d2, d3, d4] }
  | _ => none }
def ForceSumsWrongFalsely : Prop := forceSumsRow.holds Tryz.pinned (OpenSpec.ofChange forceSumsWrong)

/-- 'planispherelaw34.ForceNames': WHATEVER THE INPUT: true; the input reads as it did. -/
def forceNamesSpec : ChangeSpec := { name := "forceNames", fn := fun _ => fun
  | [] => { results := [.lit (.bool true)], args := [] }
  | _ => none }
def forceNamesRow : OpenClaim := { program := "ytbkgakgdbmjmjaagreat", sum := "b5b120f13c1ee17d1172b969e0b962a209514cc5811783a28a82640fe3d9bd70", func := "planisphere/planispherelaw34.ForceNames", spec := "forceNames", inPlace := ["math/bits.Sub64"], unfollowed := true, recurses := true, named := ["math/bits.divideError", "math/bits.overflowError"], apart := false }
def ForceNamesSaid : Prop := forceNamesRow.holds Tryz.pinned (OpenSpec.ofChange forceNamesSpec)

/-- ITS FALSE NEIGHBOUR: 'it returns false'. Refute it at one input. -/
def forceNamesWrong : ChangeSpec := { name := "forceNames", fn := fun _ => fun
  | [] => { results := [.lit (.bool false)], args := [] }
  | _ => none }
def ForceNamesWrongFalsely : Prop := forceNamesRow.holds Tryz.pinned (OpenSpec.ofChange forceNamesWrong)

/-- 'planispherelaw34.ForceParts': WHATEVER THE INPUT: true; the input reads as it did. -/
def forcePartsSpec : ChangeSpec := { name := "forceParts", fn := fun _ => fun
  | [d1, d2, d3, d4, d5, d6] => { results := [.lit (.bool true)], args := [d1, d2, d3, d4, d5, d6] }
  | _ => none }
def forcePartsRow : OpenClaim := { program := "ytbkgakgdbmjmjaagreat", sum := "b5b120f13c1ee17d1172b969e0b962a209514cc5811783a28a82640fe3d9bd70", func := "planisphere/planispherelaw34.ForceParts", spec := "forceParts", inPlace := ["math/bits.Sub64"], unfollowed := true, recurses := true, named := ["math/bits.divideError", "math/bits.overflowError"], apart := false }
def ForcePartsSaid : Prop := forcePartsRow.holds Tryz.pinned (OpenSpec.ofChange forcePartsSpec)

/-- ITS FALSE NEIGHBOUR: 'it returns false'. Refute it at one input. -/
def forcePartsWrong : ChangeSpec := { name := "forceParts", fn := fun _ => fun
  | [d1, d2, d3, d4, d5, d6] => { results := [.lit (.bool false)], args := [d1, d2, d3, d4, d5, d6] }
  | _ => none }
def ForcePartsWrongFalsely : Prop := forcePartsRow.holds Tryz.pinned (OpenSpec.ofChange forcePartsWrong)

/-- 'planispherelaw34.ForceTides': WHATEVER THE INPUT: true; the input reads as it did. -/
def forceTidesSpec : ChangeSpec := { name := "forceTides", fn := fun _ => fun
  | [d1, d2, d3, d4] => { results := [.lit (.bool true)], args := [d1, d2, d3, d4] }
  | _ => none }
def forceTidesRow : OpenClaim := { program := "ytbkgakgdbmjmjaagreat", sum := "b5b120f13c1ee17d1172b969e0b962a209514cc5811783a28a82640fe3d9bd70", func := "planisphere/planispherelaw34.ForceTides", spec := "forceTides", inPlace := ["math/bits.Sub64"], unfollowed := true, recurses := true, named := ["math/bits.divideError", "math/bits.overflowError"], apart := false }
def ForceTidesSaid : Prop := forceTidesRow.holds Tryz.pinned (OpenSpec.ofChange forceTidesSpec)

/-- ITS FALSE NEIGHBOUR: 'it returns false'. Refute it at one input. -/
def forceTidesWrong : ChangeSpec := { name := "forceTides", fn := fun _ => fun
  | [d1, d2, d3, d4] => { results := [.lit (.bool false)], args := [d1, d2, d3, d4] }
  | _ => none }
def ForceTidesWrongFalsely : Prop := forceTidesRow.holds Tryz.pinned (OpenSpec.ofChange forceTidesWrong)

/-- 'planispherelaw35.FlowAccepts': WHATEVER THE INPUT: true; the input reads as it did. -/
def flowAcceptsSpec : ChangeSpec := { name := "flowAccepts", fn := fun _ => fun
  | [d1, d2, d3, d4] => { results := [.lit (.bool true)], args := [d1, d2, d3, d4] }
  | _ => none }
def flowAcceptsRow : OpenClaim := { program := "ytbkgakgdbmjmjaagreat", sum := "b5b120f13c1ee17d1172b969e0b962a209514cc5811783a28a82640fe3d9bd70", func := "planisphere/planispherelaw35.FlowAccepts", spec := "flowAccepts", inPlace := ["math/bits.Sub64"], unfollowed := true, recurses := true, named := ["math/bits.overflowError", "math/bits.divideError"], apart := false }
def FlowAcceptsSaid : Prop := flowAcceptsRow.holds Tryz.pinned (OpenSpec.ofChange flowAcceptsSpec)

/-- ITS FALSE NEIGHBOUR: 'it returns false'. Refute it at one input. -/
def flowAcceptsWrong : ChangeSpec := { name := "flowAccepts", fn := fun _ => fun
  | [d1, d2, d3, d4] => { results := [.lit (.bool false)], args := [d1, d2, d3, d4] }
  | _ => none }
def FlowAcceptsWrongFalsely : Prop := flowAcceptsRow.holds Tryz.pinned (OpenSpec.ofChange flowAcceptsWrong)

/-- 'planispherelaw35.FlowSteps': WHATEVER THE INPUT: true; the input reads as it did. -/
def flowStepsSpec : ChangeSpec := { name := "flowSteps", fn := fun _ => fun
  | [d1, d2, d3, d4, d5] => { results := [.lit (.bool true)], args := [d1, d2, d3, d4, d5] }
  | _ => none }
def flowStepsRow : OpenClaim := { program := "ytbkgakgdbmjmjaagreat", sum := "b5b120f13c1ee17d1172b969e0b962a209514cc5811783a28a82640fe3d9bd70", func := "planisphere/planispherelaw35.FlowSteps", spec := "flowSteps", inPlace := ["math/bits.Sub64"], unfollowed := true, recurses := true, named := ["math/bits.overflowError", "math/bits.divideError"], apart := false }
def FlowStepsSaid : Prop := flowStepsRow.holds Tryz.pinned (OpenSpec.ofChange flowStepsSpec)

/-- ITS FALSE NEIGHBOUR: 'it returns false'. Refute it at one input. -/
def flowStepsWrong : ChangeSpec := { name := "flowSteps", fn := fun _ => fun
  | [d1, d2, d3, d4, d5] => { results := [.lit (.bool false)], args := [d1, d2, d3, d4, d5] }
  | _ => none }
def FlowStepsWrongFalsely : Prop := flowStepsRow.holds Tryz.pinned (OpenSpec.ofChange flowStepsWrong)

/-- 'planispherelaw35.FlowStays': WHATEVER THE INPUT: true; the input reads as it did. -/
def flowStaysSpec : ChangeSpec := { name := "flowStays", fn := fun _ => fun
  | [d1, d2, d3, d4, d5] => { results := [.lit (.bool true)], args := [d1, d2, d3, d4, d5] }
  | _ => none }
def flowStaysRow : OpenClaim := { program := "ytbkgakgdbmjmjaagreat", sum := "b5b120f13c1ee17d1172b969e0b962a209514cc5811783a28a82640fe3d9bd70", func := "planisphere/planispherelaw35.FlowStays", spec := "flowStays", inPlace := ["math/bits.Sub64"], unfollowed := true, recurses := true, named := ["math/bits.overflowError", "math/bits.divideError"], apart := false }
def FlowStaysSaid : Prop := flowStaysRow.holds Tryz.pinned (OpenSpec.ofChange flowStaysSpec)

/-- ITS FALSE NEIGHBOUR: 'it returns false'. Refute it at one input. -/
def flowStaysWrong : ChangeSpec := { name := "flowStays", fn := fun _ => fun
  | [d1, d2, d3, d4, d5] => { results := [.lit (.bool false)], args := [d1, d2, d3, d4, d5] }
  | _ => none }
def FlowStaysWrongFalsely : Prop := flowStaysRow.holds Tryz.pinned (OpenSpec.ofChange flowStaysWrong)

/-- 'planispherelaw35.FlowSplits': WHATEVER THE INPUT: true; the input reads as it did. -/
def flowSplitsSpec : ChangeSpec := { name := "flowSplits", fn := fun _ => fun
  | [d1, d2, d3, d4] => { results := [.lit (.bool true)], args := [d1, d2, d3, d4] }
  | _ => none }
def flowSplitsRow : OpenClaim := { program := "ytbkgakgdbmjmjaagreat", sum := "b5b120f13c1ee17d1172b969e0b962a209514cc5811783a28a82640fe3d9bd70", func := "planisphere/planispherelaw35.FlowSplits", spec := "flowSplits", inPlace := ["math/bits.Sub64"], unfollowed := true, recurses := true, named := ["math/bits.overflowError", "math/bits.divideError"], apart := false }
def FlowSplitsSaid : Prop := flowSplitsRow.holds Tryz.pinned (OpenSpec.ofChange flowSplitsSpec)

/-- ITS FALSE NEIGHBOUR: 'it returns false'. Refute it at one input. -/
def flowSplitsWrong : ChangeSpec := { name := "flowSplits", fn := fun _ => fun
  | [d1, d2, d3, d4] => { results := [.lit (.bool false)], args := [d1, d2, d3, d4] }
  | _ => none }
def FlowSplitsWrongFalsely : Prop := flowSplitsRow.holds Tryz.pinned (OpenSpec.ofChange flowSplitsWrong)

/-- 'planispherelaw35.FlowRuns': WHATEVER THE INPUT: true; the input reads as it did. -/
def flowRunsSpec : ChangeSpec := { name := "flowRuns", fn := fun _ => fun
  | [d1, d2, d3, d4, d5] => { results := [.lit (.bool true)], args := [d1, d2, d3, d4, d5] }
  | _ => none }
def flowRunsRow : OpenClaim := { program := "ytbkgakgdbmjmjaagreat", sum := "b5b120f13c1ee17d1172b969e0b962a209514cc5811783a28a82640fe3d9bd70", func := "planisphere/planispherelaw35.FlowRuns", spec := "flowRuns", inPlace := ["math/bits.Sub64"], unfollowed := true, recurses := true, named := ["math/bits.overflowError", "math/bits.divideError"], apart := false }
def FlowRunsSaid : Prop := flowRunsRow.holds Tryz.pinned (OpenSpec.ofChange flowRunsSpec)

/-- ITS FALSE NEIGHBOUR: 'it returns false'. Refute it at one input. -/
def flowRunsWrong : ChangeSpec := { name := "flowRuns", fn := fun _ => fun
  | [d1, d2, d3, d4, d5] => { results := [.lit (.bool false)], args := [d1, d2, d3, d4, d5] }
  | _ => none }
def FlowRunsWrongFalsely : Prop := flowRunsRow.holds Tryz.pinned (OpenSpec.ofChange flowRunsWrong)

/-- 'planispherelaw35.FlowNames': WHATEVER THE INPUT: true; the input reads as it did. -/
def flowNamesSpec : ChangeSpec := { name := "flowNames", fn := fun _ => fun
  | [] => { results := [.lit (.bool true)], args := [] }
  | _ => none }
def flowNamesRow : OpenClaim := { program := "ytbkgakgdbmjmjaagreat", sum := "b5b120f13c1ee17d1172b969e0b962a209514cc5811783a28a82640fe3d9bd70", func := "planisphere/planispherelaw35.FlowNames", spec := "flowNames", inPlace := ["math/bits.Sub64"], unfollowed := true, recurses := true, named := ["math/bits.overflowError", "math/bits.divideError"], apart := false }
def FlowNamesSaid : Prop := flowNamesRow.holds Tryz.pinned (OpenSpec.ofChange flowNamesSpec)

/-- ITS FALSE NEIGHBOUR: 'it returns false'. Refute it at one input. -/
def flowNamesWrong : ChangeSpec := { name := "flowNames", fn := fun _ => fun
  | [] => { results := [.lit (.bool false)], args := [] }
  | _ => none }
def FlowNamesWrongFalsely : Prop := flowNamesRow.holds Tryz.pinned (OpenSpec.ofChange flowNamesWrong)

/- THE SECOND FORM. 'bulk': how many values and letters a reading holds, each counted each time it is reached (what is shared counts as often as it is met; a slice's spare places count too). A statement '..UptoSaid' is the law's where the arguments, and the package variables that the reading takes, are together of bulk at most 1048576: NARROWER than '..Said'. Prove '..Said' where nothing that the law and all that it calls make is longer than what came in: it says more and counts as full. Else prove '..UptoSaid'. A law counts once. -/
mutual
def uptoBulk {H : Type} : DataW H → Nat
  | .lit (.string bytes) => bytes.length + 1
  | .lit _ => 1
  | .nil => 1
  | .ptr d => uptoBulk d + 1
  | .slice elems spare => uptoBulkAll elems + uptoBulkAll spare + 1
  | .agg parts => uptoBulkAll parts + 1
  | .iface _ d => uptoBulk d + 1
  | .map entries => uptoBulkEntries entries + 1
  | .held _ => 1
def uptoBulkAll {H : Type} : List (DataW H) → Nat
  | [] => 0
  | d :: r => uptoBulk d + uptoBulkAll r
def uptoBulkEntries {H : Type} : List (Lit × DataW H) → Nat
  | [] => 0
  | x :: r => uptoBulkEntry x + uptoBulkEntries r
def uptoBulkEntry {H : Type} : Lit × DataW H → Nat
  | (.string bytes, d) => bytes.length + uptoBulk d + 1
  | (_, d) => uptoBulk d + 1
 end
def uptoSmall : (H : Type) → List (DataW H) → Bool := fun _ ds => decide (uptoBulkAll ds ≤ 1048576)
def OpenSpec.upto (s : _root_.Go.ChangeSpec) : _root_.Go.OpenSpec := { _root_.Go.OpenSpec.ofChange s with cond := some uptoSmall }

/-- 'planispherelaw34.ForceSums', WHERE WHAT IT READS IS OF BULK AT MOST 1048576: true; the input reads as it did. -/
def forceSumsUptoRow : OpenClaim := { program := "ytbkgakgdbmjmjaagreat", sum := "b5b120f13c1ee17d1172b969e0b962a209514cc5811783a28a82640fe3d9bd70", func := "planisphere/planispherelaw34.ForceSums", spec := "forceSums", inPlace := ["math/bits.Sub64"], unfollowed := true, recurses := true, named := ["math/bits.overflowError", "math/bits.divideError"], apart := false, narrowed := true }
def ForceSumsUptoSaid : Prop := forceSumsUptoRow.holds Tryz.pinned (OpenSpec.upto forceSumsSpec)

/-- 'planispherelaw34.ForceNames', WHERE WHAT IT READS IS OF BULK AT MOST 1048576: true; the input reads as it did. -/
def forceNamesUptoRow : OpenClaim := { program := "ytbkgakgdbmjmjaagreat", sum := "b5b120f13c1ee17d1172b969e0b962a209514cc5811783a28a82640fe3d9bd70", func := "planisphere/planispherelaw34.ForceNames", spec := "forceNames", inPlace := ["math/bits.Sub64"], unfollowed := true, recurses := true, named := ["math/bits.divideError", "math/bits.overflowError"], apart := false, narrowed := true }
def ForceNamesUptoSaid : Prop := forceNamesUptoRow.holds Tryz.pinned (OpenSpec.upto forceNamesSpec)

/-- 'planispherelaw34.ForceParts', WHERE WHAT IT READS IS OF BULK AT MOST 1048576: true; the input reads as it did. -/
def forcePartsUptoRow : OpenClaim := { program := "ytbkgakgdbmjmjaagreat", sum := "b5b120f13c1ee17d1172b969e0b962a209514cc5811783a28a82640fe3d9bd70", func := "planisphere/planispherelaw34.ForceParts", spec := "forceParts", inPlace := ["math/bits.Sub64"], unfollowed := true, recurses := true, named := ["math/bits.divideError", "math/bits.overflowError"], apart := false, narrowed := true }
def ForcePartsUptoSaid : Prop := forcePartsUptoRow.holds Tryz.pinned (OpenSpec.upto forcePartsSpec)

/-- 'planispherelaw34.ForceTides', WHERE WHAT IT READS IS OF BULK AT MOST 1048576: true; the input reads as it did. -/
def forceTidesUptoRow : OpenClaim := { program := "ytbkgakgdbmjmjaagreat", sum := "b5b120f13c1ee17d1172b969e0b962a209514cc5811783a28a82640fe3d9bd70", func := "planisphere/planispherelaw34.ForceTides", spec := "forceTides", inPlace := ["math/bits.Sub64"], unfollowed := true, recurses := true, named := ["math/bits.divideError", "math/bits.overflowError"], apart := false, narrowed := true }
def ForceTidesUptoSaid : Prop := forceTidesUptoRow.holds Tryz.pinned (OpenSpec.upto forceTidesSpec)

/-- 'planispherelaw35.FlowAccepts', WHERE WHAT IT READS IS OF BULK AT MOST 1048576: true; the input reads as it did. -/
def flowAcceptsUptoRow : OpenClaim := { program := "ytbkgakgdbmjmjaagreat", sum := "b5b120f13c1ee17d1172b969e0b962a209514cc5811783a28a82640fe3d9bd70", func := "planisphere/planispherelaw35.FlowAccepts", spec := "flowAccepts", inPlace := ["math/bits.Sub64"], unfollowed := true, recurses := true, named := ["math/bits.overflowError", "math/bits.divideError"], apart := false, narrowed := true }
def FlowAcceptsUptoSaid : Prop := flowAcceptsUptoRow.holds Tryz.pinned (OpenSpec.upto flowAcceptsSpec)

/-- 'planispherelaw35.FlowSteps', WHERE WHAT IT READS IS OF BULK AT MOST 1048576: true; the input reads as it did. -/
def flowStepsUptoRow : OpenClaim := { program := "ytbkgakgdbmjmjaagreat", sum := "b5b120f13c1ee17d1172b969e0b962a209514cc5811783a28a82640fe3d9bd70", func := "planisphere/planispherelaw35.FlowSteps", spec := "flowSteps", inPlace := ["math/bits.Sub64"], unfollowed := true, recurses := true, named := ["math/bits.overflowError", "math/bits.divideError"], apart := false, narrowed := true }
def FlowStepsUptoSaid : Prop := flowStepsUptoRow.holds Tryz.pinned (OpenSpec.upto flowStepsSpec)

/-- 'planispherelaw35.FlowStays', WHERE WHAT IT READS IS OF BULK AT MOST 1048576: true; the input reads as it did. -/
def flowStaysUptoRow : OpenClaim := { program := "ytbkgakgdbmjmjaagreat", sum := "b5b120f13c1ee17d1172b969e0b962a209514cc5811783a28a82640fe3d9bd70", func := "planisphere/planispherelaw35.FlowStays", spec := "flowStays", inPlace := ["math/bits.Sub64"], unfollowed := true, recurses := true, named := ["math/bits.overflowError", "math/bits.divideError"], apart := false, narrowed := true }
def FlowStaysUptoSaid : Prop := flowStaysUptoRow.holds Tryz.pinned (OpenSpec.upto flowStaysSpec)

/-- 'planispherelaw35.FlowSplits', WHERE WHAT IT READS IS OF BULK AT MOST 1048576: true; the input reads as it did. -/
def flowSplitsUptoRow : OpenClaim := { program := "ytbkgakgdbmjmjaagreat", sum := "b5b120f13c1ee17d1172b969e0b962a209514cc5811783a28a82640fe3d9bd70", func := "planisphere/planispherelaw35.FlowSplits", spec := "flowSplits", inPlace := ["math/bits.Sub64"], unfollowed := true, recurses := true, named := ["math/bits.overflowError", "math/bits.divideError"], apart := false, narrowed := true }
def FlowSplitsUptoSaid : Prop := flowSplitsUptoRow.holds Tryz.pinned (OpenSpec.upto flowSplitsSpec)

/-- 'planispherelaw35.FlowRuns', WHERE WHAT IT READS IS OF BULK AT MOST 1048576: true; the input reads as it did. -/
def flowRunsUptoRow : OpenClaim := { program := "ytbkgakgdbmjmjaagreat", sum := "b5b120f13c1ee17d1172b969e0b962a209514cc5811783a28a82640fe3d9bd70", func := "planisphere/planispherelaw35.FlowRuns", spec := "flowRuns", inPlace := ["math/bits.Sub64"], unfollowed := true, recurses := true, named := ["math/bits.overflowError", "math/bits.divideError"], apart := false, narrowed := true }
def FlowRunsUptoSaid : Prop := flowRunsUptoRow.holds Tryz.pinned (OpenSpec.upto flowRunsSpec)

/-- 'planispherelaw35.FlowNames', WHERE WHAT IT READS IS OF BULK AT MOST 1048576: true; the input reads as it did. -/
def flowNamesUptoRow : OpenClaim := { program := "ytbkgakgdbmjmjaagreat", sum := "b5b120f13c1ee17d1172b969e0b962a209514cc5811783a28a82640fe3d9bd70", func := "planisphere/planispherelaw35.FlowNames", spec := "flowNames", inPlace := ["math/bits.Sub64"], unfollowed := true, recurses := true, named := ["math/bits.overflowError", "math/bits.divideError"], apart := false, narrowed := true }
def FlowNamesUptoSaid : Prop := flowNamesUptoRow.holds Tryz.pinned (OpenSpec.upto flowNamesSpec)

end Rows
end Go.Proofs.YtbkgakgdbmjmjaaGreat
