/-
  No cell of these rows narrows 'for every input' (looked for: loops, veiled, ifaces, maps, wideKeys, modest, calm, conditions, laid).
  DERIVED. THE GIVEN ROWS OF THIS SEAT. 3 by the template 'for every input the law returns true; each argument reads behind the call as it read before'; 0 by the template 'total and deterministic' (their statements: YtcalonhphknbbaaTotals.lean).
  GIVEN WITH THE SEED: the statements are not yours to turn. If you find one false, say at which input.
  Laid BY PROGRAM, IN A SANDBOX (cutbox-rows.mjs): the forced cells as the released guide's own fill.sh prints them over the translation 4a59c17094f2eb6e… (all of the seat's roots in one cut). By AI agents, Wed Nov 11 2026. No macro, syntax, notation, axiom, sorry.
-/
import Derived.Test.YtcalonhphknbbaaChecked
import GoSem.Claim
import GoSem.ClaimJoined
import GoSem.ClaimMapViews
import Derived.JoinedTies
import Derived.KernelRfl
namespace Go.Proofs.Ytcalonhphknbbaa
/- THE CELL 'sum', in the pinned program and in every row, IS THE sha256 OF THE DUMP (.gsa) THAT YtcalonhphknbbaaProg.lean LOADS. Nothing in Lean hashes anything: it is a label: what it is worth is what the hold of that sum in a sandbox is worth. -/
noncomputable def Try.pinned : Pinned := { name := "ytcalonhphknbbaa", sum := "4a59c17094f2eb6e93e15062c1ba32cb1fb622eea22d9d4fd924eb37b2bb32bb", checked := Try.checked }
namespace Rows
def none {H : Type} : Left H := { results := [], args := [] }

/-- 'planispherelaw40.RiskCounts': WHATEVER THE INPUT: true; the input reads as it did. -/
def riskCountsSpec : ChangeSpec := { name := "riskCounts", fn := fun _ => fun
  | [d] => { results := [.lit (.bool true)], args := [d] }
  | _ => none }
def riskCountsRow : OpenClaim := { program := "ytcalonhphknbbaa", sum := "4a59c17094f2eb6e93e15062c1ba32cb1fb622eea22d9d4fd924eb37b2bb32bb", func := "planisphere/planispherelaw40.RiskCounts", spec := "riskCounts", unfollowed := true, recurses := true, named := ["math/bits.overflowError"], apart := false }
def RiskCountsSaid : Prop := riskCountsRow.holds Try.pinned (OpenSpec.ofChange riskCountsSpec)

/-- ITS FALSE NEIGHBOUR: 'it returns false'. Refute it at one input. -/
def riskCountsWrong : ChangeSpec := { name := "riskCounts", fn := fun _ => fun
  | [d] => { results := [.lit (.bool false)], args := [d] }
  | _ => none }
def RiskCountsWrongFalsely : Prop := riskCountsRow.holds Try.pinned (OpenSpec.ofChange riskCountsWrong)

/-- 'planispherelaw40.RiskBounds': WHATEVER THE INPUT: true; the input reads as it did. -/
def riskBoundsSpec : ChangeSpec := { name := "riskBounds", fn := fun _ => fun
  | [d1, d2, d3] => { results := [.lit (.bool true)], args := [d1, d2, d3] }
  | _ => none }
def riskBoundsRow : OpenClaim := { program := "ytcalonhphknbbaa", sum := "4a59c17094f2eb6e93e15062c1ba32cb1fb622eea22d9d4fd924eb37b2bb32bb", func := "planisphere/planispherelaw40.RiskBounds", spec := "riskBounds", unfollowed := true, recurses := true, named := ["math/bits.overflowError"], apart := false }
def RiskBoundsSaid : Prop := riskBoundsRow.holds Try.pinned (OpenSpec.ofChange riskBoundsSpec)

/-- ITS FALSE NEIGHBOUR: 'it returns false'. Refute it at one input. -/
def riskBoundsWrong : ChangeSpec := { name := "riskBounds", fn := fun _ => fun
  | [d1, d2, d3] => { results := [.lit (.bool false)], args := [d1, d2, d3] }
  | _ => none }
def RiskBoundsWrongFalsely : Prop := riskBoundsRow.holds Try.pinned (OpenSpec.ofChange riskBoundsWrong)

/-- 'planispherelaw40.RiskGroups': WHATEVER THE INPUT: true; the input reads as it did. -/
def riskGroupsSpec : ChangeSpec := { name := "riskGroups", fn := fun _ => fun
  | [d] => { results := [.lit (.bool true)], args := [d] }
  | _ => none }
def riskGroupsRow : OpenClaim := { program := "ytcalonhphknbbaa", sum := "4a59c17094f2eb6e93e15062c1ba32cb1fb622eea22d9d4fd924eb37b2bb32bb", func := "planisphere/planispherelaw40.RiskGroups", spec := "riskGroups", unfollowed := true, recurses := true, named := ["math/bits.overflowError"], apart := false }
def RiskGroupsSaid : Prop := riskGroupsRow.holds Try.pinned (OpenSpec.ofChange riskGroupsSpec)

/-- ITS FALSE NEIGHBOUR: 'it returns false'. Refute it at one input. -/
def riskGroupsWrong : ChangeSpec := { name := "riskGroups", fn := fun _ => fun
  | [d] => { results := [.lit (.bool false)], args := [d] }
  | _ => none }
def RiskGroupsWrongFalsely : Prop := riskGroupsRow.holds Try.pinned (OpenSpec.ofChange riskGroupsWrong)

/- THE SECOND FORM. 'bulk': how many values and letters a reading holds, each counted each time it is reached (what is shared counts as often as it is met; a slice's spare places count too). A statement '..UptoSaid' is the law's where the arguments, and the package variables that the reading takes, are together of bulk at most 1048576: NARROWER than '..Said'. Prove '..Said' where nothing that the law and all that it calls make is longer than what came in: it says more and counts as full. Else prove '..UptoSaid'. A law counts once. -/
mutual
def uptoBulk {H : Type} : DataW H → Nat
  | .lit (.string bytes) => bytes.length + 1
  | .lit _ => 1
  | .nil => 1
  | .ptr d => uptoBulk d + 1
  | .slice elems spare => uptoBulkAll elems + uptoBulkAll spare + 1
  | .agg parts => uptoBulkAll parts + 1
  | .iface _ d => uptoBulk d + 1
  | .map entries => uptoBulkEntries entries + 1
  | .held _ => 1
def uptoBulkAll {H : Type} : List (DataW H) → Nat
  | [] => 0
  | d :: r => uptoBulk d + uptoBulkAll r
def uptoBulkEntries {H : Type} : List (Lit × DataW H) → Nat
  | [] => 0
  | x :: r => uptoBulkEntry x + uptoBulkEntries r
def uptoBulkEntry {H : Type} : Lit × DataW H → Nat
  | (.string bytes, d) => bytes.length + uptoBulk d + 1
  | (_, d) => uptoBulk d + 1
 end
def uptoSmall : (H : Type) → List (DataW H) → Bool := fun _ ds => decide (uptoBulkAll ds ≤ 1048576)
def OpenSpec.upto (s : _root_.Go.ChangeSpec) : _root_.Go.OpenSpec := { _root_.Go.OpenSpec.ofChange s with cond := some uptoSmall }

/-- 'planispherelaw40.RiskCounts', WHERE WHAT IT READS IS OF BULK AT MOST 1048576: true; the input reads as it did. -/
def riskCountsUptoRow : OpenClaim := { program := "ytcalonhphknbbaa", sum := "4a59c17094f2eb6e93e15062c1ba32cb1fb622eea22d9d4fd924eb37b2bb32bb", func := "planisphere/planispherelaw40.RiskCounts", spec := "riskCounts", unfollowed := true, recurses := true, named := ["math/bits.overflowError"], apart := false, narrowed := true }
def RiskCountsUptoSaid : Prop := riskCountsUptoRow.holds Try.pinned (OpenSpec.upto riskCountsSpec)

/-- 'planispherelaw40.RiskBounds', WHERE WHAT IT READS IS OF BULK AT MOST 1048576: true; the input reads as it did. -/
def riskBoundsUptoRow : OpenClaim := { program := "ytcalonhphknbbaa", sum := "4a59c17094f2eb6e93e15062c1ba32cb1fb622eea22d9d4fd924eb37b2bb32bb", func := "planisphere/planispherelaw40.RiskBounds", spec := "riskBounds", unfollowed := true, recurses := true, named := ["math/bits.overflowError"], apart := false, narrowed := true }
def RiskBoundsUptoSaid : Prop := riskBoundsUptoRow.holds Try.pinned (OpenSpec.upto riskBoundsSpec)

/-- 'planispherelaw40.RiskGroups', WHERE WHAT IT READS IS OF BULK AT MOST 1048576: true; the input reads as it did. -/
def riskGroupsUptoRow : OpenClaim := { program := "ytcalonhphknbbaa", sum := "4a59c17094f2eb6e93e15062c1ba32cb1fb622eea22d9d4fd924eb37b2bb32bb", func := "planisphere/planispherelaw40.RiskGroups", spec := "riskGroups", unfollowed := true, recurses := true, named := ["math/bits.overflowError"], apart := false, narrowed := true }
def RiskGroupsUptoSaid : Prop := riskGroupsUptoRow.holds Try.pinned (OpenSpec.upto riskGroupsSpec)

end Rows
end Go.Proofs.Ytcalonhphknbbaa
