/-
  No cell of these rows narrows 'for every input' (looked for: loops, veiled, ifaces, maps, wideKeys, modest, calm, conditions, laid).
  DERIVED. THE GIVEN ROWS OF THIS SEAT. 4 by the template 'for every input the law returns true; each argument reads behind the call as it read before'; 0 by the template 'total and deterministic' (their statements: YtomgcjeahkmhiaaTotals.lean).
  GIVEN WITH THE SEED: the statements are not yours to turn. If you find one false, say at which input.
  Laid BY PROGRAM, IN A SANDBOX (cutbox-rows.mjs): the forced cells as the released guide's own fill.sh prints them over the translation 7757438cc8699591… (all of the seat's roots in one cut). By AI agents, Wed Nov 11 2026. No macro, syntax, notation, axiom, sorry.
-/
import Derived.Test.YtomgcjeahkmhiaaChecked
import GoSem.Claim
import GoSem.ClaimJoined
import GoSem.ClaimMapViews
import Derived.JoinedTies
import Derived.KernelRfl
namespace Go.Proofs.Ytomgcjeahkmhiaa
/- THE CELL 'sum', in the pinned program and in every row, IS THE sha256 OF THE DUMP (.gsa) THAT YtomgcjeahkmhiaaProg.lean LOADS. Nothing in Lean hashes anything: it is a label: what it is worth is what the hold of that sum in a sandbox is worth. -/
noncomputable def Try.pinned : Pinned := { name := "ytomgcjeahkmhiaa", sum := "7757438cc8699591ab7d0a7f5a41fadf653297203780aa0f936b053f3c7743c6", checked := Try.checked }
namespace Rows
def none {H : Type} : Left H := { results := [], args := [] }

/-- 'planispherelaw17.SphereReckons': WHATEVER THE INPUT: true; the input reads as it did. -/
def sphereReckonsSpec : ChangeSpec := { name := "sphereReckons", fn := fun _ => fun
  | [d1, d2, d3] => { results := [.lit (.bool true)], args := [d1, d2, d3] }
  | _ => none }
def sphereReckonsRow : OpenClaim := { program := "ytomgcjeahkmhiaa", sum := "7757438cc8699591ab7d0a7f5a41fadf653297203780aa0f936b053f3c7743c6", func := "planisphere/planispherelaw17.SphereReckons", spec := "sphereReckons", inPlace := ["math/bits.Sub64"], unfollowed := true, recurses := true, named := ["math/bits.divideError", "math/bits.overflowError"], apart := false }
def SphereReckonsSaid : Prop := sphereReckonsRow.holds Try.pinned (OpenSpec.ofChange sphereReckonsSpec)

/-- ITS FALSE NEIGHBOUR: 'it returns false'. Refute it at one input. -/
def sphereReckonsWrong : ChangeSpec := { name := "sphereReckons", fn := fun _ => fun
  | [d1, d2, d3] => { results := [.lit (.bool false)], args := [d1, d2, d3] }
  | _ => none }
def SphereReckonsWrongFalsely : Prop := sphereReckonsRow.holds Try.pinned (OpenSpec.ofChange sphereReckonsWrong)

/-- 'planispherelaw34.ForcePulls': WHATEVER THE INPUT: true; the input reads as it did. -/
def forcePullsSpec : ChangeSpec := { name := "forcePulls", fn := fun _ => fun
  | [d1, d2] => { results := [.lit (.bool true)], args := [d1, d2] }
  | _ => none }
def forcePullsRow : OpenClaim := { program := "ytomgcjeahkmhiaa", sum := "7757438cc8699591ab7d0a7f5a41fadf653297203780aa0f936b053f3c7743c6", func := "planisphere/planispherelaw34.ForcePulls", spec := "forcePulls", inPlace := ["math/bits.Sub64"], unfollowed := true, recurses := true, named := ["math/bits.divideError", "math/bits.overflowError"], apart := false }
def ForcePullsSaid : Prop := forcePullsRow.holds Try.pinned (OpenSpec.ofChange forcePullsSpec)

/-- ITS FALSE NEIGHBOUR: 'it returns false'. Refute it at one input. -/
def forcePullsWrong : ChangeSpec := { name := "forcePulls", fn := fun _ => fun
  | [d1, d2] => { results := [.lit (.bool false)], args := [d1, d2] }
  | _ => none }
def ForcePullsWrongFalsely : Prop := forcePullsRow.holds Try.pinned (OpenSpec.ofChange forcePullsWrong)

/-- 'planispherelaw34.ForceCentral': WHATEVER THE INPUT: true; the input reads as it did. -/
def forceCentralSpec : ChangeSpec := { name := "forceCentral", fn := fun _ => fun
  | [d1, d2] => { results := [.lit (.bool true)], args := [d1, d2] }
  | _ => none }
def forceCentralRow : OpenClaim := { program := "ytomgcjeahkmhiaa", sum := "7757438cc8699591ab7d0a7f5a41fadf653297203780aa0f936b053f3c7743c6", func := "planisphere/planispherelaw34.ForceCentral", spec := "forceCentral", inPlace := ["math/bits.Sub64"], unfollowed := true, recurses := true, named := ["math/bits.divideError", "math/bits.overflowError"], apart := false }
def ForceCentralSaid : Prop := forceCentralRow.holds Try.pinned (OpenSpec.ofChange forceCentralSpec)

/-- ITS FALSE NEIGHBOUR: 'it returns false'. Refute it at one input. -/
def forceCentralWrong : ChangeSpec := { name := "forceCentral", fn := fun _ => fun
  | [d1, d2] => { results := [.lit (.bool false)], args := [d1, d2] }
  | _ => none }
def ForceCentralWrongFalsely : Prop := forceCentralRow.holds Try.pinned (OpenSpec.ofChange forceCentralWrong)

/-- 'planispherelaw33.KeplerSolves': WHATEVER THE INPUT: true; the input reads as it did. -/
def keplerSolvesSpec : ChangeSpec := { name := "keplerSolves", fn := fun _ => fun
  | [d1, d2, d3] => { results := [.lit (.bool true)], args := [d1, d2, d3] }
  | _ => none }
def keplerSolvesRow : OpenClaim := { program := "ytomgcjeahkmhiaa", sum := "7757438cc8699591ab7d0a7f5a41fadf653297203780aa0f936b053f3c7743c6", func := "planisphere/planispherelaw33.KeplerSolves", spec := "keplerSolves", unfollowed := true, recurses := true, named := ["math/bits.overflowError"], apart := false }
def KeplerSolvesSaid : Prop := keplerSolvesRow.holds Try.pinned (OpenSpec.ofChange keplerSolvesSpec)

/-- ITS FALSE NEIGHBOUR: 'it returns false'. Refute it at one input. -/
def keplerSolvesWrong : ChangeSpec := { name := "keplerSolves", fn := fun _ => fun
  | [d1, d2, d3] => { results := [.lit (.bool false)], args := [d1, d2, d3] }
  | _ => none }
def KeplerSolvesWrongFalsely : Prop := keplerSolvesRow.holds Try.pinned (OpenSpec.ofChange keplerSolvesWrong)

/- THE SECOND FORM. 'bulk': how many values and letters a reading holds, each counted each time it is reached (what is shared counts as often as it is met; a slice's spare places count too). A statement '..UptoSaid' is the law's where the arguments, and the package variables that the reading takes, are together of bulk at most 1048576: NARROWER than '..Said'. Prove '..Said' where nothing that the law and all that it calls make is longer than what came in: it says more and counts as full. Else prove '..UptoSaid'. A law counts once. -/
mutual
def uptoBulk {H : Type} : DataW H → Nat
  | .lit (.string bytes) => bytes.length + 1
  | .lit _ => 1
  | .nil => 1
  | .ptr d => uptoBulk d + 1
  | .slice elems spare => uptoBulkAll elems + uptoBulkAll spare + 1
  | .agg parts => uptoBulkAll parts + 1
  | .iface _ d => uptoBulk d + 1
  | .map entries => uptoBulkEntries entries + 1
  | .held _ => 1
def uptoBulkAll {H : Type} : List (DataW H) → Nat
  | [] => 0
  | d :: r => uptoBulk d + uptoBulkAll r
def uptoBulkEntries {H : Type} : List (Lit × DataW H) → Nat
  | [] => 0
  | x :: r => uptoBulkEntry x + uptoBulkEntries r
def uptoBulkEntry {H : Type} : Lit × DataW H → Nat
  | (.string bytes, d) => bytes.length + uptoBulk d + 1
  | (_, d) => uptoBulk d + 1
 end
def uptoSmall : (H : Type) → List (DataW H) → Bool := fun _ ds => decide (uptoBulkAll ds ≤ 1048576)
def OpenSpec.upto (s : _root_.Go.ChangeSpec) : _root_.Go.OpenSpec := { _root_.Go.OpenSpec.ofChange s with cond := some uptoSmall }

/-- 'planispherelaw17.SphereReckons', WHERE WHAT IT READS IS OF BULK AT MOST 1048576: true; the input reads as it did. -/
def sphereReckonsUptoRow : OpenClaim := { program := "ytomgcjeahkmhiaa", sum := "7757438cc8699591ab7d0a7f5a41fadf653297203780aa0f936b053f3c7743c6", func := "planisphere/planispherelaw17.SphereReckons", spec := "sphereReckons", inPlace := ["math/bits.Sub64"], unfollowed := true, recurses := true, named := ["math/bits.divideError", "math/bits.overflowError"], apart := false, narrowed := true }
def SphereReckonsUptoSaid : Prop := sphereReckonsUptoRow.holds Try.pinned (OpenSpec.upto sphereReckonsSpec)

/-- 'planispherelaw34.ForcePulls', WHERE WHAT IT READS IS OF BULK AT MOST 1048576: true; the input reads as it did. -/
def forcePullsUptoRow : OpenClaim := { program := "ytomgcjeahkmhiaa", sum := "7757438cc8699591ab7d0a7f5a41fadf653297203780aa0f936b053f3c7743c6", func := "planisphere/planispherelaw34.ForcePulls", spec := "forcePulls", inPlace := ["math/bits.Sub64"], unfollowed := true, recurses := true, named := ["math/bits.divideError", "math/bits.overflowError"], apart := false, narrowed := true }
def ForcePullsUptoSaid : Prop := forcePullsUptoRow.holds Try.pinned (OpenSpec.upto forcePullsSpec)

/-- 'planispherelaw34.ForceCentral', WHERE WHAT IT READS IS OF BULK AT MOST 1048576: true; the input reads as it did. -/
def forceCentralUptoRow : OpenClaim := { program := "ytomgcjeahkmhiaa", sum := "7757438cc8699591ab7d0a7f5a41fadf653297203780aa0f936b053f3c7743c6", func := "planisphere/planispherelaw34.ForceCentral", spec := "forceCentral", inPlace := ["math/bits.Sub64"], unfollowed := true, recurses := true, named := ["math/bits.divideError", "math/bits.overflowError"], apart := false, narrowed := true }
def ForceCentralUptoSaid : Prop := forceCentralUptoRow.holds Try.pinned (OpenSpec.upto forceCentralSpec)

/-- 'planispherelaw33.KeplerSolves', WHERE WHAT IT READS IS OF BULK AT MOST 1048576: true; the input reads as it did. -/
def keplerSolvesUptoRow : OpenClaim := { program := "ytomgcjeahkmhiaa", sum := "7757438cc8699591ab7d0a7f5a41fadf653297203780aa0f936b053f3c7743c6", func := "planisphere/planispherelaw33.KeplerSolves", spec := "keplerSolves", unfollowed := true, recurses := true, named := ["math/bits.overflowError"], apart := false, narrowed := true }
def KeplerSolvesUptoSaid : Prop := keplerSolvesUptoRow.holds Try.pinned (OpenSpec.upto keplerSolvesSpec)

end Rows
end Go.Proofs.Ytomgcjeahkmhiaa
