/-
  No cell of these rows narrows 'for every input' (looked for: loops, veiled, ifaces, maps, wideKeys, modest, calm, conditions, laid).
  DERIVED. THE GIVEN ROWS OF THIS SEAT. 2 by the template 'for every input the law returns true; each argument reads behind the call as it read before'; 0 by the template 'total and deterministic' (their statements: YtaoioncjmfcolaaGreatTotals.lean).
  GIVEN WITH THE SEED: the statements are not yours to turn. If you find one false, say at which input.
  Laid BY PROGRAM, IN A SANDBOX (cutbox-rows.mjs): the forced cells as the released guide's own fill.sh prints them over the translation 82ce96878d26e42a… (all of the seat's roots in one cut). By AI agents, Wed Nov 11 2026. No macro, syntax, notation, axiom, sorry.
-/
import Derived.Test.YtaoioncjmfcolaaGreatChecked
import GoSem.Claim
import GoSem.ClaimJoined
import GoSem.ClaimMapViews
import Derived.JoinedTies
import Derived.KernelRfl
namespace Go.Proofs.YtaoioncjmfcolaaGreat
/- THE CELL 'sum', in the pinned program and in every row, IS THE sha256 OF THE DUMP (.gsa) THAT YtaoioncjmfcolaaGreatProg.lean LOADS. Nothing in Lean hashes anything: it is a label: what it is worth is what the hold of that sum in a sandbox is worth. -/
noncomputable def Tryz.pinned : Pinned := { name := "ytaoioncjmfcolaagreat", sum := "82ce96878d26e42a41958b89ed71a8777a3199ad97f4c1aafdb0d8ffd4bee2ec", checked := Tryz.checked }
namespace Rows
def none {H : Type} : Left H := { results := [], args := [] }

/-- 'planispherelaw17.SphereNames': WHATEVER THE INPUT: true; the input reads as it did. -/
def sphereNamesSpec : ChangeSpec := { name := "sphereNames", fn := fun _ => fun
  | [] => { results := [.lit (.bool true)], args := [] }
  | _ => none }
def sphereNamesRow : OpenClaim := { program := "ytaoioncjmfcolaagreat", sum := "82ce96878d26e42a41958b89ed71a8777a3199ad97f4c1aafdb0d8ffd4bee2ec", func := "planisphere/planispherelaw17.SphereNames", spec := "sphereNames", inPlace := ["math/bits.Sub64"], unfollowed := true, recurses := true, named := ["math/bits.divideError", "math/bits.overflowError"], apart := false }
def SphereNamesSaid : Prop := sphereNamesRow.holds Tryz.pinned (OpenSpec.ofChange sphereNamesSpec)

/-- ITS FALSE NEIGHBOUR: 'it returns false'. Refute it at one input. -/
def sphereNamesWrong : ChangeSpec := { name := "sphereNames", fn := fun _ => fun
  | [] => { results := [.lit (.bool false)], args := [] }
  | _ => none }
def SphereNamesWrongFalsely : Prop := sphereNamesRow.holds Tryz.pinned (OpenSpec.ofChange sphereNamesWrong)

/-- 'planispherelaw33.KeplerNames': WHATEVER THE INPUT: true; the input reads as it did. -/
def keplerNamesSpec : ChangeSpec := { name := "keplerNames", fn := fun _ => fun
  | [] => { results := [.lit (.bool true)], args := [] }
  | _ => none }
def keplerNamesRow : OpenClaim := { program := "ytaoioncjmfcolaagreat", sum := "82ce96878d26e42a41958b89ed71a8777a3199ad97f4c1aafdb0d8ffd4bee2ec", func := "planisphere/planispherelaw33.KeplerNames", spec := "keplerNames", inPlace := ["math/bits.Sub64"], unfollowed := true, recurses := true, named := ["math/bits.overflowError", "math/bits.divideError"], apart := false }
def KeplerNamesSaid : Prop := keplerNamesRow.holds Tryz.pinned (OpenSpec.ofChange keplerNamesSpec)

/-- ITS FALSE NEIGHBOUR: 'it returns false'. Refute it at one input. -/
def keplerNamesWrong : ChangeSpec := { name := "keplerNames", fn := fun _ => fun
  | [] => { results := [.lit (.bool false)], args := [] }
  | _ => none }
def KeplerNamesWrongFalsely : Prop := keplerNamesRow.holds Tryz.pinned (OpenSpec.ofChange keplerNamesWrong)

/- THE SECOND FORM. 'bulk': how many values and letters a reading holds, each counted each time it is reached (what is shared counts as often as it is met; a slice's spare places count too). A statement '..UptoSaid' is the law's where the arguments, and the package variables that the reading takes, are together of bulk at most 1048576: NARROWER than '..Said'. Prove '..Said' where nothing that the law and all that it calls make is longer than what came in: it says more and counts as full. Else prove '..UptoSaid'. A law counts once. -/
mutual
def uptoBulk {H : Type} : DataW H → Nat
  | .lit (.string bytes) => bytes.length + 1
  | .lit _ => 1
  | .nil => 1
  | .ptr d => uptoBulk d + 1
  | .slice elems spare => uptoBulkAll elems + uptoBulkAll spare + 1
  | .agg parts => uptoBulkAll parts + 1
  | .iface _ d => uptoBulk d + 1
  | .map entries => uptoBulkEntries entries + 1
  | .held _ => 1
def uptoBulkAll {H : Type} : List (DataW H) → Nat
  | [] => 0
  | d :: r => uptoBulk d + uptoBulkAll r
def uptoBulkEntries {H : Type} : List (Lit × DataW H) → Nat
  | [] => 0
  | x :: r => uptoBulkEntry x + uptoBulkEntries r
def uptoBulkEntry {H : Type} : Lit × DataW H → Nat
  | (.string bytes, d) => bytes.length + uptoBulk d + 1
  | (_, d) => uptoBulk d + 1
 end
def uptoSmall : (H : Type) → List (DataW H) → Bool := fun _ ds => decide (uptoBulkAll ds ≤ 1048576)
def OpenSpec.upto (s : _root_.Go.ChangeSpec) : _root_.Go.OpenSpec := { _root_.Go.OpenSpec.ofChange s with cond := some uptoSmall }

/-- 'planispherelaw17.SphereNames', WHERE WHAT IT READS IS OF BULK AT MOST 1048576: true; the input reads as it did. -/
def sphereNamesUptoRow : OpenClaim := { program := "ytaoioncjmfcolaagreat", sum := "82ce96878d26e42a41958b89ed71a8777a3199ad97f4c1aafdb0d8ffd4bee2ec", func := "planisphere/planispherelaw17.SphereNames", spec := "sphereNames", inPlace := ["math/bits.Sub64"], unfollowed := true, recurses := true, named := ["math/bits.divideError", "math/bits.overflowError"], apart := false, narrowed := true }
def SphereNamesUptoSaid : Prop := sphereNamesUptoRow.holds Tryz.pinned (OpenSpec.upto sphereNamesSpec)

/-- 'planispherelaw33.KeplerNames', WHERE WHAT IT READS IS OF BULK AT MOST 1048576: true; the input reads as it did. -/
def keplerNamesUptoRow : OpenClaim := { program := "ytaoioncjmfcolaagreat", sum := "82ce96878d26e42a41958b89ed71a8777a3199ad97f4c1aafdb0d8ffd4bee2ec", func := "planisphere/planispherelaw33.KeplerNames", spec := "keplerNames", inPlace := ["math/bits.Sub64"], unfollowed := true, recurses := true, named := ["math/bits.overflowError", "math/bits.divideError"], apart := false, narrowed := true }
def KeplerNamesUptoSaid : Prop := keplerNamesUptoRow.holds Tryz.pinned (OpenSpec.upto keplerNamesSpec)

end Rows
end Go.Proofs.YtaoioncjmfcolaaGreat
