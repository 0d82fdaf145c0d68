/- law35.FlowNames: it returns true. -/
import Derived.Test.YtbkgakgdbmjmjaaGreatN36
import Derived.Test.YtbkgakgdbmjmjaaGreatRows
set_option linter.unusedSimpArgs false
set_option linter.unusedVariables false
set_option maxRecDepth 100000
namespace Go.Proofs.YtbkgakgdbmjmjaaGreat
open Go.RowKit
theorem fx_I : lvP.I ∧ lvB.I := by
 unfold V3.I I64 lvP lvB; dsimp only; omega
theorem law_flowNames (w : World) : Calls Tryz.prog 12 #[] w fun e w' => e = .returned (.bool true) ∧ Ext w w' := by
 obtain ⟨a, b, c, hR, -, h1, h2, h3, -, h5⟩ := fx_11
 have st := fun fr ti p v w1 (hv : V3.I v) => p_Step (.slice none 0 0) [] 0 fr ti p v w1 (lv_nil w1) lv_ck (fun _ => lv_sml) hv
 have rn := fun s te n w1 => p_Run (.slice none 0 0) [] 0 s te n w1 (lv_nil w1) lv_ck (fun _ => lv_sml)
 have sy := fun t p v w1 (h : V3.I t.h) (k : V3.I t.f) => p_Stays (.slice none 0 0) [] 0 t p v w1 (lv_nil w1) lv_ck (fun _ => lv_sml) h k
 refine fx_walk Tu.O a b c w (fun w1 => ?_) (fun w1 => ?_) (fun w1 => ?_) (fun w1 => ?_) (fun w1 => ?_) (fun w1 => ?_) (fun w1 => ?_) (fun w1 => ?_) (fun w1 => ?_) (fun w1 => ?_) (fun w1 => ?_) (fun w1 => ?_) (fun w1 => ?_) h1 h2 h3 h5
 ·have h := st 0 0 lvP V3.O w1 V3.O_I
  rw [fx_1] at h; exact h
 ·have h := st 0 5000000000000001 lvP V3.O w1 V3.O_I
  rw [fx_2] at h; exact h
 ·have h := st 0 1 lvB V3.O w1 V3.O_I
  rw [fx_3] at h; exact h
 ·have h := st 0 1 lvP lvB w1 fx_I.2
  rw [fx_4] at h; exact h
 ·have h := st 0 1 V3.O V3.O w1 V3.O_I
  rw [fx_5] at h; exact h
 ·have h := st 0 345600000000000 lvP V3.O w1 V3.O_I
  rw [fx_6] at h; exact h
 ·have h := rn ⟨0, 0, 0, 0, 0, 0, 0⟩ 5 1 w1
  rw [fx_7] at h; exact h
 ·have h := rn lvS 5 6 w1
  rw [fx_8] at h; exact h
 ·have h := rn lvS 500 201 w1
  rw [fx_9] at h; exact h
 ·have h := rn lvS 5000000000000001 1 w1
  rw [fx_10] at h; exact h
 ·have h := rn lvS 5 3 w1
  rw [hR] at h; exact h
 ·have h := sy ⟨0, 86400000000, lvP, V3.O, lvP, V3.O⟩ lvP V3.O w1 fx_I.1 V3.O_I
  rw [fx_12] at h; exact h
 ·have h := sy ⟨0, 0, lvP, V3.O, lvP, V3.O⟩ lvP V3.O w1 fx_I.1 V3.O_I
  rw [fx_13] at h; exact h
end Go.Proofs.YtbkgakgdbmjmjaaGreat
namespace Go.Proofs.YtbkgakgdbmjmjaaGreat
open Go.ChangeShapes Go.WideShapes Go.ChangeAt Go.RowKit
theorem cells2 : Tryz.prog.cellsOf 2 = 1 := by kernel_rfl
section
variable {H : Type} {enc : TypeId × Value → H} {W : World} {base : Nat} {spare : Nat → Bool} {held : Bool}
end
end Go.Proofs.YtbkgakgdbmjmjaaGreat
namespace Go.Proofs.YtbkgakgdbmjmjaaGreat
open Go.RowKit
end Go.Proofs.YtbkgakgdbmjmjaaGreat
namespace Go.Proofs.YtbkgakgdbmjmjaaGreat
open Go.ChangeShapes Go.WideShapes Go.ChangeAt Go.RowKit
section
variable {H : Type} {enc : TypeId × Value → H} {W : World} {base : Nat} {spare : Nat → Bool} {held : Bool}
end
end Go.Proofs.YtbkgakgdbmjmjaaGreat
namespace Go.Proofs.YtbkgakgdbmjmjaaGreat
theorem jf12_inPlace : Tryz.prog.inPlace 12 = Rows.flowNamesRow.inPlace := by kernel_rfl
theorem jf12_unf : Tryz.prog.unfollowed 12 = Rows.flowNamesRow.unfollowed := by kernel_rfl
theorem jf12_rec : Tryz.prog.recurses 12 = Rows.flowNamesRow.recurses := by kernel_rfl
theorem jf12_named : Tryz.prog.varsNamed 12 = Rows.flowNamesRow.named := by kernel_rfl
theorem jf12_closed : joinedFacts Tryz.pinned.checked.prog 12 Tryz.f12 Rows.flowNamesSpec Rows.flowNamesRow = true := by
 show joinedFacts Tryz.prog 12 Tryz.f12 Rows.flowNamesSpec Rows.flowNamesRow = true
 unfold joinedFacts
 rw [jf12_inPlace, jf12_unf, jf12_rec, jf12_named]
 kernel_rfl
end Go.Proofs.YtbkgakgdbmjmjaaGreat
