/- sphereNames: closed facts of the row. -/
import Derived.Test.YtaoioncjmfcolaaGreatW00
import Derived.Test.YtaoioncjmfcolaaGreatRows
import Derived.JoinedOf
set_option linter.unusedSimpArgs false
set_option linter.unusedVariables false
namespace Go.Proofs.YtaoioncjmfcolaaGreat
theorem jf3_inPlace : Tryz.prog.inPlace 3 = Rows.sphereNamesRow.inPlace := by kernel_rfl
theorem jf3_unf : Tryz.prog.unfollowed 3 = Rows.sphereNamesRow.unfollowed := by kernel_rfl
theorem jf3_rec : Tryz.prog.recurses 3 = Rows.sphereNamesRow.recurses := by kernel_rfl
theorem jf3_named : Tryz.prog.varsNamed 3 = Rows.sphereNamesRow.named := by kernel_rfl
theorem jf3_closed : joinedFacts Tryz.pinned.checked.prog 3 Tryz.f3 Rows.sphereNamesSpec Rows.sphereNamesRow = true := by
 show joinedFacts Tryz.prog 3 Tryz.f3 Rows.sphereNamesSpec Rows.sphereNamesRow = true
 unfold joinedFacts
 rw [jf3_inPlace, jf3_unf, jf3_rec, jf3_named]
 kernel_rfl
end Go.Proofs.YtaoioncjmfcolaaGreat
