/- forceParts: closed facts of the row. -/
import Derived.Test.YtbkgakgdbmjmjaaGreatJ00
import Derived.Test.YtbkgakgdbmjmjaaGreatRows
import Derived.JoinedOf
set_option linter.unusedSimpArgs false
set_option linter.unusedVariables false
namespace Go.Proofs.YtbkgakgdbmjmjaaGreat
theorem jf5_inPlace : Tryz.prog.inPlace 5 = Rows.forcePartsRow.inPlace := by kernel_rfl
theorem jf5_unf : Tryz.prog.unfollowed 5 = Rows.forcePartsRow.unfollowed := by kernel_rfl
theorem jf5_rec : Tryz.prog.recurses 5 = Rows.forcePartsRow.recurses := by kernel_rfl
theorem jf5_named : Tryz.prog.varsNamed 5 = Rows.forcePartsRow.named := by kernel_rfl
theorem jf5_closed : joinedFacts Tryz.pinned.checked.prog 5 Tryz.f5 Rows.forcePartsSpec Rows.forcePartsRow = true := by
 show joinedFacts Tryz.prog 5 Tryz.f5 Rows.forcePartsSpec Rows.forcePartsRow = true
 unfold joinedFacts
 rw [jf5_inPlace, jf5_unf, jf5_rec, jf5_named]
 kernel_rfl
end Go.Proofs.YtbkgakgdbmjmjaaGreat
