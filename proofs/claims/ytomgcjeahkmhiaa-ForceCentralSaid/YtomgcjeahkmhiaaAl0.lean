/- The chapter of examples: numbers. -/
import Derived.Test.YtomgcjeahkmhiaaFc8
set_option linter.unusedSimpArgs false
set_option linter.unusedVariables false
namespace Go.Proofs.Ytomgcjeahkmhiaa
open Go.RowKit

def one : Int := 1099511627776
def dA : V3 := ⟨2199023255552, 2199023255552, 0, 0, 0, 0⟩
theorem rootA : rootI 4398046511104 = 2199023255552 := (IsRoot.eq ⟨by decide, by decide, by decide⟩).symm
theorem nrmA : nrmI 0 dA = ⟨4398046511104, 4398046511104, 0⟩ := by kernel_rfl
theorem szA : sz2 (nrmI 0 dA) = ⟨8796093022208, 8796093022208, 0⟩ := by
  rw [nrmA]; unfold sz2 sz1 sqrtI; rw [rootA]; kernel_rfl
theorem lkA : lkI 1099511627776 1099511627776 dA = 0 := by kernel_rfl
theorem pullA : pullR 1099511627776 1099511627776 dA = ⟨⟨-274877906944, -274877906944, 0, 0, 0, 0⟩, 0⟩ := by
  unfold pullR; rw [lkA, szA]; kernel_rfl
theorem tnA : tnI (sz2 (nrmI 0 dA)) 1099511627776 1099511627776 = ⟨137438953472, 137438953472, 0⟩ := by rw [szA]; kernel_rfl
theorem tmA : tmI (nrmI 0 dA) ⟨137438953472, 137438953472, 0⟩ = ⟨103079215104, 103079215104, 0⟩ := by rw [nrmA]; kernel_rfl
theorem tdA : TdOK ⟨137438953472, 137438953472, 0⟩ ⟨103079215104, 103079215104, 0⟩ dA := ⟨by kernel_rfl, by kernel_rfl, by kernel_rfl, by kernel_rfl, by kernel_rfl, by kernel_rfl, by kernel_rfl⟩
theorem tideA : (∀ i, tideR 1099511627776 1099511627776 dA i = [274877906944, 274877906944, 0, 0, 0, 0, 0, 0, -137438953472, -137438953472, 0, 0, 0, 0, 0, 0, -137438953472, -137438953472].getD i 0) ∧ tideE 1099511627776 1099511627776 dA = 0 := by
  have h := tide_ok lkA (by rw [tnA, tmA]; exact tdA)
  rw [tnA, tmA] at h
  exact ⟨fun i => (h.1 i).trans (by kernel_rfl), h.2⟩
end Go.Proofs.Ytomgcjeahkmhiaa
