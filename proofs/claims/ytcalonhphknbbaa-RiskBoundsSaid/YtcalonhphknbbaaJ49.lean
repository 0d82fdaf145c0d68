/- An integer and a bool that came in, opened. -/
import Derived.Test.YtcalonhphknbbaaJ38
set_option linter.unusedSimpArgs false
set_option linter.unusedVariables false
namespace Go.Proofs.Ytcalonhphknbbaa
open Go.ChangeShapes Go.WideShapes Go.ChangeAt Go.RowKit

set_option maxRecDepth 100000 in
theorem open_int3 {W : World} {r : Reach} {base : Nat} {v : Value} (h : Value.okWide Try.prog W r base 3 v) : ∃ x, v = .int .i64 x := by
  simp only [Value.okWide, Try.underlying3, Cell.okWide] at h
  cases v <;> simp_all [Cell.ok]
set_option maxRecDepth 100000 in
theorem open_bool4 {W : World} {r : Reach} {base : Nat} {v : Value} (h : Value.okWide Try.prog W r base 4 v) : ∃ x, v = .bool x := by
  simp only [Value.okWide, Try.underlying4, Cell.okWide] at h
  cases v <;> simp_all [Cell.ok]
end Go.Proofs.Ytcalonhphknbbaa
