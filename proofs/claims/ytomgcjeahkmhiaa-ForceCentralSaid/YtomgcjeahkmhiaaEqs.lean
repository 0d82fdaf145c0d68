/- Values of arrays and structs of numbers are equal to themselves. -/
import Derived.Test.YtomgcjeahkmhiaaBase
import Derived.Laws.StructEq
import Derived.ChangeKeysEq
import Derived.KernelRfl
namespace Go.Proofs.Ytomgcjeahkmhiaa
open Go.RowKit
theorem eq_iv (a b : Int) (d : Nat) (w : World) : (Op.equalIn (d + 1 + 1) 23 (.agg #[.int .i64 a, .int .i64 b]) (.agg #[.int .i64 a, .int .i64 b])).run Try.prog w = .ok true w := by
  rw [run_equalIn_agg w (d + 1) 23 _ _ (by simp [Program.fieldsOf, Try.underlying23]) (by kernel_rfl)]
  simp [Op.eqFields, Program.fieldsOf, Try.underlying23, go_sem, Try.underlying2]
theorem size23 : Try.prog.cellsOf 23 = 2 := by kernel_rfl
theorem eq_vec (a b c d e f : Int) (n : Nat) (w : World) : (Op.equalIn (n + 1 + 1 + 1) 25 (.agg #[.int .i64 a, .int .i64 b, .int .i64 c, .int .i64 d, .int .i64 e, .int .i64 f]) (.agg #[.int .i64 a, .int .i64 b, .int .i64 c, .int .i64 d, .int .i64 e, .int .i64 f])).run Try.prog w = .ok true w := by
  obtain ⟨i, hi⟩ : ∃ i, Try.prog.info? 23 = some i := Option.isSome_iff_exists.1 (by kernel_rfl)
  rw [run_equalIn_array w (n + 1 + 1) _ _ Try.underlying25 hi, size23]
  have r3 : List.range 3 = [0, 1, 2] := rfl
  rw [r3]
  simp [Op.eqItems, go_sem, eq_iv]
end Go.Proofs.Ytomgcjeahkmhiaa
