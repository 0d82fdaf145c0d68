/- Rows of blocks that have just been made. -/
import Derived.Test.YtomgcjeahkmhiaaRow
set_option linter.unusedSimpArgs false
set_option linter.unusedVariables false
namespace Go.Proofs.Ytomgcjeahkmhiaa
open Go.RowKit

theorem Ext.rg {a b : World} {q o : Nat} {vs : List Value} (h : Ext a b) (hq : q < a.heap.size) (k : a.rangeAt q o vs) : b.rangeAt q o vs := fun j v hv => (h.cells.1 q (o + j) hq).trans (k j v hv)
theorem tyU25 : Try.prog.underlying 25 = some (.array 3 23) := by kernel_rfl
theorem tyI25 : (Try.prog.info? 25).map (·.size) = some 6 := by kernel_rfl
/-- A row of a block that has just been made. -/
def Fresh (w : World) (b : Nat) (vs : List Value) : Prop := w.rangeAt b 0 vs ∧ (∀ q, w.frozen? ⟨b, q, none⟩ = false) ∧ b < w.heap.size
theorem Fresh.there {w : World} {b : Nat} {vs : List Value} (h : Fresh w b vs) : w.there b 0 vs.length := there_range h.1 h.2.1 _ rfl
theorem Fresh.ext {a w : World} {b : Nat} {vs : List Value} (h : Fresh a b vs) (k : Ext a w) : Fresh w b vs := ⟨Ext.rg k h.2.2 h.1, fun q => (k.cells.2 b q h.2.2).trans (h.2.1 q), Nat.lt_of_lt_of_le h.2.2 k.size⟩
theorem Fresh.row {W w : World} {b : Nat} {vs us : List Value} (h : Fresh w b vs) (k : Row W w b us) : Fresh W b us := ⟨k.range, fun q => (k.cells.2.1 _).trans (h.2.1 q), by have := k.cells.2.2; have := h.2.2; omega⟩
theorem wp_store_row {P : Program} {op : Oper} {a : Act} {w : World} {K : Act → World → Prop} {Q : Exit → Act → World → Prop} (ty : TypeId) (x y : Operand) (ho : op.op = .store ty x y)
    (b : Nat) (cells : Array Value) (hx : a.eval x = .pointer (some ⟨b, 0, none⟩)) (hy : a.eval y = .agg cells)
    (ht : w.there b 0 cells.size) (hi : (P.info? ty).map (·.size) = some cells.size) (h1 : cells.all (·.oneCell') = true)
    (h : ∀ W, Row W w b cells.toList → K (a.put op.dst undef) W) : op.wp P a w K Q :=
  wp_store_mid ty x y ho b 0 cells hx hy ht hi h1 (h _ ⟨rfl, by simpa using ht⟩)
theorem fresh25 (w : World) : Fresh (w.alloc (.cells #[.int .i64 0, .int .i64 0, .int .i64 0, .int .i64 0, .int .i64 0, .int .i64 0] 25)) w.heap.size [.int .i64 0, .int .i64 0, .int .i64 0, .int .i64 0, .int .i64 0, .int .i64 0] :=
  ⟨by repeat (first | exact range_nil _ _ _ | refine range_cons (by simp [go_sem]) ?_), fun q => by simp [go_sem], by simp⟩
theorem fresh44 (w : World) : Fresh (w.alloc (.cells #[.int .i64 0, .int .i64 0, .int .i64 0, .int .i64 0, .int .i64 0, .int .i64 0, .int .i64 0, .int .i64 0, .int .i64 0, .int .i64 0, .int .i64 0, .int .i64 0, .int .i64 0, .int .i64 0, .int .i64 0, .int .i64 0, .int .i64 0, .int .i64 0] 44)) w.heap.size [.int .i64 0, .int .i64 0, .int .i64 0, .int .i64 0, .int .i64 0, .int .i64 0, .int .i64 0, .int .i64 0, .int .i64 0, .int .i64 0, .int .i64 0, .int .i64 0, .int .i64 0, .int .i64 0, .int .i64 0, .int .i64 0, .int .i64 0, .int .i64 0] :=
  ⟨by repeat (first | exact range_nil _ _ _ | refine range_cons (by simp [go_sem]) ?_), fun q => by simp [go_sem], by simp⟩
end Go.Proofs.Ytomgcjeahkmhiaa
