/- Rows of cells: loaded and stored whole. -/
import Derived.Test.YtomgcjeahkmhiaaPtr2
import Derived.Deep.MidRow
set_option linter.unusedSimpArgs false
set_option linter.unusedVariables false
namespace Go.Proofs.Ytomgcjeahkmhiaa
open Go.RowKit

theorem range_nil (w : World) (b o : Nat) : w.rangeAt b o [] := fun j v h => by simp at h
theorem range_cons {w : World} {b o : Nat} {v : Value} {r : List Value} (h : w.cell? ⟨b, o, none⟩ = some v) (k : w.rangeAt b (o + 1) r) : w.rangeAt b o (v :: r) := fun j u hj => by
  cases j with
  | zero => simp at hj; subst hj; exact h
  | succ j => have := k j u (by simpa using hj); rw [show o + (j + 1) = o + 1 + j from by omega]; exact this
theorem there_range {w : World} {b o : Nat} {vs : List Value} (h : w.rangeAt b o vs) (hf : ∀ q, w.frozen? ⟨b, q, none⟩ = false) (n : Nat) (hn : n = vs.length) : w.there b o n := fun j hj =>
  ⟨h.isSome j (by omega), hf _⟩
theorem setCells_self {w : World} {b : Nat} : ∀ (vs : List Value) (o : Nat), w.rangeAt b o vs → w.setCells b o vs = w
  | [], _, _ => rfl
  | v :: r, o, h => by
    have h0 : w.cell? ⟨b, o, none⟩ = some v := h 0 v rfl
    rw [World.setCells, setCell_self w b o v h0]
    exact setCells_self r (o + 1) (fun j u hj => by have := h (j + 1) u (by simpa using hj); rw [show o + 1 + j = o + (j + 1) from by omega]; exact this)
theorem Ext.setCells {a : World} {b : Nat} (hb : a.heap.size ≤ b) : ∀ (vs : List Value) (o : Nat) (w : World), Ext a w → Ext a (w.setCells b o vs)
  | [], _, _, h => h
  | v :: r, o, w, h => Ext.setCells hb r (o + 1) _ (h.setCell (p := ⟨b, o, none⟩) hb v)
theorem ExtP.storeS {a : World} {p k b : Nat} (hb : a.heap.size ≤ b) : ∀ (vs : List Value) (o : Nat) (w : World), ExtP a p k w → ExtP a p k (w.setCells b o vs)
  | [], _, _, h => h
  | v :: r, o, w, h => ExtP.storeS hb r (o + 1) _ (h.store (q := ⟨b, o, none⟩) hb)
theorem size_scs (b : Nat) : ∀ (vs : List Value) (o : Nat) (w : World), (w.setCells b o vs).heap.size = w.heap.size
  | [], _, _ => rfl
  | v :: r, o, w => by rw [World.setCells, size_scs b r]; simp
/-- Cells of other blocks. -/
@[go_sem] theorem cell_scs (w : World) (b o : Nat) (vs : List Value) (b' o' : Nat) (h : ¬ b' = b) : (w.setCells b o vs).cell? ⟨b', o', none⟩ = w.cell? ⟨b', o', none⟩ :=
  World.cell?_setCells_out b vs o w ⟨b', o', none⟩ (fun e => absurd e h)
@[go_sem] theorem frozen_scs (w : World) (b o : Nat) (vs : List Value) (x : Addr) : (w.setCells b o vs).frozen? x = w.frozen? x := World.frozen?_setCells b vs o w x
theorem run_load_row (w : World) (b : Nat) (ty : TypeId) (cs : List Value) (d : TypeDesc) (hc : w.rangeAt b 0 cs)
    (hu : Try.prog.underlying ty = some d) (hd : d.isRow = true) (hi : (Try.prog.info? ty).map (·.size) = some cs.length) :
    (loadVar ty ⟨b, 0, none⟩).run Try.prog w = .ok (.agg cs.toArray) w := run_loadVar_mid w b 0 ty cs d hc hu hd hi
/-- W is w behind the store of a row: under a name that no tactic looks into. -/
def Row (W w : World) (b : Nat) (vs : List Value) : Prop := W = w.setCells b 0 vs ∧ w.there b 0 vs.length
theorem Row.range {W w : World} {b : Nat} {vs : List Value} (h : Row W w b vs) : W.rangeAt b 0 vs := by
  obtain ⟨rfl, h⟩ := h; exact World.rangeAt_setCells_same w b 0 vs h
theorem Row.cells {W w : World} {b : Nat} {vs : List Value} (h : Row W w b vs) : (∀ b' o, ¬ b' = b → W.cell? ⟨b', o, none⟩ = w.cell? ⟨b', o, none⟩) ∧ (∀ p, W.frozen? p = w.frozen? p) ∧ W.heap.size = w.heap.size := by
  obtain ⟨rfl, h⟩ := h; exact ⟨fun b' o hb => cell_scs w b 0 vs b' o hb, fun p => frozen_scs w b 0 vs p, size_scs b vs 0 w⟩
theorem Row.ext {a W w : World} {b : Nat} {vs : List Value} (h : Row W w b vs) (k : Ext a w) (hb : a.heap.size ≤ b) : Ext a W := by
  obtain ⟨rfl, h⟩ := h; exact Ext.setCells hb vs 0 w k
theorem Row.extP {a W w : World} {b p k : Nat} {vs : List Value} (h : Row W w b vs) (e : ExtP a p k w) (hb : a.heap.size ≤ b) : ExtP a p k W := by
  obtain ⟨rfl, h⟩ := h; exact ExtP.storeS hb vs 0 w e
theorem store_row {P : Program} {ops : Array Oper} {rest : List Oper} {op : Oper} {a : Act} {w : World} {Q : Exit → Act → World → Prop} (hgd : op.guard = none) (ty : TypeId) (x y : Operand) (ho : op.op = .store ty x y)
    (b : Nat) (cells : Array Value) (hx : a.eval x = .pointer (some ⟨b, 0, none⟩)) (hy : a.eval y = .agg cells)
    (ht : w.there b 0 cells.size) (hi : (P.info? ty).map (·.size) = some cells.size) (h1 : cells.all (·.oneCell') = true)
    (h : ∀ W, Row W w b cells.toList → wpList P ops Q rest (a.put op.dst undef) W) : wpList P ops Q (op :: rest) a w :=
  wpList_store_mid hgd ty x y ho b 0 cells hx hy ht hi h1 (h _ ⟨rfl, by simpa using ht⟩)
theorem results_cell {P : Program} {fn : Func} {tmps : Array Value} {w : World} {t : Tmp} {ty : TypeId} {v : Value} {a : Addr} (h : fn.results = #[.cell t ty])
    (hp : tmps[t]?.getD undef = .pointer (some a)) (hl : (loadVar ty a).run P w = .ok v w) : (results fn tmps).run P w = .ok v w := by
  unfold results
  rw [h]
  generalize hm : loadVar ty a = m at hl
  simp [hp, asAddr, hl]
  rw [hm, hl]
theorem results_cell_tmp {P : Program} {fn : Func} {tmps : Array Value} {w : World} {t s : Tmp} {ty : TypeId} {v u : Value} {a : Addr} (h : fn.results = #[.cell t ty, .tmp s])
    (hp : tmps[t]?.getD undef = .pointer (some a)) (hu : tmps[s]?.getD undef = u) (hl : (loadVar ty a).run P w = .ok v w) : (results fn tmps).run P w = .ok (.tuple #[v, u]) w := by
  unfold results
  rw [h]
  generalize hm : loadVar ty a = m at hl
  simp [hp, hu, asAddr]
  rw [hm, hl]; rfl
theorem load_guarded {P : Program} {ops : Array Oper} {rest : List Oper} {op : Oper} {a : Act} {w : World} {Q : Exit → Act → World → Prop} (hw : Region.wanted op (yielded ops a.tmps) = true) (ty : TypeId) (x : Operand) (ho : op.op = .load ty x)
    (b : Nat) (hx : a.eval x = .pointer (some ⟨b, 0, none⟩)) (cs : List Value) (d : TypeDesc) (hc : w.rangeAt b 0 cs)
    (hu : P.underlying ty = some d) (hd : d.isRow = true) (hi : (P.info? ty).map (·.size) = some cs.length)
    (h : wpList P ops Q rest (a.put op.dst (.agg cs.toArray)) w) : wpList P ops Q (op :: rest) a w :=
  wpList_step fun _ hK => by rw [if_pos hw]; exact wp_load_mid ty x ho b 0 hx cs d hc hu hd hi (hK _ _ h)
theorem tyU44 : Try.prog.underlying 44 = some (.array 3 24) := by kernel_rfl
theorem tyI44 : (Try.prog.info? 44).map (·.size) = some 18 := by kernel_rfl
end Go.Proofs.Ytomgcjeahkmhiaa
