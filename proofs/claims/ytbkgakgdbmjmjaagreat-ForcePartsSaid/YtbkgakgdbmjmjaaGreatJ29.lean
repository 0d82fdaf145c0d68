/- Rows of blocks that have just been made. -/
import Derived.Test.YtbkgakgdbmjmjaaGreatJ27
import Derived.Test.YtbkgakgdbmjmjaaGreatJ28
set_option linter.unusedSimpArgs false
set_option linter.unusedVariables false
namespace Go.Proofs.YtbkgakgdbmjmjaaGreat
open Go.RowKit
theorem Ext.rg {a b : World} {q o : Nat} {vs : List Value} (h : Ext a b) (hq : q < a.heap.size) (k : a.rangeAt q o vs) : b.rangeAt q o vs := fun j v hv => (h.cells.1 q (o + j) hq).trans (k j v hv)
theorem tyU28 : Tryz.prog.underlying 28 = some (.array 3 26) := by kernel_rfl
theorem tyI28 : (Tryz.prog.info? 28).map (·.size) = some 6 := by kernel_rfl
def Fresh (w : World) (b : Nat) (vs : List Value) : Prop := w.rangeAt b 0 vs ∧ (∀ q, w.frozen? ⟨b, q, none⟩ = false) ∧ b < w.heap.size
theorem Fresh.there {w : World} {b : Nat} {vs : List Value} (h : Fresh w b vs) : w.there b 0 vs.length := there_range h.1 h.2.1 _ rfl
theorem Fresh.ext {a w : World} {b : Nat} {vs : List Value} (h : Fresh a b vs) (k : Ext a w) : Fresh w b vs := ⟨Ext.rg k h.2.2 h.1, fun q => (k.cells.2 b q h.2.2).trans (h.2.1 q), Nat.lt_of_lt_of_le h.2.2 k.size⟩
theorem Fresh.row {W w : World} {b : Nat} {vs us : List Value} (h : Fresh w b vs) (k : Row W w b us) : Fresh W b us := ⟨k.range, fun q => (k.cells.2.1 _).trans (h.2.1 q), by have := k.cells.2.2; have := h.2.2; omega⟩
theorem wp_store_row {P : Program} {op : Oper} {a : Act} {w : World} {K : Act → World → Prop} {Q : Exit → Act → World → Prop} (ty : TypeId) (x y : Operand) (ho : op.op = .store ty x y)
    (b : Nat) (cells : Array Value) (hx : a.eval x = .pointer (some ⟨b, 0, none⟩)) (hy : a.eval y = .agg cells)
    (ht : w.there b 0 cells.size) (hi : (P.info? ty).map (·.size) = some cells.size) (h1 : cells.all (·.oneCell') = true)
    (h : ∀ W, Row W w b cells.toList → K (a.put op.dst undef) W) : op.wp P a w K Q :=
  wp_store_mid ty x y ho b 0 cells hx hy ht hi h1 (h _ ⟨rfl, by simpa using ht⟩)
theorem fresh28 (w : World) : Fresh (w.alloc (.cells #[.int .i64 0, .int .i64 0, .int .i64 0, .int .i64 0, .int .i64 0, .int .i64 0] 28)) w.heap.size [.int .i64 0, .int .i64 0, .int .i64 0, .int .i64 0, .int .i64 0, .int .i64 0] :=
 ⟨by repeat (first | exact range_nil _ _ _ | refine range_cons c_71 ?_), fun q => by simp [go_sem], by simp⟩
theorem fresh35 (w : World) : Fresh (w.alloc (.cells #[.int .i64 0, .int .i64 0, .int .i64 0, .int .i64 0, .int .i64 0, .int .i64 0, .int .i64 0, .int .i64 0, .int .i64 0, .int .i64 0, .int .i64 0, .int .i64 0, .int .i64 0, .int .i64 0, .int .i64 0, .int .i64 0, .int .i64 0, .int .i64 0] 35)) w.heap.size [.int .i64 0, .int .i64 0, .int .i64 0, .int .i64 0, .int .i64 0, .int .i64 0, .int .i64 0, .int .i64 0, .int .i64 0, .int .i64 0, .int .i64 0, .int .i64 0, .int .i64 0, .int .i64 0, .int .i64 0, .int .i64 0, .int .i64 0, .int .i64 0] :=
 ⟨by repeat (first | exact range_nil _ _ _ | refine range_cons c_71 ?_), fun q => by simp [go_sem], by simp⟩
def VB (w : World) (g : Nat) (l : List Int) : Prop := (∀ j x, l[j]? = some x → w.cell? ⟨g, j, none⟩ = some (.int .i64 x)) ∧ (∀ o, w.frozen? ⟨g, o, none⟩ = false) ∧ g < w.heap.size
theorem VB.ext {a w : World} {g : Nat} {l : List Int} (h : VB a g l) (k : Ext a w) : VB w g l := ⟨fun j x hj => (k.cells.1 g j h.2.2).trans (h.1 j x hj), fun o => (k.cells.2 g o h.2.2).trans (h.2.1 o), Nat.lt_of_lt_of_le h.2.2 k.size⟩
theorem VB.xb {n p q g : Nat} {A B : World} {l : List Int} (h : VB A g l) (k : Xb n p q A B) (hb : g < n) (h1 : g ≠ p) (h2 : g ≠ q) : VB B g l := ⟨fun j x hj => (k.cell hb h1 h2).trans (h.1 j x hj), fun o => (k.frozen hb h1 h2).trans (h.2.1 o), Nat.lt_of_lt_of_le h.2.2 k.size⟩
theorem VB.other {w : World} {g B j : Nat} {l : List Int} (h : VB w g l) (hne : g ≠ B) (x : Value) : VB (w.setCell ⟨B, j, none⟩ x) g l :=
 ⟨fun i y hi => (by rw [cell_sc, if_neg (fun e => hne c_60)]; exact h.1 i y hi), fun o => by rw [World.frozen?_setCell]; exact h.2.1 o, by simpa using h.2.2⟩
theorem VB.set {w : World} {g : Nat} {l : List Int} (h : VB w g l) (j : Nat) (x : Int) (hj : j < l.length) : VB (w.setCell ⟨g, j, none⟩ (.int .i64 x)) g (l.set j x) := by
 refine ⟨fun i y hi => ?_, fun o => by rw [World.frozen?_setCell]; exact h.2.1 o, by simpa using h.2.2⟩
 rw [cell_sc]
 by_cases e : i = j
 ·subst e
  rw [List.getElem?_set_self hj] at hi
  cases hi
  have hc := h.1 i _ (List.getElem?_eq_getElem hj)
  rw [if_pos rfl, hc]
  rfl
 ·rw [if_neg (fun c => e (by have := congrArg Addr.off c; simpa using this))]
  rw [List.getElem?_set_ne (fun c => e c.symm)] at hi
  exact h.1 i y hi
theorem VB.lit (w : World) (l : List Int) (t : TypeId) : VB (w.alloc (.cells (l.map (Value.int .i64)).toArray t)) w.heap.size l := by
 refine ⟨fun j x hj => ?_, fun o => by simp [go_sem], by simp⟩
 rw [World.cell?_alloc_new]
 simp [hj]
def SRw (A T : Nat) (l : List Int) (x y : Int) (w : World) : Prop := VB w A l ∧ w.cell? ⟨T, 0, none⟩ = some (.int .i64 x) ∧ w.cell? ⟨T, 1, none⟩ = some (.int .i64 y)
theorem SRw.mk {A T : Nat} {l : List Int} {x y : Int} {w : World} (h : VB w A l) (h0 : w.cell? ⟨T, 0, none⟩ = some (.int .i64 x)) (h1 : w.cell? ⟨T, 1, none⟩ = some (.int .i64 y)) : SRw A T l x y w := ⟨h, h0, h1⟩
def z18 : List Int := [0, 0, 0, 0, 0, 0, 0, 0, 0, 0, 0, 0, 0, 0, 0, 0, 0, 0]
theorem VB.range {w : World} {g : Nat} {l : List Int} (h : VB w g l) : w.rangeAt g 0 (l.map (Value.int .i64)) := fun j v hj => by
 rw [List.getElem?_map] at hj
 cases hl : l[j]? with
 | none => rw [hl] at hj; cases hj
 | some x => rw [hl] at hj; cases hj; rw [Nat.zero_add]; exact h.1 j x hl
theorem VB.there {w : World} {g : Nat} {l : List Int} (h : VB w g l) (n : Nat) (hn : n = l.length) : w.there g 0 n := there_range h.range h.2.1 n (by simpa using hn)
theorem VB.row {w W : World} {g : Nat} {l m : List Int} (h : VB w g l) (k : Row W w g (m.map (Value.int .i64))) : VB W g m :=
 ⟨fun j x hj => by have := k.range j (.int .i64 x) (by simp [hj]); rwa [Nat.zero_add] at this, fun o => (k.cells.2.1 _).trans (h.2.1 o), by have := k.cells.2.2; have := h.2.2; omega⟩
theorem Xb.rows {n p q : Nat} {a : World} : ∀ (vs : List Value) (o : Nat) (w : World), Xb n p q a w → Xb n p q a (w.setCells q o vs)
 | [], _, _, h => h
 | v :: r, o, w, h => Xb.rows r (o + 1) _ (h.set ⟨q, o, none⟩ (.inr (.inl rfl)) v)
theorem Xb.row {n p q : Nat} {w W : World} {vs : List Value} (k : Row W w q vs) : Xb n p q w W := by
 obtain ⟨rfl, -⟩ := k
 exact Xb.rows vs 0 w (Xb.refl n p q w)
def ShI (w : World) (P sb so : Nat) (ls : List SrcD) (p : V3) (E : Int) (c : World) : Prop :=
 Ext w c ∧ V6 c (w.heap.size + 1) p ∧ VB c (w.heap.size + 1 + 1) z18 ∧ Bad c P E ∧ SrC c sb so ls ∧ P < c.heap.size ∧ w.heap.size + 3 ≤ P ∧ (0 < ls.length → sb < P)
theorem ShI.ext {w c d : World} {P sb so : Nat} {ls : List SrcD} {p : V3} {E : Int} (h : ShI w P sb so ls p E c) (k : Ext c d) : ShI w P sb so ls p E d := by
 obtain ⟨h1, h2, h3, h4, h5, h6, h7, h8⟩ := h
 exact ⟨h1.trans k, h2.ext k, h3.ext k, h4.ext k h6, h5.ext k, Nat.lt_of_lt_of_le h6 k.size, h7, h8⟩
theorem ShI.xb {w c d : World} {P A sb so n : Nat} {ls : List SrcD} {p : V3} {E F : Int} (h : ShI w P sb so ls p E c) (k : Xb n P A c d) (hn : P < n) (hA : P ≤ A) (hb : Bad d P F) : ShI w P sb so ls p F d := by
 obtain ⟨h1, h2, h3, h4, h5, h6, h7, h8⟩ := h
 exact ⟨k.own h1 (by omega) (by omega) (by omega), k.v6 h2 (by omega) (by omega) (by omega), h3.xb k (by omega) (by omega) (by omega), hb, h5.xb k (fun q => by have := h8 q; omega) (fun q => by have := h8 q; omega) (fun q => by have := h8 q; omega), Nat.lt_of_lt_of_le h6 k.size, h7, h8⟩
theorem ShI.now {w c d : World} {P sb so : Nat} {ls : List SrcD} {p : V3} {E F : Int} (h : ShI w P sb so ls p E c) (k : Ext (c.setCell ⟨P, 0, none⟩ (.bool (nz F))) d) : ShI w P sb so ls p F d :=
 h.xb ((Xb.set (Xb.refl (P + 1) P P c) ⟨P, 0, none⟩ (.inl rfl) _).ext k (by have := h.2.2.2.2.2.1; omega)) (Nat.lt_succ_self _) (Nat.le_refl _) (h.2.2.2.1.now k h.2.2.2.2.2.1)
theorem ShI.set {w c : World} {P sb so D j : Nat} {ls : List SrcD} {p : V3} {E : Int} (h : ShI w P sb so ls p E c) (hD : P < D) (x : Value) : ShI w P sb so ls p E (c.setCell ⟨D, j, none⟩ x) :=
 h.xb (Xb.set (Xb.refl (P + 1) P D c) ⟨D, j, none⟩ (.inr (.inl rfl)) _) (Nat.lt_succ_self _) (Nat.le_of_lt hD) (h.2.2.2.1.other (Nat.ne_of_lt hD) x)
theorem ShI.row {w c d : World} {P sb so D : Nat} {ls : List SrcD} {p : V3} {E : Int} {vs : List Value} (h : ShI w P sb so ls p E c) (hD : P < D) (k : Row d c D vs) : ShI w P sb so ls p E d :=
 h.xb (Xb.row (n := P + 1) (p := P) k) (Nat.lt_succ_self _) (Nat.le_of_lt hD) ⟨(k.cells.1 P 0 (Nat.ne_of_lt hD)).trans h.2.2.2.1.1, (k.cells.2.1 _).trans h.2.2.2.1.2⟩
theorem ShI.bad {w c : World} {P sb so : Nat} {ls : List SrcD} {p : V3} {E : Int} (h : ShI w P sb so ls p E c) : Bad c P E := h.2.2.2.1
theorem ShI.lt {w c : World} {P sb so : Nat} {ls : List SrcD} {p : V3} {E : Int} (h : ShI w P sb so ls p E c) : P < c.heap.size := h.2.2.2.2.2.1
def mL (m : M3) : List Int := [m.r0.a, m.r0.b, m.r0.c, m.r0.d, m.r0.e, m.r0.f, m.r1.a, m.r1.b, m.r1.c, m.r1.d, m.r1.e, m.r1.f, m.r2.a, m.r2.b, m.r2.c, m.r2.d, m.r2.e, m.r2.f]
def mvs (m : M3) : Array Value := #[.int .i64 m.r0.a, .int .i64 m.r0.b, .int .i64 m.r0.c, .int .i64 m.r0.d, .int .i64 m.r0.e, .int .i64 m.r0.f, .int .i64 m.r1.a, .int .i64 m.r1.b, .int .i64 m.r1.c, .int .i64 m.r1.d, .int .i64 m.r1.e, .int .i64 m.r1.f, .int .i64 m.r2.a, .int .i64 m.r2.b, .int .i64 m.r2.c, .int .i64 m.r2.d, .int .i64 m.r2.e, .int .i64 m.r2.f]
theorem idx35_0 (v0 v1 v2 v3 v4 v5 v6 v7 v8 v9 v10 v11 v12 v13 v14 v15 v16 v17 : Value) (w : World) : (Instr.index 35 (.agg #[v0, v1, v2, v3, v4, v5, v6, v7, v8, v9, v10, v11, v12, v13, v14, v15, v16, v17]) (.int .i64 0)).run Tryz.prog w = .ok (.agg #[v0, v1, v2, v3, v4, v5]) w := by kernel_rfl
theorem idx35_1 (v0 v1 v2 v3 v4 v5 v6 v7 v8 v9 v10 v11 v12 v13 v14 v15 v16 v17 : Value) (w : World) : (Instr.index 35 (.agg #[v0, v1, v2, v3, v4, v5, v6, v7, v8, v9, v10, v11, v12, v13, v14, v15, v16, v17]) (.int .i64 1)).run Tryz.prog w = .ok (.agg #[v6, v7, v8, v9, v10, v11]) w := by kernel_rfl
theorem idx35_2 (v0 v1 v2 v3 v4 v5 v6 v7 v8 v9 v10 v11 v12 v13 v14 v15 v16 v17 : Value) (w : World) : (Instr.index 35 (.agg #[v0, v1, v2, v3, v4, v5, v6, v7, v8, v9, v10, v11, v12, v13, v14, v15, v16, v17]) (.int .i64 2)).run Tryz.prog w = .ok (.agg #[v12, v13, v14, v15, v16, v17]) w := by kernel_rfl
theorem idx27_0 (v0 v1 v2 v3 v4 v5 : Value) (w : World) : (Instr.index 27 (.agg #[v0, v1, v2, v3, v4, v5]) (.int .i64 0)).run Tryz.prog w = .ok (.agg #[v0, v1]) w := by kernel_rfl
theorem idx27_1 (v0 v1 v2 v3 v4 v5 : Value) (w : World) : (Instr.index 27 (.agg #[v0, v1, v2, v3, v4, v5]) (.int .i64 1)).run Tryz.prog w = .ok (.agg #[v2, v3]) w := by kernel_rfl
theorem idx27_2 (v0 v1 v2 v3 v4 v5 : Value) (w : World) : (Instr.index 27 (.agg #[v0, v1, v2, v3, v4, v5]) (.int .i64 2)).run Tryz.prog w = .ok (.agg #[v4, v5]) w := by kernel_rfl
end Go.Proofs.YtbkgakgdbmjmjaaGreat
