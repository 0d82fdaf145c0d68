/- force: the cells of sources. -/
import Derived.Test.YtbkgakgdbmjmjaaGreatP25
set_option linter.unusedSimpArgs false
set_option linter.unusedVariables false
set_option maxRecDepth 100000
set_option maxHeartbeats 4000000
namespace Go.Proofs.YtbkgakgdbmjmjaaGreat
open Go.RowKit
def SrC (w : World) (b o : Nat) (ls : List SrcD) : Prop := (0 < ls.length → b < w.heap.size) ∧ ∀ i, (hi : i < ls.length) → ∀ j, j < 8 → w.cell? ⟨b, o + i * 8 + j, none⟩ = (srV ls[i])[j]?
theorem SrC.ext {a w : World} {b o : Nat} {ls : List SrcD} (h : SrC a b o ls) (k : Ext a w) : SrC w b o ls :=
 ⟨fun q => Nat.lt_of_lt_of_le (h.1 q) k.size, fun i hi j hj => (k.cells.1 b _ (h.1 (by omega))).trans (h.2 i hi j hj)⟩
theorem SrC.xb {n p q b o : Nat} {A B : World} {ls : List SrcD} (h : SrC A b o ls) (k : Xb n p q A B) (hb : 0 < ls.length → b < n) (h1 : 0 < ls.length → b ≠ p) (h2 : 0 < ls.length → b ≠ q) : SrC B b o ls :=
 ⟨fun g => Nat.lt_of_lt_of_le (h.1 g) k.size, fun i hi j hj => (k.cell (hb (by omega)) (h1 (by omega)) (h2 (by omega))).trans (h.2 i hi j hj)⟩
def V8 (w : World) (g : Nat) (s : SrcD) : Prop := (∀ j, j < 8 → w.cell? ⟨g, j, none⟩ = (srV s)[j]?) ∧ g < w.heap.size
theorem V8.ext {a w : World} {g : Nat} {s : SrcD} (h : V8 a g s) (k : Ext a w) : V8 w g s := ⟨fun j hj => (k.cells.1 g j h.2).trans (h.1 j hj), Nat.lt_of_lt_of_le h.2 k.size⟩
theorem V8.xb {n p q g : Nat} {A B : World} {s : SrcD} (h : V8 A g s) (k : Xb n p q A B) (hb : g < n) (h1 : g ≠ p) (h2 : g ≠ q) : V8 B g s := ⟨fun j hj => (k.cell hb h1 h2).trans (h.1 j hj), Nat.lt_of_lt_of_le h.2 k.size⟩
theorem V8.other {w : World} {g B j : Nat} {s : SrcD} (h : V8 w g s) (hne : g ≠ B) (x : Value) : V8 (w.setCell ⟨B, j, none⟩ x) g s :=
 ⟨fun i hi => (by rw [cell_sc, if_neg (fun e => hne c_58)]; exact h.1 i hi), by simpa using h.2⟩
theorem V8.at {w : World} {g : Nat} {s : SrcD} (h : V8 w g s) : w.cell? ⟨g, 0, none⟩ = some (.int .i64 s.x) ∧ w.cell? ⟨g, 1, none⟩ = some (.int .i64 s.y) ∧ w.cell? ⟨g, 2, none⟩ = some (.int .i64 s.v.a) ∧ w.cell? ⟨g, 3, none⟩ = some (.int .i64 s.v.b) ∧ w.cell? ⟨g, 4, none⟩ = some (.int .i64 s.v.c) ∧ w.cell? ⟨g, 5, none⟩ = some (.int .i64 s.v.d) ∧ w.cell? ⟨g, 6, none⟩ = some (.int .i64 s.v.e) ∧ w.cell? ⟨g, 7, none⟩ = some (.int .i64 s.v.f) :=
 ⟨h.1 0 (by decide), h.1 1 (by decide), h.1 2 (by decide), h.1 3 (by decide), h.1 4 (by decide), h.1 5 (by decide), h.1 6 (by decide), h.1 7 (by decide)⟩
theorem V8.lit (w : World) (s : SrcD) (t : TypeId) : V8 (w.alloc (.cells #[.int .i64 s.x, .int .i64 s.y, .int .i64 s.v.a, .int .i64 s.v.b, .int .i64 s.v.c, .int .i64 s.v.d, .int .i64 s.v.e, .int .i64 s.v.f] t)) w.heap.size s := by
 refine ⟨fun j hj => ?_, by simp⟩
 rw [World.cell?_alloc_new]
 rw [show #[Value.int .i64 s.x, .int .i64 s.y, .int .i64 s.v.a, .int .i64 s.v.b, .int .i64 s.v.c, .int .i64 s.v.d, .int .i64 s.v.e, .int .i64 s.v.f] = (srV s).toArray from rfl]
 simp
theorem SrC.at {w : World} {b o i : Nat} {ls : List SrcD} (h : SrC w b o ls) (hi : i < ls.length) {s : SrcD} (hs : ls[i] = s) :
    w.cell? ⟨b, o + i * 8, none⟩ = some (.int .i64 s.x) ∧ w.cell? ⟨b, o + i * 8 + 1, none⟩ = some (.int .i64 s.y) ∧ w.cell? ⟨b, o + i * 8 + 2, none⟩ = some (.int .i64 s.v.a) ∧ w.cell? ⟨b, o + i * 8 + 3, none⟩ = some (.int .i64 s.v.b) ∧ w.cell? ⟨b, o + i * 8 + 4, none⟩ = some (.int .i64 s.v.c) ∧ w.cell? ⟨b, o + i * 8 + 5, none⟩ = some (.int .i64 s.v.d) ∧ w.cell? ⟨b, o + i * 8 + 6, none⟩ = some (.int .i64 s.v.e) ∧ w.cell? ⟨b, o + i * 8 + 7, none⟩ = some (.int .i64 s.v.f) := by
 subst hs
 exact ⟨h.2 i hi 0 (by decide), h.2 i hi 1 (by decide), h.2 i hi 2 (by decide), h.2 i hi 3 (by decide), h.2 i hi 4 (by decide), h.2 i hi 5 (by decide), h.2 i hi 6 (by decide), h.2 i hi 7 (by decide)⟩
def AcI (w : World) (P sb so : Nat) (ls : List SrcD) (p : V3) (E : Int) (c : World) : Prop :=
 Ext w c ∧ V6 c (w.heap.size + 1) p ∧ V6 c (w.heap.size + 2) V3.O ∧ Bad c P E ∧ SrC c sb so ls ∧ P < c.heap.size ∧ w.heap.size + 3 ≤ P ∧ (0 < ls.length → sb < P)
theorem Bad.ext {a b : World} {P : Nat} {E : Int} (h : Bad a P E) (k : Ext a b) (hP : P < a.heap.size) : Bad b P E := ⟨(k.cells.1 P 0 hP).trans h.1, (k.cells.2 P 0 hP).trans h.2⟩
theorem Bad.other {a : World} {P B j : Nat} {E : Int} (h : Bad a P E) (hne : P ≠ B) (x : Value) : Bad (a.setCell ⟨B, j, none⟩ x) P E :=
 ⟨by rw [cell_sc, if_neg (fun e => hne c_58)]; exact h.1, by rw [World.frozen?_setCell]; exact h.2⟩
theorem Bad.now {a b : World} {P : Nat} {E F : Int} (h : Bad a P E) (k : Ext (a.setCell ⟨P, 0, none⟩ (.bool (nz F))) b) (hP : P < a.heap.size) : Bad b P F :=
 ⟨(k.cells.1 P 0 (by simpa using hP)).trans (by rw [cell_sc, if_pos rfl, h.1]; rfl), (k.cells.2 P 0 (by simpa using hP)).trans (by rw [World.frozen?_setCell]; exact h.2)⟩
theorem AcI.ext {w c d : World} {P sb so : Nat} {ls : List SrcD} {p : V3} {E : Int} (h : AcI w P sb so ls p E c) (k : Ext c d) : AcI w P sb so ls p E d := by
 obtain ⟨h1, h2, h3, h4, h5, h6, h7, h8⟩ := h
 exact ⟨h1.trans k, h2.ext k, h3.ext k, h4.ext k h6, h5.ext k, Nat.lt_of_lt_of_le h6 k.size, h7, h8⟩
theorem AcI.xb {w c d : World} {P A sb so n : Nat} {ls : List SrcD} {p : V3} {E F : Int} (h : AcI w P sb so ls p E c) (k : Xb n P A c d) (hn : P < n) (hA : P ≤ A) (hb : Bad d P F) : AcI w P sb so ls p F d := by
 obtain ⟨h1, h2, h3, h4, h5, h6, h7, h8⟩ := h
 exact ⟨k.own h1 (by omega) (by omega) (by omega), k.v6 h2 (by omega) (by omega) (by omega), k.v6 h3 (by omega) (by omega) (by omega), hb, h5.xb k (fun q => by have := h8 q; omega) (fun q => by have := h8 q; omega) (fun q => by have := h8 q; omega), Nat.lt_of_lt_of_le h6 k.size, h7, h8⟩
theorem AcI.now {w c d : World} {P sb so : Nat} {ls : List SrcD} {p : V3} {E F : Int} (h : AcI w P sb so ls p E c) (k : Ext (c.setCell ⟨P, 0, none⟩ (.bool (nz F))) d) : AcI w P sb so ls p F d :=
 h.xb ((Xb.set (Xb.refl (P + 1) P P c) ⟨P, 0, none⟩ (.inl rfl) _).ext k (by have := h.2.2.2.2.2.1; omega)) (Nat.lt_succ_self _) (Nat.le_refl _) (h.2.2.2.1.now k h.2.2.2.2.2.1)
theorem AcI.set {w c : World} {P sb so D j : Nat} {ls : List SrcD} {p : V3} {E : Int} (h : AcI w P sb so ls p E c) (hD : P < D) (x : Value) : AcI w P sb so ls p E (c.setCell ⟨D, j, none⟩ x) :=
 h.xb (Xb.set (Xb.refl (P + 1) P D c) ⟨D, j, none⟩ (.inr (.inl rfl)) _) (Nat.lt_succ_self _) (Nat.le_of_lt hD) (h.2.2.2.1.other (Nat.ne_of_lt hD) x)
theorem AcI.store {w c : World} {P sb so D : Nat} {ls : List SrcD} {p : V3} {E : Int} (h : AcI w P sb so ls p E c) (hD : P < D) (v : V3) : AcI w P sb so ls p E ((((((c.setCell ⟨D, 0, none⟩ (.int .i64 v.a)).setCell ⟨D, 1, none⟩ (.int .i64 v.b)).setCell ⟨D, 2, none⟩ (.int .i64 v.c)).setCell ⟨D, 3, none⟩ (.int .i64 v.d)).setCell ⟨D, 4, none⟩ (.int .i64 v.e)).setCell ⟨D, 5, none⟩ (.int .i64 v.f)) :=
 (((((h.set hD _).set hD _).set hD _).set hD _).set hD _).set hD _
theorem acN_take (p : V3) (ls : List SrcD) (A : V7) (k : Nat) (h : k < ls.length) : acN p (ls.take (k + 1)) A = acS p ls[k] (acN p (ls.take k) A) := by
 induction ls generalizing A k with
 | nil => exact absurd h (by simp)
 | cons s l ih =>
  cases k with
  | zero => simp [acN]
  | succ k => simp only [List.take_succ_cons, acN, List.getElem_cons_succ]; exact ih _ _ (by simpa using h)
theorem V8.of {w : World} {g : Nat} {s : SrcD} (h : w.cell? ⟨g, 0, none⟩ = some (.int .i64 s.x) ∧ w.cell? ⟨g, 1, none⟩ = some (.int .i64 s.y) ∧ w.cell? ⟨g, 2, none⟩ = some (.int .i64 s.v.a) ∧ w.cell? ⟨g, 3, none⟩ = some (.int .i64 s.v.b) ∧ w.cell? ⟨g, 4, none⟩ = some (.int .i64 s.v.c) ∧ w.cell? ⟨g, 5, none⟩ = some (.int .i64 s.v.d) ∧ w.cell? ⟨g, 6, none⟩ = some (.int .i64 s.v.e) ∧ w.cell? ⟨g, 7, none⟩ = some (.int .i64 s.v.f)) : V8 w g s := by
 obtain ⟨h0, h1, h2, h3, h4, h5, h6, h7⟩ := h
 refine ⟨fun j hj => ?_, World.block_lt_of_cell? w _ h0⟩
 match j, hj with
 | 0, _ => exact h0
 | 1, _ => exact h1
 | 2, _ => exact h2
 | 3, _ => exact h3
 | 4, _ => exact h4
 | 5, _ => exact h5
 | 6, _ => exact h6
 | 7, _ => exact h7
theorem f_err (P : Nat) (w : World) (hc : w.cell? ⟨P, 0, none⟩ = some (.bool true)) :
    Calls Tryz.prog 50 #[.pointer (some ⟨P, 0, none⟩)] w fun e w' => e = .returned (.int .i64 24) ∧ Ext w w' := by
 go_enter Tryz.func50, Tryz.ntmps50
 go_wp2_with fail
 refine bodyPost_ret (v := .int .i64 24) ?_ rfl ⟨rfl, ?_⟩
 ·simp [results, Tryz.results50, go_sem, ↓IntWalk.iteOmega, *]
 ·exact b_6
theorem Ext.rg {a b : World} {q o : Nat} {vs : List Value} (h : Ext a b) (hq : q < a.heap.size) (k : a.rangeAt q o vs) : b.rangeAt q o vs := fun j v hv => (h.cells.1 q (o + j) hq).trans (k j v hv)
theorem tyU28 : Tryz.prog.underlying 28 = some (.array 3 26) := by kernel_rfl
theorem tyI28 : (Tryz.prog.info? 28).map (·.size) = some 6 := by kernel_rfl
def Fresh (w : World) (b : Nat) (vs : List Value) : Prop := w.rangeAt b 0 vs ∧ (∀ q, w.frozen? ⟨b, q, none⟩ = false) ∧ b < w.heap.size
theorem Fresh.there {w : World} {b : Nat} {vs : List Value} (h : Fresh w b vs) : w.there b 0 vs.length := there_range h.1 h.2.1 _ rfl
theorem Fresh.ext {a w : World} {b : Nat} {vs : List Value} (h : Fresh a b vs) (k : Ext a w) : Fresh w b vs := ⟨Ext.rg k h.2.2 h.1, fun q => (k.cells.2 b q h.2.2).trans (h.2.1 q), Nat.lt_of_lt_of_le h.2.2 k.size⟩
theorem Fresh.row {W w : World} {b : Nat} {vs us : List Value} (h : Fresh w b vs) (k : Row W w b us) : Fresh W b us := ⟨k.range, fun q => (k.cells.2.1 _).trans (h.2.1 q), by have := k.cells.2.2; have := h.2.2; omega⟩
theorem wp_store_row {P : Program} {op : Oper} {a : Act} {w : World} {K : Act → World → Prop} {Q : Exit → Act → World → Prop} (ty : TypeId) (x y : Operand) (ho : op.op = .store ty x y)
    (b : Nat) (cells : Array Value) (hx : a.eval x = .pointer (some ⟨b, 0, none⟩)) (hy : a.eval y = .agg cells)
    (ht : w.there b 0 cells.size) (hi : (P.info? ty).map (·.size) = some cells.size) (h1 : cells.all (·.oneCell') = true)
    (h : ∀ W, Row W w b cells.toList → K (a.put op.dst undef) W) : op.wp P a w K Q :=
  wp_store_mid ty x y ho b 0 cells hx hy ht hi h1 (h _ ⟨rfl, by simpa using ht⟩)
def VB (w : World) (g : Nat) (l : List Int) : Prop := (∀ j x, l[j]? = some x → w.cell? ⟨g, j, none⟩ = some (.int .i64 x)) ∧ (∀ o, w.frozen? ⟨g, o, none⟩ = false) ∧ g < w.heap.size
theorem VB.ext {a w : World} {g : Nat} {l : List Int} (h : VB a g l) (k : Ext a w) : VB w g l := ⟨fun j x hj => (k.cells.1 g j h.2.2).trans (h.1 j x hj), fun o => (k.cells.2 g o h.2.2).trans (h.2.1 o), Nat.lt_of_lt_of_le h.2.2 k.size⟩
theorem VB.xb {n p q g : Nat} {A B : World} {l : List Int} (h : VB A g l) (k : Xb n p q A B) (hb : g < n) (h1 : g ≠ p) (h2 : g ≠ q) : VB B g l := ⟨fun j x hj => (k.cell hb h1 h2).trans (h.1 j x hj), fun o => (k.frozen hb h1 h2).trans (h.2.1 o), Nat.lt_of_lt_of_le h.2.2 k.size⟩
theorem VB.other {w : World} {g B j : Nat} {l : List Int} (h : VB w g l) (hne : g ≠ B) (x : Value) : VB (w.setCell ⟨B, j, none⟩ x) g l :=
 ⟨fun i y hi => (by rw [cell_sc, if_neg (fun e => hne c_58)]; exact h.1 i y hi), fun o => by rw [World.frozen?_setCell]; exact h.2.1 o, by simpa using h.2.2⟩
theorem VB.set {w : World} {g : Nat} {l : List Int} (h : VB w g l) (j : Nat) (x : Int) (hj : j < l.length) : VB (w.setCell ⟨g, j, none⟩ (.int .i64 x)) g (l.set j x) := by
 refine ⟨fun i y hi => ?_, fun o => by rw [World.frozen?_setCell]; exact h.2.1 o, by simpa using h.2.2⟩
 rw [cell_sc]
 by_cases e : i = j
 ·subst e
  rw [List.getElem?_set_self hj] at hi
  cases hi
  have hc := h.1 i _ (List.getElem?_eq_getElem hj)
  rw [if_pos rfl, hc]
  rfl
 ·rw [if_neg (fun c => e (by have := congrArg Addr.off c; simpa using this))]
  rw [List.getElem?_set_ne (fun c => e c.symm)] at hi
  exact h.1 i y hi
theorem VB.lit (w : World) (l : List Int) (t : TypeId) : VB (w.alloc (.cells (l.map (Value.int .i64)).toArray t)) w.heap.size l := by
 refine ⟨fun j x hj => ?_, fun o => by simp [go_sem], by simp⟩
 rw [World.cell?_alloc_new]
 simp [hj]
def SRw (A T : Nat) (l : List Int) (x y : Int) (w : World) : Prop := VB w A l ∧ w.cell? ⟨T, 0, none⟩ = some (.int .i64 x) ∧ w.cell? ⟨T, 1, none⟩ = some (.int .i64 y)
theorem SRw.mk {A T : Nat} {l : List Int} {x y : Int} {w : World} (h : VB w A l) (h0 : w.cell? ⟨T, 0, none⟩ = some (.int .i64 x)) (h1 : w.cell? ⟨T, 1, none⟩ = some (.int .i64 y)) : SRw A T l x y w := ⟨h, h0, h1⟩
def z18 : List Int := [0, 0, 0, 0, 0, 0, 0, 0, 0, 0, 0, 0, 0, 0, 0, 0, 0, 0]
theorem VB.range {w : World} {g : Nat} {l : List Int} (h : VB w g l) : w.rangeAt g 0 (l.map (Value.int .i64)) := fun j v hj => by
 rw [List.getElem?_map] at hj
 cases hl : l[j]? with
 | none => rw [hl] at hj; cases hj
 | some x => rw [hl] at hj; cases hj; rw [Nat.zero_add]; exact h.1 j x hl
theorem VB.there {w : World} {g : Nat} {l : List Int} (h : VB w g l) (n : Nat) (hn : n = l.length) : w.there g 0 n := there_range h.range h.2.1 n (by simpa using hn)
theorem VB.row {w W : World} {g : Nat} {l m : List Int} (h : VB w g l) (k : Row W w g (m.map (Value.int .i64))) : VB W g m :=
 ⟨fun j x hj => by have := k.range j (.int .i64 x) (by simp [hj]); rwa [Nat.zero_add] at this, fun o => (k.cells.2.1 _).trans (h.2.1 o), by have := k.cells.2.2; have := h.2.2; omega⟩
theorem Xb.rows {n p q : Nat} {a : World} : ∀ (vs : List Value) (o : Nat) (w : World), Xb n p q a w → Xb n p q a (w.setCells q o vs)
 | [], _, _, h => h
 | v :: r, o, w, h => Xb.rows r (o + 1) _ (h.set ⟨q, o, none⟩ (.inr (.inl rfl)) v)
theorem Xb.row {n p q : Nat} {w W : World} {vs : List Value} (k : Row W w q vs) : Xb n p q w W := by
 obtain ⟨rfl, -⟩ := k
 exact Xb.rows vs 0 w (Xb.refl n p q w)
def ShI (w : World) (P sb so : Nat) (ls : List SrcD) (p : V3) (E : Int) (c : World) : Prop :=
 Ext w c ∧ V6 c (w.heap.size + 1) p ∧ VB c (w.heap.size + 1 + 1) z18 ∧ Bad c P E ∧ SrC c sb so ls ∧ P < c.heap.size ∧ w.heap.size + 3 ≤ P ∧ (0 < ls.length → sb < P)
theorem ShI.ext {w c d : World} {P sb so : Nat} {ls : List SrcD} {p : V3} {E : Int} (h : ShI w P sb so ls p E c) (k : Ext c d) : ShI w P sb so ls p E d := by
 obtain ⟨h1, h2, h3, h4, h5, h6, h7, h8⟩ := h
 exact ⟨h1.trans k, h2.ext k, h3.ext k, h4.ext k h6, h5.ext k, Nat.lt_of_lt_of_le h6 k.size, h7, h8⟩
theorem ShI.xb {w c d : World} {P A sb so n : Nat} {ls : List SrcD} {p : V3} {E F : Int} (h : ShI w P sb so ls p E c) (k : Xb n P A c d) (hn : P < n) (hA : P ≤ A) (hb : Bad d P F) : ShI w P sb so ls p F d := by
 obtain ⟨h1, h2, h3, h4, h5, h6, h7, h8⟩ := h
 exact ⟨k.own h1 (by omega) (by omega) (by omega), k.v6 h2 (by omega) (by omega) (by omega), h3.xb k (by omega) (by omega) (by omega), hb, h5.xb k (fun q => by have := h8 q; omega) (fun q => by have := h8 q; omega) (fun q => by have := h8 q; omega), Nat.lt_of_lt_of_le h6 k.size, h7, h8⟩
theorem ShI.now {w c d : World} {P sb so : Nat} {ls : List SrcD} {p : V3} {E F : Int} (h : ShI w P sb so ls p E c) (k : Ext (c.setCell ⟨P, 0, none⟩ (.bool (nz F))) d) : ShI w P sb so ls p F d :=
 h.xb ((Xb.set (Xb.refl (P + 1) P P c) ⟨P, 0, none⟩ (.inl rfl) _).ext k (by have := h.2.2.2.2.2.1; omega)) (Nat.lt_succ_self _) (Nat.le_refl _) (h.2.2.2.1.now k h.2.2.2.2.2.1)
theorem ShI.set {w c : World} {P sb so D j : Nat} {ls : List SrcD} {p : V3} {E : Int} (h : ShI w P sb so ls p E c) (hD : P < D) (x : Value) : ShI w P sb so ls p E (c.setCell ⟨D, j, none⟩ x) :=
 h.xb (Xb.set (Xb.refl (P + 1) P D c) ⟨D, j, none⟩ (.inr (.inl rfl)) _) (Nat.lt_succ_self _) (Nat.le_of_lt hD) (h.2.2.2.1.other (Nat.ne_of_lt hD) x)
theorem ShI.row {w c d : World} {P sb so D : Nat} {ls : List SrcD} {p : V3} {E : Int} {vs : List Value} (h : ShI w P sb so ls p E c) (hD : P < D) (k : Row d c D vs) : ShI w P sb so ls p E d :=
 h.xb (Xb.row (n := P + 1) (p := P) k) (Nat.lt_succ_self _) (Nat.le_of_lt hD) ⟨(k.cells.1 P 0 (Nat.ne_of_lt hD)).trans h.2.2.2.1.1, (k.cells.2.1 _).trans h.2.2.2.1.2⟩
theorem ShI.bad {w c : World} {P sb so : Nat} {ls : List SrcD} {p : V3} {E : Int} (h : ShI w P sb so ls p E c) : Bad c P E := h.2.2.2.1
theorem ShI.lt {w c : World} {P sb so : Nat} {ls : List SrcD} {p : V3} {E : Int} (h : ShI w P sb so ls p E c) : P < c.heap.size := h.2.2.2.2.2.1
def mL (m : M3) : List Int := [m.r0.a, m.r0.b, m.r0.c, m.r0.d, m.r0.e, m.r0.f, m.r1.a, m.r1.b, m.r1.c, m.r1.d, m.r1.e, m.r1.f, m.r2.a, m.r2.b, m.r2.c, m.r2.d, m.r2.e, m.r2.f]
def mvs (m : M3) : Array Value := #[.int .i64 m.r0.a, .int .i64 m.r0.b, .int .i64 m.r0.c, .int .i64 m.r0.d, .int .i64 m.r0.e, .int .i64 m.r0.f, .int .i64 m.r1.a, .int .i64 m.r1.b, .int .i64 m.r1.c, .int .i64 m.r1.d, .int .i64 m.r1.e, .int .i64 m.r1.f, .int .i64 m.r2.a, .int .i64 m.r2.b, .int .i64 m.r2.c, .int .i64 m.r2.d, .int .i64 m.r2.e, .int .i64 m.r2.f]
def goR (a b : V3) (x y : Int) : V7 := if (scaV b x y).e ≠ 0 then ⟨V3.O, 1⟩ else eachV addI a (scaV b x y).v
theorem goR_bad {a b : V3} {x y : Int} (h : ¬ (scaV b x y).e = 0) : goR a b x y = ⟨V3.O, 1⟩ := by unfold goR; rw [if_pos h]
theorem goR_ok {a b : V3} {x y : Int} (h : (scaV b x y).e = 0) : goR a b x y = eachV addI a (scaV b x y).v := by unfold goR; rw [if_neg (by omega)]
theorem fl_goes (a b : V3) (x y : Int) (w : World) (kb : b.I) (hx : I64 x ∧ I64 y) :
    Calls Tryz.prog 69 #[.agg #[.int .i64 a.a, .int .i64 a.b, .int .i64 a.c, .int .i64 a.d, .int .i64 a.e, .int .i64 a.f], .agg #[.int .i64 b.a, .int .i64 b.b, .int .i64 b.c, .int .i64 b.d, .int .i64 b.e, .int .i64 b.f], .agg #[.int .i64 x, .int .i64 y]] w fun e w' => e = .returned (.tuple #[.agg #[.int .i64 ((goR a b x y).v).a, .int .i64 ((goR a b x y).v).b, .int .i64 ((goR a b x y).v).c, .int .i64 ((goR a b x y).v).d, .int .i64 ((goR a b x y).v).e, .int .i64 ((goR a b x y).v).f], .bool (decide ((goR a b x y).e = 0))]) ∧ Ext w w' := by
 have hk1 := fun w1 => p_sca b x y w1 kb hx
 have hk2 := fun w1 => p_add a (scaV b x y).v w1
 by_cases h0 : (scaV b x y).e = 0
 ·rw [goR_ok h0]
  generalize scaV b x y = M at *
  generalize eachV addI a M.v = S at *
  by_cases h1 : S.e = 0
  ·rw [decide_eq_true h1]
   go_enter Tryz.func69, Tryz.ntmps69
   go_wp2_with (first | (go_at_call 115; (with_reducible refine (hk1 _).mono ?_); rintro e w1 ⟨rfl, hb1⟩; obtain ⟨_, _, ⟨hc1, hf1⟩, hz1⟩ := hb1.c3; (try simp only [wsz] at hz1 hc1 hf1)) | (go_at_call 116; (with_reducible refine (hk2 _).mono ?_); rintro e w2 ⟨rfl, hb2⟩; obtain ⟨_, _, ⟨hc2, hf2⟩, hz2⟩ := hb2.c3; (try simp only [wsz] at hz2 hc2 hf2)))
   refine bodyPost_ret (v := .tuple #[.agg #[.int .i64 S.v.a, .int .i64 S.v.b, .int .i64 S.v.c, .int .i64 S.v.d, .int .i64 S.v.e, .int .i64 S.v.f], .bool true]) ?_ rfl ⟨rfl, ?_⟩
   ·(try simp only [bn_, bm_] at *)
    simp [results, Tryz.results69, go_sem, ↓IntWalk.iteOmega, go_sem, *]
   ·exact b_6
  ·rw [decide_eq_false h1]
   go_enter Tryz.func69, Tryz.ntmps69
   go_wp2_with (first | (go_at_call 115; (with_reducible refine (hk1 _).mono ?_); rintro e w1 ⟨rfl, hb1⟩; obtain ⟨_, _, ⟨hc1, hf1⟩, hz1⟩ := hb1.c3; (try simp only [wsz] at hz1 hc1 hf1)) | (go_at_call 116; (with_reducible refine (hk2 _).mono ?_); rintro e w2 ⟨rfl, hb2⟩; obtain ⟨_, _, ⟨hc2, hf2⟩, hz2⟩ := hb2.c3; (try simp only [wsz] at hz2 hc2 hf2)))
   refine bodyPost_ret (v := .tuple #[.agg #[.int .i64 S.v.a, .int .i64 S.v.b, .int .i64 S.v.c, .int .i64 S.v.d, .int .i64 S.v.e, .int .i64 S.v.f], .bool false]) ?_ rfl ⟨rfl, ?_⟩
   ·(try simp only [bn_, bm_] at *)
    simp [results, Tryz.results69, go_sem, ↓IntWalk.iteOmega, go_sem, *]
   ·exact b_6
 ·rw [goR_bad h0, decide_eq_false (by decide)]
  generalize scaV b x y = M at *
  go_enter Tryz.func69, Tryz.ntmps69
  go_wp2_with (first | (go_at_call 115; (with_reducible refine (hk1 _).mono ?_); rintro e w1 ⟨rfl, hb1⟩; obtain ⟨_, _, ⟨hc1, hf1⟩, hz1⟩ := hb1.c3; (try simp only [wsz] at hz1 hc1 hf1)) | (go_at_call 116; (with_reducible refine (hk2 _).mono ?_); rintro e w2 ⟨rfl, hb2⟩; obtain ⟨_, _, ⟨hc2, hf2⟩, hz2⟩ := hb2.c3; (try simp only [wsz] at hz2 hc2 hf2)))
  refine bodyPost_ret (v := .tuple #[.agg #[.int .i64 V3.O.a, .int .i64 V3.O.b, .int .i64 V3.O.c, .int .i64 V3.O.d, .int .i64 V3.O.e, .int .i64 V3.O.f], .bool false]) ?_ rfl ⟨rfl, ?_⟩
  ·(try simp only [bn_, bm_] at *)
   simp [results, Tryz.results69, go_sem, ↓IntWalk.iteOmega, V3.O, *]
  ·exact b_6
def paX (fr ti : Int) : Rat := mkRat (ti - fr) 86400000000
theorem pace_fl {n : Int} {d : Nat} (hd : 0 < d) {a b : Int} (h1 : a * d ≤ n) (h2 : n < (b + 1) * d) : a ≤ (mkRat n d).num / ((mkRat n d).den : Int) ∧ (mkRat n d).num / ((mkRat n d).den : Int) ≤ b := by
 obtain ⟨e1, e2⟩ := mk_parts n hd
 have hg : 0 < Nat.gcd n.natAbs d := Nat.gcd_pos_of_pos_right _ hd
 obtain ⟨g, hge⟩ : ∃ g, Nat.gcd n.natAbs d = g := ⟨_, rfl⟩
 rw [hge] at e1 e2 hg
 have d1 : (g : Int) ∣ n := Int.natAbs_dvd_natAbs.1 (by simpa [hge] using Nat.gcd_dvd_left n.natAbs d)
 have d2 : g ∣ d := by simpa [hge] using Nat.gcd_dvd_right n.natAbs d
 obtain ⟨p, rfl⟩ := d1
 obtain ⟨q, rfl⟩ := d2
 rw [Int.mul_ediv_cancel_left _ (by omega)] at e1
 rw [Nat.mul_div_cancel_left _ hg] at e2
 rw [e1, e2]
 have hq : (0 : Int) < q := by rcases Nat.eq_zero_or_pos q with e | e <;> simp_all
 have hgi : (0 : Int) < g := by omega
 refine ⟨(Int.le_ediv_iff_mul_le hq).2 ?_, ?_⟩
 ·refine Int.le_of_mul_le_mul_left ?_ hgi
  have e : a * ((g * q : Nat) : Int) = (g : Int) * (a * q) := by push_cast; grind
  rw [e] at h1; exact h1
 ·have : p < (b + 1) * q := by
   refine Int.lt_of_mul_lt_mul_left (a := (g : Int)) ?_ (by omega)
   have e : (b + 1) * ((g * q : Nat) : Int) = (g : Int) * ((b + 1) * q) := by push_cast; grind
   rw [e] at h2; exact h2
  have := (Int.ediv_lt_iff_lt_mul hq).2 this
  omega
theorem fl_pace (fr ti : Int) (w : World) (h1 : fr < ti) (h2 : -5000000000000000 ≤ fr) (h3 : ti ≤ 5000000000000000) :
    Calls Tryz.prog 68 #[.int .i64 fr, .int .i64 ti] w fun e w' => e = .returned (.tuple #[.agg #[.int .i64 (ofLo (paX fr ti)), .int .i64 (ofHi (paX fr ti))], .agg #[.int .i64 0, .int .i64 (ofHi (paX fr ti))]]) ∧ Ext w w' := by
 have hd2 : wrap64 (ti - fr) = ti - fr := w64_in (by omega)
 have hk1 : ∀ w1, Calls Tryz.prog 93 #[.int .i64 (ti - fr), .int .i64 86400000000] w1 fun e w' => ∃ u, e = .returned (.tuple #[u, .int .i64 0]) ∧ Fr w' u (paX fr ti) ∧ Ext w1 w' := fun w1 => z_Of (ti - fr) 86400000000 w1 (by omega) (by omega) (by decide) (by decide)
 have hfb : Fb (paX fr ti) 60 := fb_mk (by decide) (by omega) (by decide)
 have hfl : 0 ≤ (paX fr ti).num / ((paX fr ti).den : Int) ∧ (paX fr ti).num / ((paX fr ti).den : Int) ≤ 200000 := pace_fl (n := ti - fr) (d := 86400000000) (by decide) (a := 0) (b := 200000) (by omega) (by omega)
 have hk2 := fun w1 v (hv : Fr w1 v (paX fr ti)) => z_SOf v _ 60 w1 hv hfb (by omega) (by omega) (by omega)
 clear hfb hfl
 generalize paX fr ti = X at *
 go_enter Tryz.func68, Tryz.ntmps68
 go_wp2_with (first
  | (go_at_call 93; (with_reducible refine (hk1 _).mono ?_); rintro e w4 ⟨y4, rfl, hn4, hb4⟩; obtain ⟨s8, ao8, l8, cap8, bo8, l9, cap9, rfl⟩ := hn4.shape; obtain ⟨_, _, ⟨hc4, hf4⟩, hz4⟩ := hb4.c3; (try simp only [wsz] at hz4 hc4 hf4))
  | (go_at_call 94; (with_reducible refine (hk2 _ _ (hn4.ext ex_)).mono ?_); rintro e w6 ⟨rfl, hb6⟩; obtain ⟨_, _, ⟨hc6, hf6⟩, hz6⟩ := hb6.c3; (try simp only [wsz] at hz6 hc6 hf6)))
 refine bodyPost_ret (v := .tuple #[.agg #[.int .i64 (ofLo X), .int .i64 (ofHi X)], .agg #[.int .i64 0, .int .i64 (ofHi X)]]) ?_ rfl ⟨rfl, ?_⟩
 ·(try simp only [bn_, bm_] at *)
  simp [results, Tryz.results68, go_sem, ↓IntWalk.iteOmega, go_sem, *]
 ·exact b_6
theorem T_FLC_1 {p : Prop} (h : p := by
 refine bodyPost_ret ?_ rfl ⟨rfl, ?_⟩
 ·(try simp only [bn_, bm_] at *)
  simp [results, Tryz.results67, go_sem, ↓IntWalk.iteOmega, *]
 ·repeat (first | with_reducible exact Ext.refl _ | with_reducible assumption | with_reducible refine Ext.alloc ?_ _ | with_reducible refine Ext.setCell ?_ c_19 _ | with_reducible refine Ext.drewN ?_ _ | with_reducible refine Ext.drew ?_ | with_reducible refine Ext.trans ?_ c_9)) : p := h
def vs6 (v : V3) : List Value := [.int .i64 v.a, .int .i64 v.b, .int .i64 v.c, .int .i64 v.d, .int .i64 v.e, .int .i64 v.f]
def Vs (w : World) (v : Value) (l : List V3) : Prop :=
 ∃ b o cap, v = .slice (some ⟨b, o, none⟩) l.length cap ∧ l.length ≤ 200 ∧ b < w.heap.size ∧ ∀ i, i < l.length → w.cell? ⟨b, o + i * 6, none⟩ = some (.int .i64 (l.getD i V3.O).a) ∧ w.cell? ⟨b, o + i * 6 + 1, none⟩ = some (.int .i64 (l.getD i V3.O).b) ∧ w.cell? ⟨b, o + i * 6 + 2, none⟩ = some (.int .i64 (l.getD i V3.O).c) ∧ w.cell? ⟨b, o + i * 6 + 3, none⟩ = some (.int .i64 (l.getD i V3.O).d) ∧ w.cell? ⟨b, o + i * 6 + 4, none⟩ = some (.int .i64 (l.getD i V3.O).e) ∧ w.cell? ⟨b, o + i * 6 + 5, none⟩ = some (.int .i64 (l.getD i V3.O).f)
def ckL : List V3 → Int
 | [] => 0
 | v :: r => if ckV v ≠ 0 then ckV v else ckL r
def ckF (E : Int) (l : List V3) (fr ti : Int) : Int := if E ≠ 0 then E else if ckL l ≠ 0 then ckL l else if ti ≤ fr then 2 else if fr < -5000000000000000 ∨ 5000000000000000 < ti then 16 else 0
theorem ckL_at : ∀ (l : List V3) (k : Nat), (∀ j, j < k → ckV (l.getD j V3.O) = 0) → k < l.length → ckV (l.getD k V3.O) ≠ 0 → ckL l = ckV (l.getD k V3.O)
 | [], k, _, h, _ => absurd h (by simp)
 | v :: r, 0, _, _, h => by simp [ckL] at h ⊢; intro e; exact absurd e h
 | v :: r, k + 1, h1, h2, h3 => by
  have h0 := h1 0 (by omega)
  simp only [List.getD_cons_zero] at h0
  simp only [ckL, List.getD_cons_succ] at h3 ⊢
  rw [if_neg (by omega)]
  exact ckL_at r k (fun j hj => by have := h1 (j + 1) (by omega); simpa using this) (by simpa using h2) h3
theorem ckL_ok : ∀ (l : List V3), (∀ j, j < l.length → ckV (l.getD j V3.O) = 0) → ckL l = 0
 | [], _ => rfl
 | v :: r, h => by
  have h0 := h 0 (by simp)
  simp only [List.getD_cons_zero] at h0
  simp only [ckL]
  rw [if_neg (by omega)]
  exact ckL_ok r (fun j hj => by have := h (j + 1) (by simpa using hj); simpa using this)
theorem fl_check (E : Int) (ao : Option Addr) (n cap : Nat) (v : Value) (l : List V3) (fr ti : Int) (w : World) (hl : Vs w v l)
    (hC : ∀ w1, Ext w w1 → Calls Tryz.prog 85 #[.agg #[.slice ao n cap]] w1 fun e w' => e = .returned (.int .i64 E) ∧ Ext w1 w') :
    Calls Tryz.prog 67 #[.agg #[.slice ao n cap], .int .i64 fr, .int .i64 ti, v] w fun e w' => e = .returned (.int .i64 (ckF E l fr ti)) ∧ Ext w w' := by
 obtain ⟨b, o, cap2, rfl, hn, hb, hcl⟩ := hl
 obtain ⟨R, eR⟩ : ∃ R, ckF E l fr ti = R := ⟨_, rfl⟩
 rw [eR]
 unfold ckF at eR
 by_cases hE : E = 0
 ·rw [if_neg (by omega)] at eR
  subst hE
  go_enter Tryz.func67, Tryz.ntmps67
  go_upto_region 5 with (go_at_call 85; (with_reducible refine (hC _ ex_).mono ?_); rintro e w1 ⟨rfl, hb1⟩; obtain ⟨_, _, ⟨hc1, hf1⟩, hz1⟩ := hb1.c3; (try simp only [wsz] at hz1 hc1 hf1))
  go_loopw [20] (fun i wr => ∃ k : Nat, k ≤ l.length ∧ i = .int .i64 k ∧ Ext w wr ∧ Hid (∀ j, j < k → ckV (l.getD j V3.O) = 0)) (fun i _ => l.length - (intOf i).toNat)
  case atStart => exact ⟨0, by omega, rfl, ex_, Lib.hid (fun j hj => absurd hj (by omega))⟩
  case round =>
   obtain ⟨k, hk, rfl, hb2, hq⟩ := hrel
   clear hc1 hf1 hz1 hb1 hC
   obtain ⟨_, _, ⟨hc2, hf2⟩, hz2⟩ := hb2.c3; (try simp only [wsz] at hz2 hc2 hf2)
   rcases Nat.eq_or_lt_of_le hk with rfl | hk2
   ·rw [ckL_ok l hq.out] at eR
    simp only [ne_eq, not_true_eq_false, if_false] at eR
    by_cases h1 : ti ≤ fr
    ·rw [if_pos h1] at eR
     subst eR
     go_wp2_with fail
     exact T_FLC_1
    ·rw [if_neg h1] at eR
     by_cases h2 : fr < -5000000000000000
     ·rw [if_pos (Or.inl h2)] at eR
      subst eR
      go_wp2_with fail
      exact T_FLC_1
     ·by_cases h3 : 5000000000000000 < ti
      ·rw [if_pos (Or.inr h3)] at eR
       subst eR
       go_wp2_with fail
       exact T_FLC_1
      ·rw [if_neg (by omega)] at eR
       subst eR
       go_wp2_with fail
       exact T_FLC_1
   ·obtain ⟨g0, g1, g2, g3, g4, g5⟩ := hcl k hk2
    have hv := ckL_at l k hq.out hk2
    have hn : ckV (l.getD k V3.O) = 0 → ∀ j, j < k + 1 → ckV (l.getD j V3.O) = 0 := fun h j hj => by
     rcases Nat.lt_or_ge j k with e | e
     ·exact hq.out j e
     ·have : j = k := by omega
      subst this; exact h
    have hk1 := fun w1 => s_check (l.getD k V3.O) w1
    clear hcl
    obtain ⟨x, hx⟩ : ∃ x, l.getD k V3.O = x := ⟨_, rfl⟩
    rw [hx] at hk1 hv hn g0 g1 g2 g3 g4 g5
    obtain ⟨y, hy⟩ : ∃ y, ckV x = y := ⟨_, rfl⟩
    rw [hy] at hk1 hv hn
    clear hx hy
    by_cases h0 : y = 0
    ·have hq2 := Lib.hid (hn h0)
     subst h0
     clear hv hn hq eR
     go_wp2_with (go_at_call 77; (with_reducible refine (hk1 _).mono ?_); rintro e w3 ⟨rfl, hb3⟩; obtain ⟨_, _, ⟨hc3, hf3⟩, hz3⟩ := hb3.c3; (try simp only [wsz] at hz3 hc3 hf3))
     go_round
     case rel => exact ⟨k + 1, hk2, by go_num, ex_, hq2⟩
     case measure => simp [intOf]; omega
    ·rw [if_pos (by rw [hv h0]; exact h0), hv h0] at eR
     subst eR
     clear hv hn hq
     go_wp2_with (go_at_call 77; (with_reducible refine (hk1 _).mono ?_); rintro e w3 ⟨rfl, hb3⟩; obtain ⟨_, _, ⟨hc3, hf3⟩, hz3⟩ := hb3.c3; (try simp only [wsz] at hz3 hc3 hf3))
     exact T_FLC_1
 ·rw [if_pos hE] at eR
  subst eR
  go_enter Tryz.func67, Tryz.ntmps67
  go_wp2_with (go_at_call 85; (with_reducible refine (hC _ ex_).mono ?_); rintro e w1 ⟨rfl, hb1⟩; obtain ⟨_, _, ⟨hc1, hf1⟩, hz1⟩ := hb1.c3; (try simp only [wsz] at hz1 hc1 hf1))
  refine bodyPost_ret ?_ rfl ⟨rfl, ?_⟩
  ·(try simp only [bn_, bm_] at *)
   simp [results, Tryz.results67, go_sem, ↓IntWalk.iteOmega, *]
  ·exact b_6
theorem T_FLB_3 {p : Prop} (h : p := by
 rw [e]
 go_enter Tryz.func118, Tryz.ntmps118
 go_wp2_with fail
 refine bodyPost_ret (v := .bool false) ?_ rfl ⟨rfl, ?_⟩
 ·(try simp only [bn_, bm_] at *)
  simp [results, Tryz.results118, go_sem, ↓IntWalk.iteOmega, go_sem, *]
 ·repeat (first | with_reducible exact Ext.refl _ | with_reducible assumption | with_reducible refine Ext.alloc ?_ _ | with_reducible refine Ext.setCell ?_ c_19 _ | with_reducible refine Ext.drewN ?_ _ | with_reducible refine Ext.drew ?_ | with_reducible refine Ext.trans ?_ c_9)) : p := h
theorem T_FLB_2 {p : Prop} (h : p := by
 go_wp2_with fail
 go_round
 case rel => exact ⟨ex_, Lib.hid (by simp [*]; done)⟩
 case measure => simp [intOf]) : p := h
theorem T_FLB_1 {p : Prop} (h : p := by
 have hR : Rq = false := by rw [← eR]; simp
 subst hR
 go_wp2_with fail
 refine bodyPost_ret (v := .bool false) ?_ rfl ⟨rfl, ?_⟩
 ·(try simp only [bn_, bm_] at *)
  simp [results, Tryz.results117, go_sem, ↓IntWalk.iteOmega, go_sem, *]
 ·repeat (first | with_reducible exact Ext.refl _ | with_reducible assumption | with_reducible refine Ext.alloc ?_ _ | with_reducible refine Ext.setCell ?_ c_19 _ | with_reducible refine Ext.drewN ?_ _ | with_reducible refine Ext.drew ?_ | with_reducible refine Ext.trans ?_ c_9)) : p := h
def in1 (a b c d : Int) : Bool := decide (c ≤ a) && decide (b ≤ d)
def inV (a b : V3) : Bool := in1 a.a a.b b.a b.b && (in1 a.c a.d b.c b.d && in1 a.e a.f b.e b.f)
theorem fl_in1 (a b c d : Int) (w : World) :
    Calls Tryz.prog 118 #[.agg #[.int .i64 a, .int .i64 b], .agg #[.int .i64 c, .int .i64 d]] w fun e w' => e = .returned (.bool (in1 a b c d)) ∧ Ext w w' := by
 by_cases h1 : c ≤ a
 ·by_cases h2 : b ≤ d
  ·have e : in1 a b c d = true := by simp [in1, h1, h2]
   rw [e]
   go_enter Tryz.func118, Tryz.ntmps118
   go_wp2_with fail
   refine bodyPost_ret (v := .bool true) ?_ rfl ⟨rfl, ?_⟩
   ·(try simp only [bn_, bm_] at *)
    simp [results, Tryz.results118, go_sem, ↓IntWalk.iteOmega, go_sem, *]
   ·exact b_6
  ·have e : in1 a b c d = false := by simp [in1, h1, h2]
   exact T_FLB_3
 ·have e : in1 a b c d = false := by simp [in1, h1]
  exact T_FLB_3
theorem fl_every (a b : V3) (w : World) :
    Calls Tryz.prog 117 #[.agg #[.int .i64 a.a, .int .i64 a.b, .int .i64 a.c, .int .i64 a.d, .int .i64 a.e, .int .i64 a.f], .agg #[.int .i64 b.a, .int .i64 b.b, .int .i64 b.c, .int .i64 b.d, .int .i64 b.e, .int .i64 b.f], .func (.func 118) #[] #[]] w fun e w' => e = .returned (.bool (inV a b)) ∧ Ext w w' := by
 have hk0 := fun w1 => fl_in1 a.a a.b b.a b.b w1
 have hk1 := fun w1 => fl_in1 a.c a.d b.c b.d w1
 have hk2 := fun w1 => fl_in1 a.e a.f b.e b.f w1
 unfold inV
 generalize in1 a.a a.b b.a b.b = q0 at *
 generalize in1 a.c a.d b.c b.d = q1 at *
 generalize in1 a.e a.f b.e b.f = q2 at *
 obtain ⟨Rq, eR⟩ : ∃ Rq, (q0 && (q1 && q2)) = Rq := ⟨_, rfl⟩
 rw [eR]
 go_enter Tryz.func117, Tryz.ntmps117
 go_upto_region 1 with fail
 go_wp2_with fail
 go_loopw [8] (fun i wr => Ext ((w.alloc (.cells #[.int .i64 a.a, .int .i64 a.b, .int .i64 a.c, .int .i64 a.d, .int .i64 a.e, .int .i64 a.f] 27)).alloc (.cells #[.int .i64 b.a, .int .i64 b.b, .int .i64 b.c, .int .i64 b.d, .int .i64 b.e, .int .i64 b.f] 27)) wr ∧ Hid (i = .int .i64 0 ∨ (i = .int .i64 1 ∧ q0 = true) ∨ (i = .int .i64 2 ∧ q0 = true ∧ q1 = true) ∨ (i = .int .i64 3 ∧ q0 = true ∧ q1 = true ∧ q2 = true))) (fun i _ => 3 - (intOf i).toNat)
 case atStart => exact ⟨ex_, Lib.hid (Or.inl rfl)⟩
 case round =>
  obtain ⟨hb9, hq⟩ := hrel
  obtain ⟨_, _, ⟨hc9, hf9⟩, hz9⟩ := hb9.c3; (try simp only [wsz] at hz9 hc9 hf9)
  obtain rfl | ⟨rfl, z0⟩ | ⟨rfl, z0, z1⟩ | ⟨rfl, z0, z1, z2⟩ := hq.out
  rotate_right
  ·have hR : Rq = true := by rw [← eR, z0, z1, z2]; rfl
   subst hR
   go_wp2_with fail
   refine bodyPost_ret (v := .bool true) ?_ rfl ⟨rfl, ?_⟩
   ·(try simp only [bn_, bm_] at *)
    simp [results, Tryz.results117, go_sem, ↓IntWalk.iteOmega, go_sem, *]
   ·exact b_6
  ·go_wp2_with fail
   refine wp_name fun W hW => ?_
   obtain ⟨hWc, hWf, hWz⟩ := hW.cells
   have hWe : Ext wr W := Ext.same hW ex_
   (try simp only [wsz] at hWz)
   have zz0 : w.heap.size < wr.heap.size := by omega
   have zz1 : w.heap.size + 1 < wr.heap.size := by omega
   go_region_held3 (fun w' => (∀ b o, b < W.heap.size → w'.cell? ⟨b, o, none⟩ = if b = w.heap.size ∧ 0 ≤ o ∧ o < 0 then (W.cell? ⟨b, o, none⟩).map (obx w' b o) else W.cell? ⟨b, o, none⟩) ∧ (∀ b o, b < W.heap.size → w'.frozen? ⟨b, o, none⟩ = W.frozen? ⟨b, o, none⟩) ∧ W.heap.size ≤ w'.heap.size ∧ Ext wr w') (exact k_3) ((first | (go_at_call 118; (with_reducible refine (hk0 _).mono ?_); rintro e w2 ⟨rfl, hb2⟩; have hz2 := hb2.size; (try rw [size_drew] at hz2))))
   rename_i hOld
   have hE := hOld.2.2.2
   have hO := And.intro hOld.1 (And.intro hOld.2.1 hOld.2.2.1)
   clear hOld
   obtain ⟨hOc, hOf, hOz⟩ := heldEnd hO
   clear hO
   cases q0
   ·exact T_FLB_1
   ·exact T_FLB_2
  ·go_wp2_with fail
   refine wp_name fun W hW => ?_
   obtain ⟨hWc, hWf, hWz⟩ := hW.cells
   have hWe : Ext wr W := Ext.same hW ex_
   (try simp only [wsz] at hWz)
   have zz0 : w.heap.size < wr.heap.size := by omega
   have zz1 : w.heap.size + 1 < wr.heap.size := by omega
   go_region_held3 (fun w' => (∀ b o, b < W.heap.size → w'.cell? ⟨b, o, none⟩ = if b = w.heap.size ∧ 0 ≤ o ∧ o < 0 then (W.cell? ⟨b, o, none⟩).map (obx w' b o) else W.cell? ⟨b, o, none⟩) ∧ (∀ b o, b < W.heap.size → w'.frozen? ⟨b, o, none⟩ = W.frozen? ⟨b, o, none⟩) ∧ W.heap.size ≤ w'.heap.size ∧ Ext wr w') (exact k_3) ((first | (go_at_call 118; (with_reducible refine (hk1 _).mono ?_); rintro e w2 ⟨rfl, hb2⟩; have hz2 := hb2.size; (try rw [size_drew] at hz2))))
   rename_i hOld
   have hE := hOld.2.2.2
   have hO := And.intro hOld.1 (And.intro hOld.2.1 hOld.2.2.1)
   clear hOld
   obtain ⟨hOc, hOf, hOz⟩ := heldEnd hO
   clear hO
   cases q1
   ·exact T_FLB_1
   ·exact T_FLB_2
  ·go_wp2_with fail
   refine wp_name fun W hW => ?_
   obtain ⟨hWc, hWf, hWz⟩ := hW.cells
   have hWe : Ext wr W := Ext.same hW ex_
   (try simp only [wsz] at hWz)
   have zz0 : w.heap.size < wr.heap.size := by omega
   have zz1 : w.heap.size + 1 < wr.heap.size := by omega
   go_region_held3 (fun w' => (∀ b o, b < W.heap.size → w'.cell? ⟨b, o, none⟩ = if b = w.heap.size ∧ 0 ≤ o ∧ o < 0 then (W.cell? ⟨b, o, none⟩).map (obx w' b o) else W.cell? ⟨b, o, none⟩) ∧ (∀ b o, b < W.heap.size → w'.frozen? ⟨b, o, none⟩ = W.frozen? ⟨b, o, none⟩) ∧ W.heap.size ≤ w'.heap.size ∧ Ext wr w') (exact k_3) ((first | (go_at_call 118; (with_reducible refine (hk2 _).mono ?_); rintro e w2 ⟨rfl, hb2⟩; have hz2 := hb2.size; (try rw [size_drew] at hz2))))
   rename_i hOld
   have hE := hOld.2.2.2
   have hO := And.intro hOld.1 (And.intro hOld.2.1 hOld.2.2.1)
   clear hOld
   obtain ⟨hOc, hOf, hOz⟩ := heldEnd hO
   clear hO
   cases q2
   ·exact T_FLB_1
   ·exact T_FLB_2
theorem fl_inside (a b : V3) (w : World) :
    Calls Tryz.prog 70 #[.agg #[.int .i64 a.a, .int .i64 a.b, .int .i64 a.c, .int .i64 a.d, .int .i64 a.e, .int .i64 a.f], .agg #[.int .i64 b.a, .int .i64 b.b, .int .i64 b.c, .int .i64 b.d, .int .i64 b.e, .int .i64 b.f]] w fun e w' => e = .returned (.bool (inV a b)) ∧ Ext w w' := by
 have hk1 := fun w1 => fl_every a b w1
 generalize inV a b = q at *
 go_enter Tryz.func70, Tryz.ntmps70
 go_wp2_with (go_at_call 117; (with_reducible refine (hk1 _).mono ?_); rintro e w1 ⟨rfl, hb1⟩; obtain ⟨_, _, ⟨hc1, hf1⟩, hz1⟩ := hb1.c3; (try simp only [wsz] at hz1 hc1 hf1))
 refine bodyPost_ret (v := .bool q) ?_ rfl ⟨rfl, ?_⟩
 ·(try simp only [bn_, bm_] at *)
  simp [results, Tryz.results70, go_sem, ↓IntWalk.iteOmega, go_sem, *]
 ·exact b_6
end Go.Proofs.YtbkgakgdbmjmjaaGreat
