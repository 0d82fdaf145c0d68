/- force: the cells of sources. -/
import Derived.Test.YtbkgakgdbmjmjaaGreatJ26
set_option linter.unusedSimpArgs false
set_option linter.unusedVariables false
set_option maxRecDepth 100000
set_option maxHeartbeats 4000000
namespace Go.Proofs.YtbkgakgdbmjmjaaGreat
open Go.RowKit
def SrC (w : World) (b o : Nat) (ls : List SrcD) : Prop := (0 < ls.length → b < w.heap.size) ∧ ∀ i, (hi : i < ls.length) → ∀ j, j < 8 → w.cell? ⟨b, o + i * 8 + j, none⟩ = (srV ls[i])[j]?
theorem SrC.ext {a w : World} {b o : Nat} {ls : List SrcD} (h : SrC a b o ls) (k : Ext a w) : SrC w b o ls :=
 ⟨fun q => Nat.lt_of_lt_of_le (h.1 q) k.size, fun i hi j hj => (k.cells.1 b _ (h.1 (by omega))).trans (h.2 i hi j hj)⟩
theorem SrC.xb {n p q b o : Nat} {A B : World} {ls : List SrcD} (h : SrC A b o ls) (k : Xb n p q A B) (hb : 0 < ls.length → b < n) (h1 : 0 < ls.length → b ≠ p) (h2 : 0 < ls.length → b ≠ q) : SrC B b o ls :=
 ⟨fun g => Nat.lt_of_lt_of_le (h.1 g) k.size, fun i hi j hj => (k.cell (hb (by omega)) (h1 (by omega)) (h2 (by omega))).trans (h.2 i hi j hj)⟩
def V8 (w : World) (g : Nat) (s : SrcD) : Prop := (∀ j, j < 8 → w.cell? ⟨g, j, none⟩ = (srV s)[j]?) ∧ g < w.heap.size
theorem V8.ext {a w : World} {g : Nat} {s : SrcD} (h : V8 a g s) (k : Ext a w) : V8 w g s := ⟨fun j hj => (k.cells.1 g j h.2).trans (h.1 j hj), Nat.lt_of_lt_of_le h.2 k.size⟩
theorem V8.xb {n p q g : Nat} {A B : World} {s : SrcD} (h : V8 A g s) (k : Xb n p q A B) (hb : g < n) (h1 : g ≠ p) (h2 : g ≠ q) : V8 B g s := ⟨fun j hj => (k.cell hb h1 h2).trans (h.1 j hj), Nat.lt_of_lt_of_le h.2 k.size⟩
theorem V8.other {w : World} {g B j : Nat} {s : SrcD} (h : V8 w g s) (hne : g ≠ B) (x : Value) : V8 (w.setCell ⟨B, j, none⟩ x) g s :=
 ⟨fun i hi => (by rw [cell_sc, if_neg (fun e => hne c_60)]; exact h.1 i hi), by simpa using h.2⟩
theorem V8.at {w : World} {g : Nat} {s : SrcD} (h : V8 w g s) : w.cell? ⟨g, 0, none⟩ = some (.int .i64 s.x) ∧ w.cell? ⟨g, 1, none⟩ = some (.int .i64 s.y) ∧ w.cell? ⟨g, 2, none⟩ = some (.int .i64 s.v.a) ∧ w.cell? ⟨g, 3, none⟩ = some (.int .i64 s.v.b) ∧ w.cell? ⟨g, 4, none⟩ = some (.int .i64 s.v.c) ∧ w.cell? ⟨g, 5, none⟩ = some (.int .i64 s.v.d) ∧ w.cell? ⟨g, 6, none⟩ = some (.int .i64 s.v.e) ∧ w.cell? ⟨g, 7, none⟩ = some (.int .i64 s.v.f) :=
 ⟨h.1 0 (by decide), h.1 1 (by decide), h.1 2 (by decide), h.1 3 (by decide), h.1 4 (by decide), h.1 5 (by decide), h.1 6 (by decide), h.1 7 (by decide)⟩
theorem V8.lit (w : World) (s : SrcD) (t : TypeId) : V8 (w.alloc (.cells #[.int .i64 s.x, .int .i64 s.y, .int .i64 s.v.a, .int .i64 s.v.b, .int .i64 s.v.c, .int .i64 s.v.d, .int .i64 s.v.e, .int .i64 s.v.f] t)) w.heap.size s := by
 refine ⟨fun j hj => ?_, by simp⟩
 rw [World.cell?_alloc_new]
 rw [show #[Value.int .i64 s.x, .int .i64 s.y, .int .i64 s.v.a, .int .i64 s.v.b, .int .i64 s.v.c, .int .i64 s.v.d, .int .i64 s.v.e, .int .i64 s.v.f] = (srV s).toArray from rfl]
 simp
theorem SrC.at {w : World} {b o i : Nat} {ls : List SrcD} (h : SrC w b o ls) (hi : i < ls.length) {s : SrcD} (hs : ls[i] = s) :
    w.cell? ⟨b, o + i * 8, none⟩ = some (.int .i64 s.x) ∧ w.cell? ⟨b, o + i * 8 + 1, none⟩ = some (.int .i64 s.y) ∧ w.cell? ⟨b, o + i * 8 + 2, none⟩ = some (.int .i64 s.v.a) ∧ w.cell? ⟨b, o + i * 8 + 3, none⟩ = some (.int .i64 s.v.b) ∧ w.cell? ⟨b, o + i * 8 + 4, none⟩ = some (.int .i64 s.v.c) ∧ w.cell? ⟨b, o + i * 8 + 5, none⟩ = some (.int .i64 s.v.d) ∧ w.cell? ⟨b, o + i * 8 + 6, none⟩ = some (.int .i64 s.v.e) ∧ w.cell? ⟨b, o + i * 8 + 7, none⟩ = some (.int .i64 s.v.f) := by
 subst hs
 exact ⟨h.2 i hi 0 (by decide), h.2 i hi 1 (by decide), h.2 i hi 2 (by decide), h.2 i hi 3 (by decide), h.2 i hi 4 (by decide), h.2 i hi 5 (by decide), h.2 i hi 6 (by decide), h.2 i hi 7 (by decide)⟩
def AcI (w : World) (P sb so : Nat) (ls : List SrcD) (p : V3) (E : Int) (c : World) : Prop :=
 Ext w c ∧ V6 c (w.heap.size + 1) p ∧ V6 c (w.heap.size + 2) V3.O ∧ Bad c P E ∧ SrC c sb so ls ∧ P < c.heap.size ∧ w.heap.size + 3 ≤ P ∧ (0 < ls.length → sb < P)
theorem Bad.ext {a b : World} {P : Nat} {E : Int} (h : Bad a P E) (k : Ext a b) (hP : P < a.heap.size) : Bad b P E := ⟨(k.cells.1 P 0 hP).trans h.1, (k.cells.2 P 0 hP).trans h.2⟩
theorem Bad.other {a : World} {P B j : Nat} {E : Int} (h : Bad a P E) (hne : P ≠ B) (x : Value) : Bad (a.setCell ⟨B, j, none⟩ x) P E :=
 ⟨by rw [cell_sc, if_neg (fun e => hne c_60)]; exact h.1, by rw [World.frozen?_setCell]; exact h.2⟩
theorem Bad.now {a b : World} {P : Nat} {E F : Int} (h : Bad a P E) (k : Ext (a.setCell ⟨P, 0, none⟩ (.bool (nz F))) b) (hP : P < a.heap.size) : Bad b P F :=
 ⟨(k.cells.1 P 0 (by simpa using hP)).trans (by rw [cell_sc, if_pos rfl, h.1]; rfl), (k.cells.2 P 0 (by simpa using hP)).trans (by rw [World.frozen?_setCell]; exact h.2)⟩
theorem AcI.ext {w c d : World} {P sb so : Nat} {ls : List SrcD} {p : V3} {E : Int} (h : AcI w P sb so ls p E c) (k : Ext c d) : AcI w P sb so ls p E d := by
 obtain ⟨h1, h2, h3, h4, h5, h6, h7, h8⟩ := h
 exact ⟨h1.trans k, h2.ext k, h3.ext k, h4.ext k h6, h5.ext k, Nat.lt_of_lt_of_le h6 k.size, h7, h8⟩
theorem AcI.xb {w c d : World} {P A sb so n : Nat} {ls : List SrcD} {p : V3} {E F : Int} (h : AcI w P sb so ls p E c) (k : Xb n P A c d) (hn : P < n) (hA : P ≤ A) (hb : Bad d P F) : AcI w P sb so ls p F d := by
 obtain ⟨h1, h2, h3, h4, h5, h6, h7, h8⟩ := h
 exact ⟨k.own h1 (by omega) (by omega) (by omega), k.v6 h2 (by omega) (by omega) (by omega), k.v6 h3 (by omega) (by omega) (by omega), hb, h5.xb k (fun q => by have := h8 q; omega) (fun q => by have := h8 q; omega) (fun q => by have := h8 q; omega), Nat.lt_of_lt_of_le h6 k.size, h7, h8⟩
theorem AcI.now {w c d : World} {P sb so : Nat} {ls : List SrcD} {p : V3} {E F : Int} (h : AcI w P sb so ls p E c) (k : Ext (c.setCell ⟨P, 0, none⟩ (.bool (nz F))) d) : AcI w P sb so ls p F d :=
 h.xb ((Xb.set (Xb.refl (P + 1) P P c) ⟨P, 0, none⟩ (.inl rfl) _).ext k (by have := h.2.2.2.2.2.1; omega)) (Nat.lt_succ_self _) (Nat.le_refl _) (h.2.2.2.1.now k h.2.2.2.2.2.1)
theorem AcI.set {w c : World} {P sb so D j : Nat} {ls : List SrcD} {p : V3} {E : Int} (h : AcI w P sb so ls p E c) (hD : P < D) (x : Value) : AcI w P sb so ls p E (c.setCell ⟨D, j, none⟩ x) :=
 h.xb (Xb.set (Xb.refl (P + 1) P D c) ⟨D, j, none⟩ (.inr (.inl rfl)) _) (Nat.lt_succ_self _) (Nat.le_of_lt hD) (h.2.2.2.1.other (Nat.ne_of_lt hD) x)
theorem AcI.store {w c : World} {P sb so D : Nat} {ls : List SrcD} {p : V3} {E : Int} (h : AcI w P sb so ls p E c) (hD : P < D) (v : V3) : AcI w P sb so ls p E ((((((c.setCell ⟨D, 0, none⟩ (.int .i64 v.a)).setCell ⟨D, 1, none⟩ (.int .i64 v.b)).setCell ⟨D, 2, none⟩ (.int .i64 v.c)).setCell ⟨D, 3, none⟩ (.int .i64 v.d)).setCell ⟨D, 4, none⟩ (.int .i64 v.e)).setCell ⟨D, 5, none⟩ (.int .i64 v.f)) :=
 (((((h.set hD _).set hD _).set hD _).set hD _).set hD _).set hD _
theorem acN_take (p : V3) (ls : List SrcD) (A : V7) (k : Nat) (h : k < ls.length) : acN p (ls.take (k + 1)) A = acS p ls[k] (acN p (ls.take k) A) := by
 induction ls generalizing A k with
 | nil => exact absurd h (by simp)
 | cons s l ih =>
  cases k with
  | zero => simp [acN]
  | succ k => simp only [List.take_succ_cons, acN, List.getElem_cons_succ]; exact ih _ _ (by simpa using h)
theorem shN_take (p : V3) (ls : List SrcD) (A : M10) (k : Nat) (h : k < ls.length) : shN p (ls.take (k + 1)) A = shS p ls[k] (shN p (ls.take k) A) := by
 induction ls generalizing A k with
 | nil => exact absurd h (by simp)
 | cons s l ih =>
  cases k with
  | zero => simp [shN]
  | succ k => simp only [List.take_succ_cons, shN, List.getElem_cons_succ]; exact ih _ _ (by simpa using h)
theorem V8.of {w : World} {g : Nat} {s : SrcD} (h : w.cell? ⟨g, 0, none⟩ = some (.int .i64 s.x) ∧ w.cell? ⟨g, 1, none⟩ = some (.int .i64 s.y) ∧ w.cell? ⟨g, 2, none⟩ = some (.int .i64 s.v.a) ∧ w.cell? ⟨g, 3, none⟩ = some (.int .i64 s.v.b) ∧ w.cell? ⟨g, 4, none⟩ = some (.int .i64 s.v.c) ∧ w.cell? ⟨g, 5, none⟩ = some (.int .i64 s.v.d) ∧ w.cell? ⟨g, 6, none⟩ = some (.int .i64 s.v.e) ∧ w.cell? ⟨g, 7, none⟩ = some (.int .i64 s.v.f)) : V8 w g s := by
 obtain ⟨h0, h1, h2, h3, h4, h5, h6, h7⟩ := h
 refine ⟨fun j hj => ?_, World.block_lt_of_cell? w _ h0⟩
 match j, hj with
 | 0, _ => exact h0
 | 1, _ => exact h1
 | 2, _ => exact h2
 | 3, _ => exact h3
 | 4, _ => exact h4
 | 5, _ => exact h5
 | 6, _ => exact h6
 | 7, _ => exact h7
theorem f_err (P : Nat) (w : World) (hc : w.cell? ⟨P, 0, none⟩ = some (.bool true)) :
    Calls Tryz.prog 50 #[.pointer (some ⟨P, 0, none⟩)] w fun e w' => e = .returned (.int .i64 24) ∧ Ext w w' := by
 go_enter Tryz.func50, Tryz.ntmps50
 go_wp2_with fail
 refine bodyPost_ret (v := .int .i64 24) ?_ rfl ⟨rfl, ?_⟩
 ·simp [results, Tryz.results50, go_sem, ↓IntWalk.iteOmega, *]
 ·exact b_6
end Go.Proofs.YtbkgakgdbmjmjaaGreat
