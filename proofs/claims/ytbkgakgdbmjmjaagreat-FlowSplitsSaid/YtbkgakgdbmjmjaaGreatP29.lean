/- flow.Run: what the walk keeps. -/
import Derived.Test.YtbkgakgdbmjmjaaGreatP28
import Derived.Great.BuildSlice
set_option linter.unusedSimpArgs false
set_option linter.unusedVariables false
namespace Go.Proofs.YtbkgakgdbmjmjaaGreat
open Go.RowKit
structure RnB (w : World) (ao : Option Addr) (m cap : Nat) (s : StD) (U : World) : Prop where
 own : Ext w U
 e : U.cell? ⟨w.heap.size, 0, none⟩ = some (.slice ao m cap)
 s : VB U (w.heap.size + 1) (stL s)
theorem RnB.ext {w U W : World} {ao : Option Addr} {m cap : Nat} {s : StD} (h : RnB w ao m cap s U) (k : Ext U W) : RnB w ao m cap s W :=
 ⟨h.own.trans k, (k.cells.1 _ 0 (by have := h.s.2.2; omega)).trans h.e, h.s.ext k⟩
structure RnA (w : World) (ao : Option Addr) (m cap : Nat) (s : StD) (g : Nat) (P V : List Int) (U : World) : Prop where
 b : RnB w ao m cap s U
 h : w.heap.size + 2 ≤ g
 p : VB U g P
 v : VB U (g + 1) V
section
variable {w U W : World} {ao : Option Addr} {m cap : Nat} {s : StD} {g o : Nat} {P V k : List Int}
theorem RnA.ext (h : RnA w ao m cap s g P V U) (k : Ext U W) : RnA w ao m cap s g P V W := ⟨h.b.ext k, h.h, h.p.ext k, h.v.ext k⟩
theorem RnB.set {B : Nat} {vs : List Value} (h : RnB w ao m cap s U) (r : RowAt W U B o vs) (hB : w.heap.size + 2 ≤ B) : RnB w ao m cap s W :=
 ⟨r.own h.own (by omega), by rw [show W = _ from r]; exact (cell_sets (by omega) vs o U).trans h.e, r.other h.s (by omega)⟩
theorem RnA.sp (h : RnA w ao m cap s g P V U) (r : RowAt W U g o (k.map (Value.int .i64))) (hl : o + k.length ≤ P.length) : RnA w ao m cap s g (setsL P o k) V W :=
 ⟨h.b.set r h.h, h.h, r.vb h.p hl, r.other h.v (by omega)⟩
theorem RnA.sv (h : RnA w ao m cap s g P V U) (r : RowAt W U (g + 1) o (k.map (Value.int .i64))) (hl : o + k.length ≤ V.length) : RnA w ao m cap s g P (setsL V o k) W :=
 ⟨h.b.set r (by have := h.h; omega), h.h, r.other h.p (by omega), r.vb h.v hl⟩
theorem RnA.row {B : Nat} {vs : List Value} (h : RnA w ao m cap s g P V U) (r : RowAt W U B o vs) (hB : g + 2 ≤ B) : RnA w ao m cap s g P V W :=
 ⟨h.b.set r (by have := h.h; omega), h.h, r.other h.p (by omega), r.other h.v (by omega)⟩
theorem grown_cell {B : Nat} (h : U.grownBy W (some B)) {b j : Nat} (hb : b < U.heap.size) (hne : b ≠ B) : W.cell? ⟨b, j, none⟩ = U.cell? ⟨b, j, none⟩ := by
 have := h.block b hb (by simpa using hne)
 simp [World.cell?, this]
theorem grown_frozen {B : Nat} (h : U.grownBy W (some B)) {b j : Nat} (hb : b < U.heap.size) (hne : b ≠ B) : W.frozen? ⟨b, j, none⟩ = U.frozen? ⟨b, j, none⟩ := by
 have := h.block b hb (by simpa using hne)
 simp [World.frozen?, this]
theorem VB.grownAt {B : Nat} {b : Nat} {l : List Int} (h : VB U b l) (r : U.grownBy W (some B)) (hne : b ≠ B) : VB W b l :=
 ⟨fun j x hj => (grown_cell r h.2.2 hne).trans (h.1 j x hj), fun q => (grown_frozen r h.2.2 hne).trans (h.2.1 q), Nat.lt_of_lt_of_le h.2.2 r.size⟩
theorem RnA.grow {B : Nat} (h : RnA w ao m cap s g P V U) (r : U.grownBy W (some B)) (hB : g + 2 ≤ B) : RnA w ao m cap s g P V W :=
 ⟨⟨h.b.own.grownAt r (by have := h.h; omega), (grown_cell r (by have := h.b.s.2.2; omega) (by have := h.h; omega)).trans h.b.e, h.b.s.grownAt r (by have := h.h; omega)⟩, h.h, h.p.grownAt r (by omega), h.v.grownAt r (by omega)⟩
theorem row_keep {base : Nat} {e : TypeId} {size k' : Nat} {v : Value} {xs vs : List Value} {B : Nat} (h : U.ownsRow base e size v k' xs) (r : RowAt W U B o vs) (hB : B < base) : W.ownsRow base e size v k' xs := by
 rw [show W = _ from r]
 clear r
 induction vs generalizing o U with
 | nil => exact h
 | cons x vs ih => exact ih (ownsRow_setCell_below h hB x)
end
theorem flat_tu : ∀ (ls : List Tu) (i : Nat) (hi : i < ls.length) (j : Nat), j < 26 → (ls.flatMap tvs)[i * 26 + j]? = (tvs ls[i])[j]?
 | [], i, hi, _, _ => absurd hi (by simp)
 | s :: ls, 0, _, j, hj => by
  rw [List.flatMap_cons, List.getElem?_append_left (by show 0 * 26 + j < 26; omega)]
  simp
 | s :: ls, i + 1, hi, j, hj => by
  have h26 : (tvs s).length = 26 := rfl
  rw [List.flatMap_cons, List.getElem?_append_right (by rw [h26]; omega), h26]
  have := flat_tu ls i (by simpa using hi) j hj
  rw [show (i + 1) * 26 + j - 26 = i * 26 + j by omega, this]
  simp
theorem ownsRow_tus {W : World} {base g cap : Nat} {ls : List Tu} (h : W.ownsRow base 65 26 (.slice (some ⟨g, 0, none⟩) ls.length cap) ls.length (ls.flatMap tvs)) (hl : ls.length ≤ 200) : TuS W (.slice (some ⟨g, 0, none⟩) ls.length cap) ls := by
 have hc := fun j hj => World.ownsRow.cellAt h j hj
 obtain ⟨h0, h⟩ := h
 rcases h with ⟨e, _⟩ | ⟨g', cap', cur, e, hb, hg, h1, h2, h3, h4⟩
 ·cases e
 ·cases e
  have hlt := (Array.getElem?_eq_some_iff.1 hg).1
  refine ⟨_, g, 0, cap, rfl, fun _ => rfl, hl, fun _ => hlt, fun i hi => ?_⟩
  intro j u hj
  have hj26 : j < 26 := by
   have := (List.getElem?_eq_some_iff.1 hj).1
   exact this
  have e := flat_tu ls i hi j hj26
  have e2 : ls.getD i Tu.O = ls[i] := by rw [List.getD_eq_getElem?_getD, List.getElem?_eq_getElem hi]; rfl
  rw [e2] at hj
  rw [show 0 + i * 26 + j = i * 26 + j by omega]
  exact (hc (i * 26 + j) (by omega)).trans (e.trans hj)
theorem ty65 : ∃ i z, Tryz.prog.info? 65 = some i ∧ i.zero = some z ∧ i.size = 26 ∧ i.bytes = 208 := by
 obtain ⟨i, hi⟩ : ∃ i, Tryz.prog.info? 65 = some i := Option.isSome_iff_exists.1 c_16
 obtain ⟨z, hz⟩ : ∃ z, i.zero = some z := by
  have h : ((Tryz.prog.info? 65).bind (·.zero)).isSome = true := by kernel_rfl
  rw [hi] at h; exact Option.isSome_iff_exists.1 h
 refine ⟨i, z, hi, hz, ?_, ?_⟩
 ·have h : (Tryz.prog.info? 65).map (·.size) = some 26 := by kernel_rfl
  rw [hi] at h; exact Option.some.inj h
 ·have h : (Tryz.prog.info? 65).map (·.bytes) = some 208 := by kernel_rfl
  rw [hi] at h; exact Option.some.inj h
theorem rn_at {j L n t : Int} (h1 : 1 ≤ n) (h2 : n ≤ 200) (j0 : 0 ≤ j) (j1 : j ≤ n) (L0 : 0 ≤ L) (L1 : L ≤ 10000000000000000) (t0 : -5000000000000000 ≤ t) (t1 : t ≤ 5000000000000000) :
    IntKind.i64.wrap (t + IntKind.i64.wrap ((IntKind.i64.wrap (j * L)).tdiv n)) = t + j * L / n := by
 have a := Int.mul_le_mul_of_nonneg_right (show j ≤ 200 by omega) L0
 have b := Int.mul_nonneg j0 L0
 have c := Int.mul_le_mul_of_nonneg_right j1 L0
 have d : j * L / n ≤ L := by
  have := Int.ediv_le_ediv (show 0 < n by omega) c
  rwa [Int.mul_ediv_cancel_left _ (show n ≠ 0 by omega)] at this
 have e : 0 ≤ j * L / n := Int.ediv_nonneg b (by omega)
 simp only [IntWalk.i64_left]
 show wrap64 (t + wrap64 ((wrap64 (j * L)).tdiv n)) = _
 rw [w64_in (x := j * L) (by omega), Int.tdiv_eq_ediv_of_nonneg b, w64_in (x := j * L / n) (by omega), w64_in (by omega)]
def RnI (w : World) (ao : Option Addr) (m cap : Nat) (s : StD) (St : Int → Int → V3 → V3 → Tu × Int) (te n : Int) (g q N k : Nat) (wx : World) : Prop :=
 (rnU St s.t te n (alP s) (alV s) k).2 = 0 ∧ (rnU St s.t te n (alP s) (alV s) k).1.v.I ∧ RnA w ao m cap s g (six (rnU St s.t te n (alP s) (alV s) k).1.p) (six (rnU St s.t te n (alP s) (alV s) k).1.v) wx ∧
  wx.ownsRow (g + 2) 65 26 (.slice (some ⟨q, 0, none⟩) k N) k ((rnL St s.t te n (alP s) (alV s) k).flatMap tvs)
theorem rn_fill (t : Tu) {i : TypeInfo} {z : Value} (hz : i.zero = some z) (h0 : Tryz.prog.info? 65 = some i) (hs : i.size = 26) :
    Instr.fill (fun j => some (j * i.size, i.size)) ((Array.range (1 * i.size)).map (z.cells[· % z.cells.size]!)) [(0, .agg (tvs t).toArray)] = some (tvs t).toArray := by
 have e : (Tryz.prog.info? 65).bind (·.zero) = some (.agg (tvs Tu.O).toArray) := by kernel_rfl
 rw [h0] at e
 have e2 : z = .agg (tvs Tu.O).toArray := by
  have := hz.symm.trans e
  exact Option.some.inj this
 subst e2
 rw [hs]
 have e3 : (Array.range (1 * 26)).map ((Value.agg (tvs Tu.O).toArray).cells[· % (Value.agg (tvs Tu.O).toArray).cells.size]!) = (tvs Tu.O).toArray := by kernel_rfl
 rw [e3]
 simp [Instr.fill, tvs, Value.cells, Array.zipIdx]
end Go.Proofs.YtbkgakgdbmjmjaaGreat
