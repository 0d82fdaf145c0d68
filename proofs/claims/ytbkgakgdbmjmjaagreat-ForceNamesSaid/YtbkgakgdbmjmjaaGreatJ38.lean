/- law34.ForceNames: boxes of a place on the first axis, and its ephemeri -/
import Derived.Test.YtbkgakgdbmjmjaaGreatJ33
set_option linter.unusedSimpArgs false
set_option linter.unusedVariables false
namespace Go.Proofs.YtbkgakgdbmjmjaaGreat
open Go.RowKit
theorem T_FN0_1 {p : Prop} (h : p := by
 have h : (Tryz.prog.info? 50).bind (·.zero) = some (.agg #[.string ⟨#[]⟩, .int .i64 0, .int .i64 0, .slice none 0 0]) := by kernel_rfl
 rw [hi] at h; exact h) : p := h
def N6 (w : World) (g : Nat) (x y : Int) : Prop :=
 w.cell? ⟨g, 0, none⟩ = some (.int .i64 x) ∧ w.cell? ⟨g, 1, none⟩ = some (.int .i64 y) ∧ w.cell? ⟨g, 2, none⟩ = some (.int .i64 0) ∧ w.cell? ⟨g, 3, none⟩ = some (.int .i64 0) ∧ w.cell? ⟨g, 4, none⟩ = some (.int .i64 0) ∧ w.cell? ⟨g, 5, none⟩ = some (.int .i64 0) ∧ (∀ o, w.frozen? ⟨g, o, none⟩ = false) ∧ g < w.heap.size
theorem N6.ext {a w : World} {g : Nat} {x y : Int} (h : N6 a g x y) (k : Ext a w) : N6 w g x y := by
 obtain ⟨c0, c1, c2, c3, c4, c5, cf, cl⟩ := h
 exact ⟨(k.cells.1 g 0 cl).trans c0, (k.cells.1 g 1 cl).trans c1, (k.cells.1 g 2 cl).trans c2, (k.cells.1 g 3 cl).trans c3, (k.cells.1 g 4 cl).trans c4, (k.cells.1 g 5 cl).trans c5, fun o => (k.cells.2 g o cl).trans (cf o), Nat.lt_of_lt_of_le cl k.size⟩
theorem N6.lit (w : World) (x y : Int) (t : TypeId) : N6 (w.alloc (.cells #[.int .i64 x, .int .i64 y, .int .i64 0, .int .i64 0, .int .i64 0, .int .i64 0] t)) w.heap.size x y := by
 simp [N6, go_sem, ↓IntWalk.iteOmega]
theorem N6.there {w : World} {g : Nat} {x y : Int} (h : N6 w g x y) : w.there g 0 6 := fun j hj => by
 obtain ⟨c0, c1, c2, c3, c4, c5, cf, cl⟩ := h
 refine ⟨?_, cf _⟩
 rw [Nat.zero_add]
 match j, hj with
 | 0, _ => rw [c0]; rfl
 | 1, _ => rw [c1]; rfl
 | 2, _ => rw [c2]; rfl
 | 3, _ => rw [c3]; rfl
 | 4, _ => rw [c4]; rfl
 | 5, _ => rw [c5]; rfl
theorem N6.row {c d : World} {g D : Nat} {x y : Int} {vs : List Value} (h : N6 c g x y) (k : Row d c D vs) (hg : g ≠ D) : N6 d g x y := by
 obtain ⟨c0, c1, c2, c3, c4, c5, cf, cl⟩ := h
 obtain ⟨k1, k2, k3⟩ := k.cells
 exact ⟨(k1 g 0 hg).trans c0, (k1 g 1 hg).trans c1, (k1 g 2 hg).trans c2, (k1 g 3 hg).trans c3, (k1 g 4 hg).trans c4, (k1 g 5 hg).trans c5, fun o => (k2 _).trans (cf o), by omega⟩
theorem N6.set {c : World} {g D j : Nat} {x y : Int} (h : N6 c g x y) (v : Value) (hg : g ≠ D) : N6 (c.setCell ⟨D, j, none⟩ v) g x y := by
 obtain ⟨c0, c1, c2, c3, c4, c5, cf, cl⟩ := h
 have q : ∀ i u, c.cell? ⟨g, i, none⟩ = some u → (c.setCell ⟨D, j, none⟩ v).cell? ⟨g, i, none⟩ = some u := fun i u e => by rw [cell_sc, if_neg (fun e => hg c_60)]; exact e
 exact ⟨q _ _ c0, q _ _ c1, q _ _ c2, q _ _ c3, q _ _ c4, q _ _ c5, fun o => by rw [World.frozen?_setCell]; exact cf o, by simpa using cl⟩
def NI (w : World) (g : Nat) (c : World) : Prop := Ext w c ∧ w.heap.size ≤ g ∧ N6 c g 1099511627776 1099511627776
theorem NI.ext {w c d : World} {g : Nat} (h : NI w g c) (k : Ext c d) : NI w g d := ⟨h.1.trans k, h.2.1, h.2.2.ext k⟩
theorem NI.row {w c d : World} {g D : Nat} {vs : List Value} (h : NI w g c) (hD : g < D) (k : Row d c D vs) : NI w g d := ⟨k.ext h.1 (by have := h.2.1; omega), h.2.1, h.2.2.row k (by omega)⟩
def fnSeg : SegD := ⟨0, 1, [5497558138880], [0], [0]⟩
def fnBd (g : Int) : BodyD := ⟨⟨#[97]⟩, g, 0, [fnSeg]⟩
def fnB (g : Int) : List BodyD := [fnBd g]
theorem bds_nil (w : World) : Bds w (.slice none 0 0) [] := ⟨none, 0, 0, 0, rfl, fun h => absurd h (Nat.lt_irrefl 0), Nat.le_refl _, by omega, fun h => absurd h (Nat.lt_irrefl 0), fun i hi => absurd hi (Nat.not_lt_zero _)⟩
theorem sgs_nil (w : World) : Sgs w (.slice none 0 0) [] := ⟨none, 0, 0, 0, rfl, fun h => absurd h (Nat.lt_irrefl 0), Nat.le_refl _, by omega, fun h => absurd h (Nat.lt_irrefl 0), fun i hi => absurd hi (Nat.not_lt_zero _)⟩
theorem one_lt {P : Nat → Prop} (h : P 0) : ∀ k, k < 1 → P k := fun k hk => by
 have : k = 0 := by omega
 rw [this]; exact h
theorem xs_one {w : World} {b cap : Nat} {x : Int} (hc : w.cell? ⟨b, 0, none⟩ = some (.int .i64 x)) (hx : I64 x) (h1 : 1 ≤ cap) (h2 : cap ≤ 9223372036854775807) : Xs w (.slice (some ⟨b, 0, none⟩) 1 cap) [x] :=
 ⟨_, b, 0, cap, rfl, fun _ => rfl, h1, h2, fun _ => World.block_lt_of_cell? w _ hc, one_lt (P := fun i => w.cell? ⟨b, 0 + i, none⟩ = some (.int .i64 ([x].getD i 0))) hc, one_lt (P := fun i => I64 ([x].getD i 0)) hx⟩
theorem bds_one {w : World} {b cap : Nat} {d : BodyD} {vs : Value} (h0 : w.cell? ⟨b, 0, none⟩ = some (.string d.name)) (h1 : w.cell? ⟨b, 1, none⟩ = some (.int .i64 d.gm)) (h2 : w.cell? ⟨b, 2, none⟩ = some (.int .i64 d.rad)) (h3 : w.cell? ⟨b, 3, none⟩ = some vs)
    (n : d.name.size ≤ 9223372036854775807) (g : I64 d.gm) (r : I64 d.rad) (s : Sgs w vs d.segs) (c1 : 1 ≤ cap) (c2 : cap ≤ 9223372036854775807) : Bds w (.slice (some ⟨b, 0, none⟩) 1 cap) [d] :=
  ⟨_, b, 0, cap, rfl, fun _ => rfl, c1, c2, fun _ => World.block_lt_of_cell? w _ h0, one_lt (P := fun i => ∃ vs, (w.cell? ⟨b, 0 + i * 4, none⟩ = some (.string ([d].getD i body0).name) ∧ w.cell? ⟨b, 0 + i * 4 + 1, none⟩ = some (.int .i64 ([d].getD i body0).gm) ∧ w.cell? ⟨b, 0 + i * 4 + 2, none⟩ = some (.int .i64 ([d].getD i body0).rad) ∧ w.cell? ⟨b, 0 + i * 4 + 3, none⟩ = some vs) ∧
      ([d].getD i body0).name.size ≤ 9223372036854775807 ∧ I64 ([d].getD i body0).gm ∧ I64 ([d].getD i body0).rad ∧ Sgs w vs ([d].getD i body0).segs) ⟨vs, ⟨h0, h1, h2, h3⟩, n, g, r, s⟩⟩
theorem sgs_one {w : World} {b cap : Nat} {s : SegD} {v0 v1 v2 : Value} (h0 : w.cell? ⟨b, 0, none⟩ = some (.int .i64 s.fr)) (h1 : w.cell? ⟨b, 1, none⟩ = some (.int .i64 s.ti)) (h2 : w.cell? ⟨b, 2, none⟩ = some v0) (h3 : w.cell? ⟨b, 3, none⟩ = some v1) (h4 : w.cell? ⟨b, 4, none⟩ = some v2)
    (f : I64 s.fr) (t : I64 s.ti) (x0 : Xs w v0 s.c0) (x1 : Xs w v1 s.c1) (x2 : Xs w v2 s.c2) (c1 : 1 ≤ cap) (c2 : cap ≤ 9223372036854775807) : Sgs w (.slice (some ⟨b, 0, none⟩) 1 cap) [s] :=
  ⟨_, b, 0, cap, rfl, fun _ => rfl, c1, c2, fun _ => World.block_lt_of_cell? w _ h0, one_lt (P := fun i => ∃ v0 v1 v2, (w.cell? ⟨b, 0 + i * 5, none⟩ = some (.int .i64 ([s].getD i seg0).fr) ∧ w.cell? ⟨b, 0 + i * 5 + 1, none⟩ = some (.int .i64 ([s].getD i seg0).ti) ∧ w.cell? ⟨b, 0 + i * 5 + 2, none⟩ = some v0 ∧ w.cell? ⟨b, 0 + i * 5 + 3, none⟩ = some v1 ∧ w.cell? ⟨b, 0 + i * 5 + 4, none⟩ = some v2) ∧
      I64 ([s].getD i seg0).fr ∧ I64 ([s].getD i seg0).ti ∧ Xs w v0 ([s].getD i seg0).c0 ∧ Xs w v1 ([s].getD i seg0).c1 ∧ Xs w v2 ([s].getD i seg0).c2) ⟨v0, v1, v2, ⟨h0, h1, h2, h3, h4⟩, f, t, x0, x1, x2⟩⟩
def ZB (w : World) (g : Nat) : Prop := w.there g 0 18 ∧ g < w.heap.size
theorem ZB.lit (w : World) : ZB (w.alloc (.cells #[.int .i64 0, .int .i64 0, .int .i64 0, .int .i64 0, .int .i64 0, .int .i64 0, .int .i64 0, .int .i64 0, .int .i64 0, .int .i64 0, .int .i64 0, .int .i64 0, .int .i64 0, .int .i64 0, .int .i64 0, .int .i64 0, .int .i64 0, .int .i64 0] 35)) w.heap.size := by
 refine ⟨fun j hj => ⟨?_, by simp [go_sem]⟩, by simp⟩
 rw [World.cell?_alloc_new, Nat.zero_add, Option.isSome_iff_exists]
 exact ⟨_, Array.getElem?_eq_getElem hj⟩
theorem ZB.ext {a w : World} {g : Nat} (h : ZB a g) (k : Ext a w) : ZB w g := ⟨fun j hj => ⟨by rw [k.cells.1 g _ h.2]; exact (h.1 j hj).1, by rw [k.cells.2 g _ h.2]; exact (h.1 j hj).2⟩, Nat.lt_of_lt_of_le h.2 k.size⟩
theorem ZB.there {w : World} {g : Nat} (h : ZB w g) : w.there g 0 18 := h.1
theorem wp_make {P : Program} {op : Oper} {a : Act} {w w' : World} {K : Act → World → Prop} {Q : Exit → Act → World → Prop} (t : TypeId) (x y : Operand) (ho : op.op = .makeSlice t x y) (u1 u2 v : Value) (hx : a.eval x = u1) (hy : a.eval y = u2)
    (hr : (Instr.makeSlice t u1 u2).run P w = .ok v w') (h : K (a.put op.dst v) w') : op.wp P a w K Q := by
 unfold Oper.wp
 simp [execOp, ho, hx, hy, hr, Result.andThen]
 exact h
theorem fn_make (w : World) : (Instr.makeSlice 22 (.int .i64 1) (.int .i64 1)).run Tryz.prog w = .ok (.slice (some ⟨w.heap.size, 0, none⟩) 1 1) (w.alloc (.cells #[.string ⟨#[]⟩, .int .i64 0, .int .i64 0, .slice none 0 0] 50)) := by
 obtain ⟨i, hi⟩ : ∃ i, Tryz.prog.info? 50 = some i := Option.isSome_iff_exists.1 c_11
 have hz : i.zero = some (.agg #[.string ⟨#[]⟩, .int .i64 0, .int .i64 0, .slice none 0 0]) := by
  exact T_FN0_1
 have hs : i.size = 4 := by
  have h : (Tryz.prog.info? 50).map (·.size) = some 4 := by kernel_rfl
  rw [hi] at h; exact Option.some.inj h
 have hb : i.bytes = 56 := by
  have h : (Tryz.prog.info? 50).map (·.bytes) = some 56 := by kernel_rfl
  rw [hi] at h; exact Option.some.inj h
 have h := run_makeSlice (P := Tryz.prog) w 22 50 i _ c_11 hi hz .i64 .i64 1 1 (by decide) (by decide) (by rw [hs]; decide) (by rw [hb]; decide) (by decide)
 rw [hs] at h
 have e : madeCells (Value.agg #[.string ⟨#[]⟩, .int .i64 0, .int .i64 0, .slice none 0 0]).cells (Int.toNat 1 * 4) = #[.string ⟨#[]⟩, .int .i64 0, .int .i64 0, .slice none 0 0] := by kernel_rfl
 rw [e] at h
 exact h
theorem fn_i64 {x : Int} (h : -9223372036854775808 ≤ x ∧ x ≤ 9223372036854775807) : I64 x := by unfold I64; omega
theorem fn_eph (u : World) : Bds ((((((u.alloc (.cells #[.int .i64 5497558138880] 2)).alloc (.cells #[.int .i64 0] 2)).alloc (.cells #[.int .i64 0] 2)).alloc (.cells #[.int .i64 0, .int .i64 1, .slice (some ⟨u.heap.size, 0, none⟩) 1 1, .slice (some ⟨u.heap.size + 1, 0, none⟩) 1 1, .slice (some ⟨u.heap.size + 1 + 1, 0, none⟩) 1 1] 47)).alloc (.cells #[.string ⟨#[97]⟩, .int .i64 1, .int .i64 0, .slice (some ⟨u.heap.size + 1 + 1 + 1, 0, none⟩) 1 1] 50)).alloc (.cells #[.slice (some ⟨u.heap.size + 1 + 1 + 1 + 1, 0, none⟩) 1 1] 24)) (.slice (some ⟨u.heap.size + 1 + 1 + 1 + 1, 0, none⟩) 1 1) (fnB 1) ∧ ((((((u.alloc (.cells #[.int .i64 5497558138880] 2)).alloc (.cells #[.int .i64 0] 2)).alloc (.cells #[.int .i64 0] 2)).alloc (.cells #[.int .i64 0, .int .i64 1, .slice (some ⟨u.heap.size, 0, none⟩) 1 1, .slice (some ⟨u.heap.size + 1, 0, none⟩) 1 1, .slice (some ⟨u.heap.size + 1 + 1, 0, none⟩) 1 1] 47)).alloc (.cells #[.string ⟨#[97]⟩, .int .i64 1, .int .i64 0, .slice (some ⟨u.heap.size + 1 + 1 + 1, 0, none⟩) 1 1] 50)).alloc (.cells #[.slice (some ⟨u.heap.size + 1 + 1 + 1 + 1, 0, none⟩) 1 1] 24)).cell? ⟨u.heap.size + 1 + 1 + 1 + 1 + 1, 0, none⟩ = some (.slice (some ⟨u.heap.size + 1 + 1 + 1 + 1, 0, none⟩) 1 1) ∧ u.heap.size + 1 + 1 + 1 + 1 + 1 < ((((((u.alloc (.cells #[.int .i64 5497558138880] 2)).alloc (.cells #[.int .i64 0] 2)).alloc (.cells #[.int .i64 0] 2)).alloc (.cells #[.int .i64 0, .int .i64 1, .slice (some ⟨u.heap.size, 0, none⟩) 1 1, .slice (some ⟨u.heap.size + 1, 0, none⟩) 1 1, .slice (some ⟨u.heap.size + 1 + 1, 0, none⟩) 1 1] 47)).alloc (.cells #[.string ⟨#[97]⟩, .int .i64 1, .int .i64 0, .slice (some ⟨u.heap.size + 1 + 1 + 1, 0, none⟩) 1 1] 50)).alloc (.cells #[.slice (some ⟨u.heap.size + 1 + 1 + 1 + 1, 0, none⟩) 1 1] 24)).heap.size := by
 have x0 : Xs ((((((u.alloc (.cells #[.int .i64 5497558138880] 2)).alloc (.cells #[.int .i64 0] 2)).alloc (.cells #[.int .i64 0] 2)).alloc (.cells #[.int .i64 0, .int .i64 1, .slice (some ⟨u.heap.size, 0, none⟩) 1 1, .slice (some ⟨u.heap.size + 1, 0, none⟩) 1 1, .slice (some ⟨u.heap.size + 1 + 1, 0, none⟩) 1 1] 47)).alloc (.cells #[.string ⟨#[97]⟩, .int .i64 1, .int .i64 0, .slice (some ⟨u.heap.size + 1 + 1 + 1, 0, none⟩) 1 1] 50)).alloc (.cells #[.slice (some ⟨u.heap.size + 1 + 1 + 1 + 1, 0, none⟩) 1 1] 24)) (.slice (some ⟨u.heap.size, 0, none⟩) 1 1) [5497558138880] := xs_one c_30 (fn_i64 (by decide)) (by decide) (by decide)
 have x1 : Xs ((((((u.alloc (.cells #[.int .i64 5497558138880] 2)).alloc (.cells #[.int .i64 0] 2)).alloc (.cells #[.int .i64 0] 2)).alloc (.cells #[.int .i64 0, .int .i64 1, .slice (some ⟨u.heap.size, 0, none⟩) 1 1, .slice (some ⟨u.heap.size + 1, 0, none⟩) 1 1, .slice (some ⟨u.heap.size + 1 + 1, 0, none⟩) 1 1] 47)).alloc (.cells #[.string ⟨#[97]⟩, .int .i64 1, .int .i64 0, .slice (some ⟨u.heap.size + 1 + 1 + 1, 0, none⟩) 1 1] 50)).alloc (.cells #[.slice (some ⟨u.heap.size + 1 + 1 + 1 + 1, 0, none⟩) 1 1] 24)) (.slice (some ⟨u.heap.size + 1, 0, none⟩) 1 1) [0] := xs_one c_30 (fn_i64 (by decide)) (by decide) (by decide)
 have x2 : Xs ((((((u.alloc (.cells #[.int .i64 5497558138880] 2)).alloc (.cells #[.int .i64 0] 2)).alloc (.cells #[.int .i64 0] 2)).alloc (.cells #[.int .i64 0, .int .i64 1, .slice (some ⟨u.heap.size, 0, none⟩) 1 1, .slice (some ⟨u.heap.size + 1, 0, none⟩) 1 1, .slice (some ⟨u.heap.size + 1 + 1, 0, none⟩) 1 1] 47)).alloc (.cells #[.string ⟨#[97]⟩, .int .i64 1, .int .i64 0, .slice (some ⟨u.heap.size + 1 + 1 + 1, 0, none⟩) 1 1] 50)).alloc (.cells #[.slice (some ⟨u.heap.size + 1 + 1 + 1 + 1, 0, none⟩) 1 1] 24)) (.slice (some ⟨u.heap.size + 1 + 1, 0, none⟩) 1 1) [0] := xs_one c_30 (fn_i64 (by decide)) (by decide) (by decide)
 have s : Sgs ((((((u.alloc (.cells #[.int .i64 5497558138880] 2)).alloc (.cells #[.int .i64 0] 2)).alloc (.cells #[.int .i64 0] 2)).alloc (.cells #[.int .i64 0, .int .i64 1, .slice (some ⟨u.heap.size, 0, none⟩) 1 1, .slice (some ⟨u.heap.size + 1, 0, none⟩) 1 1, .slice (some ⟨u.heap.size + 1 + 1, 0, none⟩) 1 1] 47)).alloc (.cells #[.string ⟨#[97]⟩, .int .i64 1, .int .i64 0, .slice (some ⟨u.heap.size + 1 + 1 + 1, 0, none⟩) 1 1] 50)).alloc (.cells #[.slice (some ⟨u.heap.size + 1 + 1 + 1 + 1, 0, none⟩) 1 1] 24)) (.slice (some ⟨u.heap.size + 1 + 1 + 1, 0, none⟩) 1 1) [fnSeg] := sgs_one c_66 c_66 c_30 c_30 c_30 (fn_i64 (by decide)) (fn_i64 (by decide)) x0 x1 x2 (by decide) (by decide)
 exact ⟨bds_one c_66 c_66 c_66 c_30 (by decide) (fn_i64 (by decide)) (fn_i64 (by decide)) s (by decide) (by decide), by simp [go_sem, ↓IntWalk.iteOmega], by simp [go_sem]⟩
theorem fn_cells {w : World} {b : Nat} (h : Bds w (.slice (some ⟨b, 0, none⟩) 1 1) (fnB 1)) : ∃ vs, Sgs w vs [fnSeg] ∧ vs.oneCell' = true ∧ ∀ W, Ext w W → ∀ j u, [Value.string ⟨#[97]⟩, .int .i64 1, .int .i64 0, vs][j]? = some u → W.cell? ((⟨b, 0, none⟩ : Addr).add j) = some u := by
 obtain ⟨ao, b', o, cap, e, h1, _, _, h4, h5⟩ := h
 cases e
 have e := h1 (by decide)
 cases e
 have hb := h4 (by decide)
 obtain ⟨vs, ⟨c0, c1, c2, c3⟩, _, _, _, hs⟩ := h5 0 (by decide)
 have ho : vs.oneCell' = true := by
  obtain ⟨_, _, _, _, e, _⟩ := hs
  subst e; rfl
 refine ⟨vs, hs, ho, fun W k j u hj => ?_⟩
 rw [Addr.add_lit, Nat.zero_add]
 match j, hj with
 | 0, hj => cases hj; exact (k.cells.1 b 0 hb).trans c0
 | 1, hj => cases hj; exact (k.cells.1 b 1 hb).trans c1
 | 2, hj => cases hj; exact (k.cells.1 b 2 hb).trans c2
 | 3, hj => cases hj; exact (k.cells.1 b 3 hb).trans c3
 | j + 4, hj => simp at hj
theorem fn_still {w W : World} {base g cap : Nat} {vs : Value} (h : W.ownsRow base 50 4 (.slice (some ⟨g, 0, none⟩) 1 cap) 1 [.string ⟨#[97]⟩, .int .i64 1, .int .i64 0, vs]) (hs : Sgs w vs [fnSeg]) (hb : w.heap.size ≤ base) :
    base ≤ g ∧ g < W.heap.size ∧ W.cell? ⟨g, 1, none⟩ = some (.int .i64 1) ∧ W.frozen? ⟨g, 1, none⟩ = false ∧ ∀ X, Ext w X → (∀ j, X.cell? ⟨g, j, none⟩ = W.cell? ⟨g, j, none⟩) → Bds (X.setCell ⟨g, 1, none⟩ (.int .i64 0)) (.slice (some ⟨g, 0, none⟩) 1 cap) (fnB 0) := by
 have hlt := h.lt g rfl
 have hc := fun j hj => h.cellAt (g := g) (cap := cap) j hj
 have q0 := hc 0 (by decide); have q1 := hc 1 (by decide); have q2 := hc 2 (by decide); have q3 := hc 3 (by decide)
 have hg : w.heap.size ≤ g := by omega
 have hcap : 1 ≤ cap ∧ cap ≤ 9223372036854775807 := by
  obtain ⟨_, h1 | ⟨g', c', cur, e, _, _, h2, h3, _⟩⟩ := h
  ·cases h1.1
  ·cases e; exact ⟨h2, by simpa [maxLen] using h3⟩
 refine ⟨hlt.1, hlt.2, q1, h.frozenAt 1, fun X kX p => ?_⟩
 have kw : Ext w (X.setCell ⟨g, 1, none⟩ (.int .i64 0)) := kX.setCell hg _
 have n1 : ∀ j, j ≠ 1 → (X.setCell ⟨g, 1, none⟩ (.int .i64 0)).cell? ⟨g, j, none⟩ = X.cell? ⟨g, j, none⟩ := fun j hj => by
  rw [cell_sc, if_neg (fun e => hj (by have := congrArg Addr.off e; simpa using this))]
 refine bds_one (d := fnBd 0) (vs := vs) ((n1 0 (by decide)).trans ((p 0).trans q0)) ?_ ((n1 2 (by decide)).trans ((p 2).trans q2)) ((n1 3 (by decide)).trans ((p 3).trans q3)) (by decide) (fn_i64 (by decide)) (fn_i64 (by decide)) (hs.ext kw) hcap.1 hcap.2
 rw [cell_sc, if_pos rfl, p 1, q1]
 rfl
theorem Ext.grow {a w w' : World} (h : Ext a w) (k : w.grownBy w' none) : Ext a w' := Below.grown h k h.size (fun _ e => by cases e)
theorem fn_type : ∃ i, Tryz.prog.info? 50 = some i ∧ i.zero = some (.agg #[.string ⟨#[]⟩, .int .i64 0, .int .i64 0, .slice none 0 0]) ∧ i.size = 4 ∧ i.bytes = 56 ∧ Tryz.prog.underlying 22 = some (.slice 50) := by
 obtain ⟨i, hi⟩ : ∃ i, Tryz.prog.info? 50 = some i := Option.isSome_iff_exists.1 c_11
 refine ⟨i, hi, ?_, ?_, ?_, by kernel_rfl⟩
 ·exact T_FN0_1
 ·have h : (Tryz.prog.info? 50).map (·.size) = some 4 := by kernel_rfl
  rw [hi] at h; exact Option.some.inj h
 ·have h : (Tryz.prog.info? 50).map (·.bytes) = some 56 := by kernel_rfl
  rw [hi] at h; exact Option.some.inj h
end Go.Proofs.YtbkgakgdbmjmjaaGreat
