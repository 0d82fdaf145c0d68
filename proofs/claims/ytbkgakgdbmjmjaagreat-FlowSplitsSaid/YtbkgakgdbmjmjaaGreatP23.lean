/- ephem.Over. -/
import Derived.Test.YtbkgakgdbmjmjaaGreatP22
set_option linter.unusedSimpArgs false
set_option linter.unusedVariables false
set_option maxRecDepth 100000
set_option maxHeartbeats 4000000
namespace Go.Proofs.YtbkgakgdbmjmjaaGreat
open Go.RowKit Go.Shelf
attribute [local go_sem] Oper.semAt_some
theorem wpIn_nmA {F : Fence} {n : Nat} {P : Program} {c : Code} {Q : Exit → Act → World → Prop} {a : Act} {w : World} (h : ∀ b, b = a → c.wpIn F n P Q b w) : c.wpIn F n P Q a w := h a rfl
theorem wpIn_nm {F : Fence} {n : Nat} {P : Program} {c : Code} {Q : Exit → Act → World → Prop} {a : Act} {w : World} (h : ∀ W, W = w → c.wpIn F n P Q a W) : c.wpIn F n P Q a w := h w rfl
theorem frozen_of_kept {A B : World} {row : Option Nat} {b o : Nat} {v : Value} (h0 : A.cell? ⟨b, o, none⟩ = some v) (hg : A.grownBy B row) (hr : ∀ r, row = some r → ∃ o : Obj, A.heap[r]? = some o ∧ o.isCells = false) : B.frozen? ⟨b, o, none⟩ = A.frozen? ⟨b, o, none⟩ := frozen_kept h0 hg hr
theorem wpIn_one {F : Fence} {n : Nat} {P : Program} {c : Code} {Q : Exit → Act → World → Prop} {a A : Act} {w : World} {R : World → Prop} (h1 : c.wpIn F n P (fun e a' w' => e = .normal ∧ a' = A ∧ R w') a w) (h2 : ∀ w', R w' → Q .normal A w') : c.wpIn F n P Q a w :=
  Code.wpIn_mono (fun e a' w' h => by obtain ⟨rfl, rfl, h⟩ := h; exact h2 w' h) h1
def OI (D : BodyD) (fr ti : Int) (g : Nat) (pre : List (DU D fr ti)) (W : World) : Prop :=
  V6 W (g + 1) (oeF D fr ti pre).2 ∧ W.cell? ⟨g + 1 + 1, 0, none⟩ = some (.int .i64 (pre.length : Nat)) ∧ W.frozen? ⟨g + 1 + 1, 0, none⟩ = false ∧ g + 6 ≤ W.heap.size
theorem OI.kept {D : BodyD} {fr ti : Int} {g : Nat} {pre : List (DU D fr ti)} {A B : World} {row : Option Nat} (h : OI D fr ti g pre A) (hg : A.grownBy B row) (hr : ∀ r, row = some r → ∃ o : Obj, A.heap[r]? = some o ∧ o.isCells = false) : OI D fr ti g pre B :=
  ⟨h.1.kept hg hr, cell_kept h.2.1 hg hr, (frozen_kept h.2.1 hg hr).trans h.2.2.1, Nat.le_trans h.2.2.2 hg.size⟩
def OA (D : BodyD) (V : Nat → Value × Value × Value) (fr ti : Int) (j : Nat) (Bs Bp : Nat) (W : World) : Prop :=
  W.cell? ⟨Bs, 0, none⟩ = some (.int .i64 (sgA D j).fr) ∧ W.cell? ⟨Bs, 1, none⟩ = some (.int .i64 (sgA D j).ti) ∧ W.cell? ⟨Bs, 2, none⟩ = some (V j).1 ∧ W.cell? ⟨Bs, 3, none⟩ = some (V j).2.1 ∧ W.cell? ⟨Bs, 4, none⟩ = some (V j).2.2 ∧
  W.cell? ⟨Bp, 0, none⟩ = some (.int .i64 (oeX (sgA D j) fr)) ∧ W.cell? ⟨Bp, 1, none⟩ = some (.int .i64 (oeY (sgA D j) ti))
theorem OA.kept {D : BodyD} {V : Nat → Value × Value × Value} {fr ti : Int} {j Bs Bp : Nat} {A B : World} {row : Option Nat} (h : OA D V fr ti j Bs Bp A) (hg : A.grownBy B row) (hr : ∀ r, row = some r → ∃ o : Obj, A.heap[r]? = some o ∧ o.isCells = false) : OA D V fr ti j Bs Bp B := by
  obtain ⟨h0, h1, h2, h3, h4, h5, h6⟩ := h
  exact ⟨cell_kept h0 hg hr, cell_kept h1 hg hr, cell_kept h2 hg hr, cell_kept h3 hg hr, cell_kept h4 hg hr, cell_kept h5 hg hr, cell_kept h6 hg hr⟩
theorem Ext.keeps {A B : World} (h : Ext A B) : KeepsOthers A B := ⟨h.size, fun k o hk ho => (h.block k (Array.getElem?_eq_some_iff.1 hk).1).trans hk⟩
theorem over_end {D : BodyD} {fr ti : Int} {g B : Nat} {pre : List (DU D fr ti)} {x : DU D fr ti} {w4 W Y : World} {va vb vc vd ve vf : Int} {c : Int} {a : Act} {Ix : Code → List (DU D fr ti) → World → Prop} (hI : OI D fr ti g pre W) (hB : Below g w4 W) (e : Ext W Y) (hs : (oeF D fr ti (pre ++ [x])).2 = ⟨va, vb, vc, vd, ve, vf⟩) (hc : c = (pre.length : Int) + 1) :
    ownPostG B (KC g ⟨g + 1 + 1 + 1, 3, none⟩ ⟨g + 1 + 1 + 1 + 1 + 1, 0, none⟩ ⟨g + 1 + 1 + 1 + 1, 0, none⟩) (fun pre W => OI D fr ti g pre W ∧ Below g w4 W) Ix (pre ++ [x]) W Exit.normal a
      (((((((Y.setCell ⟨g + 1, 0, none⟩ (.int .i64 va)).setCell ⟨g + 1, 1, none⟩ (.int .i64 vb)).setCell ⟨g + 1, 2, none⟩ (.int .i64 vc)).setCell ⟨g + 1, 3, none⟩ (.int .i64 vd)).setCell ⟨g + 1, 4, none⟩ (.int .i64 ve)).setCell ⟨g + 1, 5, none⟩ (.int .i64 vf)).setCell ⟨g + 1 + 1, 0, none⟩ (.int .i64 c)) := by
  obtain ⟨h6, hc0, hf0, hs0⟩ := hI
  have k1 : KeepsOthers W (((((((Y.setCell ⟨g + 1, 0, none⟩ (.int .i64 va)).setCell ⟨g + 1, 1, none⟩ (.int .i64 vb)).setCell ⟨g + 1, 2, none⟩ (.int .i64 vc)).setCell ⟨g + 1, 3, none⟩ (.int .i64 vd)).setCell ⟨g + 1, 4, none⟩ (.int .i64 ve)).setCell ⟨g + 1, 5, none⟩ (.int .i64 vf)).setCell ⟨g + 1 + 1, 0, none⟩ (.int .i64 c)) :=
    (((((((e.keeps.trans (KeepsOthers.setCell _ _ _)).trans (KeepsOthers.setCell _ _ _)).trans (KeepsOthers.setCell _ _ _)).trans (KeepsOthers.setCell _ _ _)).trans (KeepsOthers.setCell _ _ _)).trans (KeepsOthers.setCell _ _ _)).trans (KeepsOthers.setCell _ _ _))
  have k2 : Below g W (((((((Y.setCell ⟨g + 1, 0, none⟩ (.int .i64 va)).setCell ⟨g + 1, 1, none⟩ (.int .i64 vb)).setCell ⟨g + 1, 2, none⟩ (.int .i64 vc)).setCell ⟨g + 1, 3, none⟩ (.int .i64 vd)).setCell ⟨g + 1, 4, none⟩ (.int .i64 ve)).setCell ⟨g + 1, 5, none⟩ (.int .i64 vf)).setCell ⟨g + 1 + 1, 0, none⟩ (.int .i64 c)) :=
    ((((((((e.mono (show g ≤ W.heap.size by omega)).setCell (p := ⟨g + 1, 0, none⟩) (by simp) _).setCell (p := ⟨g + 1, 1, none⟩) (by simp) _).setCell (p := ⟨g + 1, 2, none⟩) (by simp) _).setCell (p := ⟨g + 1, 3, none⟩) (by simp) _).setCell (p := ⟨g + 1, 4, none⟩) (by simp) _).setCell (p := ⟨g + 1, 5, none⟩) (by simp) _).setCell (p := ⟨g + 1 + 1, 0, none⟩) (by dsimp only; omega) _)
  have hoth : ∀ b o, g + 1 + 1 < b → b < g + 6 → World.cell? (((((((Y.setCell ⟨g + 1, 0, none⟩ (.int .i64 va)).setCell ⟨g + 1, 1, none⟩ (.int .i64 vb)).setCell ⟨g + 1, 2, none⟩ (.int .i64 vc)).setCell ⟨g + 1, 3, none⟩ (.int .i64 vd)).setCell ⟨g + 1, 4, none⟩ (.int .i64 ve)).setCell ⟨g + 1, 5, none⟩ (.int .i64 vf)).setCell ⟨g + 1 + 1, 0, none⟩ (.int .i64 c)) ⟨b, o, none⟩ = W.cell? ⟨b, o, none⟩ := fun b o h1 h2 => by
    rw [← e.cells.1 b o (by omega)]
    have n1 : b ≠ g + 1 := by omega
    have n2 : b ≠ g + 1 + 1 := by omega
    simp [go_sem, ↓IntWalk.iteOmega, n1, n2]
  have v6 := ((h6.ext e).store ⟨va, vb, vc, vd, ve, vf⟩).other (B := g + 1 + 1) (j := 0) (by omega) (.int .i64 c)
  have cc := (e.cells.1 (g + 1 + 1) 0 (by omega)).trans hc0
  have cf := (e.cells.2 (g + 1 + 1) 0 (by omega)).trans hf0
  refine ⟨k1.from _, ⟨k2, hoth _ _ (by omega) (by omega), hoth _ _ (by omega) (by omega), hoth _ _ (by omega) (by omega)⟩, ⟨?_, ?_, ?_, ?_⟩, hB.trans k2⟩
  · rw [hs]; exact v6
  · simp [go_sem, ↓IntWalk.iteOmega, cc, hc]
  · simp only [World.frozen?_setCell]; exact cf
  · have := e.size; simp; omega
theorem over_leave {w Wd w6 : World} {Dd g : Nat} {u : V3} (va vb vc vd ve vf : Int) (hK : Wd.heap[Dd]? = some (.deferred (some []))) (hX : Ext w Wd) (hb6 : Ext Wd w6) (hg : w.heap.size ≤ g) (hD : w.heap.size ≤ Dd) (h6 : V6 Wd g u) :
    ∃ Z : World, Z = ((((((w6.setCell ⟨g, 0, none⟩ (.int .i64 va)).setCell ⟨g, 1, none⟩ (.int .i64 vb)).setCell ⟨g, 2, none⟩ (.int .i64 vc)).setCell ⟨g, 3, none⟩ (.int .i64 vd)).setCell ⟨g, 4, none⟩ (.int .i64 ve)).setCell ⟨g, 5, none⟩ (.int .i64 vf)) ∧ Z.heap[Dd]? = some (.deferred (some [])) ∧ V6 (Z.putObj Dd (.deferred none)) g ⟨va, vb, vc, vd, ve, vf⟩ ∧ Ext w (Z.putObj Dd (.deferred none)) := by
  have k1 : KeepsOthers Wd ((((((w6.setCell ⟨g, 0, none⟩ (.int .i64 va)).setCell ⟨g, 1, none⟩ (.int .i64 vb)).setCell ⟨g, 2, none⟩ (.int .i64 vc)).setCell ⟨g, 3, none⟩ (.int .i64 vd)).setCell ⟨g, 4, none⟩ (.int .i64 ve)).setCell ⟨g, 5, none⟩ (.int .i64 vf)) :=
    (((((hb6.keeps.trans (KeepsOthers.setCell _ _ _)).trans (KeepsOthers.setCell _ _ _)).trans (KeepsOthers.setCell _ _ _)).trans (KeepsOthers.setCell _ _ _)).trans (KeepsOthers.setCell _ _ _)).trans (KeepsOthers.setCell _ _ _)
  have k2 : Ext w ((((((w6.setCell ⟨g, 0, none⟩ (.int .i64 va)).setCell ⟨g, 1, none⟩ (.int .i64 vb)).setCell ⟨g, 2, none⟩ (.int .i64 vc)).setCell ⟨g, 3, none⟩ (.int .i64 vd)).setCell ⟨g, 4, none⟩ (.int .i64 ve)).setCell ⟨g, 5, none⟩ (.int .i64 vf)) := ((((((hX.trans hb6).setCell hg _).setCell hg _).setCell hg _).setCell hg _).setCell hg _).setCell hg _
  have k3 := (h6.ext hb6).store ⟨va, vb, vc, vd, ve, vf⟩
  refine ⟨_, rfl, ?_⟩
  dsimp only at k3
  generalize ((((((w6.setCell ⟨g, 0, none⟩ (.int .i64 va)).setCell ⟨g, 1, none⟩ (.int .i64 vb)).setCell ⟨g, 2, none⟩ (.int .i64 vc)).setCell ⟨g, 3, none⟩ (.int .i64 vd)).setCell ⟨g, 4, none⟩ (.int .i64 ve)).setCell ⟨g, 5, none⟩ (.int .i64 vf)) = Z at *
  have hK' := k1.same Dd _ hK rfl
  exact ⟨hK', k3.kept (grownBy_putObj' _ Dd (.deferred none)) (fun r e => by cases e; exact ⟨_, hK', rfl⟩), Below.trans k2 (belowK_b (w := w) (Nat.le_refl _) Z Dd _ _ hD hK' rfl rfl)⟩
theorem dur_stops (n : Nat) (hn : 1 ≤ n) (B0 B1 B2 n₁ sb so scap : Nat) (d : BodyD) (fr ti : Int) (V : Nat → Value × Value × Value) (w0 w : World) (hw0 : w0.heap.size = n₁) (hS : SgL w0 sb so d V) (hlc : d.segs.length ≤ scap) (hcap : scap ≤ 9223372036854775807)
    (hE : Ext w0 w) (c0 : w.cell? ⟨B0, 3, none⟩ = some (.slice (some ⟨sb, so, none⟩) d.segs.length scap)) (c1 : w.cell? ⟨B1, 0, none⟩ = some (.int .i64 ti)) (c2 : w.cell? ⟨B2, 0, none⟩ = some (.int .i64 fr)) :
    SeqStopsK Fence.wide n Tryz.prog 177 #[.pointer (some ⟨B0, 0, none⟩), .pointer (some ⟨B1, 0, none⟩), .pointer (some ⟨B2, 0, none⟩)] (fun x : DU d fr ti => #[vsg d V x.1, vpr d fr ti x.1]) (KC n₁ ⟨B0, 3, none⟩ ⟨B1, 0, none⟩ ⟨B2, 0, none⟩)
      (fun ys => ys = selU d fr ti d.segs.length) (fun _ => True) d.segs.length w := fun l J Jx W hW hJ _ hY h0 =>
  dur1_in Fence.wide n trivial rfl hn l B0 B1 B2 n₁ sb so scap d fr ti V w0 hw0 hS hlc hcap J Jx W hJ hY (hE.trans hW)
    ((hW.cell (World.block_lt_of_cell? w _ c0)).trans c0) ((hW.cell (World.block_lt_of_cell? w _ c1)).trans c1) ((hW.cell (World.block_lt_of_cell? w _ c2)).trans c2) h0
theorem p_Over_in (v : Value) (l : List BodyD) (i : Nat) (fr ti : Int) (w : World) (hB : Bds w v l) (hE : CkE l 0) (hS : Sml l) (hi : i < l.length) :
    CallsIn Fence.wide 6 Tryz.prog 87 #[.agg #[v], .int .i64 (i : Int), .int .i64 fr, .int .i64 ti] w fun e w' => e = .returned (.tuple #[.agg #[.int .i64 (oeR (bd l i) fr ti).v.a, .int .i64 (oeR (bd l i) fr ti).v.b, .int .i64 (oeR (bd l i) fr ti).v.c, .int .i64 (oeR (bd l i) fr ti).v.d, .int .i64 (oeR (bd l i) fr ti).v.e, .int .i64 (oeR (bd l i) fr ti).v.f], .int .i64 (oeR (bd l i) fr ti).e]) ∧ Ext w w' := by
  have hk := fun w1 (k1 : Ext w w1) => p_get v l i w1 (hB.ext k1) hE hi
  obtain ⟨ao, b, o, cap, rfl, ha, hl, hm⟩ := hB.len
  have hbd := (hE.zero rfl).2.1 i hi
  have hsk : ∀ k, k < (bd l i).segs.length → SOk (sgA (bd l i) k) := fun k hk => sml_sok (hE.zero rfl).2 hS hi hk
  have hmx : Tryz.prog.follows .mixedOrders = true := by kernel_rfl
  obtain ⟨nm, hnm⟩ : ∃ z, (bd l i).name = z := ⟨_, rfl⟩
  obtain ⟨gm, hgm⟩ : ∃ z, (bd l i).gm = z := ⟨_, rfl⟩
  obtain ⟨rad, hrad⟩ : ∃ z, (bd l i).rad = z := ⟨_, rfl⟩
  rw [hnm, hgm, hrad] at hk
  have hlen : 0 < (bd l i).segs.length := hbd.2.2.2.2.2.1
  have hl4 : (bd l i).segs.length ≤ 4 := (hS.2 i hi).1
  generalize bd l i = D at *
  obtain ⟨M, hM⟩ : ∃ M, D.segs.length = M + 1 := ⟨D.segs.length - 1, by omega⟩
  obtain ⟨f0, hf0⟩ : ∃ z, (sgA D 0).fr = z := ⟨_, rfl⟩
  obtain ⟨tl, htl⟩ : ∃ z, (sgA D M).ti = z := ⟨_, rfl⟩
  refine callsIn_of_wp_marks Tryz.func87 rfl trivial ?_ rfl
  simp only [Tryz.ntmps87, List.size_toArray, List.length_cons, List.length_nil, Nat.reduceAdd, Nat.reduceSub, Array.replicate_succ, Array.replicate_zero, List.push_toArray, List.append_toArray, List.nil_append, List.cons_append]
  by_cases h1 : ti < fr
  · have hR : oeR D fr ti = ⟨V3.O, 2⟩ := by unfold oeR; rw [if_pos h1]
    rw [hR]
    gi_wp2_with (refine ⟨trivial, ?_⟩; gi_at_call 131; (with_reducible refine (callsIn_wide.2 (hk _ (by repeat (first | with_reducible exact Ext.refl _ | with_reducible assumption | with_reducible refine Ext.alloc ?_ _ | with_reducible refine Ext.setCell ?_ (by (try simp only [World.size_alloc, World.size_setCell]); omega) _ | with_reducible refine Ext.drewN ?_ _ | with_reducible refine Ext.drew ?_ | with_reducible refine Ext.trans ?_ (by with_reducible assumption))))).mono ?_); rintro e w4 ⟨vs, rfl, hs4, hb4⟩; obtain ⟨sao, sb, so, scap, rfl, hsa, -, -⟩ := hs4.len; obtain ⟨_, _, hc4, hf4⟩ := hb4.cells2; have hz4 := hb4.size; (try simp only [World.size_alloc, World.size_setCell] at hz4 hc4 hf4))
    all_goals
      refine ⟨.tuple #[.agg #[.int .i64 0, .int .i64 0, .int .i64 0, .int .i64 0, .int .i64 0, .int .i64 0], .int .i64 2], ?_, rfl, ?_⟩
      · simp [results, Tryz.f87, go_sem, ↓IntWalk.iteOmega, *]
      · repeat (first | with_reducible exact Ext.refl _ | with_reducible assumption | with_reducible refine Ext.alloc ?_ _ | with_reducible refine Ext.setCell ?_ (by (try simp only [World.size_alloc, World.size_setCell]); omega) _ | with_reducible refine Ext.drewN ?_ _ | with_reducible refine Ext.drew ?_ | with_reducible refine Ext.trans ?_ (by with_reducible assumption))
  by_cases h2 : outR D fr ti
  · have hR : oeR D fr ti = ⟨V3.O, 16⟩ := by unfold oeR; rw [if_neg h1, if_pos h2]
    rw [hR]
    unfold outR at h2
    rw [hM, Nat.add_sub_cancel, hf0, htl] at h2
    gi_wp2_with (refine ⟨trivial, ?_⟩; gi_at_call 131; (with_reducible refine (callsIn_wide.2 (hk _ (by repeat (first | with_reducible exact Ext.refl _ | with_reducible assumption | with_reducible refine Ext.alloc ?_ _ | with_reducible refine Ext.setCell ?_ (by (try simp only [World.size_alloc, World.size_setCell]); omega) _ | with_reducible refine Ext.drewN ?_ _ | with_reducible refine Ext.drew ?_ | with_reducible refine Ext.trans ?_ (by with_reducible assumption))))).mono ?_); rintro e w4 ⟨vs, rfl, hs4, hb4⟩; obtain ⟨sao, sb, so, scap, rfl, hsa, -, -⟩ := hs4.len; obtain rfl := hsa hlen; obtain ⟨V, hV⟩ := (hs4.ext hb4).lay hlen; have hsb := hV.1; have g0 := (hV.2 0 hlen).1; simp only [Nat.zero_mul, Nat.add_zero] at g0; have g1 := (hV.2 M (by omega)).2.1; rw [hf0] at g0; rw [htl] at g1; obtain ⟨_, _, hc4, hf4⟩ := hb4.cells2; have hz4 := hb4.size; (try simp only [World.size_alloc, World.size_setCell] at hz4 hc4 hf4))
    all_goals
      refine ⟨.tuple #[.agg #[.int .i64 0, .int .i64 0, .int .i64 0, .int .i64 0, .int .i64 0, .int .i64 0], .int .i64 16], ?_, rfl, ?_⟩
      · simp [results, Tryz.f87, go_sem, ↓IntWalk.iteOmega, *]
      · repeat (first | with_reducible exact Ext.refl _ | with_reducible assumption | with_reducible refine Ext.alloc ?_ _ | with_reducible refine Ext.setCell ?_ (by (try simp only [World.size_alloc, World.size_setCell]); omega) _ | with_reducible refine Ext.drewN ?_ _ | with_reducible refine Ext.drew ?_ | with_reducible refine Ext.trans ?_ (by with_reducible assumption))
  have hR : oeR D fr ti = if ckV (oeV D fr ti) ≠ 0 then ⟨V3.O, 16⟩ else ⟨oeV D fr ti, 0⟩ := by unfold oeR; rw [if_neg h1, if_neg h2]
  unfold outR at h2
  rw [hM, Nat.add_sub_cancel, hf0, htl] at h2
  have hft : fr ≤ ti := by omega
  have h3 : f0 ≤ fr ∧ ti ≤ tl := by omega
  clear h1 h2
  obtain ⟨R, hRR⟩ : ∃ z, oeR D fr ti = z := ⟨_, rfl⟩
  rw [hRR] at hR ⊢
  gi_wp2_with (first
    | (refine ⟨trivial, ?_⟩; gi_at_call 131; (with_reducible refine (callsIn_wide.2 (hk _ (by repeat (first | with_reducible exact Ext.refl _ | with_reducible assumption | with_reducible refine Ext.alloc ?_ _ | with_reducible refine Ext.setCell ?_ (by (try simp only [World.size_alloc, World.size_setCell]); omega) _ | with_reducible refine Ext.drewN ?_ _ | with_reducible refine Ext.drew ?_ | with_reducible refine Ext.trans ?_ (by with_reducible assumption))))).mono ?_); rintro e w4 ⟨vs, rfl, hs4, hb4⟩; obtain ⟨sao, sb, so, scap, rfl, hsa, hsc, hsm⟩ := hs4.len; obtain rfl := hsa hlen; obtain ⟨V, hV⟩ := (hs4.ext hb4).lay hlen; have hsb := hV.1; have g0 := (hV.2 0 hlen).1; simp only [Nat.zero_mul, Nat.add_zero] at g0; have g1 := (hV.2 M (by omega)).2.1; rw [hf0] at g0; rw [htl] at g1; obtain ⟨_, _, hc4, hf4⟩ := hb4.cells2; have hz4 := hb4.size; (try simp only [World.size_alloc, World.size_setCell] at hz4 hc4 hf4))
    | (refine ⟨trivial, ?_⟩; gi_at_call 132; (with_reducible refine (callsIn_wide.2 (p_during _ _ _ _ _ _ _ _ _)).mono ?_); rintro e w5 ⟨rfl, rfl⟩))
  refine wpIn_nmA fun b0 hb0 => ?_
  refine wpIn_nm fun W0 hW0 => ?_
  obtain ⟨g, hg⟩ : ∃ g, w4.heap.size = g := ⟨_, rfl⟩
  have hgw : w.heap.size + 1 + 1 ≤ g := by omega
  have hs0 : W0.heap.size = g + 6 := by rw [hW0, ← hg]; simp
  have hX0 : Ext w4 W0 := by rw [hW0]; exact ((((((Ext.refl w4).alloc _).alloc _).alloc _).alloc _).alloc _).alloc _
  have hXw : Ext w w4 := by repeat (first | with_reducible exact Ext.refl _ | with_reducible assumption | with_reducible refine Ext.alloc ?_ _ | with_reducible refine Ext.setCell ?_ (by (try simp only [World.size_alloc, World.size_setCell]); omega) _ | with_reducible refine Ext.drewN ?_ _ | with_reducible refine Ext.drew ?_ | with_reducible refine Ext.trans ?_ (by with_reducible assumption))
  have q12 : V6 W0 (g + 1) V3.O := by
    have h := V6.lit (w4.alloc (.cells #[.string nm, .int .i64 gm, .int .i64 rad, .slice (some ⟨sb, so, none⟩) (M + 1) scap] 50)) 0 0 0 0 0 0 28
    rw [World.size_alloc, hg] at h
    rw [hW0]
    exact (((h.ext ((Ext.refl _).alloc _)).ext ((Ext.refl _).alloc _)).ext ((Ext.refl _).alloc _)).ext ((Ext.refl _).alloc _)
  have q13 : W0.cell? ⟨g + 1 + 1, 0, none⟩ = some (.int .i64 0) ∧ W0.frozen? ⟨g + 1 + 1, 0, none⟩ = false := by rw [hW0, ← hg]; constructor <;> simp [go_sem, ↓IntWalk.iteOmega]
  have c0 : W0.cell? ⟨g + 1 + 1 + 1, 3, none⟩ = some (.slice (some ⟨sb, so, none⟩) D.segs.length scap) := by rw [hW0, ← hg, hM]; simp [go_sem, ↓IntWalk.iteOmega]
  have c2 : W0.cell? ⟨g + 1 + 1 + 1 + 1, 0, none⟩ = some (.int .i64 fr) := by rw [hW0, ← hg]; simp [go_sem, ↓IntWalk.iteOmega]
  have c1 : W0.cell? ⟨g + 1 + 1 + 1 + 1 + 1, 0, none⟩ = some (.int .i64 ti) := by rw [hW0, ← hg]; simp [go_sem, ↓IntWalk.iteOmega]
  rw [hg] at hb0
  refine wpIn_rangeFunc_ownH rfl (by omega) (gf := 177) (lb := #[.pointer (some ⟨g + 1 + 1 + 1, 0, none⟩), .pointer (some ⟨g + 1 + 1 + 1 + 1 + 1, 0, none⟩), .pointer (some ⟨g + 1 + 1 + 1 + 1, 0, none⟩)]) (by rw [hb0]; rfl) trivial (enters_of Tryz.func177 (by kernel_rfl) rfl)
    (dur_stops 5 (by omega) _ _ _ g sb so scap D fr ti V w4 W0 hg hV hsc hsm hX0 c0 c1 c2) KC.trans (kc_b (by omega) (by dsimp only; omega) (by dsimp only; omega) (by dsimp only; omega)) (Below.refl _ _) (fun _ => rfl)
    (fun pre W => OI D fr ti g pre W ∧ Below g w4 W) (fun _ _ _ => False)
    (OwnFrom.and (Own.from (fun s A B row hs hg hr => hs.kept hg hr) _) (ownFrom_below (by omega) (by omega)))
    (fun _ _ _ _ _ hs _ _ => hs)
    ⟨⟨q12, q13.1, q13.2, by omega⟩, by rw [← hg]; exact hX0⟩
    (fun x a' W => ∃ Bs Bp, OA D V fr ti x.1 Bs Bp W ∧ a' = { tmps := (((b0.tmps.setIfInBounds 59 (vsg D V x.1)).setIfInBounds 60 (vpr D fr ti x.1)).setIfInBounds 14 (.pointer (some ⟨Bs, 0, none⟩))).setIfInBounds 15 (.pointer (some ⟨Bp, 0, none⟩)), defers := [] })
    (fun x a' _ X Y row hs hg hr => by obtain ⟨Bs, Bp, h3, h4⟩ := hs; exact ⟨Bs, Bp, h3.kept hg (fun r e => (hr r e).2), h4⟩)
    ?assign ?body ?done ?stop
  case assign =>
    rintro l pre ⟨j, hjl, hin⟩ W K ⟨hI, hB⟩ hK
    obtain ⟨-, -, -, -, -, -, ⟨v0a, v0n, v0c, e0⟩, ⟨v1a, v1n, v1c, e1⟩, v2a, v2n, v2c, e2⟩ := hV.2 j hjl
    have hv : vsg D V j = .agg #[.int .i64 (sgA D j).fr, .int .i64 (sgA D j).ti, .slice v0a v0n v0c, .slice v1a v1n v1c, .slice v2a v2n v2c] := by unfold vsg; rw [e0, e1, e2]
    have hp : vpr D fr ti j = .agg #[.int .i64 (oeX (sgA D j) fr), .int .i64 (oeY (sgA D j) ti)] := rfl
    have hgW := hI.2.2.2
    rw [hb0] at hK ⊢
    dsimp only at hK ⊢
    rw [hv, hp] at hK ⊢
    unfold OA at hK
    try dsimp only at hK
    rw [e0, e1, e2] at hK
    obtain ⟨sf, hsf⟩ : ∃ z, (sgA D j).fr = z := ⟨_, rfl⟩
    obtain ⟨st, hst⟩ : ∃ z, (sgA D j).ti = z := ⟨_, rfl⟩
    obtain ⟨X, hX⟩ : ∃ z, oeX (sgA D j) fr = z := ⟨_, rfl⟩
    obtain ⟨Y, hY⟩ : ∃ z, oeY (sgA D j) ti = z := ⟨_, rfl⟩
    rw [hsf, hst, hX, hY] at hK ⊢
    gi_wp2
    have hEE : Ext W ((W.alloc (.cells #[.int .i64 sf, .int .i64 st, .slice v0a v0n v0c, .slice v1a v1n v1c, .slice v2a v2n v2c] 47)).alloc (.cells #[.int .i64 X, .int .i64 Y] 201)) := ((Ext.refl _).alloc _).alloc _
    exact hK _ _ (((KeepsOthers.alloc _ _).trans (KeepsOthers.alloc _ _)).from _) (Below.kc hEE (by omega) (by dsimp only; omega) (by dsimp only; omega) (by dsimp only; omega))
      ⟨⟨hI.1.ext hEE, (hEE.cells.1 _ _ (by omega)).trans hI.2.1, (hEE.cells.2 _ _ (by omega)).trans hI.2.2.1, by simp; omega⟩, hB.trans (hEE.mono (by omega))⟩ ⟨W.heap.size, W.heap.size + 1, by simp [go_sem, ↓IntWalk.iteOmega], rfl⟩
  case body =>
    rintro lr pre ⟨j, hjl, hin⟩ a' W hl ⟨rr, hrr⟩ ⟨hOI, hB⟩ ⟨Bs, Bp, hA, rfl⟩ hlt
    obtain ⟨hI6, hIc, hIf, hIs⟩ := id hOI
    rw [hb0]
    obtain ⟨-, -, -, -, -, hSg, ⟨v0a, v0n, v0c, e0⟩, ⟨v1a, v1n, v1c, e1⟩, v2a, v2n, v2c, e2⟩ := (hV.ext (hg ▸ hB)).2 j hjl
    have hv : vsg D V j = .agg #[.int .i64 (sgA D j).fr, .int .i64 (sgA D j).ti, .slice v0a v0n v0c, .slice v1a v1n v1c, .slice v2a v2n v2c] := by unfold vsg; rw [e0, e1, e2]
    have hp : vpr D fr ti j = .agg #[.int .i64 (oeX (sgA D j) fr), .int .i64 (oeY (sgA D j) ti)] := rfl
    obtain ⟨hA0, hA1, hA2, hA3, hA4, hA5, hA6⟩ := hA
    dsimp only
    have hok := hsk j hjl
    obtain ⟨x1, x2, x3, x4, x5, x6, x7⟩ := oeS_in hok hin hft
    have hpl := fun w1 (k1 : Ext W w1) => z_ePlace _ (sgA D j) (oeM (sgA D j) fr ti) w1 (hSg.ext k1) hok x4 x5
    rw [hv] at hpl hSg ⊢
    rw [hp]
    rw [e0] at hA2
    rw [e1] at hA3
    rw [e2] at hA4
    obtain ⟨u0, u1, u2, eu, i1, i2, y0, y1, y2⟩ := hSg
    simp only [Value.agg.injEq, Array.mk.injEq, List.cons.injEq, true_and, and_true] at eu
    obtain ⟨rfl, rfl, rfl⟩ := eu
    have z0 : -410000000000000000 ≤ ofLo (plU (sgA D j).c0 (sgX (sgA D j) (oeM (sgA D j) fr ti))) ∧ ofHi (plU (sgA D j).c0 (sgX (sgA D j) (oeM (sgA D j) fr ti))) ≤ 410000000000000000 ∧ ofLo (plU (sgA D j).c0 (sgX (sgA D j) (oeM (sgA D j) fr ti))) ≤ ofHi (plU (sgA D j).c0 (sgX (sgA D j) (oeM (sgA D j) fr ti))) ∧ 0 ≤ oeW (sgA D j) (sgA D j).c0 fr ti ∧ oeW (sgA D j) (sgA D j).c0 fr ti ≤ 123848989752688640 := x7 0 (by omega)
    have z1 : -410000000000000000 ≤ ofLo (plU (sgA D j).c1 (sgX (sgA D j) (oeM (sgA D j) fr ti))) ∧ ofHi (plU (sgA D j).c1 (sgX (sgA D j) (oeM (sgA D j) fr ti))) ≤ 410000000000000000 ∧ ofLo (plU (sgA D j).c1 (sgX (sgA D j) (oeM (sgA D j) fr ti))) ≤ ofHi (plU (sgA D j).c1 (sgX (sgA D j) (oeM (sgA D j) fr ti))) ∧ 0 ≤ oeW (sgA D j) (sgA D j).c1 fr ti ∧ oeW (sgA D j) (sgA D j).c1 fr ti ≤ 123848989752688640 := x7 1 (by omega)
    have z2 : -410000000000000000 ≤ ofLo (plU (sgA D j).c2 (sgX (sgA D j) (oeM (sgA D j) fr ti))) ∧ ofHi (plU (sgA D j).c2 (sgX (sgA D j) (oeM (sgA D j) fr ti))) ≤ 410000000000000000 ∧ ofLo (plU (sgA D j).c2 (sgX (sgA D j) (oeM (sgA D j) fr ti))) ≤ ofHi (plU (sgA D j).c2 (sgX (sgA D j) (oeM (sgA D j) fr ti))) ∧ 0 ≤ oeW (sgA D j) (sgA D j).c2 fr ti ∧ oeW (sgA D j) (sgA D j).c2 fr ti ≤ 123848989752688640 := x7 2 (by omega)
    obtain ⟨o1, o2, o3, k0, k1, k2⟩ := hok
    have hs0 := fun w1 (k : Ext W w1) => z_eSway _ (sgA D j).c0 (oeY (sgA D j) ti - oeX (sgA D j) fr + 1) ((sgA D j).ti - (sgA D j).fr) w1 (y0.ext k) k0 (by omega) (by omega) (by omega) (by omega)
    have hs1 := fun w1 (k : Ext W w1) => z_eSway _ (sgA D j).c1 (oeY (sgA D j) ti - oeX (sgA D j) fr + 1) ((sgA D j).ti - (sgA D j).fr) w1 (y1.ext k) k1 (by omega) (by omega) (by omega) (by omega)
    have hs2 := fun w1 (k : Ext W w1) => z_eSway _ (sgA D j).c2 (oeY (sgA D j) ti - oeX (sgA D j) fr + 1) ((sgA D j).ti - (sgA D j).fr) w1 (y2.ext k) k2 (by omega) (by omega) (by omega) (by omega)
    change ∀ w1, Ext W w1 → Calls Tryz.prog 134 _ w1 fun e w' => e = .returned (.int .i64 (oeW (sgA D j) (sgA D j).c0 fr ti)) ∧ Ext w1 w' at hs0
    change ∀ w1, Ext W w1 → Calls Tryz.prog 134 _ w1 fun e w' => e = .returned (.int .i64 (oeW (sgA D j) (sgA D j).c1 fr ti)) ∧ Ext w1 w' at hs1
    change ∀ w1, Ext W w1 → Calls Tryz.prog 134 _ w1 fun e w' => e = .returned (.int .i64 (oeW (sgA D j) (sgA D j).c2 fr ti)) ∧ Ext w1 w' at hs2
    have hres : oeT D fr ti (oeF D fr ti pre) j = (pre.length + 1, if 0 < pre.length then hullV (oeS (sgA D j) fr ti) (oeF D fr ti pre).2 else oeS (sgA D j) fr ti) := by unfold oeT; rw [oeF_len]
    unfold oeS oeL oeH at hres
    have hM2 : oeM (sgA D j) fr ti = oeX (sgA D j) fr + (oeY (sgA D j) ti - oeX (sgA D j) fr) / 2 := rfl
    have hsn := oeF_snoc D fr ti pre ⟨j, hjl, hin⟩
    dsimp only at hsn
    rw [hres] at hsn
    clear hres x7 y0 y1 y2 k0 k1 k2
    generalize (oeF D fr ti pre).2 = Hv at *
    generalize ofLo (plU (sgA D j).c0 (sgX (sgA D j) (oeM (sgA D j) fr ti))) = L0 at *
    generalize ofLo (plU (sgA D j).c1 (sgX (sgA D j) (oeM (sgA D j) fr ti))) = L1 at *
    generalize ofLo (plU (sgA D j).c2 (sgX (sgA D j) (oeM (sgA D j) fr ti))) = L2 at *
    generalize ofHi (plU (sgA D j).c0 (sgX (sgA D j) (oeM (sgA D j) fr ti))) = H0 at *
    generalize ofHi (plU (sgA D j).c1 (sgX (sgA D j) (oeM (sgA D j) fr ti))) = H1 at *
    generalize ofHi (plU (sgA D j).c2 (sgX (sgA D j) (oeM (sgA D j) fr ti))) = H2 at *
    generalize oeW (sgA D j) (sgA D j).c0 fr ti = S0 at *
    generalize oeW (sgA D j) (sgA D j).c1 fr ti = S1 at *
    generalize oeW (sgA D j) (sgA D j).c2 fr ti = S2 at *
    generalize oeM (sgA D j) fr ti = T at *
    generalize oeX (sgA D j) fr = X at *
    generalize oeY (sgA D j) ti = Y at *
    generalize (sgA D j).fr = sf at *
    generalize (sgA D j).ti = st at *
    clear hv hp e0 e1 e2 i1 i2
    obtain ⟨N, hN⟩ : ∃ N, pre.length = N := ⟨_, rfl⟩
    rw [hN] at hsn hIc
    subst hM2
    have hBs : Bs < W.heap.size := World.block_lt_of_cell? W _ hA0
    have hBp : Bp < W.heap.size := World.block_lt_of_cell? W _ hA5
    have hg1 := hI6.2.2.2.2.2.2.2
    clear hb0 hk hs4 hc4 hf4 hW0 hb4 c0 c1 c2 q12 q13
    gi_wp2_with (refine ⟨trivial, ?_⟩; gi_at_call 133; (with_reducible refine (CallsIn.inRound lr (callsIn_wide.2 (hpl _ (by repeat (first | with_reducible exact Ext.refl _ | with_reducible assumption | with_reducible refine Ext.alloc ?_ _ | with_reducible refine Ext.setCell ?_ (by (try simp only [World.size_alloc, World.size_setCell]); omega) _ | with_reducible refine Ext.drewN ?_ _ | with_reducible refine Ext.drew ?_ | with_reducible refine Ext.trans ?_ (by with_reducible assumption)))))).mono ?_); rintro e w5 ⟨rfl, hb5⟩; obtain ⟨_, _, hc5, hf5⟩ := hb5.cells2; have hz5 := hb5.size; (try simp only [World.size_alloc, World.size_setCell] at hz5 hc5 hf5))
    refine wpIn_loop_rounds 4 ?_
    have hGW : W.heap.size ≤ w5.heap.size := hb5.size
    obtain ⟨G, hG⟩ : ∃ G, w5.heap.size = G := ⟨_, rfl⟩
    rw [hG] at hGW ⊢
    clear hpl
    have ix0 : ∀ w, (Instr.index 45 (.agg #[.slice v0a v0n v0c, .slice v1a v1n v1c, .slice v2a v2n v2c]) (.int .i64 0)).run Tryz.prog w = .ok (.slice v0a v0n v0c) w := fun _ => by kernel_rfl
    have ix1 : ∀ w, (Instr.index 45 (.agg #[.slice v0a v0n v0c, .slice v1a v1n v1c, .slice v2a v2n v2c]) (.int .i64 1)).run Tryz.prog w = .ok (.slice v1a v1n v1c) w := fun _ => by kernel_rfl
    have ix2 : ∀ w, (Instr.index 45 (.agg #[.slice v0a v0n v0c, .slice v1a v1n v1c, .slice v2a v2n v2c]) (.int .i64 2)).run Tryz.prog w = .ok (.slice v2a v2n v2c) w := fun _ => by kernel_rfl
    rcases Nat.eq_zero_or_pos N with hN0 | hNp
    · subst hN0
      rw [if_neg (by omega)] at hsn
      rw [roundsIn_succ]
      refine wpIn_nm fun Y0 hY0 => ?_
      have vY0 : V6 Y0 G ⟨L0, H0, L1, H1, L2, H2⟩ := by rw [hY0]; exact hG ▸ V6.lit w5 L0 H0 L1 H1 L2 H2 28
      have eY0 : Ext W Y0 := by rw [hY0]; exact (hb5.alloc _)
      clear hY0
      clear hb5 hc5 hf5 hz5
      obtain ⟨c0, c1, c2, c3, c4, c5, cf, cl⟩ := id vY0
      have hd := hI6.ext eY0
      obtain ⟨d0, d1, d2, d3, d4, d5, df, dl⟩ := id hd
      have dc := (eY0.cells.1 (g + 1 + 1) 0 (by omega)).trans hIc
      have dcf := (eY0.cells.2 (g + 1 + 1) 0 (by omega)).trans hIf
      have b0 := (eY0.cells.1 Bs 0 hBs).trans hA0
      have b1 := (eY0.cells.1 Bs 1 hBs).trans hA1
      have b2 := (eY0.cells.1 Bp 0 hBp).trans hA5
      have b3 := (eY0.cells.1 Bp 1 hBp).trans hA6
      have ys := eY0.size
      dsimp only at c0 c1 c2 c3 c4 c5
      gi_wp2_with (refine ⟨trivial, ?_⟩; gi_at_call 134; (with_reducible refine (CallsIn.inRound lr (callsIn_wide.2 (hs0 _ (by repeat (first | with_reducible exact Ext.refl _ | with_reducible assumption | with_reducible refine Ext.alloc ?_ _ | with_reducible refine Ext.trans ?_ (by with_reducible assumption)))))).mono ?_); rintro e w6 ⟨rfl, hb6⟩; obtain ⟨_, _, hc6, hf6⟩ := hb6.cells2; have hz6 := hb6.size; (try simp only [World.size_alloc, World.size_setCell] at hz6 hc6 hf6))
      rw [roundsIn_succ]
      refine wpIn_nm fun Y1 hY1 => ?_
      have vY1 : V6 Y1 G ⟨L0 - S0, H0 + S0, L1, H1, L2, H2⟩ := by rw [hY1]; exact (((vY0.ext hb6).s0 _).s1 _)
      have eY1 : Ext W Y1 := by rw [hY1]; exact ((eY0.trans hb6).setCell hGW _).setCell hGW _
      clear hY1
      clear c0 c1 c2 c3 c4 c5 cf cl hd d0 d1 d2 d3 d4 d5 df dl dc dcf b0 b1 b2 b3 ys hb6 hc6 hf6 hz6 vY0 eY0
      obtain ⟨c0, c1, c2, c3, c4, c5, cf, cl⟩ := id vY1
      have hd := hI6.ext eY1
      obtain ⟨d0, d1, d2, d3, d4, d5, df, dl⟩ := id hd
      have dc := (eY1.cells.1 (g + 1 + 1) 0 (by omega)).trans hIc
      have dcf := (eY1.cells.2 (g + 1 + 1) 0 (by omega)).trans hIf
      have b0 := (eY1.cells.1 Bs 0 hBs).trans hA0
      have b1 := (eY1.cells.1 Bs 1 hBs).trans hA1
      have b2 := (eY1.cells.1 Bp 0 hBp).trans hA5
      have b3 := (eY1.cells.1 Bp 1 hBp).trans hA6
      have ys := eY1.size
      dsimp only at c0 c1 c2 c3 c4 c5
      gi_wp2_with (refine ⟨trivial, ?_⟩; gi_at_call 134; (with_reducible refine (CallsIn.inRound lr (callsIn_wide.2 (hs1 _ (by repeat (first | with_reducible exact Ext.refl _ | with_reducible assumption | with_reducible refine Ext.alloc ?_ _ | with_reducible refine Ext.trans ?_ (by with_reducible assumption)))))).mono ?_); rintro e w6 ⟨rfl, hb6⟩; obtain ⟨_, _, hc6, hf6⟩ := hb6.cells2; have hz6 := hb6.size; (try simp only [World.size_alloc, World.size_setCell] at hz6 hc6 hf6))
      rw [roundsIn_succ]
      refine wpIn_nm fun Y2 hY2 => ?_
      have vY2 : V6 Y2 G ⟨L0 - S0, H0 + S0, L1 - S1, H1 + S1, L2, H2⟩ := by rw [hY2]; exact (((vY1.ext hb6).s2 _).s3 _)
      have eY2 : Ext W Y2 := by rw [hY2]; exact ((eY1.trans hb6).setCell hGW _).setCell hGW _
      clear hY2
      clear c0 c1 c2 c3 c4 c5 cf cl hd d0 d1 d2 d3 d4 d5 df dl dc dcf b0 b1 b2 b3 ys hb6 hc6 hf6 hz6 vY1 eY1
      obtain ⟨c0, c1, c2, c3, c4, c5, cf, cl⟩ := id vY2
      have hd := hI6.ext eY2
      obtain ⟨d0, d1, d2, d3, d4, d5, df, dl⟩ := id hd
      have dc := (eY2.cells.1 (g + 1 + 1) 0 (by omega)).trans hIc
      have dcf := (eY2.cells.2 (g + 1 + 1) 0 (by omega)).trans hIf
      have b0 := (eY2.cells.1 Bs 0 hBs).trans hA0
      have b1 := (eY2.cells.1 Bs 1 hBs).trans hA1
      have b2 := (eY2.cells.1 Bp 0 hBp).trans hA5
      have b3 := (eY2.cells.1 Bp 1 hBp).trans hA6
      have ys := eY2.size
      dsimp only at c0 c1 c2 c3 c4 c5
      gi_wp2_with (refine ⟨trivial, ?_⟩; gi_at_call 134; (with_reducible refine (CallsIn.inRound lr (callsIn_wide.2 (hs2 _ (by repeat (first | with_reducible exact Ext.refl _ | with_reducible assumption | with_reducible refine Ext.alloc ?_ _ | with_reducible refine Ext.trans ?_ (by with_reducible assumption)))))).mono ?_); rintro e w6 ⟨rfl, hb6⟩; obtain ⟨_, _, hc6, hf6⟩ := hb6.cells2; have hz6 := hb6.size; (try simp only [World.size_alloc, World.size_setCell] at hz6 hc6 hf6))
      rw [roundsIn_succ]
      refine wpIn_nm fun Y3 hY3 => ?_
      have vY3 : V6 Y3 G ⟨L0 - S0, H0 + S0, L1 - S1, H1 + S1, L2 - S2, H2 + S2⟩ := by rw [hY3]; exact (((vY2.ext hb6).s4 _).s5 _)
      have eY3 : Ext W Y3 := by rw [hY3]; exact ((eY2.trans hb6).setCell hGW _).setCell hGW _
      clear hY3
      clear c0 c1 c2 c3 c4 c5 cf cl hd d0 d1 d2 d3 d4 d5 df dl dc dcf b0 b1 b2 b3 ys hb6 hc6 hf6 hz6 vY2 eY2
      obtain ⟨c0, c1, c2, c3, c4, c5, cf, cl⟩ := id vY3
      have hd := hI6.ext eY3
      obtain ⟨d0, d1, d2, d3, d4, d5, df, dl⟩ := id hd
      have dc := (eY3.cells.1 (g + 1 + 1) 0 (by omega)).trans hIc
      have dcf := (eY3.cells.2 (g + 1 + 1) 0 (by omega)).trans hIf
      have b0 := (eY3.cells.1 Bs 0 hBs).trans hA0
      have b1 := (eY3.cells.1 Bs 1 hBs).trans hA1
      have b2 := (eY3.cells.1 Bp 0 hBp).trans hA5
      have b3 := (eY3.cells.1 Bp 1 hBp).trans hA6
      have ys := eY3.size
      dsimp only at c0 c1 c2 c3 c4 c5
      gi_wp2
      exact over_end hOI hB eY3 (by rw [hsn]) (by rw [hN]; simp)
    · rw [if_pos hNp] at hsn
      rw [roundsIn_succ]
      refine wpIn_nm fun Y0 hY0 => ?_
      have vY0 : V6 Y0 G ⟨L0, H0, L1, H1, L2, H2⟩ := by rw [hY0]; exact hG ▸ V6.lit w5 L0 H0 L1 H1 L2 H2 28
      have eY0 : Ext W Y0 := by rw [hY0]; exact (hb5.alloc _)
      clear hY0
      clear hb5 hc5 hf5 hz5
      obtain ⟨c0, c1, c2, c3, c4, c5, cf, cl⟩ := id vY0
      have hd := hI6.ext eY0
      obtain ⟨d0, d1, d2, d3, d4, d5, df, dl⟩ := id hd
      have dc := (eY0.cells.1 (g + 1 + 1) 0 (by omega)).trans hIc
      have dcf := (eY0.cells.2 (g + 1 + 1) 0 (by omega)).trans hIf
      have b0 := (eY0.cells.1 Bs 0 hBs).trans hA0
      have b1 := (eY0.cells.1 Bs 1 hBs).trans hA1
      have b2 := (eY0.cells.1 Bp 0 hBp).trans hA5
      have b3 := (eY0.cells.1 Bp 1 hBp).trans hA6
      have ys := eY0.size
      dsimp only at c0 c1 c2 c3 c4 c5
      gi_wp2_with (refine ⟨trivial, ?_⟩; gi_at_call 134; (with_reducible refine (CallsIn.inRound lr (callsIn_wide.2 (hs0 _ (by repeat (first | with_reducible exact Ext.refl _ | with_reducible assumption | with_reducible refine Ext.alloc ?_ _ | with_reducible refine Ext.trans ?_ (by with_reducible assumption)))))).mono ?_); rintro e w6 ⟨rfl, hb6⟩; obtain ⟨_, _, hc6, hf6⟩ := hb6.cells2; have hz6 := hb6.size; (try simp only [World.size_alloc, World.size_setCell] at hz6 hc6 hf6))
      refine wpIn_nm fun Z0 hZ0 => ?_
      have vZ0 : V6 Z0 G ⟨L0 - S0, H0 + S0, L1, H1, L2, H2⟩ := by rw [hZ0]; exact (((vY0.ext hb6).s0 _).s1 _)
      have eZ0 : Ext W Z0 := by rw [hZ0]; exact ((eY0.trans hb6).setCell hGW _).setCell hGW _
      clear hZ0
      clear c0 c1 c2 c3 c4 c5 cf cl hd d0 d1 d2 d3 d4 d5 df dl dc dcf b0 b1 b2 b3 ys hb6 hc6 hf6 hz6 vY0 eY0
      apply wpIn_one (R := fun w' => V6 w' G ⟨min (L0 - S0) Hv.a, max (H0 + S0) Hv.b, L1, H1, L2, H2⟩ ∧ Ext W w')
      case h1 =>
        refine regionB_inRoundS (S := (fun w0 => Ext Z0 w0)) (fun i => decide (i = 22) || decide (i = 25)) hmx (noDefer_ok (by kernel_rfl)) ?_ (fun hHeld => ?_)
        · exact (Ext.refl _).drew
        try simp only [sx_]
        refine wpAnyInB_pure (i := 0) (oi := _) (v := ?_) rfl rfl (by kernel_rfl) (by kernel_rfl) (by kernel_rfl) (by kernel_rfl) (fun _ _ _ h => by cases h.1) ⟨Or.inl ⟨by rfl, ?_⟩, fun _ => rfl⟩ (by assumption) ?_
        rotate_left
        · intro w0; go_simp; try with_reducible rfl
        try simp only [sx_]
        refine wpAnyInB_pure (i := 1) (oi := _) (v := ?_) rfl rfl (by kernel_rfl) (by kernel_rfl) (by kernel_rfl) (by kernel_rfl) (fun _ _ _ h => by cases h.1) ⟨Or.inl ⟨by rfl, ?_⟩, fun _ => rfl⟩ (by assumption) ?_
        rotate_left
        · intro w0; go_simp; try with_reducible rfl
        try simp only [sx_]
        refine wpAnyInB_pure (i := 2) (oi := _) (v := ?_) rfl rfl (by kernel_rfl) (by kernel_rfl) (by kernel_rfl) (by kernel_rfl) (fun _ _ _ h => by cases h.1) ⟨Or.inl ⟨by rfl, ?_⟩, fun _ => rfl⟩ (by assumption) ?_
        rotate_left
        · intro w0; go_simp; try with_reducible rfl
        try simp only [sx_]
        refine wpAnyInB_pure (i := 3) (oi := _) (v := ?_) rfl rfl (by kernel_rfl) (by kernel_rfl) (by kernel_rfl) (by kernel_rfl) (fun _ _ _ h => by cases h.1) ⟨Or.inl ⟨by rfl, ?_⟩, fun _ => rfl⟩ (by assumption) ?_
        rotate_left
        · intro w0; go_simp; try with_reducible rfl
        try simp only [sx_]
        refine wpAnyInB_pure (i := 4) (oi := _) (v := ?_) rfl rfl (by kernel_rfl) (by kernel_rfl) (by kernel_rfl) (by kernel_rfl) (fun _ _ _ h => by cases h.1) ⟨Or.inl ⟨by rfl, ?_⟩, fun _ => rfl⟩ (by assumption) ?_
        rotate_left
        · intro w0; go_simp; try with_reducible rfl
        try simp only [sx_]
        refine wpAnyInB_take (i := 5) (oi := _) (v := ?_) rfl rfl (by kernel_rfl) (by kernel_rfl) (by kernel_rfl) (by kernel_rfl) (fun _ _ _ h => by cases h.1) ⟨Or.inl ⟨by rfl, ?_⟩, fun _ _ => rfl⟩ (by assumption) ?_
        rotate_left
        · intro w0 hSw; obtain ⟨c0, c1, c2, c3, c4, c5, cf, cl⟩ := vZ0.ext hSw; obtain ⟨d0, d1, d2, d3, d4, d5, df, dl⟩ := hI6.ext (eZ0.trans hSw); dsimp only at c0 c1 c2 c3 c4 c5; go_simp; try with_reducible rfl
        try simp only [sx_]
        refine wpAnyInB_pure (i := 6) (oi := _) (v := ?_) rfl rfl (by kernel_rfl) (by kernel_rfl) (by kernel_rfl) (by kernel_rfl) (fun _ _ _ h => by cases h.1) ⟨Or.inl ⟨by rfl, ?_⟩, fun _ => rfl⟩ (by assumption) ?_
        rotate_left
        · intro w0; go_simp; try with_reducible rfl
        try simp only [sx_]
        refine wpAnyInB_pure (i := 7) (oi := _) (v := ?_) rfl rfl (by kernel_rfl) (by kernel_rfl) (by kernel_rfl) (by kernel_rfl) (fun _ _ _ h => by cases h.1) ⟨Or.inl ⟨by rfl, ?_⟩, fun _ => rfl⟩ (by assumption) ?_
        rotate_left
        · intro w0; go_simp; try with_reducible rfl
        try simp only [sx_]
        refine wpAnyInB_pure (i := 8) (oi := _) (v := ?_) rfl rfl (by kernel_rfl) (by kernel_rfl) (by kernel_rfl) (by kernel_rfl) (fun _ _ _ h => by cases h.1) ⟨Or.inl ⟨by rfl, ?_⟩, fun _ => rfl⟩ (by assumption) ?_
        rotate_left
        · intro w0; go_simp; try with_reducible rfl
        try simp only [sx_]
        refine wpAnyInB_take (i := 9) (oi := _) (v := ?_) rfl rfl (by kernel_rfl) (by kernel_rfl) (by kernel_rfl) (by kernel_rfl) (fun _ _ _ h => by cases h.1) ⟨Or.inl ⟨by rfl, ?_⟩, fun _ _ => rfl⟩ (by assumption) ?_
        rotate_left
        · intro w0 hSw; obtain ⟨c0, c1, c2, c3, c4, c5, cf, cl⟩ := vZ0.ext hSw; obtain ⟨d0, d1, d2, d3, d4, d5, df, dl⟩ := hI6.ext (eZ0.trans hSw); dsimp only at c0 c1 c2 c3 c4 c5; go_simp; try with_reducible rfl
        try simp only [sx_]
        refine wpAnyInB_pure (i := 10) (oi := _) (v := ?_) rfl rfl (by kernel_rfl) (by kernel_rfl) (by kernel_rfl) (by kernel_rfl) (fun _ _ _ h => by cases h.1) ⟨Or.inl ⟨by rfl, ?_⟩, fun _ => rfl⟩ (by assumption) ?_
        rotate_left
        · intro w0; go_simp; try with_reducible rfl
        try simp only [sx_]
        refine wpAnyInB_pure (i := 11) (oi := _) (v := ?_) rfl rfl (by kernel_rfl) (by kernel_rfl) (by kernel_rfl) (by kernel_rfl) (fun _ _ _ h => by cases h.1) ⟨Or.inl ⟨by rfl, ?_⟩, fun _ => rfl⟩ (by assumption) ?_
        rotate_left
        · intro w0; go_simp; try with_reducible rfl
        try simp only [sx_]
        refine wpAnyInB_pure (i := 12) (oi := _) (v := ?_) rfl rfl (by kernel_rfl) (by kernel_rfl) (by kernel_rfl) (by kernel_rfl) (fun _ _ _ h => by cases h.1) ⟨Or.inl ⟨by rfl, ?_⟩, fun _ => rfl⟩ (by assumption) ?_
        rotate_left
        · intro w0; go_simp; try with_reducible rfl
        try simp only [sx_]
        refine wpAnyInB_pure (i := 13) (oi := _) (v := ?_) rfl rfl (by kernel_rfl) (by kernel_rfl) (by kernel_rfl) (by kernel_rfl) (fun _ _ _ h => by cases h.1) ⟨Or.inl ⟨by rfl, ?_⟩, fun _ => rfl⟩ (by assumption) ?_
        rotate_left
        · intro w0; go_simp; try with_reducible rfl
        try simp only [sx_]
        refine wpAnyInB_take (i := 14) (oi := _) (v := ?_) rfl rfl (by kernel_rfl) (by kernel_rfl) (by kernel_rfl) (by kernel_rfl) (fun _ _ _ h => by cases h.1) ⟨Or.inl ⟨by rfl, ?_⟩, fun _ _ => rfl⟩ (by assumption) ?_
        rotate_left
        · intro w0 hSw; obtain ⟨c0, c1, c2, c3, c4, c5, cf, cl⟩ := vZ0.ext hSw; obtain ⟨d0, d1, d2, d3, d4, d5, df, dl⟩ := hI6.ext (eZ0.trans hSw); dsimp only at c0 c1 c2 c3 c4 c5; go_simp; try with_reducible rfl
        try simp only [sx_]
        refine wpAnyInB_pure (i := 15) (oi := _) (v := ?_) rfl rfl (by kernel_rfl) (by kernel_rfl) (by kernel_rfl) (by kernel_rfl) (fun _ _ _ h => by cases h.1) ⟨Or.inl ⟨by rfl, ?_⟩, fun _ => rfl⟩ (by assumption) ?_
        rotate_left
        · intro w0; go_simp; try with_reducible rfl
        try simp only [sx_]
        refine wpAnyInB_pure (i := 16) (oi := _) (v := ?_) rfl rfl (by kernel_rfl) (by kernel_rfl) (by kernel_rfl) (by kernel_rfl) (fun _ _ _ h => by cases h.1) ⟨Or.inl ⟨by rfl, ?_⟩, fun _ => rfl⟩ (by assumption) ?_
        rotate_left
        · intro w0; go_simp; try with_reducible rfl
        try simp only [sx_]
        refine wpAnyInB_pure (i := 17) (oi := _) (v := ?_) rfl rfl (by kernel_rfl) (by kernel_rfl) (by kernel_rfl) (by kernel_rfl) (fun _ _ _ h => by cases h.1) ⟨Or.inl ⟨by rfl, ?_⟩, fun _ => rfl⟩ (by assumption) ?_
        rotate_left
        · intro w0; go_simp; try with_reducible rfl
        try simp only [sx_]
        refine wpAnyInB_pure (i := 20) (oi := _) (v := ?_) rfl rfl (by kernel_rfl) (by kernel_rfl) (by kernel_rfl) (by kernel_rfl) (fun _ _ _ h => by cases h.1) ⟨Or.inl ⟨by rfl, ?_⟩, fun _ => rfl⟩ (by assumption) ?_
        rotate_left
        · intro w0; go_simp; try with_reducible rfl
        try simp only [sx_]
        refine wpAnyInB_pure (i := 21) (oi := _) (v := ?_) rfl rfl (by kernel_rfl) (by kernel_rfl) (by kernel_rfl) (by kernel_rfl) (fun _ _ _ h => by cases h.1) ⟨Or.inl ⟨by rfl, ?_⟩, fun _ => rfl⟩ (by assumption) ?_
        rotate_left
        · intro w0; go_simp; try with_reducible rfl
        try simp only [sx_]
        refine wpAnyInB_ready (rs := [18, 22]) (by kernel_rfl) (by simp) ?_
        refine AllReadyInB.cons (o := _) rfl rfl (fun K hK => ?_) (AllReadyInB.last (o := _) rfl rfl (fun K hK => ?_) AllReadyInB.nil)
        · obtain ⟨c0, c1, c2, c3, c4, c5, cf, cl⟩ := id vZ0
          obtain ⟨d0, d1, d2, d3, d4, d5, df, dl⟩ := hI6.ext eZ0
          dsimp only at c0 c1 c2 c3 c4 c5
          go_simp
          refine hK.out _ _ hHeld (fun _ => ?_)
          clear hK K
          try simp only [sx_]
          refine wpAnyInB_pure (i := 19) (oi := _) (v := ?_) rfl rfl (by kernel_rfl) (by kernel_rfl) (by kernel_rfl) (by kernel_rfl) (fun _ _ _ h => by cases h.1) ⟨Or.inl ⟨by rfl, ?_⟩, fun _ => rfl⟩ (by assumption) ?_
          rotate_left
          · intro w0; go_simp; try with_reducible rfl
          try simp only [sx_]
          refine wpAnyInB_ready (rs := [22]) (by kernel_rfl) (by simp) ?_
          refine AllReadyInB.last (o := _) rfl rfl (fun K hK => ?_) AllReadyInB.nil
          obtain ⟨c0, c1, c2, c3, c4, c5, cf, cl⟩ := id vZ0
          obtain ⟨d0, d1, d2, d3, d4, d5, df, dl⟩ := hI6.ext eZ0
          dsimp only at c0 c1 c2 c3 c4 c5
          go_simp
          refine hK.out _ _ trivial (fun _ => ?_)
          clear hK K
          try simp only [sx_]
          refine wpAnyIn_ready (rs := [23]) (by kernel_rfl) (by simp) ?_
          refine AllReadyIn.cons rfl (fun K hK => ?_) AllReadyIn.nil
          go_simp
          refine hK _ _ ?_
          clear hK K
          try simp only [sx_]
          refine wpAnyIn_ready (rs := [24]) (by kernel_rfl) (by simp) ?_
          refine AllReadyIn.cons rfl (fun K hK => ?_) AllReadyIn.nil
          go_simp
          refine hK _ _ ?_
          clear hK K
          try simp only [sx_]
          refine wpAnyIn_ready (rs := [25]) (by kernel_rfl) (by simp) ?_
          refine AllReadyIn.cons rfl (fun K hK => ?_) AllReadyIn.nil
          obtain ⟨c0, c1, c2, c3, c4, c5, cf, cl⟩ := id vZ0
          obtain ⟨d0, d1, d2, d3, d4, d5, df, dl⟩ := hI6.ext eZ0
          dsimp only at c0 c1 c2 c3 c4 c5
          go_simp
          refine hK _ _ ?_
          clear hK K
          try simp only [sx_]
          refine wpAnyIn_done (by kernel_rfl) ?_ _
          exact ⟨rfl, rfl, (vZ0.s0 _).s1 _, ((eZ0.setCell hGW _).setCell hGW _).drew⟩
        · obtain ⟨c0, c1, c2, c3, c4, c5, cf, cl⟩ := id vZ0
          obtain ⟨d0, d1, d2, d3, d4, d5, df, dl⟩ := hI6.ext eZ0
          dsimp only at c0 c1 c2 c3 c4 c5
          go_simp
          refine hK.out _ _ trivial (fun _ => ?_)
          clear hK K
          try simp only [sx_]
          refine wpAnyIn_ready (rs := [18]) (by kernel_rfl) (by simp) ?_
          refine AllReadyIn.cons rfl (fun K hK => ?_) AllReadyIn.nil
          obtain ⟨c0, c1, c2, c3, c4, c5, cf, cl⟩ := id vZ0
          obtain ⟨d0, d1, d2, d3, d4, d5, df, dl⟩ := hI6.ext eZ0
          dsimp only at c0 c1 c2 c3 c4 c5
          go_simp
          refine hK _ _ ?_
          clear hK K
          try simp only [sx_]
          refine wpAnyIn_ready (rs := [19]) (by kernel_rfl) (by simp) ?_
          refine AllReadyIn.cons rfl (fun K hK => ?_) AllReadyIn.nil
          go_simp
          refine hK _ _ ?_
          clear hK K
          try simp only [sx_]
          refine wpAnyIn_ready (rs := [23]) (by kernel_rfl) (by simp) ?_
          refine AllReadyIn.cons rfl (fun K hK => ?_) AllReadyIn.nil
          go_simp
          refine hK _ _ ?_
          clear hK K
          try simp only [sx_]
          refine wpAnyIn_ready (rs := [24]) (by kernel_rfl) (by simp) ?_
          refine AllReadyIn.cons rfl (fun K hK => ?_) AllReadyIn.nil
          go_simp
          refine hK _ _ ?_
          clear hK K
          try simp only [sx_]
          refine wpAnyIn_ready (rs := [25]) (by kernel_rfl) (by simp) ?_
          refine AllReadyIn.cons rfl (fun K hK => ?_) AllReadyIn.nil
          obtain ⟨c0, c1, c2, c3, c4, c5, cf, cl⟩ := id vZ0
          obtain ⟨d0, d1, d2, d3, d4, d5, df, dl⟩ := hI6.ext eZ0
          dsimp only at c0 c1 c2 c3 c4 c5
          go_simp
          refine hK _ _ ?_
          clear hK K
          try simp only [sx_]
          refine wpAnyIn_done (by kernel_rfl) ?_ _
          exact ⟨rfl, rfl, (vZ0.s0 _).s1 _, ((eZ0.setCell hGW _).setCell hGW _).drew⟩
      clear vZ0 eZ0
      intro Y1 hh0
      obtain ⟨vY1, eY1⟩ := hh0
      gi_wp2
      rw [roundsIn_succ]
      obtain ⟨c0, c1, c2, c3, c4, c5, cf, cl⟩ := id vY1
      have hd := hI6.ext eY1
      obtain ⟨d0, d1, d2, d3, d4, d5, df, dl⟩ := id hd
      have dc := (eY1.cells.1 (g + 1 + 1) 0 (by omega)).trans hIc
      have dcf := (eY1.cells.2 (g + 1 + 1) 0 (by omega)).trans hIf
      have b0 := (eY1.cells.1 Bs 0 hBs).trans hA0
      have b1 := (eY1.cells.1 Bs 1 hBs).trans hA1
      have b2 := (eY1.cells.1 Bp 0 hBp).trans hA5
      have b3 := (eY1.cells.1 Bp 1 hBp).trans hA6
      have ys := eY1.size
      dsimp only at c0 c1 c2 c3 c4 c5
      gi_wp2_with (refine ⟨trivial, ?_⟩; gi_at_call 134; (with_reducible refine (CallsIn.inRound lr (callsIn_wide.2 (hs1 _ (by repeat (first | with_reducible exact Ext.refl _ | with_reducible assumption | with_reducible refine Ext.alloc ?_ _ | with_reducible refine Ext.trans ?_ (by with_reducible assumption)))))).mono ?_); rintro e w6 ⟨rfl, hb6⟩; obtain ⟨_, _, hc6, hf6⟩ := hb6.cells2; have hz6 := hb6.size; (try simp only [World.size_alloc, World.size_setCell] at hz6 hc6 hf6))
      refine wpIn_nm fun Z1 hZ1 => ?_
      have vZ1 : V6 Z1 G ⟨min (L0 - S0) Hv.a, max (H0 + S0) Hv.b, L1 - S1, H1 + S1, L2, H2⟩ := by rw [hZ1]; exact (((vY1.ext hb6).s2 _).s3 _)
      have eZ1 : Ext W Z1 := by rw [hZ1]; exact ((eY1.trans hb6).setCell hGW _).setCell hGW _
      clear hZ1
      clear c0 c1 c2 c3 c4 c5 cf cl hd d0 d1 d2 d3 d4 d5 df dl dc dcf b0 b1 b2 b3 ys hb6 hc6 hf6 hz6 vY1 eY1
      apply wpIn_one (R := fun w' => V6 w' G ⟨min (L0 - S0) Hv.a, max (H0 + S0) Hv.b, min (L1 - S1) Hv.c, max (H1 + S1) Hv.d, L2, H2⟩ ∧ Ext W w')
      case h1 =>
        refine regionB_inRoundS (S := (fun w0 => Ext Z1 w0)) (fun i => decide (i = 22) || decide (i = 25)) hmx (noDefer_ok (by kernel_rfl)) ?_ (fun hHeld => ?_)
        · exact (Ext.refl _).drew
        try simp only [sx_]
        refine wpAnyInB_pure (i := 0) (oi := _) (v := ?_) rfl rfl (by kernel_rfl) (by kernel_rfl) (by kernel_rfl) (by kernel_rfl) (fun _ _ _ h => by cases h.1) ⟨Or.inl ⟨by rfl, ?_⟩, fun _ => rfl⟩ (by assumption) ?_
        rotate_left
        · intro w0; go_simp; try with_reducible rfl
        try simp only [sx_]
        refine wpAnyInB_pure (i := 1) (oi := _) (v := ?_) rfl rfl (by kernel_rfl) (by kernel_rfl) (by kernel_rfl) (by kernel_rfl) (fun _ _ _ h => by cases h.1) ⟨Or.inl ⟨by rfl, ?_⟩, fun _ => rfl⟩ (by assumption) ?_
        rotate_left
        · intro w0; go_simp; try with_reducible rfl
        try simp only [sx_]
        refine wpAnyInB_pure (i := 2) (oi := _) (v := ?_) rfl rfl (by kernel_rfl) (by kernel_rfl) (by kernel_rfl) (by kernel_rfl) (fun _ _ _ h => by cases h.1) ⟨Or.inl ⟨by rfl, ?_⟩, fun _ => rfl⟩ (by assumption) ?_
        rotate_left
        · intro w0; go_simp; try with_reducible rfl
        try simp only [sx_]
        refine wpAnyInB_pure (i := 3) (oi := _) (v := ?_) rfl rfl (by kernel_rfl) (by kernel_rfl) (by kernel_rfl) (by kernel_rfl) (fun _ _ _ h => by cases h.1) ⟨Or.inl ⟨by rfl, ?_⟩, fun _ => rfl⟩ (by assumption) ?_
        rotate_left
        · intro w0; go_simp; try with_reducible rfl
        try simp only [sx_]
        refine wpAnyInB_pure (i := 4) (oi := _) (v := ?_) rfl rfl (by kernel_rfl) (by kernel_rfl) (by kernel_rfl) (by kernel_rfl) (fun _ _ _ h => by cases h.1) ⟨Or.inl ⟨by rfl, ?_⟩, fun _ => rfl⟩ (by assumption) ?_
        rotate_left
        · intro w0; go_simp; try with_reducible rfl
        try simp only [sx_]
        refine wpAnyInB_take (i := 5) (oi := _) (v := ?_) rfl rfl (by kernel_rfl) (by kernel_rfl) (by kernel_rfl) (by kernel_rfl) (fun _ _ _ h => by cases h.1) ⟨Or.inl ⟨by rfl, ?_⟩, fun _ _ => rfl⟩ (by assumption) ?_
        rotate_left
        · intro w0 hSw; obtain ⟨c0, c1, c2, c3, c4, c5, cf, cl⟩ := vZ1.ext hSw; obtain ⟨d0, d1, d2, d3, d4, d5, df, dl⟩ := hI6.ext (eZ1.trans hSw); dsimp only at c0 c1 c2 c3 c4 c5; go_simp; try with_reducible rfl
        try simp only [sx_]
        refine wpAnyInB_pure (i := 6) (oi := _) (v := ?_) rfl rfl (by kernel_rfl) (by kernel_rfl) (by kernel_rfl) (by kernel_rfl) (fun _ _ _ h => by cases h.1) ⟨Or.inl ⟨by rfl, ?_⟩, fun _ => rfl⟩ (by assumption) ?_
        rotate_left
        · intro w0; go_simp; try with_reducible rfl
        try simp only [sx_]
        refine wpAnyInB_pure (i := 7) (oi := _) (v := ?_) rfl rfl (by kernel_rfl) (by kernel_rfl) (by kernel_rfl) (by kernel_rfl) (fun _ _ _ h => by cases h.1) ⟨Or.inl ⟨by rfl, ?_⟩, fun _ => rfl⟩ (by assumption) ?_
        rotate_left
        · intro w0; go_simp; try with_reducible rfl
        try simp only [sx_]
        refine wpAnyInB_pure (i := 8) (oi := _) (v := ?_) rfl rfl (by kernel_rfl) (by kernel_rfl) (by kernel_rfl) (by kernel_rfl) (fun _ _ _ h => by cases h.1) ⟨Or.inl ⟨by rfl, ?_⟩, fun _ => rfl⟩ (by assumption) ?_
        rotate_left
        · intro w0; go_simp; try with_reducible rfl
        try simp only [sx_]
        refine wpAnyInB_take (i := 9) (oi := _) (v := ?_) rfl rfl (by kernel_rfl) (by kernel_rfl) (by kernel_rfl) (by kernel_rfl) (fun _ _ _ h => by cases h.1) ⟨Or.inl ⟨by rfl, ?_⟩, fun _ _ => rfl⟩ (by assumption) ?_
        rotate_left
        · intro w0 hSw; obtain ⟨c0, c1, c2, c3, c4, c5, cf, cl⟩ := vZ1.ext hSw; obtain ⟨d0, d1, d2, d3, d4, d5, df, dl⟩ := hI6.ext (eZ1.trans hSw); dsimp only at c0 c1 c2 c3 c4 c5; go_simp; try with_reducible rfl
        try simp only [sx_]
        refine wpAnyInB_pure (i := 10) (oi := _) (v := ?_) rfl rfl (by kernel_rfl) (by kernel_rfl) (by kernel_rfl) (by kernel_rfl) (fun _ _ _ h => by cases h.1) ⟨Or.inl ⟨by rfl, ?_⟩, fun _ => rfl⟩ (by assumption) ?_
        rotate_left
        · intro w0; go_simp; try with_reducible rfl
        try simp only [sx_]
        refine wpAnyInB_pure (i := 11) (oi := _) (v := ?_) rfl rfl (by kernel_rfl) (by kernel_rfl) (by kernel_rfl) (by kernel_rfl) (fun _ _ _ h => by cases h.1) ⟨Or.inl ⟨by rfl, ?_⟩, fun _ => rfl⟩ (by assumption) ?_
        rotate_left
        · intro w0; go_simp; try with_reducible rfl
        try simp only [sx_]
        refine wpAnyInB_pure (i := 12) (oi := _) (v := ?_) rfl rfl (by kernel_rfl) (by kernel_rfl) (by kernel_rfl) (by kernel_rfl) (fun _ _ _ h => by cases h.1) ⟨Or.inl ⟨by rfl, ?_⟩, fun _ => rfl⟩ (by assumption) ?_
        rotate_left
        · intro w0; go_simp; try with_reducible rfl
        try simp only [sx_]
        refine wpAnyInB_pure (i := 13) (oi := _) (v := ?_) rfl rfl (by kernel_rfl) (by kernel_rfl) (by kernel_rfl) (by kernel_rfl) (fun _ _ _ h => by cases h.1) ⟨Or.inl ⟨by rfl, ?_⟩, fun _ => rfl⟩ (by assumption) ?_
        rotate_left
        · intro w0; go_simp; try with_reducible rfl
        try simp only [sx_]
        refine wpAnyInB_take (i := 14) (oi := _) (v := ?_) rfl rfl (by kernel_rfl) (by kernel_rfl) (by kernel_rfl) (by kernel_rfl) (fun _ _ _ h => by cases h.1) ⟨Or.inl ⟨by rfl, ?_⟩, fun _ _ => rfl⟩ (by assumption) ?_
        rotate_left
        · intro w0 hSw; obtain ⟨c0, c1, c2, c3, c4, c5, cf, cl⟩ := vZ1.ext hSw; obtain ⟨d0, d1, d2, d3, d4, d5, df, dl⟩ := hI6.ext (eZ1.trans hSw); dsimp only at c0 c1 c2 c3 c4 c5; go_simp; try with_reducible rfl
        try simp only [sx_]
        refine wpAnyInB_pure (i := 15) (oi := _) (v := ?_) rfl rfl (by kernel_rfl) (by kernel_rfl) (by kernel_rfl) (by kernel_rfl) (fun _ _ _ h => by cases h.1) ⟨Or.inl ⟨by rfl, ?_⟩, fun _ => rfl⟩ (by assumption) ?_
        rotate_left
        · intro w0; go_simp; try with_reducible rfl
        try simp only [sx_]
        refine wpAnyInB_pure (i := 16) (oi := _) (v := ?_) rfl rfl (by kernel_rfl) (by kernel_rfl) (by kernel_rfl) (by kernel_rfl) (fun _ _ _ h => by cases h.1) ⟨Or.inl ⟨by rfl, ?_⟩, fun _ => rfl⟩ (by assumption) ?_
        rotate_left
        · intro w0; go_simp; try with_reducible rfl
        try simp only [sx_]
        refine wpAnyInB_pure (i := 17) (oi := _) (v := ?_) rfl rfl (by kernel_rfl) (by kernel_rfl) (by kernel_rfl) (by kernel_rfl) (fun _ _ _ h => by cases h.1) ⟨Or.inl ⟨by rfl, ?_⟩, fun _ => rfl⟩ (by assumption) ?_
        rotate_left
        · intro w0; go_simp; try with_reducible rfl
        try simp only [sx_]
        refine wpAnyInB_pure (i := 20) (oi := _) (v := ?_) rfl rfl (by kernel_rfl) (by kernel_rfl) (by kernel_rfl) (by kernel_rfl) (fun _ _ _ h => by cases h.1) ⟨Or.inl ⟨by rfl, ?_⟩, fun _ => rfl⟩ (by assumption) ?_
        rotate_left
        · intro w0; go_simp; try with_reducible rfl
        try simp only [sx_]
        refine wpAnyInB_pure (i := 21) (oi := _) (v := ?_) rfl rfl (by kernel_rfl) (by kernel_rfl) (by kernel_rfl) (by kernel_rfl) (fun _ _ _ h => by cases h.1) ⟨Or.inl ⟨by rfl, ?_⟩, fun _ => rfl⟩ (by assumption) ?_
        rotate_left
        · intro w0; go_simp; try with_reducible rfl
        try simp only [sx_]
        refine wpAnyInB_ready (rs := [18, 22]) (by kernel_rfl) (by simp) ?_
        refine AllReadyInB.cons (o := _) rfl rfl (fun K hK => ?_) (AllReadyInB.last (o := _) rfl rfl (fun K hK => ?_) AllReadyInB.nil)
        · obtain ⟨c0, c1, c2, c3, c4, c5, cf, cl⟩ := id vZ1
          obtain ⟨d0, d1, d2, d3, d4, d5, df, dl⟩ := hI6.ext eZ1
          dsimp only at c0 c1 c2 c3 c4 c5
          go_simp
          refine hK.out _ _ hHeld (fun _ => ?_)
          clear hK K
          try simp only [sx_]
          refine wpAnyInB_pure (i := 19) (oi := _) (v := ?_) rfl rfl (by kernel_rfl) (by kernel_rfl) (by kernel_rfl) (by kernel_rfl) (fun _ _ _ h => by cases h.1) ⟨Or.inl ⟨by rfl, ?_⟩, fun _ => rfl⟩ (by assumption) ?_
          rotate_left
          · intro w0; go_simp; try with_reducible rfl
          try simp only [sx_]
          refine wpAnyInB_ready (rs := [22]) (by kernel_rfl) (by simp) ?_
          refine AllReadyInB.last (o := _) rfl rfl (fun K hK => ?_) AllReadyInB.nil
          obtain ⟨c0, c1, c2, c3, c4, c5, cf, cl⟩ := id vZ1
          obtain ⟨d0, d1, d2, d3, d4, d5, df, dl⟩ := hI6.ext eZ1
          dsimp only at c0 c1 c2 c3 c4 c5
          go_simp
          refine hK.out _ _ trivial (fun _ => ?_)
          clear hK K
          try simp only [sx_]
          refine wpAnyIn_ready (rs := [23]) (by kernel_rfl) (by simp) ?_
          refine AllReadyIn.cons rfl (fun K hK => ?_) AllReadyIn.nil
          go_simp
          refine hK _ _ ?_
          clear hK K
          try simp only [sx_]
          refine wpAnyIn_ready (rs := [24]) (by kernel_rfl) (by simp) ?_
          refine AllReadyIn.cons rfl (fun K hK => ?_) AllReadyIn.nil
          go_simp
          refine hK _ _ ?_
          clear hK K
          try simp only [sx_]
          refine wpAnyIn_ready (rs := [25]) (by kernel_rfl) (by simp) ?_
          refine AllReadyIn.cons rfl (fun K hK => ?_) AllReadyIn.nil
          obtain ⟨c0, c1, c2, c3, c4, c5, cf, cl⟩ := id vZ1
          obtain ⟨d0, d1, d2, d3, d4, d5, df, dl⟩ := hI6.ext eZ1
          dsimp only at c0 c1 c2 c3 c4 c5
          go_simp
          refine hK _ _ ?_
          clear hK K
          try simp only [sx_]
          refine wpAnyIn_done (by kernel_rfl) ?_ _
          exact ⟨rfl, rfl, (vZ1.s2 _).s3 _, ((eZ1.setCell hGW _).setCell hGW _).drew⟩
        · obtain ⟨c0, c1, c2, c3, c4, c5, cf, cl⟩ := id vZ1
          obtain ⟨d0, d1, d2, d3, d4, d5, df, dl⟩ := hI6.ext eZ1
          dsimp only at c0 c1 c2 c3 c4 c5
          go_simp
          refine hK.out _ _ trivial (fun _ => ?_)
          clear hK K
          try simp only [sx_]
          refine wpAnyIn_ready (rs := [18]) (by kernel_rfl) (by simp) ?_
          refine AllReadyIn.cons rfl (fun K hK => ?_) AllReadyIn.nil
          obtain ⟨c0, c1, c2, c3, c4, c5, cf, cl⟩ := id vZ1
          obtain ⟨d0, d1, d2, d3, d4, d5, df, dl⟩ := hI6.ext eZ1
          dsimp only at c0 c1 c2 c3 c4 c5
          go_simp
          refine hK _ _ ?_
          clear hK K
          try simp only [sx_]
          refine wpAnyIn_ready (rs := [19]) (by kernel_rfl) (by simp) ?_
          refine AllReadyIn.cons rfl (fun K hK => ?_) AllReadyIn.nil
          go_simp
          refine hK _ _ ?_
          clear hK K
          try simp only [sx_]
          refine wpAnyIn_ready (rs := [23]) (by kernel_rfl) (by simp) ?_
          refine AllReadyIn.cons rfl (fun K hK => ?_) AllReadyIn.nil
          go_simp
          refine hK _ _ ?_
          clear hK K
          try simp only [sx_]
          refine wpAnyIn_ready (rs := [24]) (by kernel_rfl) (by simp) ?_
          refine AllReadyIn.cons rfl (fun K hK => ?_) AllReadyIn.nil
          go_simp
          refine hK _ _ ?_
          clear hK K
          try simp only [sx_]
          refine wpAnyIn_ready (rs := [25]) (by kernel_rfl) (by simp) ?_
          refine AllReadyIn.cons rfl (fun K hK => ?_) AllReadyIn.nil
          obtain ⟨c0, c1, c2, c3, c4, c5, cf, cl⟩ := id vZ1
          obtain ⟨d0, d1, d2, d3, d4, d5, df, dl⟩ := hI6.ext eZ1
          dsimp only at c0 c1 c2 c3 c4 c5
          go_simp
          refine hK _ _ ?_
          clear hK K
          try simp only [sx_]
          refine wpAnyIn_done (by kernel_rfl) ?_ _
          exact ⟨rfl, rfl, (vZ1.s2 _).s3 _, ((eZ1.setCell hGW _).setCell hGW _).drew⟩
      clear vZ1 eZ1
      intro Y2 hh1
      obtain ⟨vY2, eY2⟩ := hh1
      gi_wp2
      rw [roundsIn_succ]
      obtain ⟨c0, c1, c2, c3, c4, c5, cf, cl⟩ := id vY2
      have hd := hI6.ext eY2
      obtain ⟨d0, d1, d2, d3, d4, d5, df, dl⟩ := id hd
      have dc := (eY2.cells.1 (g + 1 + 1) 0 (by omega)).trans hIc
      have dcf := (eY2.cells.2 (g + 1 + 1) 0 (by omega)).trans hIf
      have b0 := (eY2.cells.1 Bs 0 hBs).trans hA0
      have b1 := (eY2.cells.1 Bs 1 hBs).trans hA1
      have b2 := (eY2.cells.1 Bp 0 hBp).trans hA5
      have b3 := (eY2.cells.1 Bp 1 hBp).trans hA6
      have ys := eY2.size
      dsimp only at c0 c1 c2 c3 c4 c5
      gi_wp2_with (refine ⟨trivial, ?_⟩; gi_at_call 134; (with_reducible refine (CallsIn.inRound lr (callsIn_wide.2 (hs2 _ (by repeat (first | with_reducible exact Ext.refl _ | with_reducible assumption | with_reducible refine Ext.alloc ?_ _ | with_reducible refine Ext.trans ?_ (by with_reducible assumption)))))).mono ?_); rintro e w6 ⟨rfl, hb6⟩; obtain ⟨_, _, hc6, hf6⟩ := hb6.cells2; have hz6 := hb6.size; (try simp only [World.size_alloc, World.size_setCell] at hz6 hc6 hf6))
      refine wpIn_nm fun Z2 hZ2 => ?_
      have vZ2 : V6 Z2 G ⟨min (L0 - S0) Hv.a, max (H0 + S0) Hv.b, min (L1 - S1) Hv.c, max (H1 + S1) Hv.d, L2 - S2, H2 + S2⟩ := by rw [hZ2]; exact (((vY2.ext hb6).s4 _).s5 _)
      have eZ2 : Ext W Z2 := by rw [hZ2]; exact ((eY2.trans hb6).setCell hGW _).setCell hGW _
      clear hZ2
      clear c0 c1 c2 c3 c4 c5 cf cl hd d0 d1 d2 d3 d4 d5 df dl dc dcf b0 b1 b2 b3 ys hb6 hc6 hf6 hz6 vY2 eY2
      apply wpIn_one (R := fun w' => V6 w' G ⟨min (L0 - S0) Hv.a, max (H0 + S0) Hv.b, min (L1 - S1) Hv.c, max (H1 + S1) Hv.d, min (L2 - S2) Hv.e, max (H2 + S2) Hv.f⟩ ∧ Ext W w')
      case h1 =>
        refine regionB_inRoundS (S := (fun w0 => Ext Z2 w0)) (fun i => decide (i = 22) || decide (i = 25)) hmx (noDefer_ok (by kernel_rfl)) ?_ (fun hHeld => ?_)
        · exact (Ext.refl _).drew
        try simp only [sx_]
        refine wpAnyInB_pure (i := 0) (oi := _) (v := ?_) rfl rfl (by kernel_rfl) (by kernel_rfl) (by kernel_rfl) (by kernel_rfl) (fun _ _ _ h => by cases h.1) ⟨Or.inl ⟨by rfl, ?_⟩, fun _ => rfl⟩ (by assumption) ?_
        rotate_left
        · intro w0; go_simp; try with_reducible rfl
        try simp only [sx_]
        refine wpAnyInB_pure (i := 1) (oi := _) (v := ?_) rfl rfl (by kernel_rfl) (by kernel_rfl) (by kernel_rfl) (by kernel_rfl) (fun _ _ _ h => by cases h.1) ⟨Or.inl ⟨by rfl, ?_⟩, fun _ => rfl⟩ (by assumption) ?_
        rotate_left
        · intro w0; go_simp; try with_reducible rfl
        try simp only [sx_]
        refine wpAnyInB_pure (i := 2) (oi := _) (v := ?_) rfl rfl (by kernel_rfl) (by kernel_rfl) (by kernel_rfl) (by kernel_rfl) (fun _ _ _ h => by cases h.1) ⟨Or.inl ⟨by rfl, ?_⟩, fun _ => rfl⟩ (by assumption) ?_
        rotate_left
        · intro w0; go_simp; try with_reducible rfl
        try simp only [sx_]
        refine wpAnyInB_pure (i := 3) (oi := _) (v := ?_) rfl rfl (by kernel_rfl) (by kernel_rfl) (by kernel_rfl) (by kernel_rfl) (fun _ _ _ h => by cases h.1) ⟨Or.inl ⟨by rfl, ?_⟩, fun _ => rfl⟩ (by assumption) ?_
        rotate_left
        · intro w0; go_simp; try with_reducible rfl
        try simp only [sx_]
        refine wpAnyInB_pure (i := 4) (oi := _) (v := ?_) rfl rfl (by kernel_rfl) (by kernel_rfl) (by kernel_rfl) (by kernel_rfl) (fun _ _ _ h => by cases h.1) ⟨Or.inl ⟨by rfl, ?_⟩, fun _ => rfl⟩ (by assumption) ?_
        rotate_left
        · intro w0; go_simp; try with_reducible rfl
        try simp only [sx_]
        refine wpAnyInB_take (i := 5) (oi := _) (v := ?_) rfl rfl (by kernel_rfl) (by kernel_rfl) (by kernel_rfl) (by kernel_rfl) (fun _ _ _ h => by cases h.1) ⟨Or.inl ⟨by rfl, ?_⟩, fun _ _ => rfl⟩ (by assumption) ?_
        rotate_left
        · intro w0 hSw; obtain ⟨c0, c1, c2, c3, c4, c5, cf, cl⟩ := vZ2.ext hSw; obtain ⟨d0, d1, d2, d3, d4, d5, df, dl⟩ := hI6.ext (eZ2.trans hSw); dsimp only at c0 c1 c2 c3 c4 c5; go_simp; try with_reducible rfl
        try simp only [sx_]
        refine wpAnyInB_pure (i := 6) (oi := _) (v := ?_) rfl rfl (by kernel_rfl) (by kernel_rfl) (by kernel_rfl) (by kernel_rfl) (fun _ _ _ h => by cases h.1) ⟨Or.inl ⟨by rfl, ?_⟩, fun _ => rfl⟩ (by assumption) ?_
        rotate_left
        · intro w0; go_simp; try with_reducible rfl
        try simp only [sx_]
        refine wpAnyInB_pure (i := 7) (oi := _) (v := ?_) rfl rfl (by kernel_rfl) (by kernel_rfl) (by kernel_rfl) (by kernel_rfl) (fun _ _ _ h => by cases h.1) ⟨Or.inl ⟨by rfl, ?_⟩, fun _ => rfl⟩ (by assumption) ?_
        rotate_left
        · intro w0; go_simp; try with_reducible rfl
        try simp only [sx_]
        refine wpAnyInB_pure (i := 8) (oi := _) (v := ?_) rfl rfl (by kernel_rfl) (by kernel_rfl) (by kernel_rfl) (by kernel_rfl) (fun _ _ _ h => by cases h.1) ⟨Or.inl ⟨by rfl, ?_⟩, fun _ => rfl⟩ (by assumption) ?_
        rotate_left
        · intro w0; go_simp; try with_reducible rfl
        try simp only [sx_]
        refine wpAnyInB_take (i := 9) (oi := _) (v := ?_) rfl rfl (by kernel_rfl) (by kernel_rfl) (by kernel_rfl) (by kernel_rfl) (fun _ _ _ h => by cases h.1) ⟨Or.inl ⟨by rfl, ?_⟩, fun _ _ => rfl⟩ (by assumption) ?_
        rotate_left
        · intro w0 hSw; obtain ⟨c0, c1, c2, c3, c4, c5, cf, cl⟩ := vZ2.ext hSw; obtain ⟨d0, d1, d2, d3, d4, d5, df, dl⟩ := hI6.ext (eZ2.trans hSw); dsimp only at c0 c1 c2 c3 c4 c5; go_simp; try with_reducible rfl
        try simp only [sx_]
        refine wpAnyInB_pure (i := 10) (oi := _) (v := ?_) rfl rfl (by kernel_rfl) (by kernel_rfl) (by kernel_rfl) (by kernel_rfl) (fun _ _ _ h => by cases h.1) ⟨Or.inl ⟨by rfl, ?_⟩, fun _ => rfl⟩ (by assumption) ?_
        rotate_left
        · intro w0; go_simp; try with_reducible rfl
        try simp only [sx_]
        refine wpAnyInB_pure (i := 11) (oi := _) (v := ?_) rfl rfl (by kernel_rfl) (by kernel_rfl) (by kernel_rfl) (by kernel_rfl) (fun _ _ _ h => by cases h.1) ⟨Or.inl ⟨by rfl, ?_⟩, fun _ => rfl⟩ (by assumption) ?_
        rotate_left
        · intro w0; go_simp; try with_reducible rfl
        try simp only [sx_]
        refine wpAnyInB_pure (i := 12) (oi := _) (v := ?_) rfl rfl (by kernel_rfl) (by kernel_rfl) (by kernel_rfl) (by kernel_rfl) (fun _ _ _ h => by cases h.1) ⟨Or.inl ⟨by rfl, ?_⟩, fun _ => rfl⟩ (by assumption) ?_
        rotate_left
        · intro w0; go_simp; try with_reducible rfl
        try simp only [sx_]
        refine wpAnyInB_pure (i := 13) (oi := _) (v := ?_) rfl rfl (by kernel_rfl) (by kernel_rfl) (by kernel_rfl) (by kernel_rfl) (fun _ _ _ h => by cases h.1) ⟨Or.inl ⟨by rfl, ?_⟩, fun _ => rfl⟩ (by assumption) ?_
        rotate_left
        · intro w0; go_simp; try with_reducible rfl
        try simp only [sx_]
        refine wpAnyInB_take (i := 14) (oi := _) (v := ?_) rfl rfl (by kernel_rfl) (by kernel_rfl) (by kernel_rfl) (by kernel_rfl) (fun _ _ _ h => by cases h.1) ⟨Or.inl ⟨by rfl, ?_⟩, fun _ _ => rfl⟩ (by assumption) ?_
        rotate_left
        · intro w0 hSw; obtain ⟨c0, c1, c2, c3, c4, c5, cf, cl⟩ := vZ2.ext hSw; obtain ⟨d0, d1, d2, d3, d4, d5, df, dl⟩ := hI6.ext (eZ2.trans hSw); dsimp only at c0 c1 c2 c3 c4 c5; go_simp; try with_reducible rfl
        try simp only [sx_]
        refine wpAnyInB_pure (i := 15) (oi := _) (v := ?_) rfl rfl (by kernel_rfl) (by kernel_rfl) (by kernel_rfl) (by kernel_rfl) (fun _ _ _ h => by cases h.1) ⟨Or.inl ⟨by rfl, ?_⟩, fun _ => rfl⟩ (by assumption) ?_
        rotate_left
        · intro w0; go_simp; try with_reducible rfl
        try simp only [sx_]
        refine wpAnyInB_pure (i := 16) (oi := _) (v := ?_) rfl rfl (by kernel_rfl) (by kernel_rfl) (by kernel_rfl) (by kernel_rfl) (fun _ _ _ h => by cases h.1) ⟨Or.inl ⟨by rfl, ?_⟩, fun _ => rfl⟩ (by assumption) ?_
        rotate_left
        · intro w0; go_simp; try with_reducible rfl
        try simp only [sx_]
        refine wpAnyInB_pure (i := 17) (oi := _) (v := ?_) rfl rfl (by kernel_rfl) (by kernel_rfl) (by kernel_rfl) (by kernel_rfl) (fun _ _ _ h => by cases h.1) ⟨Or.inl ⟨by rfl, ?_⟩, fun _ => rfl⟩ (by assumption) ?_
        rotate_left
        · intro w0; go_simp; try with_reducible rfl
        try simp only [sx_]
        refine wpAnyInB_pure (i := 20) (oi := _) (v := ?_) rfl rfl (by kernel_rfl) (by kernel_rfl) (by kernel_rfl) (by kernel_rfl) (fun _ _ _ h => by cases h.1) ⟨Or.inl ⟨by rfl, ?_⟩, fun _ => rfl⟩ (by assumption) ?_
        rotate_left
        · intro w0; go_simp; try with_reducible rfl
        try simp only [sx_]
        refine wpAnyInB_pure (i := 21) (oi := _) (v := ?_) rfl rfl (by kernel_rfl) (by kernel_rfl) (by kernel_rfl) (by kernel_rfl) (fun _ _ _ h => by cases h.1) ⟨Or.inl ⟨by rfl, ?_⟩, fun _ => rfl⟩ (by assumption) ?_
        rotate_left
        · intro w0; go_simp; try with_reducible rfl
        try simp only [sx_]
        refine wpAnyInB_ready (rs := [18, 22]) (by kernel_rfl) (by simp) ?_
        refine AllReadyInB.cons (o := _) rfl rfl (fun K hK => ?_) (AllReadyInB.last (o := _) rfl rfl (fun K hK => ?_) AllReadyInB.nil)
        · obtain ⟨c0, c1, c2, c3, c4, c5, cf, cl⟩ := id vZ2
          obtain ⟨d0, d1, d2, d3, d4, d5, df, dl⟩ := hI6.ext eZ2
          dsimp only at c0 c1 c2 c3 c4 c5
          go_simp
          refine hK.out _ _ hHeld (fun _ => ?_)
          clear hK K
          try simp only [sx_]
          refine wpAnyInB_pure (i := 19) (oi := _) (v := ?_) rfl rfl (by kernel_rfl) (by kernel_rfl) (by kernel_rfl) (by kernel_rfl) (fun _ _ _ h => by cases h.1) ⟨Or.inl ⟨by rfl, ?_⟩, fun _ => rfl⟩ (by assumption) ?_
          rotate_left
          · intro w0; go_simp; try with_reducible rfl
          try simp only [sx_]
          refine wpAnyInB_ready (rs := [22]) (by kernel_rfl) (by simp) ?_
          refine AllReadyInB.last (o := _) rfl rfl (fun K hK => ?_) AllReadyInB.nil
          obtain ⟨c0, c1, c2, c3, c4, c5, cf, cl⟩ := id vZ2
          obtain ⟨d0, d1, d2, d3, d4, d5, df, dl⟩ := hI6.ext eZ2
          dsimp only at c0 c1 c2 c3 c4 c5
          go_simp
          refine hK.out _ _ trivial (fun _ => ?_)
          clear hK K
          try simp only [sx_]
          refine wpAnyIn_ready (rs := [23]) (by kernel_rfl) (by simp) ?_
          refine AllReadyIn.cons rfl (fun K hK => ?_) AllReadyIn.nil
          go_simp
          refine hK _ _ ?_
          clear hK K
          try simp only [sx_]
          refine wpAnyIn_ready (rs := [24]) (by kernel_rfl) (by simp) ?_
          refine AllReadyIn.cons rfl (fun K hK => ?_) AllReadyIn.nil
          go_simp
          refine hK _ _ ?_
          clear hK K
          try simp only [sx_]
          refine wpAnyIn_ready (rs := [25]) (by kernel_rfl) (by simp) ?_
          refine AllReadyIn.cons rfl (fun K hK => ?_) AllReadyIn.nil
          obtain ⟨c0, c1, c2, c3, c4, c5, cf, cl⟩ := id vZ2
          obtain ⟨d0, d1, d2, d3, d4, d5, df, dl⟩ := hI6.ext eZ2
          dsimp only at c0 c1 c2 c3 c4 c5
          go_simp
          refine hK _ _ ?_
          clear hK K
          try simp only [sx_]
          refine wpAnyIn_done (by kernel_rfl) ?_ _
          exact ⟨rfl, rfl, (vZ2.s4 _).s5 _, ((eZ2.setCell hGW _).setCell hGW _).drew⟩
        · obtain ⟨c0, c1, c2, c3, c4, c5, cf, cl⟩ := id vZ2
          obtain ⟨d0, d1, d2, d3, d4, d5, df, dl⟩ := hI6.ext eZ2
          dsimp only at c0 c1 c2 c3 c4 c5
          go_simp
          refine hK.out _ _ trivial (fun _ => ?_)
          clear hK K
          try simp only [sx_]
          refine wpAnyIn_ready (rs := [18]) (by kernel_rfl) (by simp) ?_
          refine AllReadyIn.cons rfl (fun K hK => ?_) AllReadyIn.nil
          obtain ⟨c0, c1, c2, c3, c4, c5, cf, cl⟩ := id vZ2
          obtain ⟨d0, d1, d2, d3, d4, d5, df, dl⟩ := hI6.ext eZ2
          dsimp only at c0 c1 c2 c3 c4 c5
          go_simp
          refine hK _ _ ?_
          clear hK K
          try simp only [sx_]
          refine wpAnyIn_ready (rs := [19]) (by kernel_rfl) (by simp) ?_
          refine AllReadyIn.cons rfl (fun K hK => ?_) AllReadyIn.nil
          go_simp
          refine hK _ _ ?_
          clear hK K
          try simp only [sx_]
          refine wpAnyIn_ready (rs := [23]) (by kernel_rfl) (by simp) ?_
          refine AllReadyIn.cons rfl (fun K hK => ?_) AllReadyIn.nil
          go_simp
          refine hK _ _ ?_
          clear hK K
          try simp only [sx_]
          refine wpAnyIn_ready (rs := [24]) (by kernel_rfl) (by simp) ?_
          refine AllReadyIn.cons rfl (fun K hK => ?_) AllReadyIn.nil
          go_simp
          refine hK _ _ ?_
          clear hK K
          try simp only [sx_]
          refine wpAnyIn_ready (rs := [25]) (by kernel_rfl) (by simp) ?_
          refine AllReadyIn.cons rfl (fun K hK => ?_) AllReadyIn.nil
          obtain ⟨c0, c1, c2, c3, c4, c5, cf, cl⟩ := id vZ2
          obtain ⟨d0, d1, d2, d3, d4, d5, df, dl⟩ := hI6.ext eZ2
          dsimp only at c0 c1 c2 c3 c4 c5
          go_simp
          refine hK _ _ ?_
          clear hK K
          try simp only [sx_]
          refine wpAnyIn_done (by kernel_rfl) ?_ _
          exact ⟨rfl, rfl, (vZ2.s4 _).s5 _, ((eZ2.setCell hGW _).setCell hGW _).drew⟩
      clear vZ2 eZ2
      intro Y3 hh2
      obtain ⟨vY3, eY3⟩ := hh2
      gi_wp2
      rw [roundsIn_succ]
      obtain ⟨c0, c1, c2, c3, c4, c5, cf, cl⟩ := id vY3
      have hd := hI6.ext eY3
      obtain ⟨d0, d1, d2, d3, d4, d5, df, dl⟩ := id hd
      have dc := (eY3.cells.1 (g + 1 + 1) 0 (by omega)).trans hIc
      have dcf := (eY3.cells.2 (g + 1 + 1) 0 (by omega)).trans hIf
      have b0 := (eY3.cells.1 Bs 0 hBs).trans hA0
      have b1 := (eY3.cells.1 Bs 1 hBs).trans hA1
      have b2 := (eY3.cells.1 Bp 0 hBp).trans hA5
      have b3 := (eY3.cells.1 Bp 1 hBp).trans hA6
      have ys := eY3.size
      dsimp only at c0 c1 c2 c3 c4 c5
      gi_wp2
      exact over_end hOI hB eY3 (by rw [hsn]; rfl) (by rw [hN])
  case done =>
    rintro Dd zs Wd hD rfl ⟨⟨h6, hc, hf, hs⟩, hB⟩ hK
    rw [oeF_sel _ _ _ _ (Nat.le_refl _)] at h6
    change V6 Wd (g + 1) (oeV D fr ti) at h6
    have hX4 : Ext w4 Wd := by rw [← hg] at hB; exact hB
    have h40 : V6 w4 (w.heap.size + 1) V3.O := by
      refine ⟨?_, ?_, ?_, ?_, ?_, ?_, fun o => ?_, by omega⟩ <;> simp [hc4, hf4, go_sem, ↓IntWalk.iteOmega, V3.O]
    have h4d := h40.ext hX4
    obtain ⟨r0, r1, r2, r3, r4, r5, rf, rl⟩ := id h4d
    have hwd : w.heap.size + 1 + 1 ≤ Wd.heap.size := by omega
    have hXd : Ext w Wd := hXw.trans hX4
    obtain ⟨O, hO⟩ : ∃ O, oeV D fr ti = O := ⟨_, rfl⟩
    rw [hO] at h6 hR
    clear c0 c1 c2
    obtain ⟨c0, c1, c2, c3, c4, c5, cf, cl⟩ := h6
    have hch := fun w1 => s_check O w1
    obtain ⟨C, hC⟩ : ∃ C, ckV O = C := ⟨_, rfl⟩
    rw [hC] at hR hch
    rw [hb0]
    clear hk hs4 hc4 hf4 hW0 q12 q13 hb0 hb4 hX0 hX4
    by_cases hC0 : C = 0
    · subst hC0
      rw [if_neg (by simp)] at hR
      subst hR
      gi_wp2_with (refine ⟨trivial, ?_⟩; gi_at_call 77; (with_reducible refine (callsIn_wide.2 (hch _)).mono ?_); rintro e w6 ⟨rfl, hb6⟩; obtain ⟨_, _, hc6, hf6⟩ := hb6.cells2; have hz6 := hb6.size; (try simp only [World.size_alloc, World.size_setCell] at hz6 hc6 hf6))
      obtain ⟨Z, hZ, l1, l2, l3⟩ := over_leave O.a O.b O.c O.d O.e O.f hK hXd hb6 (g := w.heap.size + 1) (by omega) (by omega) h4d
      obtain ⟨m0, m1, m2, m3, m4, m5, mf, ml⟩ := l2
      rw [← hZ]
      refine ⟨by simp, .inl ⟨_, _, rfl, run_takeDeferred l1, ?_⟩⟩
      refine ⟨.tuple #[.agg #[.int .i64 O.a, .int .i64 O.b, .int .i64 O.c, .int .i64 O.d, .int .i64 O.e, .int .i64 O.f], .int .i64 0], ?_, rfl, l3⟩
      dsimp only at m0 m1 m2 m3 m4 m5
      simp [results, Tryz.f87, go_sem, m0, m1, m2, m3, m4, m5]
    · rw [if_pos hC0] at hR
      subst hR
      gi_wp2_with (refine ⟨trivial, ?_⟩; gi_at_call 77; (with_reducible refine (callsIn_wide.2 (hch _)).mono ?_); rintro e w6 ⟨rfl, hb6⟩; obtain ⟨_, _, hc6, hf6⟩ := hb6.cells2; have hz6 := hb6.size; (try simp only [World.size_alloc, World.size_setCell] at hz6 hc6 hf6))
      obtain ⟨Z, hZ, l1, l2, l3⟩ := over_leave 0 0 0 0 0 0 hK hXd hb6 (g := w.heap.size + 1) (by omega) (by omega) h4d
      obtain ⟨m0, m1, m2, m3, m4, m5, mf, ml⟩ := l2
      rw [← hZ]
      refine ⟨by simp, .inl ⟨_, _, rfl, run_takeDeferred l1, ?_⟩⟩
      refine ⟨.tuple #[.agg #[.int .i64 0, .int .i64 0, .int .i64 0, .int .i64 0, .int .i64 0, .int .i64 0], .int .i64 16], ?_, rfl, l3⟩
      dsimp only at m0 m1 m2 m3 m4 m5
      simp [results, Tryz.f87, go_sem, m0, m1, m2, m3, m4, m5]
  case stop =>
    rintro D c pre W _ _ h _
    exact h.elim
theorem p_Over (v : Value) (l : List BodyD) (i : Nat) (fr ti : Int) (w : World) (hB : Bds w v l) (hE : CkE l 0) (hS : Sml l) (hi : i < l.length) :
    Calls Tryz.prog 87 #[.agg #[v], .int .i64 (i : Int), .int .i64 fr, .int .i64 ti] w fun e w' => e = .returned (.tuple #[.agg #[.int .i64 (oeR (bd l i) fr ti).v.a, .int .i64 (oeR (bd l i) fr ti).v.b, .int .i64 (oeR (bd l i) fr ti).v.c, .int .i64 (oeR (bd l i) fr ti).v.d, .int .i64 (oeR (bd l i) fr ti).v.e, .int .i64 (oeR (bd l i) fr ti).v.f], .int .i64 (oeR (bd l i) fr ti).e]) ∧ Ext w w' :=
  callsIn_wide.1 (p_Over_in v l i fr ti w hB hE hS hi)
end Go.Proofs.YtbkgakgdbmjmjaaGreat
