/- The example of the law. -/
import Derived.Test.YtcalonhphknbbaaJ34
import Derived.Test.YtcalonhphknbbaaJ35
import Derived.RegionTactic
set_option linter.unusedSimpArgs false
set_option linter.unusedVariables false
namespace Go.Proofs.Ytcalonhphknbbaa
open Go.RowKit

theorem r_part12 (w : World) : Calls Try.prog 17 #[.int .i64 1, .int .i64 2] w fun e w' => ∃ u, e = .returned u ∧ Fq w' u 1 2 ∧ Ext w w' := r_part 1 2 w (by decide) (by decide) (by decide) (by decide)
theorem r_part34 (w : World) : Calls Try.prog 17 #[.int .i64 3, .int .i64 4] w fun e w' => ∃ u, e = .returned u ∧ Fq w' u 3 4 ∧ Ext w w' := r_part 3 4 w (by decide) (by decide) (by decide) (by decide)
theorem Gr.lit (w : World) : Gr (w.alloc (.cells #[.int .i64 1, .int .i64 2, .bool true] 53)) (.slice (some ⟨w.heap.size, 0, none⟩) 1 1) [(1, 2, true)] := by
  refine ⟨_, w.heap.size, 1, rfl, fun _ => ⟨rfl, by simp⟩, Nat.le_refl _, by omega, fun i g hg => ?_⟩
  have hi := (List.getElem?_eq_some_iff.1 hg).1
  have : i = 0 := by simp at hi; exact hi
  subst this
  simp at hg
  subst hg
  refine ⟨?_, ?_, ?_⟩ <;> simp [go_sem]
theorem Oc.lit (w : World) : Oc (w.alloc (.cells #[.int .i8 0, .int .i8 2, .int .i8 1] 47)) (.slice (some ⟨w.heap.size, 0, none⟩) 3 3) [0, 2, 1] := by
  refine ⟨_, w.heap.size, 0, 3, rfl, fun _ => rfl, Nat.le_refl _, by omega, fun _ => by simp, fun i hi => ?_, fun i hi => ?_⟩
  · have h3 : i < 3 := hi
    rcases (by omega : i = 0 ∨ i = 1 ∨ i = 2) with rfl | rfl | rfl <;> simp [go_sem]
  · have h3 : i < 3 := hi
    rcases (by omega : i = 0 ∨ i = 1 ∨ i = 2) with rfl | rfl | rfl <;> decide
set_option maxRecDepth 100000 in
set_option maxHeartbeats 4000000 in
theorem k_alive (w : World) :
    Calls Try.prog 12 #[] w fun e w' => e = .returned (.bool true) ∧ Ext w w' := by
  have hO := Oc.lit w
  have hbd := w_Bounds _ _ 1 _ hO l021 rfl (by decide)
  rw [b021.1, b021.2.1, b021.2.2.1, b021.2.2.2] at hbd
  have hgr := fun w1 (k1 : Ext (w.alloc (.cells #[.int .i8 0, .int .i8 2, .int .i8 1] 47)) w1) => w_Groups _ _ w1 (hO.ext k1) l021
  have e3 : gAt [0, 2, 1] ([0, 2, 1] : List Int).length = [(1, 2, true)] := g021
  rw [e3] at hgr
  clear hO
  go_enter Try.func12, Try.ntmps12
  go_upto_region 4 with (first
    | (go_at_call 6; (with_reducible refine hbd.mono ?_); rintro e w1 ⟨u1, u2, rfl, fA, fB, hb1⟩; have fAb := fA; have fBb := fB; obtain ⟨y1, z1, rfl, ha1, ha2⟩ := fAb; obtain ⟨y2, z2, rfl, hb11, hb12⟩ := fBb; obtain ⟨a1, _, o1, c1, rfl, -⟩ := ha1.view; obtain ⟨a2, _, o2, c2, rfl, -⟩ := ha2.view; obtain ⟨a3, _, o3, c3, rfl, -⟩ := hb11.view; obtain ⟨a4, _, o4, c4, rfl, -⟩ := hb12.view; obtain ⟨_, _, hc1, hf1⟩ := hb1.cells2; have hz1 := hb1.size; (try simp only [World.size_alloc, World.size_setCell] at hz1 hc1 hf1))
    | (go_at_call 8; (with_reducible refine (hgr _ (by repeat (first | with_reducible exact Ext.refl _ | with_reducible assumption | with_reducible refine Ext.alloc ?_ _ | with_reducible refine Ext.setCell ?_ (by (try simp only [World.size_alloc, World.size_setCell]); omega) _ | with_reducible refine Ext.drewN ?_ _ | with_reducible refine Ext.drew ?_ | with_reducible refine Ext.trans ?_ (by with_reducible assumption)))).mono ?_); rintro e w2 ⟨u3, rfl, hGr, hb2⟩; obtain ⟨_, _, hc2, hf2⟩ := hb2.cells2; have hz2 := hb2.size; (try simp only [World.size_alloc, World.size_setCell] at hz2 hc2 hf2)))
  refine wp_name fun W hW => ?_
  have e9 : W = _ := hW
  subst e9
  have fA2 : Fq W (.agg #[.bool false, .slice a1 (dig 1).length c1, .bool false, .slice a2 (dig 2).length c2]) 1 2 := fA.ext ((((Ext.refl w1).alloc _).alloc _).trans hb2)
  have fB2 : Fq W (.agg #[.bool false, .slice a3 (dig 3).length c3, .bool false, .slice a4 (dig 4).length c4]) 3 4 := fB.ext ((((Ext.refl w1).alloc _).alloc _).trans hb2)
  have hWE : Ext w W := (by repeat (first | with_reducible exact Ext.refl _ | with_reducible assumption | with_reducible refine Ext.alloc ?_ _ | with_reducible refine Ext.setCell ?_ (by (try simp only [World.size_alloc, World.size_setCell]); omega) _ | with_reducible refine Ext.drewN ?_ _ | with_reducible refine Ext.drew ?_ | with_reducible refine Ext.trans ?_ (by with_reducible assumption)))
  have hsz := hb2.size
  simp only [World.size_alloc] at hsz
  have hA : w1.heap.size < W.heap.size := by omega
  have hB : w1.heap.size + 1 < W.heap.size := by omega
  have k0 : W.cell? ⟨w1.heap.size, 0, none⟩ = some (.bool false) := (hb2.cells.1 _ 0 (by simp; omega)).trans (by simp [go_sem, ↓IntWalk.iteOmega])
  have k1 : W.cell? ⟨w1.heap.size, 1, none⟩ = some (.slice a1 (dig 1).length c1) := (hb2.cells.1 _ 1 (by simp; omega)).trans (by simp [go_sem, ↓IntWalk.iteOmega])
  have k2 : W.cell? ⟨w1.heap.size, 2, none⟩ = some (.bool false) := (hb2.cells.1 _ 2 (by simp; omega)).trans (by simp [go_sem, ↓IntWalk.iteOmega])
  have k3 : W.cell? ⟨w1.heap.size, 3, none⟩ = some (.slice a2 (dig 2).length c2) := (hb2.cells.1 _ 3 (by simp; omega)).trans (by simp [go_sem, ↓IntWalk.iteOmega])
  have l0 : W.cell? ⟨w1.heap.size + 1, 0, none⟩ = some (.bool false) := (hb2.cells.1 _ 0 (by simp)).trans (by simp [go_sem, ↓IntWalk.iteOmega])
  have l1 : W.cell? ⟨w1.heap.size + 1, 1, none⟩ = some (.slice a3 (dig 3).length c3) := (hb2.cells.1 _ 1 (by simp)).trans (by simp [go_sem, ↓IntWalk.iteOmega])
  have l2 : W.cell? ⟨w1.heap.size + 1, 2, none⟩ = some (.bool false) := (hb2.cells.1 _ 2 (by simp)).trans (by simp [go_sem, ↓IntWalk.iteOmega])
  have l3 : W.cell? ⟨w1.heap.size + 1, 3, none⟩ = some (.slice a4 (dig 4).length c4) := (hb2.cells.1 _ 3 (by simp)).trans (by simp [go_sem, ↓IntWalk.iteOmega])
  clear hb1 hb2 fA fB hbd hgr hW
  refine wp_region_held_drew (S := (fun w0 => Ext W w0)) (by kernel_rfl) ?_ (fun hHeld => ?_)
  · exact (Ext.refl W).drew
  try simp only [Act.put, List.setIfInBounds_toArray, List.set_cons_zero, List.set_cons_succ, List.getElem_toArray, List.getElem_cons_succ, List.getElem_cons_zero]
  refine wpAnyH_take (i := 0) (oi := _) (v := ?_) rfl (by kernel_rfl) (by kernel_rfl) (by kernel_rfl) (fun _ _ _ h => h) (Or.inl ⟨by rfl, ?_⟩) (by assumption) ?_
  rotate_left
  · intro w0 hSw; go_simp; try with_reducible rfl
  try simp only [Act.put, List.setIfInBounds_toArray, List.set_cons_zero, List.set_cons_succ, List.getElem_toArray, List.getElem_cons_succ, List.getElem_cons_zero]
  refine wpAnyH_take (i := 1) (oi := _) (v := ?_) rfl (by kernel_rfl) (by kernel_rfl) (by kernel_rfl) (fun _ _ _ h => h) (Or.inl ⟨by rfl, ?_⟩) (by assumption) ?_
  rotate_left
  · intro w0 hSw; go_simp; try with_reducible rfl
  try simp only [Act.put, List.setIfInBounds_toArray, List.set_cons_zero, List.set_cons_succ, List.getElem_toArray, List.getElem_cons_succ, List.getElem_cons_zero]
  refine wpAnyH_take (i := 2) (oi := _) (v := ?_) rfl (by kernel_rfl) (by kernel_rfl) (by kernel_rfl) (fun _ _ _ h => h) (Or.inl ⟨by rfl, ?_⟩) (by assumption) ?_
  rotate_left
  · intro w0 hSw; go_simp; try with_reducible rfl
  try simp only [Act.put, List.setIfInBounds_toArray, List.set_cons_zero, List.set_cons_succ, List.getElem_toArray, List.getElem_cons_succ, List.getElem_cons_zero]
  refine wpAnyH_take (i := 3) (oi := _) (v := ?_) rfl (by kernel_rfl) (by kernel_rfl) (by kernel_rfl) (fun _ _ _ h => h) (Or.inl ⟨by rfl, ?_⟩) (by assumption) ?_
  rotate_left
  · intro w0 hSw; have r0 := (hSw.cells.1 _ 0 hA).trans k0; have r1 := (hSw.cells.1 _ 1 hA).trans k1; have r2 := (hSw.cells.1 _ 2 hA).trans k2; have r3 := (hSw.cells.1 _ 3 hA).trans k3; have g0 := (hSw.cells.1 _ 0 hB).trans l0; have g1 := (hSw.cells.1 _ 1 hB).trans l1; have g2 := (hSw.cells.1 _ 2 hB).trans l2; have g3 := (hSw.cells.1 _ 3 hB).trans l3; go_simp; try with_reducible rfl
  try simp only [Act.put, List.setIfInBounds_toArray, List.set_cons_zero, List.set_cons_succ, List.getElem_toArray, List.getElem_cons_succ, List.getElem_cons_zero]
  refine wpAnyH_ready (rs := [4]) (by kernel_rfl) (by simp) ?_
  refine AllReadyH.cons (o := _) rfl (fun K hK => ?_) AllReadyH.nil
  go_simp
  (go_at_call 17; (with_reducible refine (r_part12 _).mono ?_); rintro e t0 ⟨p0, rfl, hq0, hx0⟩; have hqb := hq0; obtain ⟨y0, z0, rfl, hva, hvb⟩ := hqb; obtain ⟨_, _, _, _, rfl, -⟩ := hva.view; obtain ⟨_, _, _, _, rfl, -⟩ := hvb.view)
  refine hK.out _ _ ?_ (fun hHeldN => ?_)
  · (try dsimp only); exact hHeld.trans hx0
  clear hK K hHeld
  have hHeld := hHeldN
  clear hHeldN
  try simp only [Act.put, List.setIfInBounds_toArray, List.set_cons_zero, List.set_cons_succ, List.getElem_toArray, List.getElem_cons_succ, List.getElem_cons_zero]
  refine wpAnyH_ready (rs := [5]) (by kernel_rfl) (by simp) ?_
  refine AllReadyH.cons (o := _) rfl (fun K hK => ?_) AllReadyH.nil
  go_simp
  (go_at_call 10; (with_reducible refine (r_fSame _ _ 1 2 1 2 _ (fA2.ext hHeld) hq0).mono ?_); rintro e t1 ⟨rfl, hx1⟩)
  refine hK.out _ _ ?_ (fun hHeldN => ?_)
  · (try dsimp only); exact hHeld.trans hx1
  clear hK K hHeld
  have hHeld := hHeldN
  clear hHeldN
  try simp only [Act.put, List.setIfInBounds_toArray, List.set_cons_zero, List.set_cons_succ, List.getElem_toArray, List.getElem_cons_succ, List.getElem_cons_zero]
  refine wpAnyH_take (i := 6) (oi := _) (v := ?_) rfl (by kernel_rfl) (by kernel_rfl) (by kernel_rfl) (fun _ _ _ h => h) (Or.inl ⟨by rfl, ?_⟩) (by assumption) ?_
  rotate_left
  · intro w0 hSw; go_simp; try with_reducible rfl
  try simp only [Act.put, List.setIfInBounds_toArray, List.set_cons_zero, List.set_cons_succ, List.getElem_toArray, List.getElem_cons_succ, List.getElem_cons_zero]
  refine wpAnyH_take (i := 7) (oi := _) (v := ?_) rfl (by kernel_rfl) (by kernel_rfl) (by kernel_rfl) (fun _ _ _ h => h) (Or.inl ⟨by rfl, ?_⟩) (by assumption) ?_
  rotate_left
  · intro w0 hSw; go_simp; try with_reducible rfl
  try simp only [Act.put, List.setIfInBounds_toArray, List.set_cons_zero, List.set_cons_succ, List.getElem_toArray, List.getElem_cons_succ, List.getElem_cons_zero]
  refine wpAnyH_take (i := 8) (oi := _) (v := ?_) rfl (by kernel_rfl) (by kernel_rfl) (by kernel_rfl) (fun _ _ _ h => h) (Or.inl ⟨by rfl, ?_⟩) (by assumption) ?_
  rotate_left
  · intro w0 hSw; have r0 := (hSw.cells.1 _ 0 hA).trans k0; have r1 := (hSw.cells.1 _ 1 hA).trans k1; have r2 := (hSw.cells.1 _ 2 hA).trans k2; have r3 := (hSw.cells.1 _ 3 hA).trans k3; have g0 := (hSw.cells.1 _ 0 hB).trans l0; have g1 := (hSw.cells.1 _ 1 hB).trans l1; have g2 := (hSw.cells.1 _ 2 hB).trans l2; have g3 := (hSw.cells.1 _ 3 hB).trans l3; go_simp; try with_reducible rfl
  try simp only [Act.put, List.setIfInBounds_toArray, List.set_cons_zero, List.set_cons_succ, List.getElem_toArray, List.getElem_cons_succ, List.getElem_cons_zero]
  refine wpAnyH_ready (rs := [9]) (by kernel_rfl) (by simp) ?_
  refine AllReadyH.cons (o := _) rfl (fun K hK => ?_) AllReadyH.nil
  go_simp
  (go_at_call 17; (with_reducible refine (r_part34 _).mono ?_); rintro e t2 ⟨p2, rfl, hq2, hx2⟩; have hqb := hq2; obtain ⟨y2, z2, rfl, hva, hvb⟩ := hqb; obtain ⟨_, _, _, _, rfl, -⟩ := hva.view; obtain ⟨_, _, _, _, rfl, -⟩ := hvb.view)
  refine hK.out _ _ ?_ (fun hHeldN => ?_)
  · (try dsimp only); exact hHeld.trans hx2
  clear hK K hHeld
  have hHeld := hHeldN
  clear hHeldN
  try simp only [Act.put, List.setIfInBounds_toArray, List.set_cons_zero, List.set_cons_succ, List.getElem_toArray, List.getElem_cons_succ, List.getElem_cons_zero]
  refine wpAnyH_ready (rs := [10]) (by kernel_rfl) (by simp) ?_
  refine AllReadyH.cons (o := _) rfl (fun K hK => ?_) AllReadyH.nil
  go_simp
  (go_at_call 10; (with_reducible refine (r_fSame _ _ 3 4 3 4 _ (fB2.ext hHeld) hq2).mono ?_); rintro e t3 ⟨rfl, hx3⟩)
  refine hK.out _ _ ?_ (fun hHeldN => ?_)
  · (try dsimp only); exact hHeld.trans hx3
  clear hK K hHeld
  have hHeld := hHeldN
  clear hHeldN
  try simp only [Act.put, List.setIfInBounds_toArray, List.set_cons_zero, List.set_cons_succ, List.getElem_toArray, List.getElem_cons_succ, List.getElem_cons_zero]
  refine wpAnyH_take (i := 11) (oi := _) (v := ?_) rfl (by kernel_rfl) (by kernel_rfl) (by kernel_rfl) (fun _ _ _ h => h) (Or.inl ⟨by rfl, ?_⟩) (by assumption) ?_
  rotate_left
  · intro w0 hSw; go_simp; try with_reducible rfl
  try simp only [Act.put, List.setIfInBounds_toArray, List.set_cons_zero, List.set_cons_succ, List.getElem_toArray, List.getElem_cons_succ, List.getElem_cons_zero]
  refine wpAnyH_take (i := 12) (oi := _) (v := ?_) rfl (by kernel_rfl) (by kernel_rfl) (by kernel_rfl) (fun _ _ _ h => h) (Or.inl ⟨by rfl, ?_⟩) (by assumption) ?_
  rotate_left
  · intro w0 hSw; go_simp; try with_reducible rfl
  try simp only [Act.put, List.setIfInBounds_toArray, List.set_cons_zero, List.set_cons_succ, List.getElem_toArray, List.getElem_cons_succ, List.getElem_cons_zero]
  refine wpAnyH_take (i := 13) (oi := _) (v := ?_) rfl (by kernel_rfl) (by kernel_rfl) (by kernel_rfl) (fun _ _ _ h => h) (Or.inl ⟨by rfl, ?_⟩) (by assumption) ?_
  rotate_left
  · intro w0 hSw; go_simp; try with_reducible rfl
  try simp only [Act.put, List.setIfInBounds_toArray, List.set_cons_zero, List.set_cons_succ, List.getElem_toArray, List.getElem_cons_succ, List.getElem_cons_zero]
  refine wpAnyH_take (i := 14) (oi := _) (v := ?_) rfl (by kernel_rfl) (by kernel_rfl) (by kernel_rfl) (fun _ _ _ h => h) (Or.inl ⟨by rfl, ?_⟩) (by assumption) ?_
  rotate_left
  · intro w0 hSw; go_simp; try with_reducible rfl
  try simp only [Act.put, List.setIfInBounds_toArray, List.set_cons_zero, List.set_cons_succ, List.getElem_toArray, List.getElem_cons_succ, List.getElem_cons_zero]
  refine wpAnyH_take (i := 15) (oi := _) (v := ?_) rfl (by kernel_rfl) (by kernel_rfl) (by kernel_rfl) (fun _ _ _ h => h) (Or.inl ⟨by rfl, ?_⟩) (by assumption) ?_
  rotate_left
  · intro w0 hSw; go_simp; try with_reducible rfl
  try simp only [Act.put, List.setIfInBounds_toArray, List.set_cons_zero, List.set_cons_succ, List.getElem_toArray, List.getElem_cons_succ, List.getElem_cons_zero]
  refine wpAnyH_take (i := 16) (oi := _) (v := ?_) rfl (by kernel_rfl) (by kernel_rfl) (by kernel_rfl) (fun _ _ _ h => h) (Or.inl ⟨by rfl, ?_⟩) (by assumption) ?_
  rotate_left
  · intro w0 hSw; go_simp; try with_reducible rfl
  try simp only [Act.put, List.setIfInBounds_toArray, List.set_cons_zero, List.set_cons_succ, List.getElem_toArray, List.getElem_cons_succ, List.getElem_cons_zero]
  refine wpAnyH_take (i := 17) (oi := _) (v := ?_) rfl (by kernel_rfl) (by kernel_rfl) (by kernel_rfl) (fun _ _ _ h => h) (Or.inl ⟨by rfl, ?_⟩) (by assumption) ?_
  rotate_left
  · intro w0 hSw; go_simp; try with_reducible rfl
  try simp only [Act.put, List.setIfInBounds_toArray, List.set_cons_zero, List.set_cons_succ, List.getElem_toArray, List.getElem_cons_succ, List.getElem_cons_zero]
  refine wpAnyH_take (i := 18) (oi := _) (v := ?_) rfl (by kernel_rfl) (by kernel_rfl) (by kernel_rfl) (fun _ _ _ h => h) (Or.inl ⟨by rfl, ?_⟩) (by assumption) ?_
  rotate_left
  · intro w0 hSw; go_simp; try with_reducible rfl
  try simp only [Act.put, List.setIfInBounds_toArray, List.set_cons_zero, List.set_cons_succ, List.getElem_toArray, List.getElem_cons_succ, List.getElem_cons_zero]
  refine wpAnyH_ready (rs := [19]) (by kernel_rfl) (by simp) ?_
  refine AllReadyH.cons (o := _) rfl (fun K hK => ?_) AllReadyH.nil
  go_simp
  refine hK.out _ _ ?_ (fun hHeldN => ?_)
  · (try dsimp only); exact hHeld.alloc _
  clear hK K hHeld
  have hHeld := hHeldN
  clear hHeldN
  try simp only [Act.put, List.setIfInBounds_toArray, List.set_cons_zero, List.set_cons_succ, List.getElem_toArray, List.getElem_cons_succ, List.getElem_cons_zero]
  refine wpAnyH_ready (rs := [20]) (by kernel_rfl) (by simp) ?_
  refine AllReadyH.cons (o := _) rfl (fun K hK => ?_) AllReadyH.nil
  go_simp
  (go_at_call 11; (with_reducible refine (r_SameGroups _ _ [(1, 2, true)] _ (hGr.ext hHeld) (Gr.lit _) (by decide)).mono ?_); rintro e t4 ⟨rfl, hx4⟩)
  refine hK.out _ _ ?_ (fun hHeldN => ?_)
  · (try dsimp only); exact hHeld.trans hx4
  clear hK K hHeld
  have hHeld := hHeldN
  clear hHeldN
  try simp only [Act.put, List.setIfInBounds_toArray, List.set_cons_zero, List.set_cons_succ, List.getElem_toArray, List.getElem_cons_succ, List.getElem_cons_zero]
  refine wpAnyH_take (i := 21) (oi := _) (v := ?_) rfl (by kernel_rfl) (by kernel_rfl) (by kernel_rfl) (fun _ _ _ h => h) (Or.inl ⟨by rfl, ?_⟩) (by assumption) ?_
  rotate_left
  · intro w0 hSw; go_simp; try with_reducible rfl
  try simp only [Act.put, List.setIfInBounds_toArray, List.set_cons_zero, List.set_cons_succ, List.getElem_toArray, List.getElem_cons_succ, List.getElem_cons_zero]
  refine wpAnyH_take (i := 22) (oi := _) (v := ?_) rfl (by kernel_rfl) (by kernel_rfl) (by kernel_rfl) (fun _ _ _ h => h) (Or.inl ⟨by rfl, ?_⟩) (by assumption) ?_
  rotate_left
  · intro w0 hSw; go_simp; try with_reducible rfl
  try simp only [Act.put, List.setIfInBounds_toArray, List.set_cons_zero, List.set_cons_succ, List.getElem_toArray, List.getElem_cons_succ, List.getElem_cons_zero]
  refine wpAnyH_done (by kernel_rfl) ?_ _
  go_wp2_with fail
  go_ret
  exact ⟨rfl, hWE.trans hHeld⟩

end Go.Proofs.Ytcalonhphknbbaa
