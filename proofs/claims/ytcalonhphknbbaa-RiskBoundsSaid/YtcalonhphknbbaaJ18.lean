/- Numbers compared; frac: small functions. -/
import Derived.Test.YtcalonhphknbbaaJ17
set_option linter.unusedSimpArgs false
set_option linter.unusedVariables false
namespace Go.Proofs.Ytcalonhphknbbaa
open Go.RowKit

set_option maxRecDepth 100000 in
set_option maxHeartbeats 2000000 in
theorem w_to (va vb : Value) (m k : Nat) (w : World) (ha : Nn w va m) (hb0 : Nn w vb k) :
    Calls Try.prog 90 #[va, vb] w fun e w' => e = .returned (.int .i64 (cmpI m k)) ∧ Ext w w' := by
  obtain ⟨u, rfl, hu⟩ := ha
  obtain ⟨s, rfl, hv⟩ := hb0
  obtain ⟨ao, b1, o1, cap1, rfl, -⟩ := hu.view
  obtain ⟨bo, b2, o2, cap2, rfl, -⟩ := hv.view
  have hcm := fun w1 (k1 : Ext w w1) => w_compare _ _ (dig m) (dig k) w1 (hu.ext k1) (hv.ext k1) (dig_nz m) (dig_nz k)
  rw [dig_val, dig_val] at hcm
  go_enter Try.func90, Try.ntmps90
  go_wp2_with (go_at_call 74; (with_reducible refine (hcm _ (by repeat (first | with_reducible exact Ext.refl _ | with_reducible assumption | with_reducible refine Ext.alloc ?_ _ | with_reducible refine Ext.setCell ?_ (by (try simp only [World.size_alloc, World.size_setCell]); omega) _ | with_reducible refine Ext.drewN ?_ _ | with_reducible refine Ext.drew ?_ | with_reducible refine Ext.trans ?_ (by with_reducible assumption)))).mono ?_); rintro e w1 ⟨rfl, hb⟩)
  go_ret
  exact ⟨rfl, (by repeat (first | with_reducible exact Ext.refl _ | with_reducible assumption | with_reducible refine Ext.alloc ?_ _ | with_reducible refine Ext.setCell ?_ (by (try simp only [World.size_alloc, World.size_setCell]); omega) _ | with_reducible refine Ext.drewN ?_ _ | with_reducible refine Ext.drew ?_ | with_reducible refine Ext.trans ?_ (by with_reducible assumption)))⟩
set_option maxRecDepth 100000 in
set_option maxHeartbeats 2000000 in
theorem w_Cmp (va vb : Value) (m k : Nat) (w : World) (ha : Nn w va m) (hb0 : Nn w vb k) (hs : Small m) (hs2 : Small k) :
    Calls Try.prog 81 #[va, vb] w fun e w' => e = .returned (.tuple #[.int .i64 (cmpI m k), .int .i64 0]) ∧ Ext w w' := by
  obtain ⟨u, rfl, hu⟩ := ha
  obtain ⟨s, rfl, hv⟩ := hb0
  obtain ⟨ao, b1, o1, cap1, rfl, -⟩ := hu.view
  obtain ⟨bo, b2, o2, cap2, rfl, -⟩ := hv.view
  have hck := w_check_two ((w.alloc (.cells #[.bool false, .slice ao (dig m).length cap1] 25)).alloc (.cells #[.bool false, .slice bo (dig k).length cap2] 25)) _ _ m k ((hu.alloc _).alloc _) ((hv.alloc _).alloc _) hs hs2
  simp only [World.size_alloc] at hck
  have hto := fun w1 (k1 : Ext w w1) => w_to (.agg #[.bool false, .slice ao (dig m).length cap1]) (.agg #[.bool false, .slice bo (dig k).length cap2]) m k w1 ⟨_, rfl, hu.ext k1⟩ ⟨_, rfl, hv.ext k1⟩
  have hmf : ∀ (fn : Fn) (first cap : Array Value) (w : World), (Instr.makeFunc fn first cap).run Try.prog w = .ok (.func fn first cap) w := fun _ _ _ _ => rfl
  go_enter Try.func81, Try.ntmps81
  go_wp2_with (first
    | (go_at_call 57; (with_reducible refine hck.mono ?_); rintro e w1 ⟨rfl, hb⟩; obtain ⟨_, _, hc, hf⟩ := hb.cells2; have hz := hb.size; (try simp only [World.size_alloc, World.size_setCell] at hz hc hf))
    | (go_at_call 90; (with_reducible refine (hto _ (by repeat (first | with_reducible exact Ext.refl _ | with_reducible assumption | with_reducible refine Ext.alloc ?_ _ | with_reducible refine Ext.setCell ?_ (by (try simp only [World.size_alloc, World.size_setCell]); omega) _ | with_reducible refine Ext.drewN ?_ _ | with_reducible refine Ext.drew ?_ | with_reducible refine Ext.trans ?_ (by with_reducible assumption)))).mono ?_); rintro e w2 ⟨rfl, hb2⟩))
  go_ret2
  exact ⟨rfl, (by repeat (first | with_reducible exact Ext.refl _ | with_reducible assumption | with_reducible refine Ext.alloc ?_ _ | with_reducible refine Ext.setCell ?_ (by (try simp only [World.size_alloc, World.size_setCell]); omega) _ | with_reducible refine Ext.drewN ?_ _ | with_reducible refine Ext.drew ?_ | with_reducible refine Ext.trans ?_ (by with_reducible assumption)))⟩
set_option maxRecDepth 100000 in
set_option maxHeartbeats 2000000 in
theorem w_same (va vb : Value) (m k : Nat) (w : World) (ha : Nn w va m) (hb0 : Nn w vb k) (hs : Small m) (hs2 : Small k) :
    Calls Try.prog 72 #[va, vb] w fun e w' => e = .returned (.bool (decide (m = k))) ∧ Ext w w' := by
  have hq : (cmpI m k == 0) = decide (m = k) := by
    unfold cmpI
    by_cases h1 : (m : Int) < k
    · rw [if_pos h1]; simp; omega
    · rw [if_neg h1]
      by_cases h2 : (k : Int) < m
      · rw [if_pos h2]; simp; omega
      · rw [if_neg h2]; simp; omega
  generalize decide (m = k) = bb at hq ⊢
  obtain ⟨u, rfl, hu⟩ := ha
  obtain ⟨s, rfl, hv⟩ := hb0
  obtain ⟨ao, b1, o1, cap1, rfl, -⟩ := hu.view
  obtain ⟨bo, b2, o2, cap2, rfl, -⟩ := hv.view
  have hcp := fun w1 (k1 : Ext w w1) => w_Cmp (.agg #[.bool false, .slice ao (dig m).length cap1]) (.agg #[.bool false, .slice bo (dig k).length cap2]) m k w1 ⟨_, rfl, hu.ext k1⟩ ⟨_, rfl, hv.ext k1⟩ hs hs2
  go_enter Try.func72, Try.ntmps72
  go_wp2_with (go_at_call 81; (with_reducible refine (hcp _ (by repeat (first | with_reducible exact Ext.refl _ | with_reducible assumption | with_reducible refine Ext.alloc ?_ _ | with_reducible refine Ext.setCell ?_ (by (try simp only [World.size_alloc, World.size_setCell]); omega) _ | with_reducible refine Ext.drewN ?_ _ | with_reducible refine Ext.drew ?_ | with_reducible refine Ext.trans ?_ (by with_reducible assumption)))).mono ?_); rintro e w2 ⟨rfl, hb2⟩)
  go_ret
  exact ⟨rfl, (by repeat (first | with_reducible exact Ext.refl _ | with_reducible assumption | with_reducible refine Ext.alloc ?_ _ | with_reducible refine Ext.setCell ?_ (by (try simp only [World.size_alloc, World.size_setCell]); omega) _ | with_reducible refine Ext.drewN ?_ _ | with_reducible refine Ext.drew ?_ | with_reducible refine Ext.trans ?_ (by with_reducible assumption)))⟩
theorem w_want0 (w : World) : Calls Try.prog 51 #[.int .i64 0] w fun e w' => e = .returned (.tuple #[]) ∧ w' = w := by
  go_enter Try.func51, Try.ntmps51
  go_wp2
  go_end0
  exact ⟨rfl, rfl⟩
theorem w_zero (va : Value) (m : Nat) (w : World) (ha : Nn w va m) :
    Calls Try.prog 53 #[va] w fun e w' => e = .returned (.bool (decide (m = 0))) ∧ Ext w w' := by
  have hq : (((dig m).length : Int) == 0) = decide (m = 0) := by
    have := dig_pos (m := m)
    by_cases h : m = 0
    · subst h; rfl
    · have h1 := this.2 (by omega)
      simp [h]; intro e; rw [e] at h1; simp at h1
  generalize decide (m = 0) = bb at hq ⊢
  obtain ⟨u, rfl, hu⟩ := ha
  obtain ⟨ao, b1, o1, cap1, rfl, -⟩ := hu.view
  go_enter Try.func53, Try.ntmps53
  go_wp2
  go_ret
  exact ⟨rfl, (by repeat (first | with_reducible exact Ext.refl _ | with_reducible assumption | with_reducible refine Ext.alloc ?_ _ | with_reducible refine Ext.setCell ?_ (by (try simp only [World.size_alloc, World.size_setCell]); omega) _ | with_reducible refine Ext.drewN ?_ _ | with_reducible refine Ext.drew ?_ | with_reducible refine Ext.trans ?_ (by with_reducible assumption)))⟩

end Go.Proofs.Ytcalonhphknbbaa

/- frac: one, must. -/
namespace Go.Proofs.Ytcalonhphknbbaa
open Go.RowKit

set_option maxRecDepth 100000 in
set_option maxHeartbeats 2000000 in
theorem w_one (w : World) : Calls Try.prog 73 #[] w fun e w' => ∃ u, e = .returned u ∧ Nn w' u 1 ∧ Ext w w' := by
  have hF : ∀ w, Calls Try.prog 32 #[.int .i64 1] w fun e w' => ∃ u, e = .returned u ∧ Nn w' u 1 ∧ Ext w w' := fun w => w_From 1 w (by decide)
  go_enter Try.func73, Try.ntmps73
  go_wp2_with (go_at_call 32; (with_reducible refine (hF _).mono ?_); rintro e w1 ⟨y1, rfl, ⟨y2, rfl, hu⟩, hb⟩; obtain ⟨ao, b1, o1, cap1, rfl, -⟩ := hu.view; obtain ⟨_, _, hc, hf⟩ := hb.cells2; have hz := hb.size; (try simp only [World.size_alloc, World.size_setCell] at hz hc hf))
  have hB : NoU w1 w.heap.size := (NoU.new w _ _ (noU2 (by simp) (by simp))).ext (by simp) hb
  refine bodyPost_ret (v := .agg #[.bool false, .slice ao (dig 1).length cap1]) ?_ rfl ⟨_, rfl, ⟨_, rfl, ?_⟩, ?_⟩
  · simp [results, Try.results73, go_sem, ↓IntWalk.iteOmega, *]
  · exact Lim.box (Lim.box hu hB) (NoU.set hB (fun z e => by cases e))
  · repeat (first | with_reducible exact Ext.refl _ | with_reducible assumption | with_reducible refine Ext.alloc ?_ _ | with_reducible refine Ext.setCell ?_ (by (try simp only [World.size_alloc, World.size_setCell]); omega) _ | with_reducible refine Ext.drewN ?_ _ | with_reducible refine Ext.drew ?_ | with_reducible refine Ext.trans ?_ (by with_reducible assumption))
set_option maxRecDepth 100000 in
set_option maxHeartbeats 2000000 in
theorem w_must0 (va : Value) (m : Nat) (w : World) (ha : Nn w va m) : Calls Try.prog 35 #[va, .int .i64 0] w fun e w' => e = .returned va ∧ Ext w w' := by
  obtain ⟨u, rfl, hu⟩ := ha
  obtain ⟨ao, b1, o1, cap1, rfl, -⟩ := hu.view
  go_enter Try.func35, Try.ntmps35
  go_wp2
  refine bodyPost_ret (v := .agg #[.bool false, .slice ao (dig m).length cap1]) ?_ rfl ⟨rfl, ?_⟩
  · simp [results, Try.results35, go_sem, ↓IntWalk.iteOmega, *]
  · repeat (first | with_reducible exact Ext.refl _ | with_reducible assumption | with_reducible refine Ext.alloc ?_ _ | with_reducible refine Ext.setCell ?_ (by (try simp only [World.size_alloc, World.size_setCell]); omega) _ | with_reducible refine Ext.drewN ?_ _ | with_reducible refine Ext.drew ?_ | with_reducible refine Ext.trans ?_ (by with_reducible assumption))

end Go.Proofs.Ytcalonhphknbbaa

/- frac: Check. -/
namespace Go.Proofs.Ytcalonhphknbbaa
open Go.RowKit

/-- The value v is the fraction p/q of natural numbers. -/
def Fq (w : World) (v : Value) (p q : Nat) : Prop := ∃ u s, v = .agg #[.bool false, u, .bool false, s] ∧ Lim w u (dig p) ∧ Lim w s (dig q)
theorem Fq.ext {a w : World} {v : Value} {p q : Nat} (h : Fq a v p q) (k : Ext a w) : Fq w v p q := by
  obtain ⟨u, s, e, hu, hs⟩ := h; exact ⟨u, s, e, hu.ext k, hs.ext k⟩
theorem small1 : Small 1 := by unfold Small; decide
set_option maxRecDepth 100000 in
set_option maxHeartbeats 4000000 in
theorem w_fCheck (vf : Value) (p q : Nat) (w : World) (hf : Fq w vf p q) (hs : Small p) (hs2 : Small q) (hq : 0 < q) (hg : Nat.gcd p q = 1) :
    Calls Try.prog 56 #[vf] w fun e w' => e = .returned (.int .i64 0) ∧ Ext w w' := by
  obtain ⟨u, s, rfl, hu, hv⟩ := hf
  obtain ⟨ao, b1, o1, cap1, rfl, -⟩ := hu.view
  obtain ⟨bo, b2, o2, cap2, rfl, -⟩ := hv.view
  have hS1 := small1
  have hq0 : decide (q = 0) = false := decide_eq_false (by omega)
  have hgc := w_Gcd (.agg #[.bool false, .slice ao (dig p).length cap1]) (.agg #[.bool false, .slice bo (dig q).length cap2]) p q (w.alloc (.cells #[.bool false, .slice ao (dig p).length cap1, .bool false, .slice bo (dig q).length cap2] 27)) ⟨_, rfl, hu.ext ((Ext.refl w).alloc _)⟩ ⟨_, rfl, hv.ext ((Ext.refl w).alloc _)⟩ hs hs2
  rw [hg] at hgc
  go_enter Try.func56, Try.ntmps56
  go_upto_region 2 with (go_at_call 68; (with_reducible refine hgc.mono ?_); rintro e w1 ⟨y1, rfl, ⟨y2, rfl, hgu⟩, hb⟩; obtain ⟨ao3, b3, o3, cap3, rfl, -⟩ := hgu.view)
  refine wp_name fun W hW => ?_
  have hWE : Ext w W := Ext.same hW ((((Ext.refl w).alloc _).trans hb).alloc _)
  have hE0 : Ext (w.alloc (.cells #[.bool false, .slice ao (dig p).length cap1, .bool false, .slice bo (dig q).length cap2] 27)) W := Ext.same hW (hb.alloc _)
  have hB : w.heap.size < W.heap.size := by have := hE0.size; simp only [World.size_alloc] at this; omega
  have hG : w1.heap.size < W.heap.size := by rw [hW.cells.2.2]; simp
  have k2 : W.cell? ⟨w.heap.size, 2, none⟩ = some (.bool false) := (hE0.cells.1 _ 2 (by simp)).trans (by simp [go_sem])
  have k3 : W.cell? ⟨w.heap.size, 3, none⟩ = some (.slice bo (dig q).length cap2) := (hE0.cells.1 _ 3 (by simp)).trans (by simp [go_sem])
  have l0 : W.cell? ⟨w1.heap.size, 0, none⟩ = some (.bool false) := by rw [hW.cells.1]; simp [go_sem]
  have l1 : W.cell? ⟨w1.heap.size, 1, none⟩ = some (.slice ao3 (dig 1).length cap3) := by rw [hW.cells.1]; simp [go_sem]
  have nQ : Nn W (.agg #[.bool false, .slice bo (dig q).length cap2]) q := ⟨_, rfl, hv.ext hWE⟩
  have nG : Nn W (.agg #[.bool false, .slice ao3 (dig 1).length cap3]) 1 := ⟨_, rfl, hgu.ext (Ext.same hW ((Ext.refl w1).alloc _))⟩
  clear hW hb hgc
  refine wp_region_held_drew (S := (fun w0 => Ext W w0)) (by kernel_rfl) ?_ (fun hHeld => ?_)
  · exact (Ext.refl W).drew
  try simp only [Act.put, List.setIfInBounds_toArray, List.set_cons_zero, List.set_cons_succ, List.getElem_toArray, List.getElem_cons_succ, List.getElem_cons_zero]
  refine wpAnyH_take (i := 0) (oi := _) (v := ?_) rfl (by kernel_rfl) (by kernel_rfl) (by kernel_rfl) (fun _ _ _ h => h) (Or.inl ⟨by rfl, ?_⟩) (by assumption) ?_
  rotate_left
  · intro w0 hSw; go_simp; try with_reducible rfl
  try simp only [Act.put, List.setIfInBounds_toArray, List.set_cons_zero, List.set_cons_succ, List.getElem_toArray, List.getElem_cons_succ, List.getElem_cons_zero]
  refine wpAnyH_take (i := 1) (oi := _) (v := ?_) rfl (by kernel_rfl) (by kernel_rfl) (by kernel_rfl) (fun _ _ _ h => h) (Or.inl ⟨by rfl, ?_⟩) (by assumption) ?_
  rotate_left
  · intro w0 hSw; go_simp; try with_reducible rfl
  try simp only [Act.put, List.setIfInBounds_toArray, List.set_cons_zero, List.set_cons_succ, List.getElem_toArray, List.getElem_cons_succ, List.getElem_cons_zero]
  refine wpAnyH_take (i := 2) (oi := _) (v := ?_) rfl (by kernel_rfl) (by kernel_rfl) (by kernel_rfl) (fun _ _ _ h => h) (Or.inl ⟨by rfl, ?_⟩) (by assumption) ?_
  rotate_left
  · intro w0 hSw; go_simp; try with_reducible rfl
  try simp only [Act.put, List.setIfInBounds_toArray, List.set_cons_zero, List.set_cons_succ, List.getElem_toArray, List.getElem_cons_succ, List.getElem_cons_zero]
  refine wpAnyH_take (i := 3) (oi := _) (v := ?_) rfl (by kernel_rfl) (by kernel_rfl) (by kernel_rfl) (fun _ _ _ h => h) (Or.inl ⟨by rfl, ?_⟩) (by assumption) ?_
  rotate_left
  · intro w0 hSw; go_simp; try with_reducible rfl
  try simp only [Act.put, List.setIfInBounds_toArray, List.set_cons_zero, List.set_cons_succ, List.getElem_toArray, List.getElem_cons_succ, List.getElem_cons_zero]
  refine wpAnyH_take (i := 4) (oi := _) (v := ?_) rfl (by kernel_rfl) (by kernel_rfl) (by kernel_rfl) (fun _ _ _ h => h) (Or.inl ⟨by rfl, ?_⟩) (by assumption) ?_
  rotate_left
  · intro w0 hSw; go_simp; try with_reducible rfl
  try simp only [Act.put, List.setIfInBounds_toArray, List.set_cons_zero, List.set_cons_succ, List.getElem_toArray, List.getElem_cons_succ, List.getElem_cons_zero]
  refine wpAnyH_take (i := 5) (oi := _) (v := ?_) rfl (by kernel_rfl) (by kernel_rfl) (by kernel_rfl) (fun _ _ _ h => h) (Or.inl ⟨by rfl, ?_⟩) (by assumption) ?_
  rotate_left
  · intro w0 hSw; have r2 := (hSw.cells.1 _ 2 hB).trans k2; have r3 := (hSw.cells.1 _ 3 hB).trans k3; have g0 := (hSw.cells.1 _ 0 hG).trans l0; have g1 := (hSw.cells.1 _ 1 hG).trans l1; go_simp; try with_reducible rfl
  try simp only [Act.put, List.setIfInBounds_toArray, List.set_cons_zero, List.set_cons_succ, List.getElem_toArray, List.getElem_cons_succ, List.getElem_cons_zero]
  refine wpAnyH_take (i := 6) (oi := _) (v := ?_) rfl (by kernel_rfl) (by kernel_rfl) (by kernel_rfl) (fun _ _ _ h => h) (Or.inl ⟨by rfl, ?_⟩) (by assumption) ?_
  rotate_left
  · intro w0 hSw; go_simp; try with_reducible rfl
  try simp only [Act.put, List.setIfInBounds_toArray, List.set_cons_zero, List.set_cons_succ, List.getElem_toArray, List.getElem_cons_succ, List.getElem_cons_zero]
  refine wpAnyH_take (i := 7) (oi := _) (v := ?_) rfl (by kernel_rfl) (by kernel_rfl) (by kernel_rfl) (fun _ _ _ h => h) (Or.inl ⟨by rfl, ?_⟩) (by assumption) ?_
  rotate_left
  · intro w0 hSw; go_simp; try with_reducible rfl
  try simp only [Act.put, List.setIfInBounds_toArray, List.set_cons_zero, List.set_cons_succ, List.getElem_toArray, List.getElem_cons_succ, List.getElem_cons_zero]
  refine wpAnyH_take (i := 8) (oi := _) (v := ?_) rfl (by kernel_rfl) (by kernel_rfl) (by kernel_rfl) (fun _ _ _ h => h) (Or.inl ⟨by rfl, ?_⟩) (by assumption) ?_
  rotate_left
  · intro w0 hSw; go_simp; try with_reducible rfl
  try simp only [Act.put, List.setIfInBounds_toArray, List.set_cons_zero, List.set_cons_succ, List.getElem_toArray, List.getElem_cons_succ, List.getElem_cons_zero]
  refine wpAnyH_take (i := 9) (oi := _) (v := ?_) rfl (by kernel_rfl) (by kernel_rfl) (by kernel_rfl) (fun _ _ _ h => h) (Or.inl ⟨by rfl, ?_⟩) (by assumption) ?_
  rotate_left
  · intro w0 hSw; have r2 := (hSw.cells.1 _ 2 hB).trans k2; have r3 := (hSw.cells.1 _ 3 hB).trans k3; have g0 := (hSw.cells.1 _ 0 hG).trans l0; have g1 := (hSw.cells.1 _ 1 hG).trans l1; go_simp; try with_reducible rfl
  try simp only [Act.put, List.setIfInBounds_toArray, List.set_cons_zero, List.set_cons_succ, List.getElem_toArray, List.getElem_cons_succ, List.getElem_cons_zero]
  refine wpAnyH_ready (rs := [10]) (by kernel_rfl) (by simp) ?_
  refine AllReadyH.cons (o := _) rfl (fun K hK => ?_) AllReadyH.nil
  go_simp
  (go_at_call 53; (with_reducible refine (w_zero _ q _ (nQ.ext hHeld)).mono ?_); rintro e t0 ⟨rfl, hx0⟩; rw [hq0])
  refine hK.out _ _ ?_ (fun hHeldN => ?_)
  · (try dsimp only); exact hHeld.trans hx0
  clear hK K hHeld
  have hHeld := hHeldN
  clear hHeldN
  try simp only [Act.put, List.setIfInBounds_toArray, List.set_cons_zero, List.set_cons_succ, List.getElem_toArray, List.getElem_cons_succ, List.getElem_cons_zero]
  refine wpAnyH_take (i := 11) (oi := _) (v := ?_) rfl (by kernel_rfl) (by kernel_rfl) (by kernel_rfl) (fun _ _ _ h => h) (Or.inl ⟨by rfl, ?_⟩) (by assumption) ?_
  rotate_left
  · intro w0 hSw; go_simp; try with_reducible rfl
  try simp only [Act.put, List.setIfInBounds_toArray, List.set_cons_zero, List.set_cons_succ, List.getElem_toArray, List.getElem_cons_succ, List.getElem_cons_zero]
  refine wpAnyH_take (i := 12) (oi := _) (v := ?_) rfl (by kernel_rfl) (by kernel_rfl) (by kernel_rfl) (fun _ _ _ h => h) (Or.inl ⟨by rfl, ?_⟩) (by assumption) ?_
  rotate_left
  · intro w0 hSw; go_simp; try with_reducible rfl
  try simp only [Act.put, List.setIfInBounds_toArray, List.set_cons_zero, List.set_cons_succ, List.getElem_toArray, List.getElem_cons_succ, List.getElem_cons_zero]
  refine wpAnyH_take (i := 13) (oi := _) (v := ?_) rfl (by kernel_rfl) (by kernel_rfl) (by kernel_rfl) (fun _ _ _ h => h) (Or.inl ⟨by rfl, ?_⟩) (by assumption) ?_
  rotate_left
  · intro w0 hSw; have r2 := (hSw.cells.1 _ 2 hB).trans k2; have r3 := (hSw.cells.1 _ 3 hB).trans k3; have g0 := (hSw.cells.1 _ 0 hG).trans l0; have g1 := (hSw.cells.1 _ 1 hG).trans l1; go_simp; try with_reducible rfl
  try simp only [Act.put, List.setIfInBounds_toArray, List.set_cons_zero, List.set_cons_succ, List.getElem_toArray, List.getElem_cons_succ, List.getElem_cons_zero]
  refine wpAnyH_ready (rs := [14]) (by kernel_rfl) (by simp) ?_
  refine AllReadyH.cons (o := _) rfl (fun K hK => ?_) AllReadyH.nil
  go_simp
  (go_at_call 73; (with_reducible refine (w_one _).mono ?_); rintro e t1 ⟨v1, rfl, hn1, hx1⟩; have hn1b := hn1; obtain ⟨v2, rfl, hv2⟩ := hn1b; obtain ⟨ao4, b4, o4, cap4, rfl, -⟩ := hv2.view)
  refine hK.out _ _ ?_ (fun hHeldN => ?_)
  · (try dsimp only); exact hHeld.trans hx1
  clear hK K hHeld
  have hHeld := hHeldN
  clear hHeldN
  try simp only [Act.put, List.setIfInBounds_toArray, List.set_cons_zero, List.set_cons_succ, List.getElem_toArray, List.getElem_cons_succ, List.getElem_cons_zero]
  refine wpAnyH_ready (rs := [15]) (by kernel_rfl) (by simp) ?_
  refine AllReadyH.cons (o := _) rfl (fun K hK => ?_) AllReadyH.nil
  go_simp
  (go_at_call 72; (with_reducible refine (w_same _ _ 1 1 _ (nG.ext hHeld) hn1 hS1 hS1).mono ?_); rintro e t2 ⟨rfl, hx2⟩)
  refine hK.out _ _ ?_ (fun hHeldN => ?_)
  · (try dsimp only); exact hHeld.trans hx2
  clear hK K hHeld
  have hHeld := hHeldN
  clear hHeldN
  try simp only [Act.put, List.setIfInBounds_toArray, List.set_cons_zero, List.set_cons_succ, List.getElem_toArray, List.getElem_cons_succ, List.getElem_cons_zero]
  refine wpAnyH_take (i := 16) (oi := _) (v := ?_) rfl (by kernel_rfl) (by kernel_rfl) (by kernel_rfl) (fun _ _ _ h => h) (Or.inl ⟨by rfl, ?_⟩) (by assumption) ?_
  rotate_left
  · intro w0 hSw; go_simp; try with_reducible rfl
  try simp only [Act.put, List.setIfInBounds_toArray, List.set_cons_zero, List.set_cons_succ, List.getElem_toArray, List.getElem_cons_succ, List.getElem_cons_zero]
  refine wpAnyH_take (i := 17) (oi := _) (v := ?_) rfl (by kernel_rfl) (by kernel_rfl) (by kernel_rfl) (fun _ _ _ h => h) (Or.inl ⟨by rfl, ?_⟩) (by assumption) ?_
  rotate_left
  · intro w0 hSw; go_simp; try with_reducible rfl
  try simp only [Act.put, List.setIfInBounds_toArray, List.set_cons_zero, List.set_cons_succ, List.getElem_toArray, List.getElem_cons_succ, List.getElem_cons_zero]
  refine wpAnyH_done (by kernel_rfl) ?_ _
  go_wp2_with fail
  go_ret
  exact ⟨rfl, hWE.trans hHeld⟩

end Go.Proofs.Ytcalonhphknbbaa
