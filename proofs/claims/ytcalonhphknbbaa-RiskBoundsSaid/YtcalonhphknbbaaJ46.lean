/- The reference: fractions checked and compared. -/
import Derived.Test.YtcalonhphknbbaaJ41
import Derived.Test.YtcalonhphknbbaaJ32
set_option linter.unusedSimpArgs false
set_option linter.unusedVariables false
namespace Go.Proofs.Ytcalonhphknbbaa
open Go.RowKit

set_option maxRecDepth 100000 in
set_option maxHeartbeats 2000000 in
theorem r_Compared (va vb : Value) (m k : Nat) (w : World) (ha : Nn w va m) (hb0 : Nn w vb k) :
    Calls Try.prog 45 #[va, vb] w fun e w' => e = .returned (.int .i64 (cmpI m k)) ∧ Ext w w' := by
  obtain ⟨u, rfl, hu⟩ := ha
  obtain ⟨s, rfl, hv⟩ := hb0
  obtain ⟨ao, b1, o1, cap1, rfl, -⟩ := hu.view
  obtain ⟨bo, b2, o2, cap2, rfl, -⟩ := hv.view
  have hcm := fun w1 (k1 : Ext w w1) => r_compare _ _ (dig m) (dig k) w1 (hu.ext k1) (hv.ext k1) (dig_nz m) (dig_nz k)
  rw [dig_val, dig_val] at hcm
  have hcm2 : ∀ w1 (k1 : Ext w w1), Calls Try.prog 39 _ w1 fun e w' => e = .returned (.int .i64 (cmpI m k)) ∧ Ext w1 w' := hcm
  generalize cmpI m k = R at hcm2 ⊢
  clear hcm
  go_enter Try.func45, Try.ntmps45
  go_wp2_with (go_at_call 39; (with_reducible refine (hcm2 _ (by repeat (first | with_reducible exact Ext.refl _ | with_reducible assumption | with_reducible refine Ext.alloc ?_ _ | with_reducible refine Ext.setCell ?_ (by (try simp only [World.size_alloc, World.size_setCell]); omega) _ | with_reducible refine Ext.drewN ?_ _ | with_reducible refine Ext.drew ?_ | with_reducible refine Ext.trans ?_ (by with_reducible assumption)))).mono ?_); rintro e w2 ⟨rfl, hb2⟩)
  go_ret
  exact ⟨rfl, (by repeat (first | with_reducible exact Ext.refl _ | with_reducible assumption | with_reducible refine Ext.alloc ?_ _ | with_reducible refine Ext.setCell ?_ (by (try simp only [World.size_alloc, World.size_setCell]); omega) _ | with_reducible refine Ext.drewN ?_ _ | with_reducible refine Ext.drew ?_ | with_reducible refine Ext.trans ?_ (by with_reducible assumption)))⟩
set_option maxRecDepth 100000 in
set_option maxHeartbeats 4000000 in
theorem r_fCheck (va : Value) (p q : Nat) (w : World) (hf : Fq w va p q) (h1 : Small p) (h2 : Small q) (hq0 : 0 < q) (hg : Nat.gcd p q = 1) :
    Calls Try.prog 15 #[va] w fun e w' => e = .returned (.int .i64 0) ∧ Ext w w' := by
  obtain ⟨u1, s1, rfl, hp, hq⟩ := hf
  obtain ⟨ao, b1, o1, cap1, rfl, -⟩ := hp.view
  obtain ⟨bo, b2, o2, cap2, rfl, -⟩ := hq.view
  have hl1 := dig_pos.2 hq0
  have z0 : (((dig q).length : Int) == 0) = false := by simp; intro e; rw [e] at hl1; simp at hl1
  clear hl1
  have hF : ∀ w, Calls Try.prog 27 #[.int .i64 1] w fun e w' => ∃ u, e = .returned u ∧ Nn w' u 1 ∧ Ext w w' := fun w => r_From 1 w (by decide)
  have h3 := fun w1 (k1 : Ext w w1) => r_Check (.agg #[.bool false, .slice ao (dig p).length cap1]) p w1 ⟨_, rfl, hp.ext k1⟩ h1
  have h4 := fun w1 (k1 : Ext w w1) => r_Check (.agg #[.bool false, .slice bo (dig q).length cap2]) q w1 ⟨_, rfl, hq.ext k1⟩ h2
  have h5 := fun w1 (k1 : Ext w w1) => r_Gcd (.agg #[.bool false, .slice ao (dig p).length cap1]) (.agg #[.bool false, .slice bo (dig q).length cap2]) p q w1 ⟨_, rfl, hp.ext k1⟩ ⟨_, rfl, hq.ext k1⟩ h1 h2
  rw [hg] at h5
  go_enter Try.func15, Try.ntmps15
  go_upto_region 4 with (first
    | (go_at_call 25; (with_reducible refine (h3 _ (by repeat (first | with_reducible exact Ext.refl _ | with_reducible assumption | with_reducible refine Ext.alloc ?_ _ | with_reducible refine Ext.setCell ?_ (by (try simp only [World.size_alloc, World.size_setCell]); omega) _ | with_reducible refine Ext.drewN ?_ _ | with_reducible refine Ext.drew ?_ | with_reducible refine Ext.trans ?_ (by with_reducible assumption)))).mono ?_); rintro e w1 ⟨rfl, hb1⟩; obtain ⟨_, _, hc1, hf1⟩ := hb1.cells2; have hz1 := hb1.size; (try simp only [World.size_alloc, World.size_setCell] at hz1 hc1 hf1); clear h3)
    | (go_at_call 25; (with_reducible refine (h4 _ (by repeat (first | with_reducible exact Ext.refl _ | with_reducible assumption | with_reducible refine Ext.alloc ?_ _ | with_reducible refine Ext.setCell ?_ (by (try simp only [World.size_alloc, World.size_setCell]); omega) _ | with_reducible refine Ext.drewN ?_ _ | with_reducible refine Ext.drew ?_ | with_reducible refine Ext.trans ?_ (by with_reducible assumption)))).mono ?_); rintro e w2 ⟨rfl, hb2⟩; obtain ⟨_, _, hc2, hf2⟩ := hb2.cells2; have hz2 := hb2.size; (try simp only [World.size_alloc, World.size_setCell] at hz2 hc2 hf2); clear h4)
    | (go_at_call 26; (with_reducible refine (h5 _ (by repeat (first | with_reducible exact Ext.refl _ | with_reducible assumption | with_reducible refine Ext.alloc ?_ _ | with_reducible refine Ext.setCell ?_ (by (try simp only [World.size_alloc, World.size_setCell]); omega) _ | with_reducible refine Ext.drewN ?_ _ | with_reducible refine Ext.drew ?_ | with_reducible refine Ext.trans ?_ (by with_reducible assumption)))).mono ?_); rintro e w3 ⟨y3, rfl, hn3, hb3⟩; obtain ⟨y4, rfl, hx3⟩ := hn3; obtain ⟨xo3, _, _, xc3, rfl, -⟩ := hx3.view; obtain ⟨_, _, hc3, hf3⟩ := hb3.cells2; have hz3 := hb3.size; (try simp only [World.size_alloc, World.size_setCell] at hz3 hc3 hf3)))
  refine wp_name fun W hW => ?_
  have hi : W.cell? ⟨w3.heap.size, 0, none⟩ = some (.bool false) ∧ W.cell? ⟨w3.heap.size, 1, none⟩ = some (.slice xo3 (dig 1).length xc3) ∧ w3.heap.size < W.heap.size ∧ Ext w W ∧ Lim W (.slice xo3 (dig 1).length xc3) (dig 1) := by
    have e9 : W = _ := hW
    rw [e9]
    exact ⟨by simp [go_sem, ↓IntWalk.iteOmega], by simp [go_sem, ↓IntWalk.iteOmega], by simp, (by repeat (first | with_reducible exact Ext.refl _ | with_reducible assumption | with_reducible refine Ext.alloc ?_ _ | with_reducible refine Ext.setCell ?_ (by (try simp only [World.size_alloc, World.size_setCell]); omega) _ | with_reducible refine Ext.drewN ?_ _ | with_reducible refine Ext.drew ?_ | with_reducible refine Ext.trans ?_ (by with_reducible assumption))), hx3.alloc _⟩
  clear hW
  obtain ⟨d0, d1, hBs, hWE, hL3⟩ := hi
  have hSa := fun w1 (k1 : Ext W w1) vb (hn : Nn w1 vb 1) => r_Same (.agg #[.bool false, .slice xo3 (dig 1).length xc3]) vb 1 1 w1 ⟨_, rfl, hL3.ext k1⟩ hn
  have hd1 : decide ((1 : Nat) = 1) = true := by decide
  rw [hd1] at hSa
  clear hx3 h5 hb1 hb2 hb3
  refine wp_region_held_drew (S := (fun w0 => Ext W w0)) (by kernel_rfl) ?_ (fun hHeld => ?_)
  · exact (Ext.refl W).drew
  try simp only [Act.put, List.setIfInBounds_toArray, List.set_cons_zero, List.set_cons_succ, List.getElem_toArray, List.getElem_cons_succ, List.getElem_cons_zero]
  refine wpAnyH_take (i := 0) (oi := _) (v := ?_) rfl (by kernel_rfl) (by kernel_rfl) (by kernel_rfl) (fun _ _ _ h => h) (Or.inl ⟨by rfl, ?_⟩) (by assumption) ?_
  rotate_left
  · intro w0 hSw; have q0 := (hSw.cells.1 _ 0 hBs).trans d0; have q1 := (hSw.cells.1 _ 1 hBs).trans d1; go_simp; try with_reducible rfl
  try simp only [Act.put, List.setIfInBounds_toArray, List.set_cons_zero, List.set_cons_succ, List.getElem_toArray, List.getElem_cons_succ, List.getElem_cons_zero]
  refine wpAnyH_ready (rs := [1]) (by kernel_rfl) (by simp) ?_
  refine AllReadyH.cons (o := _) rfl (fun K hK => ?_) AllReadyH.nil
  go_simp
  (go_at_call 27; (with_reducible refine (hF _).mono ?_); rintro e t1 ⟨y1, rfl, hn1, hx1⟩; have hn1b := hn1; obtain ⟨y2, rfl, hy2⟩ := hn1b; obtain ⟨xo1, _, _, xc1, rfl, -⟩ := hy2.view; have k1 := hHeld.trans hx1)
  refine hK.out _ _ ?_ (fun hHeldN => ?_)
  · (try dsimp only); exact k1
  clear hK K hHeld
  have hHeld := hHeldN
  clear hHeldN
  try simp only [Act.put, List.setIfInBounds_toArray, List.set_cons_zero, List.set_cons_succ, List.getElem_toArray, List.getElem_cons_succ, List.getElem_cons_zero]
  refine wpAnyH_ready (rs := [2]) (by kernel_rfl) (by simp) ?_
  refine AllReadyH.cons (o := _) rfl (fun K hK => ?_) AllReadyH.nil
  go_simp
  (go_at_call 24; (with_reducible refine (hSa _ k1 _ hn1).mono ?_); rintro e t2 ⟨rfl, hx2⟩; have k2 := k1.trans hx2)
  refine hK.out _ _ ?_ (fun hHeldN => ?_)
  · (try dsimp only); exact k2
  clear hK K hHeld
  have hHeld := hHeldN
  clear hHeldN
  try simp only [Act.put, List.setIfInBounds_toArray, List.set_cons_zero, List.set_cons_succ, List.getElem_toArray, List.getElem_cons_succ, List.getElem_cons_zero]
  refine wpAnyH_take (i := 3) (oi := _) (v := ?_) rfl (by kernel_rfl) (by kernel_rfl) (by kernel_rfl) (fun _ _ _ h => h) (Or.inl ⟨by rfl, ?_⟩) (by assumption) ?_
  rotate_left
  · intro w0 hSw; go_simp; try with_reducible rfl
  try simp only [Act.put, List.setIfInBounds_toArray, List.set_cons_zero, List.set_cons_succ, List.getElem_toArray, List.getElem_cons_succ, List.getElem_cons_zero]
  refine wpAnyH_done (by kernel_rfl) ?_ _
  go_wp2_with fail
  go_ret
  exact ⟨rfl, hWE.trans k2⟩
set_option maxRecDepth 100000 in
set_option maxHeartbeats 2000000 in
theorem r_fBoth (va vb : Value) (p q r s : Nat) (w : World) (hf : Fq w va p q) (hg : Fq w vb r s) (h1 : Small p) (h2 : Small q) (h3 : Small r) (h4 : Small s) (hq0 : 0 < q) (hs0 : 0 < s) (g1 : Nat.gcd p q = 1) (g2 : Nat.gcd r s = 1) :
    Calls Try.prog 43 #[va, vb] w fun e w' => e = .returned (.int .i64 0) ∧ Ext w w' := by
  obtain ⟨u1, s1, rfl, hp, hq⟩ := hf
  obtain ⟨u2, s2, rfl, hr, hs⟩ := hg
  obtain ⟨ao, b1, o1, cap1, rfl, -⟩ := hp.view
  obtain ⟨bo, b2, o2, cap2, rfl, -⟩ := hq.view
  obtain ⟨co, b3, o3, cap3, rfl, -⟩ := hr.view
  obtain ⟨eo, b4, o4, cap4, rfl, -⟩ := hs.view
  have c1 := fun w1 (k1 : Ext w w1) => r_fCheck (.agg #[.bool false, .slice ao (dig p).length cap1, .bool false, .slice bo (dig q).length cap2]) p q w1 ⟨_, _, rfl, hp.ext k1, hq.ext k1⟩ h1 h2 hq0 g1
  have c2 := fun w1 (k1 : Ext w w1) => r_fCheck (.agg #[.bool false, .slice co (dig r).length cap3, .bool false, .slice eo (dig s).length cap4]) r s w1 ⟨_, _, rfl, hr.ext k1, hs.ext k1⟩ h3 h4 hs0 g2
  go_enter Try.func43, Try.ntmps43
  go_wp2_with (first
    | (go_at_call 15; (with_reducible refine (c1 _ (by repeat (first | with_reducible exact Ext.refl _ | with_reducible assumption | with_reducible refine Ext.alloc ?_ _ | with_reducible refine Ext.setCell ?_ (by (try simp only [World.size_alloc, World.size_setCell]); omega) _ | with_reducible refine Ext.drewN ?_ _ | with_reducible refine Ext.drew ?_ | with_reducible refine Ext.trans ?_ (by with_reducible assumption)))).mono ?_); rintro e w1 ⟨rfl, hb1⟩; obtain ⟨_, _, hc1, hf1⟩ := hb1.cells2; have hz1 := hb1.size; (try simp only [World.size_alloc, World.size_setCell] at hz1 hc1 hf1); clear c1)
    | (go_at_call 15; (with_reducible refine (c2 _ (by repeat (first | with_reducible exact Ext.refl _ | with_reducible assumption | with_reducible refine Ext.alloc ?_ _ | with_reducible refine Ext.setCell ?_ (by (try simp only [World.size_alloc, World.size_setCell]); omega) _ | with_reducible refine Ext.drewN ?_ _ | with_reducible refine Ext.drew ?_ | with_reducible refine Ext.trans ?_ (by with_reducible assumption)))).mono ?_); rintro e w2 ⟨rfl, hb2⟩; obtain ⟨_, _, hc2, hf2⟩ := hb2.cells2; have hz2 := hb2.size; (try simp only [World.size_alloc, World.size_setCell] at hz2 hc2 hf2); clear c2))
  go_ret
  exact ⟨rfl, (by repeat (first | with_reducible exact Ext.refl _ | with_reducible assumption | with_reducible refine Ext.alloc ?_ _ | with_reducible refine Ext.setCell ?_ (by (try simp only [World.size_alloc, World.size_setCell]); omega) _ | with_reducible refine Ext.drewN ?_ _ | with_reducible refine Ext.drew ?_ | with_reducible refine Ext.trans ?_ (by with_reducible assumption)))⟩
set_option maxRecDepth 100000 in
set_option maxHeartbeats 4000000 in
theorem r_fCmp (va vb : Value) (p q r s : Nat) (w : World) (hf : Fq w va p q) (hg : Fq w vb r s) (h1 : Small p) (h2 : Small q) (h3 : Small r) (h4 : Small s) (hS1 : Small (p * s)) (hS2 : Small (r * q)) (hq0 : 0 < q) (hs0 : 0 < s) (g1 : Nat.gcd p q = 1) (g2 : Nat.gcd r s = 1) :
    Calls Try.prog 28 #[va, vb] w fun e w' => e = .returned (.tuple #[.int .i64 (cmpI ((p * s : Nat) : Int) ((r * q : Nat) : Int)), .int .i64 0]) ∧ Ext w w' := by
  obtain ⟨u1, s1, rfl, hp, hq⟩ := hf
  obtain ⟨u2, s2, rfl, hr, hs⟩ := hg
  obtain ⟨ao, b1, o1, cap1, rfl, -⟩ := hp.view
  obtain ⟨bo, b2, o2, cap2, rfl, -⟩ := hq.view
  obtain ⟨co, b3, o3, cap3, rfl, -⟩ := hr.view
  obtain ⟨eo, b4, o4, cap4, rfl, -⟩ := hs.view
  have hb2' := fun w1 (k1 : Ext w w1) => r_fBoth (.agg #[.bool false, .slice ao (dig p).length cap1, .bool false, .slice bo (dig q).length cap2]) (.agg #[.bool false, .slice co (dig r).length cap3, .bool false, .slice eo (dig s).length cap4]) p q r s w1 ⟨_, _, rfl, hp.ext k1, hq.ext k1⟩ ⟨_, _, rfl, hr.ext k1, hs.ext k1⟩ h1 h2 h3 h4 hq0 hs0 g1 g2
  have hm1 := fun w1 (k1 : Ext w w1) => r_Mul (.agg #[.bool false, .slice ao (dig p).length cap1]) (.agg #[.bool false, .slice eo (dig s).length cap4]) p s w1 ⟨_, rfl, hp.ext k1⟩ ⟨_, rfl, hs.ext k1⟩ h1 h4 hS1
  have hm2 := fun w1 (k1 : Ext w w1) => r_Mul (.agg #[.bool false, .slice co (dig r).length cap3]) (.agg #[.bool false, .slice bo (dig q).length cap2]) r q w1 ⟨_, rfl, hr.ext k1⟩ ⟨_, rfl, hq.ext k1⟩ h3 h2 hS2
  obtain ⟨R, hR⟩ : ∃ R, cmpI ((p * s : Nat) : Int) ((r * q : Nat) : Int) = R := ⟨_, rfl⟩
  rw [hR]
  replace hR : Hid _ := hR
  go_enter Try.func28, Try.ntmps28
  go_upto_region 3 with (go_at_call 43; (with_reducible refine (hb2' _ (by repeat (first | with_reducible exact Ext.refl _ | with_reducible assumption | with_reducible refine Ext.alloc ?_ _ | with_reducible refine Ext.setCell ?_ (by (try simp only [World.size_alloc, World.size_setCell]); omega) _ | with_reducible refine Ext.drewN ?_ _ | with_reducible refine Ext.drew ?_ | with_reducible refine Ext.trans ?_ (by with_reducible assumption)))).mono ?_); rintro e W0 ⟨rfl, hb0⟩)
  have hEw : Ext w W0 := (by repeat (first | with_reducible exact Ext.refl _ | with_reducible assumption | with_reducible refine Ext.alloc ?_ _ | with_reducible refine Ext.setCell ?_ (by (try simp only [World.size_alloc, World.size_setCell]); omega) _ | with_reducible refine Ext.drewN ?_ _ | with_reducible refine Ext.drew ?_ | with_reducible refine Ext.trans ?_ (by with_reducible assumption)))
  have hi0 : W0.cell? ⟨w.heap.size, 0, none⟩ = some (.bool false) ∧ W0.cell? ⟨w.heap.size, 1, none⟩ = some (.slice ao (dig p).length cap1) ∧ W0.cell? ⟨w.heap.size, 2, none⟩ = some (.bool false) ∧ W0.cell? ⟨w.heap.size, 3, none⟩ = some (.slice bo (dig q).length cap2) ∧ W0.cell? ⟨w.heap.size + 1, 0, none⟩ = some (.bool false) ∧ W0.cell? ⟨w.heap.size + 1, 1, none⟩ = some (.slice co (dig r).length cap3) ∧ W0.cell? ⟨w.heap.size + 1, 2, none⟩ = some (.bool false) ∧ W0.cell? ⟨w.heap.size + 1, 3, none⟩ = some (.slice eo (dig s).length cap4) := by
    have g := fun bb oo hh => hb0.cells.1 bb oo hh
    refine ⟨(g _ _ (by simp; omega)).trans ?_, (g _ _ (by simp; omega)).trans ?_, (g _ _ (by simp; omega)).trans ?_, (g _ _ (by simp; omega)).trans ?_, (g _ _ (by simp)).trans ?_, (g _ _ (by simp)).trans ?_, (g _ _ (by simp)).trans ?_, (g _ _ (by simp)).trans ?_⟩ <;> simp [go_sem, ↓IntWalk.iteOmega]
  have hsz := hb0.size
  simp only [World.size_alloc] at hsz
  obtain ⟨c0, c1, c2, c3, c4, c5, c6, c7⟩ := hi0
  have hpq : Hid (∀ W', Ext W0 W' → W'.cell? ⟨w.heap.size, 0, none⟩ = some (.bool false) ∧ W'.cell? ⟨w.heap.size, 1, none⟩ = some (.slice ao (dig p).length cap1) ∧ W'.cell? ⟨w.heap.size, 2, none⟩ = some (.bool false) ∧ W'.cell? ⟨w.heap.size, 3, none⟩ = some (.slice bo (dig q).length cap2) ∧ W'.cell? ⟨w.heap.size + 1, 0, none⟩ = some (.bool false) ∧ W'.cell? ⟨w.heap.size + 1, 1, none⟩ = some (.slice co (dig r).length cap3) ∧ W'.cell? ⟨w.heap.size + 1, 2, none⟩ = some (.bool false) ∧ W'.cell? ⟨w.heap.size + 1, 3, none⟩ = some (.slice eo (dig s).length cap4)) := (fun W' k => ⟨(k.cells.1 _ _ (by omega)).trans c0, (k.cells.1 _ _ (by omega)).trans c1, (k.cells.1 _ _ (by omega)).trans c2, (k.cells.1 _ _ (by omega)).trans c3, (k.cells.1 _ _ (by omega)).trans c4, (k.cells.1 _ _ (by omega)).trans c5, (k.cells.1 _ _ (by omega)).trans c6, (k.cells.1 _ _ (by omega)).trans c7⟩ : ∀ W', Ext W0 W' → W'.cell? ⟨w.heap.size, 0, none⟩ = some (.bool false) ∧ W'.cell? ⟨w.heap.size, 1, none⟩ = some (.slice ao (dig p).length cap1) ∧ W'.cell? ⟨w.heap.size, 2, none⟩ = some (.bool false) ∧ W'.cell? ⟨w.heap.size, 3, none⟩ = some (.slice bo (dig q).length cap2) ∧ W'.cell? ⟨w.heap.size + 1, 0, none⟩ = some (.bool false) ∧ W'.cell? ⟨w.heap.size + 1, 1, none⟩ = some (.slice co (dig r).length cap3) ∧ W'.cell? ⟨w.heap.size + 1, 2, none⟩ = some (.bool false) ∧ W'.cell? ⟨w.heap.size + 1, 3, none⟩ = some (.slice eo (dig s).length cap4))
  have hE0 : Ext W0 W0 := Ext.refl W0
  clear hb0 hb2'
  go_upto_region 4 with (go_at_call 44; (with_reducible refine (hm1 _ hEw).mono ?_); rintro e t1 ⟨y1, rfl, ⟨z1, rfl, hx1⟩, hb1⟩; obtain ⟨xo1, xb1, xq1, xc1, rfl, -⟩ := hx1.view)
  refine wp_name fun W1 hW1 => ?_
  have hB1 : Bxn W1 t1.heap.size (p * s) (.slice xo1 (dig (p * s)).length xc1) ∧ Ext t1 W1 := by
    have e9 : W1 = _ := hW1
    rw [e9]
    exact Bxn.made hx1
  obtain ⟨hB1, hT1⟩ := hB1
  have hE1 : Ext W0 W1 := hE0.trans (hb1.trans hT1)
  have hN1 : Ext W0 W1 := hb1.trans hT1
  obtain ⟨c0, c1, c2, c3, c4, c5, c6, c7⟩ := hpq.out _ hE1
  clear hW1 hx1
  go_upto_region 5 with (go_at_call 44; (with_reducible refine (hm2 _ (hEw.trans hE1)).mono ?_); rintro e t2 ⟨y2, rfl, ⟨z2, rfl, hx2⟩, hb2⟩; obtain ⟨xo2, xb2, xq2, xc2, rfl, -⟩ := hx2.view)
  refine wp_name fun W2 hW2 => ?_
  have hB2 : Bxn W2 t2.heap.size (r * q) (.slice xo2 (dig (r * q)).length xc2) ∧ Ext t2 W2 := by
    have e9 : W2 = _ := hW2
    rw [e9]
    exact Bxn.made hx2
  obtain ⟨hB2, hT2⟩ := hB2
  have hE2 : Ext W0 W2 := hE1.trans (hb2.trans hT2)
  have hN2 : Ext W1 W2 := hb2.trans hT2
  obtain ⟨c0, c1, c2, c3, c4, c5, c6, c7⟩ := hpq.out _ hE2
  clear hW2 hx2
  replace hB1 := hB1.ext hN2
  have b0 := hB1.1
  have b1' := hB1.2.1
  have b2' := hB2.1
  have b3' := hB2.2.1
  have hcp := r_Compared _ _ _ _ _ hB1.nn hB2.nn
  clear c0 c1 c2 c3 c4 c5 c6 c7
  rw [hR.out] at hcp
  go_wp2_with (go_at_call 45; (with_reducible refine hcp.mono ?_); rintro e t5 ⟨rfl, hb5⟩)
  go_ret2
  exact ⟨rfl, hEw.trans (hE2.trans hb5)⟩
theorem cmpI_le (m k : Nat) : decide (cmpI m k ≤ 0) = decide (m ≤ k) := by
  unfold cmpI
  by_cases h1 : (m : Int) < k
  · rw [if_pos h1]; simp; omega
  · rw [if_neg h1]
    by_cases h2 : (k : Int) < m
    · rw [if_pos h2]; simp; omega
    · rw [if_neg h2]; simp; omega
set_option maxRecDepth 100000 in
set_option maxHeartbeats 2000000 in
theorem r_atMost (va vb : Value) (p q r s : Nat) (w : World) (hf : Fq w va p q) (hg : Fq w vb r s) (h1 : Small p) (h2 : Small q) (h3 : Small r) (h4 : Small s) (hS1 : Small (p * s)) (hS2 : Small (r * q)) (hq0 : 0 < q) (hs0 : 0 < s) (g1 : Nat.gcd p q = 1) (g2 : Nat.gcd r s = 1) (hle : p * s ≤ r * q) :
    Calls Try.prog 16 #[va, vb] w fun e w' => e = .returned (.bool true) ∧ Ext w w' := by
  obtain ⟨u1, s1, rfl, hp, hq⟩ := hf
  obtain ⟨u2, s2, rfl, hr, hs⟩ := hg
  obtain ⟨ao, b1, o1, cap1, rfl, -⟩ := hp.view
  obtain ⟨bo, b2, o2, cap2, rfl, -⟩ := hq.view
  obtain ⟨co, b3, o3, cap3, rfl, -⟩ := hr.view
  obtain ⟨eo, b4, o4, cap4, rfl, -⟩ := hs.view
  have hcm := fun w1 (k1 : Ext w w1) => r_fCmp (.agg #[.bool false, .slice ao (dig p).length cap1, .bool false, .slice bo (dig q).length cap2]) (.agg #[.bool false, .slice co (dig r).length cap3, .bool false, .slice eo (dig s).length cap4]) p q r s w1 ⟨_, _, rfl, hp.ext k1, hq.ext k1⟩ ⟨_, _, rfl, hr.ext k1, hs.ext k1⟩ h1 h2 h3 h4 hS1 hS2 hq0 hs0 g1 g2
  have hd := cmpI_le (p * s) (r * q)
  rw [decide_eq_true hle] at hd
  generalize cmpI ((p * s : Nat) : Int) ((r * q : Nat) : Int) = R at hcm hd
  go_enter Try.func16, Try.ntmps16
  go_wp2_with (go_at_call 28; (with_reducible refine (hcm _ (by repeat (first | with_reducible exact Ext.refl _ | with_reducible assumption | with_reducible refine Ext.alloc ?_ _ | with_reducible refine Ext.setCell ?_ (by (try simp only [World.size_alloc, World.size_setCell]); omega) _ | with_reducible refine Ext.drewN ?_ _ | with_reducible refine Ext.drew ?_ | with_reducible refine Ext.trans ?_ (by with_reducible assumption)))).mono ?_); rintro e w5 ⟨rfl, hb5⟩)
  go_ret
  exact ⟨rfl, (by repeat (first | with_reducible exact Ext.refl _ | with_reducible assumption | with_reducible refine Ext.alloc ?_ _ | with_reducible refine Ext.setCell ?_ (by (try simp only [World.size_alloc, World.size_setCell]); omega) _ | with_reducible refine Ext.drewN ?_ _ | with_reducible refine Ext.drew ?_ | with_reducible refine Ext.trans ?_ (by with_reducible assumption)))⟩

end Go.Proofs.Ytcalonhphknbbaa
