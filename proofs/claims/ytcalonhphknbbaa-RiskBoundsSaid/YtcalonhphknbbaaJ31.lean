/- frac: the sum of two fractions. -/
import Derived.Test.YtcalonhphknbbaaJ19
import Derived.Test.YtcalonhphknbbaaJ09
set_option linter.unusedSimpArgs false
set_option linter.unusedVariables false
namespace Go.Proofs.Ytcalonhphknbbaa
open Go.RowKit

set_option maxRecDepth 100000 in
set_option maxHeartbeats 4000000 in
theorem w_sums (va vb : Value) (p q r s : Nat) (w : World) (hf : Fq w va p q) (hg : Fq w vb r s) (h1 : Small p) (h2 : Small q) (h3 : Small r) (h4 : Small s) (hS1 : Small (p * s)) (hS2 : Small (r * q)) (hS3 : Small (p * s + r * q)) (hS4 : Small (q * s)) :
    Calls Try.prog 34 #[va, vb] w fun e w' => ∃ u v, e = .returned (.tuple #[u, v]) ∧ Nn w' u (p * s + r * q) ∧ Nn w' v (q * s) ∧ Ext w w' := by
  obtain ⟨u1, s1, rfl, hp, hq⟩ := hf
  obtain ⟨u2, s2, rfl, hr, hs⟩ := hg
  obtain ⟨ao, b1, o1, cap1, rfl, -⟩ := hp.view
  obtain ⟨bo, b2, o2, cap2, rfl, -⟩ := hq.view
  obtain ⟨co, b3, o3, cap3, rfl, -⟩ := hr.view
  obtain ⟨eo, b4, o4, cap4, rfl, -⟩ := hs.view
  have hc1 := fun w1 (k1 : Ext w w1) => w_cross (.agg #[.bool false, .slice ao (dig p).length cap1, .bool false, .slice bo (dig q).length cap2]) (.agg #[.bool false, .slice co (dig r).length cap3, .bool false, .slice eo (dig s).length cap4]) p q r s w1 ⟨_, _, rfl, hp.ext k1, hq.ext k1⟩ ⟨_, _, rfl, hr.ext k1, hs.ext k1⟩ h1 h4 hS1
  have hc2 := fun w1 (k1 : Ext w w1) => w_cross (.agg #[.bool false, .slice co (dig r).length cap3, .bool false, .slice eo (dig s).length cap4]) (.agg #[.bool false, .slice ao (dig p).length cap1, .bool false, .slice bo (dig q).length cap2]) r s p q w1 ⟨_, _, rfl, hr.ext k1, hs.ext k1⟩ ⟨_, _, rfl, hp.ext k1, hq.ext k1⟩ h3 h2 hS2
  have hc3 := fun w1 (k1 : Ext w w1) => w_Mul (.agg #[.bool false, .slice bo (dig q).length cap2]) (.agg #[.bool false, .slice eo (dig s).length cap4]) q s w1 ⟨_, rfl, hq.ext k1⟩ ⟨_, rfl, hs.ext k1⟩ h2 h4 hS4
  obtain ⟨W4, hW4⟩ : ∃ W4, (((w.alloc (.cells #[.bool false, .slice ao (dig p).length cap1, .bool false, .slice bo (dig q).length cap2] 27)).alloc (.cells #[.bool false, .slice co (dig r).length cap3, .bool false, .slice eo (dig s).length cap4] 27)).alloc (.cells #[.bool false, .slice none 0 0] 25)).alloc (.cells #[.bool false, .slice none 0 0] 25) = W4 := ⟨_, rfl⟩
  have hWs : W4.heap.size = w.heap.size + 1 + 1 + 1 + 1 := by rw [← hW4]; simp
  have hEW : Ext w W4 := by rw [← hW4]; exact ((((Ext.refl w).alloc _).alloc _).alloc _).alloc _
  have hA0 : BX w (w.heap.size + 1 + 1) ([(w.heap.size, 0, .bool false), (w.heap.size, 1, .slice ao (dig p).length cap1), (w.heap.size, 2, .bool false), (w.heap.size, 3, .slice bo (dig q).length cap2), (w.heap.size + 1, 0, .bool false), (w.heap.size + 1, 1, .slice co (dig r).length cap3), (w.heap.size + 1, 2, .bool false), (w.heap.size + 1, 3, .slice eo (dig s).length cap4)] : List (Nat × Nat × Value)) W4 := by
    rw [← hW4]
    refine ⟨hW4 ▸ hEW, ?_, ?_, ?_, ?_, ?_, by simp⟩
    · intro pp hp
      simp only [List.mem_cons, List.mem_nil_iff, or_false] at hp
      rcases hp with rfl | rfl | rfl | rfl | rfl | rfl | rfl | rfl <;> simp [go_sem, ↓IntWalk.iteOmega]
    · exact ⟨.bool false, by simp [go_sem, ↓IntWalk.iteOmega]⟩
    · exact ⟨.slice none 0 0, by simp [go_sem, ↓IntWalk.iteOmega]⟩
    · intro o; simp [go_sem, ↓IntWalk.iteOmega]
    · have := (NoU.new ((w.alloc (.cells #[.bool false, .slice ao (dig p).length cap1, .bool false, .slice bo (dig q).length cap2] 27)).alloc (.cells #[.bool false, .slice co (dig r).length cap3, .bool false, .slice eo (dig s).length cap4] 27)) #[.bool false, .slice none 0 0] 25 (noU2 (by simp) (by simp))).alloc (by simp) #[.bool false, .slice none 0 0] 25
      simpa using this
  have hB0 : BX w (w.heap.size + 1 + 1 + 1) ([(w.heap.size, 0, .bool false), (w.heap.size, 1, .slice ao (dig p).length cap1), (w.heap.size, 2, .bool false), (w.heap.size, 3, .slice bo (dig q).length cap2), (w.heap.size + 1, 0, .bool false), (w.heap.size + 1, 1, .slice co (dig r).length cap3), (w.heap.size + 1, 2, .bool false), (w.heap.size + 1, 3, .slice eo (dig s).length cap4)] : List (Nat × Nat × Value)) W4 := by
    rw [← hW4]
    refine ⟨hW4 ▸ hEW, ?_, ?_, ?_, ?_, ?_, by simp⟩
    · intro pp hp
      simp only [List.mem_cons, List.mem_nil_iff, or_false] at hp
      rcases hp with rfl | rfl | rfl | rfl | rfl | rfl | rfl | rfl <;> simp [go_sem, ↓IntWalk.iteOmega]
    · exact ⟨.bool false, by simp [go_sem, ↓IntWalk.iteOmega]⟩
    · exact ⟨.slice none 0 0, by simp [go_sem, ↓IntWalk.iteOmega]⟩
    · intro o; simp [go_sem, ↓IntWalk.iteOmega]
    · have := NoU.new (((w.alloc (.cells #[.bool false, .slice ao (dig p).length cap1, .bool false, .slice bo (dig q).length cap2] 27)).alloc (.cells #[.bool false, .slice co (dig r).length cap3, .bool false, .slice eo (dig s).length cap4] 27)).alloc (.cells #[.bool false, .slice none 0 0] 25)) #[.bool false, .slice none 0 0] 25 (noU2 (by simp) (by simp))
      simpa using this
  have hL2 : ∀ pp : Nat × Nat × Value, pp ∈ ([(w.heap.size, 0, .bool false), (w.heap.size, 1, .slice ao (dig p).length cap1), (w.heap.size, 2, .bool false), (w.heap.size, 3, .slice bo (dig q).length cap2), (w.heap.size + 1, 0, .bool false), (w.heap.size + 1, 1, .slice co (dig r).length cap3), (w.heap.size + 1, 2, .bool false), (w.heap.size + 1, 3, .slice eo (dig s).length cap4)] : List (Nat × Nat × Value)) → pp.1 ≠ w.heap.size + 1 + 1 := by
    intro pp hp
    simp only [List.mem_cons, List.mem_nil_iff, or_false] at hp
    rcases hp with rfl | rfl | rfl | rfl | rfl | rfl | rfl | rfl <;> (dsimp only; omega)
  have hL3 : ∀ pp : Nat × Nat × Value, pp ∈ ([(w.heap.size, 0, .bool false), (w.heap.size, 1, .slice ao (dig p).length cap1), (w.heap.size, 2, .bool false), (w.heap.size, 3, .slice bo (dig q).length cap2), (w.heap.size + 1, 0, .bool false), (w.heap.size + 1, 1, .slice co (dig r).length cap3), (w.heap.size + 1, 2, .bool false), (w.heap.size + 1, 3, .slice eo (dig s).length cap4)] : List (Nat × Nat × Value)) → pp.1 ≠ w.heap.size + 1 + 1 + 1 := by
    intro pp hp
    simp only [List.mem_cons, List.mem_nil_iff, or_false] at hp
    rcases hp with rfl | rfl | rfl | rfl | rfl | rfl | rfl | rfl <;> (dsimp only; omega)
  have hS0 := And.intro hA0 hB0
  clear hA0 hB0
  subst hW4
  go_enter Try.func34, Try.ntmps34
  go_upto_region 1 with fail
  refine wp_region_held_drew (S := (fun w0 => BX w (w.heap.size + 1 + 1) ([(w.heap.size, 0, .bool false), (w.heap.size, 1, .slice ao (dig p).length cap1), (w.heap.size, 2, .bool false), (w.heap.size, 3, .slice bo (dig q).length cap2), (w.heap.size + 1, 0, .bool false), (w.heap.size + 1, 1, .slice co (dig r).length cap3), (w.heap.size + 1, 2, .bool false), (w.heap.size + 1, 3, .slice eo (dig s).length cap4)] : List (Nat × Nat × Value)) w0 ∧ BX w (w.heap.size + 1 + 1 + 1) ([(w.heap.size, 0, .bool false), (w.heap.size, 1, .slice ao (dig p).length cap1), (w.heap.size, 2, .bool false), (w.heap.size, 3, .slice bo (dig q).length cap2), (w.heap.size + 1, 0, .bool false), (w.heap.size + 1, 1, .slice co (dig r).length cap3), (w.heap.size + 1, 2, .bool false), (w.heap.size + 1, 3, .slice eo (dig s).length cap4)] : List (Nat × Nat × Value)) w0)) (by kernel_rfl) ?_ (fun hHeld => ?_)
  · exact ⟨hS0.1.drew, hS0.2.drew⟩
  try simp only [Act.put, List.setIfInBounds_toArray, List.set_cons_zero, List.set_cons_succ, List.getElem_toArray, List.getElem_cons_succ, List.getElem_cons_zero]
  refine wpAnyH_take (i := 0) (oi := _) (v := ?_) rfl (by kernel_rfl) (by kernel_rfl) (by kernel_rfl) (fun _ _ _ h => h) (Or.inl ⟨by rfl, ?_⟩) (by assumption) ?_
  rotate_left
  · intro w0 hSw; have r0 := BX.get hSw.1 0 rfl; have r1 := BX.get hSw.1 1 rfl; have r2 := BX.get hSw.1 2 rfl; have r3 := BX.get hSw.1 3 rfl; have r4 := BX.get hSw.1 4 rfl; have r5 := BX.get hSw.1 5 rfl; have r6 := BX.get hSw.1 6 rfl; have r7 := BX.get hSw.1 7 rfl; go_simp; try with_reducible rfl
  try simp only [Act.put, List.setIfInBounds_toArray, List.set_cons_zero, List.set_cons_succ, List.getElem_toArray, List.getElem_cons_succ, List.getElem_cons_zero]
  refine wpAnyH_take (i := 1) (oi := _) (v := ?_) rfl (by kernel_rfl) (by kernel_rfl) (by kernel_rfl) (fun _ _ _ h => h) (Or.inl ⟨by rfl, ?_⟩) (by assumption) ?_
  rotate_left
  · intro w0 hSw; have r0 := BX.get hSw.1 0 rfl; have r1 := BX.get hSw.1 1 rfl; have r2 := BX.get hSw.1 2 rfl; have r3 := BX.get hSw.1 3 rfl; have r4 := BX.get hSw.1 4 rfl; have r5 := BX.get hSw.1 5 rfl; have r6 := BX.get hSw.1 6 rfl; have r7 := BX.get hSw.1 7 rfl; go_simp; try with_reducible rfl
  try simp only [Act.put, List.setIfInBounds_toArray, List.set_cons_zero, List.set_cons_succ, List.getElem_toArray, List.getElem_cons_succ, List.getElem_cons_zero]
  refine wpAnyH_take (i := 3) (oi := _) (v := ?_) rfl (by kernel_rfl) (by kernel_rfl) (by kernel_rfl) (fun _ _ _ h => h) (Or.inl ⟨by rfl, ?_⟩) (by assumption) ?_
  rotate_left
  · intro w0 hSw; have r0 := BX.get hSw.1 0 rfl; have r1 := BX.get hSw.1 1 rfl; have r2 := BX.get hSw.1 2 rfl; have r3 := BX.get hSw.1 3 rfl; have r4 := BX.get hSw.1 4 rfl; have r5 := BX.get hSw.1 5 rfl; have r6 := BX.get hSw.1 6 rfl; have r7 := BX.get hSw.1 7 rfl; go_simp; try with_reducible rfl
  try simp only [Act.put, List.setIfInBounds_toArray, List.set_cons_zero, List.set_cons_succ, List.getElem_toArray, List.getElem_cons_succ, List.getElem_cons_zero]
  refine wpAnyH_take (i := 4) (oi := _) (v := ?_) rfl (by kernel_rfl) (by kernel_rfl) (by kernel_rfl) (fun _ _ _ h => h) (Or.inl ⟨by rfl, ?_⟩) (by assumption) ?_
  rotate_left
  · intro w0 hSw; have r0 := BX.get hSw.1 0 rfl; have r1 := BX.get hSw.1 1 rfl; have r2 := BX.get hSw.1 2 rfl; have r3 := BX.get hSw.1 3 rfl; have r4 := BX.get hSw.1 4 rfl; have r5 := BX.get hSw.1 5 rfl; have r6 := BX.get hSw.1 6 rfl; have r7 := BX.get hSw.1 7 rfl; go_simp; try with_reducible rfl
  try simp only [Act.put, List.setIfInBounds_toArray, List.set_cons_zero, List.set_cons_succ, List.getElem_toArray, List.getElem_cons_succ, List.getElem_cons_zero]
  refine wpAnyH_take (i := 10) (oi := _) (v := ?_) rfl (by kernel_rfl) (by kernel_rfl) (by kernel_rfl) (fun _ _ _ h => h) (Or.inl ⟨by rfl, ?_⟩) (by assumption) ?_
  rotate_left
  · intro w0 hSw; go_simp; try with_reducible rfl
  try simp only [Act.put, List.setIfInBounds_toArray, List.set_cons_zero, List.set_cons_succ, List.getElem_toArray, List.getElem_cons_succ, List.getElem_cons_zero]
  refine wpAnyH_take (i := 11) (oi := _) (v := ?_) rfl (by kernel_rfl) (by kernel_rfl) (by kernel_rfl) (fun _ _ _ h => h) (Or.inl ⟨by rfl, ?_⟩) (by assumption) ?_
  rotate_left
  · intro w0 hSw; have r0 := BX.get hSw.1 0 rfl; have r1 := BX.get hSw.1 1 rfl; have r2 := BX.get hSw.1 2 rfl; have r3 := BX.get hSw.1 3 rfl; have r4 := BX.get hSw.1 4 rfl; have r5 := BX.get hSw.1 5 rfl; have r6 := BX.get hSw.1 6 rfl; have r7 := BX.get hSw.1 7 rfl; go_simp; try with_reducible rfl
  try simp only [Act.put, List.setIfInBounds_toArray, List.set_cons_zero, List.set_cons_succ, List.getElem_toArray, List.getElem_cons_succ, List.getElem_cons_zero]
  refine wpAnyH_take (i := 12) (oi := _) (v := ?_) rfl (by kernel_rfl) (by kernel_rfl) (by kernel_rfl) (fun _ _ _ h => h) (Or.inl ⟨by rfl, ?_⟩) (by assumption) ?_
  rotate_left
  · intro w0 hSw; go_simp; try with_reducible rfl
  try simp only [Act.put, List.setIfInBounds_toArray, List.set_cons_zero, List.set_cons_succ, List.getElem_toArray, List.getElem_cons_succ, List.getElem_cons_zero]
  refine wpAnyH_take (i := 13) (oi := _) (v := ?_) rfl (by kernel_rfl) (by kernel_rfl) (by kernel_rfl) (fun _ _ _ h => h) (Or.inl ⟨by rfl, ?_⟩) (by assumption) ?_
  rotate_left
  · intro w0 hSw; have r0 := BX.get hSw.1 0 rfl; have r1 := BX.get hSw.1 1 rfl; have r2 := BX.get hSw.1 2 rfl; have r3 := BX.get hSw.1 3 rfl; have r4 := BX.get hSw.1 4 rfl; have r5 := BX.get hSw.1 5 rfl; have r6 := BX.get hSw.1 6 rfl; have r7 := BX.get hSw.1 7 rfl; go_simp; try with_reducible rfl
  try simp only [Act.put, List.setIfInBounds_toArray, List.set_cons_zero, List.set_cons_succ, List.getElem_toArray, List.getElem_cons_succ, List.getElem_cons_zero]
  refine wpAnyH_ready (rs := [2]) (by kernel_rfl) (by simp) ?_
  refine AllReadyH.cons (o := _) rfl (fun K hK => ?_) AllReadyH.nil
  go_simp
  (go_at_call 37; (with_reducible refine (hc1 _ hHeld.1.base).mono ?_); rintro e t1 ⟨z1, rfl, hn1, hx1⟩; skip)
  refine hK.out _ _ ?_ (fun hHeldN => ?_)
  · (try dsimp only); exact ⟨hHeld.1.ext hx1, hHeld.2.ext hx1⟩
  clear hK K hHeld
  have hHeld := hHeldN
  clear hHeldN
  try simp only [Act.put, List.setIfInBounds_toArray, List.set_cons_zero, List.set_cons_succ, List.getElem_toArray, List.getElem_cons_succ, List.getElem_cons_zero]
  refine wpAnyH_ready (rs := [5]) (by kernel_rfl) (by simp) ?_
  refine AllReadyH.cons (o := _) rfl (fun K hK => ?_) AllReadyH.nil
  go_simp
  (go_at_call 37; (with_reducible refine (hc2 _ hHeld.1.base).mono ?_); rintro e t2 ⟨z2, rfl, hn2, hx2⟩; replace hn1 := hn1.ext (Ext.trans hx2 (Ext.refl _)))
  refine hK.out _ _ ?_ (fun hHeldN => ?_)
  · (try dsimp only); exact ⟨hHeld.1.ext hx2, hHeld.2.ext hx2⟩
  clear hK K hHeld
  have hHeld := hHeldN
  clear hHeldN
  try simp only [Act.put, List.setIfInBounds_toArray, List.set_cons_zero, List.set_cons_succ, List.getElem_toArray, List.getElem_cons_succ, List.getElem_cons_zero]
  refine wpAnyH_ready (rs := [6]) (by kernel_rfl) (by simp) ?_
  refine AllReadyH.cons (o := _) rfl (fun K hK => ?_) AllReadyH.nil
  go_simp
  (go_at_call 36; (with_reducible refine (w_Add _ _ _ _ _ hn1 hn2 hS1 hS2 hS3).mono ?_); rintro e t3 ⟨z3, rfl, hn3, hx3⟩; skip)
  refine hK.out _ _ ?_ (fun hHeldN => ?_)
  · (try dsimp only); exact ⟨hHeld.1.ext hx3, hHeld.2.ext hx3⟩
  clear hK K hHeld
  have hHeld := hHeldN
  clear hHeldN
  try simp only [Act.put, List.setIfInBounds_toArray, List.set_cons_zero, List.set_cons_succ, List.getElem_toArray, List.getElem_cons_succ, List.getElem_cons_zero]
  refine wpAnyH_take (i := 7) (oi := _) (v := ?_) rfl (by kernel_rfl) (by kernel_rfl) (by kernel_rfl) (fun _ _ _ h => h) (Or.inl ⟨by rfl, ?_⟩) (by assumption) ?_
  rotate_left
  · intro w0 hSw; go_simp; try with_reducible rfl
  try simp only [Act.put, List.setIfInBounds_toArray, List.set_cons_zero, List.set_cons_succ, List.getElem_toArray, List.getElem_cons_succ, List.getElem_cons_zero]
  refine wpAnyH_take (i := 8) (oi := _) (v := ?_) rfl (by kernel_rfl) (by kernel_rfl) (by kernel_rfl) (fun _ _ _ h => h) (Or.inl ⟨by rfl, ?_⟩) (by assumption) ?_
  rotate_left
  · intro w0 hSw; go_simp; try with_reducible rfl
  try simp only [Act.put, List.setIfInBounds_toArray, List.set_cons_zero, List.set_cons_succ, List.getElem_toArray, List.getElem_cons_succ, List.getElem_cons_zero]
  refine wpAnyH_ready (rs := [9]) (by kernel_rfl) (by simp) ?_
  refine AllReadyH.cons (o := _) rfl (fun K hK => ?_) AllReadyH.nil
  go_simp
  (go_at_call 35; (with_reducible refine (w_must0 _ _ _ hn3).mono ?_); rintro e t4 ⟨rfl, hx4⟩; replace hn3 := hn3.ext hx4)
  refine hK.out _ _ ?_ (fun hHeldN => ?_)
  · (try dsimp only); exact ⟨hHeld.1.ext hx4, hHeld.2.ext hx4⟩
  clear hK K hHeld
  have hHeld := hHeldN
  clear hHeldN
  try simp only [Act.put, List.setIfInBounds_toArray, List.set_cons_zero, List.set_cons_succ, List.getElem_toArray, List.getElem_cons_succ, List.getElem_cons_zero]
  refine wpAnyH_ready (rs := [14]) (by kernel_rfl) (by simp) ?_
  refine AllReadyH.cons (o := _) rfl (fun K hK => ?_) AllReadyH.nil
  go_simp
  (go_at_call 38; (with_reducible refine (hc3 _ hHeld.1.base).mono ?_); rintro e t5 ⟨z5, rfl, hn5, hx5⟩; replace hn3 := hn3.ext hx5)
  refine hK.out _ _ ?_ (fun hHeldN => ?_)
  · (try dsimp only); exact ⟨hHeld.1.ext hx5, hHeld.2.ext hx5⟩
  clear hK K hHeld
  have hHeld := hHeldN
  clear hHeldN
  try simp only [Act.put, List.setIfInBounds_toArray, List.set_cons_zero, List.set_cons_succ, List.getElem_toArray, List.getElem_cons_succ, List.getElem_cons_zero]
  refine wpAnyH_take (i := 15) (oi := _) (v := ?_) rfl (by kernel_rfl) (by kernel_rfl) (by kernel_rfl) (fun _ _ _ h => h) (Or.inl ⟨by rfl, ?_⟩) (by assumption) ?_
  rotate_left
  · intro w0 hSw; go_simp; try with_reducible rfl
  try simp only [Act.put, List.setIfInBounds_toArray, List.set_cons_zero, List.set_cons_succ, List.getElem_toArray, List.getElem_cons_succ, List.getElem_cons_zero]
  refine wpAnyH_take (i := 16) (oi := _) (v := ?_) rfl (by kernel_rfl) (by kernel_rfl) (by kernel_rfl) (fun _ _ _ h => h) (Or.inl ⟨by rfl, ?_⟩) (by assumption) ?_
  rotate_left
  · intro w0 hSw; go_simp; try with_reducible rfl
  try simp only [Act.put, List.setIfInBounds_toArray, List.set_cons_zero, List.set_cons_succ, List.getElem_toArray, List.getElem_cons_succ, List.getElem_cons_zero]
  refine wpAnyH_ready (rs := [17]) (by kernel_rfl) (by simp) ?_
  refine AllReadyH.cons (o := _) rfl (fun K hK => ?_) AllReadyH.nil
  go_simp
  (go_at_call 35; (with_reducible refine (w_must0 _ _ _ hn5).mono ?_); rintro e t6 ⟨rfl, hx6⟩; replace hn3 := hn3.ext hx6; replace hn5 := hn5.ext hx6; obtain ⟨z6, rfl, hy6⟩ := hn3; obtain ⟨z7, rfl, hy7⟩ := hn5; obtain ⟨yo6, yb6, oo6, yc6, rfl, -⟩ := hy6.view; obtain ⟨yo7, yb7, oo7, yc7, rfl, -⟩ := hy7.view)
  refine hK.out _ _ ?_ (fun hHeldN => ?_)
  · (try dsimp only); exact ⟨hHeld.1.ext hx6, hHeld.2.ext hx6⟩
  clear hK K hHeld
  have hHeld := hHeldN
  clear hHeldN
  try simp only [Act.put, List.setIfInBounds_toArray, List.set_cons_zero, List.set_cons_succ, List.getElem_toArray, List.getElem_cons_succ, List.getElem_cons_zero]
  refine wpAnyH_ready (rs := [18]) (by kernel_rfl) (by simp) ?_
  refine AllReadyH.cons (o := _) rfl (fun K hK => ?_) AllReadyH.nil
  obtain ⟨⟨xa, h3a⟩, ⟨xb, h3b⟩, h3f, hnu, hsl⟩ := hHeld.1.box
  obtain ⟨⟨xc, h4a⟩, ⟨xd, h4b⟩, h4f, hnv, hsm⟩ := hHeld.2.box
  go_simp
  refine hK.out _ _ ?_ (fun hHeldN => ?_)
  · (try dsimp only); exact ⟨(hHeld.1.set (by omega) hL2 (fun z e => by cases e)).set (by omega) hL2 (fun z e => by cases e), (hHeld.2.other (by omega) hL2 (by omega) (fun z e => by cases e)).other (by omega) hL2 (by omega) (fun z e => by cases e)⟩
  clear hK K hHeld
  have hHeld := hHeldN
  clear hHeldN
  try simp only [Act.put, List.setIfInBounds_toArray, List.set_cons_zero, List.set_cons_succ, List.getElem_toArray, List.getElem_cons_succ, List.getElem_cons_zero]
  refine wpAnyH_ready (rs := [19]) (by kernel_rfl) (by simp) ?_
  refine AllReadyH.cons (o := _) rfl (fun K hK => ?_) AllReadyH.nil
  have h4a2 := h4a
  go_simp
  refine hK.out _ _ ?_ (fun hHeldN => ?_)
  · (try dsimp only); exact ⟨(hHeld.1.other (by omega) hL3 (by omega) (fun z e => by cases e)).other (by omega) hL3 (by omega) (fun z e => by cases e), (hHeld.2.set (by omega) hL3 (fun z e => by cases e)).set (by omega) hL3 (fun z e => by cases e)⟩
  clear hK K hHeld
  have hHeld := hHeldN
  clear hHeldN
  try simp only [Act.put, List.setIfInBounds_toArray, List.set_cons_zero, List.set_cons_succ, List.getElem_toArray, List.getElem_cons_succ, List.getElem_cons_zero]
  refine wpAnyH_done (by kernel_rfl) ?_ _
  go_wp2_with fail
  refine bodyPost_ret (v := .tuple #[.agg #[.bool false, .slice yo6 (dig (p * s + r * q)).length yc6], .agg #[.bool false, .slice yo7 (dig (q * s)).length yc7]]) ?_ rfl ⟨_, _, rfl, ⟨_, rfl, ?_⟩, ⟨_, rfl, ?_⟩, ?_⟩
  · simp [results, Try.results34, go_sem, ↓IntWalk.iteOmega, h3a, h3b, h4a, h4b]
  · refine Lim.box (Lim.box (Lim.box (Lim.box hy6 ?_) ?_) ?_) ?_ <;> (repeat (first | with_reducible exact hnu | with_reducible exact hnv | with_reducible refine NoU.set ?_ (fun z e => by cases e)))
  · refine Lim.box (Lim.box (Lim.box (Lim.box hy7 ?_) ?_) ?_) ?_ <;> (repeat (first | with_reducible exact hnu | with_reducible exact hnv | with_reducible refine NoU.set ?_ (fun z e => by cases e)))
  · exact hHeld.1.base

end Go.Proofs.Ytcalonhphknbbaa
