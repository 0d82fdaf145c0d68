/- Numbers: checked, multiplied. -/
import Derived.Test.YtcalonhphknbbaaJ06
import Derived.Test.YtcalonhphknbbaaJ07
import Derived.Deep.DeepCutAuto
import Derived.Deep.CutBlock
import Derived.Deep.RegionHeld3
set_option linter.unusedSimpArgs false
set_option linter.unusedVariables false
namespace Go.Proofs.Ytcalonhphknbbaa
open Go.RowKit

theorem nnAt1 (w : World) (u : Value) (m : Nat) (h : Lim w u (dig m)) : NnAt (w.alloc (.cells #[.bool false, u] 25)) w.heap.size 0 m :=
  ⟨u, by rw [cell_al, if_pos rfl]; rfl, by rw [cell_al, if_pos rfl]; rfl, h.alloc _⟩
theorem nnAt2 (w : World) (u v : Value) (m k : Nat) (h : Lim w u (dig m)) (h2 : Lim w v (dig k)) : NnAt (w.alloc (.cells #[.bool false, u, .bool false, v] 25)) w.heap.size 0 m ∧ NnAt (w.alloc (.cells #[.bool false, u, .bool false, v] 25)) w.heap.size 2 k :=
  ⟨⟨u, by rw [cell_al, if_pos rfl]; rfl, by rw [cell_al, if_pos rfl]; rfl, h.alloc _⟩, ⟨v, by rw [cell_al, if_pos rfl]; rfl, by rw [cell_al, if_pos rfl]; rfl, h2.alloc _⟩⟩
theorem w_check_one (w : World) (u : Value) (m : Nat) (h : Lim w u (dig m)) (hs : Small m) :
    Calls Try.prog 57 #[.slice (some ⟨w.heap.size, 0, none⟩) 1 1] (w.alloc (.cells #[.bool false, u] 25)) fun e w' => e = .returned (.int .i64 0) ∧ Ext (w.alloc (.cells #[.bool false, u] 25)) w' :=
  w_checks w.heap.size 1 1 (fun _ => m) _ (by decide) (by simp) (fun i hi => by
    have : i = 0 := by omega
    subst this; exact nnAt1 w u m h) (fun _ _ => hs)
theorem w_check_two (w : World) (u v : Value) (m k : Nat) (h : Lim w u (dig m)) (h2 : Lim w v (dig k)) (hs : Small m) (hs2 : Small k) :
    Calls Try.prog 57 #[.slice (some ⟨w.heap.size, 0, none⟩) 2 2] (w.alloc (.cells #[.bool false, u, .bool false, v] 25)) fun e w' => e = .returned (.int .i64 0) ∧ Ext (w.alloc (.cells #[.bool false, u, .bool false, v] 25)) w' :=
  w_checks w.heap.size 2 2 (fun i => if i = 0 then m else k) _ (by decide) (by simp) (fun i hi => by
    rcases (show i = 0 ∨ i = 1 by omega) with rfl | rfl
    · exact (nnAt2 w u v m k h h2).1
    · exact (nnAt2 w u v m k h h2).2) (fun i _ => by split <;> assumption)
set_option maxRecDepth 100000 in
set_option maxHeartbeats 2000000 in
theorem w_Check (v : Value) (m : Nat) (w : World) (h : Nn w v m) (hs : Small m) :
    Calls Try.prog 52 #[v] w fun e w' => e = .returned (.int .i64 0) ∧ Ext w w' := by
  obtain ⟨u, rfl, hu⟩ := h
  obtain ⟨ao, b1, o1, cap1, rfl, v1, v2, v3, v4, v5, v6⟩ := hu.view
  have hk := w_check_one (w.alloc (.cells #[.bool false, .slice ao (dig m).length cap1] 25)) _ m (hu.alloc _) hs
  rw [World.size_alloc] at hk
  clear v1 v4 v5 hu
  go_enter Try.func52, Try.ntmps52
  go_wp2_with (go_at_call 57; (with_reducible refine hk.mono ?_); rintro e w1 ⟨rfl, hb⟩; obtain ⟨_, _, hc, hf⟩ := hb.cells2; have hz := hb.size; (try simp only [World.size_alloc, World.size_setCell] at hz hc hf))
  go_ret
  exact ⟨rfl, (by repeat (first | with_reducible exact Ext.refl _ | with_reducible assumption | with_reducible refine Ext.alloc ?_ _ | with_reducible refine Ext.setCell ?_ (by (try simp only [World.size_alloc, World.size_setCell]); omega) _ | with_reducible refine Ext.drewN ?_ _ | with_reducible refine Ext.drew ?_ | with_reducible refine Ext.trans ?_ (by with_reducible assumption)))⟩
set_option maxRecDepth 100000 in
set_option maxHeartbeats 4000000 in
theorem w_Mul (va vb : Value) (m k : Nat) (w : World) (ha : Nn w va m) (hb0 : Nn w vb k) (hs : Small m) (hs2 : Small k) (hs3 : Small (m * k)) :
    Calls Try.prog 38 #[va, vb] w fun e w' => ∃ u, e = .returned (.tuple #[u, .int .i64 0]) ∧ Nn w' u (m * k) ∧ Ext w w' := by
  obtain ⟨u, rfl, hu⟩ := ha
  obtain ⟨s, rfl, hv⟩ := hb0
  obtain ⟨ao, b1, o1, cap1, rfl, v1, v2, v3, v4, v5, v6⟩ := hu.view
  obtain ⟨bo, b2, o2, cap2, rfl, y1, y2, y3, y4, y5, y6⟩ := hv.view
  have hlen : (dig m).length ≤ 100000 ∧ (dig k).length ≤ 100000 := by unfold Small at hs hs2; omega
  obtain ⟨W3, hW3⟩ : ∃ W3, ((w.alloc (.cells #[.bool false, .slice ao (dig m).length cap1] 25)).alloc (.cells #[.bool false, .slice bo (dig k).length cap2] 25)).alloc (.cells #[.bool false, .slice none 0 0] 25) = W3 := ⟨_, rfl⟩
  have hWs : W3.heap.size = w.heap.size + 1 + 1 + 1 := by rw [← hW3]; simp
  have hEW : Ext w W3 := by rw [← hW3]; exact (((Ext.refl w).alloc _).alloc _).alloc _
  have hck := w_check_two W3 _ _ m k (hu.ext hEW) (hv.ext hEW) hs hs2
  rw [hWs] at hck
  have hS : BX w (w.heap.size + 1 + 1) [(w.heap.size, 0, .bool false), (w.heap.size, 1, .slice ao (dig m).length cap1), (w.heap.size + 1, 0, .bool false), (w.heap.size + 1, 1, .slice bo (dig k).length cap2)] W3 := by
    rw [← hW3]
    refine ⟨hW3 ▸ hEW, ?_, ?_, ?_, ?_, ?_, by simp⟩
    · intro p hp
      simp only [List.mem_cons, List.mem_nil_iff, or_false] at hp
      rcases hp with rfl | rfl | rfl | rfl <;> simp [go_sem, ↓IntWalk.iteOmega]
    · exact ⟨.bool false, by simp [go_sem, ↓IntWalk.iteOmega]⟩
    · exact ⟨.slice none 0 0, by simp [go_sem, ↓IntWalk.iteOmega]⟩
    · intro o; simp [go_sem, ↓IntWalk.iteOmega]
    · have := NoU.new ((w.alloc (.cells #[.bool false, .slice ao (dig m).length cap1] 25)).alloc (.cells #[.bool false, .slice bo (dig k).length cap2] 25)) #[.bool false, .slice none 0 0] 25 (noU2 (by simp) (by simp))
      simpa using this
  subst hW3
  clear v1 v4 v5 y1 y4 y5 hEW hWs
  go_enter Try.func38, Try.ntmps38
  go_upto_region 4 with (go_at_call 57; (with_reducible refine hck.mono ?_); rintro e w1 ⟨rfl, hb⟩)
  have hs4 : (dig (m * k)).length ≤ 4096 := hs3
  have hLn : ∀ p ∈ ([(w.heap.size, 0, .bool false), (w.heap.size, 1, .slice ao (dig m).length cap1), (w.heap.size + 1, 0, .bool false), (w.heap.size + 1, 1, .slice bo (dig k).length cap2)] : List (Nat × Nat × Value)), p.1 ≠ w.heap.size + 1 + 1 := by
    intro p hp
    simp only [List.mem_cons, List.mem_nil_iff, or_false] at hp
    rcases hp with rfl | rfl | rfl | rfl <;> (dsimp only; omega)
  have hS0 := hS.ext (((Ext.refl _).alloc _).trans hb)
  clear hS hck hb
  refine wp_region_held_drew (S := (fun w0 => BX w (w.heap.size + 1 + 1) [(w.heap.size, 0, .bool false), (w.heap.size, 1, .slice ao (dig m).length cap1), (w.heap.size + 1, 0, .bool false), (w.heap.size + 1, 1, .slice bo (dig k).length cap2)] w0)) (by kernel_rfl) ?_ (fun hHeld => ?_)
  · exact hS0.drew
  try simp only [Act.put, List.setIfInBounds_toArray, List.set_cons_zero, List.set_cons_succ, List.getElem_toArray, List.getElem_cons_succ, List.getElem_cons_zero]
  refine wpAnyH_take (i := 0) (oi := _) (v := ?_) rfl (by kernel_rfl) (by kernel_rfl) (by kernel_rfl) (fun _ _ _ h => h) (Or.inl ⟨by rfl, ?_⟩) (by assumption) ?_
  rotate_left
  · intro w0 hSw; go_simp; try with_reducible rfl
  try simp only [Act.put, List.setIfInBounds_toArray, List.set_cons_zero, List.set_cons_succ, List.getElem_toArray, List.getElem_cons_succ, List.getElem_cons_zero]
  refine wpAnyH_take (i := 1) (oi := _) (v := ?_) rfl (by kernel_rfl) (by kernel_rfl) (by kernel_rfl) (fun _ _ _ h => h) (Or.inl ⟨by rfl, ?_⟩) (by assumption) ?_
  rotate_left
  · intro w0 hSw; have q0 := BX.get hSw 0 rfl; have q1 := BX.get hSw 1 rfl; have q2 := BX.get hSw 2 rfl; have q3 := BX.get hSw 3 rfl; go_simp; try with_reducible rfl
  try simp only [Act.put, List.setIfInBounds_toArray, List.set_cons_zero, List.set_cons_succ, List.getElem_toArray, List.getElem_cons_succ, List.getElem_cons_zero]
  refine wpAnyH_take (i := 2) (oi := _) (v := ?_) rfl (by kernel_rfl) (by kernel_rfl) (by kernel_rfl) (fun _ _ _ h => h) (Or.inl ⟨by rfl, ?_⟩) (by assumption) ?_
  rotate_left
  · intro w0 hSw; go_simp; try with_reducible rfl
  try simp only [Act.put, List.setIfInBounds_toArray, List.set_cons_zero, List.set_cons_succ, List.getElem_toArray, List.getElem_cons_succ, List.getElem_cons_zero]
  refine wpAnyH_take (i := 3) (oi := _) (v := ?_) rfl (by kernel_rfl) (by kernel_rfl) (by kernel_rfl) (fun _ _ _ h => h) (Or.inl ⟨by rfl, ?_⟩) (by assumption) ?_
  rotate_left
  · intro w0 hSw; have q0 := BX.get hSw 0 rfl; have q1 := BX.get hSw 1 rfl; have q2 := BX.get hSw 2 rfl; have q3 := BX.get hSw 3 rfl; go_simp; try with_reducible rfl
  try simp only [Act.put, List.setIfInBounds_toArray, List.set_cons_zero, List.set_cons_succ, List.getElem_toArray, List.getElem_cons_succ, List.getElem_cons_zero]
  refine wpAnyH_take (i := 4) (oi := _) (v := ?_) rfl (by kernel_rfl) (by kernel_rfl) (by kernel_rfl) (fun _ _ _ h => h) (Or.inl ⟨by rfl, ?_⟩) (by assumption) ?_
  rotate_left
  · intro w0 hSw; go_simp; try with_reducible rfl
  try simp only [Act.put, List.setIfInBounds_toArray, List.set_cons_zero, List.set_cons_succ, List.getElem_toArray, List.getElem_cons_succ, List.getElem_cons_zero]
  refine wpAnyH_take (i := 5) (oi := _) (v := ?_) rfl (by kernel_rfl) (by kernel_rfl) (by kernel_rfl) (fun _ _ _ h => h) (Or.inl ⟨by rfl, ?_⟩) (by assumption) ?_
  rotate_left
  · intro w0 hSw; go_simp; try with_reducible rfl
  try simp only [Act.put, List.setIfInBounds_toArray, List.set_cons_zero, List.set_cons_succ, List.getElem_toArray, List.getElem_cons_succ, List.getElem_cons_zero]
  refine wpAnyH_take (i := 6) (oi := _) (v := ?_) rfl (by kernel_rfl) (by kernel_rfl) (by kernel_rfl) (fun _ _ _ h => h) (Or.inl ⟨by rfl, ?_⟩) (by assumption) ?_
  rotate_left
  · intro w0 hSw; have q0 := BX.get hSw 0 rfl; have q1 := BX.get hSw 1 rfl; have q2 := BX.get hSw 2 rfl; have q3 := BX.get hSw 3 rfl; go_simp; try with_reducible rfl
  try simp only [Act.put, List.setIfInBounds_toArray, List.set_cons_zero, List.set_cons_succ, List.getElem_toArray, List.getElem_cons_succ, List.getElem_cons_zero]
  refine wpAnyH_take (i := 7) (oi := _) (v := ?_) rfl (by kernel_rfl) (by kernel_rfl) (by kernel_rfl) (fun _ _ _ h => h) (Or.inl ⟨by rfl, ?_⟩) (by assumption) ?_
  rotate_left
  · intro w0 hSw; go_simp; try with_reducible rfl
  try simp only [Act.put, List.setIfInBounds_toArray, List.set_cons_zero, List.set_cons_succ, List.getElem_toArray, List.getElem_cons_succ, List.getElem_cons_zero]
  refine wpAnyH_take (i := 8) (oi := _) (v := ?_) rfl (by kernel_rfl) (by kernel_rfl) (by kernel_rfl) (fun _ _ _ h => h) (Or.inl ⟨by rfl, ?_⟩) (by assumption) ?_
  rotate_left
  · intro w0 hSw; have q0 := BX.get hSw 0 rfl; have q1 := BX.get hSw 1 rfl; have q2 := BX.get hSw 2 rfl; have q3 := BX.get hSw 3 rfl; go_simp; try with_reducible rfl
  try simp only [Act.put, List.setIfInBounds_toArray, List.set_cons_zero, List.set_cons_succ, List.getElem_toArray, List.getElem_cons_succ, List.getElem_cons_zero]
  refine wpAnyH_ready (rs := [9]) (by kernel_rfl) (by simp) ?_
  refine AllReadyH.cons (o := _) rfl (fun K hK => ?_) AllReadyH.nil
  go_simp
  (go_at_call 59; (with_reducible refine (w_times _ _ _ _ _ (hu.ext hHeld.base) (hv.ext hHeld.base) hlen).mono ?_); rintro e t2 ⟨s2, zs, rfl, hz2, hval, hx2⟩; obtain ⟨ao2, bb2, oo2, cc2, rfl, _⟩ := hz2.view)
  have hv2 : val zs = ((m * k : Nat) : Int) := by rw [hval, dig_val, dig_val]; exact (Int.natCast_mul m k).symm
  refine hK.out _ _ ?_ (fun hHeldN => ?_)
  · (try dsimp only); exact hHeld.ext hx2
  clear hK K hHeld
  have hHeld := hHeldN
  clear hHeldN
  try simp only [Act.put, List.setIfInBounds_toArray, List.set_cons_zero, List.set_cons_succ, List.getElem_toArray, List.getElem_cons_succ, List.getElem_cons_zero]
  refine wpAnyH_ready (rs := [10]) (by kernel_rfl) (by simp) ?_
  refine AllReadyH.cons (o := _) rfl (fun K hK => ?_) AllReadyH.nil
  go_simp
  (go_at_call 55; (with_reducible refine (w_madeN _ _ (m * k) _ hz2 hv2 hs4).mono ?_); rintro e t3 ⟨s3, rfl, hz3, hx3⟩; obtain ⟨ao3, bb3, oo3, cc3, rfl, _⟩ := hz3.view)
  refine hK.out _ _ ?_ (fun hHeldN => ?_)
  · (try dsimp only); exact hHeld.ext hx3
  clear hK K hHeld
  have hHeld := hHeldN
  clear hHeldN
  try simp only [Act.put, List.setIfInBounds_toArray, List.set_cons_zero, List.set_cons_succ, List.getElem_toArray, List.getElem_cons_succ, List.getElem_cons_zero]
  refine wpAnyH_take (i := 11) (oi := _) (v := ?_) rfl (by kernel_rfl) (by kernel_rfl) (by kernel_rfl) (fun _ _ _ h => h) (Or.inl ⟨by rfl, ?_⟩) (by assumption) ?_
  rotate_left
  · intro w0 hSw; go_simp; try with_reducible rfl
  try simp only [Act.put, List.setIfInBounds_toArray, List.set_cons_zero, List.set_cons_succ, List.getElem_toArray, List.getElem_cons_succ, List.getElem_cons_zero]
  refine wpAnyH_take (i := 12) (oi := _) (v := ?_) rfl (by kernel_rfl) (by kernel_rfl) (by kernel_rfl) (fun _ _ _ h => h) (Or.inl ⟨by rfl, ?_⟩) (by assumption) ?_
  rotate_left
  · intro w0 hSw; go_simp; try with_reducible rfl
  try simp only [Act.put, List.setIfInBounds_toArray, List.set_cons_zero, List.set_cons_succ, List.getElem_toArray, List.getElem_cons_succ, List.getElem_cons_zero]
  refine wpAnyH_ready (rs := [13]) (by kernel_rfl) (by simp) ?_
  refine AllReadyH.cons (o := _) rfl (fun K hK => ?_) AllReadyH.nil
  obtain ⟨⟨xa, h3a⟩, ⟨xb, h3b⟩, h3f, hnu, hsl⟩ := hHeld.box
  go_simp
  refine hK.out _ _ ?_ (fun hHeldN => ?_)
  · (try dsimp only); exact (hHeld.set (by omega) hLn (fun z e => by cases e)).set (by omega) hLn (fun z e => by cases e)
  clear hK K hHeld
  have hHeld := hHeldN
  clear hHeldN
  try simp only [Act.put, List.setIfInBounds_toArray, List.set_cons_zero, List.set_cons_succ, List.getElem_toArray, List.getElem_cons_succ, List.getElem_cons_zero]
  refine wpAnyH_take (i := 14) (oi := _) (v := ?_) rfl (by kernel_rfl) (by kernel_rfl) (by kernel_rfl) (fun _ _ _ h => h) (Or.inl ⟨by rfl, ?_⟩) (by assumption) ?_
  rotate_left
  · intro w0 hSw; go_simp; try with_reducible rfl
  try simp only [Act.put, List.setIfInBounds_toArray, List.set_cons_zero, List.set_cons_succ, List.getElem_toArray, List.getElem_cons_succ, List.getElem_cons_zero]
  refine wpAnyH_done (by kernel_rfl) ?_ _
  go_wp2_with fail
  refine bodyPost_ret (v := .tuple #[.agg #[.bool false, .slice ao3 (dig (m * k)).length cc3], .int .i64 0]) ?_ rfl ⟨_, rfl, ⟨_, rfl, ?_⟩, ?_⟩
  · simp [results, Try.results38, go_sem, ↓IntWalk.iteOmega, h3a, h3b]
  · exact Lim.box (Lim.box hz3 hnu) (NoU.set hnu (fun z e => by cases e))
  · exact hHeld.base

end Go.Proofs.Ytcalonhphknbbaa
