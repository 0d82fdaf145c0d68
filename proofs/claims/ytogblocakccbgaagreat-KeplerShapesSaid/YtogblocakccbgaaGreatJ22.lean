/- The reference: numbers multiplied.; The reference: numbers added.; The reference's digit of a quotient: what its rounds do. -/
import Derived.Test.YtogblocakccbgaaGreatJ00
import Derived.Test.YtogblocakccbgaaGreatJ21
import Derived.Test.YtogblocakccbgaaGreatJ04
import Derived.Test.YtogblocakccbgaaGreatJ07
set_option linter.unusedSimpArgs false
set_option linter.unusedVariables false
set_option maxRecDepth 100000
set_option maxHeartbeats 4000000
namespace Go.Proofs.YtogblocakccbgaaGreat
open Go.RowKit
theorem T_RF_1 {p : Prop} (h : p := by
 intro w0 hSw; have q0 := BX.get hSw 0 rfl; have q1 := BX.get hSw 1 rfl; have q2 := BX.get hSw 2 rfl; have q3 := BX.get hSw 3 rfl; go_simp; try with_reducible rfl) : p := h
theorem r_both (va vb : Value) (m k : Nat) (w : World) (ha : Nn w va m) (hb0 : Nn w vb k) (hs : Small m) (hs2 : Small k) :
    Calls Tryz.prog 183 #[va, vb] w fun e w' => e = .returned (.int .i64 0) ∧ Ext w w' := by
 obtain ⟨u, rfl, hu⟩ := ha
 obtain ⟨s, rfl, hv⟩ := hb0
 obtain ⟨ao, b1, o1, cap1, rfl, -⟩ := hu.view
 obtain ⟨bo, b2, o2, cap2, rfl, -⟩ := hv.view
 have h1 := fun w1 (k1 : Ext w w1) => r_Check (.agg #[.bool false, .slice ao (dig m).length cap1]) m w1 ⟨_, rfl, hu.ext k1⟩ hs
 have h2 := fun w1 (k1 : Ext w w1) => r_Check (.agg #[.bool false, .slice bo (dig k).length cap2]) k w1 ⟨_, rfl, hv.ext k1⟩ hs2
 go_enter Tryz.func183, Tryz.ntmps183
 go_upto_region 3 with (go_at_call 129; (with_reducible refine (h1 _ ex_).mono ?_); rintro e w1 ⟨rfl, hb⟩; obtain ⟨_, _, hc, hf⟩ := hb.cells2; have hz := hb.size; (try simp only [wsz] at hz hc hf))
 go_wp2_with (go_at_call 129; (with_reducible refine (h2 _ ex_).mono ?_); rintro e w2 ⟨rfl, hb2⟩)
 go_ret
 exact ⟨rfl, ex_⟩
theorem r_Mul (va vb : Value) (m k : Nat) (w : World) (ha : Nn w va m) (hb0 : Nn w vb k) (hs : Small m) (hs2 : Small k) (hs3 : Small (m * k)) :
    Calls Tryz.prog 135 #[va, vb] w fun e w' => ∃ u, e = .returned (.tuple #[u, .int .i64 0]) ∧ Nn w' u (m * k) ∧ Ext w w' := by
 obtain ⟨u, rfl, hu⟩ := ha
 obtain ⟨s, rfl, hv⟩ := hb0
 obtain ⟨ao, b1, o1, cap1, rfl, v1, v2, v3, v4, v5, v6⟩ := hu.view
 obtain ⟨bo, b2, o2, cap2, rfl, y1, y2, y3, y4, y5, y6⟩ := hv.view
 have hlen : (dig m).length ≤ 100000 ∧ (dig k).length ≤ 100000 := by unfold Small at hs hs2; omega
 obtain ⟨W3, hW3⟩ : ∃ W3, ((w.alloc (.cells #[.bool false, .slice ao (dig m).length cap1] 24)).alloc (.cells #[.bool false, .slice bo (dig k).length cap2] 24)).alloc (.cells #[.bool false, .slice none 0 0] 24) = W3 := ⟨_, rfl⟩
 have hWs : W3.heap.size = w.heap.size + 1 + 1 + 1 := by rw [← hW3]; simp
 have hEW : Ext w W3 := by rw [← hW3]; exact (((Ext.refl w).alloc _).alloc _).alloc _
 have hS : BX w (w.heap.size + 1 + 1) [(w.heap.size, 0, .bool false), (w.heap.size, 1, .slice ao (dig m).length cap1), (w.heap.size + 1, 0, .bool false), (w.heap.size + 1, 1, .slice bo (dig k).length cap2)] W3 := by
  rw [← hW3]
  refine ⟨hW3 ▸ hEW, ?_, ?_, ?_, ?_, ?_, by simp⟩
  ·intro p hp
   simp only [List.mem_cons, List.mem_nil_iff, or_false] at hp
   rcases hp with rfl | rfl | rfl | rfl <;> simp [go_sem, ↓IntWalk.iteOmega]
  ·exact ⟨.bool false, by simp [go_sem, ↓IntWalk.iteOmega]⟩
  ·exact ⟨.slice none 0 0, by simp [go_sem, ↓IntWalk.iteOmega]⟩
  ·intro o; simp [go_sem, ↓IntWalk.iteOmega]
  ·have := NoU.new ((w.alloc (.cells #[.bool false, .slice ao (dig m).length cap1] 24)).alloc (.cells #[.bool false, .slice bo (dig k).length cap2] 24)) #[.bool false, .slice none 0 0] 24 (noU2 (by simp) (by simp))
   simpa using this
 have hLn : ∀ p ∈ ([(w.heap.size, 0, .bool false), (w.heap.size, 1, .slice ao (dig m).length cap1), (w.heap.size + 1, 0, .bool false), (w.heap.size + 1, 1, .slice bo (dig k).length cap2)] : List (Nat × Nat × Value)), p.1 ≠ w.heap.size + 1 + 1 := by
  intro p hp
  simp only [List.mem_cons, List.mem_nil_iff, or_false] at hp
  rcases hp with rfl | rfl | rfl | rfl <;> (dsimp only; omega)
 have nA : Nn W3 (.agg #[.bool false, .slice ao (dig m).length cap1]) m := ⟨_, rfl, hu.ext hEW⟩
 have nB : Nn W3 (.agg #[.bool false, .slice bo (dig k).length cap2]) k := ⟨_, rfl, hv.ext hEW⟩
 have hbo := r_both _ _ m k W3 nA nB hs hs2
 clear nA nB
 subst hW3
 clear v1 v4 v5 y1 y4 y5 hWs
 go_enter Tryz.func135, Tryz.ntmps135
 have hs4 : (dig (m * k)).length ≤ 4096 := hs3
 go_upto_region 3 with (go_at_call 183; (with_reducible refine hbo.mono ?_); rintro e w1 ⟨rfl, hb⟩)
 have hS0 := hS.ext hb
 clear hS hb
 refine wp_region_held_drew (S := (fun w0 => BX w (w.heap.size + 1 + 1) [(w.heap.size, 0, .bool false), (w.heap.size, 1, .slice ao (dig m).length cap1), (w.heap.size + 1, 0, .bool false), (w.heap.size + 1, 1, .slice bo (dig k).length cap2)] w0)) c_4 ?_ (fun hH => ?_)
 ·exact hS0.drew
 try simp only [sx_]
 refine tk 0 rfl c_0 ?_
 try simp only [sx_]
 refine tk (v := ?_) 1 rfl ?_ ?_
 rotate_left
 ·exact T_RF_1
 try simp only [sx_]
 refine tk 2 rfl c_0 ?_
 try simp only [sx_]
 refine tk (v := ?_) 3 rfl ?_ ?_
 rotate_left
 ·exact T_RF_1
 try simp only [sx_]
 refine tk 4 rfl c_0 ?_
 try simp only [sx_]
 refine tk 5 rfl c_0 ?_
 try simp only [sx_]
 refine tk (v := ?_) 6 rfl ?_ ?_
 rotate_left
 ·exact T_RF_1
 try simp only [sx_]
 refine tk 7 rfl c_0 ?_
 try simp only [sx_]
 refine tk (v := ?_) 8 rfl ?_ ?_
 rotate_left
 ·exact T_RF_1
 try simp only [sx_]
 refine wpAnyH_ready (rs := [9]) c_4 (by simp) ?_
 refine rd1 rfl fun K hK => ?_
 go_simp
 (go_at_call 185; (with_reducible refine (r_times _ _ _ _ _ (hu.ext hH.base) (hv.ext hH.base) hlen).mono ?_); rintro e t2 ⟨s2, zs, rfl, hz2, hval, hx2⟩; obtain ⟨ao2, bb2, oo2, cc2, rfl, _⟩ := hz2.view)
 have hv2 : val zs = (((m * k) : Nat) : Int) := by rw [hval, dig_val, dig_val]; exact (Int.natCast_mul m k).symm
 refine hK.out _ _ ?_ (fun hN => ?_)
 ·(try dsimp only); exact hH.ext hx2
 clear hK K hH
 have hH := hN
 clear hN
 try simp only [sx_]
 refine wpAnyH_ready (rs := [10]) c_4 (by simp) ?_
 refine rd1 rfl fun K hK => ?_
 go_simp
 (go_at_call 59; (with_reducible refine (r_madeN _ _ (m * k) _ hz2 hv2 hs4).mono ?_); rintro e t3 ⟨s3, rfl, hz3, hx3⟩; obtain ⟨ao3, bb3, oo3, cc3, rfl, _⟩ := hz3.view)
 refine hK.out _ _ ?_ (fun hN => ?_)
 ·(try dsimp only); exact hH.ext hx3
 clear hK K hH
 have hH := hN
 clear hN
 try simp only [sx_]
 refine tk 11 rfl c_0 ?_
 try simp only [sx_]
 refine tk 12 rfl c_0 ?_
 try simp only [sx_]
 refine wpAnyH_ready (rs := [13]) c_4 (by simp) ?_
 refine rd1 rfl fun K hK => ?_
 obtain ⟨⟨xa, h3a⟩, ⟨xb, h3b⟩, h3f, hnu, hsl⟩ := hH.box
 go_simp
 refine hK.out _ _ ?_ (fun hN => ?_)
 ·(try dsimp only); exact (hH.set (by omega) hLn (fun z e => by cases e)).set (by omega) hLn (fun z e => by cases e)
 clear hK K hH
 have hH := hN
 clear hN
 try simp only [sx_]
 refine tk 14 rfl c_0 ?_
 try simp only [sx_]
 refine wpAnyH_done c_4 ?_ _
 go_wp2_with fail
 refine bodyPost_ret (v := .tuple #[.agg #[.bool false, .slice ao3 (dig (m * k)).length cc3], .int .i64 0]) ?_ rfl ⟨_, rfl, ⟨_, rfl, ?_⟩, ?_⟩
 ·simp [results, Tryz.results135, go_sem, ↓IntWalk.iteOmega, h3a, h3b]
 ·exact Lim.box (Lim.box hz3 hnu) (NoU.set hnu (fun z e => by cases e))
 ·exact hH.base
theorem T_RQ_3 {p : Prop} (h : p := by
 intro p hp
 simp only [List.mem_cons, List.mem_nil_iff, or_false] at hp
 rcases hp with rfl | rfl | rfl | rfl <;> (dsimp only; omega)) : p := h
theorem T_RQ_2 {p : Prop} (h : p := by
 intro w0 hSw; have q0 := BX.get hSw 0 rfl; have q1 := BX.get hSw 1 rfl; have q2 := BX.get hSw 2 rfl; have q3 := BX.get hSw 3 rfl; go_simp; try with_reducible rfl) : p := h
theorem T_RQ_1 {p : Prop} (h : p := by
 rw [← hW3]
 refine ⟨hW3 ▸ hEW, ?_, ?_, ?_, ?_, ?_, by simp⟩
 ·intro p hp
  simp only [List.mem_cons, List.mem_nil_iff, or_false] at hp
  rcases hp with rfl | rfl | rfl | rfl <;> simp [go_sem, ↓IntWalk.iteOmega]
 ·exact ⟨.bool false, by simp [go_sem, ↓IntWalk.iteOmega]⟩
 ·exact ⟨.slice none 0 0, by simp [go_sem, ↓IntWalk.iteOmega]⟩
 ·intro o; simp [go_sem, ↓IntWalk.iteOmega]
 ·have := NoU.new ((w.alloc (.cells #[.bool false, .slice ao (dig m).length cap1] 24)).alloc (.cells #[.bool false, .slice bo (dig k).length cap2] 24)) #[.bool false, .slice none 0 0] 24 (noU2 (by simp) (by simp))
  simpa using this) : p := h
theorem r_sum (va vb : Value) (m k : Nat) (w : World) (ha : Nn w va m) (hb0 : Nn w vb k) (hs : Small m) (hs2 : Small k) (hs3 : Small (m + k)) :
    Calls Tryz.prog 184 #[va, vb] w fun e w' => ∃ u, e = .returned (.tuple #[u, .int .i64 0]) ∧ Nn w' u (m + k) ∧ Ext w w' := by
 obtain ⟨u, rfl, hu⟩ := ha
 obtain ⟨s, rfl, hv⟩ := hb0
 obtain ⟨ao, b1, o1, cap1, rfl, v1, v2, v3, v4, v5, v6⟩ := hu.view
 obtain ⟨bo, b2, o2, cap2, rfl, y1, y2, y3, y4, y5, y6⟩ := hv.view
 have hlen : (dig m).length ≤ 100000 ∧ (dig k).length ≤ 100000 := by unfold Small at hs hs2; omega
 obtain ⟨W3, hW3⟩ : ∃ W3, ((w.alloc (.cells #[.bool false, .slice ao (dig m).length cap1] 24)).alloc (.cells #[.bool false, .slice bo (dig k).length cap2] 24)).alloc (.cells #[.bool false, .slice none 0 0] 24) = W3 := ⟨_, rfl⟩
 have hWs : W3.heap.size = w.heap.size + 1 + 1 + 1 := by rw [← hW3]; simp
 have hEW : Ext w W3 := by rw [← hW3]; exact (((Ext.refl w).alloc _).alloc _).alloc _
 have hS : BX w (w.heap.size + 1 + 1) [(w.heap.size, 0, .bool false), (w.heap.size, 1, .slice ao (dig m).length cap1), (w.heap.size + 1, 0, .bool false), (w.heap.size + 1, 1, .slice bo (dig k).length cap2)] W3 := by
  exact T_RQ_1
 have hLn : ∀ p ∈ ([(w.heap.size, 0, .bool false), (w.heap.size, 1, .slice ao (dig m).length cap1), (w.heap.size + 1, 0, .bool false), (w.heap.size + 1, 1, .slice bo (dig k).length cap2)] : List (Nat × Nat × Value)), p.1 ≠ w.heap.size + 1 + 1 := by
  exact T_RQ_3
 subst hW3
 clear v1 v4 v5 y1 y4 y5 hWs
 go_enter Tryz.func184, Tryz.ntmps184
 have hs4 : (dig (m + k)).length ≤ 4096 := hs3
 go_upto_region 2 with fail
 have hS0 := hS
 clear hS
 refine wp_region_held_drew (S := (fun w0 => BX w (w.heap.size + 1 + 1) [(w.heap.size, 0, .bool false), (w.heap.size, 1, .slice ao (dig m).length cap1), (w.heap.size + 1, 0, .bool false), (w.heap.size + 1, 1, .slice bo (dig k).length cap2)] w0)) c_4 ?_ (fun hH => ?_)
 ·exact hS0.drew
 try simp only [sx_]
 refine tk 0 rfl c_0 ?_
 try simp only [sx_]
 refine tk (v := ?_) 1 rfl ?_ ?_
 rotate_left
 ·exact T_RQ_2
 try simp only [sx_]
 refine tk 2 rfl c_0 ?_
 try simp only [sx_]
 refine tk (v := ?_) 3 rfl ?_ ?_
 rotate_left
 ·exact T_RQ_2
 try simp only [sx_]
 refine tk 4 rfl c_0 ?_
 try simp only [sx_]
 refine tk (v := ?_) 5 rfl ?_ ?_
 rotate_left
 ·exact T_RQ_2
 try simp only [sx_]
 refine wpAnyH_ready (rs := [6]) c_4 (by simp) ?_
 refine rd1 rfl fun K hK => ?_
 go_simp
 (go_at_call 181; (with_reducible refine (r_plus _ _ _ _ _ (hu.ext hH.base) (hv.ext hH.base) hlen).mono ?_); rintro e t2 ⟨s2, zs, rfl, hz2, hval, hx2⟩; obtain ⟨ao2, bb2, oo2, cc2, rfl, _⟩ := hz2.view)
 have hv2 : val zs = (((m + k) : Nat) : Int) := by rw [hval, dig_val, dig_val]; exact (Int.natCast_add m k).symm
 refine hK.out _ _ ?_ (fun hN => ?_)
 ·(try dsimp only); exact hH.ext hx2
 clear hK K hH
 have hH := hN
 clear hN
 try simp only [sx_]
 refine wpAnyH_ready (rs := [7]) c_4 (by simp) ?_
 refine rd1 rfl fun K hK => ?_
 go_simp
 (go_at_call 59; (with_reducible refine (r_madeN _ _ (m + k) _ hz2 hv2 hs4).mono ?_); rintro e t3 ⟨s3, rfl, hz3, hx3⟩; obtain ⟨ao3, bb3, oo3, cc3, rfl, _⟩ := hz3.view)
 refine hK.out _ _ ?_ (fun hN => ?_)
 ·(try dsimp only); exact hH.ext hx3
 clear hK K hH
 have hH := hN
 clear hN
 try simp only [sx_]
 refine tk 8 rfl c_0 ?_
 try simp only [sx_]
 refine tk 9 rfl c_0 ?_
 try simp only [sx_]
 refine wpAnyH_ready (rs := [10]) c_4 (by simp) ?_
 refine rd1 rfl fun K hK => ?_
 obtain ⟨⟨xa, h3a⟩, ⟨xb, h3b⟩, h3f, hnu, hsl⟩ := hH.box
 go_simp
 refine hK.out _ _ ?_ (fun hN => ?_)
 ·(try dsimp only); exact (hH.set (by omega) hLn (fun z e => by cases e)).set (by omega) hLn (fun z e => by cases e)
 clear hK K hH
 have hH := hN
 clear hN
 try simp only [sx_]
 refine tk 11 rfl c_0 ?_
 try simp only [sx_]
 refine wpAnyH_done c_4 ?_ _
 go_wp2_with fail
 refine bodyPost_ret (v := .tuple #[.agg #[.bool false, .slice ao3 (dig (m + k)).length cc3], .int .i64 0]) ?_ rfl ⟨_, rfl, ⟨_, rfl, ?_⟩, ?_⟩
 ·simp [results, Tryz.results184, go_sem, ↓IntWalk.iteOmega, h3a, h3b]
 ·exact Lim.box (Lim.box hz3 hnu) (NoU.set hnu (fun z e => by cases e))
 ·exact hH.base
theorem r_Add (va vb : Value) (m k : Nat) (w : World) (ha : Nn w va m) (hb0 : Nn w vb k) (hs : Small m) (hs2 : Small k) (hs3 : Small (m + k)) :
    Calls Tryz.prog 136 #[va, vb] w fun e w' => ∃ u, e = .returned (.tuple #[u, .int .i64 0]) ∧ Nn w' u (m + k) ∧ Ext w w' := by
 obtain ⟨u, rfl, hu⟩ := ha
 obtain ⟨s, rfl, hv⟩ := hb0
 obtain ⟨ao, b1, o1, cap1, rfl, v1, v2, v3, v4, v5, v6⟩ := hu.view
 obtain ⟨bo, b2, o2, cap2, rfl, y1, y2, y3, y4, y5, y6⟩ := hv.view
 have hlen : (dig m).length ≤ 100000 ∧ (dig k).length ≤ 100000 := by unfold Small at hs hs2; omega
 obtain ⟨W3, hW3⟩ : ∃ W3, ((w.alloc (.cells #[.bool false, .slice ao (dig m).length cap1] 24)).alloc (.cells #[.bool false, .slice bo (dig k).length cap2] 24)).alloc (.cells #[.bool false, .slice none 0 0] 24) = W3 := ⟨_, rfl⟩
 have hWs : W3.heap.size = w.heap.size + 1 + 1 + 1 := by rw [← hW3]; simp
 have hEW : Ext w W3 := by rw [← hW3]; exact (((Ext.refl w).alloc _).alloc _).alloc _
 have hS : BX w (w.heap.size + 1 + 1) [(w.heap.size, 0, .bool false), (w.heap.size, 1, .slice ao (dig m).length cap1), (w.heap.size + 1, 0, .bool false), (w.heap.size + 1, 1, .slice bo (dig k).length cap2)] W3 := by
  exact T_RQ_1
 have hLn : ∀ p ∈ ([(w.heap.size, 0, .bool false), (w.heap.size, 1, .slice ao (dig m).length cap1), (w.heap.size + 1, 0, .bool false), (w.heap.size + 1, 1, .slice bo (dig k).length cap2)] : List (Nat × Nat × Value)), p.1 ≠ w.heap.size + 1 + 1 := by
  exact T_RQ_3
 have nA : Nn W3 (.agg #[.bool false, .slice ao (dig m).length cap1]) m := ⟨_, rfl, hu.ext hEW⟩
 have nB : Nn W3 (.agg #[.bool false, .slice bo (dig k).length cap2]) k := ⟨_, rfl, hv.ext hEW⟩
 have hck := r_both _ _ m k W3 nA nB hs hs2
 clear nA nB
 subst hW3
 clear v1 v4 v5 y1 y4 y5 hWs hEW
 go_enter Tryz.func136, Tryz.ntmps136
 go_wp2_with (first
  | (go_at_call 183; (with_reducible refine hck.mono ?_); rintro e w1 ⟨rfl, hb⟩; have hS1 := hS.ext hb; have q0 := BX.get hS1 0 rfl; have q1 := BX.get hS1 1 rfl; have q2 := BX.get hS1 2 rfl; have q3 := BX.get hS1 3 rfl; have nA : Nn w1 (.agg #[.bool false, .slice ao (dig m).length cap1]) m := ⟨_, rfl, hu.ext hS1.base⟩; have nB : Nn w1 (.agg #[.bool false, .slice bo (dig k).length cap2]) k := ⟨_, rfl, hv.ext hS1.base⟩; clear hS hck hb)
  | (go_at_call 184; (with_reducible refine (r_sum _ _ m k _ nA nB hs hs2 hs3).mono ?_); rintro e w2 ⟨v9, rfl, ⟨s3, rfl, hz3⟩, hx3⟩; obtain ⟨ao3, bb3, oo3, cc3, rfl, _⟩ := hz3.view; have hS2 := hS1.ext hx3; obtain ⟨⟨xa, h3a⟩, ⟨xb, h3b⟩, h3f, hnu, hsl⟩ := hS2.box))
 refine bodyPost_ret (v := .tuple #[.agg #[.bool false, .slice ao3 (dig (m + k)).length cc3], .int .i64 0]) ?_ rfl ⟨_, rfl, ⟨_, rfl, ?_⟩, ?_⟩
 ·simp [results, Tryz.results136, go_sem, ↓IntWalk.iteOmega, h3a, h3b]
 ·exact Lim.box (Lim.box hz3 hnu) (NoU.set hnu (fun z e => by cases e))
 ·exact ((hS2.set (by omega) hLn (fun z e => by cases e)).set (by omega) hLn (fun z e => by cases e)).base
theorem top_le {M Y : List Int} {n : Nat} {a v : Int} (hM : M.length = n + 2) (hY : Y.length = n + 1) (lM : Lb M) (lY : Lb Y) (ha : M.getD (n + 1) 0 = a) (hv : Y.getD n 0 = v) (h : val M < BB * val Y) : a ≤ v := by
 have e1 := val_take_succ' M (n + 1)
 rw [List.take_of_length_le (by omega), ha] at e1
 have e2 := val_take_succ' Y n
 rw [List.take_of_length_le (by omega), hv] at e2
 have p1 := val_nonneg (lM.take (n + 1))
 have p2 := val_lt (lY.take n)
 rw [List.length_take, Nat.min_eq_left (by omega)] at p2
 have hP : (0 : Int) < BB ^ n := Int.pow_pos (by decide)
 rw [Int.pow_succ] at e1
 generalize val (M.take (n + 1)) = A at *
 generalize val (Y.take n) = R at *
 have h4 : BB = 4294967296 := rfl
 generalize hC : BB ^ n = C at *
 rw [h4] at h e1
 have h1 : C * a < C * (v + 1) := by
  have e3 : C * 4294967296 * a = 4294967296 * (C * a) := by grind
  have e4 : C * (v + 1) = C * v + C := by grind
  omega
 have := Int.lt_of_mul_lt_mul_left h1 (Int.le_of_lt hP)
 omega
theorem guess_ok2 {M Y : List Int} {n : Nat} {a b v : Int} (hM : M.length = n + 2) (hY : Y.length = n + 1) (lM : Lb M) (lY : Lb Y) (ha : M.getD (n + 1) 0 = a) (hb : M.getD n 0 = b) (hv : Y.getD n 0 = v) (h : 0 < v) :
    val M < ((a * 4294967296 + b) / v + 1) * val Y := by
 have e1 : val M = val (M.take n) + BB ^ n * b + BB ^ n * (BB * a) := by
  have h2 := val_take_succ' M (n + 1)
  rw [List.take_of_length_le (by omega), val_take_succ', ha, hb, Int.pow_succ] at h2
  rw [h2]; grind
 have e2 : val Y = val (Y.take n) + BB ^ n * v := by
  have h2 := val_take_succ' Y n
  rw [List.take_of_length_le (by omega), hv] at h2
  exact h2
 have l1 := val_lt (lM.take n)
 rw [List.length_take, Nat.min_eq_left (by omega)] at l1
 have l2 := val_nonneg (lY.take n)
 have a0 : 0 ≤ a := by rw [← ha]; exact (lM.getD _).1
 have b0 : 0 ≤ b := by rw [← hb]; exact (lM.getD _).1
 have hq := Int.lt_ediv_add_one_mul_self (a * 4294967296 + b) h
 have hq0 : 0 ≤ (a * 4294967296 + b) / v := Int.ediv_nonneg (by omega) (by omega)
 generalize (a * 4294967296 + b) / v = q at *
 rw [e1, e2]
 have hP : (0 : Int) ≤ BB ^ n := Int.pow_nonneg (by decide)
 generalize val (M.take n) = P at *
 generalize val (Y.take n) = R at *
 have m1 : BB ^ n * (a * 4294967296 + b + 1) ≤ BB ^ n * ((q + 1) * v) := Int.mul_le_mul_of_nonneg_left (by omega) hP
 have m2 : 0 ≤ (q + 1) * R := Int.mul_nonneg (by omega) l2
 have h4 : BB = 4294967296 := rfl
 generalize hC : BB ^ n = C at *
 rw [h4]
 have m3 : C * (a * 4294967296 + b + 1) = C * b + C * (4294967296 * a) + C := by grind
 have m4 : (q + 1) * (R + C * v) = (q + 1) * R + C * ((q + 1) * v) := by grind
 omega
theorem guess_less {M Y : List Int} {n : Nat} {a b c v v' q r : Int} (hM : M.length = n + 3) (hY : Y.length = n + 2) (lM : Lb M) (lY : Lb Y) (ha : M.getD (n + 2) 0 = a) (hb : M.getD (n + 1) 0 = b) (hc : M.getD n 0 = c) (hv : Y.getD (n + 1) 0 = v) (hv' : Y.getD n 0 = v')
    (hq : q * v + r = a * 4294967296 + b) (h0 : 0 ≤ q) (h : r * 4294967296 + c < q * v') : val M < q * val Y := by
 have e1 : val M = val (M.take n) + BB ^ n * (c + BB * b + BB * BB * a) := by
  have h2 := val_take_succ' M (n + 2)
  rw [List.take_of_length_le (by omega), val_take_succ', val_take_succ', ha, hb, hc, Int.pow_succ, Int.pow_succ] at h2
  rw [h2]; grind
 have e2 : val Y = val (Y.take n) + BB ^ n * (v' + BB * v) := by
  have h2 := val_take_succ' Y (n + 1)
  rw [List.take_of_length_le (by omega), val_take_succ', hv, hv', Int.pow_succ] at h2
  rw [h2]; grind
 have l1 := val_lt (lM.take n)
 rw [List.length_take, Nat.min_eq_left (by omega)] at l1
 have l2 := val_nonneg (lY.take n)
 have hP : (0 : Int) ≤ BB ^ n := Int.pow_nonneg (by decide)
 rw [e1, e2]
 generalize val (M.take n) = P at *
 generalize val (Y.take n) = R at *
 generalize BB ^ n = C at *
 have h4 : BB = 4294967296 := rfl
 rw [h4]
 have m0 : 1 + c + 4294967296 * b + 4294967296 * 4294967296 * a ≤ q * (v' + 4294967296 * v) := by
  have e3 : q * (v' + 4294967296 * v) = q * v' + 4294967296 * (q * v) := by grind
  omega
 have m1 : C * (1 + c + 4294967296 * b + 4294967296 * 4294967296 * a) ≤ C * (q * (v' + 4294967296 * v)) := Int.mul_le_mul_of_nonneg_left m0 hP
 have m2 : 0 ≤ q * R := Int.mul_nonneg h0 l2
 have m3 : q * (R + C * (v' + 4294967296 * v)) = q * R + C * (q * (v' + 4294967296 * v)) := by grind
 have m4 : C * (1 + c + 4294967296 * b + 4294967296 * 4294967296 * a) = C + C * (c + 4294967296 * b + 4294967296 * 4294967296 * a) := by grind
 omega
theorem row3_get {A ps R C : List Int} {o j : Nat} (hA : A.length = o) (hp : ps.length = j) (hj : j < R.length) : (A ++ (ps ++ (R.drop j ++ C))).getD (o + j) 0 = R.getD j 0 := by
 rw [List.getD_eq_getElem?_getD, List.getElem?_append_right (by omega), List.getElem?_append_right (by omega), List.getElem?_append_left (by rw [List.length_drop]; omega), List.getElem?_drop, ← List.getD_eq_getElem?_getD]
 congr 1; omega
theorem row3_set {A ps R C : List Int} {o j : Nat} {z : Int} (hA : A.length = o) (hp : ps.length = j) (hj : j < R.length) : (A ++ (ps ++ (R.drop j ++ C))).set (o + j) z = A ++ ((ps ++ [z]) ++ (R.drop (j + 1) ++ C)) := by
 rw [List.set_append_right _ _ (by omega), List.set_append_right _ _ (by omega), List.set_append_left _ _ (by rw [List.length_drop]; omega), show o + j - A.length - ps.length = 0 from by omega, List.drop_eq_getElem_cons hj, List.set_cons_zero, List.append_assoc]
 rfl
theorem row_mid {U : List Int} {o m : Nat} : U.take o ++ (((U.drop o).take m).drop 0 ++ U.drop (o + m)) = U := by
 rw [List.drop_zero, ← List.drop_drop, List.take_append_drop, List.take_append_drop]
theorem back_step {R Y ps : List Int} {i : Nat} {c u y : Int} (hv : val ps + BB ^ i * c = val (R.take i) + val (Y.take i)) (hl : ps.length = i) (hu : R.getD i 0 = u) (hy : Y.getD i 0 = y) :
    val (ps ++ [(c + u + y) % 4294967296]) + BB ^ (i + 1) * ((c + u + y) / 4294967296) = val (R.take (i + 1)) + val (Y.take (i + 1)) := by
 rw [val_take_succ', val_take_succ', hu, hy, val_append, hl]
 simp only [val]
 have hm := lim_mod (c + u + y)
 have h4 : BB = 4294967296 := rfl
 rw [h4] at hm hv ⊢
 generalize (c + u + y) % 4294967296 = t at hm ⊢
 generalize (c + u + y) / 4294967296 = c' at hm ⊢
 rw [Int.pow_succ]
 generalize (4294967296 : Int) ^ i = C at *
 generalize val (R.take i) = V at *
 generalize val (Y.take i) = W at *
 generalize val ps = Z at *
 have e1 : C * (t + 4294967296 * c') = C * (c + u + y) := by rw [hm]
 grind
end Go.Proofs.YtogblocakccbgaaGreat
