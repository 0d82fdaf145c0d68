/- The reference: numbers added. -/
import Derived.Test.YtogblocakccbgaaGreatU32
set_option linter.unusedSimpArgs false
set_option linter.unusedVariables false
set_option maxRecDepth 100000
set_option maxHeartbeats 4000000
namespace Go.Proofs.YtogblocakccbgaaGreat
open Go.RowKit
theorem T_RQ_2 {p : Prop} (h : p := by
 intro p hp
 simp only [List.mem_cons, List.mem_nil_iff, or_false] at hp
 rcases hp with rfl | rfl | rfl | rfl <;> (dsimp only; omega)) : p := h
theorem T_RQ_1 {p : Prop} (h : p := by
 rw [← hW3]
 refine ⟨hW3 ▸ hEW, ?_, ?_, ?_, ?_, ?_, by simp⟩
 ·intro p hp
  simp only [List.mem_cons, List.mem_nil_iff, or_false] at hp
  rcases hp with rfl | rfl | rfl | rfl <;> simp [go_sem, ↓IntWalk.iteOmega]
 ·exact b_1
 ·exact b_2
 ·exact b_3
 ·have := NoU.new ((w.alloc (.cells #[.bool false, .slice ao (dig m).length cap1] 24)).alloc (.cells #[.bool false, .slice bo (dig k).length cap2] 24)) #[.bool false, .slice none 0 0] 24 (noU2 (by simp) (by simp))
  simpa using this) : p := h
theorem r_sum (va vb : Value) (m k : Nat) (w : World) (ha : Nn w va m) (hb0 : Nn w vb k) (hs : Small m) (hs2 : Small k) (hs3 : Small (m + k)) :
    Calls Tryz.prog 184 #[va, vb] w fun e w' => ∃ u, e = .returned (.tuple #[u, .int .i64 0]) ∧ Nn w' u (m + k) ∧ Ext w w' := by
 obtain ⟨u, rfl, hu⟩ := ha
 obtain ⟨s, rfl, hv⟩ := hb0
 obtain ⟨ao, b1, o1, cap1, rfl, v1, v2, v3, v4, v5, v6⟩ := hu.view
 obtain ⟨bo, b2, o2, cap2, rfl, y1, y2, y3, y4, y5, y6⟩ := hv.view
 have hlen : (dig m).length ≤ 100000 ∧ (dig k).length ≤ 100000 := by unfold Small at hs hs2; omega
 obtain ⟨W3, hW3⟩ : ∃ W3, ((w.alloc (.cells #[.bool false, .slice ao (dig m).length cap1] 24)).alloc (.cells #[.bool false, .slice bo (dig k).length cap2] 24)).alloc (.cells #[.bool false, .slice none 0 0] 24) = W3 := ⟨_, rfl⟩
 have hWs : W3.heap.size = w.heap.size + 1 + 1 + 1 := by rw [← hW3]; simp
 have hEW : Ext w W3 := by rw [← hW3]; exact (((Ext.refl w).alloc _).alloc _).alloc _
 have hS : BX w (w.heap.size + 1 + 1) [(w.heap.size, 0, .bool false), (w.heap.size, 1, .slice ao (dig m).length cap1), (w.heap.size + 1, 0, .bool false), (w.heap.size + 1, 1, .slice bo (dig k).length cap2)] W3 := by
  exact T_RQ_1
 have hLn : ∀ p ∈ ([(w.heap.size, 0, .bool false), (w.heap.size, 1, .slice ao (dig m).length cap1), (w.heap.size + 1, 0, .bool false), (w.heap.size + 1, 1, .slice bo (dig k).length cap2)] : List (Nat × Nat × Value)), p.1 ≠ w.heap.size + 1 + 1 := by
  exact T_RQ_2
 subst hW3
 clear v1 v4 v5 y1 y4 y5 hWs
 go_enter Tryz.func184, Tryz.ntmps184
 have hs4 : (dig (m + k)).length ≤ 4096 := hs3
 go_upto_region 2 with fail
 have hS0 := hS
 clear hS
 refine wp_region_held_drew (S := (fun w0 => BX w (w.heap.size + 1 + 1) [(w.heap.size, 0, .bool false), (w.heap.size, 1, .slice ao (dig m).length cap1), (w.heap.size + 1, 0, .bool false), (w.heap.size + 1, 1, .slice bo (dig k).length cap2)] w0)) c_2 ?_ (fun hH => ?_)
 ·exact hS0.drew
 try simp only [sx_]
 refine sK 0 ?_
 refine tk 1 rfl c_0 ?_
 try simp only [sx_]
 refine sK 2 ?_
 refine tk 3 rfl c_0 ?_
 try simp only [sx_]
 refine sK 4 ?_
 refine tk 5 rfl c_0 ?_
 try simp only [sx_]
 refine rh1 6 rfl fun K hK => ?_
 go_simp
 (go_at_call 181; (with_reducible refine (r_plus _ _ _ _ _ (hu.ext hH.base) (hv.ext hH.base) hlen).mono ?_); rintro e t2 ⟨s2, zs, rfl, hz2, hval, hx2⟩; obtain ⟨ao2, bb2, oo2, cc2, rfl, _⟩ := hz2.view)
 have hv2 : val zs = (((m + k) : Nat) : Int) := by rw [hval, dig_val, dig_val]; exact (Int.natCast_add m k).symm
 refine hK.out _ _ ?_ fun _ => ?_
 ·exact b_5
 clear hK K hH
 rename_i hH
 try simp only [sx_]
 refine rh1 7 rfl fun K hK => ?_
 go_simp
 (go_at_call 59; (with_reducible refine (r_madeN _ _ (m + k) _ hz2 hv2 hs4).mono ?_); rintro e t3 ⟨s3, rfl, hz3, hx3⟩; obtain ⟨ao3, bb3, oo3, cc3, rfl, _⟩ := hz3.view)
 refine hK.out _ _ ?_ fun _ => ?_
 ·exact b_4
 clear hK K hH
 rename_i hH
 try simp only [sx_]
 refine sK 8 ?_
 refine sK 9 ?_
 refine rh1 10 rfl fun K hK => ?_
 obtain ⟨⟨xa, h3a⟩, ⟨xb, h3b⟩, h3f, hnu, hsl⟩ := hH.box
 go_simp
 refine hK.out _ _ ?_ fun _ => ?_
 ·exact b_8
 clear hK K hH
 rename_i hH
 try simp only [sx_]
 refine sK 11 ?_
 refine wpAnyH_done c_2 ?_ _
 go_wp2_with fail
 refine bodyPost_ret (v := .tuple #[.agg #[.bool false, .slice ao3 (dig (m + k)).length cc3], .int .i64 0]) ?_ rfl ⟨_, rfl, ⟨_, rfl, ?_⟩, ?_⟩
 ·simp [results, Tryz.results184, go_sem, ↓IntWalk.iteOmega, h3a, h3b]
 ·exact b_63
 ·exact hH.base
theorem r_Add (va vb : Value) (m k : Nat) (w : World) (ha : Nn w va m) (hb0 : Nn w vb k) (hs : Small m) (hs2 : Small k) (hs3 : Small (m + k)) :
    Calls Tryz.prog 136 #[va, vb] w fun e w' => ∃ u, e = .returned (.tuple #[u, .int .i64 0]) ∧ Nn w' u (m + k) ∧ Ext w w' := by
 obtain ⟨u, rfl, hu⟩ := ha
 obtain ⟨s, rfl, hv⟩ := hb0
 obtain ⟨ao, b1, o1, cap1, rfl, v1, v2, v3, v4, v5, v6⟩ := hu.view
 obtain ⟨bo, b2, o2, cap2, rfl, y1, y2, y3, y4, y5, y6⟩ := hv.view
 have hlen : (dig m).length ≤ 100000 ∧ (dig k).length ≤ 100000 := by unfold Small at hs hs2; omega
 obtain ⟨W3, hW3⟩ : ∃ W3, ((w.alloc (.cells #[.bool false, .slice ao (dig m).length cap1] 24)).alloc (.cells #[.bool false, .slice bo (dig k).length cap2] 24)).alloc (.cells #[.bool false, .slice none 0 0] 24) = W3 := ⟨_, rfl⟩
 have hWs : W3.heap.size = w.heap.size + 1 + 1 + 1 := by rw [← hW3]; simp
 have hEW : Ext w W3 := by rw [← hW3]; exact (((Ext.refl w).alloc _).alloc _).alloc _
 have hS : BX w (w.heap.size + 1 + 1) [(w.heap.size, 0, .bool false), (w.heap.size, 1, .slice ao (dig m).length cap1), (w.heap.size + 1, 0, .bool false), (w.heap.size + 1, 1, .slice bo (dig k).length cap2)] W3 := by
  exact T_RQ_1
 have hLn : ∀ p ∈ ([(w.heap.size, 0, .bool false), (w.heap.size, 1, .slice ao (dig m).length cap1), (w.heap.size + 1, 0, .bool false), (w.heap.size + 1, 1, .slice bo (dig k).length cap2)] : List (Nat × Nat × Value)), p.1 ≠ w.heap.size + 1 + 1 := by
  exact T_RQ_2
 have nA : Nn W3 (.agg #[.bool false, .slice ao (dig m).length cap1]) m := ⟨_, rfl, hu.ext hEW⟩
 have nB : Nn W3 (.agg #[.bool false, .slice bo (dig k).length cap2]) k := ⟨_, rfl, hv.ext hEW⟩
 have hck := r_both _ _ m k W3 nA nB hs hs2
 clear nA nB
 subst hW3
 clear v1 v4 v5 y1 y4 y5 hWs hEW
 go_enter Tryz.func136, Tryz.ntmps136
 go_wp2_with (first
  | (go_at_call 183; (with_reducible refine hck.mono ?_); rintro e w1 ⟨rfl, hb⟩; have hS1 := hS.ext hb; have q0 := BX.get hS1 0 rfl; have q1 := BX.get hS1 1 rfl; have q2 := BX.get hS1 2 rfl; have q3 := BX.get hS1 3 rfl; have nA : Nn w1 (.agg #[.bool false, .slice ao (dig m).length cap1]) m := ⟨_, rfl, hu.ext hS1.base⟩; have nB : Nn w1 (.agg #[.bool false, .slice bo (dig k).length cap2]) k := ⟨_, rfl, hv.ext hS1.base⟩; clear hS hck hb)
  | (go_at_call 184; (with_reducible refine (r_sum _ _ m k _ nA nB hs hs2 hs3).mono ?_); rintro e w2 ⟨v9, rfl, ⟨s3, rfl, hz3⟩, hx3⟩; obtain ⟨ao3, bb3, oo3, cc3, rfl, _⟩ := hz3.view; have hS2 := hS1.ext hx3; obtain ⟨⟨xa, h3a⟩, ⟨xb, h3b⟩, h3f, hnu, hsl⟩ := hS2.box))
 refine bodyPost_ret (v := .tuple #[.agg #[.bool false, .slice ao3 (dig (m + k)).length cc3], .int .i64 0]) ?_ rfl ⟨_, rfl, ⟨_, rfl, ?_⟩, ?_⟩
 ·simp [results, Tryz.results136, go_sem, ↓IntWalk.iteOmega, h3a, h3b]
 ·exact b_63
 ·exact ((hS2.set (by omega) hLn (fun z e => by cases e)).set (by omega) hLn (fun z e => by cases e)).base
theorem r_sumFTg (va vb : Value) (m k : Nat) (w : World) (ha : Sm w va false m) (hb0 : Sm w vb true k) (hs : Small m) (hs2 : Small k) (hs3 : Small ((m - k))) (hkm : k ≤ m) :
    Calls Tryz.prog 184 #[va, vb] w fun e w' => ∃ u, e = .returned (.tuple #[u, .int .i64 0]) ∧ Wid w' u (sg false ((m - k))) ∧ Ext w w' := by
 obtain ⟨u, rfl, hu⟩ := ha
 obtain ⟨s, rfl, hv⟩ := hb0
 obtain ⟨ao, b1, o1, cap1, rfl, v1, v2, v3, v4, v5, v6⟩ := hu.view
 obtain ⟨bo, b2, o2, cap2, rfl, y1, y2, y3, y4, y5, y6⟩ := hv.view
 have hlen : (dig m).length ≤ 100000 ∧ (dig k).length ≤ 100000 := by unfold Small at hs hs2; omega
 obtain ⟨W3, hW3⟩ : ∃ W3, ((w.alloc (.cells #[.bool false, .slice ao (dig m).length cap1] 24)).alloc (.cells #[.bool true, .slice bo (dig k).length cap2] 24)).alloc (.cells #[.bool false, .slice none 0 0] 24) = W3 := ⟨_, rfl⟩
 have hWs : W3.heap.size = w.heap.size + 1 + 1 + 1 := by rw [← hW3]; simp
 have hEW : Ext w W3 := by rw [← hW3]; exact (((Ext.refl w).alloc _).alloc _).alloc _
 have hS : BX w (w.heap.size + 1 + 1) [(w.heap.size, 0, .bool false), (w.heap.size, 1, .slice ao (dig m).length cap1), (w.heap.size + 1, 0, .bool true), (w.heap.size + 1, 1, .slice bo (dig k).length cap2)] W3 := by
  rw [← hW3]
  refine ⟨hW3 ▸ hEW, ?_, ?_, ?_, ?_, ?_, by simp⟩
  ·intro p hp
   simp only [List.mem_cons, List.mem_nil_iff, or_false] at hp
   rcases hp with rfl | rfl | rfl | rfl <;> simp [go_sem, ↓IntWalk.iteOmega]
  ·exact b_1
  ·exact b_2
  ·exact b_3
  ·have := NoU.new ((w.alloc (.cells #[.bool false, .slice ao (dig m).length cap1] 24)).alloc (.cells #[.bool true, .slice bo (dig k).length cap2] 24)) #[.bool false, .slice none 0 0] 24 (noU2 (by simp) (by simp))
   simpa using this
 have hLn : ∀ p ∈ ([(w.heap.size, 0, .bool false), (w.heap.size, 1, .slice ao (dig m).length cap1), (w.heap.size + 1, 0, .bool true), (w.heap.size + 1, 1, .slice bo (dig k).length cap2)] : List (Nat × Nat × Value)), p.1 ≠ w.heap.size + 1 + 1 := by
  intro p hp
  simp only [List.mem_cons, List.mem_nil_iff, or_false] at hp
  rcases hp with rfl | rfl | rfl | rfl <;> (dsimp only; omega)
 have hcm := r_compare _ _ _ _ W3 (hu.ext hEW) (hv.ext hEW) (dig_nz m) (dig_nz k)
 rw [dig_val, dig_val] at hcm
 have hcg : decide ((0 : Int) ≤ cmpI m k) = true := by
  unfold cmpI
  rw [if_neg (by omega)]
  split <;> rfl
 have hlk : (dig k).length ≤ (dig m).length := dig_mono hkm
 have hvk : val (dig k) ≤ val (dig m) := by rw [dig_val, dig_val]; omega
 generalize cmpI m k = R at hcm hcg
 subst hW3
 clear v1 v4 v5 y1 y4 y5 hWs
 go_enter Tryz.func184, Tryz.ntmps184
 have hs4 : (dig ((m - k))).length ≤ 4096 := hs3
 go_upto_region 4 with (go_at_call 128; (with_reducible refine hcm.mono ?_); rintro e w1 ⟨rfl, hb⟩; have q0 := BX.get (hS.ext hb) 0 rfl; have q2 := BX.get (hS.ext hb) 2 rfl)
 have hS0 := hS.ext hb
 clear hS hb
 refine wp_region_held_drew (S := (fun w0 => BX w (w.heap.size + 1 + 1) [(w.heap.size, 0, .bool false), (w.heap.size, 1, .slice ao (dig m).length cap1), (w.heap.size + 1, 0, .bool true), (w.heap.size + 1, 1, .slice bo (dig k).length cap2)] w0)) c_2 ?_ (fun hH => ?_)
 ·exact hS0.drew
 try simp only [sx_]
 refine sK 0 ?_
 refine tk 1 rfl c_0 ?_
 try simp only [sx_]
 refine sK 2 ?_
 refine tk 3 rfl c_0 ?_
 try simp only [sx_]
 refine sK 4 ?_
 refine tk 5 rfl c_0 ?_
 try simp only [sx_]
 refine rh1 6 rfl fun K hK => ?_
 go_simp
 (go_at_call 206; (with_reducible refine (r_minus _ _ _ _ _ (hu.ext hH.base) (hv.ext hH.base) hlen.1 hlk hvk).mono ?_); rintro e t2 ⟨s2, zs, rfl, hz2, hval, hx2⟩; obtain ⟨ao2, bb2, oo2, cc2, rfl, _⟩ := hz2.view)
 have hv2 : val zs = (((m - k) : Nat) : Int) := by rw [hval, dig_val, dig_val]; exact (Int.ofNat_sub hkm).symm
 refine hK.out _ _ ?_ fun _ => ?_
 ·exact b_5
 clear hK K hH
 rename_i hH
 try simp only [sx_]
 refine rh1 7 rfl fun K hK => ?_
 go_simp
 (go_at_call 59; (with_reducible refine (r_madeS false _ _ (m - k) _ hz2 hv2 hs4).mono ?_); rintro e t3 ⟨s3, bo3, rfl, hz3, hbo3, hx3⟩; obtain ⟨ao3, bb3, oo3, cc3, rfl, _⟩ := hz3.view)
 refine hK.out _ _ ?_ fun _ => ?_
 ·exact b_4
 clear hK K hH
 rename_i hH
 try simp only [sx_]
 refine sK 8 ?_
 refine sK 9 ?_
 refine rh1 10 rfl fun K hK => ?_
 obtain ⟨⟨xa, h3a⟩, ⟨xb, h3b⟩, h3f, hnu, hsl⟩ := hH.box
 go_simp
 refine hK.out _ _ ?_ fun _ => ?_
 ·exact b_8
 clear hK K hH
 rename_i hH
 try simp only [sx_]
 refine sK 11 ?_
 refine wpAnyH_done c_2 ?_ _
 go_wp2_with fail
 refine bodyPost_ret (v := .tuple #[.agg #[.bool bo3, .slice ao3 (dig (m - k)).length cc3], .int .i64 0]) ?_ rfl ⟨_, rfl, Wid.mk' (Lim.box (Lim.box hz3 hnu) (NoU.set hnu (fun z e => by cases e))) hbo3, ?_⟩
 ·simp [results, Tryz.results184, go_sem, ↓IntWalk.iteOmega, h3a, h3b] <;> first | exact hbo3.symm | simp [hbo3]
 ·exact hH.base
theorem r_Sub (va vb : Value) (m k : Nat) (w : World) (ha : Nn w va m) (hb0 : Nn w vb k) (hs : Small m) (hs2 : Small k) (hkm : k ≤ m) :
    Calls Tryz.prog 182 #[va, vb] w fun e w' => ∃ u, e = .returned (.tuple #[u, .int .i64 0]) ∧ Nn w' u (m - k) ∧ Ext w w' := by
 have hbo := fun w1 (k1 : Ext w w1) => r_both va vb m k w1 (ha.ext k1) (hb0.ext k1) hs hs2
 have hs3 : Small (m - k) := Small.le hs (Nat.sub_le _ _)
 obtain ⟨u, rfl, hu⟩ := ha
 obtain ⟨s, rfl, hv⟩ := hb0
 obtain ⟨ao, b1, o1, cap1, rfl, -⟩ := hu.view
 obtain ⟨bo, b2, o2, cap2, rfl, -⟩ := hv.view
 rcases Nat.eq_zero_or_pos k with h0 | h0
 ·subst h0
  have hl0 : (dig 0).length = 0 := rfl
  have hsm := fun w1 (k1 : Ext w w1) => r_sum (.agg #[.bool false, .slice ao (dig m).length cap1]) (.agg #[.bool false, .slice bo (dig 0).length cap2]) m 0 w1 ⟨_, rfl, hu.ext k1⟩ ⟨_, rfl, hv.ext k1⟩ hs hs2 (by simpa using hs)
  rw [Nat.add_zero] at hsm
  rw [Nat.sub_zero]
  rw [hl0] at hsm hbo ⊢
  generalize (dig m).length = la at hsm hbo ⊢
  clear hu hv
  go_enter Tryz.func182, Tryz.ntmps182
  go_wp2_with (first
   | (go_at_call 183; (with_reducible refine (hbo _ ex_).mono ?_); rintro e w1 ⟨rfl, hb⟩; obtain ⟨_, _, ⟨hc, hf⟩, hz⟩ := hb.c3; (try simp only [wsz] at hz hc hf))
   | (go_at_call 184; (with_reducible refine (hsm _ ex_).mono ?_); rintro e w2 ⟨y1, rfl, ⟨y2, rfl, hx⟩, hb2⟩; obtain ⟨xo, _, _, xc, rfl, -⟩ := hx.view; obtain ⟨_, _, ⟨hc2, hf2⟩, hz2⟩ := hb2.c3; (try simp only [wsz] at hz2 hc2 hf2)))
  have hE2 : Ext (((w.alloc (.cells #[.bool false, .slice ao la cap1] 24)).alloc (.cells #[.bool false, .slice bo 0 cap2] 24)).alloc (.cells #[.bool false, .slice none 0 0] 24)) w2 := ex_
  have hnu : NoU w2 (w.heap.size + 1 + 1) := by
   have h9 := NoU.new ((w.alloc (.cells #[.bool false, .slice ao la cap1] 24)).alloc (.cells #[.bool false, .slice bo 0 cap2] 24)) #[.bool false, .slice none 0 0] 24 (noU2 (by simp) (by simp))
   simp only [World.size_alloc] at h9
   exact h9.ext (by simp) hE2
  refine bodyPost_ret (v := .tuple #[.agg #[.bool false, .slice xo (dig m).length xc], .int .i64 0]) ?_ rfl ⟨_, rfl, ⟨_, rfl, ?_⟩, ?_⟩
  ·simp [results, Tryz.results182, go_sem, ↓IntWalk.iteOmega, *]
  ·exact b_6
  ·exact b_0
 ·have hpos := dig_pos.2 h0
  have hsm := fun w1 (k1 : Ext w w1) => r_sumFTg (.agg #[.bool false, .slice ao (dig m).length cap1]) (.agg #[.bool true, .slice bo (dig k).length cap2]) m k w1 ⟨_, rfl, hu.ext k1⟩ ⟨_, rfl, hv.ext k1⟩ hs hs2 hs3 hkm
  have hsg : sg false (m - k) = ((m - k : Nat) : Int) := by simp [sg]
  rw [hsg] at hsm
  generalize m - k = R at hsm ⊢
  have hp1 : decide ((0 : Int) < ((dig k).length : Int)) = true := decide_eq_true (by omega)
  have hp2 : decide (0 < (dig k).length) = true := decide_eq_true hpos
  generalize (dig m).length = la at hsm hbo ⊢
  generalize (dig k).length = lb at hsm hbo hp1 hp2 ⊢
  clear hu hv hpos
  go_enter Tryz.func182, Tryz.ntmps182
  go_wp2_with (first
   | (go_at_call 183; (with_reducible refine (hbo _ ex_).mono ?_); rintro e w1 ⟨rfl, hb⟩; obtain ⟨_, _, ⟨hc, hf⟩, hz⟩ := hb.c3; (try simp only [wsz] at hz hc hf))
   | (go_at_call 184; go_loud ((with_reducible refine (hsm _ ex_).mono ?_); rintro e w2 ⟨y1, rfl, hy1, hb2⟩; obtain ⟨y2, rfl, hx⟩ := hy1.nat; obtain ⟨xo, _, _, xc, rfl, -⟩ := hx.view; obtain ⟨_, _, ⟨hc2, hf2⟩, hz2⟩ := hb2.c3; (try simp only [wsz] at hz2 hc2 hf2))))
  have hE2 : Ext (((w.alloc (.cells #[.bool false, .slice ao la cap1] 24)).alloc (.cells #[.bool false, .slice bo lb cap2] 24)).alloc (.cells #[.bool false, .slice none 0 0] 24)) w2 := ex_
  have hnu : NoU w2 (w.heap.size + 1 + 1) := by
   have h9 := NoU.new ((w.alloc (.cells #[.bool false, .slice ao la cap1] 24)).alloc (.cells #[.bool false, .slice bo lb cap2] 24)) #[.bool false, .slice none 0 0] 24 (noU2 (by simp) (by simp))
   simp only [World.size_alloc] at h9
   exact h9.ext (by simp) hE2
  refine bodyPost_ret (v := .tuple #[.agg #[.bool false, .slice xo (dig R).length xc], .int .i64 0]) ?_ rfl ⟨_, rfl, ⟨_, rfl, ?_⟩, ?_⟩
  ·simp [results, Tryz.results182, go_sem, ↓IntWalk.iteOmega, *]
  ·exact b_6
  ·exact b_0
theorem T_RI_1 {p : Prop} (h : p := by
 go_upto_region 13 with fail
 refine wp_name fun W hW => ?_
 have hWE : Ext w W := Ext.same hW ex_
 have hA0 : Ext ((((w.alloc (.cells #[.bool false, .slice ao (dig m).length cap1] 24)).alloc (.cells #[.bool false, .slice bo (dig k).length cap2] 24)).alloc (.cells #[.bool false, .slice none 0 0] 24)).alloc (.cells #[.bool false, .slice none 0 0] 24)) W := Ext.same hW ex_
 have hE3 : Ext w3 W := Ext.same hW ex_
 have hE4 : Ext w4 W := Ext.same hW ex_
 have e9 : Ext (w3.alloc (.cells #[.bool false, .slice ao7 (dig (m / k)).length cap7] 24)) W := Ext.same hW ex_
 have hz9 := e9.size
 simp only [World.size_alloc] at hz9
 have d0 : W.cell? ⟨w3.heap.size, 0, none⟩ = some (.bool false) := (e9.cells.1 _ 0 (by simp)).trans (by simp [go_sem])
 have d1 : W.cell? ⟨w3.heap.size, 1, none⟩ = some (.slice ao7 (dig (m / k)).length cap7) := (e9.cells.1 _ 1 (by simp)).trans (by simp [go_sem])
 have d2 : W.cell? ⟨w4.heap.size, 0, none⟩ = some (.bool false) := by rw [hW.cells.1]; simp [go_sem]
 have d3 : W.cell? ⟨w4.heap.size, 1, none⟩ = some (.slice ao8 (dig (m % k)).length cap8) := by rw [hW.cells.1]; simp [go_sem]
 have hzW : W.heap.size = w4.heap.size + 1 := by rw [hW.cells.2.2]; simp
 have hzA := hA0.size
 simp only [World.size_alloc] at hzA
 have hz3 : w.heap.size + 1 + 1 + 1 < w3.heap.size := by have := hAx3.size; simp only [World.size_alloc] at this; omega
 have hz4 : w3.heap.size < w4.heap.size := by have := hb4.size; simp only [World.size_alloc] at this; omega
 have p0 : W.cell? ⟨w.heap.size + 1 + 1, 0, none⟩ = some (.bool false) := (hA0.cells.1 _ 0 (by first | (simp; done) | (simp; omega))).trans c_8
 have p1 : W.cell? ⟨w.heap.size + 1 + 1, 1, none⟩ = some (.slice none 0 0) := (hA0.cells.1 _ 1 (by first | (simp; done) | (simp; omega))).trans c_8
 have p2 : W.cell? ⟨w.heap.size + 1 + 1 + 1, 0, none⟩ = some (.bool false) := (hA0.cells.1 _ 0 (by simp)).trans c_8
 have p3 : W.cell? ⟨w.heap.size + 1 + 1 + 1, 1, none⟩ = some (.slice none 0 0) := (hA0.cells.1 _ 1 (by simp)).trans c_8
 have p4 : W.frozen? ⟨w.heap.size + 1 + 1, 0, none⟩ = false := (hA0.cells.2 _ 0 (by first | (simp; done) | (simp; omega))).trans c_8
 have p5 : W.frozen? ⟨w.heap.size + 1 + 1, 1, none⟩ = false := (hA0.cells.2 _ 1 (by first | (simp; done) | (simp; omega))).trans c_8
 have p6 : W.frozen? ⟨w.heap.size + 1 + 1 + 1, 0, none⟩ = false := (hA0.cells.2 _ 0 (by simp)).trans c_8
 have p7 : W.frozen? ⟨w.heap.size + 1 + 1 + 1, 1, none⟩ = false := (hA0.cells.2 _ 1 (by simp)).trans c_8
 have hnu : NoU W (w.heap.size + 1 + 1) := by
  have := ((NoU.new ((w.alloc (.cells #[.bool false, .slice ao (dig m).length cap1] 24)).alloc (.cells #[.bool false, .slice bo (dig k).length cap2] 24)) #[.bool false, .slice none 0 0] 24 (noU2 (by simp) (by simp))).alloc (by simp) #[.bool false, .slice none 0 0] 24).ext (by simp) hA0
  simpa using this
 have hnv : NoU W (w.heap.size + 1 + 1 + 1) := by
  have := (NoU.new (((w.alloc (.cells #[.bool false, .slice ao (dig m).length cap1] 24)).alloc (.cells #[.bool false, .slice bo (dig k).length cap2] 24)).alloc (.cells #[.bool false, .slice none 0 0] 24)) #[.bool false, .slice none 0 0] 24 (noU2 (by simp) (by simp))).ext (by simp) hA0
  simpa using this
 have hq6 := hq3.ext hE3
 have hr6 := hr4.ext hE4
 clear hW hA0 e9 hE3 hE4 hAx3
 go_region
 all_goals
  go_wp2_with fail
  refine bodyPost_ret (v := .tuple #[.agg #[.bool false, .slice ao7 (dig (m / k)).length cap7], .agg #[.bool false, .slice ao8 (dig (m % k)).length cap8], .int .i64 0]) ?_ rfl ⟨_, _, rfl, ⟨_, rfl, ?_⟩, ⟨_, rfl, ?_⟩, ?_⟩
  ·simp [results, Tryz.results134, go_sem, ↓IntWalk.iteOmega, p0, p1, p2, p3, d0, d1, d2, d3]
  ·refine Lim.ext ?_ ((Ext.refl _).drew)
   refine Lim.box (Lim.box (Lim.box (Lim.box hq6 ?_) ?_) ?_) ?_ <;> (repeat (first | with_reducible exact hnu | with_reducible exact hnv | with_reducible refine NoU.set ?_ (fun z e => by cases e)))
  ·refine Lim.ext ?_ ((Ext.refl _).drew)
   refine Lim.box (Lim.box (Lim.box (Lim.box hr6 ?_) ?_) ?_) ?_ <;> (repeat (first | with_reducible exact hnu | with_reducible exact hnv | with_reducible refine NoU.set ?_ (fun z e => by cases e)))
  ·repeat (first | with_reducible exact Ext.refl _ | with_reducible assumption | with_reducible refine Ext.alloc ?_ _ | with_reducible refine Ext.setCell ?_ c_17 _ | with_reducible refine Ext.drewN ?_ _ | with_reducible refine Ext.drew ?_ | with_reducible refine Ext.trans ?_ c_18)) : p := h
theorem r_DivMod (va vb : Value) (m k : Nat) (w : World) (ha : Nn w va m) (hb0 : Nn w vb k) (hs : Small m) (hk0 : 0 < k) (hs2 : Small k) :
    Calls Tryz.prog 134 #[va, vb] w fun e w' => ∃ u v, e = .returned (.tuple #[u, v, .int .i64 0]) ∧ Nn w' u (m / k) ∧ Nn w' v (m % k) ∧ Ext w w' := by
 obtain ⟨u, rfl, hu⟩ := ha
 obtain ⟨s, rfl, hv⟩ := hb0
 obtain ⟨ao, b1, o1, cap1, rfl, -⟩ := hu.view
 obtain ⟨bo, b2, o2, cap2, rfl, -⟩ := hv.view
 have hbo := fun w1 (k1 : Ext w w1) => r_both (.agg #[.bool false, .slice ao (dig m).length cap1]) (.agg #[.bool false, .slice bo (dig k).length cap2]) m k w1 ⟨_, rfl, hu.ext k1⟩ ⟨_, rfl, hv.ext k1⟩ hs hs2
 have hl1 := dig_pos.2 hk0
 have z0 : (((dig k).length : Int) == 0) = false := by simp; intro e; rw [e] at hl1; simp at hl1
 have hdv := fun w1 (k1 : Ext w w1) => r_over _ _ (dig m) (dig k) w1 (hu.ext k1) (hv.ext k1) (dig_nz m) (dig_nz k) (by unfold Small at hs; omega) hl1
 have hmk : m / k ≤ m := Nat.div_le_self _ _
 have hrk : m % k < k := Nat.mod_lt _ hk0
 have hsq : (dig (m / k)).length ≤ 4096 := Nat.le_trans (dig_mono hmk) hs
 have hsr : (dig (m % k)).length ≤ 4096 := Nat.le_trans (dig_mono (Nat.le_of_lt hrk)) hs2
 clear hl1
 go_enter Tryz.func134, Tryz.ntmps134
 go_upto_region 6 with (first
  | (go_at_call 183; (with_reducible refine (hbo _ ex_).mono ?_); rintro e w1 ⟨rfl, hb1⟩; obtain ⟨_, _, ⟨hc1, hf1⟩, hz1⟩ := hb1.c3; (try simp only [wsz] at hz1 hc1 hf1); clear hbo)
  | (go_at_call 180; (with_reducible refine (hdv _ ex_).mono ?_); rintro e w2 ⟨y14, y15, qs, rs, rfl, hq, hr, nq, nr, hval, hlt, hb2⟩; obtain ⟨ao6, b6, o6, cap6, rfl, -⟩ := hr.view; obtain ⟨ao5, b5, o5, cap5, rfl, -⟩ := hq.view; obtain ⟨_, _, ⟨hc2, hf2⟩, hz2⟩ := hb2.c3; (try simp only [wsz] at hz2 hc2 hf2); clear hdv))
 obtain ⟨eq, er⟩ := div_dig hq.lb hr.lb nq nr hval hlt
 subst eq
 subst er
 clear hval hlt nq nr
 go_upto_region 8 with (first
  | (go_at_call 59; (with_reducible refine (r_madeN _ (dig (m / k)) (m / k) _ hq (dig_val _) hsq).mono ?_); rintro e w3 ⟨y16, rfl, hq3, hb3⟩; obtain ⟨ao7, b7, o7, cap7, rfl, -⟩ := hq3.view; obtain ⟨_, _, ⟨hc3, hf3⟩, hz3⟩ := hb3.c3; (try simp only [wsz] at hz3 hc3 hf3); have hAx3 : Ext ((((w.alloc (.cells #[.bool false, .slice ao (dig m).length cap1] 24)).alloc (.cells #[.bool false, .slice bo (dig k).length cap2] 24)).alloc (.cells #[.bool false, .slice none 0 0] 24)).alloc (.cells #[.bool false, .slice none 0 0] 24)) w3 := ex_; replace hr := hr.ext hb3; clear hq)
  | (go_at_call 59; (with_reducible refine (r_madeN _ (dig (m % k)) (m % k) _ (hr.alloc _) (dig_val _) hsr).mono ?_); rintro e w4 ⟨y17, rfl, hr4, hb4⟩; obtain ⟨ao8, b8, o8, cap8, rfl, -⟩ := hr4.view; obtain ⟨_, _, ⟨hc4, hf4⟩, hz4⟩ := hb4.c3; (try simp only [wsz] at hz4 hc4 hf4); clear hr))
 by_cases hr0 : 0 < (dig (m % k)).length
 ·skip
  exact T_RI_1
 ·skip
  exact T_RI_1
theorem T_RAS_2 {p : Prop} (h : p := by
 exact Lim.box (Lim.box (hx.ext (by repeat (first | with_reducible exact Ext.refl _ | with_reducible refine Ext.alloc ?_ _))) hnu) (NoU.set hnu (fun z e => by cases e))) : p := h
theorem T_RAS_1 {p : Prop} (h : p := by
 have h0 := NoU.new ((w.alloc (.cells #[.bool false, .slice ao (dig m).length cap1] 24)).alloc (.cells #[.bool false, .slice bo (dig k).length cap2] 24)) #[.bool false, .slice none 0 0] 24 (noU2 (by simp) (by simp))
 simp only [World.size_alloc] at h0
 exact h0.ext (by simp) (ex_ : Ext (((w.alloc (.cells #[.bool false, .slice ao (dig m).length cap1] 24)).alloc (.cells #[.bool false, .slice bo (dig k).length cap2] 24)).alloc (.cells #[.bool false, .slice none 0 0] 24)) (w1.alloc (.cells #[.bool false, .slice xo (dig R).length xc] 24)))) : p := h
theorem q_from (n : Nat) (w : World) (hn : n < 9223372036854775808) : Calls Tryz.prog 74 #[.int .i64 n] w fun e w' => ∃ u, e = .returned u ∧ Nn w' u n ∧ Ext w w' := by
 go_enter Tryz.func74, Tryz.ntmps74
 go_wp2_with (go_at_call 23; (with_reducible refine (r_From n _ hn).mono ?_); rintro e w1 ⟨y1, rfl, ⟨y2, rfl, hu⟩, hb⟩; obtain ⟨ao, b1, o1, cap1, rfl, -⟩ := hu.view; obtain ⟨_, _, ⟨hc, hf⟩, hz⟩ := hb.c3; (try simp only [wsz] at hz hc hf))
 have hB : NoU w1 w.heap.size := (NoU.new w _ _ (noU2 (by simp) (by simp))).ext (by simp) hb
 refine bodyPost_ret (v := .agg #[.bool false, .slice ao (dig n).length cap1]) ?_ rfl ⟨_, rfl, ⟨_, rfl, ?_⟩, ?_⟩
 ·simp [results, Tryz.results74, go_sem, ↓IntWalk.iteOmega, *]
 ·exact b_9
 ·exact b_0
theorem q_mul (va vb : Value) (m k : Nat) (w : World) (ha : Nn w va m) (hb0 : Nn w vb k) (hs : Small m) (hs2 : Small k) (hs3 : Small (m * k)) : Calls Tryz.prog 73 #[va, vb] w fun e w' => ∃ u, e = .returned u ∧ Nn w' u (m * k) ∧ Ext w w' := by
 obtain ⟨u, rfl, hu⟩ := ha
 obtain ⟨s, rfl, hv⟩ := hb0
 obtain ⟨ao, b1, o1, cap1, rfl, -⟩ := hu.view
 obtain ⟨bo, b2, o2, cap2, rfl, -⟩ := hv.view
 have hm := fun w1 (k1 : Ext w w1) => r_Mul (.agg #[.bool false, .slice ao (dig m).length cap1]) (.agg #[.bool false, .slice bo (dig k).length cap2]) m k w1 ⟨_, rfl, hu.ext k1⟩ ⟨_, rfl, hv.ext k1⟩ hs hs2 hs3
 obtain ⟨R, hR⟩ : ∃ R, m * k = R := ⟨_, rfl⟩
 rw [hR] at hm ⊢
 clear hR
 go_enter Tryz.func73, Tryz.ntmps73
 go_wp2_with (go_at_call 135; (with_reducible refine (hm _ ex_).mono ?_); rintro e w1 ⟨y1, rfl, ⟨y2, rfl, hx⟩, hb1⟩; obtain ⟨xo, _, _, xc, rfl, -⟩ := hx.view; obtain ⟨_, _, ⟨hc1, hf1⟩, hz1⟩ := hb1.c3; (try simp only [wsz] at hz1 hc1 hf1))
 have hnu : NoU (w1.alloc (.cells #[.bool false, .slice xo (dig R).length xc] 24)) (w.heap.size + 1 + 1) := by
  exact T_RAS_1
 refine bodyPost_ret (v := .agg #[.bool false, .slice xo (dig R).length xc]) ?_ rfl ⟨_, rfl, ⟨_, rfl, ?_⟩, ?_⟩
 ·simp [results, Tryz.results73, go_sem, ↓IntWalk.iteOmega, *]
 ·exact T_RAS_2
 ·exact b_0
theorem q_over (va vb : Value) (m k : Nat) (w : World) (ha : Nn w va m) (hb0 : Nn w vb k) (hs : Small m) (hs2 : Small k) (hk0 : 0 < k) : Calls Tryz.prog 72 #[va, vb] w fun e w' => ∃ u, e = .returned u ∧ Nn w' u (m / k) ∧ Ext w w' := by
 obtain ⟨u, rfl, hu⟩ := ha
 obtain ⟨s, rfl, hv⟩ := hb0
 obtain ⟨ao, b1, o1, cap1, rfl, -⟩ := hu.view
 obtain ⟨bo, b2, o2, cap2, rfl, -⟩ := hv.view
 have hm := fun w1 (k1 : Ext w w1) => r_DivMod (.agg #[.bool false, .slice ao (dig m).length cap1]) (.agg #[.bool false, .slice bo (dig k).length cap2]) m k w1 ⟨_, rfl, hu.ext k1⟩ ⟨_, rfl, hv.ext k1⟩ hs hk0 hs2
 obtain ⟨R, hR⟩ : ∃ R, m / k = R := ⟨_, rfl⟩
 rw [hR] at hm ⊢
 clear hR
 go_enter Tryz.func72, Tryz.ntmps72
 go_wp2_with (go_at_call 134; (with_reducible refine (hm _ ex_).mono ?_); rintro e w1 ⟨y1, y3, rfl, ⟨y2, rfl, hx⟩, ⟨y4, rfl, hy⟩, hb1⟩; obtain ⟨xo, _, _, xc, rfl, -⟩ := hx.view; obtain ⟨yo, _, _, yc, rfl, -⟩ := hy.view; obtain ⟨_, _, ⟨hc1, hf1⟩, hz1⟩ := hb1.c3; (try simp only [wsz] at hz1 hc1 hf1))
 have hnu : NoU ((w1.alloc (.cells #[.bool false, .slice xo (dig R).length xc] 24)).alloc (.cells #[.bool false, .slice yo (dig (m % k)).length yc] 24)) (w.heap.size + 1 + 1) := by
  have h0 := NoU.new ((w.alloc (.cells #[.bool false, .slice ao (dig m).length cap1] 24)).alloc (.cells #[.bool false, .slice bo (dig k).length cap2] 24)) #[.bool false, .slice none 0 0] 24 (noU2 (by simp) (by simp))
  simp only [World.size_alloc] at h0
  exact h0.ext (by simp) (ex_ : Ext (((w.alloc (.cells #[.bool false, .slice ao (dig m).length cap1] 24)).alloc (.cells #[.bool false, .slice bo (dig k).length cap2] 24)).alloc (.cells #[.bool false, .slice none 0 0] 24)) ((w1.alloc (.cells #[.bool false, .slice xo (dig R).length xc] 24)).alloc (.cells #[.bool false, .slice yo (dig (m % k)).length yc] 24)))
 refine bodyPost_ret (v := .agg #[.bool false, .slice xo (dig R).length xc]) ?_ rfl ⟨_, rfl, ⟨_, rfl, ?_⟩, ?_⟩
 ·simp [results, Tryz.results72, go_sem, ↓IntWalk.iteOmega, *]
 ·exact T_RAS_2
 ·exact b_0
theorem q_add (va vb : Value) (m k : Nat) (w : World) (ha : Nn w va m) (hb0 : Nn w vb k) (hs : Small m) (hs2 : Small k) (hs3 : Small (m + k)) : Calls Tryz.prog 75 #[va, vb] w fun e w' => ∃ u, e = .returned u ∧ Nn w' u (m + k) ∧ Ext w w' := by
 obtain ⟨u, rfl, hu⟩ := ha
 obtain ⟨s, rfl, hv⟩ := hb0
 obtain ⟨ao, b1, o1, cap1, rfl, -⟩ := hu.view
 obtain ⟨bo, b2, o2, cap2, rfl, -⟩ := hv.view
 have hm := fun w1 (k1 : Ext w w1) => r_Add (.agg #[.bool false, .slice ao (dig m).length cap1]) (.agg #[.bool false, .slice bo (dig k).length cap2]) m k w1 ⟨_, rfl, hu.ext k1⟩ ⟨_, rfl, hv.ext k1⟩ hs hs2 hs3
 obtain ⟨R, hR⟩ : ∃ R, m + k = R := ⟨_, rfl⟩
 rw [hR] at hm ⊢
 clear hR
 go_enter Tryz.func75, Tryz.ntmps75
 go_wp2_with (go_at_call 136; (with_reducible refine (hm _ ex_).mono ?_); rintro e w1 ⟨y1, rfl, ⟨y2, rfl, hx⟩, hb1⟩; obtain ⟨xo, _, _, xc, rfl, -⟩ := hx.view; obtain ⟨_, _, ⟨hc1, hf1⟩, hz1⟩ := hb1.c3; (try simp only [wsz] at hz1 hc1 hf1))
 have hnu : NoU (w1.alloc (.cells #[.bool false, .slice xo (dig R).length xc] 24)) (w.heap.size + 1 + 1) := by
  exact T_RAS_1
 refine bodyPost_ret (v := .agg #[.bool false, .slice xo (dig R).length xc]) ?_ rfl ⟨_, rfl, ⟨_, rfl, ?_⟩, ?_⟩
 ·simp [results, Tryz.results75, go_sem, ↓IntWalk.iteOmega, *]
 ·exact T_RAS_2
 ·exact b_0
theorem q_sub (va vb : Value) (m k : Nat) (w : World) (ha : Nn w va m) (hb0 : Nn w vb k) (hs : Small m) (hs2 : Small k) (hkm : k ≤ m) : Calls Tryz.prog 130 #[va, vb] w fun e w' => ∃ u, e = .returned u ∧ Nn w' u (m - k) ∧ Ext w w' := by
 obtain ⟨u, rfl, hu⟩ := ha
 obtain ⟨s, rfl, hv⟩ := hb0
 obtain ⟨ao, b1, o1, cap1, rfl, -⟩ := hu.view
 obtain ⟨bo, b2, o2, cap2, rfl, -⟩ := hv.view
 have hm := fun w1 (k1 : Ext w w1) => r_Sub (.agg #[.bool false, .slice ao (dig m).length cap1]) (.agg #[.bool false, .slice bo (dig k).length cap2]) m k w1 ⟨_, rfl, hu.ext k1⟩ ⟨_, rfl, hv.ext k1⟩ hs hs2 hkm
 obtain ⟨R, hR⟩ : ∃ R, m - k = R := ⟨_, rfl⟩
 rw [hR] at hm ⊢
 clear hR
 go_enter Tryz.func130, Tryz.ntmps130
 go_wp2_with (go_at_call 182; (with_reducible refine (hm _ ex_).mono ?_); rintro e w1 ⟨y1, rfl, ⟨y2, rfl, hx⟩, hb1⟩; obtain ⟨xo, _, _, xc, rfl, -⟩ := hx.view; obtain ⟨_, _, ⟨hc1, hf1⟩, hz1⟩ := hb1.c3; (try simp only [wsz] at hz1 hc1 hf1))
 have hnu : NoU (w1.alloc (.cells #[.bool false, .slice xo (dig R).length xc] 24)) (w.heap.size + 1 + 1) := by
  exact T_RAS_1
 refine bodyPost_ret (v := .agg #[.bool false, .slice xo (dig R).length xc]) ?_ rfl ⟨_, rfl, ⟨_, rfl, ?_⟩, ?_⟩
 ·simp [results, Tryz.results130, go_sem, ↓IntWalk.iteOmega, *]
 ·exact T_RAS_2
 ·exact b_0
theorem q_down (va : Value) (n : Int) (k : Nat) (w : World) (ha : Wid w va n) (hs : Sz n) (hk0 : 0 < k) (hk : k ≤ 131072) :
    Calls Tryz.prog 68 #[va, .int .i64 (k : Int)] w fun e w' => ∃ u, e = .returned u ∧ Wid w' u (n / 2 ^ k) ∧ Ext w w' := by
 obtain ⟨u, rfl, hu⟩ := ha
 obtain ⟨ao, b1, o1, cap1, rfl, -⟩ := hu.view
 have hm := fun w1 (k1 : Ext w w1) => r_ShiftD (.agg #[.bool (decide (n < 0)), .slice ao (dig n.natAbs).length cap1]) n k w1 ⟨_, rfl, hu.ext k1⟩ hs hk0 hk
 generalize n / 2 ^ k = R at hm ⊢
 generalize decide (n < 0) = sa at hm ⊢
 generalize (dig n.natAbs).length = la at hm ⊢
 clear hu
 go_enter Tryz.func68, Tryz.ntmps68
 go_wp2_with (go_at_call 127; (with_reducible refine (hm _ ex_).mono ?_); rintro e w1 ⟨y1, rfl, ⟨y2, rfl, hx⟩, hb1⟩; obtain ⟨xo, _, _, xc, rfl, -⟩ := hx.view; obtain ⟨_, _, ⟨hc1, hf1⟩, hz1⟩ := hb1.c3; (try simp only [wsz] at hz1 hc1 hf1))
 have hnu : NoU w1 (w.heap.size + 1) := by
  have h0 := NoU.new (w.alloc (.cells #[.bool sa, .slice ao la cap1] 24)) #[.bool false, .slice none 0 0] 24 (noU2 (by simp) (by simp))
  simp only [World.size_alloc] at h0
  exact h0.ext (by simp) hb1
 have hsz : w.heap.size + 1 < w1.heap.size := by omega
 refine bodyPost_ret (v := .agg #[.bool (decide (R < 0)), .slice xo (dig R.natAbs).length xc]) ?_ rfl ⟨_, rfl, ⟨_, rfl, ?_⟩, ?_⟩
 ·simp [results, Tryz.results68, go_sem, ↓IntWalk.iteOmega, *]
 ·exact b_7
 ·exact b_0
theorem q_power (k : Nat) (w : World) (hk : k ≤ 131000) (hs : Small (2 ^ k)) :
    Calls Tryz.prog 132 #[.int .i64 (k : Int)] w fun e w' => ∃ u, e = .returned u ∧ Nn w' u (2 ^ k) ∧ Ext w w' := by
 have hpw : (1 : Int) * 2 ^ k = ((2 ^ k : Nat) : Int) := by rw [Int.one_mul, Int.natCast_pow]; rfl
 have hf : ∀ w, Calls Tryz.prog 74 #[.int .i64 1] w fun e w' => ∃ u, e = .returned u ∧ Nn w' u 1 ∧ Ext w w' := fun w => q_from 1 w (by decide)
 have hm := fun v w1 (h : Nn w1 v 1) => r_ShiftU v 1 k w1 (h.wid) (small_bits (k := 1) (by decide) (by decide)) (by omega) (by rw [hpw]; unfold Sz; rw [Int.natAbs_natCast]; exact hs)
 rw [hpw] at hm
 clear hpw
 generalize 2 ^ k = R at hm ⊢
 have hkk : 0 ≤ (k : Int) ∧ (k : Int) ≤ 131000 := by omega
 generalize (k : Int) = K at hm hkk ⊢
 go_enter Tryz.func132, Tryz.ntmps132
 go_wp2_with (first
  | (go_at_call 74; (with_reducible refine (hf _).mono ?_); rintro e w3 ⟨y3, rfl, hy3, hb3⟩; obtain ⟨_, _, ⟨hc3, hf3⟩, hz3⟩ := hb3.c3; (try simp only [wsz] at hz3 hc3 hf3))
  | (go_at_call 127; (with_reducible refine (hm _ _ hy3).mono ?_); rintro e w1 ⟨y1, rfl, hy1, hb1⟩; obtain ⟨y2, rfl, hx⟩ := hy1.nat; obtain ⟨xo, _, _, xc, rfl, -⟩ := hx.view; obtain ⟨_, _, ⟨hc1, hf1⟩, hz1⟩ := hb1.c3; (try simp only [wsz] at hz1 hc1 hf1)))
 have hE1 : Ext (w.alloc (.cells #[.bool false, .slice none 0 0] 24)) w1 := ex_
 have hnu : NoU w1 (w.heap.size) := (NoU.new w #[.bool false, .slice none 0 0] 24 (noU2 (by simp) (by simp))).ext (by simp) hE1
 have hsz : w.heap.size < w1.heap.size := by have := hE1.size; rw [World.size_alloc] at this; omega
 refine bodyPost_ret (v := .agg #[.bool false, .slice xo (dig R).length xc]) ?_ rfl ⟨_, rfl, ⟨_, rfl, ?_⟩, ?_⟩
 ·simp [results, Tryz.results132, go_sem, ↓IntWalk.iteOmega, *]
 ·exact b_7
 ·exact b_0
theorem q_up (va : Value) (n : Int) (k : Nat) (w : World) (ha : Wid w va n) (hs : Sz n) (hk0 : 0 < k) (hk : k ≤ 131072) (hs2 : Sz (-n / 2 ^ k)) :
    Calls Tryz.prog 133 #[va, .int .i64 (k : Int)] w fun e w' => ∃ u, e = .returned u ∧ Wid w' u (-(-n / 2 ^ k)) ∧ Ext w w' := by
 have hsn : Sz (-n) := by unfold Sz; rw [Int.natAbs_neg]; exact hs
 obtain ⟨u, rfl, hu⟩ := ha
 obtain ⟨ao, b1, o1, cap1, rfl, -⟩ := hu.view
 have h1 := fun w1 (k1 : Ext w w1) => r_Neg (.agg #[.bool (decide (n < 0)), .slice ao (dig n.natAbs).length cap1]) n w1 ⟨_, rfl, hu.ext k1⟩ hs
 have h2 := fun v w1 (h : Wid w1 v (-n)) => q_down v (-n) k w1 h hsn hk0 hk
 have h3 := fun v w1 (h : Wid w1 v (-n / 2 ^ k)) => r_Neg v _ w1 h hs2
 generalize -n / 2 ^ k = R at h2 h3 ⊢
 generalize -n = N at h1 h2
 generalize decide (n < 0) = sa at h1 ⊢
 generalize (dig n.natAbs).length = la at h1 ⊢
 have hkk : 0 ≤ (k : Int) ∧ (k : Int) ≤ 131072 := by omega
 generalize (k : Int) = K at h2 hkk ⊢
 clear hu hs2 hsn hk hk0
 go_enter Tryz.func133, Tryz.ntmps133
 go_wp2_with (first
  | (go_at_call 138; (with_reducible refine (h1 _ ex_).mono ?_); rintro e w1 ⟨y1, rfl, hy1, hb1⟩; obtain ⟨y2, rfl, hx1⟩ := hy1; obtain ⟨xo1, _, _, xc1, rfl, -⟩ := hx1.view; obtain ⟨_, _, ⟨hc1, hf1⟩, hz1⟩ := hb1.c3; (try simp only [wsz] at hz1 hc1 hf1); have hw1 : Wid w1 (.agg #[.bool (decide (N < 0)), .slice xo1 (dig N.natAbs).length xc1]) N := ⟨_, rfl, hx1⟩; clear h1)
  | (go_at_call 68; (with_reducible refine (h2 _ _ (hw1.ext ((Ext.refl _).alloc _))).mono ?_); rintro e w3 ⟨y3, rfl, hy3, hb3⟩; obtain ⟨_, _, ⟨hc3, hf3⟩, hz3⟩ := hb3.c3; (try simp only [wsz] at hz3 hc3 hf3); clear h2)
  | (go_at_call 138; (with_reducible refine (h3 _ _ hy3).mono ?_); rintro e w4 ⟨y4, rfl, hy4, hb4⟩; obtain ⟨y5, rfl, hx4⟩ := hy4; obtain ⟨xo, _, _, xc, rfl, -⟩ := hx4.view; obtain ⟨_, _, ⟨hc4, hf4⟩, hz4⟩ := hb4.c3; (try simp only [wsz] at hz4 hc4 hf4)))
 have hE1 : Ext ((w.alloc (.cells #[.bool sa, .slice ao la cap1] 24)).alloc (.cells #[.bool false, .slice none 0 0] 24)) w4 := ex_
 have hnu : NoU w4 (w.heap.size + 1) := by
  have h0 := NoU.new (w.alloc (.cells #[.bool sa, .slice ao la cap1] 24)) #[.bool false, .slice none 0 0] 24 (noU2 (by simp) (by simp))
  simp only [World.size_alloc] at h0
  exact h0.ext (by simp) hE1
 have hsz : w.heap.size + 1 < w4.heap.size := by have := hE1.size; simp only [World.size_alloc] at this; omega
 refine bodyPost_ret (v := .agg #[.bool (decide (-R < 0)), .slice xo (dig (-R).natAbs).length xc]) ?_ rfl ⟨_, rfl, ⟨_, rfl, ?_⟩, ?_⟩
 ·simp [results, Tryz.results133, go_sem, ↓IntWalk.iteOmega, *]
 ·repeat (first | with_reducible exact hx4 | with_reducible refine Lim.box ?_ ?_ | with_reducible refine NoU.set ?_ (fun z e => by cases e) | with_reducible exact hnu | with_reducible refine NoU.alloc ?_ (by first | exact hsz | (simp only [World.size_alloc]; omega)) _ _ | with_reducible refine Lim.alloc ?_ _)
 ·exact b_0
end Go.Proofs.YtogblocakccbgaaGreat
