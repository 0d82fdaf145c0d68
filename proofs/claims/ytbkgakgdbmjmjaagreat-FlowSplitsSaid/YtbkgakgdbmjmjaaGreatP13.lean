/- Numbers with signs: added. -/
import Derived.Test.YtbkgakgdbmjmjaaGreatP12
set_option linter.unusedSimpArgs false
set_option linter.unusedVariables false
set_option maxRecDepth 100000
set_option maxHeartbeats 4000000
namespace Go.Proofs.YtbkgakgdbmjmjaaGreat
open Go.RowKit
theorem T_ZK_9 {p : Prop} (h : p := by
 simp [results, Tryz.results197, go_sem, ↓IntWalk.iteOmega, h3a, h3b] <;> first | exact hbo3.symm | simp [hbo3]) : p := h
theorem T_ZK_8 {p : Prop} (h : p := by
 (try dsimp only); exact (hH.set (by omega) hLn (fun z e => by cases e)).set (by omega) hLn (fun z e => by cases e)) : p := h
theorem T_ZK_7 {p : Prop} (h : p := by
 rw [← hW3]
 refine ⟨hW3 ▸ hEW, ?_, ?_, ?_, ?_, ?_, by simp⟩
 ·exact T_ZK_4
 ·exact b_11
 ·exact b_12
 ·exact b_13
 ·have := NoU.new ((w.alloc (.cells #[.bool true, .slice ao (dig m).length cap1] 159)).alloc (.cells #[.bool false, .slice bo (dig k).length cap2] 159)) #[.bool false, .slice none 0 0] 159 (noU2 (by simp) (by simp))
  simpa using this) : p := h
theorem T_ZK_6 {p : Prop} (h : p := by
 rw [← hW3]
 refine ⟨hW3 ▸ hEW, ?_, ?_, ?_, ?_, ?_, by simp⟩
 ·exact T_ZK_4
 ·exact b_11
 ·exact b_12
 ·exact b_13
 ·have := NoU.new ((w.alloc (.cells #[.bool false, .slice ao (dig m).length cap1] 159)).alloc (.cells #[.bool true, .slice bo (dig k).length cap2] 159)) #[.bool false, .slice none 0 0] 159 (noU2 (by simp) (by simp))
  simpa using this) : p := h
theorem T_ZK_5 {p : Prop} (h : p := by
 intro p hp
 simp only [List.mem_cons, List.mem_nil_iff, or_false] at hp
 rcases hp with rfl | rfl | rfl | rfl <;> (dsimp only; omega)) : p := h
theorem T_ZK_4 {p : Prop} (h : p := by
 intro p hp
 simp only [List.mem_cons, List.mem_nil_iff, or_false] at hp
 rcases hp with rfl | rfl | rfl | rfl <;> simp [go_sem, ↓IntWalk.iteOmega]) : p := h
theorem T_ZK_3 {p : Prop} (h : p := by
 refine hK.out _ _ ?_ fun _ => ?_
 ·(try dsimp only); exact hH.ext hx3
 clear hK K hH
 rename_i hH
 try simp only [sx_]
 refine tk 8 rfl c_3 ?_
 try simp only [sx_]
 refine tk 9 rfl c_3 ?_
 try simp only [sx_]
 refine rh1 10 rfl fun K hK => ?_
 obtain ⟨⟨xa, h3a⟩, ⟨xb, h3b⟩, h3f, hnu, hsl⟩ := hH.box
 go_simp
 refine hK.out _ _ ?_ fun _ => ?_
 ·exact T_ZK_8
 clear hK K hH
 rename_i hH
 try simp only [sx_]
 refine tk 11 rfl c_3 ?_
 try simp only [sx_]
 refine wpAnyH_done c_16 ?_ _
 go_wp2_with fail
 refine bodyPost_ret (v := .tuple #[.agg #[.bool bo3, .slice ao3 (dig (k - m)).length cc3], .int .i64 0]) ?_ rfl ⟨_, rfl, Wid.mk' (Lim.box (Lim.box hz3 hnu) (NoU.set hnu (fun z e => by cases e))) hbo3, ?_⟩
 ·exact T_ZK_9
 ·exact hH.base) : p := h
theorem T_ZK_2 {p : Prop} (h : p := by
 refine hK.out _ _ ?_ fun _ => ?_
 ·(try dsimp only); exact hH.ext hx3
 clear hK K hH
 rename_i hH
 try simp only [sx_]
 refine tk 8 rfl c_3 ?_
 try simp only [sx_]
 refine tk 9 rfl c_3 ?_
 try simp only [sx_]
 refine rh1 10 rfl fun K hK => ?_
 obtain ⟨⟨xa, h3a⟩, ⟨xb, h3b⟩, h3f, hnu, hsl⟩ := hH.box
 go_simp
 refine hK.out _ _ ?_ fun _ => ?_
 ·exact T_ZK_8
 clear hK K hH
 rename_i hH
 try simp only [sx_]
 refine tk 11 rfl c_3 ?_
 try simp only [sx_]
 refine wpAnyH_done c_16 ?_ _
 go_wp2_with fail
 refine bodyPost_ret (v := .tuple #[.agg #[.bool bo3, .slice ao3 (dig (m - k)).length cc3], .int .i64 0]) ?_ rfl ⟨_, rfl, Wid.mk' (Lim.box (Lim.box hz3 hnu) (NoU.set hnu (fun z e => by cases e))) hbo3, ?_⟩
 ·exact T_ZK_9
 ·exact hH.base) : p := h
theorem T_ZK_1 {p : Prop} (h : p := by
 refine hK.out _ _ ?_ fun _ => ?_
 ·(try dsimp only); exact hH.ext hx3
 clear hK K hH
 rename_i hH
 try simp only [sx_]
 refine tk 8 rfl c_3 ?_
 try simp only [sx_]
 refine tk 9 rfl c_3 ?_
 try simp only [sx_]
 refine rh1 10 rfl fun K hK => ?_
 obtain ⟨⟨xa, h3a⟩, ⟨xb, h3b⟩, h3f, hnu, hsl⟩ := hH.box
 go_simp
 refine hK.out _ _ ?_ fun _ => ?_
 ·exact T_ZK_8
 clear hK K hH
 rename_i hH
 try simp only [sx_]
 refine tk 11 rfl c_3 ?_
 try simp only [sx_]
 refine wpAnyH_done c_16 ?_ _
 go_wp2_with fail
 refine bodyPost_ret (v := .tuple #[.agg #[.bool bo3, .slice ao3 (dig (m + k)).length cc3], .int .i64 0]) ?_ rfl ⟨_, rfl, Wid.mk' (Lim.box (Lim.box hz3 hnu) (NoU.set hnu (fun z e => by cases e))) hbo3, ?_⟩
 ·exact T_ZK_9
 ·exact hH.base) : p := h
theorem z_addFF (va vb : Value) (m k : Nat) (w : World) (ha : Sm w va false m) (hb0 : Sm w vb false k) (hs : Small m) (hs2 : Small k) (hs3 : Small ((m + k))) :
    Calls Tryz.prog 197 #[va, vb] w fun e w' => ∃ u, e = .returned (.tuple #[u, .int .i64 0]) ∧ Wid w' u (sg false ((m + k))) ∧ Ext w w' := by
 obtain ⟨u, rfl, hu⟩ := ha
 obtain ⟨s, rfl, hv⟩ := hb0
 obtain ⟨ao, b1, o1, cap1, rfl, v1, v2, v3, v4, v5, v6⟩ := hu.view
 obtain ⟨bo, b2, o2, cap2, rfl, y1, y2, y3, y4, y5, y6⟩ := hv.view
 have hlen : (dig m).length ≤ 100000 ∧ (dig k).length ≤ 100000 := by unfold Small at hs hs2; omega
 obtain ⟨W3, hW3⟩ : ∃ W3, ((w.alloc (.cells #[.bool false, .slice ao (dig m).length cap1] 159)).alloc (.cells #[.bool false, .slice bo (dig k).length cap2] 159)).alloc (.cells #[.bool false, .slice none 0 0] 159) = W3 := ⟨_, rfl⟩
 have hWs : W3.heap.size = w.heap.size + 1 + 1 + 1 := by rw [← hW3]; simp
 have hEW : Ext w W3 := by rw [← hW3]; exact (((Ext.refl w).alloc _).alloc _).alloc _
 have hS : BX w (w.heap.size + 1 + 1) [(w.heap.size, 0, .bool false), (w.heap.size, 1, .slice ao (dig m).length cap1), (w.heap.size + 1, 0, .bool false), (w.heap.size + 1, 1, .slice bo (dig k).length cap2)] W3 := by
  rw [← hW3]
  refine ⟨hW3 ▸ hEW, ?_, ?_, ?_, ?_, ?_, by simp⟩
  ·exact T_ZK_4
  ·exact b_11
  ·exact b_12
  ·exact b_13
  ·have := NoU.new ((w.alloc (.cells #[.bool false, .slice ao (dig m).length cap1] 159)).alloc (.cells #[.bool false, .slice bo (dig k).length cap2] 159)) #[.bool false, .slice none 0 0] 159 (noU2 (by simp) (by simp))
   simpa using this
 have hLn : ∀ p ∈ ([(w.heap.size, 0, .bool false), (w.heap.size, 1, .slice ao (dig m).length cap1), (w.heap.size + 1, 0, .bool false), (w.heap.size + 1, 1, .slice bo (dig k).length cap2)] : List (Nat × Nat × Value)), p.1 ≠ w.heap.size + 1 + 1 := by
  exact T_ZK_5
 have hcm := w_compare _ _ _ _ W3 (hu.ext hEW) (hv.ext hEW) (dig_nz m) (dig_nz k)
 rw [dig_val, dig_val] at hcm
 generalize cmpI m k = R at hcm
 subst hW3
 clear v1 v4 v5 y1 y4 y5 hWs
 go_enter Tryz.func197, Tryz.ntmps197
 have hs4 : (dig ((m + k))).length ≤ 4096 := hs3
 go_upto_region 3 with (go_at_call 236; (with_reducible refine hcm.mono ?_); rintro e w1 ⟨rfl, hb⟩; have q0 := BX.get (hS.ext hb) 0 rfl; have q2 := BX.get (hS.ext hb) 2 rfl)
 have hS0 := hS.ext hb
 clear hS hb
 refine wp_region_held_drew (S := (fun w0 => BX w (w.heap.size + 1 + 1) [(w.heap.size, 0, .bool false), (w.heap.size, 1, .slice ao (dig m).length cap1), (w.heap.size + 1, 0, .bool false), (w.heap.size + 1, 1, .slice bo (dig k).length cap2)] w0)) c_16 ?_ (fun hH => ?_)
 ·exact hS0.drew
 try simp only [sx_]
 refine tk 0 rfl c_3 ?_
 try simp only [sx_]
 refine tk 1 rfl c_5 ?_
 try simp only [sx_]
 refine tk 2 rfl c_3 ?_
 try simp only [sx_]
 refine tk 3 rfl c_5 ?_
 try simp only [sx_]
 refine tk 4 rfl c_3 ?_
 try simp only [sx_]
 refine tk 5 rfl c_5 ?_
 try simp only [sx_]
 refine rh1 6 rfl fun K hK => ?_
 go_simp
 (go_at_call 195; (with_reducible refine (w_plus _ _ _ _ _ (hu.ext hH.base) (hv.ext hH.base) hlen).mono ?_); rintro e t2 ⟨s2, zs, rfl, hz2, hval, hx2⟩; obtain ⟨ao2, bb2, oo2, cc2, rfl, _⟩ := hz2.view)
 have hv2 : val zs = (((m + k) : Nat) : Int) := by rw [hval, dig_val, dig_val]; exact (Int.natCast_add m k).symm
 refine hK.out _ _ ?_ fun _ => ?_
 ·exact b_14
 clear hK K hH
 rename_i hH
 try simp only [sx_]
 refine rh1 7 rfl fun K hK => ?_
 go_simp
 (go_at_call 189; (with_reducible refine (w_madeS false _ _ (m + k) _ hz2 hv2 hs4).mono ?_); rintro e t3 ⟨s3, bo3, rfl, hz3, hbo3, hx3⟩; obtain ⟨ao3, bb3, oo3, cc3, rfl, _⟩ := hz3.view)
 exact T_ZK_1
theorem z_addTT (va vb : Value) (m k : Nat) (w : World) (ha : Sm w va true m) (hb0 : Sm w vb true k) (hs : Small m) (hs2 : Small k) (hs3 : Small ((m + k))) :
    Calls Tryz.prog 197 #[va, vb] w fun e w' => ∃ u, e = .returned (.tuple #[u, .int .i64 0]) ∧ Wid w' u (sg true ((m + k))) ∧ Ext w w' := by
 obtain ⟨u, rfl, hu⟩ := ha
 obtain ⟨s, rfl, hv⟩ := hb0
 obtain ⟨ao, b1, o1, cap1, rfl, v1, v2, v3, v4, v5, v6⟩ := hu.view
 obtain ⟨bo, b2, o2, cap2, rfl, y1, y2, y3, y4, y5, y6⟩ := hv.view
 have hlen : (dig m).length ≤ 100000 ∧ (dig k).length ≤ 100000 := by unfold Small at hs hs2; omega
 obtain ⟨W3, hW3⟩ : ∃ W3, ((w.alloc (.cells #[.bool true, .slice ao (dig m).length cap1] 159)).alloc (.cells #[.bool true, .slice bo (dig k).length cap2] 159)).alloc (.cells #[.bool false, .slice none 0 0] 159) = W3 := ⟨_, rfl⟩
 have hWs : W3.heap.size = w.heap.size + 1 + 1 + 1 := by rw [← hW3]; simp
 have hEW : Ext w W3 := by rw [← hW3]; exact (((Ext.refl w).alloc _).alloc _).alloc _
 have hS : BX w (w.heap.size + 1 + 1) [(w.heap.size, 0, .bool true), (w.heap.size, 1, .slice ao (dig m).length cap1), (w.heap.size + 1, 0, .bool true), (w.heap.size + 1, 1, .slice bo (dig k).length cap2)] W3 := by
  rw [← hW3]
  refine ⟨hW3 ▸ hEW, ?_, ?_, ?_, ?_, ?_, by simp⟩
  ·exact T_ZK_4
  ·exact b_11
  ·exact b_12
  ·exact b_13
  ·have := NoU.new ((w.alloc (.cells #[.bool true, .slice ao (dig m).length cap1] 159)).alloc (.cells #[.bool true, .slice bo (dig k).length cap2] 159)) #[.bool false, .slice none 0 0] 159 (noU2 (by simp) (by simp))
   simpa using this
 have hLn : ∀ p ∈ ([(w.heap.size, 0, .bool true), (w.heap.size, 1, .slice ao (dig m).length cap1), (w.heap.size + 1, 0, .bool true), (w.heap.size + 1, 1, .slice bo (dig k).length cap2)] : List (Nat × Nat × Value)), p.1 ≠ w.heap.size + 1 + 1 := by
  exact T_ZK_5
 have hcm := w_compare _ _ _ _ W3 (hu.ext hEW) (hv.ext hEW) (dig_nz m) (dig_nz k)
 rw [dig_val, dig_val] at hcm
 generalize cmpI m k = R at hcm
 subst hW3
 clear v1 v4 v5 y1 y4 y5 hWs
 go_enter Tryz.func197, Tryz.ntmps197
 have hs4 : (dig ((m + k))).length ≤ 4096 := hs3
 go_upto_region 3 with (go_at_call 236; (with_reducible refine hcm.mono ?_); rintro e w1 ⟨rfl, hb⟩; have q0 := BX.get (hS.ext hb) 0 rfl; have q2 := BX.get (hS.ext hb) 2 rfl)
 have hS0 := hS.ext hb
 clear hS hb
 refine wp_region_held_drew (S := (fun w0 => BX w (w.heap.size + 1 + 1) [(w.heap.size, 0, .bool true), (w.heap.size, 1, .slice ao (dig m).length cap1), (w.heap.size + 1, 0, .bool true), (w.heap.size + 1, 1, .slice bo (dig k).length cap2)] w0)) c_16 ?_ (fun hH => ?_)
 ·exact hS0.drew
 try simp only [sx_]
 refine tk 0 rfl c_3 ?_
 try simp only [sx_]
 refine tk 1 rfl c_5 ?_
 try simp only [sx_]
 refine tk 2 rfl c_3 ?_
 try simp only [sx_]
 refine tk 3 rfl c_5 ?_
 try simp only [sx_]
 refine tk 4 rfl c_3 ?_
 try simp only [sx_]
 refine tk 5 rfl c_5 ?_
 try simp only [sx_]
 refine rh1 6 rfl fun K hK => ?_
 go_simp
 (go_at_call 195; (with_reducible refine (w_plus _ _ _ _ _ (hu.ext hH.base) (hv.ext hH.base) hlen).mono ?_); rintro e t2 ⟨s2, zs, rfl, hz2, hval, hx2⟩; obtain ⟨ao2, bb2, oo2, cc2, rfl, _⟩ := hz2.view)
 have hv2 : val zs = (((m + k) : Nat) : Int) := by rw [hval, dig_val, dig_val]; exact (Int.natCast_add m k).symm
 refine hK.out _ _ ?_ fun _ => ?_
 ·exact b_14
 clear hK K hH
 rename_i hH
 try simp only [sx_]
 refine rh1 7 rfl fun K hK => ?_
 go_simp
 (go_at_call 189; (with_reducible refine (w_madeS true _ _ (m + k) _ hz2 hv2 hs4).mono ?_); rintro e t3 ⟨s3, bo3, rfl, hz3, hbo3, hx3⟩; obtain ⟨ao3, bb3, oo3, cc3, rfl, _⟩ := hz3.view)
 exact T_ZK_1
theorem z_addFTg (va vb : Value) (m k : Nat) (w : World) (ha : Sm w va false m) (hb0 : Sm w vb true k) (hs : Small m) (hs2 : Small k) (hs3 : Small ((m - k))) (hkm : k ≤ m) :
    Calls Tryz.prog 197 #[va, vb] w fun e w' => ∃ u, e = .returned (.tuple #[u, .int .i64 0]) ∧ Wid w' u (sg false ((m - k))) ∧ Ext w w' := by
 obtain ⟨u, rfl, hu⟩ := ha
 obtain ⟨s, rfl, hv⟩ := hb0
 obtain ⟨ao, b1, o1, cap1, rfl, v1, v2, v3, v4, v5, v6⟩ := hu.view
 obtain ⟨bo, b2, o2, cap2, rfl, y1, y2, y3, y4, y5, y6⟩ := hv.view
 have hlen : (dig m).length ≤ 100000 ∧ (dig k).length ≤ 100000 := by unfold Small at hs hs2; omega
 obtain ⟨W3, hW3⟩ : ∃ W3, ((w.alloc (.cells #[.bool false, .slice ao (dig m).length cap1] 159)).alloc (.cells #[.bool true, .slice bo (dig k).length cap2] 159)).alloc (.cells #[.bool false, .slice none 0 0] 159) = W3 := ⟨_, rfl⟩
 have hWs : W3.heap.size = w.heap.size + 1 + 1 + 1 := by rw [← hW3]; simp
 have hEW : Ext w W3 := by rw [← hW3]; exact (((Ext.refl w).alloc _).alloc _).alloc _
 have hS : BX w (w.heap.size + 1 + 1) [(w.heap.size, 0, .bool false), (w.heap.size, 1, .slice ao (dig m).length cap1), (w.heap.size + 1, 0, .bool true), (w.heap.size + 1, 1, .slice bo (dig k).length cap2)] W3 := by
  exact T_ZK_6
 have hLn : ∀ p ∈ ([(w.heap.size, 0, .bool false), (w.heap.size, 1, .slice ao (dig m).length cap1), (w.heap.size + 1, 0, .bool true), (w.heap.size + 1, 1, .slice bo (dig k).length cap2)] : List (Nat × Nat × Value)), p.1 ≠ w.heap.size + 1 + 1 := by
  exact T_ZK_5
 have hcm := w_compare _ _ _ _ W3 (hu.ext hEW) (hv.ext hEW) (dig_nz m) (dig_nz k)
 rw [dig_val, dig_val] at hcm
 have hcg : decide ((0 : Int) ≤ cmpI m k) = true := by
  unfold cmpI
  rw [if_neg (by omega)]
  split <;> rfl
 have hlk : (dig k).length ≤ (dig m).length := dig_mono hkm
 have hvk : val (dig k) ≤ val (dig m) := by rw [dig_val, dig_val]; omega
 generalize cmpI m k = R at hcm hcg
 subst hW3
 clear v1 v4 v5 y1 y4 y5 hWs
 go_enter Tryz.func197, Tryz.ntmps197
 have hs4 : (dig ((m - k))).length ≤ 4096 := hs3
 go_upto_region 5 with (go_at_call 236; (with_reducible refine hcm.mono ?_); rintro e w1 ⟨rfl, hb⟩; have q0 := BX.get (hS.ext hb) 0 rfl; have q2 := BX.get (hS.ext hb) 2 rfl)
 have hS0 := hS.ext hb
 clear hS hb
 refine wp_region_held_drew (S := (fun w0 => BX w (w.heap.size + 1 + 1) [(w.heap.size, 0, .bool false), (w.heap.size, 1, .slice ao (dig m).length cap1), (w.heap.size + 1, 0, .bool true), (w.heap.size + 1, 1, .slice bo (dig k).length cap2)] w0)) c_16 ?_ (fun hH => ?_)
 ·exact hS0.drew
 try simp only [sx_]
 refine tk 0 rfl c_3 ?_
 try simp only [sx_]
 refine tk 1 rfl c_5 ?_
 try simp only [sx_]
 refine tk 2 rfl c_3 ?_
 try simp only [sx_]
 refine tk 3 rfl c_5 ?_
 try simp only [sx_]
 refine tk 4 rfl c_3 ?_
 try simp only [sx_]
 refine tk 5 rfl c_5 ?_
 try simp only [sx_]
 refine rh1 6 rfl fun K hK => ?_
 go_simp
 (go_at_call 196; (with_reducible refine (w_minus _ _ _ _ _ (hu.ext hH.base) (hv.ext hH.base) hlen.1 hlk hvk).mono ?_); rintro e t2 ⟨s2, zs, rfl, hz2, hval, hx2⟩; obtain ⟨ao2, bb2, oo2, cc2, rfl, _⟩ := hz2.view)
 have hv2 : val zs = (((m - k) : Nat) : Int) := by rw [hval, dig_val, dig_val]; exact (Int.ofNat_sub hkm).symm
 refine hK.out _ _ ?_ fun _ => ?_
 ·exact b_14
 clear hK K hH
 rename_i hH
 try simp only [sx_]
 refine rh1 7 rfl fun K hK => ?_
 go_simp
 (go_at_call 189; (with_reducible refine (w_madeS false _ _ (m - k) _ hz2 hv2 hs4).mono ?_); rintro e t3 ⟨s3, bo3, rfl, hz3, hbo3, hx3⟩; obtain ⟨ao3, bb3, oo3, cc3, rfl, _⟩ := hz3.view)
 exact T_ZK_2
theorem z_addTFg (va vb : Value) (m k : Nat) (w : World) (ha : Sm w va true m) (hb0 : Sm w vb false k) (hs : Small m) (hs2 : Small k) (hs3 : Small ((m - k))) (hkm : k ≤ m) :
    Calls Tryz.prog 197 #[va, vb] w fun e w' => ∃ u, e = .returned (.tuple #[u, .int .i64 0]) ∧ Wid w' u (sg true ((m - k))) ∧ Ext w w' := by
 obtain ⟨u, rfl, hu⟩ := ha
 obtain ⟨s, rfl, hv⟩ := hb0
 obtain ⟨ao, b1, o1, cap1, rfl, v1, v2, v3, v4, v5, v6⟩ := hu.view
 obtain ⟨bo, b2, o2, cap2, rfl, y1, y2, y3, y4, y5, y6⟩ := hv.view
 have hlen : (dig m).length ≤ 100000 ∧ (dig k).length ≤ 100000 := by unfold Small at hs hs2; omega
 obtain ⟨W3, hW3⟩ : ∃ W3, ((w.alloc (.cells #[.bool true, .slice ao (dig m).length cap1] 159)).alloc (.cells #[.bool false, .slice bo (dig k).length cap2] 159)).alloc (.cells #[.bool false, .slice none 0 0] 159) = W3 := ⟨_, rfl⟩
 have hWs : W3.heap.size = w.heap.size + 1 + 1 + 1 := by rw [← hW3]; simp
 have hEW : Ext w W3 := by rw [← hW3]; exact (((Ext.refl w).alloc _).alloc _).alloc _
 have hS : BX w (w.heap.size + 1 + 1) [(w.heap.size, 0, .bool true), (w.heap.size, 1, .slice ao (dig m).length cap1), (w.heap.size + 1, 0, .bool false), (w.heap.size + 1, 1, .slice bo (dig k).length cap2)] W3 := by
  exact T_ZK_7
 have hLn : ∀ p ∈ ([(w.heap.size, 0, .bool true), (w.heap.size, 1, .slice ao (dig m).length cap1), (w.heap.size + 1, 0, .bool false), (w.heap.size + 1, 1, .slice bo (dig k).length cap2)] : List (Nat × Nat × Value)), p.1 ≠ w.heap.size + 1 + 1 := by
  exact T_ZK_5
 have hcm := w_compare _ _ _ _ W3 (hu.ext hEW) (hv.ext hEW) (dig_nz m) (dig_nz k)
 rw [dig_val, dig_val] at hcm
 have hcg : decide ((0 : Int) ≤ cmpI m k) = true := by
  unfold cmpI
  rw [if_neg (by omega)]
  split <;> rfl
 have hlk : (dig k).length ≤ (dig m).length := dig_mono hkm
 have hvk : val (dig k) ≤ val (dig m) := by rw [dig_val, dig_val]; omega
 generalize cmpI m k = R at hcm hcg
 subst hW3
 clear v1 v4 v5 y1 y4 y5 hWs
 go_enter Tryz.func197, Tryz.ntmps197
 have hs4 : (dig ((m - k))).length ≤ 4096 := hs3
 go_upto_region 5 with (go_at_call 236; (with_reducible refine hcm.mono ?_); rintro e w1 ⟨rfl, hb⟩; have q0 := BX.get (hS.ext hb) 0 rfl; have q2 := BX.get (hS.ext hb) 2 rfl)
 have hS0 := hS.ext hb
 clear hS hb
 refine wp_region_held_drew (S := (fun w0 => BX w (w.heap.size + 1 + 1) [(w.heap.size, 0, .bool true), (w.heap.size, 1, .slice ao (dig m).length cap1), (w.heap.size + 1, 0, .bool false), (w.heap.size + 1, 1, .slice bo (dig k).length cap2)] w0)) c_16 ?_ (fun hH => ?_)
 ·exact hS0.drew
 try simp only [sx_]
 refine tk 0 rfl c_3 ?_
 try simp only [sx_]
 refine tk 1 rfl c_5 ?_
 try simp only [sx_]
 refine tk 2 rfl c_3 ?_
 try simp only [sx_]
 refine tk 3 rfl c_5 ?_
 try simp only [sx_]
 refine tk 4 rfl c_3 ?_
 try simp only [sx_]
 refine tk 5 rfl c_5 ?_
 try simp only [sx_]
 refine rh1 6 rfl fun K hK => ?_
 go_simp
 (go_at_call 196; (with_reducible refine (w_minus _ _ _ _ _ (hu.ext hH.base) (hv.ext hH.base) hlen.1 hlk hvk).mono ?_); rintro e t2 ⟨s2, zs, rfl, hz2, hval, hx2⟩; obtain ⟨ao2, bb2, oo2, cc2, rfl, _⟩ := hz2.view)
 have hv2 : val zs = (((m - k) : Nat) : Int) := by rw [hval, dig_val, dig_val]; exact (Int.ofNat_sub hkm).symm
 refine hK.out _ _ ?_ fun _ => ?_
 ·exact b_14
 clear hK K hH
 rename_i hH
 try simp only [sx_]
 refine rh1 7 rfl fun K hK => ?_
 go_simp
 (go_at_call 189; (with_reducible refine (w_madeS true _ _ (m - k) _ hz2 hv2 hs4).mono ?_); rintro e t3 ⟨s3, bo3, rfl, hz3, hbo3, hx3⟩; obtain ⟨ao3, bb3, oo3, cc3, rfl, _⟩ := hz3.view)
 exact T_ZK_2
theorem z_addFTl (va vb : Value) (m k : Nat) (w : World) (ha : Sm w va false m) (hb0 : Sm w vb true k) (hs : Small m) (hs2 : Small k) (hs3 : Small ((k - m))) (hkm : m < k) :
    Calls Tryz.prog 197 #[va, vb] w fun e w' => ∃ u, e = .returned (.tuple #[u, .int .i64 0]) ∧ Wid w' u (sg true ((k - m))) ∧ Ext w w' := by
 obtain ⟨u, rfl, hu⟩ := ha
 obtain ⟨s, rfl, hv⟩ := hb0
 obtain ⟨ao, b1, o1, cap1, rfl, v1, v2, v3, v4, v5, v6⟩ := hu.view
 obtain ⟨bo, b2, o2, cap2, rfl, y1, y2, y3, y4, y5, y6⟩ := hv.view
 have hlen : (dig m).length ≤ 100000 ∧ (dig k).length ≤ 100000 := by unfold Small at hs hs2; omega
 obtain ⟨W3, hW3⟩ : ∃ W3, ((w.alloc (.cells #[.bool false, .slice ao (dig m).length cap1] 159)).alloc (.cells #[.bool true, .slice bo (dig k).length cap2] 159)).alloc (.cells #[.bool false, .slice none 0 0] 159) = W3 := ⟨_, rfl⟩
 have hWs : W3.heap.size = w.heap.size + 1 + 1 + 1 := by rw [← hW3]; simp
 have hEW : Ext w W3 := by rw [← hW3]; exact (((Ext.refl w).alloc _).alloc _).alloc _
 have hS : BX w (w.heap.size + 1 + 1) [(w.heap.size, 0, .bool false), (w.heap.size, 1, .slice ao (dig m).length cap1), (w.heap.size + 1, 0, .bool true), (w.heap.size + 1, 1, .slice bo (dig k).length cap2)] W3 := by
  exact T_ZK_6
 have hLn : ∀ p ∈ ([(w.heap.size, 0, .bool false), (w.heap.size, 1, .slice ao (dig m).length cap1), (w.heap.size + 1, 0, .bool true), (w.heap.size + 1, 1, .slice bo (dig k).length cap2)] : List (Nat × Nat × Value)), p.1 ≠ w.heap.size + 1 + 1 := by
  exact T_ZK_5
 have hcm := w_compare _ _ _ _ W3 (hu.ext hEW) (hv.ext hEW) (dig_nz m) (dig_nz k)
 rw [dig_val, dig_val] at hcm
 have hcg : decide ((0 : Int) ≤ cmpI m k) = false := by
  unfold cmpI
  rw [if_pos (by omega)]
  rfl
 have hlk : (dig m).length ≤ (dig k).length := dig_mono (Nat.le_of_lt hkm)
 have hvk : val (dig m) ≤ val (dig k) := by rw [dig_val, dig_val]; omega
 generalize cmpI m k = R at hcm hcg
 subst hW3
 clear v1 v4 v5 y1 y4 y5 hWs
 go_enter Tryz.func197, Tryz.ntmps197
 have hs4 : (dig ((k - m))).length ≤ 4096 := hs3
 go_upto_region 6 with (go_at_call 236; (with_reducible refine hcm.mono ?_); rintro e w1 ⟨rfl, hb⟩; have q0 := BX.get (hS.ext hb) 0 rfl; have q2 := BX.get (hS.ext hb) 2 rfl)
 have hS0 := hS.ext hb
 clear hS hb
 refine wp_region_held_drew (S := (fun w0 => BX w (w.heap.size + 1 + 1) [(w.heap.size, 0, .bool false), (w.heap.size, 1, .slice ao (dig m).length cap1), (w.heap.size + 1, 0, .bool true), (w.heap.size + 1, 1, .slice bo (dig k).length cap2)] w0)) c_16 ?_ (fun hH => ?_)
 ·exact hS0.drew
 try simp only [sx_]
 refine tk 0 rfl c_3 ?_
 try simp only [sx_]
 refine tk 1 rfl c_5 ?_
 try simp only [sx_]
 refine tk 2 rfl c_3 ?_
 try simp only [sx_]
 refine tk 3 rfl c_5 ?_
 try simp only [sx_]
 refine tk 4 rfl c_3 ?_
 try simp only [sx_]
 refine tk 5 rfl c_5 ?_
 try simp only [sx_]
 refine rh1 6 rfl fun K hK => ?_
 go_simp
 (go_at_call 196; (with_reducible refine (w_minus _ _ _ _ _ (hv.ext hH.base) (hu.ext hH.base) hlen.2 hlk hvk).mono ?_); rintro e t2 ⟨s2, zs, rfl, hz2, hval, hx2⟩; obtain ⟨ao2, bb2, oo2, cc2, rfl, _⟩ := hz2.view)
 have hv2 : val zs = (((k - m) : Nat) : Int) := by rw [hval, dig_val, dig_val]; exact (Int.ofNat_sub (Nat.le_of_lt hkm)).symm
 refine hK.out _ _ ?_ fun _ => ?_
 ·exact b_14
 clear hK K hH
 rename_i hH
 try simp only [sx_]
 refine rh1 7 rfl fun K hK => ?_
 go_simp
 (go_at_call 189; (with_reducible refine (w_madeS true _ _ (k - m) _ hz2 hv2 hs4).mono ?_); rintro e t3 ⟨s3, bo3, rfl, hz3, hbo3, hx3⟩; obtain ⟨ao3, bb3, oo3, cc3, rfl, _⟩ := hz3.view)
 exact T_ZK_3
theorem z_addTFl (va vb : Value) (m k : Nat) (w : World) (ha : Sm w va true m) (hb0 : Sm w vb false k) (hs : Small m) (hs2 : Small k) (hs3 : Small ((k - m))) (hkm : m < k) :
    Calls Tryz.prog 197 #[va, vb] w fun e w' => ∃ u, e = .returned (.tuple #[u, .int .i64 0]) ∧ Wid w' u (sg false ((k - m))) ∧ Ext w w' := by
 obtain ⟨u, rfl, hu⟩ := ha
 obtain ⟨s, rfl, hv⟩ := hb0
 obtain ⟨ao, b1, o1, cap1, rfl, v1, v2, v3, v4, v5, v6⟩ := hu.view
 obtain ⟨bo, b2, o2, cap2, rfl, y1, y2, y3, y4, y5, y6⟩ := hv.view
 have hlen : (dig m).length ≤ 100000 ∧ (dig k).length ≤ 100000 := by unfold Small at hs hs2; omega
 obtain ⟨W3, hW3⟩ : ∃ W3, ((w.alloc (.cells #[.bool true, .slice ao (dig m).length cap1] 159)).alloc (.cells #[.bool false, .slice bo (dig k).length cap2] 159)).alloc (.cells #[.bool false, .slice none 0 0] 159) = W3 := ⟨_, rfl⟩
 have hWs : W3.heap.size = w.heap.size + 1 + 1 + 1 := by rw [← hW3]; simp
 have hEW : Ext w W3 := by rw [← hW3]; exact (((Ext.refl w).alloc _).alloc _).alloc _
 have hS : BX w (w.heap.size + 1 + 1) [(w.heap.size, 0, .bool true), (w.heap.size, 1, .slice ao (dig m).length cap1), (w.heap.size + 1, 0, .bool false), (w.heap.size + 1, 1, .slice bo (dig k).length cap2)] W3 := by
  exact T_ZK_7
 have hLn : ∀ p ∈ ([(w.heap.size, 0, .bool true), (w.heap.size, 1, .slice ao (dig m).length cap1), (w.heap.size + 1, 0, .bool false), (w.heap.size + 1, 1, .slice bo (dig k).length cap2)] : List (Nat × Nat × Value)), p.1 ≠ w.heap.size + 1 + 1 := by
  exact T_ZK_5
 have hcm := w_compare _ _ _ _ W3 (hu.ext hEW) (hv.ext hEW) (dig_nz m) (dig_nz k)
 rw [dig_val, dig_val] at hcm
 have hcg : decide ((0 : Int) ≤ cmpI m k) = false := by
  unfold cmpI
  rw [if_pos (by omega)]
  rfl
 have hlk : (dig m).length ≤ (dig k).length := dig_mono (Nat.le_of_lt hkm)
 have hvk : val (dig m) ≤ val (dig k) := by rw [dig_val, dig_val]; omega
 generalize cmpI m k = R at hcm hcg
 subst hW3
 clear v1 v4 v5 y1 y4 y5 hWs
 go_enter Tryz.func197, Tryz.ntmps197
 have hs4 : (dig ((k - m))).length ≤ 4096 := hs3
 go_upto_region 6 with (go_at_call 236; (with_reducible refine hcm.mono ?_); rintro e w1 ⟨rfl, hb⟩; have q0 := BX.get (hS.ext hb) 0 rfl; have q2 := BX.get (hS.ext hb) 2 rfl)
 have hS0 := hS.ext hb
 clear hS hb
 refine wp_region_held_drew (S := (fun w0 => BX w (w.heap.size + 1 + 1) [(w.heap.size, 0, .bool true), (w.heap.size, 1, .slice ao (dig m).length cap1), (w.heap.size + 1, 0, .bool false), (w.heap.size + 1, 1, .slice bo (dig k).length cap2)] w0)) c_16 ?_ (fun hH => ?_)
 ·exact hS0.drew
 try simp only [sx_]
 refine tk 0 rfl c_3 ?_
 try simp only [sx_]
 refine tk 1 rfl c_5 ?_
 try simp only [sx_]
 refine tk 2 rfl c_3 ?_
 try simp only [sx_]
 refine tk 3 rfl c_5 ?_
 try simp only [sx_]
 refine tk 4 rfl c_3 ?_
 try simp only [sx_]
 refine tk 5 rfl c_5 ?_
 try simp only [sx_]
 refine rh1 6 rfl fun K hK => ?_
 go_simp
 (go_at_call 196; (with_reducible refine (w_minus _ _ _ _ _ (hv.ext hH.base) (hu.ext hH.base) hlen.2 hlk hvk).mono ?_); rintro e t2 ⟨s2, zs, rfl, hz2, hval, hx2⟩; obtain ⟨ao2, bb2, oo2, cc2, rfl, _⟩ := hz2.view)
 have hv2 : val zs = (((k - m) : Nat) : Int) := by rw [hval, dig_val, dig_val]; exact (Int.ofNat_sub (Nat.le_of_lt hkm)).symm
 refine hK.out _ _ ?_ fun _ => ?_
 ·exact b_14
 clear hK K hH
 rename_i hH
 try simp only [sx_]
 refine rh1 7 rfl fun K hK => ?_
 go_simp
 (go_at_call 189; (with_reducible refine (w_madeS false _ _ (k - m) _ hz2 hv2 hs4).mono ?_); rintro e t3 ⟨s3, bo3, rfl, hz3, hbo3, hx3⟩; obtain ⟨ao3, bb3, oo3, cc3, rfl, _⟩ := hz3.view)
 exact T_ZK_3
theorem z_add (va vb : Value) (s t : Bool) (m k : Nat) (w : World) (ha : Sm w va s m) (hb0 : Sm w vb t k) (hs : Small m) (hs2 : Small k) (hs3 : Sz (sg s m + sg t k)) :
    Calls Tryz.prog 197 #[va, vb] w fun e w' => ∃ u, e = .returned (.tuple #[u, .int .i64 0]) ∧ Wid w' u (sg s m + sg t k) ∧ Ext w w' := by
 unfold Sz at hs3
 have cast : ∀ (r : Bool) (z : Nat), sg r z = sg s m + sg t k → (Small z → Calls Tryz.prog 197 #[va, vb] w fun e w' => ∃ u, e = .returned (.tuple #[u, .int .i64 0]) ∧ Wid w' u (sg r z) ∧ Ext w w') → Calls Tryz.prog 197 #[va, vb] w fun e w' => ∃ u, e = .returned (.tuple #[u, .int .i64 0]) ∧ Wid w' u (sg s m + sg t k) ∧ Ext w w' := by
  intro r z e h
  rw [← e, sg_abs] at hs3
  rw [← e]; exact h hs3
 cases s <;> cases t
 ·exact cast false (m + k) (by simp [sg]) (fun h => z_addFF va vb m k w ha hb0 hs hs2 h)
 ·rcases Nat.lt_or_ge m k with h1 | h1
  ·exact cast true (k - m) c_64 (fun h => z_addFTl va vb m k w ha hb0 hs hs2 h h1)
  ·exact cast false (m - k) c_64 (fun h => z_addFTg va vb m k w ha hb0 hs hs2 h h1)
 ·rcases Nat.lt_or_ge m k with h1 | h1
  ·exact cast false (k - m) c_64 (fun h => z_addTFl va vb m k w ha hb0 hs hs2 h h1)
  ·exact cast true (m - k) c_64 (fun h => z_addTFg va vb m k w ha hb0 hs hs2 h h1)
 ·exact cast true (m + k) c_64 (fun h => z_addTT va vb m k w ha hb0 hs hs2 h)
theorem z_GcdS (va vb : Value) (sa : Bool) (m k : Nat) (w : World) (ha : Sm w va sa m) (hb0 : Sm w vb false k) (hs : Small m) (hs2 : Small k) (hz : m = 0 → sa = false) :
    Calls Tryz.prog 190 #[va, vb] w fun e w' => ∃ u, e = .returned (.tuple #[u, .int .i64 0]) ∧ Nn w' u (Nat.gcd m k) ∧ Ext w w' := by
 obtain ⟨u, rfl, hu⟩ := ha
 obtain ⟨s, rfl, hv⟩ := hb0
 obtain ⟨ao, b1, o1, cap1, rfl, v1, v2, v3, v4, v5, v6⟩ := hu.view
 obtain ⟨bo, b2, o2, cap2, rfl, y1, y2, y3, y4, y5, y6⟩ := hv.view
 have hlen : (dig m).length ≤ 100000 ∧ (dig k).length ≤ 100000 := by unfold Small at hs hs2; omega
 obtain ⟨W3, hW3⟩ : ∃ W3, ((w.alloc (.cells #[.bool sa, .slice ao (dig m).length cap1] 159)).alloc (.cells #[.bool false, .slice bo (dig k).length cap2] 159)).alloc (.cells #[.bool false, .slice none 0 0] 159) = W3 := ⟨_, rfl⟩
 have hWs : W3.heap.size = w.heap.size + 1 + 1 + 1 := by rw [← hW3]; simp
 have hEW : Ext w W3 := by rw [← hW3]; exact (((Ext.refl w).alloc _).alloc _).alloc _
 have hS : BX w (w.heap.size + 1 + 1) [(w.heap.size, 0, .bool sa), (w.heap.size, 1, .slice ao (dig m).length cap1), (w.heap.size + 1, 0, .bool false), (w.heap.size + 1, 1, .slice bo (dig k).length cap2)] W3 := by
  rw [← hW3]
  refine ⟨hW3 ▸ hEW, ?_, ?_, ?_, ?_, ?_, by simp⟩
  ·intro p hp
   simp only [List.mem_cons, List.mem_nil_iff, or_false] at hp
   rcases hp with rfl | rfl | rfl | rfl <;> simp [go_sem, ↓IntWalk.iteOmega]
  ·exact b_11
  ·exact b_12
  ·exact b_13
  ·have := NoU.new ((w.alloc (.cells #[.bool sa, .slice ao (dig m).length cap1] 159)).alloc (.cells #[.bool false, .slice bo (dig k).length cap2] 159)) #[.bool false, .slice none 0 0] 159 (noU2 (by simp) (by simp))
   simpa using this
 have hLn : ∀ p ∈ ([(w.heap.size, 0, .bool sa), (w.heap.size, 1, .slice ao (dig m).length cap1), (w.heap.size + 1, 0, .bool false), (w.heap.size + 1, 1, .slice bo (dig k).length cap2)] : List (Nat × Nat × Value)), p.1 ≠ w.heap.size + 1 + 1 := by
  intro p hp
  simp only [List.mem_cons, List.mem_nil_iff, or_false] at hp
  rcases hp with rfl | rfl | rfl | rfl <;> (dsimp only; omega)
 have hck := z_check_two W3 _ _ sa false m k (hu.ext hEW) (hv.ext hEW) hs hs2 hz (fun _ => rfl)
 rw [hWs] at hck
 subst hW3
 clear v1 v4 v5 y1 y4 y5 hWs hEW hz
 go_enter Tryz.func190, Tryz.ntmps190
 go_upto_region 4 with (go_at_call 193; (with_reducible refine hck.mono ?_); rintro e w1 ⟨rfl, hb⟩)
 have hS0 := hS.ext (((Ext.refl _).alloc _).trans hb)
 clear hS hck hb
 refine wp_region_held_drew (S := (fun w0 => BX w (w.heap.size + 1 + 1) [(w.heap.size, 0, .bool sa), (w.heap.size, 1, .slice ao (dig m).length cap1), (w.heap.size + 1, 0, .bool false), (w.heap.size + 1, 1, .slice bo (dig k).length cap2)] w0)) c_16 ?_ (fun hH => ?_)
 ·exact hS0.drew
 try simp only [sx_]
 refine tk 0 rfl c_3 ?_
 try simp only [sx_]
 refine tk 1 rfl c_5 ?_
 try simp only [sx_]
 refine tk 3 rfl c_3 ?_
 try simp only [sx_]
 refine tk 4 rfl c_5 ?_
 try simp only [sx_]
 refine rh1 2 rfl fun K hK => ?_
 go_simp
 (go_at_call 235; (with_reducible refine (w_Clone _ _ _ (hu.ext hH.base) hlen.1).mono ?_); rintro e t2 ⟨s2, rfl, hu4, hx2⟩)
 refine hK.out _ _ ?_ fun _ => ?_
 ·exact b_14
 clear hK K hH
 rename_i hH
 try simp only [sx_]
 refine tk 5 rfl c_3 ?_
 try simp only [sx_]
 refine tk 6 rfl c_3 ?_
 try simp only [sx_]
 refine wpAnyH_done c_16 ?_ _
 go_wp2_with fail
 have hE4 := hH
 clear hH
 go_loopw [7, 8] (fun p q wr => ∃ a c : Nat, Small a ∧ Small c ∧ Hid (Nat.gcd a c = Nat.gcd m k) ∧ Hid (Lim wr p (dig a)) ∧ Hid (Lim wr q (dig c)) ∧ Hid (BX w (w.heap.size + 1 + 1) [(w.heap.size, 0, .bool sa), (w.heap.size, 1, .slice ao (dig m).length cap1), (w.heap.size + 1, 0, .bool false), (w.heap.size + 1, 1, .slice bo (dig k).length cap2)] wr)) (fun _ q wr => lmeas wr q)
 case atStart => exact ⟨m, k, hs, hs2, rfl, hu4, hv.ext hE4.base, hE4⟩
 case round =>
  obtain ⟨a, c, a1, c1, hg, HA, HC, HB⟩ := hrel
  obtain ⟨ao4, b4, o4, cap4, rfl, p1, p2, p3, p4, p5, p6⟩ := HA.out.view
  obtain ⟨ao5, b5, o5, cap5, rfl, q1, q2, q3, q4, q5, q6⟩ := HC.out.view
  rcases Nat.eq_zero_or_pos c with h0 | h0
  ·subst h0
   have hl0 : (dig 0).length = 0 := rfl
   have hga : Hid (a = Nat.gcd m k) := by show a = _; rw [← hg.out, Nat.gcd_zero_right]
   clear p1 p4 p5 q1 q4 q5
   rw [hl0]
   have hcl := fun w2 (k2 : Ext wr w2) => w_Clone _ (dig a) w2 (HA.out.ext k2) (by unfold Small at a1; omega)
   have hla : (dig a).length ≤ 4096 := a1
   go_wp2_with (first
    | (go_at_call 235; (with_reducible refine (hcl _ (Ext.refl _)).mono ?_); rintro e w4 ⟨y14, rfl, hu5, hb5⟩; obtain ⟨ao6, b6, o6, cap6, rfl, _⟩ := hu5.view)
    | (go_at_call 189; (with_reducible refine (w_madeN _ (dig a) a _ hu5 (dig_val a) hla).mono ?_); rintro e w5 ⟨y16, rfl, hu6, hb6⟩; obtain ⟨ao7, b7, o7, cap7, rfl, _⟩ := hu6.view; have hS6 := (HB.out.ext hb5).ext hb6; obtain ⟨⟨xa, h3a⟩, ⟨xb, h3b⟩, h3f, hnu, hsl⟩ := hS6.box))
   rw [← hga.out]
   refine bodyPost_ret (v := .tuple #[.agg #[.bool false, .slice ao7 (dig a).length cap7], .int .i64 0]) ?_ rfl ⟨_, rfl, ⟨_, rfl, ?_⟩, ?_⟩
   ·simp [results, Tryz.results190, go_sem, ↓IntWalk.iteOmega, h3a, h3b]
   ·exact Lim.box (Lim.box hu6 hnu) (NoU.set hnu (fun z e => by cases e))
   ·exact ((hS6.set (by omega) hLn (fun z e => by cases e)).set (by omega) hLn (fun z e => by cases e)).base
  ·have hl1 : 0 < (dig c).length := dig_pos.2 h0
   have hdv := w_divideA _ _ (dig a) (dig c) wr HA.out HC.out (dig_nz a) (dig_nz c) (by unfold Small at a1; omega) hl1
   have hmeas : lmeas wr (.slice ao5 (dig c).length cap5) = c := HC.out.meas
   clear p1 p4 p5 q1 q4 q5
   go_wp2_with (go_at_call 194; (with_reducible refine hdv.mono ?_); rintro e w4 ⟨y14, y15, qs, rs, rfl, hq, hr, nq, nr, hval, hlt, hb5⟩)
   obtain ⟨eq, er⟩ := div_dig hq.lb hr.lb nq nr hval hlt
   rw [er] at hr
   have hrc : a % c < c := Nat.mod_lt _ h0
   have hm2 : lmeas w4 y15 = a % c := hr.meas
   go_roundw
   case rel => exact ⟨c, a % c, c1, Nat.le_trans (dig_mono (Nat.le_of_lt hrc)) c1, (by rw [Nat.gcd_comm, ← Nat.gcd_rec, Nat.gcd_comm, hg.out] : _ = _), HC.out.ext hb5, hr, HB.out.ext hb5⟩
   case measure => rw [hm2, hmeas]; exact hrc
theorem z_Gcd (va vb : Value) (n : Int) (k : Nat) (w : World) (ha : Wid w va n) (hb0 : Nn w vb k) (hs : Sz n) (hs2 : Small k) :
    Calls Tryz.prog 190 #[va, vb] w fun e w' => ∃ u, e = .returned (.tuple #[u, .int .i64 0]) ∧ Nn w' u (Nat.gcd n.natAbs k) ∧ Ext w w' := by
 obtain ⟨u, rfl, hu⟩ := ha
 obtain ⟨s, rfl, hv⟩ := hb0
 exact z_GcdS _ _ (decide (n < 0)) n.natAbs k w ⟨u, rfl, hu⟩ ⟨s, rfl, hv⟩ hs hs2 (wid_s _ rfl)
theorem T_WO_1 {p : Prop} (h : p := by
 exact ⟨rfl, ex_⟩) : p := h
theorem w_to (va vb : Value) (m k : Nat) (w : World) (ha : Nn w va m) (hb0 : Nn w vb k) :
    Calls Tryz.prog 198 #[va, vb] w fun e w' => e = .returned (.int .i64 (cmpI m k)) ∧ Ext w w' := by
 obtain ⟨u, rfl, hu⟩ := ha
 obtain ⟨s, rfl, hv⟩ := hb0
 obtain ⟨ao, b1, o1, cap1, rfl, -⟩ := hu.view
 obtain ⟨bo, b2, o2, cap2, rfl, -⟩ := hv.view
 have hcm := fun w1 (k1 : Ext w w1) => w_compare _ _ (dig m) (dig k) w1 (hu.ext k1) (hv.ext k1) (dig_nz m) (dig_nz k)
 rw [dig_val, dig_val] at hcm
 go_enter Tryz.func198, Tryz.ntmps198
 go_wp2_with (go_at_call 236; (with_reducible refine (hcm _ ex_).mono ?_); rintro e w1 ⟨rfl, hb⟩)
 go_ret
 exact T_WO_1
theorem w_Cmp (va vb : Value) (m k : Nat) (w : World) (ha : Nn w va m) (hb0 : Nn w vb k) (hs : Small m) (hs2 : Small k) :
    Calls Tryz.prog 143 #[va, vb] w fun e w' => e = .returned (.tuple #[.int .i64 (cmpI m k), .int .i64 0]) ∧ Ext w w' := by
 obtain ⟨u, rfl, hu⟩ := ha
 obtain ⟨s, rfl, hv⟩ := hb0
 obtain ⟨ao, b1, o1, cap1, rfl, -⟩ := hu.view
 obtain ⟨bo, b2, o2, cap2, rfl, -⟩ := hv.view
 have hck := w_check_two ((w.alloc (.cells #[.bool false, .slice ao (dig m).length cap1] 159)).alloc (.cells #[.bool false, .slice bo (dig k).length cap2] 159)) _ _ m k ((hu.alloc _).alloc _) ((hv.alloc _).alloc _) hs hs2
 simp only [World.size_alloc] at hck
 have hto := fun w1 (k1 : Ext w w1) => w_to (.agg #[.bool false, .slice ao (dig m).length cap1]) (.agg #[.bool false, .slice bo (dig k).length cap2]) m k w1 ⟨_, rfl, hu.ext k1⟩ ⟨_, rfl, hv.ext k1⟩
 have hmf : ∀ (fn : Fn) (first cap : Array Value) (w : World), (Instr.makeFunc fn first cap).run Tryz.prog w = .ok (.func fn first cap) w := fun _ _ _ _ => rfl
 go_enter Tryz.func143, Tryz.ntmps143
 go_wp2_with (first
  | (go_at_call 193; (with_reducible refine hck.mono ?_); rintro e w1 ⟨rfl, hb⟩; obtain ⟨_, _, ⟨hc, hf⟩, hz⟩ := hb.c3; (try simp only [wsz] at hz hc hf))
  | (go_at_call 198; (with_reducible refine (hto _ ex_).mono ?_); rintro e w2 ⟨rfl, hb2⟩))
 go_ret2
 exact T_WO_1
theorem w_same (va vb : Value) (m k : Nat) (w : World) (ha : Nn w va m) (hb0 : Nn w vb k) (hs : Small m) (hs2 : Small k) :
    Calls Tryz.prog 191 #[va, vb] w fun e w' => e = .returned (.bool (decide (m = k))) ∧ Ext w w' := by
 have hq : (cmpI m k == 0) = decide (m = k) := by
  unfold cmpI
  by_cases h1 : (m : Int) < k
  ·rw [if_pos h1]; simp; omega
  ·rw [if_neg h1]
   by_cases h2 : (k : Int) < m
   ·rw [if_pos h2]; simp; omega
   ·rw [if_neg h2]; simp; omega
 generalize decide (m = k) = bb at hq ⊢
 obtain ⟨u, rfl, hu⟩ := ha
 obtain ⟨s, rfl, hv⟩ := hb0
 obtain ⟨ao, b1, o1, cap1, rfl, -⟩ := hu.view
 obtain ⟨bo, b2, o2, cap2, rfl, -⟩ := hv.view
 have hcp := fun w1 (k1 : Ext w w1) => w_Cmp (.agg #[.bool false, .slice ao (dig m).length cap1]) (.agg #[.bool false, .slice bo (dig k).length cap2]) m k w1 ⟨_, rfl, hu.ext k1⟩ ⟨_, rfl, hv.ext k1⟩ hs hs2
 go_enter Tryz.func191, Tryz.ntmps191
 go_wp2_with (go_at_call 143; (with_reducible refine (hcp _ ex_).mono ?_); rintro e w2 ⟨rfl, hb2⟩)
 go_ret
 exact T_WO_1
theorem w_want0 (w : World) : Calls Tryz.prog 185 #[.int .i64 0] w fun e w' => e = .returned (.tuple #[]) ∧ w' = w := by
 go_enter Tryz.func185, Tryz.ntmps185
 go_wp2
 go_end0
 exact ⟨rfl, rfl⟩
theorem w_zero (va : Value) (m : Nat) (w : World) (ha : Nn w va m) :
    Calls Tryz.prog 187 #[va] w fun e w' => e = .returned (.bool (decide (m = 0))) ∧ Ext w w' := by
 have hq : (((dig m).length : Int) == 0) = decide (m = 0) := by
  have := dig_pos (m := m)
  by_cases h : m = 0
  ·subst h; rfl
  ·have h1 := this.2 (by omega)
   simp [h]; intro e; rw [e] at h1; simp at h1
 generalize decide (m = 0) = bb at hq ⊢
 obtain ⟨u, rfl, hu⟩ := ha
 obtain ⟨ao, b1, o1, cap1, rfl, -⟩ := hu.view
 go_enter Tryz.func187, Tryz.ntmps187
 go_wp2
 go_ret
 exact T_WO_1
theorem w_one (w : World) : Calls Tryz.prog 192 #[] w fun e w' => ∃ u, e = .returned u ∧ Nn w' u 1 ∧ Ext w w' := by
 have hF : ∀ w, Calls Tryz.prog 138 #[.int .i64 1] w fun e w' => ∃ u, e = .returned u ∧ Nn w' u 1 ∧ Ext w w' := fun w => w_From 1 w (by decide)
 go_enter Tryz.func192, Tryz.ntmps192
 go_wp2_with (go_at_call 138; (with_reducible refine (hF _).mono ?_); rintro e w1 ⟨y1, rfl, ⟨y2, rfl, hu⟩, hb⟩; obtain ⟨ao, b1, o1, cap1, rfl, -⟩ := hu.view; obtain ⟨_, _, ⟨hc, hf⟩, hz⟩ := hb.c3; (try simp only [wsz] at hz hc hf))
 have hB : NoU w1 w.heap.size := (NoU.new w _ _ (noU2 (by simp) (by simp))).ext (by simp) hb
 refine bodyPost_ret (v := .agg #[.bool false, .slice ao (dig 1).length cap1]) ?_ rfl ⟨_, rfl, ⟨_, rfl, ?_⟩, ?_⟩
 ·simp [results, Tryz.results192, go_sem, ↓IntWalk.iteOmega, *]
 ·exact Lim.box (Lim.box hu hB) (NoU.set hB (fun z e => by cases e))
 ·exact b_6
theorem w_must0 (va : Value) (m : Nat) (w : World) (ha : Nn w va m) : Calls Tryz.prog 232 #[va, .int .i64 0] w fun e w' => e = .returned va ∧ Ext w w' := by
 obtain ⟨u, rfl, hu⟩ := ha
 obtain ⟨ao, b1, o1, cap1, rfl, -⟩ := hu.view
 go_enter Tryz.func232, Tryz.ntmps232
 go_wp2
 refine bodyPost_ret (v := .agg #[.bool false, .slice ao (dig m).length cap1]) ?_ rfl ⟨rfl, ?_⟩
 ·simp [results, Tryz.results232, go_sem, ↓IntWalk.iteOmega, *]
 ·exact b_6
def Fq (w : World) (v : Value) (p q : Nat) : Prop := ∃ u s, v = .agg #[.bool false, u, .bool false, s] ∧ Lim w u (dig p) ∧ Lim w s (dig q)
theorem Fq.ext {a w : World} {v : Value} {p q : Nat} (h : Fq a v p q) (k : Ext a w) : Fq w v p q := by
 obtain ⟨u, s, e, hu, hs⟩ := h; exact ⟨u, s, e, hu.ext k, hs.ext k⟩
theorem small1 : Small 1 := by unfold Small; decide
end Go.Proofs.YtbkgakgdbmjmjaaGreat
