/- The reference: differences of limbs.; The reference: differences.; The reference of trig: small functions. -/
import Derived.Test.YtogblocakccbgaaGreatJ00
import Derived.Test.YtogblocakccbgaaGreatJ21
import Derived.Test.YtogblocakccbgaaGreatJ11
import Derived.Test.YtogblocakccbgaaGreatJ25
import Derived.Test.YtogblocakccbgaaGreatJ22
import Derived.Test.YtogblocakccbgaaGreatJ23
import Derived.Test.YtogblocakccbgaaGreatJ07
import Derived.Test.YtogblocakccbgaaGreatJ29
import Derived.Test.YtogblocakccbgaaGreatJ24
set_option linter.unusedSimpArgs false
set_option linter.unusedVariables false
set_option maxRecDepth 100000
set_option maxHeartbeats 4000000
namespace Go.Proofs.YtogblocakccbgaaGreat
open Go.RowKit
theorem r_minus (va vb : Value) (X Y : List Int) (w : World) (ha : Lim w va X) (hb : Lim w vb Y) (hx : X.length ≤ 100000) (hle : Y.length ≤ X.length) (hv0 : val Y ≤ val X) :
    Calls Tryz.prog 206 #[va, vb] w fun e w' => ∃ u zs, e = .returned u ∧ Lim w' u zs ∧ val zs = val X - val Y ∧ Ext w w' := by
  obtain ⟨aoA, bA, oA, cA, rfl, a1, a2, a3, a4, a5, a6⟩ := ha.view
  obtain ⟨aoB, bB, oB, cB, rfl, b1, b2, b3, b4, b5, b6⟩ := hb.view
  have lA := ha.lb
  have lB := hb.lb
  obtain ⟨i0, hi, hz0, hz1, hz2⟩ := info_parts info81
  have hA0 : A32 w w.heap.size (.slice none 0 0) [] := A32.nil _ _
  clear a6 b6
  go_enter Tryz.func206, Tryz.ntmps206
  go_wp2_with fail
  go_loopw [5, 6, 7] (fun v c i wr => ∃ (k : Nat) (z : Int) (zs : List Int), k ≤ X.length ∧ c = .int .i64 z ∧ i = .int .i64 k ∧ 0 ≤ z ∧ z ≤ 1 ∧ zs.length = k ∧ Lb zs ∧ val zs - BB ^ k * z = val (X.take k) - val (Y.take k) ∧
      Hid (A32 wr w.heap.size v zs) ∧ Hid (Ext w wr)) (fun _ _ i _ => X.length - (intOf i).toNat)
  case atStart => exact ⟨0, 0, [], Nat.zero_le _, rfl, rfl, by decide, by decide, rfl, Lb.nil, by simp [val], hA0, Ext.refl w⟩
  case round =>
    obtain ⟨k, z, zs, hk, rfl, rfl, z0, z1, hzl, hzb, hv, HR, HE⟩ := hrel
    have hsz := HE.out.size
    have hk1 : k ≤ 100000 := by omega
    have hm1 : Hid (k + 1 ≤ maxLen) := (Nat.le_trans (Nat.succ_le_succ hk1) (by decide) : k + 1 ≤ maxLen)
    have hm2 : Hid ((k + 1) * 4 ≤ 140737488355328) := (Nat.le_trans (Nat.mul_le_mul_right 4 (Nat.succ_le_succ hk1)) (by decide) : (k + 1) * 4 ≤ 140737488355328)
    by_cases hkx : k < X.length
    · have eA := a1 (by omega)
      subst eA
      have hca := (HE.out.cells.1 _ (oA + k) (a4 (by omega))).trans (a5 k hkx)
      have hxk : U32 (X.getD k 0) := lA.getD k
      have hyk : U32 (Y.getD k 0) := lB.getD k
      obtain ⟨x, ex⟩ : ∃ x, X.getD k 0 = x := ⟨_, rfl⟩
      obtain ⟨y, ey⟩ : ∃ y, Y.getD k 0 = y := ⟨_, rfl⟩
      have hq := minus_step hv hzl ex ey
      rw [ex] at hca hxk
      rw [ey] at hyk
      unfold U32 at hxk hyk
      by_cases hky : k < Y.length
      · have eB := b1 (by omega)
        subst eB
        have hcb := (HE.out.cells.1 _ (oB + k) (b4 (by omega))).trans (b5 k hky)
        rw [ey] at hcb
        by_cases hn : x - y - z < 0
        · have hd : (x - z - y : Int) < 0 := by omega
          have e1 : (x - y - z) % 4294967296 = x - z - y + 4294967296 := by omega
          have e2 : -((x - y - z) / 4294967296) = 1 := by omega
          rw [e1, e2] at hq
          have hU : U32 (x - z - y + 4294967296) := by unfold U32; omega
          have hown : (wr.alloc (.cells #[.int .u32 (x - z - y + 4294967296)] 25)).ownsRow w.heap.size 25 1 u5 k (zs.map (Value.int .u32)) := by have := HR.out.alloc (.cells #[.int .u32 (x - z - y + 4294967296)] 25); unfold A32 at this; rw [hzl] at this; exact this
          replace hq : Hid _ := hq
          clear ex ey hv a5 b5 e1 e2
          go_wp2_with (at_builtin; refine wpList_append_own _ rfl _ _ 22 rfl w.heap.size 25 i0 (.int .u32 0) 1 4 Tryz.underlying22 hi hz0 hz1 hz2 rfl (by decide) _ _ _ rfl hown ⟨wr.heap.size, 0, none⟩ 1 1 [Value.int .u32 (x - z - y + 4294967296)] rfl rfl (cell_one_l _ _ _) c_30 hm1.out hm2.out c_29 ?_; intro v' w1 hown1 hgrow1 hnil)
          have hR1 : Hid (A32 w1 w.heap.size v' (zs ++ [x - z - y + 4294967296])) := A32.snoc hown1 hzl
          have hE1 : Hid (Ext w w1) := (own_ext (HE.out.alloc _) hown hgrow1 : Ext w w1)
          go_roundw
          case rel => exact ⟨k + 1, 1, zs ++ [x - z - y + 4294967296], by omega, rfl, by go_num, by decide, by decide, by simp [hzl], hzb.snoc hU, hq.out, hR1, hE1⟩
          case measure => simp [intOf]; omega
        · have hd : ¬ (x - z - y : Int) < 0 := by omega
          have e1 : (x - y - z) % 4294967296 = x - z - y := by omega
          have e2 : -((x - y - z) / 4294967296) = 0 := by omega
          rw [e1, e2] at hq
          have hU : U32 (x - z - y) := by unfold U32; omega
          have hown : (wr.alloc (.cells #[.int .u32 (x - z - y)] 25)).ownsRow w.heap.size 25 1 u5 k (zs.map (Value.int .u32)) := by have := HR.out.alloc (.cells #[.int .u32 (x - z - y)] 25); unfold A32 at this; rw [hzl] at this; exact this
          replace hq : Hid _ := hq
          clear ex ey hv a5 b5 e1 e2
          go_wp2_with (at_builtin; refine wpList_append_own _ rfl _ _ 22 rfl w.heap.size 25 i0 (.int .u32 0) 1 4 Tryz.underlying22 hi hz0 hz1 hz2 rfl (by decide) _ _ _ rfl hown ⟨wr.heap.size, 0, none⟩ 1 1 [Value.int .u32 (x - z - y)] rfl rfl (cell_one_l _ _ _) c_30 hm1.out hm2.out c_29 ?_; intro v' w1 hown1 hgrow1 hnil)
          have hR1 : Hid (A32 w1 w.heap.size v' (zs ++ [x - z - y])) := A32.snoc hown1 hzl
          have hE1 : Hid (Ext w w1) := (own_ext (HE.out.alloc _) hown hgrow1 : Ext w w1)
          go_roundw
          case rel => exact ⟨k + 1, 0, zs ++ [x - z - y], by omega, rfl, by go_num, by decide, by decide, by simp [hzl], hzb.snoc hU, hq.out, hR1, hE1⟩
          case measure => simp [intOf]; omega
      · have hy0 : y = 0 := by rw [← ey, List.getD_eq_getElem?_getD, List.getElem?_eq_none (by omega)]; rfl
        subst hy0
        by_cases hn : x - 0 - z < 0
        · have hd : (x - z : Int) < 0 := by omega
          have e1 : (x - 0 - z) % 4294967296 = x - z + 4294967296 := by omega
          have e2 : -((x - 0 - z) / 4294967296) = 1 := by omega
          rw [e1, e2] at hq
          have hU : U32 (x - z + 4294967296) := by unfold U32; omega
          have hown : (wr.alloc (.cells #[.int .u32 (x - z + 4294967296)] 25)).ownsRow w.heap.size 25 1 u5 k (zs.map (Value.int .u32)) := by have := HR.out.alloc (.cells #[.int .u32 (x - z + 4294967296)] 25); unfold A32 at this; rw [hzl] at this; exact this
          replace hq : Hid _ := hq
          clear ex ey hv a5 b5 e1 e2
          go_wp2_with (at_builtin; refine wpList_append_own _ rfl _ _ 22 rfl w.heap.size 25 i0 (.int .u32 0) 1 4 Tryz.underlying22 hi hz0 hz1 hz2 rfl (by decide) _ _ _ rfl hown ⟨wr.heap.size, 0, none⟩ 1 1 [Value.int .u32 (x - z + 4294967296)] rfl rfl (cell_one_l _ _ _) c_30 hm1.out hm2.out c_29 ?_; intro v' w1 hown1 hgrow1 hnil)
          have hR1 : Hid (A32 w1 w.heap.size v' (zs ++ [x - z + 4294967296])) := A32.snoc hown1 hzl
          have hE1 : Hid (Ext w w1) := (own_ext (HE.out.alloc _) hown hgrow1 : Ext w w1)
          go_roundw
          case rel => exact ⟨k + 1, 1, zs ++ [x - z + 4294967296], by omega, rfl, by go_num, by decide, by decide, by simp [hzl], hzb.snoc hU, hq.out, hR1, hE1⟩
          case measure => simp [intOf]; omega
        · have hd : ¬ (x - z : Int) < 0 := by omega
          have e1 : (x - 0 - z) % 4294967296 = x - z := by omega
          have e2 : -((x - 0 - z) / 4294967296) = 0 := by omega
          rw [e1, e2] at hq
          have hU : U32 (x - z) := by unfold U32; omega
          have hown : (wr.alloc (.cells #[.int .u32 (x - z)] 25)).ownsRow w.heap.size 25 1 u5 k (zs.map (Value.int .u32)) := by have := HR.out.alloc (.cells #[.int .u32 (x - z)] 25); unfold A32 at this; rw [hzl] at this; exact this
          replace hq : Hid _ := hq
          clear ex ey hv a5 b5 e1 e2
          go_wp2_with (at_builtin; refine wpList_append_own _ rfl _ _ 22 rfl w.heap.size 25 i0 (.int .u32 0) 1 4 Tryz.underlying22 hi hz0 hz1 hz2 rfl (by decide) _ _ _ rfl hown ⟨wr.heap.size, 0, none⟩ 1 1 [Value.int .u32 (x - z)] rfl rfl (cell_one_l _ _ _) c_30 hm1.out hm2.out c_29 ?_; intro v' w1 hown1 hgrow1 hnil)
          have hR1 : Hid (A32 w1 w.heap.size v' (zs ++ [x - z])) := A32.snoc hown1 hzl
          have hE1 : Hid (Ext w w1) := (own_ext (HE.out.alloc _) hown hgrow1 : Ext w w1)
          go_roundw
          case rel => exact ⟨k + 1, 0, zs ++ [x - z], by omega, rfl, by go_num, by decide, by decide, by simp [hzl], hzb.snoc hU, hq.out, hR1, hE1⟩
          case measure => simp [intOf]; omega
    · have hkl : k = X.length := by omega
      subst hkl
      have hvv : val zs = val X - val Y := by
        rw [List.take_length, List.take_of_length_le hle] at hv
        have hlt := val_lt hzb
        rw [hzl] at hlt
        rcases (by omega : z = 0 ∨ z = 1) with rfl | rfl <;> omega
      have hL := HR.out.lim hzb (by omega)
      have htr := r_trim _ zs wr hL
      clear hv a5 b5
      go_wp2_with (go_at_call 117; (with_reducible refine htr.mono ?_); rintro e w1 ⟨y1, rfl, hy1, hb1⟩)
      go_ret
      exact ⟨_, trimL zs, rfl, hy1, by rw [val_trim]; exact hvv, HE.out.trans hb1⟩
theorem T_RSU_1 {p : Prop} (h : p := by
 intro w0 hSw; have q0 := BX.get hSw 0 rfl; have q1 := BX.get hSw 1 rfl; have q2 := BX.get hSw 2 rfl; have q3 := BX.get hSw 3 rfl; go_simp; try with_reducible rfl) : p := h
theorem r_sumFTg (va vb : Value) (m k : Nat) (w : World) (ha : Sm w va false m) (hb0 : Sm w vb true k) (hs : Small m) (hs2 : Small k) (hs3 : Small ((m - k))) (hkm : k ≤ m) :
    Calls Tryz.prog 184 #[va, vb] w fun e w' => ∃ u, e = .returned (.tuple #[u, .int .i64 0]) ∧ Wid w' u (sg false ((m - k))) ∧ Ext w w' := by
 obtain ⟨u, rfl, hu⟩ := ha
 obtain ⟨s, rfl, hv⟩ := hb0
 obtain ⟨ao, b1, o1, cap1, rfl, v1, v2, v3, v4, v5, v6⟩ := hu.view
 obtain ⟨bo, b2, o2, cap2, rfl, y1, y2, y3, y4, y5, y6⟩ := hv.view
 have hlen : (dig m).length ≤ 100000 ∧ (dig k).length ≤ 100000 := by unfold Small at hs hs2; omega
 obtain ⟨W3, hW3⟩ : ∃ W3, ((w.alloc (.cells #[.bool false, .slice ao (dig m).length cap1] 24)).alloc (.cells #[.bool true, .slice bo (dig k).length cap2] 24)).alloc (.cells #[.bool false, .slice none 0 0] 24) = W3 := ⟨_, rfl⟩
 have hWs : W3.heap.size = w.heap.size + 1 + 1 + 1 := by rw [← hW3]; simp
 have hEW : Ext w W3 := by rw [← hW3]; exact (((Ext.refl w).alloc _).alloc _).alloc _
 have hS : BX w (w.heap.size + 1 + 1) [(w.heap.size, 0, .bool false), (w.heap.size, 1, .slice ao (dig m).length cap1), (w.heap.size + 1, 0, .bool true), (w.heap.size + 1, 1, .slice bo (dig k).length cap2)] W3 := by
  rw [← hW3]
  refine ⟨hW3 ▸ hEW, ?_, ?_, ?_, ?_, ?_, by simp⟩
  ·intro p hp
   simp only [List.mem_cons, List.mem_nil_iff, or_false] at hp
   rcases hp with rfl | rfl | rfl | rfl <;> simp [go_sem, ↓IntWalk.iteOmega]
  ·exact ⟨.bool false, by simp [go_sem, ↓IntWalk.iteOmega]⟩
  ·exact ⟨.slice none 0 0, by simp [go_sem, ↓IntWalk.iteOmega]⟩
  ·intro o; simp [go_sem, ↓IntWalk.iteOmega]
  ·have := NoU.new ((w.alloc (.cells #[.bool false, .slice ao (dig m).length cap1] 24)).alloc (.cells #[.bool true, .slice bo (dig k).length cap2] 24)) #[.bool false, .slice none 0 0] 24 (noU2 (by simp) (by simp))
   simpa using this
 have hLn : ∀ p ∈ ([(w.heap.size, 0, .bool false), (w.heap.size, 1, .slice ao (dig m).length cap1), (w.heap.size + 1, 0, .bool true), (w.heap.size + 1, 1, .slice bo (dig k).length cap2)] : List (Nat × Nat × Value)), p.1 ≠ w.heap.size + 1 + 1 := by
  intro p hp
  simp only [List.mem_cons, List.mem_nil_iff, or_false] at hp
  rcases hp with rfl | rfl | rfl | rfl <;> (dsimp only; omega)
 have hcm := r_compare _ _ _ _ W3 (hu.ext hEW) (hv.ext hEW) (dig_nz m) (dig_nz k)
 rw [dig_val, dig_val] at hcm
 have hcg : decide ((0 : Int) ≤ cmpI m k) = true := by
  unfold cmpI
  rw [if_neg (by omega)]
  split <;> rfl
 have hlk : (dig k).length ≤ (dig m).length := dig_mono hkm
 have hvk : val (dig k) ≤ val (dig m) := by rw [dig_val, dig_val]; omega
 generalize cmpI m k = R at hcm hcg
 subst hW3
 clear v1 v4 v5 y1 y4 y5 hWs
 go_enter Tryz.func184, Tryz.ntmps184
 have hs4 : (dig ((m - k))).length ≤ 4096 := hs3
 go_upto_region 4 with (go_at_call 128; (with_reducible refine hcm.mono ?_); rintro e w1 ⟨rfl, hb⟩; have q0 := BX.get (hS.ext hb) 0 rfl; have q2 := BX.get (hS.ext hb) 2 rfl)
 have hS0 := hS.ext hb
 clear hS hb
 refine wp_region_held_drew (S := (fun w0 => BX w (w.heap.size + 1 + 1) [(w.heap.size, 0, .bool false), (w.heap.size, 1, .slice ao (dig m).length cap1), (w.heap.size + 1, 0, .bool true), (w.heap.size + 1, 1, .slice bo (dig k).length cap2)] w0)) c_4 ?_ (fun hH => ?_)
 ·exact hS0.drew
 try simp only [sx_]
 refine tk 0 rfl c_0 ?_
 try simp only [sx_]
 refine tk (v := ?_) 1 rfl ?_ ?_
 rotate_left
 ·exact T_RSU_1
 try simp only [sx_]
 refine tk 2 rfl c_0 ?_
 try simp only [sx_]
 refine tk (v := ?_) 3 rfl ?_ ?_
 rotate_left
 ·exact T_RSU_1
 try simp only [sx_]
 refine tk 4 rfl c_0 ?_
 try simp only [sx_]
 refine tk (v := ?_) 5 rfl ?_ ?_
 rotate_left
 ·exact T_RSU_1
 try simp only [sx_]
 refine wpAnyH_ready (rs := [6]) c_4 (by simp) ?_
 refine rd1 rfl fun K hK => ?_
 go_simp
 (go_at_call 206; (with_reducible refine (r_minus _ _ _ _ _ (hu.ext hH.base) (hv.ext hH.base) hlen.1 hlk hvk).mono ?_); rintro e t2 ⟨s2, zs, rfl, hz2, hval, hx2⟩; obtain ⟨ao2, bb2, oo2, cc2, rfl, _⟩ := hz2.view)
 have hv2 : val zs = (((m - k) : Nat) : Int) := by rw [hval, dig_val, dig_val]; exact (Int.ofNat_sub hkm).symm
 refine hK.out _ _ ?_ (fun hN => ?_)
 ·(try dsimp only); exact hH.ext hx2
 clear hK K hH
 have hH := hN
 clear hN
 try simp only [sx_]
 refine wpAnyH_ready (rs := [7]) c_4 (by simp) ?_
 refine rd1 rfl fun K hK => ?_
 go_simp
 (go_at_call 59; (with_reducible refine (r_madeS false _ _ (m - k) _ hz2 hv2 hs4).mono ?_); rintro e t3 ⟨s3, bo3, rfl, hz3, hbo3, hx3⟩; obtain ⟨ao3, bb3, oo3, cc3, rfl, _⟩ := hz3.view)
 refine hK.out _ _ ?_ (fun hN => ?_)
 ·(try dsimp only); exact hH.ext hx3
 clear hK K hH
 have hH := hN
 clear hN
 try simp only [sx_]
 refine tk 8 rfl c_0 ?_
 try simp only [sx_]
 refine tk 9 rfl c_0 ?_
 try simp only [sx_]
 refine wpAnyH_ready (rs := [10]) c_4 (by simp) ?_
 refine rd1 rfl fun K hK => ?_
 obtain ⟨⟨xa, h3a⟩, ⟨xb, h3b⟩, h3f, hnu, hsl⟩ := hH.box
 go_simp
 refine hK.out _ _ ?_ (fun hN => ?_)
 ·(try dsimp only); exact (hH.set (by omega) hLn (fun z e => by cases e)).set (by omega) hLn (fun z e => by cases e)
 clear hK K hH
 have hH := hN
 clear hN
 try simp only [sx_]
 refine tk 11 rfl c_0 ?_
 try simp only [sx_]
 refine wpAnyH_done c_4 ?_ _
 go_wp2_with fail
 refine bodyPost_ret (v := .tuple #[.agg #[.bool bo3, .slice ao3 (dig (m - k)).length cc3], .int .i64 0]) ?_ rfl ⟨_, rfl, Wid.mk' (Lim.box (Lim.box hz3 hnu) (NoU.set hnu (fun z e => by cases e))) hbo3, ?_⟩
 ·simp [results, Tryz.results184, go_sem, ↓IntWalk.iteOmega, h3a, h3b] <;> first | exact hbo3.symm | simp [hbo3]
 ·exact hH.base
theorem r_Sub (va vb : Value) (m k : Nat) (w : World) (ha : Nn w va m) (hb0 : Nn w vb k) (hs : Small m) (hs2 : Small k) (hkm : k ≤ m) :
    Calls Tryz.prog 182 #[va, vb] w fun e w' => ∃ u, e = .returned (.tuple #[u, .int .i64 0]) ∧ Nn w' u (m - k) ∧ Ext w w' := by
 have hbo := fun w1 (k1 : Ext w w1) => r_both va vb m k w1 (ha.ext k1) (hb0.ext k1) hs hs2
 have hs3 : Small (m - k) := Small.le hs (Nat.sub_le _ _)
 obtain ⟨u, rfl, hu⟩ := ha
 obtain ⟨s, rfl, hv⟩ := hb0
 obtain ⟨ao, b1, o1, cap1, rfl, -⟩ := hu.view
 obtain ⟨bo, b2, o2, cap2, rfl, -⟩ := hv.view
 rcases Nat.eq_zero_or_pos k with h0 | h0
 ·subst h0
  have hl0 : (dig 0).length = 0 := rfl
  have hsm := fun w1 (k1 : Ext w w1) => r_sum (.agg #[.bool false, .slice ao (dig m).length cap1]) (.agg #[.bool false, .slice bo (dig 0).length cap2]) m 0 w1 ⟨_, rfl, hu.ext k1⟩ ⟨_, rfl, hv.ext k1⟩ hs hs2 (by simpa using hs)
  rw [Nat.add_zero] at hsm
  rw [Nat.sub_zero]
  rw [hl0] at hsm hbo ⊢
  generalize (dig m).length = la at hsm hbo ⊢
  clear hu hv
  go_enter Tryz.func182, Tryz.ntmps182
  go_wp2_with (first
   | (go_at_call 183; (with_reducible refine (hbo _ ex_).mono ?_); rintro e w1 ⟨rfl, hb⟩; obtain ⟨_, _, hc, hf⟩ := hb.cells2; have hz := hb.size; (try simp only [wsz] at hz hc hf))
   | (go_at_call 184; (with_reducible refine (hsm _ ex_).mono ?_); rintro e w2 ⟨y1, rfl, ⟨y2, rfl, hx⟩, hb2⟩; obtain ⟨xo, _, _, xc, rfl, -⟩ := hx.view; obtain ⟨_, _, hc2, hf2⟩ := hb2.cells2; have hz2 := hb2.size; (try simp only [wsz] at hz2 hc2 hf2)))
  have hE2 : Ext (((w.alloc (.cells #[.bool false, .slice ao la cap1] 24)).alloc (.cells #[.bool false, .slice bo 0 cap2] 24)).alloc (.cells #[.bool false, .slice none 0 0] 24)) w2 := ex_
  have hnu : NoU w2 (w.heap.size + 1 + 1) := by
   have h9 := NoU.new ((w.alloc (.cells #[.bool false, .slice ao la cap1] 24)).alloc (.cells #[.bool false, .slice bo 0 cap2] 24)) #[.bool false, .slice none 0 0] 24 (noU2 (by simp) (by simp))
   simp only [World.size_alloc] at h9
   exact h9.ext (by simp) hE2
  refine bodyPost_ret (v := .tuple #[.agg #[.bool false, .slice xo (dig m).length xc], .int .i64 0]) ?_ rfl ⟨_, rfl, ⟨_, rfl, ?_⟩, ?_⟩
  ·simp [results, Tryz.results182, go_sem, ↓IntWalk.iteOmega, *]
  ·exact Lim.box (Lim.box hx hnu) (NoU.set hnu (fun z e => by cases e))
  ·exact ex_
 ·have hpos := dig_pos.2 h0
  have hsm := fun w1 (k1 : Ext w w1) => r_sumFTg (.agg #[.bool false, .slice ao (dig m).length cap1]) (.agg #[.bool true, .slice bo (dig k).length cap2]) m k w1 ⟨_, rfl, hu.ext k1⟩ ⟨_, rfl, hv.ext k1⟩ hs hs2 hs3 hkm
  have hsg : sg false (m - k) = ((m - k : Nat) : Int) := by simp [sg]
  rw [hsg] at hsm
  generalize m - k = R at hsm ⊢
  have hp1 : decide ((0 : Int) < ((dig k).length : Int)) = true := decide_eq_true (by omega)
  have hp2 : decide (0 < (dig k).length) = true := decide_eq_true hpos
  generalize (dig m).length = la at hsm hbo ⊢
  generalize (dig k).length = lb at hsm hbo hp1 hp2 ⊢
  clear hu hv hpos
  go_enter Tryz.func182, Tryz.ntmps182
  go_wp2_with (first
   | (go_at_call 183; (with_reducible refine (hbo _ ex_).mono ?_); rintro e w1 ⟨rfl, hb⟩; obtain ⟨_, _, hc, hf⟩ := hb.cells2; have hz := hb.size; (try simp only [wsz] at hz hc hf))
   | (go_at_call 184; go_loud ((with_reducible refine (hsm _ ex_).mono ?_); rintro e w2 ⟨y1, rfl, hy1, hb2⟩; obtain ⟨y2, rfl, hx⟩ := hy1.nat; obtain ⟨xo, _, _, xc, rfl, -⟩ := hx.view; obtain ⟨_, _, hc2, hf2⟩ := hb2.cells2; have hz2 := hb2.size; (try simp only [wsz] at hz2 hc2 hf2))))
  have hE2 : Ext (((w.alloc (.cells #[.bool false, .slice ao la cap1] 24)).alloc (.cells #[.bool false, .slice bo lb cap2] 24)).alloc (.cells #[.bool false, .slice none 0 0] 24)) w2 := ex_
  have hnu : NoU w2 (w.heap.size + 1 + 1) := by
   have h9 := NoU.new ((w.alloc (.cells #[.bool false, .slice ao la cap1] 24)).alloc (.cells #[.bool false, .slice bo lb cap2] 24)) #[.bool false, .slice none 0 0] 24 (noU2 (by simp) (by simp))
   simp only [World.size_alloc] at h9
   exact h9.ext (by simp) hE2
  refine bodyPost_ret (v := .tuple #[.agg #[.bool false, .slice xo (dig R).length xc], .int .i64 0]) ?_ rfl ⟨_, rfl, ⟨_, rfl, ?_⟩, ?_⟩
  ·simp [results, Tryz.results182, go_sem, ↓IntWalk.iteOmega, *]
  ·exact Lim.box (Lim.box hx hnu) (NoU.set hnu (fun z e => by cases e))
  ·exact ex_
theorem T_RAS_2 {p : Prop} (h : p := by
 exact Lim.box (Lim.box (hx.ext (by repeat (first | with_reducible exact Ext.refl _ | with_reducible refine Ext.alloc ?_ _))) hnu) (NoU.set hnu (fun z e => by cases e))) : p := h
theorem T_RAS_1 {p : Prop} (h : p := by
 have h0 := NoU.new ((w.alloc (.cells #[.bool false, .slice ao (dig m).length cap1] 24)).alloc (.cells #[.bool false, .slice bo (dig k).length cap2] 24)) #[.bool false, .slice none 0 0] 24 (noU2 (by simp) (by simp))
 simp only [World.size_alloc] at h0
 exact h0.ext (by simp) (ex_ : Ext (((w.alloc (.cells #[.bool false, .slice ao (dig m).length cap1] 24)).alloc (.cells #[.bool false, .slice bo (dig k).length cap2] 24)).alloc (.cells #[.bool false, .slice none 0 0] 24)) (w1.alloc (.cells #[.bool false, .slice xo (dig R).length xc] 24)))) : p := h
theorem q_from (n : Nat) (w : World) (hn : n < 9223372036854775808) : Calls Tryz.prog 74 #[.int .i64 n] w fun e w' => ∃ u, e = .returned u ∧ Nn w' u n ∧ Ext w w' := by
 go_enter Tryz.func74, Tryz.ntmps74
 go_wp2_with (go_at_call 23; (with_reducible refine (r_From n _ hn).mono ?_); rintro e w1 ⟨y1, rfl, ⟨y2, rfl, hu⟩, hb⟩; obtain ⟨ao, b1, o1, cap1, rfl, -⟩ := hu.view; obtain ⟨_, _, hc, hf⟩ := hb.cells2; have hz := hb.size; (try simp only [wsz] at hz hc hf))
 have hB : NoU w1 w.heap.size := (NoU.new w _ _ (noU2 (by simp) (by simp))).ext (by simp) hb
 refine bodyPost_ret (v := .agg #[.bool false, .slice ao (dig n).length cap1]) ?_ rfl ⟨_, rfl, ⟨_, rfl, ?_⟩, ?_⟩
 ·simp [results, Tryz.results74, go_sem, ↓IntWalk.iteOmega, *]
 ·exact Lim.box (Lim.box hu hB) (NoU.set hB (fun z e => by cases e))
 ·exact ex_
theorem q_mul (va vb : Value) (m k : Nat) (w : World) (ha : Nn w va m) (hb0 : Nn w vb k) (hs : Small m) (hs2 : Small k) (hs3 : Small (m * k)) : Calls Tryz.prog 73 #[va, vb] w fun e w' => ∃ u, e = .returned u ∧ Nn w' u (m * k) ∧ Ext w w' := by
 obtain ⟨u, rfl, hu⟩ := ha
 obtain ⟨s, rfl, hv⟩ := hb0
 obtain ⟨ao, b1, o1, cap1, rfl, -⟩ := hu.view
 obtain ⟨bo, b2, o2, cap2, rfl, -⟩ := hv.view
 have hm := fun w1 (k1 : Ext w w1) => r_Mul (.agg #[.bool false, .slice ao (dig m).length cap1]) (.agg #[.bool false, .slice bo (dig k).length cap2]) m k w1 ⟨_, rfl, hu.ext k1⟩ ⟨_, rfl, hv.ext k1⟩ hs hs2 hs3
 obtain ⟨R, hR⟩ : ∃ R, m * k = R := ⟨_, rfl⟩
 rw [hR] at hm ⊢
 clear hR
 go_enter Tryz.func73, Tryz.ntmps73
 go_wp2_with (go_at_call 135; (with_reducible refine (hm _ ex_).mono ?_); rintro e w1 ⟨y1, rfl, ⟨y2, rfl, hx⟩, hb1⟩; obtain ⟨xo, _, _, xc, rfl, -⟩ := hx.view; obtain ⟨_, _, hc1, hf1⟩ := hb1.cells2; have hz1 := hb1.size; (try simp only [wsz] at hz1 hc1 hf1))
 have hnu : NoU (w1.alloc (.cells #[.bool false, .slice xo (dig R).length xc] 24)) (w.heap.size + 1 + 1) := by
  exact T_RAS_1
 refine bodyPost_ret (v := .agg #[.bool false, .slice xo (dig R).length xc]) ?_ rfl ⟨_, rfl, ⟨_, rfl, ?_⟩, ?_⟩
 ·simp [results, Tryz.results73, go_sem, ↓IntWalk.iteOmega, *]
 ·exact T_RAS_2
 ·exact ex_
theorem q_over (va vb : Value) (m k : Nat) (w : World) (ha : Nn w va m) (hb0 : Nn w vb k) (hs : Small m) (hs2 : Small k) (hk0 : 0 < k) : Calls Tryz.prog 72 #[va, vb] w fun e w' => ∃ u, e = .returned u ∧ Nn w' u (m / k) ∧ Ext w w' := by
 obtain ⟨u, rfl, hu⟩ := ha
 obtain ⟨s, rfl, hv⟩ := hb0
 obtain ⟨ao, b1, o1, cap1, rfl, -⟩ := hu.view
 obtain ⟨bo, b2, o2, cap2, rfl, -⟩ := hv.view
 have hm := fun w1 (k1 : Ext w w1) => r_DivMod (.agg #[.bool false, .slice ao (dig m).length cap1]) (.agg #[.bool false, .slice bo (dig k).length cap2]) m k w1 ⟨_, rfl, hu.ext k1⟩ ⟨_, rfl, hv.ext k1⟩ hs hk0 hs2
 obtain ⟨R, hR⟩ : ∃ R, m / k = R := ⟨_, rfl⟩
 rw [hR] at hm ⊢
 clear hR
 go_enter Tryz.func72, Tryz.ntmps72
 go_wp2_with (go_at_call 134; (with_reducible refine (hm _ ex_).mono ?_); rintro e w1 ⟨y1, y3, rfl, ⟨y2, rfl, hx⟩, ⟨y4, rfl, hy⟩, hb1⟩; obtain ⟨xo, _, _, xc, rfl, -⟩ := hx.view; obtain ⟨yo, _, _, yc, rfl, -⟩ := hy.view; obtain ⟨_, _, hc1, hf1⟩ := hb1.cells2; have hz1 := hb1.size; (try simp only [wsz] at hz1 hc1 hf1))
 have hnu : NoU ((w1.alloc (.cells #[.bool false, .slice xo (dig R).length xc] 24)).alloc (.cells #[.bool false, .slice yo (dig (m % k)).length yc] 24)) (w.heap.size + 1 + 1) := by
  have h0 := NoU.new ((w.alloc (.cells #[.bool false, .slice ao (dig m).length cap1] 24)).alloc (.cells #[.bool false, .slice bo (dig k).length cap2] 24)) #[.bool false, .slice none 0 0] 24 (noU2 (by simp) (by simp))
  simp only [World.size_alloc] at h0
  exact h0.ext (by simp) (ex_ : Ext (((w.alloc (.cells #[.bool false, .slice ao (dig m).length cap1] 24)).alloc (.cells #[.bool false, .slice bo (dig k).length cap2] 24)).alloc (.cells #[.bool false, .slice none 0 0] 24)) ((w1.alloc (.cells #[.bool false, .slice xo (dig R).length xc] 24)).alloc (.cells #[.bool false, .slice yo (dig (m % k)).length yc] 24)))
 refine bodyPost_ret (v := .agg #[.bool false, .slice xo (dig R).length xc]) ?_ rfl ⟨_, rfl, ⟨_, rfl, ?_⟩, ?_⟩
 ·simp [results, Tryz.results72, go_sem, ↓IntWalk.iteOmega, *]
 ·exact T_RAS_2
 ·exact ex_
theorem q_add (va vb : Value) (m k : Nat) (w : World) (ha : Nn w va m) (hb0 : Nn w vb k) (hs : Small m) (hs2 : Small k) (hs3 : Small (m + k)) : Calls Tryz.prog 75 #[va, vb] w fun e w' => ∃ u, e = .returned u ∧ Nn w' u (m + k) ∧ Ext w w' := by
 obtain ⟨u, rfl, hu⟩ := ha
 obtain ⟨s, rfl, hv⟩ := hb0
 obtain ⟨ao, b1, o1, cap1, rfl, -⟩ := hu.view
 obtain ⟨bo, b2, o2, cap2, rfl, -⟩ := hv.view
 have hm := fun w1 (k1 : Ext w w1) => r_Add (.agg #[.bool false, .slice ao (dig m).length cap1]) (.agg #[.bool false, .slice bo (dig k).length cap2]) m k w1 ⟨_, rfl, hu.ext k1⟩ ⟨_, rfl, hv.ext k1⟩ hs hs2 hs3
 obtain ⟨R, hR⟩ : ∃ R, m + k = R := ⟨_, rfl⟩
 rw [hR] at hm ⊢
 clear hR
 go_enter Tryz.func75, Tryz.ntmps75
 go_wp2_with (go_at_call 136; (with_reducible refine (hm _ ex_).mono ?_); rintro e w1 ⟨y1, rfl, ⟨y2, rfl, hx⟩, hb1⟩; obtain ⟨xo, _, _, xc, rfl, -⟩ := hx.view; obtain ⟨_, _, hc1, hf1⟩ := hb1.cells2; have hz1 := hb1.size; (try simp only [wsz] at hz1 hc1 hf1))
 have hnu : NoU (w1.alloc (.cells #[.bool false, .slice xo (dig R).length xc] 24)) (w.heap.size + 1 + 1) := by
  exact T_RAS_1
 refine bodyPost_ret (v := .agg #[.bool false, .slice xo (dig R).length xc]) ?_ rfl ⟨_, rfl, ⟨_, rfl, ?_⟩, ?_⟩
 ·simp [results, Tryz.results75, go_sem, ↓IntWalk.iteOmega, *]
 ·exact T_RAS_2
 ·exact ex_
theorem q_sub (va vb : Value) (m k : Nat) (w : World) (ha : Nn w va m) (hb0 : Nn w vb k) (hs : Small m) (hs2 : Small k) (hkm : k ≤ m) : Calls Tryz.prog 130 #[va, vb] w fun e w' => ∃ u, e = .returned u ∧ Nn w' u (m - k) ∧ Ext w w' := by
 obtain ⟨u, rfl, hu⟩ := ha
 obtain ⟨s, rfl, hv⟩ := hb0
 obtain ⟨ao, b1, o1, cap1, rfl, -⟩ := hu.view
 obtain ⟨bo, b2, o2, cap2, rfl, -⟩ := hv.view
 have hm := fun w1 (k1 : Ext w w1) => r_Sub (.agg #[.bool false, .slice ao (dig m).length cap1]) (.agg #[.bool false, .slice bo (dig k).length cap2]) m k w1 ⟨_, rfl, hu.ext k1⟩ ⟨_, rfl, hv.ext k1⟩ hs hs2 hkm
 obtain ⟨R, hR⟩ : ∃ R, m - k = R := ⟨_, rfl⟩
 rw [hR] at hm ⊢
 clear hR
 go_enter Tryz.func130, Tryz.ntmps130
 go_wp2_with (go_at_call 182; (with_reducible refine (hm _ ex_).mono ?_); rintro e w1 ⟨y1, rfl, ⟨y2, rfl, hx⟩, hb1⟩; obtain ⟨xo, _, _, xc, rfl, -⟩ := hx.view; obtain ⟨_, _, hc1, hf1⟩ := hb1.cells2; have hz1 := hb1.size; (try simp only [wsz] at hz1 hc1 hf1))
 have hnu : NoU (w1.alloc (.cells #[.bool false, .slice xo (dig R).length xc] 24)) (w.heap.size + 1 + 1) := by
  exact T_RAS_1
 refine bodyPost_ret (v := .agg #[.bool false, .slice xo (dig R).length xc]) ?_ rfl ⟨_, rfl, ⟨_, rfl, ?_⟩, ?_⟩
 ·simp [results, Tryz.results130, go_sem, ↓IntWalk.iteOmega, *]
 ·exact T_RAS_2
 ·exact ex_
theorem q_down (va : Value) (n : Int) (k : Nat) (w : World) (ha : Wid w va n) (hs : Sz n) (hk0 : 0 < k) (hk : k ≤ 131072) :
    Calls Tryz.prog 68 #[va, .int .i64 (k : Int)] w fun e w' => ∃ u, e = .returned u ∧ Wid w' u (n / 2 ^ k) ∧ Ext w w' := by
 obtain ⟨u, rfl, hu⟩ := ha
 obtain ⟨ao, b1, o1, cap1, rfl, -⟩ := hu.view
 have hm := fun w1 (k1 : Ext w w1) => r_ShiftD (.agg #[.bool (decide (n < 0)), .slice ao (dig n.natAbs).length cap1]) n k w1 ⟨_, rfl, hu.ext k1⟩ hs hk0 hk
 generalize n / 2 ^ k = R at hm ⊢
 generalize decide (n < 0) = sa at hm ⊢
 generalize (dig n.natAbs).length = la at hm ⊢
 clear hu
 go_enter Tryz.func68, Tryz.ntmps68
 go_wp2_with (go_at_call 127; (with_reducible refine (hm _ ex_).mono ?_); rintro e w1 ⟨y1, rfl, ⟨y2, rfl, hx⟩, hb1⟩; obtain ⟨xo, _, _, xc, rfl, -⟩ := hx.view; obtain ⟨_, _, hc1, hf1⟩ := hb1.cells2; have hz1 := hb1.size; (try simp only [wsz] at hz1 hc1 hf1))
 have hnu : NoU w1 (w.heap.size + 1) := by
  have h0 := NoU.new (w.alloc (.cells #[.bool sa, .slice ao la cap1] 24)) #[.bool false, .slice none 0 0] 24 (noU2 (by simp) (by simp))
  simp only [World.size_alloc] at h0
  exact h0.ext (by simp) hb1
 have hsz : w.heap.size + 1 < w1.heap.size := by omega
 refine bodyPost_ret (v := .agg #[.bool (decide (R < 0)), .slice xo (dig R.natAbs).length xc]) ?_ rfl ⟨_, rfl, ⟨_, rfl, ?_⟩, ?_⟩
 ·simp [results, Tryz.results68, go_sem, ↓IntWalk.iteOmega, *]
 ·repeat (first | with_reducible exact hx | with_reducible refine Lim.box ?_ ?_ | with_reducible refine NoU.set ?_ (fun z e => by cases e) | with_reducible exact hnu | with_reducible refine NoU.alloc ?_ c_37 _ _ | with_reducible refine Lim.alloc ?_ _)
 ·exact ex_
theorem q_power (k : Nat) (w : World) (hk : k ≤ 131000) (hs : Small (2 ^ k)) :
    Calls Tryz.prog 132 #[.int .i64 (k : Int)] w fun e w' => ∃ u, e = .returned u ∧ Nn w' u (2 ^ k) ∧ Ext w w' := by
 have hpw : (1 : Int) * 2 ^ k = ((2 ^ k : Nat) : Int) := by rw [Int.one_mul, Int.natCast_pow]; rfl
 have hf : ∀ w, Calls Tryz.prog 74 #[.int .i64 1] w fun e w' => ∃ u, e = .returned u ∧ Nn w' u 1 ∧ Ext w w' := fun w => q_from 1 w (by decide)
 have hm := fun v w1 (h : Nn w1 v 1) => r_ShiftU v 1 k w1 (h.wid) (small_bits (k := 1) (by decide) (by decide)) (by omega) (by rw [hpw]; unfold Sz; rw [Int.natAbs_natCast]; exact hs)
 rw [hpw] at hm
 clear hpw
 generalize 2 ^ k = R at hm ⊢
 have hkk : 0 ≤ (k : Int) ∧ (k : Int) ≤ 131000 := by omega
 generalize (k : Int) = K at hm hkk ⊢
 go_enter Tryz.func132, Tryz.ntmps132
 go_wp2_with (first
  | (go_at_call 74; (with_reducible refine (hf _).mono ?_); rintro e w3 ⟨y3, rfl, hy3, hb3⟩; obtain ⟨_, _, hc3, hf3⟩ := hb3.cells2; have hz3 := hb3.size; (try simp only [wsz] at hz3 hc3 hf3))
  | (go_at_call 127; (with_reducible refine (hm _ _ hy3).mono ?_); rintro e w1 ⟨y1, rfl, hy1, hb1⟩; obtain ⟨y2, rfl, hx⟩ := hy1.nat; obtain ⟨xo, _, _, xc, rfl, -⟩ := hx.view; obtain ⟨_, _, hc1, hf1⟩ := hb1.cells2; have hz1 := hb1.size; (try simp only [wsz] at hz1 hc1 hf1)))
 have hE1 : Ext (w.alloc (.cells #[.bool false, .slice none 0 0] 24)) w1 := ex_
 have hnu : NoU w1 (w.heap.size) := (NoU.new w #[.bool false, .slice none 0 0] 24 (noU2 (by simp) (by simp))).ext (by simp) hE1
 have hsz : w.heap.size < w1.heap.size := by have := hE1.size; rw [World.size_alloc] at this; omega
 refine bodyPost_ret (v := .agg #[.bool false, .slice xo (dig R).length xc]) ?_ rfl ⟨_, rfl, ⟨_, rfl, ?_⟩, ?_⟩
 ·simp [results, Tryz.results132, go_sem, ↓IntWalk.iteOmega, *]
 ·repeat (first | with_reducible exact hx | with_reducible refine Lim.box ?_ ?_ | with_reducible refine NoU.set ?_ (fun z e => by cases e) | with_reducible exact hnu | with_reducible refine NoU.alloc ?_ c_37 _ _ | with_reducible refine Lim.alloc ?_ _)
 ·exact ex_
theorem q_up (va : Value) (n : Int) (k : Nat) (w : World) (ha : Wid w va n) (hs : Sz n) (hk0 : 0 < k) (hk : k ≤ 131072) (hs2 : Sz (-n / 2 ^ k)) :
    Calls Tryz.prog 133 #[va, .int .i64 (k : Int)] w fun e w' => ∃ u, e = .returned u ∧ Wid w' u (-(-n / 2 ^ k)) ∧ Ext w w' := by
 have hsn : Sz (-n) := by unfold Sz; rw [Int.natAbs_neg]; exact hs
 obtain ⟨u, rfl, hu⟩ := ha
 obtain ⟨ao, b1, o1, cap1, rfl, -⟩ := hu.view
 have h1 := fun w1 (k1 : Ext w w1) => r_Neg (.agg #[.bool (decide (n < 0)), .slice ao (dig n.natAbs).length cap1]) n w1 ⟨_, rfl, hu.ext k1⟩ hs
 have h2 := fun v w1 (h : Wid w1 v (-n)) => q_down v (-n) k w1 h hsn hk0 hk
 have h3 := fun v w1 (h : Wid w1 v (-n / 2 ^ k)) => r_Neg v _ w1 h hs2
 generalize -n / 2 ^ k = R at h2 h3 ⊢
 generalize -n = N at h1 h2
 generalize decide (n < 0) = sa at h1 ⊢
 generalize (dig n.natAbs).length = la at h1 ⊢
 have hkk : 0 ≤ (k : Int) ∧ (k : Int) ≤ 131072 := by omega
 generalize (k : Int) = K at h2 hkk ⊢
 clear hu hs2 hsn hk hk0
 go_enter Tryz.func133, Tryz.ntmps133
 go_wp2_with (first
  | (go_at_call 138; (with_reducible refine (h1 _ ex_).mono ?_); rintro e w1 ⟨y1, rfl, hy1, hb1⟩; obtain ⟨y2, rfl, hx1⟩ := hy1; obtain ⟨xo1, _, _, xc1, rfl, -⟩ := hx1.view; obtain ⟨_, _, hc1, hf1⟩ := hb1.cells2; have hz1 := hb1.size; (try simp only [wsz] at hz1 hc1 hf1); have hw1 : Wid w1 (.agg #[.bool (decide (N < 0)), .slice xo1 (dig N.natAbs).length xc1]) N := ⟨_, rfl, hx1⟩; clear h1)
  | (go_at_call 68; (with_reducible refine (h2 _ _ (hw1.ext ((Ext.refl _).alloc _))).mono ?_); rintro e w3 ⟨y3, rfl, hy3, hb3⟩; obtain ⟨_, _, hc3, hf3⟩ := hb3.cells2; have hz3 := hb3.size; (try simp only [wsz] at hz3 hc3 hf3); clear h2)
  | (go_at_call 138; (with_reducible refine (h3 _ _ hy3).mono ?_); rintro e w4 ⟨y4, rfl, hy4, hb4⟩; obtain ⟨y5, rfl, hx4⟩ := hy4; obtain ⟨xo, _, _, xc, rfl, -⟩ := hx4.view; obtain ⟨_, _, hc4, hf4⟩ := hb4.cells2; have hz4 := hb4.size; (try simp only [wsz] at hz4 hc4 hf4)))
 have hE1 : Ext ((w.alloc (.cells #[.bool sa, .slice ao la cap1] 24)).alloc (.cells #[.bool false, .slice none 0 0] 24)) w4 := ex_
 have hnu : NoU w4 (w.heap.size + 1) := by
  have h0 := NoU.new (w.alloc (.cells #[.bool sa, .slice ao la cap1] 24)) #[.bool false, .slice none 0 0] 24 (noU2 (by simp) (by simp))
  simp only [World.size_alloc] at h0
  exact h0.ext (by simp) hE1
 have hsz : w.heap.size + 1 < w4.heap.size := by have := hE1.size; simp only [World.size_alloc] at this; omega
 refine bodyPost_ret (v := .agg #[.bool (decide (-R < 0)), .slice xo (dig (-R).natAbs).length xc]) ?_ rfl ⟨_, rfl, ⟨_, rfl, ?_⟩, ?_⟩
 ·simp [results, Tryz.results133, go_sem, ↓IntWalk.iteOmega, *]
 ·repeat (first | with_reducible exact hx4 | with_reducible refine Lim.box ?_ ?_ | with_reducible refine NoU.set ?_ (fun z e => by cases e) | with_reducible exact hnu | with_reducible refine NoU.alloc ?_ c_37 _ _ | with_reducible refine Lim.alloc ?_ _)
 ·exact ex_
end Go.Proofs.YtogblocakccbgaaGreat
