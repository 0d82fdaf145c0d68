/- Limbs divided by a power of 2: any number of bits. -/
import Derived.Test.YtbkgakgdbmjmjaaGreatP11
set_option linter.unusedSimpArgs false
set_option linter.unusedVariables false
set_option maxRecDepth 100000
set_option maxHeartbeats 4000000
namespace Go.Proofs.YtbkgakgdbmjmjaaGreat
open Go.RowKit Go.Shelf
attribute [local go_sem] Oper.semAt_some
def SR2 (X : List Int) (sh k : Nat) (s p : Nat) (pre : List (DN X.length)) (W : World) : Prop :=
 W.cell? ⟨s, 0, none⟩ = some (.int .i64 k) ∧ W.cell? ⟨p, 0, none⟩ = some (.slice (some ⟨s + 1, 0, none⟩) X.length X.length) ∧ W.cell? ⟨p + 1, 0, none⟩ = some (.int .u64 (stA X (2 ^ sh) pre).2) ∧ W.frozen? ⟨p + 1, 0, none⟩ = false ∧ R32 W s (s + 1) X.length (stA X (2 ^ sh) pre).1
theorem Lim.len {w : World} {a : Addr} {n cap : Nat} {xs : List Int} (h : Lim w (.slice (some a) n cap) xs) : xs.length = n := by
 rcases h.2 with ⟨e, _⟩ | ⟨b, o, c, e, _⟩
 ·cases e
 ·cases e; rfl
theorem Lim.drop {w : World} {xs : List Int} {b o cap : Nat} (h : Lim w (.slice (some ⟨b, o, none⟩) xs.length cap) xs) (c : Nat) (hc : c ≤ xs.length) : Lim w (.slice (some ⟨b, o + c, none⟩) (xs.drop c).length (cap - c)) (xs.drop c) := by
 refine ⟨fun y hy => h.1 y (List.mem_of_mem_drop hy), ?_⟩
 rcases h.2 with ⟨e, _⟩ | ⟨b', o', cap', hv, h1, h2, h3, h4⟩
 ·cases e
 ·cases hv
  refine Or.inr ⟨b, o + c, cap - c, rfl, by rw [List.length_drop]; omega, ⟨by omega, by rw [List.length_drop]; omega⟩, h3, fun i hi => ?_⟩
  rw [List.length_drop] at hi
  rw [List.getD_eq_getElem?_getD, List.getElem?_drop, ← List.getD_eq_getElem?_getD, Nat.add_assoc]
  exact h4 (c + i) (by omega)
end Go.Proofs.YtbkgakgdbmjmjaaGreat
namespace Go.Proofs.YtbkgakgdbmjmjaaGreat
open Go.RowKit
theorem u32_one : U32 1 := by unfold U32; decide
theorem T_WN_3 {p : Prop} (h : p := by
 intro p hp
 simp only [List.mem_cons, List.mem_nil_iff, or_false] at hp
 rcases hp with rfl | rfl | rfl | rfl <;> (dsimp only; omega)) : p := h
theorem T_WN_2 {p : Prop} (h : p := by
 intro p hp
 simp only [List.mem_cons, List.mem_nil_iff, or_false] at hp
 rcases hp with rfl | rfl | rfl | rfl <;> simp [go_sem, ↓IntWalk.iteOmega]) : p := h
theorem T_WN_1 {p : Prop} (h : p := by
 go_upto_region 11 with (go_at_call 189; (with_reducible refine (w_madeN _ (dig (m / k)) (m / k) _ hq (dig_val _) hsq).mono ?_); rintro e w5 ⟨y16, rfl, hq5, hb6⟩; obtain ⟨ao7, b7, o7, cap7, rfl, -⟩ := hq5.view; replace hA := hA.ext hb6; replace hB := hB.ext hb6; replace q0 := BX.get hA 0 rfl; replace q1 := BX.get hA 1 rfl; replace q2 := BX.get hA 2 rfl; replace q3 := BX.get hA 3 rfl; obtain ⟨⟨xa, h3a⟩, ⟨xb, h3b⟩, h3f, hnu, hsl⟩ := hA.box; replace hr := hr.ext hb6)
 obtain ⟨Wq, hWq⟩ : ∃ Wq, (w5.setCell ⟨w.heap.size + 1 + 1, 0, none⟩ (.bool false)).setCell ⟨w.heap.size + 1 + 1, 1, none⟩ (.slice ao7 (dig (m / k)).length cap7) = Wq := ⟨_, rfl⟩
 have hAq : BX w (w.heap.size + 1 + 1) [(w.heap.size, 0, .bool false), (w.heap.size, 1, .slice ao (dig m).length cap1), (w.heap.size + 1, 0, .bool false), (w.heap.size + 1, 1, .slice bo (dig k).length cap2)] Wq := hWq ▸ (hA.set (by omega) hL2 (fun z e => by cases e)).set (by omega) hL2 (fun z e => by cases e)
 have hBq : BX w (w.heap.size + 1 + 1 + 1) [(w.heap.size, 0, .bool false), (w.heap.size, 1, .slice ao (dig m).length cap1), (w.heap.size + 1, 0, .bool false), (w.heap.size + 1, 1, .slice bo (dig k).length cap2)] Wq := hWq ▸ (hB.other (by omega) hL2 (by omega) (fun z e => by cases e)).other (by omega) hL2 (by omega) (fun z e => by cases e)
 have hqq : Lim Wq (.slice ao7 (dig (m / k)).length cap7) (dig (m / k)) := hWq ▸ Lim.box (Lim.box hq5 hnu) (NoU.set hnu (fun z e => by cases e))
 have hrq : Lim Wq (.slice ao6 (dig (m % k)).length cap6) (dig (m % k)) := hWq ▸ Lim.box (Lim.box hr hnu) (NoU.set hnu (fun z e => by cases e))
 have c20 : Wq.cell? ⟨w.heap.size + 1 + 1, 0, none⟩ = some (.bool false) := by rw [← hWq]; simp [go_sem, h3a, h3b]
 have c21 : Wq.cell? ⟨w.heap.size + 1 + 1, 1, none⟩ = some (.slice ao7 (dig (m / k)).length cap7) := by rw [← hWq]; simp [go_sem, h3a, h3b]
 rw [hWq]
 replace q0 := BX.get hAq 0 rfl
 replace q1 := BX.get hAq 1 rfl
 replace q2 := BX.get hAq 2 rfl
 replace q3 := BX.get hAq 3 rfl
 clear hWq hA hB hq5 hr h3a h3b h3f hnu hsl
 go_upto_region 14 with (go_at_call 189; (with_reducible refine (w_madeN _ (dig (m % k)) (m % k) _ hrq (dig_val _) hsr).mono ?_); rintro e w6 ⟨y17, rfl, hr6, hb7⟩; obtain ⟨ao8, b8, o8, cap8, rfl, -⟩ := hr6.view; have hA6 := hAq.ext hb7; have hB6 := hBq.ext hb7; obtain ⟨⟨xa, h4a⟩, ⟨xb, h4b⟩, h4f, hnv, hsm⟩ := hB6.box; have hsl := hAq.box.2.2.2.2; have h3f := hA6.box.2.2.1; have d20 := (hb7.cells.1 _ 0 hsl).trans c20; have d21 := (hb7.cells.1 _ 1 hsl).trans c21; clear c20 c21 q0 q1 q2 q3)
 have h4f0 := h4f 0
 have h4f1 := h4f 1
 have h3f0 := h3f 0
 have h3f1 := h3f 1
 go_region
 all_goals
  have hE6 := hA6.base
  have hnu := hA6.box.2.2.2.1
  have hq6 := hqq.ext hb7
  go_wp2_with fail
  refine bodyPost_ret (v := .tuple #[.agg #[.bool false, .slice ao7 (dig (m / k)).length cap7], .agg #[.bool false, .slice ao8 (dig (m % k)).length cap8], .int .i64 0]) ?_ rfl ⟨_, _, rfl, ⟨_, rfl, ?_⟩, ⟨_, rfl, ?_⟩, ?_⟩
  ·simp [results, Tryz.results140, go_sem, ↓IntWalk.iteOmega, h4a, h4b, d20, d21]
  ·refine Lim.ext ?_ ((Ext.refl _).drew)
   refine Lim.box (Lim.box (Lim.box (Lim.box (Lim.box (Lim.box hq6 ?_) ?_) ?_) ?_) ?_) ?_ <;> (repeat (first | with_reducible exact hnu | with_reducible exact hnv | with_reducible refine NoU.set ?_ (fun z e => by cases e)))
  ·refine Lim.ext ?_ ((Ext.refl _).drew)
   refine Lim.box (Lim.box (Lim.box (Lim.box (Lim.box (Lim.box hr6 ?_) ?_) ?_) ?_) ?_) ?_ <;> (repeat (first | with_reducible exact hnu | with_reducible exact hnv | with_reducible refine NoU.set ?_ (fun z e => by cases e)))
  ·repeat (first | with_reducible exact Ext.refl _ | with_reducible assumption | with_reducible refine Ext.alloc ?_ _ | with_reducible refine Ext.setCell ?_ c_19 _ | with_reducible refine Ext.drewN ?_ _ | with_reducible refine Ext.drew ?_ | with_reducible refine Ext.trans ?_ c_9)) : p := h
theorem w_DivMod (va vb : Value) (m k : Nat) (w : World) (ha : Nn w va m) (hb0 : Nn w vb k) (hs : Small m) (hk0 : 0 < k) (hs2 : Small k) :
    Calls Tryz.prog 140 #[va, vb] w fun e w' => ∃ u v, e = .returned (.tuple #[u, v, .int .i64 0]) ∧ Nn w' u (m / k) ∧ Nn w' v (m % k) ∧ Ext w w' := by
 obtain ⟨u, rfl, hu⟩ := ha
 obtain ⟨s, rfl, hv⟩ := hb0
 obtain ⟨ao, b1, o1, cap1, rfl, v1, v2, v3, v4, v5, v6⟩ := hu.view
 obtain ⟨bo, b2, o2, cap2, rfl, y1, y2, y3, y4, y5, y6⟩ := hv.view
 have hlen : (dig m).length ≤ 49999 := by unfold Small at hs; omega
 have hl1 := dig_pos.2 hk0
 obtain ⟨W4, hW4⟩ : ∃ W4, (((w.alloc (.cells #[.bool false, .slice ao (dig m).length cap1] 159)).alloc (.cells #[.bool false, .slice bo (dig k).length cap2] 159)).alloc (.cells #[.bool false, .slice none 0 0] 159)).alloc (.cells #[.bool false, .slice none 0 0] 159) = W4 := ⟨_, rfl⟩
 have hWs : W4.heap.size = w.heap.size + 1 + 1 + 1 + 1 := by rw [← hW4]; simp
 have hEW : Ext w W4 := by rw [← hW4]; exact ((((Ext.refl w).alloc _).alloc _).alloc _).alloc _
 have hA0 : BX w (w.heap.size + 1 + 1) [(w.heap.size, 0, .bool false), (w.heap.size, 1, .slice ao (dig m).length cap1), (w.heap.size + 1, 0, .bool false), (w.heap.size + 1, 1, .slice bo (dig k).length cap2)] W4 := by
  rw [← hW4]
  refine ⟨hW4 ▸ hEW, ?_, ?_, ?_, ?_, ?_, by simp⟩
  ·exact T_WN_2
  ·exact b_11
  ·exact b_12
  ·exact b_13
  ·have := (NoU.new ((w.alloc (.cells #[.bool false, .slice ao (dig m).length cap1] 159)).alloc (.cells #[.bool false, .slice bo (dig k).length cap2] 159)) #[.bool false, .slice none 0 0] 159 (noU2 (by simp) (by simp))).alloc (by simp) #[.bool false, .slice none 0 0] 159
   simpa using this
 have hB0 : BX w (w.heap.size + 1 + 1 + 1) [(w.heap.size, 0, .bool false), (w.heap.size, 1, .slice ao (dig m).length cap1), (w.heap.size + 1, 0, .bool false), (w.heap.size + 1, 1, .slice bo (dig k).length cap2)] W4 := by
  rw [← hW4]
  refine ⟨hW4 ▸ hEW, ?_, ?_, ?_, ?_, ?_, by simp⟩
  ·exact T_WN_2
  ·exact b_11
  ·exact b_12
  ·exact b_13
  ·have := NoU.new (((w.alloc (.cells #[.bool false, .slice ao (dig m).length cap1] 159)).alloc (.cells #[.bool false, .slice bo (dig k).length cap2] 159)).alloc (.cells #[.bool false, .slice none 0 0] 159)) #[.bool false, .slice none 0 0] 159 (noU2 (by simp) (by simp))
   simpa using this
 have hL2 : ∀ p ∈ ([(w.heap.size, 0, .bool false), (w.heap.size, 1, .slice ao (dig m).length cap1), (w.heap.size + 1, 0, .bool false), (w.heap.size + 1, 1, .slice bo (dig k).length cap2)] : List (Nat × Nat × Value)), p.1 ≠ w.heap.size + 1 + 1 := by
  exact T_WN_3
 have hL3 : ∀ p ∈ ([(w.heap.size, 0, .bool false), (w.heap.size, 1, .slice ao (dig m).length cap1), (w.heap.size + 1, 0, .bool false), (w.heap.size + 1, 1, .slice bo (dig k).length cap2)] : List (Nat × Nat × Value)), p.1 ≠ w.heap.size + 1 + 1 + 1 := by
  exact T_WN_3
 have hck := w_check_two W4 _ _ m k (hu.ext hEW) (hv.ext hEW) hs hs2
 rw [hWs] at hck
 subst hW4
 clear v1 v4 v5 y1 y4 y5 hWs hEW
 have z0 : (((dig k).length : Int) == 0) = false := by simp; intro e; rw [e] at hl1; simp at hl1
 have hdv := fun w1 (k1 : Ext w w1) => w_divideA _ _ (dig m) (dig k) w1 (hu.ext k1) (hv.ext k1) (dig_nz m) (dig_nz k) hlen hl1
 clear hl1
 go_enter Tryz.func140, Tryz.ntmps140
 go_upto_region 7 with (first
  | (go_at_call 193; (with_reducible refine hck.mono ?_); rintro e w1 ⟨rfl, hb⟩; have hA := hA0.ext (((Ext.refl _).alloc _).trans hb); have hB := hB0.ext (((Ext.refl _).alloc _).trans hb); have q0 := BX.get hA 0 rfl; have q1 := BX.get hA 1 rfl; have q2 := BX.get hA 2 rfl; have q3 := BX.get hA 3 rfl; clear hA0 hB0 hck hb)
  | (go_at_call 194; (with_reducible refine (hdv _ hA.base).mono ?_); rintro e w2 ⟨y14, y15, qs, rs, rfl, hq, hr, nq, nr, hval, hlt, hb5⟩; obtain ⟨ao6, b6, o6, cap6, rfl, -⟩ := hr.view; obtain ⟨ao5, b5, o5, cap5, rfl, -⟩ := hq.view; replace hA := hA.ext hb5; replace hB := hB.ext hb5; replace q0 := BX.get hA 0 rfl; replace q1 := BX.get hA 1 rfl; replace q2 := BX.get hA 2 rfl; replace q3 := BX.get hA 3 rfl))
 obtain ⟨eq, er⟩ := div_dig hq.lb hr.lb nq nr hval hlt
 subst eq
 subst er
 have hmk : m / k ≤ m := Nat.div_le_self _ _
 have hrk : m % k < k := Nat.mod_lt _ hk0
 have hsq : (dig (m / k)).length ≤ 4096 := Nat.le_trans (dig_mono hmk) hs
 have hsr : (dig (m % k)).length ≤ 4096 := Nat.le_trans (dig_mono (Nat.le_of_lt hrk)) hs2
 clear hdv hval hlt nq nr hb5
 by_cases hr0 : 0 < (dig (m % k)).length
 ·skip
  exact T_WN_1
 ·skip
  exact T_WN_1
theorem T_MI_1 {p : Prop} (h : p := by
 go_roundw
 case rel => exact ⟨k + 1, _, _, hkx, rfl, by go_num, hnx.1, hnx.2, by simp [hzl], hzb.snoc (U32.mod _), hq.out, hst, hes⟩
 case measure => simp [intOf]; omega) : p := h
theorem minus_step {X Y zs : List Int} {k : Nat} {z x y : Int} (hv : val zs - BB ^ k * z = val (X.take k) - val (Y.take k)) (hl : zs.length = k) (hx : X.getD k 0 = x) (hy : Y.getD k 0 = y) :
    val (zs ++ [(x - y - z) % 4294967296]) - BB ^ (k + 1) * (-((x - y - z) / 4294967296)) = val (X.take (k + 1)) - val (Y.take (k + 1)) := by
 rw [val_append, hl, val_take_succ', val_take_succ', hx, hy, Int.pow_succ]
 simp only [val]
 have e := lim_mod (x - y - z)
 change (x - y - z) % 4294967296 + 4294967296 * ((x - y - z) / 4294967296) = x - y - z at e
 generalize (x - y - z) % 4294967296 = r at *
 generalize (x - y - z) / 4294967296 = q at *
 have e2 : BB ^ k * (r + 4294967296 * q) = BB ^ k * (x - y - z) := by rw [e]
 unfold BB at *
 grind
theorem w_minus (va vb : Value) (X Y : List Int) (w : World) (ha : Lim w va X) (hb : Lim w vb Y) (hx : X.length ≤ 100000) (hle : Y.length ≤ X.length) (hv0 : val Y ≤ val X) :
    Calls Tryz.prog 196 #[va, vb] w fun e w' => ∃ u zs, e = .returned u ∧ Lim w' u zs ∧ val zs = val X - val Y ∧ Ext w w' := by
  obtain ⟨aoA, bA, oA, cA, rfl, a1, a2, a3, a4, a5, a6⟩ := ha.view
  obtain ⟨aoB, bB, oB, cB, rfl, b1, b2, b3, b4, b5, b6⟩ := hb.view
  have lA := ha.lb
  have lB := hb.lb
  obtain ⟨i0, hi, hz0, hz1, hz2⟩ := info_parts info81
  go_enter Tryz.func196, Tryz.ntmps196
  go_wp2_with (at_make; refine wpList_make_full _ rfl _ _ 157 rfl w.heap.size 255 i0 (.int .u32 0) 1 Tryz.underlying157 hi hz0 hz1 .i64 .i64 _ _ X.length rfl rfl (by omega) (by omega) c_67 c_55 (Nat.le_refl _) ?_; intro w0 hown0 hgrow0)
  have hR0 : R32 w0 w.heap.size w.heap.size X.length (List.replicate X.length 0) := R32.made hown0
  have hE0 : Ext w w0 := Ext.grown (Ext.refl w) hgrow0
  clear hown0 hgrow0
  go_loopw [6, 15] (fun c i wr => ∃ (k : Nat) (z : Int) (zs : List Int), k ≤ X.length ∧ c = .int .u32 z ∧ i = .int .i64 k ∧ 0 ≤ z ∧ z ≤ 1 ∧ zs.length = k ∧ Lb zs ∧ val zs - BB ^ k * z = val (X.take k) - val (Y.take k) ∧
      Hid (R32 wr w.heap.size w.heap.size X.length (zs ++ List.replicate (X.length - k) 0)) ∧ Hid (Ext w wr)) (fun _ i _ => X.length - (intOf i).toNat)
  case atStart => exact ⟨0, 0, [], Nat.zero_le _, rfl, rfl, by decide, by decide, rfl, Lb.nil, by simp [val], hR0, hE0⟩
  case round =>
    obtain ⟨k, z, zs, hk, rfl, rfl, z0, z1, hzl, hzb, hv, HR, HE⟩ := hrel
    by_cases hkx : k < X.length
    · have hg := HR.out.zero hzl hkx
      have hgf := HR.out.frozen k
      have hglt := HR.out.lt
      have eA := a1 (by omega)
      subst eA
      have hca := (HE.out.cells.1 _ (oA + k) (a4 (by omega))).trans (a5 k hkx)
      have hxk : U32 (X.getD k 0) := lA.getD k
      have hyk : U32 (Y.getD k 0) := lB.getD k
      obtain ⟨x, ex⟩ : ∃ x, X.getD k 0 = x := ⟨_, rfl⟩
      obtain ⟨y, ey⟩ : ∃ y, Y.getD k 0 = y := ⟨_, rfl⟩
      have hq := minus_step hv hzl ex ey
      rw [ex] at hca hxk
      rw [ey] at hyk
      have hst := HR.out.step hzl (by omega) ((x - y - z) % 4294967296)
      have hes : Ext w (wr.setCell ⟨w.heap.size, k, none⟩ (.int .u32 ((x - y - z) % 4294967296))) := HE.out.setCell (p := ⟨w.heap.size, k, none⟩) (Nat.le_refl _) _
      have hnx : 0 ≤ -((x - y - z) / 4294967296) ∧ -((x - y - z) / 4294967296) ≤ 1 := by unfold U32 at hxk hyk; omega
      replace hst : Hid _ := hst
      replace hes : Hid _ := hes
      replace hq : Hid _ := hq
      by_cases hky : k < Y.length
      · have eB := b1 (by omega)
        subst eB
        have hcb := (HE.out.cells.1 _ (oB + k) (b4 (by omega))).trans (b5 k hky)
        rw [ey] at hcb
        clear ex ey hv a5 b5
        go_wp2_with (go_at_call 243; (with_reducible refine (w_sub32 x y z _ hxk hyk ⟨z0, z1⟩).mono ?_); rintro e w2 ⟨rfl, rfl⟩)
        exact T_MI_1
      · have hy0 : y = 0 := by rw [← ey, List.getD_eq_getElem?_getD, List.getElem?_eq_none (by omega)]; rfl
        subst hy0
        clear ex ey hv a5 b5
        simp only [Int.sub_zero] at hst hes hq hnx
        go_wp2_with (go_at_call 243; (with_reducible refine (w_sub32 x 0 z _ hxk hyk ⟨z0, z1⟩).mono ?_); rintro e w2 ⟨rfl, rfl⟩)
        exact T_MI_1
    · have hkl : k = X.length := by omega
      subst hkl
      have hvv : val zs = val X - val Y := by
        rw [List.take_length, List.take_of_length_le hle] at hv
        have hlt := val_lt hzb
        rw [hzl] at hlt
        rcases (by omega : z = 0 ∨ z = 1) with rfl | rfl <;> omega
      have hst := HR.out
      rw [Nat.sub_self, List.replicate_zero, List.append_nil] at hst
      replace hst : Hid _ := hst
      go_wp2_with fail
      go_ret
      exact ⟨_, zs, rfl, R32.lim hst.out hzb (by omega), hvv, HE.out⟩
theorem T_ZDM_4 {p : Prop} (h : p := by
 intro p hp
 simp only [List.mem_cons, List.mem_nil_iff, or_false] at hp
 rcases hp with rfl | rfl | rfl | rfl <;> simp [go_sem, ↓IntWalk.iteOmega]) : p := h
theorem T_ZDM_3 {p : Prop} (h : p := by
 intro p hp
 simp only [List.mem_cons, List.mem_nil_iff, or_false] at hp
 rcases hp with rfl | rfl | rfl | rfl <;> (dsimp only; omega)) : p := h
theorem T_ZDM_2 {p : Prop} (h : p := by
 rw [← hW4]
 refine ⟨hW4 ▸ hEW, ?_, ?_, ?_, ?_, ?_, by simp⟩
 ·exact T_ZDM_4
 ·exact b_11
 ·exact b_12
 ·exact b_13
 ·have := NoU.new (((w.alloc (.cells #[.bool true, .slice ao (dig m).length cap1] 159)).alloc (.cells #[.bool false, .slice bo (dig k).length cap2] 159)).alloc (.cells #[.bool false, .slice none 0 0] 159)) #[.bool false, .slice none 0 0] 159 (noU2 (by simp) (by simp))
  simpa using this) : p := h
theorem T_ZDM_1 {p : Prop} (h : p := by
 rw [← hW4]
 refine ⟨hW4 ▸ hEW, ?_, ?_, ?_, ?_, ?_, by simp⟩
 ·exact T_ZDM_4
 ·exact b_11
 ·exact b_12
 ·exact b_13
 ·have := (NoU.new ((w.alloc (.cells #[.bool true, .slice ao (dig m).length cap1] 159)).alloc (.cells #[.bool false, .slice bo (dig k).length cap2] 159)) #[.bool false, .slice none 0 0] 159 (noU2 (by simp) (by simp))).alloc (by simp) #[.bool false, .slice none 0 0] 159
  simpa using this) : p := h
theorem z_DivTr (va vb : Value) (m k : Nat) (w : World) (ha : Sm w va true m) (hb0 : Nn w vb k) (hs : Small m) (hz : m = 0 → true = false) (hk0 : 0 < k) (hs2 : Small k) (hr0 : 0 < m % k) :
    Calls Tryz.prog 140 #[va, vb] w fun e w' => ∃ u v, e = .returned (.tuple #[u, v, .int .i64 0]) ∧ Wid w' u (sg true (m / k + 1)) ∧ Nn w' v (k - m % k) ∧ Ext w w' := by
 obtain ⟨u, rfl, hu⟩ := ha
 obtain ⟨s, rfl, hv⟩ := hb0
 obtain ⟨ao, b1, o1, cap1, rfl, v1, v2, v3, v4, v5, v6⟩ := hu.view
 obtain ⟨bo, b2, o2, cap2, rfl, y1, y2, y3, y4, y5, y6⟩ := hv.view
 have hlen : (dig m).length ≤ 49999 := by unfold Small at hs; omega
 have hl1 := dig_pos.2 hk0
 have hlk : (dig k).length ≤ 49999 := by unfold Small at hs2; omega
 obtain ⟨W4, hW4⟩ : ∃ W4, (((w.alloc (.cells #[.bool true, .slice ao (dig m).length cap1] 159)).alloc (.cells #[.bool false, .slice bo (dig k).length cap2] 159)).alloc (.cells #[.bool false, .slice none 0 0] 159)).alloc (.cells #[.bool false, .slice none 0 0] 159) = W4 := ⟨_, rfl⟩
 have hWs : W4.heap.size = w.heap.size + 1 + 1 + 1 + 1 := by rw [← hW4]; simp
 have hEW : Ext w W4 := by rw [← hW4]; exact ((((Ext.refl w).alloc _).alloc _).alloc _).alloc _
 have hA0 : BX w (w.heap.size + 1 + 1) [(w.heap.size, 0, .bool true), (w.heap.size, 1, .slice ao (dig m).length cap1), (w.heap.size + 1, 0, .bool false), (w.heap.size + 1, 1, .slice bo (dig k).length cap2)] W4 := by
  exact T_ZDM_1
 have hB0 : BX w (w.heap.size + 1 + 1 + 1) [(w.heap.size, 0, .bool true), (w.heap.size, 1, .slice ao (dig m).length cap1), (w.heap.size + 1, 0, .bool false), (w.heap.size + 1, 1, .slice bo (dig k).length cap2)] W4 := by
  exact T_ZDM_2
 have hL2 : ∀ p ∈ ([(w.heap.size, 0, .bool true), (w.heap.size, 1, .slice ao (dig m).length cap1), (w.heap.size + 1, 0, .bool false), (w.heap.size + 1, 1, .slice bo (dig k).length cap2)] : List (Nat × Nat × Value)), p.1 ≠ w.heap.size + 1 + 1 := by
  exact T_ZDM_3
 have hL3 : ∀ p ∈ ([(w.heap.size, 0, .bool true), (w.heap.size, 1, .slice ao (dig m).length cap1), (w.heap.size + 1, 0, .bool false), (w.heap.size + 1, 1, .slice bo (dig k).length cap2)] : List (Nat × Nat × Value)), p.1 ≠ w.heap.size + 1 + 1 + 1 := by
  exact T_ZDM_3
 have hck := z_check_two W4 _ _ true false m k (hu.ext hEW) (hv.ext hEW) hs hs2 hz (fun _ => rfl)
 rw [hWs] at hck
 subst hW4
 clear v1 v4 v5 y1 y4 y5 hWs hEW
 have z0 : (((dig k).length : Int) == 0) = false := by simp; intro e; rw [e] at hl1; simp at hl1
 have hdv := fun w1 (k1 : Ext w w1) => w_divideA _ _ (dig m) (dig k) w1 (hu.ext k1) (hv.ext k1) (dig_nz m) (dig_nz k) hlen hl1
 have hl2 := hl1
 clear hl1
 obtain ⟨Q, hQ⟩ : ∃ Q, (m / k + 1) = Q := ⟨_, rfl⟩
 obtain ⟨R, hR⟩ : ∃ R, (k - m % k) = R := ⟨_, rfl⟩
 rw [hQ, hR]
 go_enter Tryz.func140, Tryz.ntmps140
 go_upto_region 7 with (first
  | (go_at_call 193; (with_reducible refine hck.mono ?_); rintro e w1 ⟨rfl, hb⟩; have hA := hA0.ext (((Ext.refl _).alloc _).trans hb); have hB := hB0.ext (((Ext.refl _).alloc _).trans hb); have q0 := BX.get hA 0 rfl; have q1 := BX.get hA 1 rfl; have q2 := BX.get hA 2 rfl; have q3 := BX.get hA 3 rfl; clear hA0 hB0 hck hb)
  | (go_at_call 194; (with_reducible refine (hdv _ hA.base).mono ?_); rintro e w2 ⟨y14, y15, qs, rs, rfl, hq, hr, nq, nr, hval, hlt, hb5⟩; obtain ⟨ao6, b6, o6, cap6, rfl, -⟩ := hr.view; obtain ⟨ao5, b5, o5, cap5, rfl, -⟩ := hq.view; replace hA := hA.ext hb5; replace hB := hB.ext hb5; replace q0 := BX.get hA 0 rfl; replace q1 := BX.get hA 1 rfl; replace q2 := BX.get hA 2 rfl; replace q3 := BX.get hA 3 rfl))
 obtain ⟨eq, er⟩ := div_dig hq.lb hr.lb nq nr hval hlt
 subst eq
 subst er
 have hmk : m / k ≤ m := Nat.div_le_self _ _
 have hrk : m % k < k := Nat.mod_lt _ hk0
 have hlq : (dig (m / k)).length ≤ 49999 := Nat.le_trans (dig_mono hmk) hlen
 have hsq0 : (dig (m / k + 1)).length ≤ 4096 := Nat.le_trans (dig_mono (Nat.div_lt_self (Nat.pos_of_ne_zero (by rintro rfl; simp at hr0)) (by omega))) hs
 have hsr0 : (dig (k - m % k)).length ≤ 4096 := Nat.le_trans (dig_mono (by omega)) hs2
 have hrp : 0 < (dig (m % k)).length := dig_pos.2 hr0
 have hsq : (dig Q).length ≤ 4096 := hQ ▸ hsq0
 have hsr : (dig R).length ≤ 4096 := hR ▸ hsr0
 clear hdv hval hlt nq nr hb5 hsq0 hsr0
 go_upto_region 10 with (first
  | (go_at_call 195; (with_reducible refine (w_plus _ _ _ [1] _ (hq.ext ((Ext.refl _).alloc _)) (lim_one _ 1 u32_one) c_46).mono ?_); rintro e w3 ⟨y3, zs, rfl, hz3, hval3, hb3⟩; obtain ⟨zo, _, _, zc, rfl, -⟩ := hz3.view; have hb3' := ((Ext.refl w2).alloc _).trans hb3; replace hA := hA.ext hb3'; replace hB := hB.ext hb3'; replace q0 := BX.get hA 0 rfl; replace q1 := BX.get hA 1 rfl; replace q2 := BX.get hA 2 rfl; replace q3 := BX.get hA 3 rfl; have hr3 := hr.ext hb3')
  | (go_at_call 196; (with_reducible refine (w_minus _ _ (dig k) (dig (m % k)) _ (hv.ext hA.base) hr3 (by omega) (dig_mono (Nat.le_of_lt hrk)) (by rw [dig_val, dig_val]; omega)).mono ?_); rintro e w4 ⟨y4, ts, rfl, ht4, hval4, hb4⟩; obtain ⟨to_, _, _, tc, rfl, -⟩ := ht4.view; replace hA := hA.ext hb4; replace hB := hB.ext hb4; replace q0 := BX.get hA 0 rfl; replace q1 := BX.get hA 1 rfl; replace q2 := BX.get hA 2 rfl; replace q3 := BX.get hA 3 rfl; replace hz3 := hz3.ext hb4))
 have hvq : val zs = ((m / k + 1 : Nat) : Int) := by rw [hval3, dig_val]; simp [val]
 have hvr : val ts = ((k - m % k : Nat) : Int) := by rw [hval4, dig_val, dig_val]; omega
 go_upto_region 11 with (go_at_call 189; go_loud (with_reducible refine (w_madeS true _ _ Q _ hz3 (by rw [hvq, hQ]) hsq).mono ?_); rintro e w5 ⟨y16, boq, rfl, hq5, hboq, hb6⟩; replace hboq : Hid _ := hboq; obtain ⟨ao7, b7, o7, cap7, rfl, -⟩ := hq5.view; replace hA := hA.ext hb6; replace hB := hB.ext hb6; replace q0 := BX.get hA 0 rfl; replace q1 := BX.get hA 1 rfl; replace q2 := BX.get hA 2 rfl; replace q3 := BX.get hA 3 rfl; obtain ⟨⟨xa, h3a⟩, ⟨xb, h3b⟩, h3f, hnu, hsl⟩ := hA.box; have hr6 := ht4.ext hb6)
 obtain ⟨Wq, hWq⟩ : ∃ Wq, (w5.setCell ⟨w.heap.size + 1 + 1, 0, none⟩ (.bool boq)).setCell ⟨w.heap.size + 1 + 1, 1, none⟩ (.slice ao7 (dig Q).length cap7) = Wq := ⟨_, rfl⟩
 have hAq : BX w (w.heap.size + 1 + 1) [(w.heap.size, 0, .bool true), (w.heap.size, 1, .slice ao (dig m).length cap1), (w.heap.size + 1, 0, .bool false), (w.heap.size + 1, 1, .slice bo (dig k).length cap2)] Wq := hWq ▸ (hA.set (by omega) hL2 (fun z e => by cases e)).set (by omega) hL2 (fun z e => by cases e)
 have hBq : BX w (w.heap.size + 1 + 1 + 1) [(w.heap.size, 0, .bool true), (w.heap.size, 1, .slice ao (dig m).length cap1), (w.heap.size + 1, 0, .bool false), (w.heap.size + 1, 1, .slice bo (dig k).length cap2)] Wq := hWq ▸ (hB.other (by omega) hL2 (by omega) (fun z e => by cases e)).other (by omega) hL2 (by omega) (fun z e => by cases e)
 have hqq : Lim Wq (.slice ao7 (dig Q).length cap7) (dig Q) := hWq ▸ Lim.box (Lim.box hq5 hnu) (NoU.set hnu (fun z e => by cases e))
 have hrq : Lim Wq _ _ := hWq ▸ Lim.box (Lim.box hr6 hnu) (NoU.set hnu (fun z e => by cases e))
 have c20 : Wq.cell? ⟨w.heap.size + 1 + 1, 0, none⟩ = some (.bool boq) := by rw [← hWq]; simp [go_sem, h3a, h3b]
 have c21 : Wq.cell? ⟨w.heap.size + 1 + 1, 1, none⟩ = some (.slice ao7 (dig Q).length cap7) := by rw [← hWq]; simp [go_sem, h3a, h3b]
 rw [hWq]
 replace q0 := BX.get hAq 0 rfl
 replace q1 := BX.get hAq 1 rfl
 replace q2 := BX.get hAq 2 rfl
 replace q3 := BX.get hAq 3 rfl
 clear hWq hA hB hq5 hr6 h3a h3b h3f hnu hsl
 go_upto_region 14 with (go_at_call 189; (with_reducible refine (w_madeN _ _ R _ hrq (by rw [hvr, hR]) hsr).mono ?_); rintro e w6 ⟨y17, rfl, hr7, hb7⟩; obtain ⟨ao8, b8, o8, cap8, rfl, -⟩ := hr7.view; have hA6 := hAq.ext hb7; have hB6 := hBq.ext hb7; obtain ⟨⟨xa, h4a⟩, ⟨xb, h4b⟩, h4f, hnv, hsm⟩ := hB6.box; have hsl := hAq.box.2.2.2.2; have h3f := hA6.box.2.2.1; have d20 := (hb7.cells.1 _ 0 hsl).trans c20; have d21 := (hb7.cells.1 _ 1 hsl).trans c21; clear c20 c21 q0 q1 q2 q3)
 have h4f0 := h4f 0
 have h4f1 := h4f 1
 have h3f0 := h3f 0
 have h3f1 := h3f 1
 go_region
 all_goals
  have hE6 := hA6.base
  have hnu := hA6.box.2.2.2.1
  have hq6 := hqq.ext hb7
  go_wp2_with fail
  refine bodyPost_ret (v := .tuple #[.agg #[.bool boq, .slice ao7 (dig Q).length cap7], .agg #[.bool false, .slice ao8 (dig R).length cap8], .int .i64 0]) ?_ rfl ⟨_, _, rfl, ?_, ⟨_, rfl, ?_⟩, ?_⟩
  ·simp [results, Tryz.results140, go_sem, ↓IntWalk.iteOmega, h4a, h4b, d20, d21]
  ·refine Wid.mk' (Lim.ext ?_ ((Ext.refl _).drew)) hboq.out
   refine Lim.box (Lim.box (Lim.box (Lim.box (Lim.box (Lim.box hq6 ?_) ?_) ?_) ?_) ?_) ?_ <;> (repeat (first | with_reducible exact hnu | with_reducible exact hnv | with_reducible refine NoU.set ?_ (fun z e => by cases e)))
  ·refine Lim.ext ?_ ((Ext.refl _).drew)
   refine Lim.box (Lim.box (Lim.box (Lim.box (Lim.box (Lim.box hr7 ?_) ?_) ?_) ?_) ?_) ?_ <;> (repeat (first | with_reducible exact hnu | with_reducible exact hnv | with_reducible refine NoU.set ?_ (fun z e => by cases e)))
  ·exact b_6
theorem z_DivTn (va vb : Value) (m k : Nat) (w : World) (ha : Sm w va true m) (hb0 : Nn w vb k) (hs : Small m) (hz : m = 0 → true = false) (hk0 : 0 < k) (hs2 : Small k) (hr0 : ¬ 0 < m % k) :
    Calls Tryz.prog 140 #[va, vb] w fun e w' => ∃ u v, e = .returned (.tuple #[u, v, .int .i64 0]) ∧ Wid w' u (sg true (m / k)) ∧ Nn w' v (m % k) ∧ Ext w w' := by
 obtain ⟨u, rfl, hu⟩ := ha
 obtain ⟨s, rfl, hv⟩ := hb0
 obtain ⟨ao, b1, o1, cap1, rfl, v1, v2, v3, v4, v5, v6⟩ := hu.view
 obtain ⟨bo, b2, o2, cap2, rfl, y1, y2, y3, y4, y5, y6⟩ := hv.view
 have hlen : (dig m).length ≤ 49999 := by unfold Small at hs; omega
 have hl1 := dig_pos.2 hk0
 have hlk : (dig k).length ≤ 49999 := by unfold Small at hs2; omega
 obtain ⟨W4, hW4⟩ : ∃ W4, (((w.alloc (.cells #[.bool true, .slice ao (dig m).length cap1] 159)).alloc (.cells #[.bool false, .slice bo (dig k).length cap2] 159)).alloc (.cells #[.bool false, .slice none 0 0] 159)).alloc (.cells #[.bool false, .slice none 0 0] 159) = W4 := ⟨_, rfl⟩
 have hWs : W4.heap.size = w.heap.size + 1 + 1 + 1 + 1 := by rw [← hW4]; simp
 have hEW : Ext w W4 := by rw [← hW4]; exact ((((Ext.refl w).alloc _).alloc _).alloc _).alloc _
 have hA0 : BX w (w.heap.size + 1 + 1) [(w.heap.size, 0, .bool true), (w.heap.size, 1, .slice ao (dig m).length cap1), (w.heap.size + 1, 0, .bool false), (w.heap.size + 1, 1, .slice bo (dig k).length cap2)] W4 := by
  exact T_ZDM_1
 have hB0 : BX w (w.heap.size + 1 + 1 + 1) [(w.heap.size, 0, .bool true), (w.heap.size, 1, .slice ao (dig m).length cap1), (w.heap.size + 1, 0, .bool false), (w.heap.size + 1, 1, .slice bo (dig k).length cap2)] W4 := by
  exact T_ZDM_2
 have hL2 : ∀ p ∈ ([(w.heap.size, 0, .bool true), (w.heap.size, 1, .slice ao (dig m).length cap1), (w.heap.size + 1, 0, .bool false), (w.heap.size + 1, 1, .slice bo (dig k).length cap2)] : List (Nat × Nat × Value)), p.1 ≠ w.heap.size + 1 + 1 := by
  exact T_ZDM_3
 have hL3 : ∀ p ∈ ([(w.heap.size, 0, .bool true), (w.heap.size, 1, .slice ao (dig m).length cap1), (w.heap.size + 1, 0, .bool false), (w.heap.size + 1, 1, .slice bo (dig k).length cap2)] : List (Nat × Nat × Value)), p.1 ≠ w.heap.size + 1 + 1 + 1 := by
  exact T_ZDM_3
 have hck := z_check_two W4 _ _ true false m k (hu.ext hEW) (hv.ext hEW) hs hs2 hz (fun _ => rfl)
 rw [hWs] at hck
 subst hW4
 clear v1 v4 v5 y1 y4 y5 hWs hEW
 have z0 : (((dig k).length : Int) == 0) = false := by simp; intro e; rw [e] at hl1; simp at hl1
 have hdv := fun w1 (k1 : Ext w w1) => w_divideA _ _ (dig m) (dig k) w1 (hu.ext k1) (hv.ext k1) (dig_nz m) (dig_nz k) hlen hl1
 have hl2 := hl1
 clear hl1
 obtain ⟨Q, hQ⟩ : ∃ Q, (m / k) = Q := ⟨_, rfl⟩
 obtain ⟨R, hR⟩ : ∃ R, (m % k) = R := ⟨_, rfl⟩
 rw [hQ, hR]
 go_enter Tryz.func140, Tryz.ntmps140
 go_upto_region 7 with (first
  | (go_at_call 193; (with_reducible refine hck.mono ?_); rintro e w1 ⟨rfl, hb⟩; have hA := hA0.ext (((Ext.refl _).alloc _).trans hb); have hB := hB0.ext (((Ext.refl _).alloc _).trans hb); have q0 := BX.get hA 0 rfl; have q1 := BX.get hA 1 rfl; have q2 := BX.get hA 2 rfl; have q3 := BX.get hA 3 rfl; clear hA0 hB0 hck hb)
  | (go_at_call 194; (with_reducible refine (hdv _ hA.base).mono ?_); rintro e w2 ⟨y14, y15, qs, rs, rfl, hq, hr, nq, nr, hval, hlt, hb5⟩; obtain ⟨ao6, b6, o6, cap6, rfl, -⟩ := hr.view; obtain ⟨ao5, b5, o5, cap5, rfl, -⟩ := hq.view; replace hA := hA.ext hb5; replace hB := hB.ext hb5; replace q0 := BX.get hA 0 rfl; replace q1 := BX.get hA 1 rfl; replace q2 := BX.get hA 2 rfl; replace q3 := BX.get hA 3 rfl))
 obtain ⟨eq, er⟩ := div_dig hq.lb hr.lb nq nr hval hlt
 subst eq
 subst er
 have hmk : m / k ≤ m := Nat.div_le_self _ _
 have hrk : m % k < k := Nat.mod_lt _ hk0
 have hlq : (dig (m / k)).length ≤ 49999 := Nat.le_trans (dig_mono hmk) hlen
 have hsq0 : (dig (m / k)).length ≤ 4096 := Nat.le_trans (dig_mono hmk) hs
 have hsr0 : (dig (m % k)).length ≤ 4096 := Nat.le_trans (dig_mono (by omega)) hs2
 have hrp : (dig (m % k)).length = 0 := by
  have : m % k = 0 := by omega
  rw [this]; rfl
 have hsq : (dig Q).length ≤ 4096 := hQ ▸ hsq0
 have hsr : (dig R).length ≤ 4096 := hR ▸ hsr0
 clear hdv hval hlt nq nr hb5 hsq0 hsr0
 rw [hQ] at hq
 rw [hR] at hr hrp
 go_upto_region 11 with (go_at_call 189; go_loud (with_reducible refine (w_madeS true _ _ Q _ hq (dig_val _) hsq).mono ?_); rintro e w5 ⟨y16, boq, rfl, hq5, hboq, hb6⟩; replace hboq : Hid _ := hboq; obtain ⟨ao7, b7, o7, cap7, rfl, -⟩ := hq5.view; replace hA := hA.ext hb6; replace hB := hB.ext hb6; replace q0 := BX.get hA 0 rfl; replace q1 := BX.get hA 1 rfl; replace q2 := BX.get hA 2 rfl; replace q3 := BX.get hA 3 rfl; obtain ⟨⟨xa, h3a⟩, ⟨xb, h3b⟩, h3f, hnu, hsl⟩ := hA.box; have hr6 := hr.ext hb6)
 obtain ⟨Wq, hWq⟩ : ∃ Wq, (w5.setCell ⟨w.heap.size + 1 + 1, 0, none⟩ (.bool boq)).setCell ⟨w.heap.size + 1 + 1, 1, none⟩ (.slice ao7 (dig Q).length cap7) = Wq := ⟨_, rfl⟩
 have hAq : BX w (w.heap.size + 1 + 1) [(w.heap.size, 0, .bool true), (w.heap.size, 1, .slice ao (dig m).length cap1), (w.heap.size + 1, 0, .bool false), (w.heap.size + 1, 1, .slice bo (dig k).length cap2)] Wq := hWq ▸ (hA.set (by omega) hL2 (fun z e => by cases e)).set (by omega) hL2 (fun z e => by cases e)
 have hBq : BX w (w.heap.size + 1 + 1 + 1) [(w.heap.size, 0, .bool true), (w.heap.size, 1, .slice ao (dig m).length cap1), (w.heap.size + 1, 0, .bool false), (w.heap.size + 1, 1, .slice bo (dig k).length cap2)] Wq := hWq ▸ (hB.other (by omega) hL2 (by omega) (fun z e => by cases e)).other (by omega) hL2 (by omega) (fun z e => by cases e)
 have hqq : Lim Wq (.slice ao7 (dig Q).length cap7) (dig Q) := hWq ▸ Lim.box (Lim.box hq5 hnu) (NoU.set hnu (fun z e => by cases e))
 have hrq : Lim Wq _ _ := hWq ▸ Lim.box (Lim.box hr6 hnu) (NoU.set hnu (fun z e => by cases e))
 have c20 : Wq.cell? ⟨w.heap.size + 1 + 1, 0, none⟩ = some (.bool boq) := by rw [← hWq]; simp [go_sem, h3a, h3b]
 have c21 : Wq.cell? ⟨w.heap.size + 1 + 1, 1, none⟩ = some (.slice ao7 (dig Q).length cap7) := by rw [← hWq]; simp [go_sem, h3a, h3b]
 rw [hWq]
 replace q0 := BX.get hAq 0 rfl
 replace q1 := BX.get hAq 1 rfl
 replace q2 := BX.get hAq 2 rfl
 replace q3 := BX.get hAq 3 rfl
 clear hWq hA hB hq5 hr6 h3a h3b h3f hnu hsl
 rw [hrp] at hrq
 go_upto_region 14 with (go_at_call 189; (with_reducible refine (w_madeN _ _ R _ hrq (dig_val _) hsr).mono ?_); rintro e w6 ⟨y17, rfl, hr7, hb7⟩; obtain ⟨ao8, b8, o8, cap8, rfl, -⟩ := hr7.view; have hA6 := hAq.ext hb7; have hB6 := hBq.ext hb7; obtain ⟨⟨xa, h4a⟩, ⟨xb, h4b⟩, h4f, hnv, hsm⟩ := hB6.box; have hsl := hAq.box.2.2.2.2; have h3f := hA6.box.2.2.1; have d20 := (hb7.cells.1 _ 0 hsl).trans c20; have d21 := (hb7.cells.1 _ 1 hsl).trans c21; clear c20 c21 q0 q1 q2 q3)
 have h4f0 := h4f 0
 have h4f1 := h4f 1
 have h3f0 := h3f 0
 have h3f1 := h3f 1
 go_region
 all_goals
  have hE6 := hA6.base
  have hnu := hA6.box.2.2.2.1
  have hq6 := hqq.ext hb7
  go_wp2_with fail
  refine bodyPost_ret (v := .tuple #[.agg #[.bool boq, .slice ao7 (dig Q).length cap7], .agg #[.bool false, .slice ao8 (dig R).length cap8], .int .i64 0]) ?_ rfl ⟨_, _, rfl, ?_, ⟨_, rfl, ?_⟩, ?_⟩
  ·simp [results, Tryz.results140, go_sem, ↓IntWalk.iteOmega, h4a, h4b, d20, d21] <;> exact hrp.symm
  ·refine Wid.mk' (Lim.ext ?_ ((Ext.refl _).drew)) hboq.out
   refine Lim.box (Lim.box (Lim.box (Lim.box (Lim.box (Lim.box hq6 ?_) ?_) ?_) ?_) ?_) ?_ <;> (repeat (first | with_reducible exact hnu | with_reducible exact hnv | with_reducible refine NoU.set ?_ (fun z e => by cases e)))
  ·refine Lim.ext ?_ ((Ext.refl _).drew)
   refine Lim.box (Lim.box (Lim.box (Lim.box (Lim.box (Lim.box hr7 ?_) ?_) ?_) ?_) ?_) ?_ <;> (repeat (first | with_reducible exact hnu | with_reducible exact hnv | with_reducible refine NoU.set ?_ (fun z e => by cases e)))
  ·exact b_6
theorem neg_divN (m k : Nat) (hk : 0 < k) : (-(m : Int)) / k = (if 0 < m % k then -((m / k + 1 : Nat) : Int) else -((m / k : Nat) : Int)) ∧ (-(m : Int)) % k = (if 0 < m % k then ((k - m % k : Nat) : Int) else 0) := by
 have hd := Nat.div_add_mod m k
 have hm := Nat.mod_lt m hk
 generalize m / k = q at *
 generalize m % k = r at *
 have e : (m : Int) = k * q + r := by exact_mod_cast hd.symm
 split
 ·rename_i h0
  refine (Int.ediv_emod_unique (a := -(m : Int)) (b := k) (r := ((k - r : Nat) : Int)) (q := -((q + 1 : Nat) : Int)) (by omega)).2 ⟨?_, by omega, by omega⟩
  rw [e, Int.natCast_add, Int.mul_neg, Int.mul_add]; omega
 ·rename_i h0
  refine (Int.ediv_emod_unique (a := -(m : Int)) (b := k) (r := 0) (q := -(q : Int)) (by omega)).2 ⟨?_, by omega, by omega⟩
  rw [e, Int.mul_neg]; omega
theorem z_DivMod (va vb : Value) (n : Int) (k : Nat) (w : World) (ha : Wid w va n) (hb0 : Nn w vb k) (hs : Sz n) (hk0 : 0 < k) (hs2 : Small k) :
    Calls Tryz.prog 140 #[va, vb] w fun e w' => ∃ u v, e = .returned (.tuple #[u, v, .int .i64 0]) ∧ Wid w' u (n / k) ∧ Nn w' v (n % k).toNat ∧ Ext w w' := by
 by_cases h : n < 0
 ·obtain ⟨u, rfl, hu⟩ := ha
  have hd : decide (n < 0) = true := decide_eq_true h
  rw [hd]
  obtain ⟨e1, e2⟩ := neg_divN n.natAbs k hk0
  have e : -(n.natAbs : Int) = n := by omega
  rw [e] at e1 e2
  rw [e1, e2]
  by_cases hr : 0 < n.natAbs % k
  ·rw [if_pos hr, if_pos hr, Int.toNat_natCast]
   exact z_DivTr _ _ n.natAbs k w ⟨u, rfl, hu⟩ hb0 hs (by omega) hk0 hs2 hr
  ·rw [if_neg hr, if_neg hr]
   have h0 : n.natAbs % k = 0 := by omega
   have := z_DivTn _ _ n.natAbs k w ⟨u, rfl, hu⟩ hb0 hs (by omega) hk0 hs2 hr
   rw [h0] at this
   exact this
 ·have h1 : ((n.natAbs : Nat) : Int) = n := by omega
  have e1 : n / k = ((n.natAbs / k : Nat) : Int) := by rw [← h1]; simp
  have e2 : (n % k).toNat = n.natAbs % k := by rw [← h1]; simp; omega
  rw [e1, e2]
  refine (w_DivMod va vb n.natAbs k w (ha.nn (by omega)) hb0 hs hk0 hs2).mono ?_
  rintro e w' ⟨u, v, rfl, hu, hv, hb⟩
  exact ⟨u, v, rfl, hu.wid, hv, hb⟩
end Go.Proofs.YtbkgakgdbmjmjaaGreat
