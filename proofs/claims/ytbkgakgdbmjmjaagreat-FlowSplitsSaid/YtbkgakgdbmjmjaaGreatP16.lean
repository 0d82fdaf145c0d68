/- frac, over rational numbers: what Add, Sub, Mul make. -/
import Derived.Test.YtbkgakgdbmjmjaaGreatP15
set_option linter.unusedSimpArgs false
set_option linter.unusedVariables false
set_option maxRecDepth 100000
set_option maxHeartbeats 4000000
namespace Go.Proofs.YtbkgakgdbmjmjaaGreat
open Go.RowKit
theorem T_ZFD_8 {p : Prop} (h : p := by
 intro pp hp
 simp only [List.mem_cons, List.mem_nil_iff, or_false] at hp
 rcases hp with rfl | rfl | rfl | rfl | rfl | rfl | rfl | rfl <;> simp [go_sem, ↓IntWalk.iteOmega]) : p := h
theorem T_ZFD_7 {p : Prop} (h : p := by
 refine Wid.box (Wid.box (Wid.box (Wid.box hy7 ?_) ?_) ?_) ?_ <;> (repeat (first | with_reducible exact hnu | with_reducible exact hnv | with_reducible refine NoU.set ?_ (fun z e => by cases e)))) : p := h
theorem T_ZFD_6 {p : Prop} (h : p := by
 refine Wid.box (Wid.box (Wid.box (Wid.box hy6 ?_) ?_) ?_) ?_ <;> (repeat (first | with_reducible exact hnu | with_reducible exact hnv | with_reducible refine NoU.set ?_ (fun z e => by cases e)))) : p := h
theorem T_ZFD_5 {p : Prop} (h : p := by
 (try dsimp only); exact ⟨(hH.1.other (by omega) hL3 (by omega) (fun z e => by cases e)).other (by omega) hL3 (by omega) (fun z e => by cases e), (hH.2.set (by omega) hL3 (fun z e => by cases e)).set (by omega) hL3 (fun z e => by cases e)⟩) : p := h
theorem T_ZFD_4 {p : Prop} (h : p := by
 (try dsimp only); exact ⟨(hH.1.set (by omega) hL2 (fun z e => by cases e)).set (by omega) hL2 (fun z e => by cases e), (hH.2.other (by omega) hL2 (by omega) (fun z e => by cases e)).other (by omega) hL2 (by omega) (fun z e => by cases e)⟩) : p := h
theorem T_ZFD_3 {p : Prop} (h : p := by
 intro pp hp
 simp only [List.mem_cons, List.mem_nil_iff, or_false] at hp
 rcases hp with rfl | rfl | rfl | rfl | rfl | rfl | rfl | rfl <;> (dsimp only; omega)) : p := h
theorem T_ZFD_2 {p : Prop} (h : p := by
 rw [← hW4]
 refine ⟨hW4 ▸ hEW, ?_, ?_, ?_, ?_, ?_, by simp⟩
 ·exact T_ZFD_8
 ·exact b_11
 ·exact b_12
 ·exact b_13
 ·have := NoU.new (((w.alloc (.cells #[.bool s1, .slice ao l1 cap1, .bool false, .slice bo l2 cap2] 161)).alloc (.cells #[.bool s2, .slice co l3 cap3, .bool false, .slice eo l4 cap4] 161)).alloc (.cells #[.bool false, .slice none 0 0] 159)) #[.bool false, .slice none 0 0] 159 (noU2 (by simp) (by simp))
  simpa using this) : p := h
theorem T_ZFD_1 {p : Prop} (h : p := by
 rw [← hW4]
 refine ⟨hW4 ▸ hEW, ?_, ?_, ?_, ?_, ?_, by simp⟩
 ·exact T_ZFD_8
 ·exact b_11
 ·exact b_12
 ·exact b_13
 ·have := (NoU.new ((w.alloc (.cells #[.bool s1, .slice ao l1 cap1, .bool false, .slice bo l2 cap2] 161)).alloc (.cells #[.bool s2, .slice co l3 cap3, .bool false, .slice eo l4 cap4] 161)) #[.bool false, .slice none 0 0] 159 (noU2 (by simp) (by simp))).alloc (by simp) #[.bool false, .slice none 0 0] 159
  simpa using this) : p := h
theorem z_mkAdd (va vb : Value) (x y : Rat) (a b : Nat) (w : World) (hf : Fr w va x) (hg : Fr w vb y) (hx : Fb x a) (hy : Fb y b) (hab : a + b ≤ 130000) :
    Calls Tryz.prog 268 #[va, vb] w fun e w' => ∃ u v, e = .returned (.tuple #[u, v]) ∧ Wid w' u (x.num * y.den + y.num * x.den) ∧ Wid w' v ((x.den * y.den : Nat) : Int) ∧ Ext w w' := by
 obtain ⟨sx, sdx⟩ := fb_small hx (by omega)
 obtain ⟨sy, sdy⟩ := fb_small hy (by omega)
 obtain ⟨s1, ao, l1, cap1, bo, l2, cap2, rfl⟩ := hf.shape
 obtain ⟨s2, co, l3, cap3, eo, l4, cap4, rfl⟩ := hg.shape
 have hc3 := fun w1 (k1 : Ext w w1) => z_Mul _ _ (x.den : Int) y.den w1 (hf.parts.2.wid.ext k1) (hg.parts.2.wid.ext k1) (by unfold Sz; rw [Int.natAbs_natCast]; exact sdx) (by unfold Sz; rw [Int.natAbs_natCast]; exact sdy) c_52
 rw [Int.natCast_mul]
 have hS1 : Sz (x.num * y.den) := small_bits (cross_lt hx hy).1 (by omega)
 have hS2 : Sz (y.num * x.den) := small_bits (cross_lt hx hy).2 (by omega)
 have hS3 : Sz (x.num * y.den + y.num * x.den) := small_bits (k := a + b + 1) c_65 (by omega)
 have hc1 := fun w1 (k1 : Ext w w1) => z_cross _ _ x y a b w1 (hf.ext k1) (hg.ext k1) hx hy (by omega)
 have hc2 := fun w1 (k1 : Ext w w1) => z_cross _ _ y x b a w1 (hg.ext k1) (hf.ext k1) hy hx (by omega)
 generalize x.num * (y.den : Int) = N1 at *
 generalize y.num * (x.den : Int) = N2 at *
 generalize (x.den : Int) * (y.den : Int) = D at *
 clear hf hg hx hy sx sy sdx sdy
 obtain ⟨W4, hW4⟩ : ∃ W4, (((w.alloc (.cells #[.bool s1, .slice ao l1 cap1, .bool false, .slice bo l2 cap2] 161)).alloc (.cells #[.bool s2, .slice co l3 cap3, .bool false, .slice eo l4 cap4] 161)).alloc (.cells #[.bool false, .slice none 0 0] 159)).alloc (.cells #[.bool false, .slice none 0 0] 159) = W4 := ⟨_, rfl⟩
 have hWs : W4.heap.size = w.heap.size + 1 + 1 + 1 + 1 := by rw [← hW4]; simp
 have hEW : Ext w W4 := by rw [← hW4]; exact ((((Ext.refl w).alloc _).alloc _).alloc _).alloc _
 have hA0 : BX w (w.heap.size + 1 + 1) ([(w.heap.size, 0, .bool s1), (w.heap.size, 1, .slice ao l1 cap1), (w.heap.size, 2, .bool false), (w.heap.size, 3, .slice bo l2 cap2), (w.heap.size + 1, 0, .bool s2), (w.heap.size + 1, 1, .slice co l3 cap3), (w.heap.size + 1, 2, .bool false), (w.heap.size + 1, 3, .slice eo l4 cap4)] : List (Nat × Nat × Value)) W4 := by
  exact T_ZFD_1
 have hB0 : BX w (w.heap.size + 1 + 1 + 1) ([(w.heap.size, 0, .bool s1), (w.heap.size, 1, .slice ao l1 cap1), (w.heap.size, 2, .bool false), (w.heap.size, 3, .slice bo l2 cap2), (w.heap.size + 1, 0, .bool s2), (w.heap.size + 1, 1, .slice co l3 cap3), (w.heap.size + 1, 2, .bool false), (w.heap.size + 1, 3, .slice eo l4 cap4)] : List (Nat × Nat × Value)) W4 := by
  exact T_ZFD_2
 have hL2 : ∀ pp : Nat × Nat × Value, pp ∈ ([(w.heap.size, 0, .bool s1), (w.heap.size, 1, .slice ao l1 cap1), (w.heap.size, 2, .bool false), (w.heap.size, 3, .slice bo l2 cap2), (w.heap.size + 1, 0, .bool s2), (w.heap.size + 1, 1, .slice co l3 cap3), (w.heap.size + 1, 2, .bool false), (w.heap.size + 1, 3, .slice eo l4 cap4)] : List (Nat × Nat × Value)) → pp.1 ≠ w.heap.size + 1 + 1 := by
  exact T_ZFD_3
 have hL3 : ∀ pp : Nat × Nat × Value, pp ∈ ([(w.heap.size, 0, .bool s1), (w.heap.size, 1, .slice ao l1 cap1), (w.heap.size, 2, .bool false), (w.heap.size, 3, .slice bo l2 cap2), (w.heap.size + 1, 0, .bool s2), (w.heap.size + 1, 1, .slice co l3 cap3), (w.heap.size + 1, 2, .bool false), (w.heap.size + 1, 3, .slice eo l4 cap4)] : List (Nat × Nat × Value)) → pp.1 ≠ w.heap.size + 1 + 1 + 1 := by
  exact T_ZFD_3
 have hS0 := And.intro hA0 hB0
 clear hA0 hB0
 subst hW4
 go_enter Tryz.func268, Tryz.ntmps268
 go_upto_region 1 with fail
 refine wp_region_held_drew (S := (fun w0 => BX w (w.heap.size + 1 + 1) ([(w.heap.size, 0, .bool s1), (w.heap.size, 1, .slice ao l1 cap1), (w.heap.size, 2, .bool false), (w.heap.size, 3, .slice bo l2 cap2), (w.heap.size + 1, 0, .bool s2), (w.heap.size + 1, 1, .slice co l3 cap3), (w.heap.size + 1, 2, .bool false), (w.heap.size + 1, 3, .slice eo l4 cap4)] : List (Nat × Nat × Value)) w0 ∧ BX w (w.heap.size + 1 + 1 + 1) ([(w.heap.size, 0, .bool s1), (w.heap.size, 1, .slice ao l1 cap1), (w.heap.size, 2, .bool false), (w.heap.size, 3, .slice bo l2 cap2), (w.heap.size + 1, 0, .bool s2), (w.heap.size + 1, 1, .slice co l3 cap3), (w.heap.size + 1, 2, .bool false), (w.heap.size + 1, 3, .slice eo l4 cap4)] : List (Nat × Nat × Value)) w0)) c_16 ?_ (fun hH => ?_)
 ·exact ⟨hS0.1.drew, hS0.2.drew⟩
 try simp only [sx_]
 refine tk 0 rfl c_4 ?_
 try simp only [sx_]
 refine tk 1 rfl c_4 ?_
 try simp only [sx_]
 refine tk 3 rfl c_4 ?_
 try simp only [sx_]
 refine tk 4 rfl c_4 ?_
 try simp only [sx_]
 refine tk 10 rfl c_3 ?_
 try simp only [sx_]
 refine tk 11 rfl c_4 ?_
 try simp only [sx_]
 refine tk 12 rfl c_3 ?_
 try simp only [sx_]
 refine tk 13 rfl c_4 ?_
 try simp only [sx_]
 refine rh1 2 rfl fun K hK => ?_
 go_simp
 (go_at_call 269; (with_reducible refine (hc1 _ hH.1.base).mono ?_); rintro e t1 ⟨z1, rfl, hn1, hx1⟩; skip)
 refine hK.out _ _ ?_ fun _ => ?_
 ·(try dsimp only); exact ⟨hH.1.ext hx1, hH.2.ext hx1⟩
 clear hK K hH
 rename_i hH
 try simp only [sx_]
 refine rh1 5 rfl fun K hK => ?_
 go_simp
 (go_at_call 269; (with_reducible refine (hc2 _ hH.1.base).mono ?_); rintro e t2 ⟨z2, rfl, hn2, hx2⟩; replace hn1 := hn1.ext hx2)
 refine hK.out _ _ ?_ fun _ => ?_
 ·(try dsimp only); exact ⟨hH.1.ext hx2, hH.2.ext hx2⟩
 clear hK K hH
 rename_i hH
 try simp only [sx_]
 refine rh1 6 rfl fun K hK => ?_
 go_simp
 (go_at_call 144; (with_reducible refine (z_Add _ _ _ _ _ hn1 hn2 hS1 hS2 hS3).mono ?_); rintro e t3 ⟨z3, rfl, hn3, hx3⟩; skip)
 refine hK.out _ _ ?_ fun _ => ?_
 ·(try dsimp only); exact ⟨hH.1.ext hx3, hH.2.ext hx3⟩
 clear hK K hH
 rename_i hH
 try simp only [sx_]
 refine tk 7 rfl c_3 ?_
 try simp only [sx_]
 refine tk 8 rfl c_3 ?_
 try simp only [sx_]
 refine rh1 9 rfl fun K hK => ?_
 go_simp
 (go_at_call 232; (with_reducible refine (z_must0 _ _ _ hn3).mono ?_); rintro e t4 ⟨rfl, hx4⟩; replace hn3 := hn3.ext hx4)
 refine hK.out _ _ ?_ fun _ => ?_
 ·(try dsimp only); exact ⟨hH.1.ext hx4, hH.2.ext hx4⟩
 clear hK K hH
 rename_i hH
 try simp only [sx_]
 refine rh1 14 rfl fun K hK => ?_
 go_simp
 (go_at_call 180; (with_reducible refine (hc3 _ hH.1.base).mono ?_); rintro e t5 ⟨z5, rfl, hn5, hx5⟩; replace hn3 := hn3.ext hx5)
 refine hK.out _ _ ?_ fun _ => ?_
 ·(try dsimp only); exact ⟨hH.1.ext hx5, hH.2.ext hx5⟩
 clear hK K hH
 rename_i hH
 try simp only [sx_]
 refine tk 15 rfl c_3 ?_
 try simp only [sx_]
 refine tk 16 rfl c_3 ?_
 try simp only [sx_]
 refine rh1 17 rfl fun K hK => ?_
 go_simp
 (go_at_call 232; (with_reducible refine (z_must0 _ _ _ hn5).mono ?_); rintro e t6 ⟨rfl, hx6⟩; replace hn3 := hn3.ext hx6; replace hn5 := hn5.ext hx6; obtain ⟨s6, yo6, n6, yc6, rfl, hy6⟩ := hn3.open; obtain ⟨s7, yo7, n7, yc7, rfl, hy7⟩ := hn5.open)
 refine hK.out _ _ ?_ fun _ => ?_
 ·(try dsimp only); exact ⟨hH.1.ext hx6, hH.2.ext hx6⟩
 clear hK K hH
 rename_i hH
 try simp only [sx_]
 refine rh1 18 rfl fun K hK => ?_
 obtain ⟨⟨xa, h3a⟩, ⟨xb, h3b⟩, h3f, hnu, hsl⟩ := hH.1.box
 obtain ⟨⟨xc, h4a⟩, ⟨xd, h4b⟩, h4f, hnv, hsm⟩ := hH.2.box
 go_simp
 refine hK.out _ _ ?_ fun _ => ?_
 ·exact T_ZFD_4
 clear hK K hH
 rename_i hH
 try simp only [sx_]
 refine rh1 19 rfl fun K hK => ?_
 have h4a2 := h4a
 go_simp
 refine hK.out _ _ ?_ fun _ => ?_
 ·exact T_ZFD_5
 clear hK K hH
 rename_i hH
 try simp only [sx_]
 refine wpAnyH_done c_16 ?_ _
 go_wp2_with fail
 refine bodyPost_ret (v := .tuple #[.agg #[.bool s6, .slice yo6 n6 yc6], .agg #[.bool s7, .slice yo7 n7 yc7]]) ?_ rfl ⟨_, _, rfl, ?_, ?_, ?_⟩
 ·simp [results, Tryz.results268, go_sem, ↓IntWalk.iteOmega, h3a, h3b, h4a, h4b]
 ·exact T_ZFD_6
 ·exact T_ZFD_7
 ·exact hH.1.base
theorem z_mkSub (va vb : Value) (x y : Rat) (a b : Nat) (w : World) (hf : Fr w va x) (hg : Fr w vb y) (hx : Fb x a) (hy : Fb y b) (hab : a + b ≤ 130000) :
    Calls Tryz.prog 270 #[va, vb] w fun e w' => ∃ u v, e = .returned (.tuple #[u, v]) ∧ Wid w' u (x.num * y.den - y.num * x.den) ∧ Wid w' v ((x.den * y.den : Nat) : Int) ∧ Ext w w' := by
 obtain ⟨sx, sdx⟩ := fb_small hx (by omega)
 obtain ⟨sy, sdy⟩ := fb_small hy (by omega)
 obtain ⟨s1, ao, l1, cap1, bo, l2, cap2, rfl⟩ := hf.shape
 obtain ⟨s2, co, l3, cap3, eo, l4, cap4, rfl⟩ := hg.shape
 have hc3 := fun w1 (k1 : Ext w w1) => z_Mul _ _ (x.den : Int) y.den w1 (hf.parts.2.wid.ext k1) (hg.parts.2.wid.ext k1) (by unfold Sz; rw [Int.natAbs_natCast]; exact sdx) (by unfold Sz; rw [Int.natAbs_natCast]; exact sdy) c_52
 rw [Int.natCast_mul]
 have hS1 : Sz (x.num * y.den) := small_bits (cross_lt hx hy).1 (by omega)
 have hS2 : Sz (y.num * x.den) := small_bits (cross_lt hx hy).2 (by omega)
 have hS3 : Sz (x.num * y.den - y.num * x.den) := small_bits (k := a + b + 1) c_65 (by omega)
 have hc1 := fun w1 (k1 : Ext w w1) => z_cross _ _ x y a b w1 (hf.ext k1) (hg.ext k1) hx hy (by omega)
 have hc2 := fun w1 (k1 : Ext w w1) => z_cross _ _ y x b a w1 (hg.ext k1) (hf.ext k1) hy hx (by omega)
 generalize x.num * (y.den : Int) = N1 at *
 generalize y.num * (x.den : Int) = N2 at *
 generalize (x.den : Int) * (y.den : Int) = D at *
 clear hf hg hx hy sx sy sdx sdy
 obtain ⟨W4, hW4⟩ : ∃ W4, (((w.alloc (.cells #[.bool s1, .slice ao l1 cap1, .bool false, .slice bo l2 cap2] 161)).alloc (.cells #[.bool s2, .slice co l3 cap3, .bool false, .slice eo l4 cap4] 161)).alloc (.cells #[.bool false, .slice none 0 0] 159)).alloc (.cells #[.bool false, .slice none 0 0] 159) = W4 := ⟨_, rfl⟩
 have hWs : W4.heap.size = w.heap.size + 1 + 1 + 1 + 1 := by rw [← hW4]; simp
 have hEW : Ext w W4 := by rw [← hW4]; exact ((((Ext.refl w).alloc _).alloc _).alloc _).alloc _
 have hA0 : BX w (w.heap.size + 1 + 1) ([(w.heap.size, 0, .bool s1), (w.heap.size, 1, .slice ao l1 cap1), (w.heap.size, 2, .bool false), (w.heap.size, 3, .slice bo l2 cap2), (w.heap.size + 1, 0, .bool s2), (w.heap.size + 1, 1, .slice co l3 cap3), (w.heap.size + 1, 2, .bool false), (w.heap.size + 1, 3, .slice eo l4 cap4)] : List (Nat × Nat × Value)) W4 := by
  exact T_ZFD_1
 have hB0 : BX w (w.heap.size + 1 + 1 + 1) ([(w.heap.size, 0, .bool s1), (w.heap.size, 1, .slice ao l1 cap1), (w.heap.size, 2, .bool false), (w.heap.size, 3, .slice bo l2 cap2), (w.heap.size + 1, 0, .bool s2), (w.heap.size + 1, 1, .slice co l3 cap3), (w.heap.size + 1, 2, .bool false), (w.heap.size + 1, 3, .slice eo l4 cap4)] : List (Nat × Nat × Value)) W4 := by
  exact T_ZFD_2
 have hL2 : ∀ pp : Nat × Nat × Value, pp ∈ ([(w.heap.size, 0, .bool s1), (w.heap.size, 1, .slice ao l1 cap1), (w.heap.size, 2, .bool false), (w.heap.size, 3, .slice bo l2 cap2), (w.heap.size + 1, 0, .bool s2), (w.heap.size + 1, 1, .slice co l3 cap3), (w.heap.size + 1, 2, .bool false), (w.heap.size + 1, 3, .slice eo l4 cap4)] : List (Nat × Nat × Value)) → pp.1 ≠ w.heap.size + 1 + 1 := by
  exact T_ZFD_3
 have hL3 : ∀ pp : Nat × Nat × Value, pp ∈ ([(w.heap.size, 0, .bool s1), (w.heap.size, 1, .slice ao l1 cap1), (w.heap.size, 2, .bool false), (w.heap.size, 3, .slice bo l2 cap2), (w.heap.size + 1, 0, .bool s2), (w.heap.size + 1, 1, .slice co l3 cap3), (w.heap.size + 1, 2, .bool false), (w.heap.size + 1, 3, .slice eo l4 cap4)] : List (Nat × Nat × Value)) → pp.1 ≠ w.heap.size + 1 + 1 + 1 := by
  exact T_ZFD_3
 have hS0 := And.intro hA0 hB0
 clear hA0 hB0
 subst hW4
 go_enter Tryz.func270, Tryz.ntmps270
 go_upto_region 1 with fail
 refine wp_region_held_drew (S := (fun w0 => BX w (w.heap.size + 1 + 1) ([(w.heap.size, 0, .bool s1), (w.heap.size, 1, .slice ao l1 cap1), (w.heap.size, 2, .bool false), (w.heap.size, 3, .slice bo l2 cap2), (w.heap.size + 1, 0, .bool s2), (w.heap.size + 1, 1, .slice co l3 cap3), (w.heap.size + 1, 2, .bool false), (w.heap.size + 1, 3, .slice eo l4 cap4)] : List (Nat × Nat × Value)) w0 ∧ BX w (w.heap.size + 1 + 1 + 1) ([(w.heap.size, 0, .bool s1), (w.heap.size, 1, .slice ao l1 cap1), (w.heap.size, 2, .bool false), (w.heap.size, 3, .slice bo l2 cap2), (w.heap.size + 1, 0, .bool s2), (w.heap.size + 1, 1, .slice co l3 cap3), (w.heap.size + 1, 2, .bool false), (w.heap.size + 1, 3, .slice eo l4 cap4)] : List (Nat × Nat × Value)) w0)) c_16 ?_ (fun hH => ?_)
 ·exact ⟨hS0.1.drew, hS0.2.drew⟩
 try simp only [sx_]
 refine tk 0 rfl c_4 ?_
 try simp only [sx_]
 refine tk 1 rfl c_4 ?_
 try simp only [sx_]
 refine tk 3 rfl c_4 ?_
 try simp only [sx_]
 refine tk 4 rfl c_4 ?_
 try simp only [sx_]
 refine tk 10 rfl c_3 ?_
 try simp only [sx_]
 refine tk 11 rfl c_4 ?_
 try simp only [sx_]
 refine tk 12 rfl c_3 ?_
 try simp only [sx_]
 refine tk 13 rfl c_4 ?_
 try simp only [sx_]
 refine rh1 2 rfl fun K hK => ?_
 go_simp
 (go_at_call 269; (with_reducible refine (hc1 _ hH.1.base).mono ?_); rintro e t1 ⟨z1, rfl, hn1, hx1⟩; skip)
 refine hK.out _ _ ?_ fun _ => ?_
 ·(try dsimp only); exact ⟨hH.1.ext hx1, hH.2.ext hx1⟩
 clear hK K hH
 rename_i hH
 try simp only [sx_]
 refine rh1 5 rfl fun K hK => ?_
 go_simp
 (go_at_call 269; (with_reducible refine (hc2 _ hH.1.base).mono ?_); rintro e t2 ⟨z2, rfl, hn2, hx2⟩; replace hn1 := hn1.ext hx2)
 refine hK.out _ _ ?_ fun _ => ?_
 ·(try dsimp only); exact ⟨hH.1.ext hx2, hH.2.ext hx2⟩
 clear hK K hH
 rename_i hH
 try simp only [sx_]
 refine rh1 6 rfl fun K hK => ?_
 go_simp
 (go_at_call 142; (with_reducible refine (z_Sub _ _ _ _ _ hn1 hn2 hS1 hS2 hS3).mono ?_); rintro e t3 ⟨z3, rfl, hn3, hx3⟩; skip)
 refine hK.out _ _ ?_ fun _ => ?_
 ·(try dsimp only); exact ⟨hH.1.ext hx3, hH.2.ext hx3⟩
 clear hK K hH
 rename_i hH
 try simp only [sx_]
 refine tk 7 rfl c_3 ?_
 try simp only [sx_]
 refine tk 8 rfl c_3 ?_
 try simp only [sx_]
 refine rh1 9 rfl fun K hK => ?_
 go_simp
 (go_at_call 232; (with_reducible refine (z_must0 _ _ _ hn3).mono ?_); rintro e t4 ⟨rfl, hx4⟩; replace hn3 := hn3.ext hx4)
 refine hK.out _ _ ?_ fun _ => ?_
 ·(try dsimp only); exact ⟨hH.1.ext hx4, hH.2.ext hx4⟩
 clear hK K hH
 rename_i hH
 try simp only [sx_]
 refine rh1 14 rfl fun K hK => ?_
 go_simp
 (go_at_call 180; (with_reducible refine (hc3 _ hH.1.base).mono ?_); rintro e t5 ⟨z5, rfl, hn5, hx5⟩; replace hn3 := hn3.ext hx5)
 refine hK.out _ _ ?_ fun _ => ?_
 ·(try dsimp only); exact ⟨hH.1.ext hx5, hH.2.ext hx5⟩
 clear hK K hH
 rename_i hH
 try simp only [sx_]
 refine tk 15 rfl c_3 ?_
 try simp only [sx_]
 refine tk 16 rfl c_3 ?_
 try simp only [sx_]
 refine rh1 17 rfl fun K hK => ?_
 go_simp
 (go_at_call 232; (with_reducible refine (z_must0 _ _ _ hn5).mono ?_); rintro e t6 ⟨rfl, hx6⟩; replace hn3 := hn3.ext hx6; replace hn5 := hn5.ext hx6; obtain ⟨s6, yo6, n6, yc6, rfl, hy6⟩ := hn3.open; obtain ⟨s7, yo7, n7, yc7, rfl, hy7⟩ := hn5.open)
 refine hK.out _ _ ?_ fun _ => ?_
 ·(try dsimp only); exact ⟨hH.1.ext hx6, hH.2.ext hx6⟩
 clear hK K hH
 rename_i hH
 try simp only [sx_]
 refine rh1 18 rfl fun K hK => ?_
 obtain ⟨⟨xa, h3a⟩, ⟨xb, h3b⟩, h3f, hnu, hsl⟩ := hH.1.box
 obtain ⟨⟨xc, h4a⟩, ⟨xd, h4b⟩, h4f, hnv, hsm⟩ := hH.2.box
 go_simp
 refine hK.out _ _ ?_ fun _ => ?_
 ·exact T_ZFD_4
 clear hK K hH
 rename_i hH
 try simp only [sx_]
 refine rh1 19 rfl fun K hK => ?_
 have h4a2 := h4a
 go_simp
 refine hK.out _ _ ?_ fun _ => ?_
 ·exact T_ZFD_5
 clear hK K hH
 rename_i hH
 try simp only [sx_]
 refine wpAnyH_done c_16 ?_ _
 go_wp2_with fail
 refine bodyPost_ret (v := .tuple #[.agg #[.bool s6, .slice yo6 n6 yc6], .agg #[.bool s7, .slice yo7 n7 yc7]]) ?_ rfl ⟨_, _, rfl, ?_, ?_, ?_⟩
 ·simp [results, Tryz.results270, go_sem, ↓IntWalk.iteOmega, h3a, h3b, h4a, h4b]
 ·exact T_ZFD_6
 ·exact T_ZFD_7
 ·exact hH.1.base
theorem z_mkMul (va vb : Value) (x y : Rat) (a b : Nat) (w : World) (hf : Fr w va x) (hg : Fr w vb y) (hx : Fb x a) (hy : Fb y b) (hab : a + b ≤ 130000) :
    Calls Tryz.prog 267 #[va, vb] w fun e w' => ∃ u v, e = .returned (.tuple #[u, v]) ∧ Wid w' u (x.num * y.num) ∧ Wid w' v ((x.den * y.den : Nat) : Int) ∧ Ext w w' := by
 obtain ⟨sx, sdx⟩ := fb_small hx (by omega)
 obtain ⟨sy, sdy⟩ := fb_small hy (by omega)
 obtain ⟨s1, ao, l1, cap1, bo, l2, cap2, rfl⟩ := hf.shape
 obtain ⟨s2, co, l3, cap3, eo, l4, cap4, rfl⟩ := hg.shape
 have hc3 := fun w1 (k1 : Ext w w1) => z_Mul _ _ (x.den : Int) y.den w1 (hf.parts.2.wid.ext k1) (hg.parts.2.wid.ext k1) (by unfold Sz; rw [Int.natAbs_natCast]; exact sdx) (by unfold Sz; rw [Int.natAbs_natCast]; exact sdy) c_52
 rw [Int.natCast_mul]
 have hm1 := fun w1 (k1 : Ext w w1) => z_Mul _ _ x.num y.num w1 (hf.parts.1.ext k1) (hg.parts.1.ext k1) sx sy (by unfold Sz; exact small_bits (by rw [Int.natAbs_mul]; exact mul_lt2 hx.1 hy.1) (by omega))
 generalize x.num * y.num = N at *
 generalize (x.den : Int) * (y.den : Int) = D at *
 clear hf hg hx hy sx sy sdx sdy
 obtain ⟨W4, hW4⟩ : ∃ W4, (((w.alloc (.cells #[.bool s1, .slice ao l1 cap1, .bool false, .slice bo l2 cap2] 161)).alloc (.cells #[.bool s2, .slice co l3 cap3, .bool false, .slice eo l4 cap4] 161)).alloc (.cells #[.bool false, .slice none 0 0] 159)).alloc (.cells #[.bool false, .slice none 0 0] 159) = W4 := ⟨_, rfl⟩
 have hWs : W4.heap.size = w.heap.size + 1 + 1 + 1 + 1 := by rw [← hW4]; simp
 have hEW : Ext w W4 := by rw [← hW4]; exact ((((Ext.refl w).alloc _).alloc _).alloc _).alloc _
 have hA0 : BX w (w.heap.size + 1 + 1) ([(w.heap.size, 0, .bool s1), (w.heap.size, 1, .slice ao l1 cap1), (w.heap.size, 2, .bool false), (w.heap.size, 3, .slice bo l2 cap2), (w.heap.size + 1, 0, .bool s2), (w.heap.size + 1, 1, .slice co l3 cap3), (w.heap.size + 1, 2, .bool false), (w.heap.size + 1, 3, .slice eo l4 cap4)] : List (Nat × Nat × Value)) W4 := by
  exact T_ZFD_1
 have hB0 : BX w (w.heap.size + 1 + 1 + 1) ([(w.heap.size, 0, .bool s1), (w.heap.size, 1, .slice ao l1 cap1), (w.heap.size, 2, .bool false), (w.heap.size, 3, .slice bo l2 cap2), (w.heap.size + 1, 0, .bool s2), (w.heap.size + 1, 1, .slice co l3 cap3), (w.heap.size + 1, 2, .bool false), (w.heap.size + 1, 3, .slice eo l4 cap4)] : List (Nat × Nat × Value)) W4 := by
  exact T_ZFD_2
 have hL2 : ∀ pp : Nat × Nat × Value, pp ∈ ([(w.heap.size, 0, .bool s1), (w.heap.size, 1, .slice ao l1 cap1), (w.heap.size, 2, .bool false), (w.heap.size, 3, .slice bo l2 cap2), (w.heap.size + 1, 0, .bool s2), (w.heap.size + 1, 1, .slice co l3 cap3), (w.heap.size + 1, 2, .bool false), (w.heap.size + 1, 3, .slice eo l4 cap4)] : List (Nat × Nat × Value)) → pp.1 ≠ w.heap.size + 1 + 1 := by
  exact T_ZFD_3
 have hL3 : ∀ pp : Nat × Nat × Value, pp ∈ ([(w.heap.size, 0, .bool s1), (w.heap.size, 1, .slice ao l1 cap1), (w.heap.size, 2, .bool false), (w.heap.size, 3, .slice bo l2 cap2), (w.heap.size + 1, 0, .bool s2), (w.heap.size + 1, 1, .slice co l3 cap3), (w.heap.size + 1, 2, .bool false), (w.heap.size + 1, 3, .slice eo l4 cap4)] : List (Nat × Nat × Value)) → pp.1 ≠ w.heap.size + 1 + 1 + 1 := by
  exact T_ZFD_3
 have hS0 := And.intro hA0 hB0
 clear hA0 hB0
 subst hW4
 go_enter Tryz.func267, Tryz.ntmps267
 go_upto_region 1 with fail
 refine wp_region_held_drew (S := (fun w0 => BX w (w.heap.size + 1 + 1) ([(w.heap.size, 0, .bool s1), (w.heap.size, 1, .slice ao l1 cap1), (w.heap.size, 2, .bool false), (w.heap.size, 3, .slice bo l2 cap2), (w.heap.size + 1, 0, .bool s2), (w.heap.size + 1, 1, .slice co l3 cap3), (w.heap.size + 1, 2, .bool false), (w.heap.size + 1, 3, .slice eo l4 cap4)] : List (Nat × Nat × Value)) w0 ∧ BX w (w.heap.size + 1 + 1 + 1) ([(w.heap.size, 0, .bool s1), (w.heap.size, 1, .slice ao l1 cap1), (w.heap.size, 2, .bool false), (w.heap.size, 3, .slice bo l2 cap2), (w.heap.size + 1, 0, .bool s2), (w.heap.size + 1, 1, .slice co l3 cap3), (w.heap.size + 1, 2, .bool false), (w.heap.size + 1, 3, .slice eo l4 cap4)] : List (Nat × Nat × Value)) w0)) c_16 ?_ (fun hH => ?_)
 ·exact ⟨hS0.1.drew, hS0.2.drew⟩
 try simp only [sx_]
 refine tk 0 rfl c_3 ?_
 try simp only [sx_]
 refine tk 1 rfl c_4 ?_
 try simp only [sx_]
 refine tk 2 rfl c_3 ?_
 try simp only [sx_]
 refine tk 3 rfl c_4 ?_
 try simp only [sx_]
 refine tk 8 rfl c_3 ?_
 try simp only [sx_]
 refine tk 9 rfl c_4 ?_
 try simp only [sx_]
 refine tk 10 rfl c_3 ?_
 try simp only [sx_]
 refine tk 11 rfl c_4 ?_
 try simp only [sx_]
 refine rh1 4 rfl fun K hK => ?_
 go_simp
 (go_at_call 180; (with_reducible refine (hm1 _ hH.1.base).mono ?_); rintro e t3 ⟨z3, rfl, hn3, hx3⟩; skip)
 refine hK.out _ _ ?_ fun _ => ?_
 ·(try dsimp only); exact ⟨hH.1.ext hx3, hH.2.ext hx3⟩
 clear hK K hH
 rename_i hH
 try simp only [sx_]
 refine tk 5 rfl c_3 ?_
 try simp only [sx_]
 refine tk 6 rfl c_3 ?_
 try simp only [sx_]
 refine rh1 7 rfl fun K hK => ?_
 go_simp
 (go_at_call 232; (with_reducible refine (z_must0 _ _ _ hn3).mono ?_); rintro e t4 ⟨rfl, hx4⟩; replace hn3 := hn3.ext hx4)
 refine hK.out _ _ ?_ fun _ => ?_
 ·(try dsimp only); exact ⟨hH.1.ext hx4, hH.2.ext hx4⟩
 clear hK K hH
 rename_i hH
 try simp only [sx_]
 refine rh1 12 rfl fun K hK => ?_
 go_simp
 (go_at_call 180; (with_reducible refine (hc3 _ hH.1.base).mono ?_); rintro e t5 ⟨z5, rfl, hn5, hx5⟩; replace hn3 := hn3.ext hx5)
 refine hK.out _ _ ?_ fun _ => ?_
 ·(try dsimp only); exact ⟨hH.1.ext hx5, hH.2.ext hx5⟩
 clear hK K hH
 rename_i hH
 try simp only [sx_]
 refine tk 13 rfl c_3 ?_
 try simp only [sx_]
 refine tk 14 rfl c_3 ?_
 try simp only [sx_]
 refine rh1 15 rfl fun K hK => ?_
 go_simp
 (go_at_call 232; (with_reducible refine (z_must0 _ _ _ hn5).mono ?_); rintro e t6 ⟨rfl, hx6⟩; replace hn3 := hn3.ext hx6; replace hn5 := hn5.ext hx6; obtain ⟨s6, yo6, n6, yc6, rfl, hy6⟩ := hn3.open; obtain ⟨s7, yo7, n7, yc7, rfl, hy7⟩ := hn5.open)
 refine hK.out _ _ ?_ fun _ => ?_
 ·(try dsimp only); exact ⟨hH.1.ext hx6, hH.2.ext hx6⟩
 clear hK K hH
 rename_i hH
 try simp only [sx_]
 refine rh1 16 rfl fun K hK => ?_
 obtain ⟨⟨xa, h3a⟩, ⟨xb, h3b⟩, h3f, hnu, hsl⟩ := hH.1.box
 obtain ⟨⟨xc, h4a⟩, ⟨xd, h4b⟩, h4f, hnv, hsm⟩ := hH.2.box
 go_simp
 refine hK.out _ _ ?_ fun _ => ?_
 ·exact T_ZFD_4
 clear hK K hH
 rename_i hH
 try simp only [sx_]
 refine rh1 17 rfl fun K hK => ?_
 have h4a2 := h4a
 go_simp
 refine hK.out _ _ ?_ fun _ => ?_
 ·exact T_ZFD_5
 clear hK K hH
 rename_i hH
 try simp only [sx_]
 refine wpAnyH_done c_16 ?_ _
 go_wp2_with fail
 refine bodyPost_ret (v := .tuple #[.agg #[.bool s6, .slice yo6 n6 yc6], .agg #[.bool s7, .slice yo7 n7 yc7]]) ?_ rfl ⟨_, _, rfl, ?_, ?_, ?_⟩
 ·simp [results, Tryz.results267, go_sem, ↓IntWalk.iteOmega, h3a, h3b, h4a, h4b]
 ·exact T_ZFD_6
 ·exact T_ZFD_7
 ·exact hH.1.base
theorem T_ZFE_5 {p : Prop} (h : p := by
 refine Fr.box (Fr.box (Fr.box (Fr.box hn4 ?_) ?_) ?_) ?_ <;> (repeat (first | with_reducible exact hnu | with_reducible refine NoU.set ?_ (fun z e => by cases e)))) : p := h
theorem T_ZFE_4 {p : Prop} (h : p := by
 have := (NoU.new ((w.alloc (.cells #[.bool s1, .slice ao l1 cap1, .bool false, .slice bo l2 cap2] 161)).alloc (.cells #[.bool s2, .slice co l3 cap3, .bool false, .slice eo l4 cap4] 161)) #[.bool false, .slice none 0 0, .bool false, .slice none 0 0] 161 (noU4 (by simp) (by simp) (by simp) (by simp))).ext (by simp) hA0
 simpa using this) : p := h
theorem T_ZFE_3 {p : Prop} (h : p := by
 have := (NoU.new (((w.alloc (.cells #[.bool s1, .slice ao l1 cap1, .bool false, .slice bo l2 cap2] 161)).alloc (.cells #[.bool s2, .slice co l3 cap3, .bool false, .slice eo l4 cap4] 161)).alloc (.cells #[.bool false, .slice none 0 0, .bool false, .slice none 0 0] 161)) #[.int .i64 0] 30 (noU1 (by simp))).ext (by simp) hA0
 simpa using this) : p := h
theorem T_ZFE_2 {p : Prop} (h : p := by
 have := ((NoU.new ((w.alloc (.cells #[.bool s1, .slice ao l1 cap1, .bool false, .slice bo l2 cap2] 161)).alloc (.cells #[.bool s2, .slice co l3 cap3, .bool false, .slice eo l4 cap4] 161)) #[.bool false, .slice none 0 0, .bool false, .slice none 0 0] 161 (noU4 (by simp) (by simp) (by simp) (by simp))).alloc (by simp) #[.int .i64 0] 30).ext (by simp) hA0
 simpa using this) : p := h
theorem T_ZFE_1 {p : Prop} (h : p := by
 refine leaves_cons (f := 184) (args := #[.pointer (some ⟨w.heap.size + 1 + 1 + 1, 0, none⟩)]) (by simp) (by simp [go_sem]) ?_
 refine (w_catch _ _).mono ?_
 rintro e u' w'' ⟨rfl, rfl, rfl⟩
 refine ⟨.tuple #[.agg #[.bool s8, .slice ao8 l8 cap8, .bool false, .slice bo8 l9 cap9], .int .i64 0], ?_, _, rfl, ?_, ?_⟩
 ·simp [results, Tryz.results266, go_sem, ↓IntWalk.iteOmega, *]
 ·refine Fr.box (Fr.box (Fr.box (Fr.box (Fr.box hn4 ?_) ?_) ?_) ?_) ?_ <;> (repeat (first | with_reducible exact hnu | with_reducible exact hnv | with_reducible refine NoU.set ?_ (fun z e => by cases e)))
 ·repeat (first | with_reducible exact Ext.refl _ | with_reducible assumption | with_reducible refine Ext.alloc ?_ _ | with_reducible refine Ext.setCell ?_ c_19 _ | with_reducible refine Ext.drewN ?_ _ | with_reducible refine Ext.drew ?_ | with_reducible refine Ext.trans ?_ c_9)) : p := h
theorem Fs.box {w : World} {v : Value} {sa : Bool} {p q B j : Nat} {x : Value} (h : Fs w v sa p q) (hB : NoU w B) : Fs (w.setCell ⟨B, j, none⟩ x) v sa p q := by
 obtain ⟨u, s, e, hu, hs⟩ := h; exact ⟨u, s, e, hu.box hB, hs.box hB⟩
theorem Fr.box {w : World} {v : Value} {x : Rat} {B j : Nat} {z : Value} (h : Fr w v x) (hB : NoU w B) : Fr (w.setCell ⟨B, j, none⟩ z) v x := Fs.box h hB
theorem z_bothAdd (va vb : Value) (x y : Rat) (a b : Nat) (w : World) (hf : Fr w va x) (hg : Fr w vb y) (hx : Fb x a) (hy : Fb y b) (hab : a + b ≤ 130000) :
    Calls Tryz.prog 266 #[va, vb, .func (.func 268) #[] #[]] w fun e w' => ∃ u, e = .returned (.tuple #[u, .int .i64 0]) ∧ Fr w' u (x + y) ∧ Ext w w' := by
 rw [add_mk]
 obtain ⟨s1, ao, l1, cap1, bo, l2, cap2, rfl⟩ := hf.shape
 obtain ⟨s2, co, l3, cap3, eo, l4, cap4, rfl⟩ := hg.shape
 have hk1 := fun w1 (k1 : Ext w w1) => z_fCheck _ x a w1 (hf.ext k1) hx (by omega)
 have hk2 := fun w1 (k1 : Ext w w1) => z_fCheck _ y b w1 (hg.ext k1) hy (by omega)
 have hk3 := fun w1 (k1 : Ext w w1) => z_mkAdd _ _ x y a b w1 (hf.ext k1) (hg.ext k1) hx hy hab
 have hS : Sz (x.num * y.den + y.num * x.den) := small_bits (k := a + b + 1) c_65 (by omega)
 have hS2 : Small (x.den * y.den) := small_bits (mul_lt2 hx.2 hy.2) (by omega)
 have hD : 0 < x.den * y.den := Nat.mul_pos (den_pos' x) (den_pos' y)
 have hk4 := fun w1 va vb (ha : Wid w1 va (x.num * y.den + y.num * x.den)) (hb : Wid w1 vb ((x.den * y.den : Nat) : Int)) => z_reduce va vb _ _ w1 ha hb.nat hS hS2 hD
 generalize mkRat (x.num * y.den + y.num * x.den) (x.den * y.den) = X at *
 generalize (x.num * y.den + y.num * x.den) = nn at *
 generalize ((x.den * y.den : Nat) : Int) = dd at *
 clear hS hS2 hD hx hy hab hf hg
 go_enter_defers Tryz.func266, Tryz.ntmps266
 go_upto_region 4 with (first
  | (go_at_call 139; (with_reducible refine (hk1 _ ex_).mono ?_); rintro e w1 ⟨rfl, hb1⟩; obtain ⟨_, _, ⟨hc1, hf1⟩, hz1⟩ := hb1.c3; (try simp only [wsz] at hz1 hc1 hf1); clear hk1)
  | (go_at_call 139; (with_reducible refine (hk2 _ ex_).mono ?_); rintro e w2 ⟨rfl, hb2⟩; obtain ⟨_, _, ⟨hc2, hf2⟩, hz2⟩ := hb2.c3; (try simp only [wsz] at hz2 hc2 hf2); clear hk2)
  | (go_at_call 185; (with_reducible refine (w_want0 _).mono ?_); rintro e w9 ⟨rfl, h9⟩; replace h9 := h9.symm; subst h9))
 have hA0 : Ext ((((w.alloc (.cells #[.bool s1, .slice ao l1 cap1, .bool false, .slice bo l2 cap2] 161)).alloc (.cells #[.bool s2, .slice co l3 cap3, .bool false, .slice eo l4 cap4] 161)).alloc (.cells #[.bool false, .slice none 0 0, .bool false, .slice none 0 0] 161)).alloc (.cells #[.int .i64 0] 30)) w2 := ex_
 have hnu : NoU w2 (w.heap.size + 1 + 1) := by
  exact T_ZFE_2
 have hnv : NoU w2 (w.heap.size + 1 + 1 + 1) := by
  exact T_ZFE_3
 have hsz2 : w.heap.size + 1 + 1 + 1 < w2.heap.size := by have := hA0.size; simp only [World.size_alloc] at this; omega
 go_wp2_with (first
  | (go_at_call 268; (with_reducible refine (hk3 _ ex_).mono ?_); rintro e w3 ⟨z3, z4, rfl, hn3, hn4, hb3⟩; obtain ⟨_, _, ⟨hc3, hf3⟩, hz3⟩ := hb3.c3; (try simp only [wsz] at hz3 hc3 hf3); replace hnu := hnu.ext (by omega) hb3; replace hnv := hnv.ext (by omega) hb3)
  | (go_at_call 188; (with_reducible refine (hk4 _ _ _ hn3 hn4).mono ?_); clear hn4; rintro e w4 ⟨y4, rfl, hn4, hb4⟩; obtain ⟨s8, ao8, l8, cap8, bo8, l9, cap9, rfl⟩ := hn4.shape; obtain ⟨_, _, ⟨hc4, hf4⟩, hz4⟩ := hb4.c3; (try simp only [wsz] at hz4 hc4 hf4); replace hnu := hnu.ext (by omega) hb4; replace hnv := hnv.ext (by omega) hb4))
 exact T_ZFE_1
theorem z_fAdd (va vb : Value) (x y : Rat) (a b : Nat) (w : World) (hf : Fr w va x) (hg : Fr w vb y) (hx : Fb x a) (hy : Fb y b) (hab : a + b ≤ 130000) :
    Calls Tryz.prog 255 #[va, vb] w fun e w' => ∃ u, e = .returned (.tuple #[u, .int .i64 0]) ∧ Fr w' u (x + y) ∧ Ext w w' := by
 obtain ⟨s1, ao, l1, cap1, bo, l2, cap2, rfl⟩ := hf.shape
 obtain ⟨s2, co, l3, cap3, eo, l4, cap4, rfl⟩ := hg.shape
 have hk1 := fun w1 (k1 : Ext w w1) => z_bothAdd _ _ x y a b w1 (hf.ext k1) (hg.ext k1) hx hy hab
 generalize x + y = X at *
 clear hx hy hab hf hg
 go_enter Tryz.func255, Tryz.ntmps255
 go_wp2_with (go_at_call 266; (with_reducible refine (hk1 _ ex_).mono ?_); rintro e w4 ⟨y4, rfl, hn4, hb4⟩; obtain ⟨s8, ao8, l8, cap8, bo8, l9, cap9, rfl⟩ := hn4.shape; obtain ⟨_, _, ⟨hc4, hf4⟩, hz4⟩ := hb4.c3; (try simp only [wsz] at hz4 hc4 hf4))
 have hA0 : Ext (((w.alloc (.cells #[.bool s1, .slice ao l1 cap1, .bool false, .slice bo l2 cap2] 161)).alloc (.cells #[.bool s2, .slice co l3 cap3, .bool false, .slice eo l4 cap4] 161)).alloc (.cells #[.bool false, .slice none 0 0, .bool false, .slice none 0 0] 161)) w4 := ex_
 have hnu : NoU w4 (w.heap.size + 1 + 1) := by
  exact T_ZFE_4
 refine bodyPost_ret (v := .tuple #[.agg #[.bool s8, .slice ao8 l8 cap8, .bool false, .slice bo8 l9 cap9], .int .i64 0]) ?_ rfl ⟨_, rfl, ?_, ?_⟩
 ·simp [results, Tryz.results255, go_sem, ↓IntWalk.iteOmega, *]
 ·exact T_ZFE_5
 ·exact b_6
theorem z_bothSub (va vb : Value) (x y : Rat) (a b : Nat) (w : World) (hf : Fr w va x) (hg : Fr w vb y) (hx : Fb x a) (hy : Fb y b) (hab : a + b ≤ 130000) :
    Calls Tryz.prog 266 #[va, vb, .func (.func 270) #[] #[]] w fun e w' => ∃ u, e = .returned (.tuple #[u, .int .i64 0]) ∧ Fr w' u (x - y) ∧ Ext w w' := by
 rw [sub_mk]
 obtain ⟨s1, ao, l1, cap1, bo, l2, cap2, rfl⟩ := hf.shape
 obtain ⟨s2, co, l3, cap3, eo, l4, cap4, rfl⟩ := hg.shape
 have hk1 := fun w1 (k1 : Ext w w1) => z_fCheck _ x a w1 (hf.ext k1) hx (by omega)
 have hk2 := fun w1 (k1 : Ext w w1) => z_fCheck _ y b w1 (hg.ext k1) hy (by omega)
 have hk3 := fun w1 (k1 : Ext w w1) => z_mkSub _ _ x y a b w1 (hf.ext k1) (hg.ext k1) hx hy hab
 have hS : Sz (x.num * y.den - y.num * x.den) := small_bits (k := a + b + 1) c_65 (by omega)
 have hS2 : Small (x.den * y.den) := small_bits (mul_lt2 hx.2 hy.2) (by omega)
 have hD : 0 < x.den * y.den := Nat.mul_pos (den_pos' x) (den_pos' y)
 have hk4 := fun w1 va vb (ha : Wid w1 va (x.num * y.den - y.num * x.den)) (hb : Wid w1 vb ((x.den * y.den : Nat) : Int)) => z_reduce va vb _ _ w1 ha hb.nat hS hS2 hD
 generalize mkRat (x.num * y.den - y.num * x.den) (x.den * y.den) = X at *
 generalize (x.num * y.den - y.num * x.den) = nn at *
 generalize ((x.den * y.den : Nat) : Int) = dd at *
 clear hS hS2 hD hx hy hab hf hg
 go_enter_defers Tryz.func266, Tryz.ntmps266
 go_upto_region 4 with (first
  | (go_at_call 139; (with_reducible refine (hk1 _ ex_).mono ?_); rintro e w1 ⟨rfl, hb1⟩; obtain ⟨_, _, ⟨hc1, hf1⟩, hz1⟩ := hb1.c3; (try simp only [wsz] at hz1 hc1 hf1); clear hk1)
  | (go_at_call 139; (with_reducible refine (hk2 _ ex_).mono ?_); rintro e w2 ⟨rfl, hb2⟩; obtain ⟨_, _, ⟨hc2, hf2⟩, hz2⟩ := hb2.c3; (try simp only [wsz] at hz2 hc2 hf2); clear hk2)
  | (go_at_call 185; (with_reducible refine (w_want0 _).mono ?_); rintro e w9 ⟨rfl, h9⟩; replace h9 := h9.symm; subst h9))
 have hA0 : Ext ((((w.alloc (.cells #[.bool s1, .slice ao l1 cap1, .bool false, .slice bo l2 cap2] 161)).alloc (.cells #[.bool s2, .slice co l3 cap3, .bool false, .slice eo l4 cap4] 161)).alloc (.cells #[.bool false, .slice none 0 0, .bool false, .slice none 0 0] 161)).alloc (.cells #[.int .i64 0] 30)) w2 := ex_
 have hnu : NoU w2 (w.heap.size + 1 + 1) := by
  exact T_ZFE_2
 have hnv : NoU w2 (w.heap.size + 1 + 1 + 1) := by
  exact T_ZFE_3
 have hsz2 : w.heap.size + 1 + 1 + 1 < w2.heap.size := by have := hA0.size; simp only [World.size_alloc] at this; omega
 go_wp2_with (first
  | (go_at_call 270; (with_reducible refine (hk3 _ ex_).mono ?_); rintro e w3 ⟨z3, z4, rfl, hn3, hn4, hb3⟩; obtain ⟨_, _, ⟨hc3, hf3⟩, hz3⟩ := hb3.c3; (try simp only [wsz] at hz3 hc3 hf3); replace hnu := hnu.ext (by omega) hb3; replace hnv := hnv.ext (by omega) hb3)
  | (go_at_call 188; (with_reducible refine (hk4 _ _ _ hn3 hn4).mono ?_); clear hn4; rintro e w4 ⟨y4, rfl, hn4, hb4⟩; obtain ⟨s8, ao8, l8, cap8, bo8, l9, cap9, rfl⟩ := hn4.shape; obtain ⟨_, _, ⟨hc4, hf4⟩, hz4⟩ := hb4.c3; (try simp only [wsz] at hz4 hc4 hf4); replace hnu := hnu.ext (by omega) hb4; replace hnv := hnv.ext (by omega) hb4))
 exact T_ZFE_1
theorem z_fSub (va vb : Value) (x y : Rat) (a b : Nat) (w : World) (hf : Fr w va x) (hg : Fr w vb y) (hx : Fb x a) (hy : Fb y b) (hab : a + b ≤ 130000) :
    Calls Tryz.prog 256 #[va, vb] w fun e w' => ∃ u, e = .returned (.tuple #[u, .int .i64 0]) ∧ Fr w' u (x - y) ∧ Ext w w' := by
 obtain ⟨s1, ao, l1, cap1, bo, l2, cap2, rfl⟩ := hf.shape
 obtain ⟨s2, co, l3, cap3, eo, l4, cap4, rfl⟩ := hg.shape
 have hk1 := fun w1 (k1 : Ext w w1) => z_bothSub _ _ x y a b w1 (hf.ext k1) (hg.ext k1) hx hy hab
 generalize x - y = X at *
 clear hx hy hab hf hg
 go_enter Tryz.func256, Tryz.ntmps256
 go_wp2_with (go_at_call 266; (with_reducible refine (hk1 _ ex_).mono ?_); rintro e w4 ⟨y4, rfl, hn4, hb4⟩; obtain ⟨s8, ao8, l8, cap8, bo8, l9, cap9, rfl⟩ := hn4.shape; obtain ⟨_, _, ⟨hc4, hf4⟩, hz4⟩ := hb4.c3; (try simp only [wsz] at hz4 hc4 hf4))
 have hA0 : Ext (((w.alloc (.cells #[.bool s1, .slice ao l1 cap1, .bool false, .slice bo l2 cap2] 161)).alloc (.cells #[.bool s2, .slice co l3 cap3, .bool false, .slice eo l4 cap4] 161)).alloc (.cells #[.bool false, .slice none 0 0, .bool false, .slice none 0 0] 161)) w4 := ex_
 have hnu : NoU w4 (w.heap.size + 1 + 1) := by
  exact T_ZFE_4
 refine bodyPost_ret (v := .tuple #[.agg #[.bool s8, .slice ao8 l8 cap8, .bool false, .slice bo8 l9 cap9], .int .i64 0]) ?_ rfl ⟨_, rfl, ?_, ?_⟩
 ·simp [results, Tryz.results256, go_sem, ↓IntWalk.iteOmega, *]
 ·exact T_ZFE_5
 ·exact b_6
theorem z_bothMul (va vb : Value) (x y : Rat) (a b : Nat) (w : World) (hf : Fr w va x) (hg : Fr w vb y) (hx : Fb x a) (hy : Fb y b) (hab : a + b ≤ 130000) :
    Calls Tryz.prog 266 #[va, vb, .func (.func 267) #[] #[]] w fun e w' => ∃ u, e = .returned (.tuple #[u, .int .i64 0]) ∧ Fr w' u (x * y) ∧ Ext w w' := by
 rw [mul_mk]
 obtain ⟨s1, ao, l1, cap1, bo, l2, cap2, rfl⟩ := hf.shape
 obtain ⟨s2, co, l3, cap3, eo, l4, cap4, rfl⟩ := hg.shape
 have hk1 := fun w1 (k1 : Ext w w1) => z_fCheck _ x a w1 (hf.ext k1) hx (by omega)
 have hk2 := fun w1 (k1 : Ext w w1) => z_fCheck _ y b w1 (hg.ext k1) hy (by omega)
 have hk3 := fun w1 (k1 : Ext w w1) => z_mkMul _ _ x y a b w1 (hf.ext k1) (hg.ext k1) hx hy hab
 have hS : Sz (x.num * y.num) := small_bits (k := a + b) (by rw [Int.natAbs_mul]; exact mul_lt2 hx.1 hy.1) (by omega)
 have hS2 : Small (x.den * y.den) := small_bits (mul_lt2 hx.2 hy.2) (by omega)
 have hD : 0 < x.den * y.den := Nat.mul_pos (den_pos' x) (den_pos' y)
 have hk4 := fun w1 va vb (ha : Wid w1 va (x.num * y.num)) (hb : Wid w1 vb ((x.den * y.den : Nat) : Int)) => z_reduce va vb _ _ w1 ha hb.nat hS hS2 hD
 generalize mkRat (x.num * y.num) (x.den * y.den) = X at *
 generalize (x.num * y.num) = nn at *
 generalize ((x.den * y.den : Nat) : Int) = dd at *
 clear hS hS2 hD hx hy hab hf hg
 go_enter_defers Tryz.func266, Tryz.ntmps266
 go_upto_region 4 with (first
  | (go_at_call 139; (with_reducible refine (hk1 _ ex_).mono ?_); rintro e w1 ⟨rfl, hb1⟩; obtain ⟨_, _, ⟨hc1, hf1⟩, hz1⟩ := hb1.c3; (try simp only [wsz] at hz1 hc1 hf1); clear hk1)
  | (go_at_call 139; (with_reducible refine (hk2 _ ex_).mono ?_); rintro e w2 ⟨rfl, hb2⟩; obtain ⟨_, _, ⟨hc2, hf2⟩, hz2⟩ := hb2.c3; (try simp only [wsz] at hz2 hc2 hf2); clear hk2)
  | (go_at_call 185; (with_reducible refine (w_want0 _).mono ?_); rintro e w9 ⟨rfl, h9⟩; replace h9 := h9.symm; subst h9))
 have hA0 : Ext ((((w.alloc (.cells #[.bool s1, .slice ao l1 cap1, .bool false, .slice bo l2 cap2] 161)).alloc (.cells #[.bool s2, .slice co l3 cap3, .bool false, .slice eo l4 cap4] 161)).alloc (.cells #[.bool false, .slice none 0 0, .bool false, .slice none 0 0] 161)).alloc (.cells #[.int .i64 0] 30)) w2 := ex_
 have hnu : NoU w2 (w.heap.size + 1 + 1) := by
  exact T_ZFE_2
 have hnv : NoU w2 (w.heap.size + 1 + 1 + 1) := by
  exact T_ZFE_3
 have hsz2 : w.heap.size + 1 + 1 + 1 < w2.heap.size := by have := hA0.size; simp only [World.size_alloc] at this; omega
 go_wp2_with (first
  | (go_at_call 267; (with_reducible refine (hk3 _ ex_).mono ?_); rintro e w3 ⟨z3, z4, rfl, hn3, hn4, hb3⟩; obtain ⟨_, _, ⟨hc3, hf3⟩, hz3⟩ := hb3.c3; (try simp only [wsz] at hz3 hc3 hf3); replace hnu := hnu.ext (by omega) hb3; replace hnv := hnv.ext (by omega) hb3)
  | (go_at_call 188; (with_reducible refine (hk4 _ _ _ hn3 hn4).mono ?_); clear hn4; rintro e w4 ⟨y4, rfl, hn4, hb4⟩; obtain ⟨s8, ao8, l8, cap8, bo8, l9, cap9, rfl⟩ := hn4.shape; obtain ⟨_, _, ⟨hc4, hf4⟩, hz4⟩ := hb4.c3; (try simp only [wsz] at hz4 hc4 hf4); replace hnu := hnu.ext (by omega) hb4; replace hnv := hnv.ext (by omega) hb4))
 exact T_ZFE_1
theorem z_fMul (va vb : Value) (x y : Rat) (a b : Nat) (w : World) (hf : Fr w va x) (hg : Fr w vb y) (hx : Fb x a) (hy : Fb y b) (hab : a + b ≤ 130000) :
    Calls Tryz.prog 254 #[va, vb] w fun e w' => ∃ u, e = .returned (.tuple #[u, .int .i64 0]) ∧ Fr w' u (x * y) ∧ Ext w w' := by
 obtain ⟨s1, ao, l1, cap1, bo, l2, cap2, rfl⟩ := hf.shape
 obtain ⟨s2, co, l3, cap3, eo, l4, cap4, rfl⟩ := hg.shape
 have hk1 := fun w1 (k1 : Ext w w1) => z_bothMul _ _ x y a b w1 (hf.ext k1) (hg.ext k1) hx hy hab
 generalize x * y = X at *
 clear hx hy hab hf hg
 go_enter Tryz.func254, Tryz.ntmps254
 go_wp2_with (go_at_call 266; (with_reducible refine (hk1 _ ex_).mono ?_); rintro e w4 ⟨y4, rfl, hn4, hb4⟩; obtain ⟨s8, ao8, l8, cap8, bo8, l9, cap9, rfl⟩ := hn4.shape; obtain ⟨_, _, ⟨hc4, hf4⟩, hz4⟩ := hb4.c3; (try simp only [wsz] at hz4 hc4 hf4))
 have hA0 : Ext (((w.alloc (.cells #[.bool s1, .slice ao l1 cap1, .bool false, .slice bo l2 cap2] 161)).alloc (.cells #[.bool s2, .slice co l3 cap3, .bool false, .slice eo l4 cap4] 161)).alloc (.cells #[.bool false, .slice none 0 0, .bool false, .slice none 0 0] 161)) w4 := ex_
 have hnu : NoU w4 (w.heap.size + 1 + 1) := by
  exact T_ZFE_4
 refine bodyPost_ret (v := .tuple #[.agg #[.bool s8, .slice ao8 l8 cap8, .bool false, .slice bo8 l9 cap9], .int .i64 0]) ?_ rfl ⟨_, rfl, ?_, ?_⟩
 ·simp [results, Tryz.results254, go_sem, ↓IntWalk.iteOmega, *]
 ·exact T_ZFE_5
 ·exact b_6
end Go.Proofs.YtbkgakgdbmjmjaaGreat
