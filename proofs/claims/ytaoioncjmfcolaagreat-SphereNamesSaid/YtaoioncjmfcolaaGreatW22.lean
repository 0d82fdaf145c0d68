/- sphere: Within. -/
import Derived.Test.YtaoioncjmfcolaaGreatW20
set_option linter.unusedSimpArgs false
set_option linter.unusedVariables false
set_option maxRecDepth 100000
set_option maxHeartbeats 4000000
namespace Go.Proofs.YtaoioncjmfcolaaGreat
open Go.RowKit
def V3.Sm (v : V3) : Prop := (-1152921504606846976 ≤ v.a ∧ v.a ≤ 1152921504606846976) ∧ (-1152921504606846976 ≤ v.b ∧ v.b ≤ 1152921504606846976) ∧ (-1152921504606846976 ≤ v.c ∧ v.c ≤ 1152921504606846976) ∧ (-1152921504606846976 ≤ v.d ∧ v.d ≤ 1152921504606846976) ∧ (-1152921504606846976 ≤ v.e ∧ v.e ≤ 1152921504606846976) ∧ (-1152921504606846976 ≤ v.f ∧ v.f ≤ 1152921504606846976)
def wnL (a b : V3) : Int := 0 + (max (max (a.a - b.b) (b.a - a.b)) 0) * (max (max (a.a - b.b) (b.a - a.b)) 0) + (max (max (a.c - b.d) (b.c - a.d)) 0) * (max (max (a.c - b.d) (b.c - a.d)) 0) + (max (max (a.e - b.f) (b.e - a.f)) 0) * (max (max (a.e - b.f) (b.e - a.f)) 0)
def wnM (a b : V3) : Int := 0 + (max (a.b - b.a) (b.b - a.a)) * (max (a.b - b.a) (b.b - a.a)) + (max (a.d - b.c) (b.d - a.c)) * (max (a.d - b.c) (b.d - a.c)) + (max (a.f - b.e) (b.f - a.e)) * (max (a.f - b.e) (b.f - a.e))
theorem sz_sq {d : Int} (h0 : -4611686018427387904 ≤ d) (h1 : d ≤ 4611686018427387904) : 0 ≤ d * d ∧ d * d ≤ 21267647932558653966460912964485513216 := by
 have h := Int.natAbs_mul_self (a := d)
 have h2 : d.natAbs * d.natAbs ≤ 4611686018427387904 * 4611686018427387904 := Nat.mul_le_mul (by omega) (by omega)
 omega
theorem p_within (a b : V3) (half : Int) (s : Int × Int) (w : World) (hk : ck2V a b = 0) (sa : a.Sm) (sb : b.Sm) (hh0 : 0 ≤ half) (hh1 : half ≤ 324000000000) (hsi0 : ∀ w1 : World, Calls Tryz.prog 39 #[.int .i64 half] w1 fun e w' => e = .returned (.agg #[.int .i64 s.1, .int .i64 s.2]) ∧ Ext w1 w') (hsb : -1152921504606846976 ≤ s.1 ∧ s.1 ≤ 1152921504606846976 ∧ -1152921504606846976 ≤ s.2 ∧ s.2 ≤ 1152921504606846976) :
    Calls Tryz.prog 10 #[.agg #[.int .i64 a.a, .int .i64 a.b, .int .i64 a.c, .int .i64 a.d, .int .i64 a.e, .int .i64 a.f], .agg #[.int .i64 b.a, .int .i64 b.b, .int .i64 b.c, .int .i64 b.d, .int .i64 b.e, .int .i64 b.f], .int .i64 half] w fun e w' => e = .returned (.tuple #[.bool (decide (wnM a b ≤ 2 * s.1 * (2 * s.1))), .bool (decide (wnL a b ≤ 2 * s.2 * (2 * s.2))), .int .i64 0]) ∧ Ext w w' := by
 have hlk : ∀ (w1 : World) (u1 u2 : Value), u1 = .agg #[.int .i64 a.a, .int .i64 a.b, .int .i64 a.c, .int .i64 a.d, .int .i64 a.e, .int .i64 a.f] → u2 = .agg #[.int .i64 b.a, .int .i64 b.b, .int .i64 b.c, .int .i64 b.d, .int .i64 b.e, .int .i64 b.f] → Calls Tryz.prog 38 #[u1, u2] w1 fun e w' => ∃ u, e = .returned u ∧ u = .int .i64 0 ∧ Ext w1 w' := fun w1 u1 u2 k1 k2 => by
  subst k1 k2
  have := s_look a b w1
  rw [hk] at this
  exact calls_eq this
 have hsi : ∀ (w1 : World) (u1 : Value), u1 = .int .i64 half → Calls Tryz.prog 39 #[u1] w1 fun e w' => ∃ u, e = .returned u ∧ u = .agg #[.int .i64 s.1, .int .i64 s.2] ∧ Ext w1 w' := fun w1 u1 k => by subst k; exact calls_eq (hsi0 w1)
 obtain ⟨⟨p0, p1⟩, ⟨p2, p3⟩, ⟨p4, p5⟩, ⟨p6, p7⟩, ⟨p8, p9⟩, ⟨p10, p11⟩⟩ := sa
 obtain ⟨⟨q0, q1⟩, ⟨q2, q3⟩, ⟨q4, q5⟩, ⟨q6, q7⟩, ⟨q8, q9⟩, ⟨q10, q11⟩⟩ := sb
 unfold wnM wnL
 obtain ⟨d0, hd0⟩ : ∃ d, max (max (a.a - b.b) (b.a - a.b)) 0 = d := ⟨_, rfl⟩
 obtain ⟨n0, hn0⟩ : ∃ n, max (a.b - b.a) (b.b - a.a) = n := ⟨_, rfl⟩
 obtain ⟨d1, hd1⟩ : ∃ d, max (max (a.c - b.d) (b.c - a.d)) 0 = d := ⟨_, rfl⟩
 obtain ⟨n1, hn1⟩ : ∃ n, max (a.d - b.c) (b.d - a.c) = n := ⟨_, rfl⟩
 obtain ⟨d2, hd2⟩ : ∃ d, max (max (a.e - b.f) (b.e - a.f)) 0 = d := ⟨_, rfl⟩
 obtain ⟨n2, hn2⟩ : ∃ n, max (a.f - b.e) (b.f - a.e) = n := ⟨_, rfl⟩
 rw [hd0, hn0, hd1, hn1, hd2, hn2]
 have bd0 := sz_sq (d := d0) (by omega) (by omega)
 have bn0 := sz_sq (d := n0) (by omega) (by omega)
 have bd1 := sz_sq (d := d1) (by omega) (by omega)
 have bn1 := sz_sq (d := n1) (by omega) (by omega)
 have bd2 := sz_sq (d := d2) (by omega) (by omega)
 have bn2 := sz_sq (d := n2) (by omega) (by omega)
 obtain ⟨L1, hL1⟩ : ∃ x, 0 + d0 * d0 = x := ⟨_, rfl⟩
 rw [hL1]
 obtain ⟨L2, hL2⟩ : ∃ x, L1 + d1 * d1 = x := ⟨_, rfl⟩
 rw [hL2]
 obtain ⟨L3, hL3⟩ : ∃ x, L2 + d2 * d2 = x := ⟨_, rfl⟩
 rw [hL3]
 obtain ⟨M1, hM1⟩ : ∃ x, 0 + n0 * n0 = x := ⟨_, rfl⟩
 rw [hM1]
 obtain ⟨M2, hM2⟩ : ∃ x, M1 + n1 * n1 = x := ⟨_, rfl⟩
 rw [hM2]
 obtain ⟨M3, hM3⟩ : ∃ x, M2 + n2 * n2 = x := ⟨_, rfl⟩
 rw [hM3]
 have szz : ∀ x : Int, 0 ≤ x → x ≤ 340282366920938463463374607431768211455 → Sz x := fun x h0 h1 => dig_bits (k := 128) (L := 4096) (by omega) (by decide)
 have hqd0 : ∀ (w1 : World) (u1 : Value), u1 = .int .i64 (d0) → Calls Tryz.prog 36 #[u1] w1 fun e w' => ∃ u, e = .returned u ∧ Wid w' u (d0 * d0) ∧ Ext w1 w' := fun w1 u1 k => by subst k; exact p_square _ w1 (by omega) (by omega)
 have had0 : ∀ (w1 : World) (u1 u2 : Value), Wid w1 u1 0 → Wid w1 u2 (d0 * d0) → Calls Tryz.prog 35 #[u1, u2] w1 fun e w' => ∃ u, e = .returned u ∧ ((VF.wid L1).err 0).p u w' ∧ Ext w1 w' := fun w1 u1 u2 x y => by
  have := z_Add u1 u2 _ _ w1 x y (szz _ (by omega) (by omega)) (szz _ (by omega) (by omega)) (by rw [hL1]; exact szz _ (by omega) (by omega))
  rw [hL1] at this
  exact calls_err this
 have hqn0 : ∀ (w1 : World) (u1 : Value), u1 = .int .i64 (n0) → Calls Tryz.prog 36 #[u1] w1 fun e w' => ∃ u, e = .returned u ∧ Wid w' u (n0 * n0) ∧ Ext w1 w' := fun w1 u1 k => by subst k; exact p_square _ w1 (by omega) (by omega)
 have han0 : ∀ (w1 : World) (u1 u2 : Value), Wid w1 u1 0 → Wid w1 u2 (n0 * n0) → Calls Tryz.prog 35 #[u1, u2] w1 fun e w' => ∃ u, e = .returned u ∧ ((VF.wid M1).err 0).p u w' ∧ Ext w1 w' := fun w1 u1 u2 x y => by
  have := z_Add u1 u2 _ _ w1 x y (szz _ (by omega) (by omega)) (szz _ (by omega) (by omega)) (by rw [hM1]; exact szz _ (by omega) (by omega))
  rw [hM1] at this
  exact calls_err this
 have hqd1 : ∀ (w1 : World) (u1 : Value), u1 = .int .i64 (d1) → Calls Tryz.prog 36 #[u1] w1 fun e w' => ∃ u, e = .returned u ∧ Wid w' u (d1 * d1) ∧ Ext w1 w' := fun w1 u1 k => by subst k; exact p_square _ w1 (by omega) (by omega)
 have had1 : ∀ (w1 : World) (u1 u2 : Value), Wid w1 u1 L1 → Wid w1 u2 (d1 * d1) → Calls Tryz.prog 35 #[u1, u2] w1 fun e w' => ∃ u, e = .returned u ∧ ((VF.wid L2).err 0).p u w' ∧ Ext w1 w' := fun w1 u1 u2 x y => by
  have := z_Add u1 u2 _ _ w1 x y (szz _ (by omega) (by omega)) (szz _ (by omega) (by omega)) (by rw [hL2]; exact szz _ (by omega) (by omega))
  rw [hL2] at this
  exact calls_err this
 have hqn1 : ∀ (w1 : World) (u1 : Value), u1 = .int .i64 (n1) → Calls Tryz.prog 36 #[u1] w1 fun e w' => ∃ u, e = .returned u ∧ Wid w' u (n1 * n1) ∧ Ext w1 w' := fun w1 u1 k => by subst k; exact p_square _ w1 (by omega) (by omega)
 have han1 : ∀ (w1 : World) (u1 u2 : Value), Wid w1 u1 M1 → Wid w1 u2 (n1 * n1) → Calls Tryz.prog 35 #[u1, u2] w1 fun e w' => ∃ u, e = .returned u ∧ ((VF.wid M2).err 0).p u w' ∧ Ext w1 w' := fun w1 u1 u2 x y => by
  have := z_Add u1 u2 _ _ w1 x y (szz _ (by omega) (by omega)) (szz _ (by omega) (by omega)) (by rw [hM2]; exact szz _ (by omega) (by omega))
  rw [hM2] at this
  exact calls_err this
 have hqd2 : ∀ (w1 : World) (u1 : Value), u1 = .int .i64 (d2) → Calls Tryz.prog 36 #[u1] w1 fun e w' => ∃ u, e = .returned u ∧ Wid w' u (d2 * d2) ∧ Ext w1 w' := fun w1 u1 k => by subst k; exact p_square _ w1 (by omega) (by omega)
 have had2 : ∀ (w1 : World) (u1 u2 : Value), Wid w1 u1 L2 → Wid w1 u2 (d2 * d2) → Calls Tryz.prog 35 #[u1, u2] w1 fun e w' => ∃ u, e = .returned u ∧ ((VF.wid L3).err 0).p u w' ∧ Ext w1 w' := fun w1 u1 u2 x y => by
  have := z_Add u1 u2 _ _ w1 x y (szz _ (by omega) (by omega)) (szz _ (by omega) (by omega)) (by rw [hL3]; exact szz _ (by omega) (by omega))
  rw [hL3] at this
  exact calls_err this
 have hqn2 : ∀ (w1 : World) (u1 : Value), u1 = .int .i64 (n2) → Calls Tryz.prog 36 #[u1] w1 fun e w' => ∃ u, e = .returned u ∧ Wid w' u (n2 * n2) ∧ Ext w1 w' := fun w1 u1 k => by subst k; exact p_square _ w1 (by omega) (by omega)
 have han2 : ∀ (w1 : World) (u1 u2 : Value), Wid w1 u1 M2 → Wid w1 u2 (n2 * n2) → Calls Tryz.prog 35 #[u1, u2] w1 fun e w' => ∃ u, e = .returned u ∧ ((VF.wid M3).err 0).p u w' ∧ Ext w1 w' := fun w1 u1 u2 x y => by
  have := z_Add u1 u2 _ _ w1 x y (szz _ (by omega) (by omega)) (szz _ (by omega) (by omega)) (by rw [hM3]; exact szz _ (by omega) (by omega))
  rw [hM3] at this
  exact calls_err this
 have hs1 : ∀ (w1 : World) (u1 : Value), u1 = .int .i64 (2 * s.1) → Calls Tryz.prog 36 #[u1] w1 fun e w' => ∃ u, e = .returned u ∧ Wid w' u (2 * s.1 * (2 * s.1)) ∧ Ext w1 w' := fun w1 u1 k => by subst k; exact p_square _ w1 (by omega) (by omega)
 have hs2 : ∀ (w1 : World) (u1 : Value), u1 = .int .i64 (2 * s.2) → Calls Tryz.prog 36 #[u1] w1 fun e w' => ∃ u, e = .returned u ∧ Wid w' u (2 * s.2 * (2 * s.2)) ∧ Ext w1 w' := fun w1 u1 k => by subst k; exact p_square _ w1 (by omega) (by omega)
 have be1 := sz_sq (d := 2 * s.1) (by omega) (by omega)
 have be2 := sz_sq (d := 2 * s.2) (by omega) (by omega)
 obtain ⟨t1, ht1⟩ : ∃ t, decide (M3 ≤ 2 * s.1 * (2 * s.1)) = t := ⟨_, rfl⟩
 obtain ⟨t2, ht2⟩ : ∃ t, decide (L3 ≤ 2 * s.2 * (2 * s.2)) = t := ⟨_, rfl⟩
 rw [ht1, ht2]
 have hm1 : ∀ (w1 : World) (u1 u2 : Value), Wid w1 u1 M3 → Wid w1 u2 (2 * s.1 * (2 * s.1)) → Calls Tryz.prog 40 #[u1, u2] w1 fun e w' => ∃ u, e = .returned u ∧ u = .bool t1 ∧ Ext w1 w' := fun w1 u1 u2 x y => by
  rw [← ht1]
  exact calls_eq (p_atMost u1 u2 _ _ w1 x y (szz _ (by omega) (by omega)) (szz _ (by omega) (by omega)))
 have hm2 : ∀ (w1 : World) (u1 u2 : Value), Wid w1 u1 L3 → Wid w1 u2 (2 * s.2 * (2 * s.2)) → Calls Tryz.prog 40 #[u1, u2] w1 fun e w' => ∃ u, e = .returned u ∧ u = .bool t2 ∧ Ext w1 w' := fun w1 u1 u2 x y => by
  rw [← ht2]
  exact calls_eq (p_atMost u1 u2 _ _ w1 x y (szz _ (by omega) (by omega)) (szz _ (by omega) (by omega)))
 clear szz hsi0 hk ht1 ht2 hL1 hM1 hL2 hM2 hL3 hM3 bd0 bd1 bd2 bn0 bn1 bn2 be1 be2
 have hg1 : ¬ half < 0 := by omega
 have hg2 : ¬ 324000000000 < half := by omega
 have I0 : KBd w [] w := ⟨Ext.refl w, trivial, by simp, by simp⟩
 have I := ((I0.new [.int .i64 a.a, .int .i64 a.b, .int .i64 a.c, .int .i64 a.d, .int .i64 a.e, .int .i64 a.f] 32 (by simp)).new [.int .i64 b.a, .int .i64 b.b, .int .i64 b.c, .int .i64 b.d, .int .i64 b.e, .int .i64 b.f] 32 (by simp))
 simp only [World.size_alloc, List.nil_append, List.cons_append] at I
 clear I0
 go_enter Tryz.func10, Tryz.ntmps10
 go_upto_region 1 with fail
 refine wp_regB [] [] (fun z_ => ([VF.eq (.agg #[.int .i64 a.a, .int .i64 a.b, .int .i64 a.c, .int .i64 a.d, .int .i64 a.e, .int .i64 a.f]), VF.eq (.agg #[.int .i64 b.a, .int .i64 b.b, .int .i64 b.c, .int .i64 b.d, .int .i64 b.e, .int .i64 b.f]), VF.eq (.int .i64 (0)), VF.eq (.int .i64 (0))] : List VF).getD z_ VF.any) I (fun hc => ⟨?_, ?_, ?_, ?_, trivial⟩) (fun vs gl W hK0 hv hp => ?_)
 ·exact ob_ld6 (x := .tmp 3) (g := w.heap.size) (f := 0) none hc rfl fun vs gs w1 c => ⟨c.own 0 0, c.own 0 1, c.own 0 2, c.own 0 3, c.own 0 4, c.own 0 5⟩
 ·exact ob_ld6 (x := .tmp 4) (g := (w.heap.size + 1)) (f := 0) none hc rfl fun vs gs w1 c => ⟨c.own 1 0, c.own 1 1, c.own 1 2, c.own 1 3, c.own 1 4, c.own 1 5⟩
 ·exact ob_call (fun v => [v 0, v 1]) hc rfl fun vs gs w1 c => hlk _ _ _ (c.v 0) (c.v 1)
 ·exact ob_cp 2 hc (.inr rfl)
 have v3 : vs 3 = .int .i64 0 := hv 3 (by decide)
 simp only [putS, Nat.reduceAdd, Act.put, List.setIfInBounds_toArray, List.set_cons_zero, List.set_cons_succ, v3]
 simp only [kb_] at hK0
 replace I := hK0
 clear hK0 hv hp gl v3
 clear hlk
 go_upto_region 6 with fail
 go_upto_region 6 with fail
 refine wp_regB [] [⟨2, some 4, BF.b2, (BF.wat 0)⟩, ⟨3, some 5, BF.b2, (BF.wat 0)⟩] (fun z_ => ([VF.wid (0), VF.wid (0)] : List VF).getD z_ VF.any) I (fun hc => ⟨?_, ?_, ?_, ?_, ?_, ?_, trivial⟩) (fun vs gl W hK0 hv hp => ?_)
 ·exact ob_call (fun v => [.int .i64 0]) hc rfl fun vs gs w1 c => z_From 0 _ (by decide) (by decide)
 ·exact ob_call (fun v => [.int .i64 0]) hc rfl fun vs gs w1 c => z_From 0 _ (by decide) (by decide)
 ·exact b_26
 ·exact ob_allocW (n := 3) rfl hc rfl rfl rfl
 ·exact ob_putW (n := 2) rfl 0 hc rfl 0
 ·exact ob_putW (n := 3) rfl 1 hc rfl 0
 have p0 : vs 2 = .pointer (some ⟨gl 0, 0, none⟩) := hp 0 _ rfl
 have p1 : vs 3 = .pointer (some ⟨gl 1, 0, none⟩) := hp 1 _ rfl
 simp only [putS, Nat.reduceAdd, Act.put, List.setIfInBounds_toArray, List.set_cons_zero, List.set_cons_succ, p0, p1]
 obtain ⟨g10, e90⟩ : ∃ n, gl 0 = n := ⟨_, rfl⟩
 obtain ⟨g11, e91⟩ : ∃ n, gl 1 = n := ⟨_, rfl⟩
 simp only [kb_, e90, e91] at hK0
 rw [e90, e91]
 replace I := hK0
 clear hK0 hv hp gl p0 p1 e90 e91
 go_wp2_with fail
 refine wp_loop_rounds 4 ?_
 rw [rounds_succ]
 go_upto_region 10 with fail
 refine wp_regB [] [] (fun z_ => ([VF.eq (.int .i64 (0)), VF.eq (.pointer (some ⟨w.heap.size, 0, none⟩)), VF.eq (.pointer (some ⟨w.heap.size, 0, none⟩)), VF.eq (.int .i64 (a.a)), VF.eq (.int .i64 (0)), VF.eq (.pointer (some ⟨(w.heap.size + 1), 0, none⟩)), VF.eq (.pointer (some ⟨(w.heap.size + 1), 1, none⟩)), VF.eq (.int .i64 (b.b)), VF.eq (.int .i64 (a.a - b.b)), VF.eq (.int .i64 (0)), VF.eq (.pointer (some ⟨(w.heap.size + 1), 0, none⟩)), VF.eq (.pointer (some ⟨(w.heap.size + 1), 0, none⟩)), VF.eq (.int .i64 (b.a)), VF.eq (.int .i64 (0)), VF.eq (.pointer (some ⟨w.heap.size, 0, none⟩)), VF.eq (.pointer (some ⟨w.heap.size, 1, none⟩)), VF.eq (.int .i64 (a.b)), VF.eq (.int .i64 (b.a - a.b)), VF.eq (.int .i64 (d0)), VF.eq (.int .i64 (0)), VF.eq (.pointer (some ⟨w.heap.size, 0, none⟩)), VF.eq (.pointer (some ⟨w.heap.size, 1, none⟩)), VF.eq (.int .i64 (a.b)), VF.eq (.int .i64 (0)), VF.eq (.pointer (some ⟨(w.heap.size + 1), 0, none⟩)), VF.eq (.pointer (some ⟨(w.heap.size + 1), 0, none⟩)), VF.eq (.int .i64 (b.a)), VF.eq (.int .i64 (a.b - b.a)), VF.eq (.int .i64 (0)), VF.eq (.pointer (some ⟨(w.heap.size + 1), 0, none⟩)), VF.eq (.pointer (some ⟨(w.heap.size + 1), 1, none⟩)), VF.eq (.int .i64 (b.b)), VF.eq (.int .i64 (0)), VF.eq (.pointer (some ⟨w.heap.size, 0, none⟩)), VF.eq (.pointer (some ⟨w.heap.size, 0, none⟩)), VF.eq (.int .i64 (a.a)), VF.eq (.int .i64 (b.b - a.a)), VF.eq (.int .i64 (n0)), VF.eq (.int .i64 (d0)), VF.eq (.int .i64 (n0))] : List VF).getD z_ VF.any) I (fun hc => ⟨?_, ?_, ?_, ?_, ?_, ?_, ?_, ?_, ?_, ?_, ?_, ?_, ?_, ?_, ?_, ?_, ?_, ?_, ?_, ?_, ?_, ?_, ?_, ?_, ?_, ?_, ?_, ?_, ?_, ?_, ?_, ?_, ?_, ?_, ?_, ?_, ?_, ?_, ?_, ?_, trivial⟩) (fun vs gl W hK0 hv hp => ?_)
 ·exact ob_mv hc (.inl rfl)
 ·exact ob_e2 (x := .tmp 3) (y := .tmp 33) (a := .pointer (some ⟨w.heap.size, 0, none⟩)) (b := (.int .i64 (0))) (u := .pointer (some ⟨w.heap.size, 0, none⟩)) none (some 0) hc
 ·exact ob_e1 (x := .tmp 34) (a := (.pointer (some ⟨w.heap.size, 0, none⟩))) (u := .pointer (some ⟨w.heap.size, 0, none⟩)) (some 1) hc
 ·exact ob_ld (x := .tmp 35) (g := w.heap.size) (f := 0) (u := .int .i64 (a.a)) (some 2) hc fun vs gs w1 c => c.own 0 0
 ·exact ob_mv hc (.inl rfl)
 ·exact ob_e2 (x := .tmp 4) (y := .tmp 37) (a := .pointer (some ⟨(w.heap.size + 1), 0, none⟩)) (b := (.int .i64 (0))) (u := .pointer (some ⟨(w.heap.size + 1), 0, none⟩)) none (some 4) hc
 ·exact ob_e1 (x := .tmp 38) (a := (.pointer (some ⟨(w.heap.size + 1), 0, none⟩))) (u := .pointer (some ⟨(w.heap.size + 1), 1, none⟩)) (some 5) hc
 ·exact ob_ld (x := .tmp 39) (g := (w.heap.size + 1)) (f := 1) (u := .int .i64 (b.b)) (some 6) hc fun vs gs w1 c => c.own 1 1
 ·exact ob_e2 (x := .tmp 36) (y := .tmp 40) (a := (.int .i64 (a.a))) (b := (.int .i64 (b.b))) (u := .int .i64 (a.a - b.b)) (some 3) (some 7) hc (hs := by intro ρ w1 h k; go_simp; first | done | (simp only [IntKind.wrap_i64]; omega))
 ·exact ob_mv hc (.inl rfl)
 ·exact ob_e2 (x := .tmp 4) (y := .tmp 42) (a := .pointer (some ⟨(w.heap.size + 1), 0, none⟩)) (b := (.int .i64 (0))) (u := .pointer (some ⟨(w.heap.size + 1), 0, none⟩)) none (some 9) hc
 ·exact ob_e1 (x := .tmp 43) (a := (.pointer (some ⟨(w.heap.size + 1), 0, none⟩))) (u := .pointer (some ⟨(w.heap.size + 1), 0, none⟩)) (some 10) hc
 ·exact ob_ld (x := .tmp 44) (g := (w.heap.size + 1)) (f := 0) (u := .int .i64 (b.a)) (some 11) hc fun vs gs w1 c => c.own 1 0
 ·exact ob_mv hc (.inl rfl)
 ·exact ob_e2 (x := .tmp 3) (y := .tmp 46) (a := .pointer (some ⟨w.heap.size, 0, none⟩)) (b := (.int .i64 (0))) (u := .pointer (some ⟨w.heap.size, 0, none⟩)) none (some 13) hc
 ·exact ob_e1 (x := .tmp 47) (a := (.pointer (some ⟨w.heap.size, 0, none⟩))) (u := .pointer (some ⟨w.heap.size, 1, none⟩)) (some 14) hc
 ·exact ob_ld (x := .tmp 48) (g := w.heap.size) (f := 1) (u := .int .i64 (a.b)) (some 15) hc fun vs gs w1 c => c.own 0 1
 ·exact ob_e2 (x := .tmp 45) (y := .tmp 49) (a := (.int .i64 (b.a))) (b := (.int .i64 (a.b))) (u := .int .i64 (b.a - a.b)) (some 12) (some 16) hc (hs := by intro ρ w1 h k; go_simp; first | done | (simp only [IntKind.wrap_i64]; omega))
 ·exact ob_eq (u := .int .i64 d0) hc (fun vs gs w1 ρ hr c => by
   have e1 : ρ (.tmp 41) = _ := c.r hr 8 c_4 rfl c_4
   have e2 : ρ (.tmp 50) = _ := c.r hr 17 c_4 rfl c_4
   have e3 : ρ (.const (.int .i64 0)) = _ := hr _
   replace e3 : ρ (.const (.int .i64 0)) = .int .i64 0 := e3
   clear c hr
   go_simp
   (repeat' split) <;> omega)
 ·exact ob_mv hc (.inl rfl)
 ·exact ob_e2 (x := .tmp 3) (y := .tmp 52) (a := .pointer (some ⟨w.heap.size, 0, none⟩)) (b := (.int .i64 (0))) (u := .pointer (some ⟨w.heap.size, 0, none⟩)) none (some 19) hc
 ·exact ob_e1 (x := .tmp 53) (a := (.pointer (some ⟨w.heap.size, 0, none⟩))) (u := .pointer (some ⟨w.heap.size, 1, none⟩)) (some 20) hc
 ·exact ob_ld (x := .tmp 54) (g := w.heap.size) (f := 1) (u := .int .i64 (a.b)) (some 21) hc fun vs gs w1 c => c.own 0 1
 ·exact ob_mv hc (.inl rfl)
 ·exact ob_e2 (x := .tmp 4) (y := .tmp 56) (a := .pointer (some ⟨(w.heap.size + 1), 0, none⟩)) (b := (.int .i64 (0))) (u := .pointer (some ⟨(w.heap.size + 1), 0, none⟩)) none (some 23) hc
 ·exact ob_e1 (x := .tmp 57) (a := (.pointer (some ⟨(w.heap.size + 1), 0, none⟩))) (u := .pointer (some ⟨(w.heap.size + 1), 0, none⟩)) (some 24) hc
 ·exact ob_ld (x := .tmp 58) (g := (w.heap.size + 1)) (f := 0) (u := .int .i64 (b.a)) (some 25) hc fun vs gs w1 c => c.own 1 0
 ·exact ob_e2 (x := .tmp 55) (y := .tmp 59) (a := (.int .i64 (a.b))) (b := (.int .i64 (b.a))) (u := .int .i64 (a.b - b.a)) (some 22) (some 26) hc (hs := by intro ρ w1 h k; go_simp; first | done | (simp only [IntKind.wrap_i64]; omega))
 ·exact ob_mv hc (.inl rfl)
 ·exact ob_e2 (x := .tmp 4) (y := .tmp 61) (a := .pointer (some ⟨(w.heap.size + 1), 0, none⟩)) (b := (.int .i64 (0))) (u := .pointer (some ⟨(w.heap.size + 1), 0, none⟩)) none (some 28) hc
 ·exact ob_e1 (x := .tmp 62) (a := (.pointer (some ⟨(w.heap.size + 1), 0, none⟩))) (u := .pointer (some ⟨(w.heap.size + 1), 1, none⟩)) (some 29) hc
 ·exact ob_ld (x := .tmp 63) (g := (w.heap.size + 1)) (f := 1) (u := .int .i64 (b.b)) (some 30) hc fun vs gs w1 c => c.own 1 1
 ·exact ob_mv hc (.inl rfl)
 ·exact ob_e2 (x := .tmp 3) (y := .tmp 65) (a := .pointer (some ⟨w.heap.size, 0, none⟩)) (b := (.int .i64 (0))) (u := .pointer (some ⟨w.heap.size, 0, none⟩)) none (some 32) hc
 ·exact ob_e1 (x := .tmp 66) (a := (.pointer (some ⟨w.heap.size, 0, none⟩))) (u := .pointer (some ⟨w.heap.size, 0, none⟩)) (some 33) hc
 ·exact ob_ld (x := .tmp 67) (g := w.heap.size) (f := 0) (u := .int .i64 (a.a)) (some 34) hc fun vs gs w1 c => c.own 0 0
 ·exact ob_e2 (x := .tmp 64) (y := .tmp 68) (a := (.int .i64 (b.b))) (b := (.int .i64 (a.a))) (u := .int .i64 (b.b - a.a)) (some 31) (some 35) hc (hs := by intro ρ w1 h k; go_simp; first | done | (simp only [IntKind.wrap_i64]; omega))
 ·exact ob_eq (u := .int .i64 n0) hc (fun vs gs w1 ρ hr c => by
   have e1 : ρ (.tmp 60) = _ := c.r hr 27 c_4 rfl c_4
   have e2 : ρ (.tmp 69) = _ := c.r hr 36 c_4 rfl c_4
   clear c hr
   go_simp)
 ·exact ob_cp 18 hc (.inr rfl)
 ·exact ob_cp 37 hc (.inr rfl)
 have v38 : vs 38 = .int .i64 d0 := hv 38 (by decide)
 have v39 : vs 39 = .int .i64 n0 := hv 39 (by decide)
 simp only [putS, Nat.reduceAdd, Act.put, List.setIfInBounds_toArray, List.set_cons_zero, List.set_cons_succ, v38, v39]
 simp only [kb_] at hK0
 replace I := hK0
 clear hK0 hv hp gl v38 v39
 go_upto_region 11 with fail
 refine wp_regB [[], [], [(7, BF.wat L1)]] [] (fun z_ => ([VF.wid (0), VF.eq (.int .i64 (d0)), VF.wid (d0 * d0), (VF.wid L1).err 0, (VF.wid L1).err 0, VF.wid (L1), VF.eq (.int .i64 (0))] : List VF).getD z_ VF.any) I (fun hc => ⟨?_, ?_, ?_, ?_, ?_, ?_, ?_, ?_, trivial⟩) (fun vs gl W hK0 hv hp => ?_)
 ·exact ob_getW g10 (0) hc rfl fun vs gs w1 c => c.b0 2
 ·exact ob_mv hc (.inl rfl)
 ·exact ob_call (fun v => [v 1]) hc rfl fun vs gs w1 c => hqd0 _ _ (c.v 1)
 ·exact ob_call (fun v => [v 0, v 2]) hc rfl fun vs gs w1 c => had0 _ _ _ (c.v 0) (c.v 2)
 ·exact ob_cp 3 hc (.inl rfl)
 ·exact ob_ext0 4 hc rfl
 ·exact ob_ext1 4 hc rfl
 ·exact ob_putW (n := 2) rfl 5 hc rfl 0
 simp only [putS, Nat.reduceAdd, Act.put, List.setIfInBounds_toArray, List.set_cons_zero, List.set_cons_succ]
 simp only [kb_] at hK0
 replace I := hK0
 clear hK0 hv hp gl
 go_upto_region 12 with fail
 refine wp_regB [[], [], [], [(7, BF.wat M1)]] [] (fun z_ => ([VF.wid (0), VF.eq (.int .i64 (n0)), VF.wid (n0 * n0), (VF.wid M1).err 0, (VF.wid M1).err 0, VF.wid (M1), VF.eq (.int .i64 (0))] : List VF).getD z_ VF.any) I (fun hc => ⟨?_, ?_, ?_, ?_, ?_, ?_, ?_, ?_, trivial⟩) (fun vs gl W hK0 hv hp => ?_)
 ·exact ob_getW g11 (0) hc rfl fun vs gs w1 c => c.b0 3
 ·exact ob_mv hc (.inl rfl)
 ·exact ob_call (fun v => [v 1]) hc rfl fun vs gs w1 c => hqn0 _ _ (c.v 1)
 ·exact ob_call (fun v => [v 0, v 2]) hc rfl fun vs gs w1 c => han0 _ _ _ (c.v 0) (c.v 2)
 ·exact ob_cp 3 hc (.inl rfl)
 ·exact ob_ext0 4 hc rfl
 ·exact ob_ext1 4 hc rfl
 ·exact ob_putW (n := 3) rfl 5 hc rfl 0
 simp only [putS, Nat.reduceAdd, Act.put, List.setIfInBounds_toArray, List.set_cons_zero, List.set_cons_succ]
 simp only [kb_] at hK0
 replace I := hK0
 clear hK0 hv hp gl
 go_wp2_with fail
 rw [rounds_succ]
 go_upto_region 10 with fail
 refine wp_regB [] [] (fun z_ => ([VF.eq (.int .i64 (1)), VF.eq (.pointer (some ⟨w.heap.size, 2, none⟩)), VF.eq (.pointer (some ⟨w.heap.size, 2, none⟩)), VF.eq (.int .i64 (a.c)), VF.eq (.int .i64 (1)), VF.eq (.pointer (some ⟨(w.heap.size + 1), 2, none⟩)), VF.eq (.pointer (some ⟨(w.heap.size + 1), 3, none⟩)), VF.eq (.int .i64 (b.d)), VF.eq (.int .i64 (a.c - b.d)), VF.eq (.int .i64 (1)), VF.eq (.pointer (some ⟨(w.heap.size + 1), 2, none⟩)), VF.eq (.pointer (some ⟨(w.heap.size + 1), 2, none⟩)), VF.eq (.int .i64 (b.c)), VF.eq (.int .i64 (1)), VF.eq (.pointer (some ⟨w.heap.size, 2, none⟩)), VF.eq (.pointer (some ⟨w.heap.size, 3, none⟩)), VF.eq (.int .i64 (a.d)), VF.eq (.int .i64 (b.c - a.d)), VF.eq (.int .i64 (d1)), VF.eq (.int .i64 (1)), VF.eq (.pointer (some ⟨w.heap.size, 2, none⟩)), VF.eq (.pointer (some ⟨w.heap.size, 3, none⟩)), VF.eq (.int .i64 (a.d)), VF.eq (.int .i64 (1)), VF.eq (.pointer (some ⟨(w.heap.size + 1), 2, none⟩)), VF.eq (.pointer (some ⟨(w.heap.size + 1), 2, none⟩)), VF.eq (.int .i64 (b.c)), VF.eq (.int .i64 (a.d - b.c)), VF.eq (.int .i64 (1)), VF.eq (.pointer (some ⟨(w.heap.size + 1), 2, none⟩)), VF.eq (.pointer (some ⟨(w.heap.size + 1), 3, none⟩)), VF.eq (.int .i64 (b.d)), VF.eq (.int .i64 (1)), VF.eq (.pointer (some ⟨w.heap.size, 2, none⟩)), VF.eq (.pointer (some ⟨w.heap.size, 2, none⟩)), VF.eq (.int .i64 (a.c)), VF.eq (.int .i64 (b.d - a.c)), VF.eq (.int .i64 (n1)), VF.eq (.int .i64 (d1)), VF.eq (.int .i64 (n1))] : List VF).getD z_ VF.any) I (fun hc => ⟨?_, ?_, ?_, ?_, ?_, ?_, ?_, ?_, ?_, ?_, ?_, ?_, ?_, ?_, ?_, ?_, ?_, ?_, ?_, ?_, ?_, ?_, ?_, ?_, ?_, ?_, ?_, ?_, ?_, ?_, ?_, ?_, ?_, ?_, ?_, ?_, ?_, ?_, ?_, ?_, trivial⟩) (fun vs gl W hK0 hv hp => ?_)
 ·exact ob_mv hc (.inl rfl)
 ·exact ob_e2 (x := .tmp 3) (y := .tmp 33) (a := .pointer (some ⟨w.heap.size, 0, none⟩)) (b := (.int .i64 (1))) (u := .pointer (some ⟨w.heap.size, 2, none⟩)) none (some 0) hc
 ·exact ob_e1 (x := .tmp 34) (a := (.pointer (some ⟨w.heap.size, 2, none⟩))) (u := .pointer (some ⟨w.heap.size, 2, none⟩)) (some 1) hc
 ·exact ob_ld (x := .tmp 35) (g := w.heap.size) (f := 2) (u := .int .i64 (a.c)) (some 2) hc fun vs gs w1 c => c.own 0 2
 ·exact ob_mv hc (.inl rfl)
 ·exact ob_e2 (x := .tmp 4) (y := .tmp 37) (a := .pointer (some ⟨(w.heap.size + 1), 0, none⟩)) (b := (.int .i64 (1))) (u := .pointer (some ⟨(w.heap.size + 1), 2, none⟩)) none (some 4) hc
 ·exact ob_e1 (x := .tmp 38) (a := (.pointer (some ⟨(w.heap.size + 1), 2, none⟩))) (u := .pointer (some ⟨(w.heap.size + 1), 3, none⟩)) (some 5) hc
 ·exact ob_ld (x := .tmp 39) (g := (w.heap.size + 1)) (f := 3) (u := .int .i64 (b.d)) (some 6) hc fun vs gs w1 c => c.own 1 3
 ·exact ob_e2 (x := .tmp 36) (y := .tmp 40) (a := (.int .i64 (a.c))) (b := (.int .i64 (b.d))) (u := .int .i64 (a.c - b.d)) (some 3) (some 7) hc (hs := by intro ρ w1 h k; go_simp; first | done | (simp only [IntKind.wrap_i64]; omega))
 ·exact ob_mv hc (.inl rfl)
 ·exact ob_e2 (x := .tmp 4) (y := .tmp 42) (a := .pointer (some ⟨(w.heap.size + 1), 0, none⟩)) (b := (.int .i64 (1))) (u := .pointer (some ⟨(w.heap.size + 1), 2, none⟩)) none (some 9) hc
 ·exact ob_e1 (x := .tmp 43) (a := (.pointer (some ⟨(w.heap.size + 1), 2, none⟩))) (u := .pointer (some ⟨(w.heap.size + 1), 2, none⟩)) (some 10) hc
 ·exact ob_ld (x := .tmp 44) (g := (w.heap.size + 1)) (f := 2) (u := .int .i64 (b.c)) (some 11) hc fun vs gs w1 c => c.own 1 2
 ·exact ob_mv hc (.inl rfl)
 ·exact ob_e2 (x := .tmp 3) (y := .tmp 46) (a := .pointer (some ⟨w.heap.size, 0, none⟩)) (b := (.int .i64 (1))) (u := .pointer (some ⟨w.heap.size, 2, none⟩)) none (some 13) hc
 ·exact ob_e1 (x := .tmp 47) (a := (.pointer (some ⟨w.heap.size, 2, none⟩))) (u := .pointer (some ⟨w.heap.size, 3, none⟩)) (some 14) hc
 ·exact ob_ld (x := .tmp 48) (g := w.heap.size) (f := 3) (u := .int .i64 (a.d)) (some 15) hc fun vs gs w1 c => c.own 0 3
 ·exact ob_e2 (x := .tmp 45) (y := .tmp 49) (a := (.int .i64 (b.c))) (b := (.int .i64 (a.d))) (u := .int .i64 (b.c - a.d)) (some 12) (some 16) hc (hs := by intro ρ w1 h k; go_simp; first | done | (simp only [IntKind.wrap_i64]; omega))
 ·exact ob_eq (u := .int .i64 d1) hc (fun vs gs w1 ρ hr c => by
   have e1 : ρ (.tmp 41) = _ := c.r hr 8 c_4 rfl c_4
   have e2 : ρ (.tmp 50) = _ := c.r hr 17 c_4 rfl c_4
   have e3 : ρ (.const (.int .i64 0)) = _ := hr _
   replace e3 : ρ (.const (.int .i64 0)) = .int .i64 0 := e3
   clear c hr
   go_simp
   (repeat' split) <;> omega)
 ·exact ob_mv hc (.inl rfl)
 ·exact ob_e2 (x := .tmp 3) (y := .tmp 52) (a := .pointer (some ⟨w.heap.size, 0, none⟩)) (b := (.int .i64 (1))) (u := .pointer (some ⟨w.heap.size, 2, none⟩)) none (some 19) hc
 ·exact ob_e1 (x := .tmp 53) (a := (.pointer (some ⟨w.heap.size, 2, none⟩))) (u := .pointer (some ⟨w.heap.size, 3, none⟩)) (some 20) hc
 ·exact ob_ld (x := .tmp 54) (g := w.heap.size) (f := 3) (u := .int .i64 (a.d)) (some 21) hc fun vs gs w1 c => c.own 0 3
 ·exact ob_mv hc (.inl rfl)
 ·exact ob_e2 (x := .tmp 4) (y := .tmp 56) (a := .pointer (some ⟨(w.heap.size + 1), 0, none⟩)) (b := (.int .i64 (1))) (u := .pointer (some ⟨(w.heap.size + 1), 2, none⟩)) none (some 23) hc
 ·exact ob_e1 (x := .tmp 57) (a := (.pointer (some ⟨(w.heap.size + 1), 2, none⟩))) (u := .pointer (some ⟨(w.heap.size + 1), 2, none⟩)) (some 24) hc
 ·exact ob_ld (x := .tmp 58) (g := (w.heap.size + 1)) (f := 2) (u := .int .i64 (b.c)) (some 25) hc fun vs gs w1 c => c.own 1 2
 ·exact ob_e2 (x := .tmp 55) (y := .tmp 59) (a := (.int .i64 (a.d))) (b := (.int .i64 (b.c))) (u := .int .i64 (a.d - b.c)) (some 22) (some 26) hc (hs := by intro ρ w1 h k; go_simp; first | done | (simp only [IntKind.wrap_i64]; omega))
 ·exact ob_mv hc (.inl rfl)
 ·exact ob_e2 (x := .tmp 4) (y := .tmp 61) (a := .pointer (some ⟨(w.heap.size + 1), 0, none⟩)) (b := (.int .i64 (1))) (u := .pointer (some ⟨(w.heap.size + 1), 2, none⟩)) none (some 28) hc
 ·exact ob_e1 (x := .tmp 62) (a := (.pointer (some ⟨(w.heap.size + 1), 2, none⟩))) (u := .pointer (some ⟨(w.heap.size + 1), 3, none⟩)) (some 29) hc
 ·exact ob_ld (x := .tmp 63) (g := (w.heap.size + 1)) (f := 3) (u := .int .i64 (b.d)) (some 30) hc fun vs gs w1 c => c.own 1 3
 ·exact ob_mv hc (.inl rfl)
 ·exact ob_e2 (x := .tmp 3) (y := .tmp 65) (a := .pointer (some ⟨w.heap.size, 0, none⟩)) (b := (.int .i64 (1))) (u := .pointer (some ⟨w.heap.size, 2, none⟩)) none (some 32) hc
 ·exact ob_e1 (x := .tmp 66) (a := (.pointer (some ⟨w.heap.size, 2, none⟩))) (u := .pointer (some ⟨w.heap.size, 2, none⟩)) (some 33) hc
 ·exact ob_ld (x := .tmp 67) (g := w.heap.size) (f := 2) (u := .int .i64 (a.c)) (some 34) hc fun vs gs w1 c => c.own 0 2
 ·exact ob_e2 (x := .tmp 64) (y := .tmp 68) (a := (.int .i64 (b.d))) (b := (.int .i64 (a.c))) (u := .int .i64 (b.d - a.c)) (some 31) (some 35) hc (hs := by intro ρ w1 h k; go_simp; first | done | (simp only [IntKind.wrap_i64]; omega))
 ·exact ob_eq (u := .int .i64 n1) hc (fun vs gs w1 ρ hr c => by
   have e1 : ρ (.tmp 60) = _ := c.r hr 27 c_4 rfl c_4
   have e2 : ρ (.tmp 69) = _ := c.r hr 36 c_4 rfl c_4
   clear c hr
   go_simp)
 ·exact ob_cp 18 hc (.inr rfl)
 ·exact ob_cp 37 hc (.inr rfl)
 have v38 : vs 38 = .int .i64 d1 := hv 38 (by decide)
 have v39 : vs 39 = .int .i64 n1 := hv 39 (by decide)
 simp only [putS, Nat.reduceAdd, Act.put, List.setIfInBounds_toArray, List.set_cons_zero, List.set_cons_succ, v38, v39]
 simp only [kb_] at hK0
 replace I := hK0
 clear hK0 hv hp gl v38 v39
 go_upto_region 11 with fail
 refine wp_regB [[], [], [(7, BF.wat L2)]] [] (fun z_ => ([VF.wid (L1), VF.eq (.int .i64 (d1)), VF.wid (d1 * d1), (VF.wid L2).err 0, (VF.wid L2).err 0, VF.wid (L2), VF.eq (.int .i64 (0))] : List VF).getD z_ VF.any) I (fun hc => ⟨?_, ?_, ?_, ?_, ?_, ?_, ?_, ?_, trivial⟩) (fun vs gl W hK0 hv hp => ?_)
 ·exact ob_getW g10 (L1) hc rfl fun vs gs w1 c => c.b0 2
 ·exact ob_mv hc (.inl rfl)
 ·exact ob_call (fun v => [v 1]) hc rfl fun vs gs w1 c => hqd1 _ _ (c.v 1)
 ·exact ob_call (fun v => [v 0, v 2]) hc rfl fun vs gs w1 c => had1 _ _ _ (c.v 0) (c.v 2)
 ·exact ob_cp 3 hc (.inl rfl)
 ·exact ob_ext0 4 hc rfl
 ·exact ob_ext1 4 hc rfl
 ·exact ob_putW (n := 2) rfl 5 hc rfl 0
 simp only [putS, Nat.reduceAdd, Act.put, List.setIfInBounds_toArray, List.set_cons_zero, List.set_cons_succ]
 simp only [kb_] at hK0
 replace I := hK0
 clear hK0 hv hp gl
 go_upto_region 12 with fail
 refine wp_regB [[], [], [], [(7, BF.wat M2)]] [] (fun z_ => ([VF.wid (M1), VF.eq (.int .i64 (n1)), VF.wid (n1 * n1), (VF.wid M2).err 0, (VF.wid M2).err 0, VF.wid (M2), VF.eq (.int .i64 (0))] : List VF).getD z_ VF.any) I (fun hc => ⟨?_, ?_, ?_, ?_, ?_, ?_, ?_, ?_, trivial⟩) (fun vs gl W hK0 hv hp => ?_)
 ·exact ob_getW g11 (M1) hc rfl fun vs gs w1 c => c.b0 3
 ·exact ob_mv hc (.inl rfl)
 ·exact ob_call (fun v => [v 1]) hc rfl fun vs gs w1 c => hqn1 _ _ (c.v 1)
 ·exact ob_call (fun v => [v 0, v 2]) hc rfl fun vs gs w1 c => han1 _ _ _ (c.v 0) (c.v 2)
 ·exact ob_cp 3 hc (.inl rfl)
 ·exact ob_ext0 4 hc rfl
 ·exact ob_ext1 4 hc rfl
 ·exact ob_putW (n := 3) rfl 5 hc rfl 0
 simp only [putS, Nat.reduceAdd, Act.put, List.setIfInBounds_toArray, List.set_cons_zero, List.set_cons_succ]
 simp only [kb_] at hK0
 replace I := hK0
 clear hK0 hv hp gl
 go_wp2_with fail
 rw [rounds_succ]
 go_upto_region 10 with fail
 refine wp_regB [] [] (fun z_ => ([VF.eq (.int .i64 (2)), VF.eq (.pointer (some ⟨w.heap.size, 4, none⟩)), VF.eq (.pointer (some ⟨w.heap.size, 4, none⟩)), VF.eq (.int .i64 (a.e)), VF.eq (.int .i64 (2)), VF.eq (.pointer (some ⟨(w.heap.size + 1), 4, none⟩)), VF.eq (.pointer (some ⟨(w.heap.size + 1), 5, none⟩)), VF.eq (.int .i64 (b.f)), VF.eq (.int .i64 (a.e - b.f)), VF.eq (.int .i64 (2)), VF.eq (.pointer (some ⟨(w.heap.size + 1), 4, none⟩)), VF.eq (.pointer (some ⟨(w.heap.size + 1), 4, none⟩)), VF.eq (.int .i64 (b.e)), VF.eq (.int .i64 (2)), VF.eq (.pointer (some ⟨w.heap.size, 4, none⟩)), VF.eq (.pointer (some ⟨w.heap.size, 5, none⟩)), VF.eq (.int .i64 (a.f)), VF.eq (.int .i64 (b.e - a.f)), VF.eq (.int .i64 (d2)), VF.eq (.int .i64 (2)), VF.eq (.pointer (some ⟨w.heap.size, 4, none⟩)), VF.eq (.pointer (some ⟨w.heap.size, 5, none⟩)), VF.eq (.int .i64 (a.f)), VF.eq (.int .i64 (2)), VF.eq (.pointer (some ⟨(w.heap.size + 1), 4, none⟩)), VF.eq (.pointer (some ⟨(w.heap.size + 1), 4, none⟩)), VF.eq (.int .i64 (b.e)), VF.eq (.int .i64 (a.f - b.e)), VF.eq (.int .i64 (2)), VF.eq (.pointer (some ⟨(w.heap.size + 1), 4, none⟩)), VF.eq (.pointer (some ⟨(w.heap.size + 1), 5, none⟩)), VF.eq (.int .i64 (b.f)), VF.eq (.int .i64 (2)), VF.eq (.pointer (some ⟨w.heap.size, 4, none⟩)), VF.eq (.pointer (some ⟨w.heap.size, 4, none⟩)), VF.eq (.int .i64 (a.e)), VF.eq (.int .i64 (b.f - a.e)), VF.eq (.int .i64 (n2)), VF.eq (.int .i64 (d2)), VF.eq (.int .i64 (n2))] : List VF).getD z_ VF.any) I (fun hc => ⟨?_, ?_, ?_, ?_, ?_, ?_, ?_, ?_, ?_, ?_, ?_, ?_, ?_, ?_, ?_, ?_, ?_, ?_, ?_, ?_, ?_, ?_, ?_, ?_, ?_, ?_, ?_, ?_, ?_, ?_, ?_, ?_, ?_, ?_, ?_, ?_, ?_, ?_, ?_, ?_, trivial⟩) (fun vs gl W hK0 hv hp => ?_)
 ·exact ob_mv hc (.inl rfl)
 ·exact ob_e2 (x := .tmp 3) (y := .tmp 33) (a := .pointer (some ⟨w.heap.size, 0, none⟩)) (b := (.int .i64 (2))) (u := .pointer (some ⟨w.heap.size, 4, none⟩)) none (some 0) hc
 ·exact ob_e1 (x := .tmp 34) (a := (.pointer (some ⟨w.heap.size, 4, none⟩))) (u := .pointer (some ⟨w.heap.size, 4, none⟩)) (some 1) hc
 ·exact ob_ld (x := .tmp 35) (g := w.heap.size) (f := 4) (u := .int .i64 (a.e)) (some 2) hc fun vs gs w1 c => c.own 0 4
 ·exact ob_mv hc (.inl rfl)
 ·exact ob_e2 (x := .tmp 4) (y := .tmp 37) (a := .pointer (some ⟨(w.heap.size + 1), 0, none⟩)) (b := (.int .i64 (2))) (u := .pointer (some ⟨(w.heap.size + 1), 4, none⟩)) none (some 4) hc
 ·exact ob_e1 (x := .tmp 38) (a := (.pointer (some ⟨(w.heap.size + 1), 4, none⟩))) (u := .pointer (some ⟨(w.heap.size + 1), 5, none⟩)) (some 5) hc
 ·exact ob_ld (x := .tmp 39) (g := (w.heap.size + 1)) (f := 5) (u := .int .i64 (b.f)) (some 6) hc fun vs gs w1 c => c.own 1 5
 ·exact ob_e2 (x := .tmp 36) (y := .tmp 40) (a := (.int .i64 (a.e))) (b := (.int .i64 (b.f))) (u := .int .i64 (a.e - b.f)) (some 3) (some 7) hc (hs := by intro ρ w1 h k; go_simp; first | done | (simp only [IntKind.wrap_i64]; omega))
 ·exact ob_mv hc (.inl rfl)
 ·exact ob_e2 (x := .tmp 4) (y := .tmp 42) (a := .pointer (some ⟨(w.heap.size + 1), 0, none⟩)) (b := (.int .i64 (2))) (u := .pointer (some ⟨(w.heap.size + 1), 4, none⟩)) none (some 9) hc
 ·exact ob_e1 (x := .tmp 43) (a := (.pointer (some ⟨(w.heap.size + 1), 4, none⟩))) (u := .pointer (some ⟨(w.heap.size + 1), 4, none⟩)) (some 10) hc
 ·exact ob_ld (x := .tmp 44) (g := (w.heap.size + 1)) (f := 4) (u := .int .i64 (b.e)) (some 11) hc fun vs gs w1 c => c.own 1 4
 ·exact ob_mv hc (.inl rfl)
 ·exact ob_e2 (x := .tmp 3) (y := .tmp 46) (a := .pointer (some ⟨w.heap.size, 0, none⟩)) (b := (.int .i64 (2))) (u := .pointer (some ⟨w.heap.size, 4, none⟩)) none (some 13) hc
 ·exact ob_e1 (x := .tmp 47) (a := (.pointer (some ⟨w.heap.size, 4, none⟩))) (u := .pointer (some ⟨w.heap.size, 5, none⟩)) (some 14) hc
 ·exact ob_ld (x := .tmp 48) (g := w.heap.size) (f := 5) (u := .int .i64 (a.f)) (some 15) hc fun vs gs w1 c => c.own 0 5
 ·exact ob_e2 (x := .tmp 45) (y := .tmp 49) (a := (.int .i64 (b.e))) (b := (.int .i64 (a.f))) (u := .int .i64 (b.e - a.f)) (some 12) (some 16) hc (hs := by intro ρ w1 h k; go_simp; first | done | (simp only [IntKind.wrap_i64]; omega))
 ·exact ob_eq (u := .int .i64 d2) hc (fun vs gs w1 ρ hr c => by
   have e1 : ρ (.tmp 41) = _ := c.r hr 8 c_4 rfl c_4
   have e2 : ρ (.tmp 50) = _ := c.r hr 17 c_4 rfl c_4
   have e3 : ρ (.const (.int .i64 0)) = _ := hr _
   replace e3 : ρ (.const (.int .i64 0)) = .int .i64 0 := e3
   clear c hr
   go_simp
   (repeat' split) <;> omega)
 ·exact ob_mv hc (.inl rfl)
 ·exact ob_e2 (x := .tmp 3) (y := .tmp 52) (a := .pointer (some ⟨w.heap.size, 0, none⟩)) (b := (.int .i64 (2))) (u := .pointer (some ⟨w.heap.size, 4, none⟩)) none (some 19) hc
 ·exact ob_e1 (x := .tmp 53) (a := (.pointer (some ⟨w.heap.size, 4, none⟩))) (u := .pointer (some ⟨w.heap.size, 5, none⟩)) (some 20) hc
 ·exact ob_ld (x := .tmp 54) (g := w.heap.size) (f := 5) (u := .int .i64 (a.f)) (some 21) hc fun vs gs w1 c => c.own 0 5
 ·exact ob_mv hc (.inl rfl)
 ·exact ob_e2 (x := .tmp 4) (y := .tmp 56) (a := .pointer (some ⟨(w.heap.size + 1), 0, none⟩)) (b := (.int .i64 (2))) (u := .pointer (some ⟨(w.heap.size + 1), 4, none⟩)) none (some 23) hc
 ·exact ob_e1 (x := .tmp 57) (a := (.pointer (some ⟨(w.heap.size + 1), 4, none⟩))) (u := .pointer (some ⟨(w.heap.size + 1), 4, none⟩)) (some 24) hc
 ·exact ob_ld (x := .tmp 58) (g := (w.heap.size + 1)) (f := 4) (u := .int .i64 (b.e)) (some 25) hc fun vs gs w1 c => c.own 1 4
 ·exact ob_e2 (x := .tmp 55) (y := .tmp 59) (a := (.int .i64 (a.f))) (b := (.int .i64 (b.e))) (u := .int .i64 (a.f - b.e)) (some 22) (some 26) hc (hs := by intro ρ w1 h k; go_simp; first | done | (simp only [IntKind.wrap_i64]; omega))
 ·exact ob_mv hc (.inl rfl)
 ·exact ob_e2 (x := .tmp 4) (y := .tmp 61) (a := .pointer (some ⟨(w.heap.size + 1), 0, none⟩)) (b := (.int .i64 (2))) (u := .pointer (some ⟨(w.heap.size + 1), 4, none⟩)) none (some 28) hc
 ·exact ob_e1 (x := .tmp 62) (a := (.pointer (some ⟨(w.heap.size + 1), 4, none⟩))) (u := .pointer (some ⟨(w.heap.size + 1), 5, none⟩)) (some 29) hc
 ·exact ob_ld (x := .tmp 63) (g := (w.heap.size + 1)) (f := 5) (u := .int .i64 (b.f)) (some 30) hc fun vs gs w1 c => c.own 1 5
 ·exact ob_mv hc (.inl rfl)
 ·exact ob_e2 (x := .tmp 3) (y := .tmp 65) (a := .pointer (some ⟨w.heap.size, 0, none⟩)) (b := (.int .i64 (2))) (u := .pointer (some ⟨w.heap.size, 4, none⟩)) none (some 32) hc
 ·exact ob_e1 (x := .tmp 66) (a := (.pointer (some ⟨w.heap.size, 4, none⟩))) (u := .pointer (some ⟨w.heap.size, 4, none⟩)) (some 33) hc
 ·exact ob_ld (x := .tmp 67) (g := w.heap.size) (f := 4) (u := .int .i64 (a.e)) (some 34) hc fun vs gs w1 c => c.own 0 4
 ·exact ob_e2 (x := .tmp 64) (y := .tmp 68) (a := (.int .i64 (b.f))) (b := (.int .i64 (a.e))) (u := .int .i64 (b.f - a.e)) (some 31) (some 35) hc (hs := by intro ρ w1 h k; go_simp; first | done | (simp only [IntKind.wrap_i64]; omega))
 ·exact ob_eq (u := .int .i64 n2) hc (fun vs gs w1 ρ hr c => by
   have e1 : ρ (.tmp 60) = _ := c.r hr 27 c_4 rfl c_4
   have e2 : ρ (.tmp 69) = _ := c.r hr 36 c_4 rfl c_4
   clear c hr
   go_simp)
 ·exact ob_cp 18 hc (.inr rfl)
 ·exact ob_cp 37 hc (.inr rfl)
 have v38 : vs 38 = .int .i64 d2 := hv 38 (by decide)
 have v39 : vs 39 = .int .i64 n2 := hv 39 (by decide)
 simp only [putS, Nat.reduceAdd, Act.put, List.setIfInBounds_toArray, List.set_cons_zero, List.set_cons_succ, v38, v39]
 simp only [kb_] at hK0
 replace I := hK0
 clear hK0 hv hp gl v38 v39
 go_upto_region 11 with fail
 refine wp_regB [[], [], [(7, BF.wat L3)]] [] (fun z_ => ([VF.wid (L2), VF.eq (.int .i64 (d2)), VF.wid (d2 * d2), (VF.wid L3).err 0, (VF.wid L3).err 0, VF.wid (L3), VF.eq (.int .i64 (0))] : List VF).getD z_ VF.any) I (fun hc => ⟨?_, ?_, ?_, ?_, ?_, ?_, ?_, ?_, trivial⟩) (fun vs gl W hK0 hv hp => ?_)
 ·exact ob_getW g10 (L2) hc rfl fun vs gs w1 c => c.b0 2
 ·exact ob_mv hc (.inl rfl)
 ·exact ob_call (fun v => [v 1]) hc rfl fun vs gs w1 c => hqd2 _ _ (c.v 1)
 ·exact ob_call (fun v => [v 0, v 2]) hc rfl fun vs gs w1 c => had2 _ _ _ (c.v 0) (c.v 2)
 ·exact ob_cp 3 hc (.inl rfl)
 ·exact ob_ext0 4 hc rfl
 ·exact ob_ext1 4 hc rfl
 ·exact ob_putW (n := 2) rfl 5 hc rfl 0
 simp only [putS, Nat.reduceAdd, Act.put, List.setIfInBounds_toArray, List.set_cons_zero, List.set_cons_succ]
 simp only [kb_] at hK0
 replace I := hK0
 clear hK0 hv hp gl
 go_upto_region 12 with fail
 refine wp_regB [[], [], [], [(7, BF.wat M3)]] [] (fun z_ => ([VF.wid (M2), VF.eq (.int .i64 (n2)), VF.wid (n2 * n2), (VF.wid M3).err 0, (VF.wid M3).err 0, VF.wid (M3), VF.eq (.int .i64 (0))] : List VF).getD z_ VF.any) I (fun hc => ⟨?_, ?_, ?_, ?_, ?_, ?_, ?_, ?_, trivial⟩) (fun vs gl W hK0 hv hp => ?_)
 ·exact ob_getW g11 (M2) hc rfl fun vs gs w1 c => c.b0 3
 ·exact ob_mv hc (.inl rfl)
 ·exact ob_call (fun v => [v 1]) hc rfl fun vs gs w1 c => hqn2 _ _ (c.v 1)
 ·exact ob_call (fun v => [v 0, v 2]) hc rfl fun vs gs w1 c => han2 _ _ _ (c.v 0) (c.v 2)
 ·exact ob_cp 3 hc (.inl rfl)
 ·exact ob_ext0 4 hc rfl
 ·exact ob_ext1 4 hc rfl
 ·exact ob_putW (n := 3) rfl 5 hc rfl 0
 simp only [putS, Nat.reduceAdd, Act.put, List.setIfInBounds_toArray, List.set_cons_zero, List.set_cons_succ]
 simp only [kb_] at hK0
 replace I := hK0
 clear hK0 hv hp gl
 go_wp2_with fail
 rw [rounds_succ]
 go_upto_region 14 with fail
 refine wp_regB [] [⟨2, some 3, BF.own [.int .i64 0, .int .i64 0], (BF.own [.int .i64 s.1, .int .i64 s.2])⟩] (fun z_ => ([VF.eq (.int .i64 (half)), VF.eq (.agg #[.int .i64 s.1, .int .i64 s.2])] : List VF).getD z_ VF.any) I (fun hc => ⟨?_, ?_, ?_, ?_, trivial⟩) (fun vs gl W hK0 hv hp => ?_)
 ·exact ob_mv hc (.inl rfl)
 ·exact ob_call (fun v => [v 0]) hc rfl fun vs gs w1 c => hsi _ _ (c.v 0)
 ·exact b_22
 ·exact ob_put2 (n := 4) 0 rfl (some 1) hc rfl
 have p0 : vs 2 = .pointer (some ⟨gl 0, 0, none⟩) := hp 0 _ rfl
 simp only [putS, Nat.reduceAdd, Act.put, List.setIfInBounds_toArray, List.set_cons_zero, List.set_cons_succ, p0]
 obtain ⟨g15, e90⟩ : ∃ n, gl 0 = n := ⟨_, rfl⟩
 simp only [kb_, e90] at hK0
 rw [e90]
 replace I := hK0
 clear hK0 hv hp gl p0 e90
 go_upto_region 15 with fail
 refine wp_regB [] [] (fun z_ => ([VF.wid (M3), VF.eq (.pointer (some ⟨g15, 0, none⟩)), VF.eq (.int .i64 (s.1)), VF.eq (.int .i64 (2 * s.1)), VF.wid (2 * s.1 * (2 * s.1)), VF.eq (.bool t1), VF.wid (L3), VF.eq (.pointer (some ⟨g15, 1, none⟩)), VF.eq (.int .i64 (s.2)), VF.eq (.int .i64 (2 * s.2)), VF.wid (2 * s.2 * (2 * s.2)), VF.eq (.bool t2), VF.eq (.bool t1), VF.eq (.bool t2), VF.eq (.int .i64 (0))] : List VF).getD z_ VF.any) I (fun hc => ⟨?_, ?_, ?_, ?_, ?_, ?_, ?_, ?_, ?_, ?_, ?_, ?_, ?_, ?_, ?_, trivial⟩) (fun vs gl W hK0 hv hp => ?_)
 ·exact ob_getW g11 (M3) hc rfl fun vs gs w1 c => c.b0 3
 ·exact ob_e1 (x := .tmp 15) (a := .pointer (some ⟨g15, 0, none⟩)) (u := .pointer (some ⟨g15, 0, none⟩)) none hc
 ·exact ob_ld (x := .tmp 89) (g := g15) (f := 0) (u := .int .i64 (s.1)) (some 1) hc fun vs gs w1 c => c.own 4 0
 ·exact ob_e2 (x := .const (.int .i64 2)) (y := .tmp 90) (a := .int .i64 2) (b := (.int .i64 (s.1))) (u := .int .i64 (2 * s.1)) none (some 2) hc (hs := by intro ρ w1 h k; go_simp; first | done | (simp only [IntKind.wrap_i64]; omega))
 ·exact ob_call (fun v => [v 3]) hc rfl fun vs gs w1 c => hs1 _ _ (c.v 3)
 ·exact ob_call (fun v => [v 0, v 4]) hc rfl fun vs gs w1 c => hm1 _ _ _ (c.v 0) (c.v 4)
 ·exact ob_getW g10 (L3) hc rfl fun vs gs w1 c => c.b0 2
 ·exact ob_e1 (x := .tmp 15) (a := .pointer (some ⟨g15, 0, none⟩)) (u := .pointer (some ⟨g15, 1, none⟩)) none hc
 ·exact ob_ld (x := .tmp 95) (g := g15) (f := 1) (u := .int .i64 (s.2)) (some 7) hc fun vs gs w1 c => c.own 4 1
 ·exact ob_e2 (x := .const (.int .i64 2)) (y := .tmp 96) (a := .int .i64 2) (b := (.int .i64 (s.2))) (u := .int .i64 (2 * s.2)) none (some 8) hc (hs := by intro ρ w1 h k; go_simp; first | done | (simp only [IntKind.wrap_i64]; omega))
 ·exact ob_call (fun v => [v 9]) hc rfl fun vs gs w1 c => hs2 _ _ (c.v 9)
 ·exact ob_call (fun v => [v 6, v 10]) hc rfl fun vs gs w1 c => hm2 _ _ _ (c.v 6) (c.v 10)
 ·exact ob_cp 5 hc (.inr rfl)
 ·exact ob_cp 11 hc (.inr rfl)
 ·exact ob_mv hc (.inr rfl)
 have v12 : vs 12 = .bool t1 := hv 12 (by decide)
 have v13 : vs 13 = .bool t2 := hv 13 (by decide)
 have v14 : vs 14 = .int .i64 0 := hv 14 (by decide)
 simp only [putS, Nat.reduceAdd, Act.put, List.setIfInBounds_toArray, List.set_cons_zero, List.set_cons_succ, v12, v13, v14]
 simp only [kb_] at hK0
 replace I := hK0
 clear hK0 hv hp gl v12 v13 v14
 have hE := I.e
 clear I
 go_wp2_with fail
 refine bodyPost_ret (v := .tuple #[.bool t1, .bool t2, .int .i64 0]) ?_ rfl ⟨rfl, hE⟩
 simp [results, Tryz.results10, go_sem, ↓IntWalk.iteOmega]
end Go.Proofs.YtaoioncjmfcolaaGreat
