/- sphere: errors. -/
import Derived.Test.YtaoioncjmfcolaaGreatW29
import Derived.Laws.AppendOwnNone
set_option linter.unusedSimpArgs false
set_option linter.unusedVariables false
set_option maxRecDepth 100000
set_option maxHeartbeats 4000000
namespace Go.Proofs.YtaoioncjmfcolaaGreat
open Go.RowKit
theorem T_SPE_3 {p : Prop} (h : p := by
 exact ob_ld6 (x := .tmp 2) (g := w.heap.size) (f := 0) none hc rfl fun vs gs w1 c => ⟨c.own 0 0, c.own 0 1, c.own 0 2, c.own 0 3, c.own 0 4, c.own 0 5⟩) : p := h
theorem T_SPE_2 {p : Prop} (h : p := by
 exact ob_ld2 (x := .tmp 3) (g := (w.heap.size + 1)) (f := 0) none hc rfl fun vs gs w1 c => ⟨c.own 1 0, c.own 1 1⟩) : p := h
theorem T_SPE_1 {p : Prop} (h : p := by
 exact ob_e1 (x := .tmp 1) (a := .pointer (some ⟨w.heap.size, 0, none⟩)) (u := .pointer (some ⟨w.heap.size, 2, none⟩)) none hc) : p := h
theorem p_eachBad (f : Nat) (a b : V3) (w : World) (h : ck2V a b = 8) : Calls Tryz.prog 41 #[.func (.func f) #[] #[], .agg #[.int .i64 a.a, .int .i64 a.b, .int .i64 a.c, .int .i64 a.d, .int .i64 a.e, .int .i64 a.f], .agg #[.int .i64 b.a, .int .i64 b.b, .int .i64 b.c, .int .i64 b.d, .int .i64 b.e, .int .i64 b.f]] w fun e w' => e = .returned (.tuple #[.agg #[.int .i64 0, .int .i64 0, .int .i64 0, .int .i64 0, .int .i64 0, .int .i64 0], .int .i64 8]) ∧ Ext w w' := by
 have hlk : ∀ (w1 : World) (u1 u2 : Value), u1 = .agg #[.int .i64 a.a, .int .i64 a.b, .int .i64 a.c, .int .i64 a.d, .int .i64 a.e, .int .i64 a.f] → u2 = .agg #[.int .i64 b.a, .int .i64 b.b, .int .i64 b.c, .int .i64 b.d, .int .i64 b.e, .int .i64 b.f] → Calls Tryz.prog 38 #[u1, u2] w1 fun e w' => ∃ u, e = .returned u ∧ u = .int .i64 8 ∧ Ext w1 w' := fun w1 u1 u2 k1 k2 => by
  subst k1 k2
  have := s_look a b w1
  rw [h] at this
  exact calls_eq this
 clear h
 have I0 : KBd w [] w := ⟨Ext.refl w, trivial, by simp, by simp⟩
 have I := (((I0.new [.int .i64 a.a, .int .i64 a.b, .int .i64 a.c, .int .i64 a.d, .int .i64 a.e, .int .i64 a.f] 32 (by simp)).new [.int .i64 b.a, .int .i64 b.b, .int .i64 b.c, .int .i64 b.d, .int .i64 b.e, .int .i64 b.f] 32 (by simp)).new [.int .i64 0, .int .i64 0, .int .i64 0, .int .i64 0, .int .i64 0, .int .i64 0] 32 (by simp))
 simp only [World.size_alloc, List.nil_append, List.cons_append] at I
 clear I0
 go_enter Tryz.func41, Tryz.ntmps41
 go_upto_region 1 with fail
 refine wp_regB [] [] (fun z_ => ([VF.eq (.agg #[.int .i64 a.a, .int .i64 a.b, .int .i64 a.c, .int .i64 a.d, .int .i64 a.e, .int .i64 a.f]), VF.eq (.agg #[.int .i64 b.a, .int .i64 b.b, .int .i64 b.c, .int .i64 b.d, .int .i64 b.e, .int .i64 b.f]), VF.eq (.int .i64 (8)), VF.eq (.int .i64 (8))] : List VF).getD z_ VF.any) I (fun hc => ⟨?_, ?_, ?_, ?_, trivial⟩) (fun vs gl W hK0 hv hp => ?_)
 ·exact ob_ld6 (x := .tmp 4) (g := w.heap.size) (f := 0) none hc rfl fun vs gs w1 c => ⟨c.own 0 0, c.own 0 1, c.own 0 2, c.own 0 3, c.own 0 4, c.own 0 5⟩
 ·exact b_24
 ·exact ob_call (fun v => [v 0, v 1]) hc rfl fun vs gs w1 c => hlk _ _ _ (c.v 0) (c.v 1)
 ·exact ob_cp 2 hc (.inr rfl)
 have v3 : vs 3 = .int .i64 8 := hv 3 (by decide)
 simp only [putS, Nat.reduceAdd, Act.put, List.setIfInBounds_toArray, List.set_cons_zero, List.set_cons_succ, v3]
 simp only [kb_] at hK0
 replace I := hK0
 clear hK0 hv hp gl v3
 go_upto_region 3 with fail
 refine wp_regB [[], [], [(2, BF.own [.int .i64 0, .int .i64 0, .int .i64 0, .int .i64 0, .int .i64 0, .int .i64 0])]] [] (fun z_ => ([VF.eq (.agg #[.int .i64 0, .int .i64 0, .int .i64 0, .int .i64 0, .int .i64 0, .int .i64 0]), VF.eq (.int .i64 (8)), VF.any, VF.eq (.int .i64 (8))] : List VF).getD z_ VF.any) I (fun hc => ⟨?_, ?_, ?_, ?_, trivial⟩) (fun vs gl W hK0 hv hp => ?_)
 ·exact ob_k (u := .agg #[.int .i64 0, .int .i64 0, .int .i64 0, .int .i64 0, .int .i64 0, .int .i64 0]) hc
 ·exact ob_mv hc (.inl rfl)
 ·exact ob_putV (n := 2) rfl (some 0) hc rfl rfl
 ·exact ob_cp 1 hc (.inr rfl)
 have v3 : vs 3 = .int .i64 8 := hv 3 (by decide)
 simp only [putS, Nat.reduceAdd, Act.put, List.setIfInBounds_toArray, List.set_cons_zero, List.set_cons_succ, v3]
 simp only [kb_] at hK0
 replace I := hK0
 clear hK0 hv hp gl v3
 have d0 := I.own 2 0
 have d1 := I.own 2 1
 have d2 := I.own 2 2
 have d3 := I.own 2 3
 have d4 := I.own 2 4
 have d5 := I.own 2 5
 have hE := I.e
 clear I hlk
 go_wp2_with fail
 refine bodyPost_ret (v := .tuple #[.agg #[.int .i64 0, .int .i64 0, .int .i64 0, .int .i64 0, .int .i64 0, .int .i64 0], .int .i64 8]) ?_ rfl ⟨rfl, hE⟩
 simp [results, Tryz.results41, go_sem, ↓IntWalk.iteOmega, d0, d1, d2, d3, d4, d5]
theorem p_AddBad (a b : V3) (w : World) (h : ck2V a b = 8) : Calls Tryz.prog 11 #[.agg #[.int .i64 a.a, .int .i64 a.b, .int .i64 a.c, .int .i64 a.d, .int .i64 a.e, .int .i64 a.f], .agg #[.int .i64 b.a, .int .i64 b.b, .int .i64 b.c, .int .i64 b.d, .int .i64 b.e, .int .i64 b.f]] w fun e w' => e = .returned (.tuple #[.agg #[.int .i64 0, .int .i64 0, .int .i64 0, .int .i64 0, .int .i64 0, .int .i64 0], .int .i64 8]) ∧ Ext w w' := by
 have hea : ∀ (w1 : World) (u1 u2 : Value), u1 = .agg #[.int .i64 a.a, .int .i64 a.b, .int .i64 a.c, .int .i64 a.d, .int .i64 a.e, .int .i64 a.f] → u2 = .agg #[.int .i64 b.a, .int .i64 b.b, .int .i64 b.c, .int .i64 b.d, .int .i64 b.e, .int .i64 b.f] → Calls Tryz.prog 41 #[.func (.func 42) #[] #[], u1, u2] w1 fun e w' => ∃ u, e = .returned u ∧ u = .tuple #[.agg #[.int .i64 0, .int .i64 0, .int .i64 0, .int .i64 0, .int .i64 0, .int .i64 0], .int .i64 8] ∧ Ext w1 w' := fun w1 u1 u2 k1 k2 => by subst k1 k2; exact calls_eq (p_eachBad 42 a b w1 h)
 clear h
 have I0 : KBd w [] w := ⟨Ext.refl w, trivial, by simp, by simp⟩
 have I := (((I0.new [.int .i64 a.a, .int .i64 a.b, .int .i64 a.c, .int .i64 a.d, .int .i64 a.e, .int .i64 a.f] 32 (by simp)).new [.int .i64 b.a, .int .i64 b.b, .int .i64 b.c, .int .i64 b.d, .int .i64 b.e, .int .i64 b.f] 32 (by simp)).new [.int .i64 0, .int .i64 0, .int .i64 0, .int .i64 0, .int .i64 0, .int .i64 0] 32 (by simp))
 simp only [World.size_alloc, List.nil_append, List.cons_append] at I
 clear I0
 go_enter Tryz.func11, Tryz.ntmps11
 go_upto_region 1 with fail
 refine wp_regB [[], [], [(5, BF.own [.int .i64 0, .int .i64 0, .int .i64 0, .int .i64 0, .int .i64 0, .int .i64 0])]] [] (fun z_ => ([VF.eq (.agg #[.int .i64 a.a, .int .i64 a.b, .int .i64 a.c, .int .i64 a.d, .int .i64 a.e, .int .i64 a.f]), VF.eq (.agg #[.int .i64 b.a, .int .i64 b.b, .int .i64 b.c, .int .i64 b.d, .int .i64 b.e, .int .i64 b.f]), VF.eq (.tuple #[.agg #[.int .i64 0, .int .i64 0, .int .i64 0, .int .i64 0, .int .i64 0, .int .i64 0], .int .i64 8]), VF.eq (.agg #[.int .i64 0, .int .i64 0, .int .i64 0, .int .i64 0, .int .i64 0, .int .i64 0]), VF.eq (.int .i64 (8)), VF.any, VF.eq (.int .i64 (8))] : List VF).getD z_ VF.any) I (fun hc => ⟨?_, ?_, ?_, ?_, ?_, ?_, ?_, trivial⟩) (fun vs gl W hK0 hv hp => ?_)
 ·exact T_SPE_3
 ·exact ob_ld6 (x := .tmp 3) (g := (w.heap.size + 1)) (f := 0) none hc rfl fun vs gs w1 c => ⟨c.own 1 0, c.own 1 1, c.own 1 2, c.own 1 3, c.own 1 4, c.own 1 5⟩
 ·exact ob_call (fun v => [.func (.func 42) #[] #[], v 0, v 1]) hc rfl fun vs gs w1 c => hea _ _ _ (c.v 0) (c.v 1)
 ·exact ob_e1 (x := .tmp 8) (a := (.tuple #[.agg #[.int .i64 0, .int .i64 0, .int .i64 0, .int .i64 0, .int .i64 0, .int .i64 0], .int .i64 8])) (u := .agg #[.int .i64 0, .int .i64 0, .int .i64 0, .int .i64 0, .int .i64 0, .int .i64 0]) (some 2) hc
 ·exact ob_e1 (x := .tmp 8) (a := (.tuple #[.agg #[.int .i64 0, .int .i64 0, .int .i64 0, .int .i64 0, .int .i64 0, .int .i64 0], .int .i64 8])) (u := .int .i64 (8)) (some 2) hc
 ·exact ob_putV (n := 2) rfl (some 3) hc rfl rfl
 ·exact ob_cp 4 hc (.inr rfl)
 have v6 : vs 6 = .int .i64 8 := hv 6 (by decide)
 simp only [putS, Nat.reduceAdd, Act.put, List.setIfInBounds_toArray, List.set_cons_zero, List.set_cons_succ, v6]
 simp only [kb_] at hK0
 replace I := hK0
 clear hK0 hv hp gl v6
 have d0 := I.own 2 0
 have d1 := I.own 2 1
 have d2 := I.own 2 2
 have d3 := I.own 2 3
 have d4 := I.own 2 4
 have d5 := I.own 2 5
 have hE := I.e
 clear I hea
 go_wp2_with fail
 refine bodyPost_ret (v := .tuple #[.agg #[.int .i64 0, .int .i64 0, .int .i64 0, .int .i64 0, .int .i64 0, .int .i64 0], .int .i64 8]) ?_ rfl ⟨rfl, hE⟩
 simp [results, Tryz.results11, go_sem, ↓IntWalk.iteOmega, d0, d1, d2, d3, d4, d5]
theorem p_ScaleBad (a : V3) (x y : Int) (w : World) (h : ck2V a ⟨x, y, x, y, x, y⟩ = 8) : Calls Tryz.prog 14 #[.agg #[.int .i64 a.a, .int .i64 a.b, .int .i64 a.c, .int .i64 a.d, .int .i64 a.e, .int .i64 a.f], .agg #[.int .i64 x, .int .i64 y]] w fun e w' => e = .returned (.tuple #[.agg #[.int .i64 0, .int .i64 0, .int .i64 0, .int .i64 0, .int .i64 0, .int .i64 0], .int .i64 8]) ∧ Ext w w' := by
 have hea : ∀ (w1 : World) (u1 u2 : Value), u1 = .agg #[.int .i64 a.a, .int .i64 a.b, .int .i64 a.c, .int .i64 a.d, .int .i64 a.e, .int .i64 a.f] → u2 = .agg #[.int .i64 x, .int .i64 y, .int .i64 x, .int .i64 y, .int .i64 x, .int .i64 y] → Calls Tryz.prog 41 #[.func (.func 48) #[] #[], u1, u2] w1 fun e w' => ∃ u, e = .returned u ∧ u = .tuple #[.agg #[.int .i64 0, .int .i64 0, .int .i64 0, .int .i64 0, .int .i64 0, .int .i64 0], .int .i64 8] ∧ Ext w1 w' := fun w1 u1 u2 k1 k2 => by subst k1 k2; exact calls_eq (p_eachBad 48 a ⟨x, y, x, y, x, y⟩ w1 h)
 clear h
 have I0 : KBd w [] w := ⟨Ext.refl w, trivial, by simp, by simp⟩
 have I := (((I0.new [.int .i64 a.a, .int .i64 a.b, .int .i64 a.c, .int .i64 a.d, .int .i64 a.e, .int .i64 a.f] 32 (by simp)).new [.int .i64 x, .int .i64 y] 30 (by simp)).new [.int .i64 0, .int .i64 0, .int .i64 0, .int .i64 0, .int .i64 0, .int .i64 0] 32 (by simp))
 simp only [World.size_alloc, List.nil_append, List.cons_append] at I
 clear I0
 go_enter Tryz.func14, Tryz.ntmps14
 go_upto_region 1 with fail
 refine wp_regB [[], [], [(8, BF.own [.int .i64 0, .int .i64 0, .int .i64 0, .int .i64 0, .int .i64 0, .int .i64 0])]] [] (fun z_ => ([VF.eq (.agg #[.int .i64 a.a, .int .i64 a.b, .int .i64 a.c, .int .i64 a.d, .int .i64 a.e, .int .i64 a.f]), VF.eq (.agg #[.int .i64 x, .int .i64 y]), VF.eq (.agg #[.int .i64 x, .int .i64 y]), VF.eq (.agg #[.int .i64 x, .int .i64 y]), VF.eq (.agg #[.int .i64 x, .int .i64 y, .int .i64 x, .int .i64 y, .int .i64 x, .int .i64 y]), VF.eq (.tuple #[.agg #[.int .i64 0, .int .i64 0, .int .i64 0, .int .i64 0, .int .i64 0, .int .i64 0], .int .i64 8]), VF.eq (.agg #[.int .i64 0, .int .i64 0, .int .i64 0, .int .i64 0, .int .i64 0, .int .i64 0]), VF.eq (.int .i64 (8)), VF.any, VF.eq (.int .i64 (8))] : List VF).getD z_ VF.any) I (fun hc => ⟨?_, ?_, ?_, ?_, ?_, ?_, ?_, ?_, ?_, ?_, trivial⟩) (fun vs gl W hK0 hv hp => ?_)
 ·exact T_SPE_3
 ·exact T_SPE_2
 ·exact T_SPE_2
 ·exact T_SPE_2
 ·exact ob_b3 (some 1) (some 2) (some 3) hc rfl
 ·exact ob_call (fun v => [.func (.func 48) #[] #[], v 0, v 4]) hc rfl fun vs gs w1 c => hea _ _ _ (c.v 0) (c.v 4)
 ·exact ob_e1 (x := .tmp 11) (a := (.tuple #[.agg #[.int .i64 0, .int .i64 0, .int .i64 0, .int .i64 0, .int .i64 0, .int .i64 0], .int .i64 8])) (u := .agg #[.int .i64 0, .int .i64 0, .int .i64 0, .int .i64 0, .int .i64 0, .int .i64 0]) (some 5) hc
 ·exact ob_e1 (x := .tmp 11) (a := (.tuple #[.agg #[.int .i64 0, .int .i64 0, .int .i64 0, .int .i64 0, .int .i64 0, .int .i64 0], .int .i64 8])) (u := .int .i64 (8)) (some 5) hc
 ·exact ob_putV (n := 2) rfl (some 6) hc rfl rfl
 ·exact ob_cp 7 hc (.inr rfl)
 have v9 : vs 9 = .int .i64 8 := hv 9 (by decide)
 simp only [putS, Nat.reduceAdd, Act.put, List.setIfInBounds_toArray, List.set_cons_zero, List.set_cons_succ, v9]
 simp only [kb_] at hK0
 replace I := hK0
 clear hK0 hv hp gl v9
 have d0 := I.own 2 0
 have d1 := I.own 2 1
 have d2 := I.own 2 2
 have d3 := I.own 2 3
 have d4 := I.own 2 4
 have d5 := I.own 2 5
 have hE := I.e
 clear I hea
 go_wp2_with fail
 refine bodyPost_ret (v := .tuple #[.agg #[.int .i64 0, .int .i64 0, .int .i64 0, .int .i64 0, .int .i64 0, .int .i64 0], .int .i64 8]) ?_ rfl ⟨rfl, hE⟩
 simp [results, Tryz.results14, go_sem, ↓IntWalk.iteOmega, d0, d1, d2, d3, d4, d5]
theorem PatP.t0 {w : World} {g : Nat} {x y : Int} (h : PatP w g x y) (hy : ¬ y < 0) : w.cell? ⟨g, 2, none⟩ = some (.bool false) := by
 obtain ⟨s, u, t, z, h0, h1, h2, h3, h4, h5⟩ := h.c
 obtain ⟨v, e, -⟩ := h5
 cases e
 rw [decide_eq_false hy] at h2
 exact h2
theorem wid_none (w : World) : Wid w (.agg #[.bool false, .slice none 0 0]) 0 := ⟨_, rfl, Lim.nil _⟩
theorem p_fCheck0 (w : World) : Calls Tryz.prog 51 #[.agg #[.bool false, .slice none 0 0, .bool false, .slice none 0 0]] w fun e w' => e = .returned (.int .i64 8) ∧ Ext w w' := by
 have z0 : Sz 0 := dig_bits (k := 64) (L := 4096) (by decide) (by decide)
 have hgc : ∀ (w1 : World) (u1 u2 : Value), Wid w1 u1 0 → Wid w1 u2 0 → Calls Tryz.prog 103 #[u1, u2] w1 fun e w' => ∃ u, e = .returned u ∧ ((VF.wid 0).err 0).p u w' ∧ Ext w1 w' := fun w1 u1 u2 a b => calls_err ((z_Gcd u1 u2 0 0 w1 a (b.nat (m := 0)) z0 z0).mono fun e w' ⟨u, h1, h2, h3⟩ => ⟨u, h1, h2.wid, h3⟩)
 have hze : ∀ (w1 : World) (u1 : Value), Wid w1 u1 0 → Calls Tryz.prog 104 #[u1] w1 fun e w' => ∃ u, e = .returned u ∧ u = .bool true ∧ Ext w1 w' := fun w1 u1 a => calls_eq (w_zero u1 0 w1 (a.nat (m := 0)))
 clear z0
 have I0 : KBd w [] w := ⟨Ext.refl w, trivial, by simp, by simp⟩
 have I := I0.push ((Ext.refl w).alloc (.cells #[.bool false, .slice none 0 0, .bool false, .slice none 0 0] 26)) (BF.pat 0 0) (PatP.new (wid_none w) (wid_none w))
 simp only [World.size_alloc, List.nil_append, List.cons_append] at I
 clear I0
 go_enter Tryz.func51, Tryz.ntmps51
 go_upto_region 1 with fail
 refine wp_regB [] [⟨8, some 9, BF.b2, (BF.wat 0)⟩] (fun z_ => ([VF.eq (.pointer (some ⟨w.heap.size, 0, none⟩)), VF.wid (0), VF.eq (.pointer (some ⟨w.heap.size, 2, none⟩)), VF.wid (0), (VF.wid 0).err 0, (VF.wid 0).err 0, VF.wid (0), VF.eq (.int .i64 (0)), VF.any, VF.any, VF.eq (.int .i64 (0))] : List VF).getD z_ VF.any) I (fun hc => ⟨?_, ?_, ?_, ?_, ?_, ?_, ?_, ?_, ?_, ?_, ?_, trivial⟩) (fun vs gl W hK0 hv hp => ?_)
 ·exact b_27
 ·exact ob_getP0 w.heap.size 0 0 (some 0) hc rfl fun vs gs w1 c => c.b0 0
 ·exact T_SPE_1
 ·exact ob_getP2 w.heap.size 0 0 (some 2) hc rfl fun vs gs w1 c => c.b0 0
 ·exact ob_call (fun v => [v 1, v 3]) hc rfl fun vs gs w1 c => hgc _ _ _ (c.v 1) (c.v 3)
 ·exact ob_cp 4 hc (.inl rfl)
 ·exact ob_ext0 5 hc rfl
 ·exact ob_ext1 5 hc rfl
 ·exact ob_allocW (n := 1) rfl hc rfl rfl rfl
 ·exact ob_putW (n := 1) rfl 6 hc rfl 0
 ·exact ob_cp 7 hc (.inr rfl)
 have p0 : vs 8 = .pointer (some ⟨gl 0, 0, none⟩) := hp 0 _ rfl
 have v10 : vs 10 = .int .i64 0 := hv 10 (by decide)
 simp only [putS, Nat.reduceAdd, Act.put, List.setIfInBounds_toArray, List.set_cons_zero, List.set_cons_succ, p0, v10]
 obtain ⟨g3, e90⟩ : ∃ n, gl 0 = n := ⟨_, rfl⟩
 simp only [kb_, e90] at hK0
 rw [e90]
 replace I := hK0
 clear hK0 hv hp gl p0 v10 e90
 go_upto_region 2 with fail
 refine wp_regB [] [] (fun z_ => ([VF.eq (.int .i64 (0)), VF.eq (.bool false), VF.eq (.bool false), VF.eq (.pointer (some ⟨w.heap.size, 2, none⟩)), VF.eq (.pointer (some ⟨w.heap.size, 2, none⟩)), VF.eq (.bool false), VF.eq (.bool false), VF.eq (.bool false), VF.eq (.pointer (some ⟨w.heap.size, 2, none⟩)), VF.wid (0), VF.eq (.bool true), VF.eq (.bool true), VF.eq (.bool true), VF.eq undef, VF.eq undef, VF.eq undef, VF.eq undef, VF.eq (.bool true)] : List VF).getD z_ VF.any) I (fun hc => ⟨?_, ?_, ?_, ?_, ?_, ?_, ?_, ?_, ?_, ?_, ?_, ?_, ?_, ?_, ?_, ?_, ?_, ?_, trivial⟩) (fun vs gl W hK0 hv hp => ?_)
 ·exact ob_mv hc (.inl rfl)
 ·exact ob_e2 (x := .tmp 13) (y := .const (.int .i64 0)) (a := (.int .i64 (0))) (b := .int .i64 0) (u := .bool false) (some 0) none hc
 ·exact ob_cp 1 hc (.inl rfl)
 ·exact T_SPE_1
 ·exact ob_e1 (x := .tmp 16) (a := (.pointer (some ⟨w.heap.size, 2, none⟩))) (u := .pointer (some ⟨w.heap.size, 2, none⟩)) (some 3) hc
 ·exact ob_ld (x := .tmp 17) (g := w.heap.size) (f := 2) (u := .bool false) (some 4) hc fun vs gs w1 c => PatP.t0 (c.b0 0) (by decide)
 ·exact ob_pickF (some 2) (some 5) hc rfl
 ·exact ob_cp 6 hc (.inl rfl)
 ·exact T_SPE_1
 ·exact ob_getP2 w.heap.size 0 0 (some 8) hc rfl fun vs gs w1 c => c.b0 0
 ·exact ob_call (fun v => [v 9]) hc rfl fun vs gs w1 c => hze _ _ (c.v 9)
 ·exact ob_pickF (some 7) (some 10) hc rfl
 ·exact ob_cp 11 hc (.inl rfl)
 ·exact ob_skip hc
 ·exact ob_skip hc
 ·exact ob_skip hc
 ·exact ob_skip hc
 ·exact ob_pickT (some 12) none hc rfl
 have v17 : vs 17 = .bool true := hv 17 (by decide)
 simp only [putS, Nat.reduceAdd, Act.put, List.setIfInBounds_toArray, List.set_cons_zero, List.set_cons_succ, v17]
 simp only [kb_] at hK0
 replace I := hK0
 clear hK0 hv hp gl v17
 have hE := I.e
 clear I hgc hze
 go_wp2_with fail
 go_ret
 exact ⟨rfl, hE⟩
theorem p_Of0 (w : World) : Calls Tryz.prog 46 #[.agg #[.bool false, .slice none 0 0, .bool false, .slice none 0 0]] w fun e w' => e = .returned (.tuple #[.agg #[.int .i64 0, .int .i64 0], .int .i64 8]) ∧ Ext w w' := by
 have hck := p_fCheck0
 go_enter Tryz.func46, Tryz.ntmps46
 go_wp2_with (go_at_call 51; (with_reducible refine (hck _).mono ?_); rintro e w1 ⟨rfl, hb⟩; obtain ⟨_, _, ⟨hc, hf⟩, hz⟩ := hb.c3; (try simp only [wsz] at hz hc hf))
 refine bodyPost_ret (v := .tuple #[.agg #[.int .i64 0, .int .i64 0], .int .i64 8]) ?_ rfl ⟨rfl, ex_⟩
 simp [results, Tryz.results46, go_sem, ↓IntWalk.iteOmega, *]
theorem p_OfBig (vf : Value) (x : Rat) (b : Nat) (w : World) (hf : Fr w vf x) (hx : Fb x b) (hb : b ≤ 131000) (hn1 : 2097152 < x.num / (x.den : Int)) (hn2 : x.num / (x.den : Int) ≤ 9223372036854775807) :
    Calls Tryz.prog 46 #[vf] w fun e w' => e = .returned (.tuple #[.agg #[.int .i64 0, .int .i64 0], .int .i64 16]) ∧ Ext w w' := by
 obtain ⟨sP, sD⟩ := fb_small hx (by omega)
 have hck := fun w1 (k1 : Ext w w1) => z_fCheck vf x b w1 (hf.ext k1) hx (by omega)
 obtain ⟨u, s, rfl, hu0, hs0⟩ := hf.num
 obtain ⟨u', s', e0, hu, hs⟩ := hf
 simp only [Value.agg.injEq, Array.mk.injEq, List.cons.injEq, and_true, true_and] at e0
 obtain ⟨rfl, rfl⟩ := e0
 obtain ⟨ao, b1, o1, cap1, rfl, -⟩ := hu.view
 obtain ⟨bo, b2, o2, cap2, rfl, -⟩ := hs.view
 have hD0 := den_pos' x
 have sDD : Small (x.den + x.den) := small_bits (k := b + 1) (by have := hx.2; rw [Nat.pow_succ]; omega) (by omega)
 have hdm := fun w1 (k1 : Ext w w1) => z_DivMod _ _ x.num x.den w1 (hu0.ext k1) (hs0.ext k1) sP hD0 sD
 have hnD0 : ∀ w1, Ext w w1 → Nn w1 (.agg #[.bool false, .slice bo (dig x.den).length cap2]) x.den := fun w1 k1 => ⟨_, rfl, hs.ext k1⟩
 generalize x.num / (x.den : Int) = n at *
 generalize (x.num % (x.den : Int)).toNat = r0 at *
 generalize hsa : decide (x.num < 0) = sa at *
 generalize x.num.natAbs = p at *
 generalize x.den = D at *
 clear hx sP hu hu0 hs0 hsa sDD
 have hin := fun v w1 (h : Wid w1 v n) => z_Int v n w1 h (by omega) (by omega)
 have hn3 : ¬ n < -2097152 := by omega
 clear hnD0
 go_enter Tryz.func46, Tryz.ntmps46
 go_wp2_with (first
  | (go_at_call 51; (with_reducible refine (hck _ ex_).mono ?_); rintro e w1 ⟨rfl, hb1⟩; obtain ⟨_, _, ⟨hc1, hf1⟩, hz1⟩ := hb1.c3; (try simp only [wsz] at hz1 hc1 hf1); clear hck)
  | (go_at_call 98; (with_reducible refine (hdm _ ex_).mono ?_); rintro e w2 ⟨y1, y2, rfl, hy1, hy2, hb2⟩; obtain ⟨y9, rfl, hy3⟩ := hy1; obtain ⟨ao3, _, _, cap3, rfl, -⟩ := hy3.view; have hy1 : Wid w2 _ n := ⟨_, rfl, hy3⟩; obtain ⟨ao4, cap4, rfl, hy4⟩ := hy2.open; obtain ⟨_, _, ⟨hc2, hf2⟩, hz2⟩ := hb2.c3; (try simp only [wsz] at hz2 hc2 hf2); clear hdm)
  | (go_at_call 99; (with_reducible refine (hin _ _ (hy1.ext ex_)).mono ?_); rintro e w3 ⟨rfl, hb3⟩; obtain ⟨_, _, ⟨hc3, hf3⟩, hz3⟩ := hb3.c3; (try simp only [wsz] at hz3 hc3 hf3); clear hin))
 refine bodyPost_ret (v := .tuple #[.agg #[.int .i64 0, .int .i64 0], .int .i64 16]) ?_ rfl ⟨rfl, ex_⟩
 simp [results, Tryz.results46, go_sem, ↓IntWalk.iteOmega, *]
theorem p_LiftBad (sa sb sc sd : Bool) (ao bo co do_ : Option Addr) (n cap m cap2 n3 cap3 n4 cap4 : Nat) (ra dec e : Int) (w : World) (he : ¬ e = 0) (hof : ∀ w1, Ext w w1 → Calls Tryz.prog 46 #[.agg #[.bool sa, .slice ao n cap, .bool sb, .slice bo m cap2]] w1 fun x w' => x = .returned (.tuple #[.agg #[.int .i64 0, .int .i64 0], .int .i64 e]) ∧ Ext w1 w') :
    Calls Tryz.prog 13 #[.agg #[.bool sa, .slice ao n cap, .bool sb, .slice bo m cap2], .agg #[.bool sc, .slice co n3 cap3, .bool sd, .slice do_ n4 cap4], .int .i64 ra, .int .i64 dec] w fun x w' => x = .returned (.tuple #[.int .i64 0, .int .i64 0, .int .i64 e]) ∧ Ext w w' := by
 have i0 : ∀ w, (Instr.index 88 (.agg #[.bool sa, .slice ao n cap, .bool sb, .slice bo m cap2, .bool sc, .slice co n3 cap3, .bool sd, .slice do_ n4 cap4]) (.int .i64 0)).run Tryz.prog w = .ok (.agg #[.bool sa, .slice ao n cap, .bool sb, .slice bo m cap2]) w := fun _ => by kernel_rfl
 go_enter Tryz.func13, Tryz.ntmps13
 go_wp2_with fail
 refine wp_loop_rounds 3 ?_
 rw [rounds_succ]
 go_wp2_with (go_at_call 46; (with_reducible refine (hof _ ex_).mono ?_); rintro e w1 ⟨rfl, hb⟩; obtain ⟨_, _, ⟨hc, hf⟩, hz⟩ := hb.c3; (try simp only [wsz] at hz hc hf))
 refine bodyPost_ret (v := .tuple #[.int .i64 0, .int .i64 0, .int .i64 e]) ?_ rfl ⟨rfl, ex_⟩
 simp [results, Tryz.results13, go_sem, ↓IntWalk.iteOmega, *]
theorem p_LiftArg (sa sb sc sd : Bool) (ao bo co do_ : Option Addr) (n cap m cap2 n3 cap3 n4 cap4 : Nat) (ra dec x0 x1 y0 y1 : Int) (w : World) (hd : dec < -324000000000 ∨ 324000000000 < dec) (hof : ∀ w1, Ext w w1 → Calls Tryz.prog 46 #[.agg #[.bool sa, .slice ao n cap, .bool sb, .slice bo m cap2]] w1 fun x w' => x = .returned (.tuple #[.agg #[.int .i64 x0, .int .i64 x1], .int .i64 0]) ∧ Ext w1 w')
    (hog : ∀ w1, Ext w w1 → Calls Tryz.prog 46 #[.agg #[.bool sc, .slice co n3 cap3, .bool sd, .slice do_ n4 cap4]] w1 fun x w' => x = .returned (.tuple #[.agg #[.int .i64 y0, .int .i64 y1], .int .i64 0]) ∧ Ext w1 w') :
    Calls Tryz.prog 13 #[.agg #[.bool sa, .slice ao n cap, .bool sb, .slice bo m cap2], .agg #[.bool sc, .slice co n3 cap3, .bool sd, .slice do_ n4 cap4], .int .i64 ra, .int .i64 dec] w fun x w' => x = .returned (.tuple #[.int .i64 0, .int .i64 0, .int .i64 2]) ∧ Ext w w' := by
 have i0 : ∀ w, (Instr.index 88 (.agg #[.bool sa, .slice ao n cap, .bool sb, .slice bo m cap2, .bool sc, .slice co n3 cap3, .bool sd, .slice do_ n4 cap4]) (.int .i64 0)).run Tryz.prog w = .ok (.agg #[.bool sa, .slice ao n cap, .bool sb, .slice bo m cap2]) w := fun _ => by kernel_rfl
 have i1 : ∀ w, (Instr.index 88 (.agg #[.bool sa, .slice ao n cap, .bool sb, .slice bo m cap2, .bool sc, .slice co n3 cap3, .bool sd, .slice do_ n4 cap4]) (.int .i64 1)).run Tryz.prog w = .ok (.agg #[.bool sc, .slice co n3 cap3, .bool sd, .slice do_ n4 cap4]) w := fun _ => by kernel_rfl
 have hou := fun w1 => p_outT dec w1 hd
 clear hd
 go_enter Tryz.func13, Tryz.ntmps13
 go_wp2_with fail
 refine wp_loop_rounds 3 ?_
 rw [rounds_succ]
 go_wp2_with (go_at_call 46; (with_reducible refine (hof _ ex_).mono ?_); rintro e w1 ⟨rfl, hb⟩; obtain ⟨_, _, ⟨hc, hf⟩, hz⟩ := hb.c3; (try simp only [wsz] at hz hc hf); clear hof)
 rw [rounds_succ]
 go_wp2_with (go_at_call 46; (with_reducible refine (hog _ ex_).mono ?_); rintro e w2 ⟨rfl, hb2⟩; obtain ⟨_, _, ⟨hc2, hf2⟩, hz2⟩ := hb2.c3; (try simp only [wsz] at hz2 hc2 hf2); clear hog)
 rw [rounds_succ]
 go_wp2_with (go_at_call 27; (with_reducible refine (hou _).mono ?_); rintro e w3 ⟨rfl, hb3⟩; obtain ⟨_, _, ⟨hc3, hf3⟩, hz3⟩ := hb3.c3; (try simp only [wsz] at hz3 hc3 hf3))
 refine bodyPost_ret (v := .tuple #[.int .i64 0, .int .i64 0, .int .i64 2]) ?_ rfl ⟨rfl, ex_⟩
 simp [results, Tryz.results13, go_sem, ↓IntWalk.iteOmega, *]
theorem T_SphD_3 {p : Prop} (h : p := by
 refine hK.out _ _ ?_ fun _ => ?_
 ·exact T_SphD_2
 clear hK K hH
 rename_i hH
 try simp only [Act.put, List.setIfInBounds_toArray, List.set_cons_zero, List.set_cons_succ]
 refine rh1 17 rfl fun K hK => ?_
 go_simp
 (go_at_call 32; (try simp only [hod0, hod1, hog00, hog01]); (with_reducible refine (d_add w1.heap.size (r3.e) r2.lo r2.hi r3.lo r3.hi _ c_10 c_23).mono ?_); (generalize hr4 : doI (r3.e) (addI r2.lo r2.hi r3.lo r3.hi) = r4); rintro e w3 ⟨rfl, hb1⟩; have hz1 := hb1.size; (try simp only [World.size_setCell] at hz1); obtain ⟨hg1, hh1⟩ := hb1.got (u := .int .i64 (r3.e)) c_10; have hob1 := obx_of hg1; (try simp only [frozen_drew] at hh1))
 refine hK.out _ _ ?_ fun _ => ?_
 ·exact T_SphD_2
 clear hK K hH
 rename_i hH
 try simp only [Act.put, List.setIfInBounds_toArray, List.set_cons_zero, List.set_cons_succ]
 refine rh1 18 rfl fun K hK => ?_
 go_simp
 refine hK.out _ _ ?_ fun _ => ?_
 ·exact T_SphD_2
 clear hK K hH
 rename_i hH
 try simp only [Act.put, List.setIfInBounds_toArray, List.set_cons_zero, List.set_cons_succ]
 refine wpAnyH_done c_4 ?_ _
 have hOld := hH
 clear hH
 have hE := hOld.2.2.2
 have hO := And.intro hOld.1 (And.intro hOld.2.1 hOld.2.2.1)
 clear hOld
 replace hO := helBack hO c_8
 replace hO := helBack hO c_8
 obtain ⟨hOc, hOf, hOz⟩ := helEnd hO
 clear hO
 have hlu := q_0 w.heap.size w3.heap.size (w.heap.size + 1) w1.heap.size wg.heap.size
 go_wp2_with fail
 rw [rounds_succ]
 go_wp2_with fail
 go_region
 all_goals go_wp2_with fail
 all_goals
  refine bodyPost_ret (v := .tuple #[.agg #[.int .i64 (nrmV a).lo, .int .i64 (nrmV a).hi], .int .i64 (nrmV a).e]) ?_ rfl ⟨rfl, ?_⟩
  ·(try simp only [bne_eq_false_iff_eq] at *)
   simp [results, Tryz.results12, go_sem, nrmV, nrmI, nrm3, nrm2, nrm1, nrm0, *]
  ·refine ExtP.out (p := w1.heap.size) (k := 4) ?_ (by omega)
   (repeat (first | with_reducible refine ExtP.set ?_ | (with_reducible refine ExtP.store ?_ ?_; rotate_left; (focus ((try simp only []); omega))) | with_reducible refine ExtP.ext ?_ ((Ext.refl _).alloc _) | with_reducible refine ExtP.ext ?_ ((Ext.refl _).drew) | with_reducible assumption | with_reducible exact ExtP.of _ _ (Ext.refl w) | with_reducible refine ExtP.ext ?_ c_7))) : p := h
theorem T_SphD_2 {p : Prop} (h : p := by
 (try dsimp only); (first | (with_reducible exact hel0 hWe) | (with_reducible exact hel1p c_7 c_7) | (with_reducible exact hel1 c_7 c_7) | (with_reducible exact hel3d c_7) | (with_reducible exact hel3 c_7) | ((with_reducible refine hel4 c_7 ?_ ?_) <;> omega) | (repeat (first | (with_reducible assumption) | (with_reducible refine hel2 ?_ c_8 c_32))))) : p := h
theorem T_SphD_1 {p : Prop} (h : p := by
 refine hK.out _ _ ?_ fun _ => ?_
 ·exact T_SphD_2
 clear hK K hH
 rename_i hH
 try simp only [Act.put, List.setIfInBounds_toArray, List.set_cons_zero, List.set_cons_succ]
 refine rh1 17 rfl fun K hK => ?_
 go_simp
 (go_at_call 32; (try simp only [hod0, hod1, hog00, hog01]); (with_reducible refine (d_add w1.heap.size (r1.e) r0.lo r0.hi r1.lo r1.hi _ c_10 c_23).mono ?_); (generalize hr2 : doI (r1.e) (addI r0.lo r0.hi r1.lo r1.hi) = r2); rintro e w3 ⟨rfl, hb1⟩; have hz1 := hb1.size; (try simp only [World.size_setCell] at hz1); obtain ⟨hg1, hh1⟩ := hb1.got (u := .int .i64 (r1.e)) c_10; have hob1 := obx_of hg1; (try simp only [frozen_drew] at hh1))
 refine hK.out _ _ ?_ fun _ => ?_
 ·exact T_SphD_2
 clear hK K hH
 rename_i hH
 try simp only [Act.put, List.setIfInBounds_toArray, List.set_cons_zero, List.set_cons_succ]
 refine rh1 18 rfl fun K hK => ?_
 go_simp
 refine hK.out _ _ ?_ fun _ => ?_
 ·exact T_SphD_2
 clear hK K hH
 rename_i hH
 try simp only [Act.put, List.setIfInBounds_toArray, List.set_cons_zero, List.set_cons_succ]
 refine wpAnyH_done c_4 ?_ _
 have hOld := hH
 clear hH
 have hE := hOld.2.2.2
 have hO := And.intro hOld.1 (And.intro hOld.2.1 hOld.2.2.1)
 clear hOld
 replace hO := helBack hO c_8
 replace hO := helBack hO c_8
 obtain ⟨hOc, hOf, hOz⟩ := helEnd hO
 clear hO
 have hlu := q_0 w.heap.size w3.heap.size (w.heap.size + 1) w1.heap.size wg.heap.size
 go_wp2_with fail
 rw [rounds_succ]
 go_wp2_with fail
 refine wp_name fun W hW => ?_
 obtain ⟨hWc, hWf, hWz⟩ := hW.cells
 have hWe : ExtP w w1.heap.size 4 W := ExtP.same hW (by (repeat (first | with_reducible refine ExtP.set ?_ | (with_reducible refine ExtP.store ?_ ?_; rotate_left; (focus ((try simp only []); omega))) | with_reducible refine ExtP.ext ?_ ((Ext.refl _).alloc _) | with_reducible refine ExtP.ext ?_ ((Ext.refl _).drew) | with_reducible assumption | with_reducible exact ExtP.of _ _ (Ext.refl w) | with_reducible refine ExtP.ext ?_ c_7)))
 (try simp only [World.size_setCell] at hWz)
 replace hWz := And.intro (Nat.le_of_eq hWz) (Nat.le_of_eq hWz.symm)
 have hlt := q_0 w.heap.size W.heap.size (w.heap.size + 1) w1.heap.size wg.heap.size
 have hd := q_3 w.heap.size (w.heap.size + 1) w1.heap.size wg.heap.size
 have hod0 : ∀ x, obx W.drew wg.heap.size 0 x = (.int .i64 r2.lo : Value) := obx_of (show W.drew.cell? ⟨wg.heap.size, 0, none⟩ = some (.int .i64 r2.lo : Value) from by (try simp only [cell_drew]); simp [go_sem, *])
 have hod1 : ∀ x, obx W.drew wg.heap.size 1 x = (.int .i64 r2.hi : Value) := obx_of (show W.drew.cell? ⟨wg.heap.size, 1, none⟩ = some (.int .i64 r2.hi : Value) from by (try simp only [cell_drew]); simp [go_sem, *])
 refine wp_region_held_drew (S := (fun w' => (∀ b o, b < W.heap.size → w'.cell? ⟨b, o, none⟩ = if b = wg.heap.size ∧ 0 ≤ o ∧ o < 2 ∨ b = w1.heap.size ∧ o = 4 then (W.cell? ⟨b, o, none⟩).map (obx w' b o) else W.cell? ⟨b, o, none⟩) ∧ (∀ b o, b < W.heap.size → w'.frozen? ⟨b, o, none⟩ = W.frozen? ⟨b, o, none⟩) ∧ W.heap.size ≤ w'.heap.size ∧ ExtP w w1.heap.size 4 w')) c_4 ?_ (fun hH => ?_)
 ·exact T_SphD_2
 refine tk 0 rfl c_1 ?_
 try simp only [Act.put, List.setIfInBounds_toArray]
 refine tk 1 rfl c_1 ?_
 try simp only [Act.put]
 refine tk 2 rfl c_1 ?_
 try simp only [Act.put]
 refine tk 3 rfl c_1 ?_
 try simp only [Act.put]
 refine tk 4 rfl c_1 ?_
 try simp only [Act.put]
 refine tk 6 rfl c_1 ?_
 try simp only [Act.put]
 refine tk 7 rfl c_1 ?_
 try simp only [Act.put]
 refine tk 8 rfl c_1 ?_
 try simp only [Act.put]
 refine tk 9 rfl c_1 ?_
 try simp only [Act.put]
 refine tk 10 rfl c_1 ?_
 try simp only [Act.put]
 refine tk 11 rfl c_1 ?_
 try simp only [Act.put]
 refine tk 12 rfl c_1 ?_
 try simp only [Act.put]
 refine tk 13 rfl c_1 ?_
 try simp only [Act.put]
 refine tk 14 rfl c_1 ?_
 try simp only [Act.put]
 refine tk 15 rfl c_1 ?_
 try simp only [Act.put]
 refine wpAnyH_ready (rs := [5, 16]) c_4 (by simp) ?_
 refine AllReadyH.cons (o := _) rfl (fun K hK => ?_) ?_
 ·go_simp
  refine hK.out _ _ ?_ fun _ => ?_
  ·exact T_SphD_2
  clear hK K hH
  rename_i hH
  try simp only [Act.put, List.setIfInBounds_toArray, List.set_cons_zero, List.set_cons_succ]
  refine rh1 16 rfl fun K hK => ?_
  go_simp
  (go_at_call 32; (with_reducible refine (d_sq w1.heap.size (r2.e) a.e a.f a.e a.f _ c_5 c_12 ha3).mono ?_); (generalize hr3 : doI (r2.e) (sqI a.e a.f) = r3); rintro e w2 ⟨rfl, hb0⟩; have hz0 := hb0.size; (try simp only [size_drew, World.size_setCell] at hz0); obtain ⟨hg0, hh0⟩ := hb0.got (u := .int .i64 (r2.e)) c_5; have hob0 := obx_of hg0; (try simp only [frozen_drew] at hh0); (have hog00 := obx_of ((hb0.cells.1 wg.heap.size 0 c_19).trans (show _ = some (.int .i64 r2.lo) from by (try simp only [cell_sc, cell_drew]); simp [go_sem, *]))); (have hog01 := obx_of ((hb0.cells.1 wg.heap.size 1 c_19).trans (show _ = some (.int .i64 r2.hi) from by (try simp only [cell_sc, cell_drew]); simp [go_sem, *]))))
  exact T_SphD_3
 refine rd1 rfl fun K hK => ?_
 ·go_simp
  (go_at_call 32; (with_reducible refine (d_sq w1.heap.size (r2.e) a.e a.f a.e a.f _ c_5 c_12 ha3).mono ?_); (generalize hr3 : doI (r2.e) (sqI a.e a.f) = r3); rintro e w2 ⟨rfl, hb0⟩; have hz0 := hb0.size; (try simp only [size_drew, World.size_setCell] at hz0); obtain ⟨hg0, hh0⟩ := hb0.got (u := .int .i64 (r2.e)) c_5; have hob0 := obx_of hg0; (try simp only [frozen_drew] at hh0); (have hog00 := obx_of ((hb0.cells.1 wg.heap.size 0 c_19).trans (show _ = some (.int .i64 r2.lo) from by (try simp only [cell_sc, cell_drew]); simp [go_sem, *]))); (have hog01 := obx_of ((hb0.cells.1 wg.heap.size 1 c_19).trans (show _ = some (.int .i64 r2.hi) from by (try simp only [cell_sc, cell_drew]); simp [go_sem, *]))))
  refine hK.out _ _ ?_ fun _ => ?_
  ·exact T_SphD_2
  clear hK K hH
  rename_i hH
  try simp only [Act.put, List.setIfInBounds_toArray, List.set_cons_zero, List.set_cons_succ]
  refine rh1 5 rfl fun K hK => ?_
  go_simp
  exact T_SphD_3) : p := h
theorem p_nrm (a : V3) (w : World) (ha : a.I) :
    Calls Tryz.prog 12 #[.agg #[.int .i64 a.a, .int .i64 a.b, .int .i64 a.c, .int .i64 a.d, .int .i64 a.e, .int .i64 a.f]] w fun e w' => e = .returned (.tuple #[.agg #[.int .i64 (nrmV a).lo, .int .i64 (nrmV a).hi], .int .i64 (nrmV a).e]) ∧ Ext w w' := by
 obtain ⟨ha1, ha2, ha3⟩ := ha
 have l0 : IntKind.i64.wrap 0 = 0 := rfl
 have l1 : IntKind.i64.wrap 1 = 1 := rfl
 have l2 : IntKind.i64.wrap 2 = 2 := rfl
 have l3 : IntKind.i64.wrap 3 = 3 := rfl
 go_enter Tryz.func12, Tryz.ntmps12
 go_wp2_with (first | (go_at_call 43; (with_reducible refine (s_check a _).mono ?_); rintro e w1 ⟨rfl, hb⟩; obtain ⟨_, _, ⟨hc, hf⟩, hz⟩ := hb.c3; (try simp only [World.size_alloc] at hz hc hf); (try have zz := q_1 w.heap.size w1.heap.size); (try have zz := q_1 (w.heap.size + 1) w1.heap.size)) | (go_at_call 30; (with_reducible refine (s_begin _).mono ?_); rintro e w2 ⟨rfl, rfl⟩) | (go_at_call 32; (with_reducible refine (d_sq w1.heap.size (0) a.a a.b a.a a.b _ c_25 c_25 ha1).mono ?_); (generalize hr0 : doI (0) (sqI a.a a.b) = r0); rintro e wg ⟨rfl, hb⟩; obtain ⟨_, _, ⟨hc, hf⟩, hz⟩ := hb.c3; (try simp only [wsz] at hz hc hf)))
 ·-- the error
  refine bodyPost_ret (v := .tuple #[.agg #[.int .i64 (nrmV a).lo, .int .i64 (nrmV a).hi], .int .i64 (nrmV a).e]) ?_ rfl ⟨rfl, ?_⟩
  ·(try simp only [bne_iff_ne, ne_eq] at *)
   simp [results, Tryz.results12, go_sem, nrmV, *]
  ·exact b_18
 ·-- the sum
  refine wp_loop_rounds 3 ?_
  rw [rounds_succ]
  go_wp2_with fail
  refine wp_name fun W hW => ?_
  obtain ⟨hWc, hWf, hWz⟩ := hW.cells
  have hWe : ExtP w w1.heap.size 4 W := ExtP.same hW (by (repeat (first | with_reducible refine ExtP.set ?_ | (with_reducible refine ExtP.store ?_ ?_; rotate_left; (focus ((try simp only [wsz]); omega))) | with_reducible refine ExtP.ext ?_ ((Ext.refl _).alloc _) | with_reducible refine ExtP.ext ?_ ((Ext.refl _).drew) | with_reducible assumption | with_reducible exact ExtP.of _ _ (Ext.refl w) | with_reducible refine ExtP.ext ?_ c_7)))
  (try simp only [World.size_alloc] at hWz)
  replace hWz := And.intro (Nat.le_of_eq hWz) (Nat.le_of_eq hWz.symm)
  have hlt := q_0 w.heap.size W.heap.size (w.heap.size + 1) w1.heap.size wg.heap.size
  have hd := q_3 w.heap.size (w.heap.size + 1) w1.heap.size wg.heap.size
  have hod0 : ∀ x, obx W.drew wg.heap.size 0 x = (.int .i64 r0.lo : Value) := obx_of (show W.drew.cell? ⟨wg.heap.size, 0, none⟩ = some (.int .i64 r0.lo : Value) from by (try simp only [cell_drew]); simp [go_sem, *])
  have hod1 : ∀ x, obx W.drew wg.heap.size 1 x = (.int .i64 r0.hi : Value) := obx_of (show W.drew.cell? ⟨wg.heap.size, 1, none⟩ = some (.int .i64 r0.hi : Value) from by (try simp only [cell_drew]); simp [go_sem, *])
  refine wp_region_held_drew (S := (fun w' => (∀ b o, b < W.heap.size → w'.cell? ⟨b, o, none⟩ = if b = wg.heap.size ∧ 0 ≤ o ∧ o < 2 ∨ b = w1.heap.size ∧ o = 4 then (W.cell? ⟨b, o, none⟩).map (obx w' b o) else W.cell? ⟨b, o, none⟩) ∧ (∀ b o, b < W.heap.size → w'.frozen? ⟨b, o, none⟩ = W.frozen? ⟨b, o, none⟩) ∧ W.heap.size ≤ w'.heap.size ∧ ExtP w w1.heap.size 4 w')) c_4 ?_ (fun hH => ?_)
  ·exact T_SphD_2
  refine tk 0 rfl c_1 ?_
  try simp only [Act.put, List.setIfInBounds_toArray]
  refine tk 1 rfl c_1 ?_
  try simp only [Act.put]
  refine tk 2 rfl c_1 ?_
  try simp only [Act.put]
  refine tk 3 rfl c_1 ?_
  try simp only [Act.put]
  refine tk 4 rfl c_1 ?_
  try simp only [Act.put]
  refine tk 6 rfl c_1 ?_
  try simp only [Act.put]
  refine tk 7 rfl c_1 ?_
  try simp only [Act.put]
  refine tk 8 rfl c_1 ?_
  try simp only [Act.put]
  refine tk 9 rfl c_1 ?_
  try simp only [Act.put]
  refine tk 10 rfl c_1 ?_
  try simp only [Act.put]
  refine tk 11 rfl c_1 ?_
  try simp only [Act.put]
  refine tk 12 rfl c_1 ?_
  try simp only [Act.put]
  refine tk 13 rfl c_1 ?_
  try simp only [Act.put]
  refine tk 14 rfl c_1 ?_
  try simp only [Act.put]
  refine tk 15 rfl c_1 ?_
  try simp only [Act.put]
  refine wpAnyH_ready (rs := [5, 16]) c_4 (by simp) ?_
  refine AllReadyH.cons (o := _) rfl (fun K hK => ?_) ?_
  ·go_simp
   refine hK.out _ _ ?_ fun _ => ?_
   ·exact T_SphD_2
   clear hK K hH
   rename_i hH
   try simp only [Act.put, List.setIfInBounds_toArray, List.set_cons_zero, List.set_cons_succ]
   refine rh1 16 rfl fun K hK => ?_
   go_simp
   (go_at_call 32; (with_reducible refine (d_sq w1.heap.size (r0.e) a.c a.d a.c a.d _ c_5 c_12 ha2).mono ?_); (generalize hr1 : doI (r0.e) (sqI a.c a.d) = r1); rintro e w2 ⟨rfl, hb0⟩; have hz0 := hb0.size; (try simp only [size_drew, World.size_setCell] at hz0); obtain ⟨hg0, hh0⟩ := hb0.got (u := .int .i64 (r0.e)) c_5; have hob0 := obx_of hg0; (try simp only [frozen_drew] at hh0); (have hog00 := obx_of ((hb0.cells.1 wg.heap.size 0 c_19).trans (show _ = some (.int .i64 r0.lo) from by (try simp only [cell_sc, cell_drew]); simp [go_sem, *]))); (have hog01 := obx_of ((hb0.cells.1 wg.heap.size 1 c_19).trans (show _ = some (.int .i64 r0.hi) from by (try simp only [cell_sc, cell_drew]); simp [go_sem, *]))))
   exact T_SphD_1
  refine rd1 rfl fun K hK => ?_
  ·go_simp
   (go_at_call 32; (with_reducible refine (d_sq w1.heap.size (r0.e) a.c a.d a.c a.d _ c_5 c_12 ha2).mono ?_); (generalize hr1 : doI (r0.e) (sqI a.c a.d) = r1); rintro e w2 ⟨rfl, hb0⟩; have hz0 := hb0.size; (try simp only [size_drew, World.size_setCell] at hz0); obtain ⟨hg0, hh0⟩ := hb0.got (u := .int .i64 (r0.e)) c_5; have hob0 := obx_of hg0; (try simp only [frozen_drew] at hh0); (have hog00 := obx_of ((hb0.cells.1 wg.heap.size 0 c_19).trans (show _ = some (.int .i64 r0.lo) from by (try simp only [cell_sc, cell_drew]); simp [go_sem, *]))); (have hog01 := obx_of ((hb0.cells.1 wg.heap.size 1 c_19).trans (show _ = some (.int .i64 r0.hi) from by (try simp only [cell_sc, cell_drew]); simp [go_sem, *]))))
   refine hK.out _ _ ?_ fun _ => ?_
   ·exact T_SphD_2
   clear hK K hH
   rename_i hH
   try simp only [Act.put, List.setIfInBounds_toArray, List.set_cons_zero, List.set_cons_succ]
   refine rh1 5 rfl fun K hK => ?_
   go_simp
   exact T_SphD_1
theorem r_trim (v : Value) (xs : List Int) (w : World) (h : Lim w v xs) :
    Calls Tryz.prog 129 #[v] w fun e w' => ∃ u, e = .returned u ∧ Lim w' u (trimL xs) ∧ Ext w w' := by
 have hlb := h.lb
 rcases h.2 with ⟨rfl, rfl⟩ | ⟨b, o, cap, rfl, h1, h2, h3, h4⟩
 ·obtain ⟨i0, hi, hz0, hz1, hz2⟩ := info_parts info81
  have hown : (w.alloc (.cells #[] 54)).ownsRow w.heap.size 54 1 (.slice (some ⟨w.heap.size, 0, none⟩) 0 0) 0 (([] : List Int).map (Value.int .u32)) := World.ownsRow_lit w #[] 0 (Nat.le_refl _) (by decide) rfl
  have hL := Lim.own' hown Lb.nil (by decide)
  go_enter Tryz.func129, Tryz.ntmps129
  go_wp2
  refine wp_loop_rounds 1 ?_
  rw [rounds_succ]
  go_wp2_with (at_builtin; refine wpList_append_own_none rfl _ _ 22 rfl w.heap.size 54 i0 1 Tryz.underlying22 hi _ _ _ rfl hown rfl ?_)
  go_ret
  exact ⟨_, rfl, hL, (Ext.refl w).alloc _⟩
 ·obtain ⟨i0, hi, hz0, hz1, hz2⟩ := info_parts info81
  go_enter Tryz.func129, Tryz.ntmps129
  go_wp2
  go_loop [3] (fun i => ∃ k : Nat, k ≤ xs.length ∧ i = .int .i64 k ∧ trimL (xs.take k) = trimL xs) (fun i => (intOf i).toNat)
  case atStart => exact ⟨xs.length, Nat.le_refl _, rfl, by rw [List.take_length]⟩
  case round =>
   obtain ⟨k, hk, rfl, ht⟩ := hrel
   cases k with
   | zero =>
    have hT : Hid (xs.take 0 = trimL xs) := ht
    clear ht
    have hown : (w.alloc (.cells #[] 54)).ownsRow w.heap.size 54 1 (.slice (some ⟨w.heap.size, 0, none⟩) 0 0) 0 [] := World.ownsRow_lit w #[] 0 (Nat.le_refl _) (by decide) rfl
    have hnews : ∀ j u, ((xs.take 0).map (Value.int .u32))[j]? = some u → (w.alloc (.cells #[] 54)).cell? ((⟨b, o, none⟩ : Addr).add j) = some u := fun j u hu => by simp at hu
    have lT : Lb (xs.take 0) := hlb.take _
    go_wp2_with (at_builtin; refine wpList_append_own _ rfl _ _ 22 rfl w.heap.size 54 i0 (.int .u32 0) 1 4 Tryz.underlying22 hi hz0 hz1 hz2 rfl (by decide) _ _ _ rfl hown ⟨b, o, none⟩ 0 cap ((xs.take 0).map (Value.int .u32)) rfl (by simp) hnews (ints_oneCell .u32 _) c_17 (by omega) (by simp) ?_; intro v' w1 hown' hgrow hnil)
    have hE : Ext w w1 := Below.grown (row := some w.heap.size) ((Ext.refl w).alloc _) hgrow (by simp) (fun k e => by cases e; exact Nat.le_refl _)
    rw [Nat.zero_add, List.nil_append] at hown'
    have hL := Lim.own' hown' lT (by omega)
    go_ret
    exact ⟨_, rfl, hT.out ▸ hL, hE⟩
   | succ k =>
    have hck := h4 k (by omega)
    by_cases h0 : xs.getD k 0 = 0
    ·rw [h0] at hck
     go_wp2
     go_round
     case rel => exact ⟨k, by omega, by go_num, by rw [← ht]; exact (trim_step (by omega) h0).symm⟩
     case measure => simp [intOf]
    ·have hT : Hid (xs.take (k + 1) = trimL xs) := (trim_stop (by omega) h0).symm.trans ht
     clear ht
     have hown : (w.alloc (.cells #[] 54)).ownsRow w.heap.size 54 1 (.slice (some ⟨w.heap.size, 0, none⟩) 0 0) 0 [] := World.ownsRow_lit w #[] 0 (Nat.le_refl _) (by decide) rfl
     have hnews : ∀ j u, ((xs.take (k + 1)).map (Value.int .u32))[j]? = some u → (w.alloc (.cells #[] 54)).cell? ((⟨b, o, none⟩ : Addr).add j) = some u := fun j u hu => by
      rw [List.getElem?_map] at hu
      cases hj : (xs.take (k + 1))[j]? with
      | none => rw [hj] at hu; cases hu
      | some x =>
       rw [hj] at hu
       have hjl : j < (xs.take (k + 1)).length := (List.getElem?_eq_some_iff.1 hj).1
       rw [List.length_take] at hjl
       have := h4 j (by omega)
       have hx : xs.getD j 0 = x := by rw [← take_getD (k := (k + 1)) (by omega), List.getD_eq_getElem?_getD, hj]; rfl
       rw [show (⟨b, o, none⟩ : Addr).add j = ⟨b, o + j, none⟩ from by simp [Addr.add], cell_al, if_neg (by omega), this, hx]
       simpa using hu
     have hlen : (xs.take (k + 1)).length = (k + 1) := by rw [List.length_take]; omega
     have lT : Lb (xs.take (k + 1)) := hlb.take _
     obtain ⟨z, hz⟩ : ∃ z, xs.getD k 0 = z := ⟨_, rfl⟩
     rw [hz] at hck h0
     go_wp2_with (at_builtin; refine wpList_append_own _ rfl _ _ 22 rfl w.heap.size 54 i0 (.int .u32 0) 1 4 Tryz.underlying22 hi hz0 hz1 hz2 rfl (by decide) _ _ _ rfl hown ⟨b, o, none⟩ (k + 1) cap ((xs.take (k + 1)).map (Value.int .u32)) rfl c_13 hnews (ints_oneCell .u32 _) c_17 (by omega) (by simp) ?_; intro v' w1 hown' hgrow hnil)
     have hE : Ext w w1 := Below.grown (row := some w.heap.size) ((Ext.refl w).alloc _) hgrow (by simp) (fun k e => by cases e; exact Nat.le_refl _)
     rw [Nat.zero_add, List.nil_append] at hown'
     have hL := Lim.own' hown' lT (by omega)
     go_ret
     exact ⟨_, rfl, hT.out ▸ hL, hE⟩
end Go.Proofs.YtaoioncjmfcolaaGreat
