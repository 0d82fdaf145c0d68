/- sphere: Project. -/
import Derived.Test.YtaoioncjmfcolaaGreatW20
set_option linter.unusedSimpArgs false
set_option linter.unusedVariables false
set_option maxRecDepth 100000
set_option maxHeartbeats 4000000
namespace Go.Proofs.YtaoioncjmfcolaaGreat
open Go.RowKit
theorem T_SPP_16 {p : Prop} (h : p := by
 exact ob_e1 (x := .tmp 41) (a := (.pointer (some ⟨gs, 0, none⟩))) (u := .pointer (some ⟨gs, 4, none⟩)) (some 1) hc) : p := h
theorem T_SPP_15 {p : Prop} (h : p := by
 exact ob_e1 (x := .tmp 40) (a := (.pointer (some ⟨gs, 0, none⟩))) (u := .pointer (some ⟨gs, 0, none⟩)) (some 0) hc) : p := h
theorem T_SPP_14 {p : Prop} (h : p := by
 exact ob_new (n := 5) [.int .i64 0, .int .i64 0, .int .i64 0, .int .i64 0, .int .i64 0, .int .i64 0] 32 rfl hc rfl rfl rfl) : p := h
theorem T_SPP_13 {p : Prop} (h : p := by
 exact ob_new (n := 4) [.int .i64 0, .int .i64 0, .int .i64 0, .int .i64 0, .int .i64 0, .int .i64 0] 32 rfl hc rfl rfl rfl) : p := h
theorem T_SPP_12 {p : Prop} (h : p := by
 exact ob_new (n := 3) [.int .i64 0, .int .i64 0, .int .i64 0, .int .i64 0, .int .i64 0, .int .i64 0] 32 rfl hc rfl rfl rfl) : p := h
theorem T_SPP_11 {p : Prop} (h : p := by
 exact ob_new (n := 2) [.int .i64 0, .int .i64 0, .int .i64 0, .int .i64 0, .int .i64 0, .int .i64 0] 32 rfl hc rfl rfl rfl) : p := h
theorem T_SPP_10 {p : Prop} (h : p := by
 exact ob_callB (n := 6) 0 gs (fun v => [v 0, v 1, v 2]) rfl hc rfl fun vs gs w1 c hb => b_dot1 hd (c.v 0) (c.v 1) (c.v 2) hb iU iP) : p := h
theorem T_SPP_9 {p : Prop} (h : p := by
 exact ob_call (fun v => [v 3]) hc rfl fun vs gs w1 c => ho2 _ _ (c.v 3)) : p := h
theorem T_SPP_8 {p : Prop} (h : p := by
 exact ob_call (fun v => [v 0]) hc rfl fun vs gs w1 c => ho1 _ _ (c.v 0)) : p := h
theorem T_SPP_7 {p : Prop} (h : p := by
 simp [results, Tryz.results8, go_sem, ↓IntWalk.iteOmega, d0, d1, d2, d3]) : p := h
theorem T_SPP_6 {p : Prop} (h : p := by
 exact ob_ld6 (x := .tmp 12) (g := gp) (f := 0) none hc rfl fun vs gs w1 c => ⟨c.own 3 0, c.own 3 1, c.own 3 2, c.own 3 3, c.own 3 4, c.own 3 5⟩) : p := h
theorem T_SPP_5 {p : Prop} (h : p := by
 exact ob_e2 (x := .tmp 43) (y := .const (.int .i64 0)) (a := (.int .i64 (d.e))) (b := .int .i64 0) (u := .bool false) (some 3) none hc (hs := by intro ρ w1 h k; go_simp; first | done | (simp; omega))) : p := h
theorem T_SPP_4 {p : Prop} (h : p := by
 exact ob_ld6 (x := .tmp 11) (g := gu) (f := 0) none hc rfl fun vs gs w1 c => ⟨c.own 2 0, c.own 2 1, c.own 2 2, c.own 2 3, c.own 2 4, c.own 2 5⟩) : p := h
theorem T_SPP_3 {p : Prop} (h : p := by
 exact ob_e1 (x := .tmp 28) (a := (.tuple #[.agg #[.int .i64 P.a, .int .i64 P.b, .int .i64 P.c, .int .i64 P.d, .int .i64 P.e, .int .i64 P.f], .agg #[.int .i64 X.a, .int .i64 X.b, .int .i64 X.c, .int .i64 X.d, .int .i64 X.e, .int .i64 X.f], .agg #[.int .i64 Y.a, .int .i64 Y.b, .int .i64 Y.c, .int .i64 Y.d, .int .i64 Y.e, .int .i64 Y.f]])) (u := .agg #[.int .i64 Y.a, .int .i64 Y.b, .int .i64 Y.c, .int .i64 Y.d, .int .i64 Y.e, .int .i64 Y.f]) (some 3) hc) : p := h
theorem T_SPP_2 {p : Prop} (h : p := by
 exact ob_e1 (x := .tmp 28) (a := (.tuple #[.agg #[.int .i64 P.a, .int .i64 P.b, .int .i64 P.c, .int .i64 P.d, .int .i64 P.e, .int .i64 P.f], .agg #[.int .i64 X.a, .int .i64 X.b, .int .i64 X.c, .int .i64 X.d, .int .i64 X.e, .int .i64 X.f], .agg #[.int .i64 Y.a, .int .i64 Y.b, .int .i64 Y.c, .int .i64 Y.d, .int .i64 Y.e, .int .i64 Y.f]])) (u := .agg #[.int .i64 X.a, .int .i64 X.b, .int .i64 X.c, .int .i64 X.d, .int .i64 X.e, .int .i64 X.f]) (some 3) hc) : p := h
theorem T_SPP_1 {p : Prop} (h : p := by
 exact ob_e1 (x := .tmp 28) (a := (.tuple #[.agg #[.int .i64 P.a, .int .i64 P.b, .int .i64 P.c, .int .i64 P.d, .int .i64 P.e, .int .i64 P.f], .agg #[.int .i64 X.a, .int .i64 X.b, .int .i64 X.c, .int .i64 X.d, .int .i64 X.e, .int .i64 X.f], .agg #[.int .i64 Y.a, .int .i64 Y.b, .int .i64 Y.c, .int .i64 Y.d, .int .i64 Y.e, .int .i64 Y.f]])) (u := .agg #[.int .i64 P.a, .int .i64 P.b, .int .i64 P.c, .int .i64 P.d, .int .i64 P.e, .int .i64 P.f]) (some 3) hc) : p := h
theorem b_dot1 {p : Nat} {E : Int} {a b : V3} {w : World} {u0 u1 u2 : Value} {x : R3} (hx : dotS E a b = x) (h0 : u0 = .pointer (some ⟨p, 0, none⟩)) (h1 : u1 = .agg #[.int .i64 a.a, .int .i64 a.b, .int .i64 a.c, .int .i64 a.d, .int .i64 a.e, .int .i64 a.f]) (h2 : u2 = .agg #[.int .i64 b.a, .int .i64 b.b, .int .i64 b.c, .int .i64 b.d, .int .i64 b.e, .int .i64 b.f]) (hb : (SH E).p p w) (ia : a.I) (ib : b.I) :
    Calls Tryz.prog 31 #[u0, u1, u2] w fun e w' => ∃ t, e = .returned t ∧ t = .agg #[.int .i64 x.lo, .int .i64 x.hi] ∧ GB p w w' ∧ (SH x.e).p p w' := by
 subst hx; exact b_dot h0 h1 h2 hb ia ib
theorem p_ProjArg (ra dec ra0 dec0 : Int) (w : World) (h0 : -324000000000 ≤ dec ∧ dec ≤ 324000000000) (h1 : dec0 < -324000000000 ∨ 324000000000 < dec0) : Calls Tryz.prog 8 #[.int .i64 ra, .int .i64 dec, .int .i64 ra0, .int .i64 dec0] w fun e w' => e = .returned (.tuple #[.agg #[.int .i64 0, .int .i64 0], .agg #[.int .i64 0, .int .i64 0], .int .i64 2]) ∧ Ext w w' := by
 have ho1 : ∀ (w1 : World) (u1 : Value), u1 = .int .i64 dec → Calls Tryz.prog 27 #[u1] w1 fun e w' => ∃ u, e = .returned u ∧ u = .bool false ∧ Ext w1 w' := fun w1 u1 k => by subst k; exact calls_eq (p_outF _ w1 h0.1 h0.2)
 have ho2 : ∀ (w1 : World) (u1 : Value), u1 = .int .i64 dec0 → Calls Tryz.prog 27 #[u1] w1 fun e w' => ∃ u, e = .returned u ∧ u = .bool true ∧ Ext w1 w' := fun w1 u1 k => by subst k; exact calls_eq (p_outT _ w1 h1)
 clear h0 h1
 have I0 : KBd w [] w := ⟨Ext.refl w, trivial, by simp, by simp⟩
 have I := ((I0.new [.int .i64 0, .int .i64 0] 30 (by simp)).new [.int .i64 0, .int .i64 0] 30 (by simp))
 simp only [World.size_alloc, List.nil_append, List.cons_append] at I
 clear I0
 go_enter Tryz.func8, Tryz.ntmps8
 go_upto_region 1 with fail
 refine wp_regB [] [] (fun z_ => ([VF.eq (.int .i64 (dec)), VF.eq (.bool false), VF.eq (.bool false), VF.eq (.int .i64 (dec0)), VF.eq (.bool true), VF.eq (.bool true)] : List VF).getD z_ VF.any) I (fun hc => ⟨?_, ?_, ?_, ?_, ?_, ?_, trivial⟩) (fun vs gl W hK0 hv hp => ?_)
 ·exact ob_mv hc (.inl rfl)
 ·exact T_SPP_8
 ·exact ob_cp 1 hc (.inl rfl)
 ·exact ob_mv hc (.inl rfl)
 ·exact T_SPP_9
 ·exact ob_pickF (some 2) (some 4) hc rfl
 have v5 : vs 5 = .bool true := hv 5 (by decide)
 simp only [putS, Nat.reduceAdd, Act.put, List.setIfInBounds_toArray, List.set_cons_zero, List.set_cons_succ, v5]
 simp only [kb_] at hK0
 replace I := hK0
 clear hK0 hv hp gl v5
 go_upto_region 2 with fail
 refine wp_regB [[(2, BF.own [.int .i64 0, .int .i64 0])], [(3, BF.own [.int .i64 0, .int .i64 0])]] [] (fun z_ => ([VF.eq (.agg #[.int .i64 0, .int .i64 0]), VF.eq (.agg #[.int .i64 0, .int .i64 0]), VF.any, VF.any, VF.eq (.int .i64 (2))] : List VF).getD z_ VF.any) I (fun hc => ⟨?_, ?_, ?_, ?_, ?_, trivial⟩) (fun vs gl W hK0 hv hp => ?_)
 ·exact b_21
 ·exact b_21
 ·exact ob_put2 (n := 0) 0 rfl (some 0) hc rfl
 ·exact ob_put2 (n := 1) 0 rfl (some 1) hc rfl
 ·exact ob_mv hc (.inr rfl)
 have v4 : vs 4 = .int .i64 2 := hv 4 (by decide)
 simp only [putS, Nat.reduceAdd, Act.put, List.setIfInBounds_toArray, List.set_cons_zero, List.set_cons_succ, v4]
 simp only [kb_] at hK0
 replace I := hK0
 clear hK0 hv hp gl v4
 have d0 := I.own 0 0
 have d1 := I.own 0 1
 have d2 := I.own 1 0
 have d3 := I.own 1 1
 have hE := I.e
 clear I ho1 ho2
 go_wp2_with fail
 refine bodyPost_ret (v := .tuple #[.agg #[.int .i64 0, .int .i64 0], .agg #[.int .i64 0, .int .i64 0], .int .i64 2]) ?_ rfl ⟨rfl, hE⟩
 exact T_SPP_7
theorem p_ProjRange (ra dec ra0 dec0 : Int) (U P X Y : V3) (d : R3) (w : World) (h0 : -324000000000 ≤ dec ∧ dec ≤ 324000000000) (h1 : -324000000000 ≤ dec0 ∧ dec0 ≤ 324000000000) (hun0 : ∀ w1 : World, Calls Tryz.prog 28 #[.int .i64 ra, .int .i64 dec] w1 fun e w' => e = .returned (.agg #[.int .i64 U.a, .int .i64 U.b, .int .i64 U.c, .int .i64 U.d, .int .i64 U.e, .int .i64 U.f]) ∧ Ext w1 w') (hfm0 : ∀ w1 : World, Calls Tryz.prog 29 #[.int .i64 ra0, .int .i64 dec0] w1 fun e w' => e = .returned (.tuple #[.agg #[.int .i64 P.a, .int .i64 P.b, .int .i64 P.c, .int .i64 P.d, .int .i64 P.e, .int .i64 P.f], .agg #[.int .i64 X.a, .int .i64 X.b, .int .i64 X.c, .int .i64 X.d, .int .i64 X.e, .int .i64 X.f], .agg #[.int .i64 Y.a, .int .i64 Y.b, .int .i64 Y.c, .int .i64 Y.d, .int .i64 Y.e, .int .i64 Y.f]]) ∧ Ext w1 w') (iU : U.I) (iP : P.I) (hd : dotS 0 U P = d) (e0 : d.e = 0) (e1 : d.lo ≤ 0) : Calls Tryz.prog 8 #[.int .i64 ra, .int .i64 dec, .int .i64 ra0, .int .i64 dec0] w fun e w' => e = .returned (.tuple #[.agg #[.int .i64 0, .int .i64 0], .agg #[.int .i64 0, .int .i64 0], .int .i64 16]) ∧ Ext w w' := by
 have ho1 : ∀ (w1 : World) (u1 : Value), u1 = .int .i64 dec → Calls Tryz.prog 27 #[u1] w1 fun e w' => ∃ u, e = .returned u ∧ u = .bool false ∧ Ext w1 w' := fun w1 u1 k => by subst k; exact calls_eq (p_outF _ w1 h0.1 h0.2)
 have ho2 : ∀ (w1 : World) (u1 : Value), u1 = .int .i64 dec0 → Calls Tryz.prog 27 #[u1] w1 fun e w' => ∃ u, e = .returned u ∧ u = .bool false ∧ Ext w1 w' := fun w1 u1 k => by subst k; exact calls_eq (p_outF _ w1 h1.1 h1.2)
 have hun : ∀ (w1 : World) (u1 u2 : Value), u1 = .int .i64 ra → u2 = .int .i64 dec → Calls Tryz.prog 28 #[u1, u2] w1 fun e w' => ∃ u, e = .returned u ∧ u = .agg #[.int .i64 U.a, .int .i64 U.b, .int .i64 U.c, .int .i64 U.d, .int .i64 U.e, .int .i64 U.f] ∧ Ext w1 w' := fun w1 u1 u2 a b => by subst a b; exact calls_eq (hun0 w1)
 have hfm : ∀ (w1 : World) (u1 u2 : Value), u1 = .int .i64 ra0 → u2 = .int .i64 dec0 → Calls Tryz.prog 29 #[u1, u2] w1 fun e w' => ∃ u, e = .returned u ∧ u = .tuple #[.agg #[.int .i64 P.a, .int .i64 P.b, .int .i64 P.c, .int .i64 P.d, .int .i64 P.e, .int .i64 P.f], .agg #[.int .i64 X.a, .int .i64 X.b, .int .i64 X.c, .int .i64 X.d, .int .i64 X.e, .int .i64 X.f], .agg #[.int .i64 Y.a, .int .i64 Y.b, .int .i64 Y.c, .int .i64 Y.d, .int .i64 Y.e, .int .i64 Y.f]] ∧ Ext w1 w' := fun w1 u1 u2 a b => by subst a b; exact calls_eq (hfm0 w1)
 clear h0 h1 hun0 hfm0
 have I0 : KBd w [] w := ⟨Ext.refl w, trivial, by simp, by simp⟩
 have I := ((I0.new [.int .i64 0, .int .i64 0] 30 (by simp)).new [.int .i64 0, .int .i64 0] 30 (by simp))
 simp only [World.size_alloc, List.nil_append, List.cons_append] at I
 clear I0
 go_enter Tryz.func8, Tryz.ntmps8
 go_upto_region 1 with fail
 refine wp_regB [] [] (fun z_ => ([VF.eq (.int .i64 (dec)), VF.eq (.bool false), VF.eq (.bool false), VF.eq (.int .i64 (dec0)), VF.eq (.bool false), VF.eq (.bool false)] : List VF).getD z_ VF.any) I (fun hc => ⟨?_, ?_, ?_, ?_, ?_, ?_, trivial⟩) (fun vs gl W hK0 hv hp => ?_)
 ·exact ob_mv hc (.inl rfl)
 ·exact T_SPP_8
 ·exact ob_cp 1 hc (.inl rfl)
 ·exact ob_mv hc (.inl rfl)
 ·exact T_SPP_9
 ·exact ob_pickF (some 2) (some 4) hc rfl
 have v5 : vs 5 = .bool false := hv 5 (by decide)
 simp only [putS, Nat.reduceAdd, Act.put, List.setIfInBounds_toArray, List.set_cons_zero, List.set_cons_succ, v5]
 simp only [kb_] at hK0
 replace I := hK0
 clear hK0 hv hp gl v5
 go_upto_region 3 with fail
 refine wp_regB [] [⟨3, some 4, BF.own [.int .i64 0, .int .i64 0, .int .i64 0, .int .i64 0, .int .i64 0, .int .i64 0], (BF.own [.int .i64 U.a, .int .i64 U.b, .int .i64 U.c, .int .i64 U.d, .int .i64 U.e, .int .i64 U.f])⟩] (fun z_ => ([VF.eq (.int .i64 (ra)), VF.eq (.int .i64 (dec)), VF.eq (.agg #[.int .i64 U.a, .int .i64 U.b, .int .i64 U.c, .int .i64 U.d, .int .i64 U.e, .int .i64 U.f])] : List VF).getD z_ VF.any) I (fun hc => ⟨?_, ?_, ?_, ?_, ?_, trivial⟩) (fun vs gl W hK0 hv hp => ?_)
 ·exact ob_mv hc (.inl rfl)
 ·exact ob_mv hc (.inl rfl)
 ·exact b_23
 ·exact T_SPP_11
 ·exact ob_putV (n := 2) rfl (some 2) hc rfl rfl
 have p0 : vs 3 = .pointer (some ⟨gl 0, 0, none⟩) := hp 0 _ rfl
 simp only [putS, Nat.reduceAdd, Act.put, List.setIfInBounds_toArray, List.set_cons_zero, List.set_cons_succ, p0]
 obtain ⟨gu, e90⟩ : ∃ n, gl 0 = n := ⟨_, rfl⟩
 simp only [kb_, e90] at hK0
 rw [e90]
 replace I := hK0
 clear hK0 hv hp gl p0 e90
 go_upto_region 4 with fail
 refine wp_regB [] [⟨7, some 10, BF.own [.int .i64 0, .int .i64 0, .int .i64 0, .int .i64 0, .int .i64 0, .int .i64 0], (BF.own [.int .i64 P.a, .int .i64 P.b, .int .i64 P.c, .int .i64 P.d, .int .i64 P.e, .int .i64 P.f])⟩, ⟨8, some 11, BF.own [.int .i64 0, .int .i64 0, .int .i64 0, .int .i64 0, .int .i64 0, .int .i64 0], (BF.own [.int .i64 X.a, .int .i64 X.b, .int .i64 X.c, .int .i64 X.d, .int .i64 X.e, .int .i64 X.f])⟩, ⟨9, some 12, BF.own [.int .i64 0, .int .i64 0, .int .i64 0, .int .i64 0, .int .i64 0, .int .i64 0], (BF.own [.int .i64 Y.a, .int .i64 Y.b, .int .i64 Y.c, .int .i64 Y.d, .int .i64 Y.e, .int .i64 Y.f])⟩] (fun z_ => ([VF.eq (.int .i64 (ra0)), VF.eq (.int .i64 (dec0)), VF.eq (.tuple #[.agg #[.int .i64 P.a, .int .i64 P.b, .int .i64 P.c, .int .i64 P.d, .int .i64 P.e, .int .i64 P.f], .agg #[.int .i64 X.a, .int .i64 X.b, .int .i64 X.c, .int .i64 X.d, .int .i64 X.e, .int .i64 X.f], .agg #[.int .i64 Y.a, .int .i64 Y.b, .int .i64 Y.c, .int .i64 Y.d, .int .i64 Y.e, .int .i64 Y.f]]), VF.eq (.tuple #[.agg #[.int .i64 P.a, .int .i64 P.b, .int .i64 P.c, .int .i64 P.d, .int .i64 P.e, .int .i64 P.f], .agg #[.int .i64 X.a, .int .i64 X.b, .int .i64 X.c, .int .i64 X.d, .int .i64 X.e, .int .i64 X.f], .agg #[.int .i64 Y.a, .int .i64 Y.b, .int .i64 Y.c, .int .i64 Y.d, .int .i64 Y.e, .int .i64 Y.f]]), VF.eq (.agg #[.int .i64 P.a, .int .i64 P.b, .int .i64 P.c, .int .i64 P.d, .int .i64 P.e, .int .i64 P.f]), VF.eq (.agg #[.int .i64 X.a, .int .i64 X.b, .int .i64 X.c, .int .i64 X.d, .int .i64 X.e, .int .i64 X.f]), VF.eq (.agg #[.int .i64 Y.a, .int .i64 Y.b, .int .i64 Y.c, .int .i64 Y.d, .int .i64 Y.e, .int .i64 Y.f])] : List VF).getD z_ VF.any) I (fun hc => ⟨?_, ?_, ?_, ?_, ?_, ?_, ?_, ?_, ?_, ?_, ?_, ?_, ?_, trivial⟩) (fun vs gl W hK0 hv hp => ?_)
 ·exact ob_mv hc (.inl rfl)
 ·exact ob_mv hc (.inl rfl)
 ·exact ob_call (fun v => [v 0, v 1]) hc rfl fun vs gs w1 c => hfm _ _ _ (c.v 0) (c.v 1)
 ·exact ob_cp 2 hc (.inl rfl)
 ·exact T_SPP_1
 ·exact T_SPP_2
 ·exact T_SPP_3
 ·exact T_SPP_12
 ·exact T_SPP_13
 ·exact T_SPP_14
 ·exact ob_putV (n := 3) rfl (some 4) hc rfl rfl
 ·exact ob_putV (n := 4) rfl (some 5) hc rfl rfl
 ·exact ob_putV (n := 5) rfl (some 6) hc rfl rfl
 have p0 : vs 7 = .pointer (some ⟨gl 0, 0, none⟩) := hp 0 _ rfl
 have p1 : vs 8 = .pointer (some ⟨gl 1, 0, none⟩) := hp 1 _ rfl
 have p2 : vs 9 = .pointer (some ⟨gl 2, 0, none⟩) := hp 2 _ rfl
 simp only [putS, Nat.reduceAdd, Act.put, List.setIfInBounds_toArray, List.set_cons_zero, List.set_cons_succ, p0, p1, p2]
 obtain ⟨gp, e90⟩ : ∃ n, gl 0 = n := ⟨_, rfl⟩
 obtain ⟨ge, e91⟩ : ∃ n, gl 1 = n := ⟨_, rfl⟩
 obtain ⟨gn, e92⟩ : ∃ n, gl 2 = n := ⟨_, rfl⟩
 simp only [kb_, e90, e91, e92] at hK0
 rw [e90, e91, e92]
 replace I := hK0
 clear hK0 hv hp gl p0 p1 p2 e90 e91 e92
 go_upto_region 6 with (go_at_call 30; (with_reducible refine (s_begin _).mono ?_); rintro e w1 ⟨rfl, rfl⟩)
 replace I := I.new [.func (.func 42) #[] #[], .func (.func 70) #[] #[], .func (.func 48) #[] #[], .func (.func 71) #[] #[], .int .i64 (0)] 74 (by simp)
 obtain ⟨gs, hgs⟩ : ∃ n, W.heap.size = n := ⟨_, rfl⟩
 rw [hgs] at I ⊢
 clear hgs
 have I : KBd w [(w.heap.size, BF.own [.int .i64 0, .int .i64 0]), (w.heap.size + 1, BF.own [.int .i64 0, .int .i64 0]), (gu, BF.own [.int .i64 U.a, .int .i64 U.b, .int .i64 U.c, .int .i64 U.d, .int .i64 U.e, .int .i64 U.f]), (gp, BF.own [.int .i64 P.a, .int .i64 P.b, .int .i64 P.c, .int .i64 P.d, .int .i64 P.e, .int .i64 P.f]), (ge, BF.own [.int .i64 X.a, .int .i64 X.b, .int .i64 X.c, .int .i64 X.d, .int .i64 X.e, .int .i64 X.f]), (gn, BF.own [.int .i64 Y.a, .int .i64 Y.b, .int .i64 Y.c, .int .i64 Y.d, .int .i64 Y.e, .int .i64 Y.f]), (gs, SH 0)] _ := I
 try simp only [Act.put, List.setIfInBounds_toArray, List.set_cons_zero, List.set_cons_succ]
 go_upto_region 6 with fail
 refine wp_regB [[], [], [], [], [], [], [(3, SH d.e)]] [⟨4, some 5, BF.own [.int .i64 0, .int .i64 0], (BF.own [.int .i64 d.lo, .int .i64 d.hi])⟩] (fun z_ => ([VF.eq (.pointer (some ⟨gs, 0, none⟩)), VF.eq (.agg #[.int .i64 U.a, .int .i64 U.b, .int .i64 U.c, .int .i64 U.d, .int .i64 U.e, .int .i64 U.f]), VF.eq (.agg #[.int .i64 P.a, .int .i64 P.b, .int .i64 P.c, .int .i64 P.d, .int .i64 P.e, .int .i64 P.f]), VF.eq (.agg #[.int .i64 d.lo, .int .i64 d.hi])] : List VF).getD z_ VF.any) I (fun hc => ⟨?_, ?_, ?_, ?_, ?_, ?_, trivial⟩) (fun vs gl W hK0 hv hp => ?_)
 ·exact ob_mv hc (.inl rfl)
 ·exact T_SPP_4
 ·exact T_SPP_6
 ·exact T_SPP_10
 ·exact b_25
 ·exact ob_put2 (n := 7) 0 rfl (some 3) hc rfl
 have p0 : vs 4 = .pointer (some ⟨gl 0, 0, none⟩) := hp 0 _ rfl
 simp only [putS, Nat.reduceAdd, Act.put, List.setIfInBounds_toArray, List.set_cons_zero, List.set_cons_succ, p0]
 obtain ⟨gd, e90⟩ : ∃ n, gl 0 = n := ⟨_, rfl⟩
 simp only [kb_, e90] at hK0
 rw [e90]
 replace I := hK0
 clear hK0 hv hp gl p0 e90
 go_upto_region 7 with fail
 refine wp_regB [] [] (fun z_ => ([VF.eq (.pointer (some ⟨gs, 0, none⟩)), VF.eq (.pointer (some ⟨gs, 0, none⟩)), VF.eq (.pointer (some ⟨gs, 4, none⟩)), VF.eq (.int .i64 (d.e)), VF.eq (.bool false), VF.eq (.bool false), VF.eq (.pointer (some ⟨gd, 0, none⟩)), VF.eq (.int .i64 (d.lo)), VF.eq (.bool true), VF.eq (.bool true)] : List VF).getD z_ VF.any) I (fun hc => ⟨?_, ?_, ?_, ?_, ?_, ?_, ?_, ?_, ?_, ?_, trivial⟩) (fun vs gl W hK0 hv hp => ?_)
 ·exact ob_mv hc (.inl rfl)
 ·exact T_SPP_15
 ·exact T_SPP_16
 ·exact ob_ld (x := .tmp 42) (g := gs) (f := 4) (u := .int .i64 (d.e)) (some 2) hc fun vs gs w1 c => c.own 6 4
 ·exact T_SPP_5
 ·exact ob_cp 4 hc (.inl rfl)
 ·exact ob_e1 (x := .tmp 16) (a := .pointer (some ⟨gd, 0, none⟩)) (u := .pointer (some ⟨gd, 0, none⟩)) none hc
 ·exact ob_ld (x := .tmp 46) (g := gd) (f := 0) (u := .int .i64 (d.lo)) (some 6) hc fun vs gs w1 c => c.own 7 0
 ·exact ob_e2 (x := .tmp 47) (y := .const (.int .i64 0)) (a := (.int .i64 (d.lo))) (b := .int .i64 0) (u := .bool true) (some 7) none hc (hs := by intro ρ w1 h k; go_simp; first | done | (simp; omega))
 ·exact ob_pickF (some 5) (some 8) hc rfl
 have v9 : vs 9 = .bool true := hv 9 (by decide)
 simp only [putS, Nat.reduceAdd, Act.put, List.setIfInBounds_toArray, List.set_cons_zero, List.set_cons_succ, v9]
 simp only [kb_] at hK0
 replace I := hK0
 clear hK0 hv hp gl v9
 go_upto_region 8 with fail
 refine wp_regB [[(2, BF.own [.int .i64 0, .int .i64 0])], [(3, BF.own [.int .i64 0, .int .i64 0])]] [] (fun z_ => ([VF.eq (.agg #[.int .i64 0, .int .i64 0]), VF.eq (.agg #[.int .i64 0, .int .i64 0]), VF.any, VF.any, VF.eq (.int .i64 (16))] : List VF).getD z_ VF.any) I (fun hc => ⟨?_, ?_, ?_, ?_, ?_, trivial⟩) (fun vs gl W hK0 hv hp => ?_)
 ·exact b_21
 ·exact b_21
 ·exact ob_put2 (n := 0) 0 rfl (some 0) hc rfl
 ·exact ob_put2 (n := 1) 0 rfl (some 1) hc rfl
 ·exact ob_mv hc (.inr rfl)
 have v4 : vs 4 = .int .i64 16 := hv 4 (by decide)
 simp only [putS, Nat.reduceAdd, Act.put, List.setIfInBounds_toArray, List.set_cons_zero, List.set_cons_succ, v4]
 simp only [kb_] at hK0
 replace I := hK0
 clear hK0 hv hp gl v4
 have d0 := I.own 0 0
 have d1 := I.own 0 1
 have d2 := I.own 1 0
 have d3 := I.own 1 1
 have hE := I.e
 clear I ho1 ho2 hun hfm
 go_wp2_with fail
 refine bodyPost_ret (v := .tuple #[.agg #[.int .i64 0, .int .i64 0], .agg #[.int .i64 0, .int .i64 0], .int .i64 16]) ?_ rfl ⟨rfl, hE⟩
 exact T_SPP_7
theorem p_ProjOk (ra dec ra0 dec0 : Int) (U P X Y : V3) (d x1 q1 x2 q2 : R3) (w : World) (h0 : -324000000000 ≤ dec ∧ dec ≤ 324000000000) (h1 : -324000000000 ≤ dec0 ∧ dec0 ≤ 324000000000) (hun0 : ∀ w1 : World, Calls Tryz.prog 28 #[.int .i64 ra, .int .i64 dec] w1 fun e w' => e = .returned (.agg #[.int .i64 U.a, .int .i64 U.b, .int .i64 U.c, .int .i64 U.d, .int .i64 U.e, .int .i64 U.f]) ∧ Ext w1 w') (hfm0 : ∀ w1 : World, Calls Tryz.prog 29 #[.int .i64 ra0, .int .i64 dec0] w1 fun e w' => e = .returned (.tuple #[.agg #[.int .i64 P.a, .int .i64 P.b, .int .i64 P.c, .int .i64 P.d, .int .i64 P.e, .int .i64 P.f], .agg #[.int .i64 X.a, .int .i64 X.b, .int .i64 X.c, .int .i64 X.d, .int .i64 X.e, .int .i64 X.f], .agg #[.int .i64 Y.a, .int .i64 Y.b, .int .i64 Y.c, .int .i64 Y.d, .int .i64 Y.e, .int .i64 Y.f]]) ∧ Ext w1 w') (iU : U.I) (iP : P.I) (iX : X.I) (iY : Y.I) (hd : dotS 0 U P = d) (e0 : d.e = 0) (e1 : 0 < d.lo) (hx1 : dotS d.e U X = x1) (hq1 : doI x1.e (divI x1.lo x1.hi d.lo d.hi) = q1) (hx2 : dotS q1.e U Y = x2) (hq2 : doI x2.e (divI x2.lo x2.hi d.lo d.hi) = q2) (e2 : q2.e = 0) : Calls Tryz.prog 8 #[.int .i64 ra, .int .i64 dec, .int .i64 ra0, .int .i64 dec0] w fun e w' => e = .returned (.tuple #[.agg #[.int .i64 q1.lo, .int .i64 q1.hi], .agg #[.int .i64 q2.lo, .int .i64 q2.hi], .int .i64 0]) ∧ Ext w w' := by
 have ho1 : ∀ (w1 : World) (u1 : Value), u1 = .int .i64 dec → Calls Tryz.prog 27 #[u1] w1 fun e w' => ∃ u, e = .returned u ∧ u = .bool false ∧ Ext w1 w' := fun w1 u1 k => by subst k; exact calls_eq (p_outF _ w1 h0.1 h0.2)
 have ho2 : ∀ (w1 : World) (u1 : Value), u1 = .int .i64 dec0 → Calls Tryz.prog 27 #[u1] w1 fun e w' => ∃ u, e = .returned u ∧ u = .bool false ∧ Ext w1 w' := fun w1 u1 k => by subst k; exact calls_eq (p_outF _ w1 h1.1 h1.2)
 have hun : ∀ (w1 : World) (u1 u2 : Value), u1 = .int .i64 ra → u2 = .int .i64 dec → Calls Tryz.prog 28 #[u1, u2] w1 fun e w' => ∃ u, e = .returned u ∧ u = .agg #[.int .i64 U.a, .int .i64 U.b, .int .i64 U.c, .int .i64 U.d, .int .i64 U.e, .int .i64 U.f] ∧ Ext w1 w' := fun w1 u1 u2 a b => by subst a b; exact calls_eq (hun0 w1)
 have hfm : ∀ (w1 : World) (u1 u2 : Value), u1 = .int .i64 ra0 → u2 = .int .i64 dec0 → Calls Tryz.prog 29 #[u1, u2] w1 fun e w' => ∃ u, e = .returned u ∧ u = .tuple #[.agg #[.int .i64 P.a, .int .i64 P.b, .int .i64 P.c, .int .i64 P.d, .int .i64 P.e, .int .i64 P.f], .agg #[.int .i64 X.a, .int .i64 X.b, .int .i64 X.c, .int .i64 X.d, .int .i64 X.e, .int .i64 X.f], .agg #[.int .i64 Y.a, .int .i64 Y.b, .int .i64 Y.c, .int .i64 Y.d, .int .i64 Y.e, .int .i64 Y.f]] ∧ Ext w1 w' := fun w1 u1 u2 a b => by subst a b; exact calls_eq (hfm0 w1)
 clear h0 h1 hun0 hfm0
 have I0 : KBd w [] w := ⟨Ext.refl w, trivial, by simp, by simp⟩
 have I := ((I0.new [.int .i64 0, .int .i64 0] 30 (by simp)).new [.int .i64 0, .int .i64 0] 30 (by simp))
 simp only [World.size_alloc, List.nil_append, List.cons_append] at I
 clear I0
 go_enter Tryz.func8, Tryz.ntmps8
 go_upto_region 1 with fail
 refine wp_regB [] [] (fun z_ => ([VF.eq (.int .i64 (dec)), VF.eq (.bool false), VF.eq (.bool false), VF.eq (.int .i64 (dec0)), VF.eq (.bool false), VF.eq (.bool false)] : List VF).getD z_ VF.any) I (fun hc => ⟨?_, ?_, ?_, ?_, ?_, ?_, trivial⟩) (fun vs gl W hK0 hv hp => ?_)
 ·exact ob_mv hc (.inl rfl)
 ·exact T_SPP_8
 ·exact ob_cp 1 hc (.inl rfl)
 ·exact ob_mv hc (.inl rfl)
 ·exact T_SPP_9
 ·exact ob_pickF (some 2) (some 4) hc rfl
 have v5 : vs 5 = .bool false := hv 5 (by decide)
 simp only [putS, Nat.reduceAdd, Act.put, List.setIfInBounds_toArray, List.set_cons_zero, List.set_cons_succ, v5]
 simp only [kb_] at hK0
 replace I := hK0
 clear hK0 hv hp gl v5
 go_upto_region 3 with fail
 refine wp_regB [] [⟨3, some 4, BF.own [.int .i64 0, .int .i64 0, .int .i64 0, .int .i64 0, .int .i64 0, .int .i64 0], (BF.own [.int .i64 U.a, .int .i64 U.b, .int .i64 U.c, .int .i64 U.d, .int .i64 U.e, .int .i64 U.f])⟩] (fun z_ => ([VF.eq (.int .i64 (ra)), VF.eq (.int .i64 (dec)), VF.eq (.agg #[.int .i64 U.a, .int .i64 U.b, .int .i64 U.c, .int .i64 U.d, .int .i64 U.e, .int .i64 U.f])] : List VF).getD z_ VF.any) I (fun hc => ⟨?_, ?_, ?_, ?_, ?_, trivial⟩) (fun vs gl W hK0 hv hp => ?_)
 ·exact ob_mv hc (.inl rfl)
 ·exact ob_mv hc (.inl rfl)
 ·exact b_23
 ·exact T_SPP_11
 ·exact ob_putV (n := 2) rfl (some 2) hc rfl rfl
 have p0 : vs 3 = .pointer (some ⟨gl 0, 0, none⟩) := hp 0 _ rfl
 simp only [putS, Nat.reduceAdd, Act.put, List.setIfInBounds_toArray, List.set_cons_zero, List.set_cons_succ, p0]
 obtain ⟨gu, e90⟩ : ∃ n, gl 0 = n := ⟨_, rfl⟩
 simp only [kb_, e90] at hK0
 rw [e90]
 replace I := hK0
 clear hK0 hv hp gl p0 e90
 go_upto_region 4 with fail
 refine wp_regB [] [⟨7, some 10, BF.own [.int .i64 0, .int .i64 0, .int .i64 0, .int .i64 0, .int .i64 0, .int .i64 0], (BF.own [.int .i64 P.a, .int .i64 P.b, .int .i64 P.c, .int .i64 P.d, .int .i64 P.e, .int .i64 P.f])⟩, ⟨8, some 11, BF.own [.int .i64 0, .int .i64 0, .int .i64 0, .int .i64 0, .int .i64 0, .int .i64 0], (BF.own [.int .i64 X.a, .int .i64 X.b, .int .i64 X.c, .int .i64 X.d, .int .i64 X.e, .int .i64 X.f])⟩, ⟨9, some 12, BF.own [.int .i64 0, .int .i64 0, .int .i64 0, .int .i64 0, .int .i64 0, .int .i64 0], (BF.own [.int .i64 Y.a, .int .i64 Y.b, .int .i64 Y.c, .int .i64 Y.d, .int .i64 Y.e, .int .i64 Y.f])⟩] (fun z_ => ([VF.eq (.int .i64 (ra0)), VF.eq (.int .i64 (dec0)), VF.eq (.tuple #[.agg #[.int .i64 P.a, .int .i64 P.b, .int .i64 P.c, .int .i64 P.d, .int .i64 P.e, .int .i64 P.f], .agg #[.int .i64 X.a, .int .i64 X.b, .int .i64 X.c, .int .i64 X.d, .int .i64 X.e, .int .i64 X.f], .agg #[.int .i64 Y.a, .int .i64 Y.b, .int .i64 Y.c, .int .i64 Y.d, .int .i64 Y.e, .int .i64 Y.f]]), VF.eq (.tuple #[.agg #[.int .i64 P.a, .int .i64 P.b, .int .i64 P.c, .int .i64 P.d, .int .i64 P.e, .int .i64 P.f], .agg #[.int .i64 X.a, .int .i64 X.b, .int .i64 X.c, .int .i64 X.d, .int .i64 X.e, .int .i64 X.f], .agg #[.int .i64 Y.a, .int .i64 Y.b, .int .i64 Y.c, .int .i64 Y.d, .int .i64 Y.e, .int .i64 Y.f]]), VF.eq (.agg #[.int .i64 P.a, .int .i64 P.b, .int .i64 P.c, .int .i64 P.d, .int .i64 P.e, .int .i64 P.f]), VF.eq (.agg #[.int .i64 X.a, .int .i64 X.b, .int .i64 X.c, .int .i64 X.d, .int .i64 X.e, .int .i64 X.f]), VF.eq (.agg #[.int .i64 Y.a, .int .i64 Y.b, .int .i64 Y.c, .int .i64 Y.d, .int .i64 Y.e, .int .i64 Y.f])] : List VF).getD z_ VF.any) I (fun hc => ⟨?_, ?_, ?_, ?_, ?_, ?_, ?_, ?_, ?_, ?_, ?_, ?_, ?_, trivial⟩) (fun vs gl W hK0 hv hp => ?_)
 ·exact ob_mv hc (.inl rfl)
 ·exact ob_mv hc (.inl rfl)
 ·exact ob_call (fun v => [v 0, v 1]) hc rfl fun vs gs w1 c => hfm _ _ _ (c.v 0) (c.v 1)
 ·exact ob_cp 2 hc (.inl rfl)
 ·exact T_SPP_1
 ·exact T_SPP_2
 ·exact T_SPP_3
 ·exact T_SPP_12
 ·exact T_SPP_13
 ·exact T_SPP_14
 ·exact ob_putV (n := 3) rfl (some 4) hc rfl rfl
 ·exact ob_putV (n := 4) rfl (some 5) hc rfl rfl
 ·exact ob_putV (n := 5) rfl (some 6) hc rfl rfl
 have p0 : vs 7 = .pointer (some ⟨gl 0, 0, none⟩) := hp 0 _ rfl
 have p1 : vs 8 = .pointer (some ⟨gl 1, 0, none⟩) := hp 1 _ rfl
 have p2 : vs 9 = .pointer (some ⟨gl 2, 0, none⟩) := hp 2 _ rfl
 simp only [putS, Nat.reduceAdd, Act.put, List.setIfInBounds_toArray, List.set_cons_zero, List.set_cons_succ, p0, p1, p2]
 obtain ⟨gp, e90⟩ : ∃ n, gl 0 = n := ⟨_, rfl⟩
 obtain ⟨ge, e91⟩ : ∃ n, gl 1 = n := ⟨_, rfl⟩
 obtain ⟨gn, e92⟩ : ∃ n, gl 2 = n := ⟨_, rfl⟩
 simp only [kb_, e90, e91, e92] at hK0
 rw [e90, e91, e92]
 replace I := hK0
 clear hK0 hv hp gl p0 p1 p2 e90 e91 e92
 go_upto_region 6 with (go_at_call 30; (with_reducible refine (s_begin _).mono ?_); rintro e w1 ⟨rfl, rfl⟩)
 replace I := I.new [.func (.func 42) #[] #[], .func (.func 70) #[] #[], .func (.func 48) #[] #[], .func (.func 71) #[] #[], .int .i64 (0)] 74 (by simp)
 obtain ⟨gs, hgs⟩ : ∃ n, W.heap.size = n := ⟨_, rfl⟩
 rw [hgs] at I ⊢
 clear hgs
 have I : KBd w [(w.heap.size, BF.own [.int .i64 0, .int .i64 0]), (w.heap.size + 1, BF.own [.int .i64 0, .int .i64 0]), (gu, BF.own [.int .i64 U.a, .int .i64 U.b, .int .i64 U.c, .int .i64 U.d, .int .i64 U.e, .int .i64 U.f]), (gp, BF.own [.int .i64 P.a, .int .i64 P.b, .int .i64 P.c, .int .i64 P.d, .int .i64 P.e, .int .i64 P.f]), (ge, BF.own [.int .i64 X.a, .int .i64 X.b, .int .i64 X.c, .int .i64 X.d, .int .i64 X.e, .int .i64 X.f]), (gn, BF.own [.int .i64 Y.a, .int .i64 Y.b, .int .i64 Y.c, .int .i64 Y.d, .int .i64 Y.e, .int .i64 Y.f]), (gs, SH 0)] _ := I
 try simp only [Act.put, List.setIfInBounds_toArray, List.set_cons_zero, List.set_cons_succ]
 go_upto_region 6 with fail
 refine wp_regB [[], [], [], [], [], [], [(3, SH d.e)]] [⟨4, some 5, BF.own [.int .i64 0, .int .i64 0], (BF.own [.int .i64 d.lo, .int .i64 d.hi])⟩] (fun z_ => ([VF.eq (.pointer (some ⟨gs, 0, none⟩)), VF.eq (.agg #[.int .i64 U.a, .int .i64 U.b, .int .i64 U.c, .int .i64 U.d, .int .i64 U.e, .int .i64 U.f]), VF.eq (.agg #[.int .i64 P.a, .int .i64 P.b, .int .i64 P.c, .int .i64 P.d, .int .i64 P.e, .int .i64 P.f]), VF.eq (.agg #[.int .i64 d.lo, .int .i64 d.hi])] : List VF).getD z_ VF.any) I (fun hc => ⟨?_, ?_, ?_, ?_, ?_, ?_, trivial⟩) (fun vs gl W hK0 hv hp => ?_)
 ·exact ob_mv hc (.inl rfl)
 ·exact T_SPP_4
 ·exact T_SPP_6
 ·exact T_SPP_10
 ·exact b_25
 ·exact ob_put2 (n := 7) 0 rfl (some 3) hc rfl
 have p0 : vs 4 = .pointer (some ⟨gl 0, 0, none⟩) := hp 0 _ rfl
 simp only [putS, Nat.reduceAdd, Act.put, List.setIfInBounds_toArray, List.set_cons_zero, List.set_cons_succ, p0]
 obtain ⟨gd, e90⟩ : ∃ n, gl 0 = n := ⟨_, rfl⟩
 simp only [kb_, e90] at hK0
 rw [e90]
 replace I := hK0
 clear hK0 hv hp gl p0 e90
 go_upto_region 7 with fail
 refine wp_regB [] [] (fun z_ => ([VF.eq (.pointer (some ⟨gs, 0, none⟩)), VF.eq (.pointer (some ⟨gs, 0, none⟩)), VF.eq (.pointer (some ⟨gs, 4, none⟩)), VF.eq (.int .i64 (d.e)), VF.eq (.bool false), VF.eq (.bool false), VF.eq (.pointer (some ⟨gd, 0, none⟩)), VF.eq (.int .i64 (d.lo)), VF.eq (.bool false), VF.eq (.bool false)] : List VF).getD z_ VF.any) I (fun hc => ⟨?_, ?_, ?_, ?_, ?_, ?_, ?_, ?_, ?_, ?_, trivial⟩) (fun vs gl W hK0 hv hp => ?_)
 ·exact ob_mv hc (.inl rfl)
 ·exact T_SPP_15
 ·exact T_SPP_16
 ·exact ob_ld (x := .tmp 42) (g := gs) (f := 4) (u := .int .i64 (d.e)) (some 2) hc fun vs gs w1 c => c.own 6 4
 ·exact T_SPP_5
 ·exact ob_cp 4 hc (.inl rfl)
 ·exact ob_e1 (x := .tmp 16) (a := .pointer (some ⟨gd, 0, none⟩)) (u := .pointer (some ⟨gd, 0, none⟩)) none hc
 ·exact ob_ld (x := .tmp 46) (g := gd) (f := 0) (u := .int .i64 (d.lo)) (some 6) hc fun vs gs w1 c => c.own 7 0
 ·exact ob_e2 (x := .tmp 47) (y := .const (.int .i64 0)) (a := (.int .i64 (d.lo))) (b := .int .i64 0) (u := .bool false) (some 7) none hc (hs := by intro ρ w1 h k; go_simp; first | done | (simp; omega))
 ·exact ob_pickF (some 5) (some 8) hc rfl
 have v9 : vs 9 = .bool false := hv 9 (by decide)
 simp only [putS, Nat.reduceAdd, Act.put, List.setIfInBounds_toArray, List.set_cons_zero, List.set_cons_succ, v9]
 simp only [kb_] at hK0
 replace I := hK0
 clear hK0 hv hp gl v9
 go_upto_region 9 with fail
 refine wp_regB [[(11, BF.own [.int .i64 q1.lo, .int .i64 q1.hi])], [], [], [], [], [], [(8, SH x1.e), (10, SH q1.e)]] [] (fun z_ => ([VF.eq (.pointer (some ⟨gs, 0, none⟩)), VF.eq (.pointer (some ⟨gs, 0, none⟩)), VF.eq (.pointer (some ⟨gs, 0, none⟩)), VF.eq (.pointer (some ⟨gs, 3, none⟩)), VF.eq (.func (.func 71) #[] #[]), VF.eq (.pointer (some ⟨gs, 0, none⟩)), VF.eq (.agg #[.int .i64 U.a, .int .i64 U.b, .int .i64 U.c, .int .i64 U.d, .int .i64 U.e, .int .i64 U.f]), VF.eq (.agg #[.int .i64 X.a, .int .i64 X.b, .int .i64 X.c, .int .i64 X.d, .int .i64 X.e, .int .i64 X.f]), VF.eq (.agg #[.int .i64 x1.lo, .int .i64 x1.hi]), VF.eq (.agg #[.int .i64 d.lo, .int .i64 d.hi]), VF.eq (.agg #[.int .i64 q1.lo, .int .i64 q1.hi])] : List VF).getD z_ VF.any) I (fun hc => ⟨?_, ?_, ?_, ?_, ?_, ?_, ?_, ?_, ?_, ?_, ?_, ?_, trivial⟩) (fun vs gl W hK0 hv hp => ?_)
 ·exact ob_mv hc (.inl rfl)
 ·exact ob_mv hc (.inl rfl)
 ·exact ob_e1 (x := .tmp 53) (a := (.pointer (some ⟨gs, 0, none⟩))) (u := .pointer (some ⟨gs, 0, none⟩)) (some 1) hc
 ·exact ob_e1 (x := .tmp 54) (a := (.pointer (some ⟨gs, 0, none⟩))) (u := .pointer (some ⟨gs, 3, none⟩)) (some 2) hc
 ·exact ob_ld (x := .tmp 55) (g := gs) (f := 3) (u := .func (.func 71) #[] #[]) (some 3) hc fun vs gs w1 c => c.fix 6 3
 ·exact ob_mv hc (.inl rfl)
 ·exact T_SPP_4
 ·exact ob_ld6 (x := .tmp 13) (g := ge) (f := 0) none hc rfl fun vs gs w1 c => ⟨c.own 4 0, c.own 4 1, c.own 4 2, c.own 4 3, c.own 4 4, c.own 4 5⟩
 ·exact ob_callB (n := 6) 0 gs (fun v => [v 5, v 6, v 7]) rfl hc rfl fun vs gs w1 c hb => b_dot1 hx1 (c.v 5) (c.v 6) (c.v 7) hb iU iX
 ·exact ob_ld2 (x := .tmp 16) (g := gd) (f := 0) none hc rfl fun vs gs w1 c => ⟨c.own 7 0, c.own 7 1⟩
 ·exact ob_callB (n := 6) 1 gs (fun v => [v 0, v 4, v 8, v 9]) rfl hc rfl fun vs gs w1 c hb => b_div1 hq1 (c.v 0) (c.v 4) (c.v 8) (c.v 9) hb
 ·exact ob_put2 (n := 0) 0 rfl (some 10) hc rfl
 simp only [putS, Nat.reduceAdd, Act.put, List.setIfInBounds_toArray, List.set_cons_zero, List.set_cons_succ]
 simp only [kb_] at hK0
 replace I := hK0
 clear hK0 hv hp gl
 go_upto_region 10 with fail
 refine wp_regB [[], [(11, BF.own [.int .i64 q2.lo, .int .i64 q2.hi])], [], [], [], [], [(8, SH x2.e), (10, SH q2.e)]] [] (fun z_ => ([VF.eq (.pointer (some ⟨gs, 0, none⟩)), VF.eq (.pointer (some ⟨gs, 0, none⟩)), VF.eq (.pointer (some ⟨gs, 0, none⟩)), VF.eq (.pointer (some ⟨gs, 3, none⟩)), VF.eq (.func (.func 71) #[] #[]), VF.eq (.pointer (some ⟨gs, 0, none⟩)), VF.eq (.agg #[.int .i64 U.a, .int .i64 U.b, .int .i64 U.c, .int .i64 U.d, .int .i64 U.e, .int .i64 U.f]), VF.eq (.agg #[.int .i64 Y.a, .int .i64 Y.b, .int .i64 Y.c, .int .i64 Y.d, .int .i64 Y.e, .int .i64 Y.f]), VF.eq (.agg #[.int .i64 x2.lo, .int .i64 x2.hi]), VF.eq (.agg #[.int .i64 d.lo, .int .i64 d.hi]), VF.eq (.agg #[.int .i64 q2.lo, .int .i64 q2.hi])] : List VF).getD z_ VF.any) I (fun hc => ⟨?_, ?_, ?_, ?_, ?_, ?_, ?_, ?_, ?_, ?_, ?_, ?_, trivial⟩) (fun vs gl W hK0 hv hp => ?_)
 ·exact ob_mv hc (.inl rfl)
 ·exact ob_mv hc (.inl rfl)
 ·exact ob_e1 (x := .tmp 64) (a := (.pointer (some ⟨gs, 0, none⟩))) (u := .pointer (some ⟨gs, 0, none⟩)) (some 1) hc
 ·exact ob_e1 (x := .tmp 65) (a := (.pointer (some ⟨gs, 0, none⟩))) (u := .pointer (some ⟨gs, 3, none⟩)) (some 2) hc
 ·exact ob_ld (x := .tmp 66) (g := gs) (f := 3) (u := .func (.func 71) #[] #[]) (some 3) hc fun vs gs w1 c => c.fix 6 3
 ·exact ob_mv hc (.inl rfl)
 ·exact T_SPP_4
 ·exact ob_ld6 (x := .tmp 14) (g := gn) (f := 0) none hc rfl fun vs gs w1 c => ⟨c.own 5 0, c.own 5 1, c.own 5 2, c.own 5 3, c.own 5 4, c.own 5 5⟩
 ·exact ob_callB (n := 6) 0 gs (fun v => [v 5, v 6, v 7]) rfl hc rfl fun vs gs w1 c hb => b_dot1 hx2 (c.v 5) (c.v 6) (c.v 7) hb iU iY
 ·exact ob_ld2 (x := .tmp 16) (g := gd) (f := 0) none hc rfl fun vs gs w1 c => ⟨c.own 7 0, c.own 7 1⟩
 ·exact ob_callB (n := 6) 1 gs (fun v => [v 0, v 4, v 8, v 9]) rfl hc rfl fun vs gs w1 c hb => b_div1 hq2 (c.v 0) (c.v 4) (c.v 8) (c.v 9) hb
 ·exact ob_put2 (n := 1) 0 rfl (some 10) hc rfl
 simp only [putS, Nat.reduceAdd, Act.put, List.setIfInBounds_toArray, List.set_cons_zero, List.set_cons_succ]
 simp only [kb_] at hK0
 replace I := hK0
 clear hK0 hv hp gl
 go_upto_region 11 with fail
 refine wp_regB [] [] (fun z_ => ([VF.eq (.pointer (some ⟨gs, 0, none⟩)), VF.eq (.pointer (some ⟨gs, 0, none⟩)), VF.eq (.pointer (some ⟨gs, 4, none⟩)), VF.eq (.int .i64 (q2.e)), VF.eq (.bool false)] : List VF).getD z_ VF.any) I (fun hc => ⟨?_, ?_, ?_, ?_, ?_, trivial⟩) (fun vs gl W hK0 hv hp => ?_)
 ·exact ob_mv hc (.inl rfl)
 ·exact ob_e1 (x := .tmp 74) (a := (.pointer (some ⟨gs, 0, none⟩))) (u := .pointer (some ⟨gs, 0, none⟩)) (some 0) hc
 ·exact ob_e1 (x := .tmp 75) (a := (.pointer (some ⟨gs, 0, none⟩))) (u := .pointer (some ⟨gs, 4, none⟩)) (some 1) hc
 ·exact ob_ld (x := .tmp 76) (g := gs) (f := 4) (u := .int .i64 (q2.e)) (some 2) hc fun vs gs w1 c => c.own 6 4
 ·exact ob_e2 (x := .tmp 77) (y := .const (.int .i64 0)) (a := (.int .i64 (q2.e))) (b := .int .i64 0) (u := .bool false) (some 3) none hc (hs := by intro ρ w1 h k; go_simp; first | done | (simp; omega))
 have v4 : vs 4 = .bool false := hv 4 (by decide)
 simp only [putS, Nat.reduceAdd, Act.put, List.setIfInBounds_toArray, List.set_cons_zero, List.set_cons_succ, v4]
 simp only [kb_] at hK0
 replace I := hK0
 clear hK0 hv hp gl v4
 go_upto_region 13 with fail
 go_upto_region 13 with fail
 refine wp_regB [[(2, BF.own [.int .i64 q1.lo, .int .i64 q1.hi])], [(3, BF.own [.int .i64 q2.lo, .int .i64 q2.hi])]] [] (fun z_ => ([VF.eq (.agg #[.int .i64 q1.lo, .int .i64 q1.hi]), VF.eq (.agg #[.int .i64 q2.lo, .int .i64 q2.hi]), VF.any, VF.any, VF.eq (.int .i64 (0))] : List VF).getD z_ VF.any) I (fun hc => ⟨?_, ?_, ?_, ?_, ?_, trivial⟩) (fun vs gl W hK0 hv hp => ?_)
 ·exact ob_ld2 (x := .tmp 8) (g := w.heap.size) (f := 0) none hc rfl fun vs gs w1 c => ⟨c.own 0 0, c.own 0 1⟩
 ·exact ob_ld2 (x := .tmp 9) (g := (w.heap.size + 1)) (f := 0) none hc rfl fun vs gs w1 c => ⟨c.own 1 0, c.own 1 1⟩
 ·exact ob_put2 (n := 0) 0 rfl (some 0) hc rfl (hf := by simp)
 ·exact ob_put2 (n := 1) 0 rfl (some 1) hc rfl (hf := by simp)
 ·exact ob_mv hc (.inr rfl)
 have v4 : vs 4 = .int .i64 0 := hv 4 (by decide)
 simp only [putS, Nat.reduceAdd, Act.put, List.setIfInBounds_toArray, List.set_cons_zero, List.set_cons_succ, v4]
 simp only [kb_] at hK0
 replace I := hK0
 clear hK0 hv hp gl v4
 have d0 := I.own 0 0
 have d1 := I.own 0 1
 have d2 := I.own 1 0
 have d3 := I.own 1 1
 have hE := I.e
 clear I ho1 ho2 hun hfm
 go_wp2_with fail
 refine bodyPost_ret (v := .tuple #[.agg #[.int .i64 q1.lo, .int .i64 q1.hi], .agg #[.int .i64 q2.lo, .int .i64 q2.hi], .int .i64 0]) ?_ rfl ⟨rfl, hE⟩
 exact T_SPP_7
end Go.Proofs.YtaoioncjmfcolaaGreat
