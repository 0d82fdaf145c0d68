/- TrigNames: the helpers of the law. -/
import Derived.Test.YtogblocakccbgaaGreatU37
set_option linter.unusedSimpArgs false
set_option linter.unusedVariables false
set_option maxRecDepth 100000
set_option maxHeartbeats 4000000
namespace Go.Proofs.YtogblocakccbgaaGreat
open Go.RowKit
theorem T_TLW_1 {p : Prop} (h : p := by
 exact ob_call (fun v => [.int .i64 1]) hc rfl fun vs gs w1 c => k_whole _ _ (by decide) (by decide)) : p := h
theorem k_iv (a b : Int) (w : World) : Calls Tryz.prog 8 #[.int .i64 a, .int .i64 b] w fun e w' => e = .returned (.agg #[.int .i64 a, .int .i64 b]) ∧ Ext w w' := by
 go_enter Tryz.func8, Tryz.ntmps8
 go_wp2_with fail
 refine bodyPost_ret (v := .agg #[.int .i64 a, .int .i64 b]) ?_ rfl ⟨rfl, ?_⟩
 ·simp [results, Tryz.results8, go_sem, ↓IntWalk.iteOmega, *]
 ·exact b_0
theorem k_whole (n : Int) (w : World) (h0 : -9223372036854775808 ≤ n) (h1 : n ≤ 9223372036854775807) : Calls Tryz.prog 6 #[.int .i64 n] w fun e w' => ∃ u, e = .returned u ∧ Wid w' u n ∧ Ext w w' := by
 have hfr : ∀ (w1 : World) (u1 : Value), u1 = .int .i64 n → Calls Tryz.prog 23 #[u1] w1 fun e w' => ∃ u, e = .returned u ∧ Wid w' u n ∧ Ext w1 w' := fun w1 u1 a => by subst a; exact r_FromZ n w1 h0 h1
 clear h0 h1
 have I0 : KBd w [] w := ⟨Ext.refl w, trivial, by simp, by simp⟩
 have I := I0.new [.bool false, .slice none 0 0] 24 (by simp)
 simp only [World.size_alloc, List.nil_append, List.cons_append] at I
 clear I0
 go_enter Tryz.func6, Tryz.ntmps6
 go_upto_region 1 with fail
 refine wp_regB [[(2, BF.wat n)]] [] (fun z_ => ([VF.eq (.int .i64 (n)), VF.wid (n)] : List VF).getD z_ VF.any) I (fun hc => ⟨?_, ?_, ?_, trivial⟩) (fun vs gl W hK0 hv hp => ?_)
 ·exact ob_mv hc (.inl rfl)
 ·exact ob_call (fun v => [v 0]) hc rfl fun vs gs w1 c => hfr _ _ (c.v 0)
 ·exact ob_putW (n := 0) rfl 1 hc rfl 0 (h4 := fun _ _ h => own_bx2 h)
 simp only [putS, Nat.reduceAdd, Act.put, List.setIfInBounds_toArray, List.set_cons_zero, List.set_cons_succ]
 simp only [kb_] at hK0
 replace I := hK0
 clear hK0 hv hp gl
 obtain ⟨s, u, h1, h2, h3, h4, h5, h6⟩ := (show WAt W w.heap.size n from I.at 0)
 have hE := I.e
 clear I hfr
 go_wp2_with fail
 refine bodyPost_ret (v := .agg #[.bool s, u]) ?_ rfl ⟨_, rfl, h3, hE⟩
 simp [results, Tryz.results6, go_sem, ↓IntWalk.iteOmega, *]
theorem k_alive (w : World) : Calls Tryz.prog 11 #[] w fun e w' => e = .returned (.bool true) ∧ Ext w w' := by
 have I : KBd w [] w := ⟨Ext.refl w, trivial, by simp, by simp⟩
 go_enter Tryz.func11, Tryz.ntmps11
 go_upto_region 1 with fail
 refine wp_regB [] [] (fun z_ => ([VF.wid (1), VF.wid (1), VF.eq (.tuple #[.int .i64 162000000000, .int .i64 0]), VF.eq (.tuple #[.int .i64 162000000000, .int .i64 0]), VF.eq (.int .i64 162000000000), VF.eq (.int .i64 0), VF.eq (.int .i64 162000000000), VF.eq (.int .i64 0)] : List VF).getD z_ VF.any) I (fun hc => ⟨?_, ?_, ?_, ?_, ?_, ?_, ?_, ?_, trivial⟩) (fun vs gl W hK0 hv hp => ?_)
 ·exact T_TLW_1
 ·exact T_TLW_1
 ·exact ob_call (fun v => [v 0, v 1]) hc rfl fun vs gs w1 c => calls_eq (t_atan _ _ _ _ _ _ (c.v 0) (c.v 1) c_2 c_2 (Nat.le_of_ble_eq_true c_2) (Nat.le_of_ble_eq_true c_2) (by decide) cl_a1)
 ·exact ob_cp 2 hc (.inl rfl)
 ·exact ob_e1 (x := .tmp 8) (a := (.tuple #[.int .i64 162000000000, .int .i64 0])) (u := .int .i64 162000000000) (some 3) hc
 ·exact ob_e1 (x := .tmp 8) (a := (.tuple #[.int .i64 162000000000, .int .i64 0])) (u := .int .i64 0) (some 3) hc
 ·exact ob_cp 4 hc (.inr rfl)
 ·exact ob_cp 5 hc (.inr rfl)
 have v6 : vs 6 = .int .i64 162000000000 := hv 6 (by decide)
 have v7 : vs 7 = .int .i64 0 := hv 7 (by decide)
 simp only [putS, Nat.reduceAdd, Act.put, List.setIfInBounds_toArray, List.set_cons_zero, List.set_cons_succ, v6, v7]
 simp only [kb_] at hK0
 replace I := hK0
 clear hK0 hv hp gl v6 v7
 go_upto_region 2 with fail
 refine wp_regB [] [] (fun z_ => ([VF.wid ((-1)), VF.wid (0), VF.eq (.tuple #[.int .i64 972000000000, .int .i64 0]), VF.eq (.tuple #[.int .i64 972000000000, .int .i64 0]), VF.eq (.int .i64 972000000000), VF.eq (.int .i64 0), VF.eq (.int .i64 972000000000), VF.eq (.int .i64 0)] : List VF).getD z_ VF.any) I (fun hc => ⟨?_, ?_, ?_, ?_, ?_, ?_, ?_, ?_, trivial⟩) (fun vs gl W hK0 hv hp => ?_)
 ·exact ob_call (fun v => [.int .i64 (-1)]) hc rfl fun vs gs w1 c => k_whole _ _ (by decide) (by decide)
 ·exact ob_call (fun v => [.int .i64 0]) hc rfl fun vs gs w1 c => k_whole _ _ (by decide) (by decide)
 ·exact ob_call (fun v => [v 0, v 1]) hc rfl fun vs gs w1 c => calls_eq (t_atan _ _ _ _ _ _ (c.v 0) (c.v 1) c_2 c_2 (Nat.le_of_ble_eq_true c_2) (Nat.le_of_ble_eq_true c_2) (by decide) cl_a2)
 ·exact ob_cp 2 hc (.inl rfl)
 ·exact ob_e1 (x := .tmp 14) (a := (.tuple #[.int .i64 972000000000, .int .i64 0])) (u := .int .i64 972000000000) (some 3) hc
 ·exact ob_e1 (x := .tmp 14) (a := (.tuple #[.int .i64 972000000000, .int .i64 0])) (u := .int .i64 0) (some 3) hc
 ·exact ob_cp 4 hc (.inr rfl)
 ·exact ob_cp 5 hc (.inr rfl)
 have v6 : vs 6 = .int .i64 972000000000 := hv 6 (by decide)
 have v7 : vs 7 = .int .i64 0 := hv 7 (by decide)
 simp only [putS, Nat.reduceAdd, Act.put, List.setIfInBounds_toArray, List.set_cons_zero, List.set_cons_succ, v6, v7]
 simp only [kb_] at hK0
 replace I := hK0
 clear hK0 hv hp gl v6 v7
 go_upto_region 3 with fail
 refine wp_regB [] [] (fun z_ => ([VF.wid (1), VF.wid (2), VF.eq (.tuple #[.int .i64 95634184237, .int .i64 0]), VF.eq (.tuple #[.int .i64 95634184237, .int .i64 0]), VF.eq (.int .i64 95634184237), VF.eq (.int .i64 0), VF.eq (.int .i64 95634184237), VF.eq (.int .i64 0)] : List VF).getD z_ VF.any) I (fun hc => ⟨?_, ?_, ?_, ?_, ?_, ?_, ?_, ?_, trivial⟩) (fun vs gl W hK0 hv hp => ?_)
 ·exact T_TLW_1
 ·exact ob_call (fun v => [.int .i64 2]) hc rfl fun vs gs w1 c => k_whole _ _ (by decide) (by decide)
 ·exact ob_call (fun v => [v 0, v 1]) hc rfl fun vs gs w1 c => calls_eq (t_atan _ _ _ _ _ _ (c.v 0) (c.v 1) c_2 c_2 (Nat.le_of_ble_eq_true c_2) (Nat.le_of_ble_eq_true c_2) (by decide) cl_a3)
 ·exact ob_cp 2 hc (.inl rfl)
 ·exact ob_e1 (x := .tmp 20) (a := (.tuple #[.int .i64 95634184237, .int .i64 0])) (u := .int .i64 95634184237) (some 3) hc
 ·exact ob_e1 (x := .tmp 20) (a := (.tuple #[.int .i64 95634184237, .int .i64 0])) (u := .int .i64 0) (some 3) hc
 ·exact ob_cp 4 hc (.inr rfl)
 ·exact ob_cp 5 hc (.inr rfl)
 have v6 : vs 6 = .int .i64 95634184237 := hv 6 (by decide)
 have v7 : vs 7 = .int .i64 0 := hv 7 (by decide)
 simp only [putS, Nat.reduceAdd, Act.put, List.setIfInBounds_toArray, List.set_cons_zero, List.set_cons_succ, v6, v7]
 simp only [kb_] at hK0
 replace I := hK0
 clear hK0 hv hp gl v6 v7
 go_upto_region 4 with fail
 refine wp_regB [] [] (fun z_ => ([VF.eq (.agg #[.int .i64 3454217652357, .int .i64 3454217652358]), VF.eq (.agg #[.int .i64 3454217652357, .int .i64 3454217652358]), VF.eq (.bool true), VF.eq (.bool true), VF.eq (.agg #[.int .i64 549755813888, .int .i64 549755813888]), VF.eq (.agg #[.int .i64 549755813888, .int .i64 549755813888]), VF.eq (.bool true), VF.eq (.bool true), VF.eq (.bool true), VF.eq (.agg #[.int .i64 777472127993, .int .i64 777472127994]), VF.eq (.agg #[.int .i64 777472127993, .int .i64 777472127994]), VF.eq (.bool true), VF.eq (.bool true), VF.eq (.bool true)] : List VF).getD z_ VF.any) I (fun hc => ⟨?_, ?_, ?_, ?_, ?_, ?_, ?_, ?_, ?_, ?_, ?_, ?_, ?_, ?_, trivial⟩) (fun vs gl W hK0 hv hp => ?_)
 ·exact ob_call (fun v => []) hc rfl fun vs gs w1 c => calls_eq (t_Pi _)
 ·exact ob_call (fun v => [.int .i64 3454217652357, .int .i64 3454217652358]) hc rfl fun vs gs w1 c => calls_eq (k_iv _ _ _)
 ·exact ob_e2 (x := .tmp 26) (y := .tmp 27) (a := (.agg #[.int .i64 3454217652357, .int .i64 3454217652358])) (b := (.agg #[.int .i64 3454217652357, .int .i64 3454217652358])) (u := .bool true) (some 0) (some 1) hc (hs := by intro ρ w1 h k; go_simp; first | done | (rw [show (10000 : Nat) = 9998 + 1 + 1 from rfl, eq_iv]; rfl))
 ·exact ob_cp 2 hc (.inl rfl)
 ·exact ob_call (fun v => [.int .i64 108000000000]) hc rfl fun vs gs w1 c => calls_eq (t_Sin _ _ _ _ (by decide) (by decide) cl_s1)
 ·exact ob_call (fun v => [.int .i64 549755813888, .int .i64 549755813888]) hc rfl fun vs gs w1 c => calls_eq (k_iv _ _ _)
 ·exact ob_e2 (x := .tmp 30) (y := .tmp 31) (a := (.agg #[.int .i64 549755813888, .int .i64 549755813888])) (b := (.agg #[.int .i64 549755813888, .int .i64 549755813888])) (u := .bool true) (some 4) (some 5) hc (hs := by intro ρ w1 h k; go_simp; first | done | (rw [show (10000 : Nat) = 9998 + 1 + 1 from rfl, eq_iv]; rfl))
 ·exact ob_pickT (some 3) (some 6) hc rfl
 ·exact ob_cp 7 hc (.inl rfl)
 ·exact ob_call (fun v => [.int .i64 162000000000]) hc rfl fun vs gs w1 c => calls_eq (t_Sin _ _ _ _ (by decide) (by decide) cl_s2)
 ·exact ob_call (fun v => [.int .i64 777472127993, .int .i64 777472127994]) hc rfl fun vs gs w1 c => calls_eq (k_iv _ _ _)
 ·exact ob_e2 (x := .tmp 35) (y := .tmp 36) (a := (.agg #[.int .i64 777472127993, .int .i64 777472127994])) (b := (.agg #[.int .i64 777472127993, .int .i64 777472127994])) (u := .bool true) (some 9) (some 10) hc (hs := by intro ρ w1 h k; go_simp; first | done | (rw [show (10000 : Nat) = 9998 + 1 + 1 from rfl, eq_iv]; rfl))
 ·exact ob_pickT (some 8) (some 11) hc rfl
 ·exact ob_cp 12 hc (.inr rfl)
 have v13 : vs 13 = .bool true := hv 13 (by decide)
 simp only [putS, Nat.reduceAdd, Act.put, List.setIfInBounds_toArray, List.set_cons_zero, List.set_cons_succ, v13]
 simp only [kb_] at hK0
 replace I := hK0
 clear hK0 hv hp gl v13
 go_upto_region 5 with fail
 refine wp_regB [] [] (fun z_ => ([VF.eq (.bool true), VF.eq (.bool true), VF.eq (.int .i64 0), VF.eq (.bool true), VF.eq (.bool true), VF.eq (.bool true), VF.eq (.int .i64 162000000000), VF.eq (.bool true), VF.eq (.bool true), VF.eq (.bool true), VF.eq (.int .i64 0), VF.eq (.bool true), VF.eq (.bool true), VF.eq (.bool true), VF.eq (.int .i64 972000000000), VF.eq (.bool true), VF.eq (.bool true), VF.eq (.bool true), VF.eq (.int .i64 0), VF.eq (.bool true), VF.eq (.bool true), VF.eq (.bool true), VF.eq (.int .i64 95634184237), VF.eq (.bool true), VF.eq (.bool true), VF.eq (.bool true)] : List VF).getD z_ VF.any) I (fun hc => ⟨?_, ?_, ?_, ?_, ?_, ?_, ?_, ?_, ?_, ?_, ?_, ?_, ?_, ?_, ?_, ?_, ?_, ?_, ?_, ?_, ?_, ?_, ?_, ?_, ?_, ?_, trivial⟩) (fun vs gl W hK0 hv hp => ?_)
 ·exact ob_mv hc (.inl rfl)
 ·exact ob_cp 0 hc (.inl rfl)
 ·exact ob_mv hc (.inl rfl)
 ·exact ob_e2 (x := .tmp 41) (y := .const (.int .i64 0)) (a := (.int .i64 0)) (b := .int .i64 0) (u := .bool true) (some 2) none hc
 ·exact ob_pickT (some 1) (some 3) hc rfl
 ·exact ob_cp 4 hc (.inl rfl)
 ·exact ob_mv hc (.inl rfl)
 ·exact ob_e2 (x := .tmp 45) (y := .const (.int .i64 162000000000)) (a := (.int .i64 162000000000)) (b := .int .i64 162000000000) (u := .bool true) (some 6) none hc
 ·exact ob_pickT (some 5) (some 7) hc rfl
 ·exact ob_cp 8 hc (.inl rfl)
 ·exact ob_mv hc (.inl rfl)
 ·exact ob_e2 (x := .tmp 49) (y := .const (.int .i64 0)) (a := (.int .i64 0)) (b := .int .i64 0) (u := .bool true) (some 10) none hc
 ·exact ob_pickT (some 9) (some 11) hc rfl
 ·exact ob_cp 12 hc (.inl rfl)
 ·exact ob_mv hc (.inl rfl)
 ·exact ob_e2 (x := .tmp 53) (y := .const (.int .i64 972000000000)) (a := (.int .i64 972000000000)) (b := .int .i64 972000000000) (u := .bool true) (some 14) none hc
 ·exact ob_pickT (some 13) (some 15) hc rfl
 ·exact ob_cp 16 hc (.inl rfl)
 ·exact ob_mv hc (.inl rfl)
 ·exact ob_e2 (x := .tmp 57) (y := .const (.int .i64 0)) (a := (.int .i64 0)) (b := .int .i64 0) (u := .bool true) (some 18) none hc
 ·exact ob_pickT (some 17) (some 19) hc rfl
 ·exact ob_cp 20 hc (.inl rfl)
 ·exact ob_mv hc (.inl rfl)
 ·exact ob_e2 (x := .tmp 61) (y := .const (.int .i64 95634184237)) (a := (.int .i64 95634184237)) (b := .int .i64 95634184237) (u := .bool true) (some 22) none hc
 ·exact ob_pickT (some 21) (some 23) hc rfl
 ·exact ob_cp 24 hc (.inr rfl)
 have v25 : vs 25 = .bool true := hv 25 (by decide)
 simp only [putS, Nat.reduceAdd, Act.put, List.setIfInBounds_toArray, List.set_cons_zero, List.set_cons_succ, v25]
 simp only [kb_] at hK0
 replace I := hK0
 clear hK0 hv hp gl v25
 have hE := I.e
 clear I
 go_wp2_with fail
 go_ret
 exact ⟨rfl, hE⟩
end Go.Proofs.YtogblocakccbgaaGreat
