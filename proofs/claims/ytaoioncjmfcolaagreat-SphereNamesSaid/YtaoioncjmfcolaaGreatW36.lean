/- SphereNames: the law. -/
import Derived.Test.YtaoioncjmfcolaaGreatW35
set_option linter.unusedSimpArgs false
set_option linter.unusedVariables false
set_option maxRecDepth 100000
set_option maxHeartbeats 4000000
namespace Go.Proofs.YtaoioncjmfcolaaGreat
open Go.RowKit
theorem T_SPZ_7 {p : Prop} (h : p := by
 exact ob_call (fun v => [.int .i64 1099511627776, .int .i64 1099511627776]) hc rfl fun vs gs w1 c => calls_eq (k_iv _ _ _)) : p := h
theorem T_SPZ_6 {p : Prop} (h : p := by
 exact ob_e1 (x := .tmp 27) (a := (.tuple #[.int .i64 0, .int .i64 (-324000000000), .int .i64 0])) (u := .int .i64 0) (some 2) hc) : p := h
theorem T_SPZ_5 {p : Prop} (h : p := by
 exact ob_ld6 (x := .tmp 37) (g := g37) (f := 0) none hc rfl fun vs gs w1 c => ⟨c.own 11 0, c.own 11 1, c.own 11 2, c.own 11 3, c.own 11 4, c.own 11 5⟩) : p := h
theorem T_SPZ_4 {p : Prop} (h : p := by
 exact ob_e1 (x := .tmp 68) (a := (.tuple #[.agg #[.int .i64 0, .int .i64 0], .agg #[.int .i64 0, .int .i64 0], .int .i64 2])) (u := .agg #[.int .i64 0, .int .i64 0]) (some 1) hc) : p := h
theorem T_SPZ_3 {p : Prop} (h : p := by
 exact ob_e1 (x := .tmp 17) (a := (.tuple #[.agg #[.int .i64 0, .int .i64 0], .agg #[.int .i64 0, .int .i64 0], .int .i64 0])) (u := .agg #[.int .i64 0, .int .i64 0]) (some 1) hc) : p := h
theorem T_SPZ_2 {p : Prop} (h : p := by
 exact ob_e1 (x := .tmp 63) (a := (.tuple #[.agg #[.int .i64 0, .int .i64 0], .agg #[.int .i64 0, .int .i64 0], .int .i64 16])) (u := .agg #[.int .i64 0, .int .i64 0]) (some 1) hc) : p := h
theorem T_SPZ_1 {p : Prop} (h : p := by
 exact ob_ld6 (x := .tmp 5) (g := g5) (f := 0) none hc rfl fun vs gs w1 c => ⟨c.own 2 0, c.own 2 1, c.own 2 2, c.own 2 3, c.own 2 4, c.own 2 5⟩) : p := h
theorem eqc1 {P : Program} {f : Nat} {w : World} {F : Ending → World → Prop} {u v : Value} (h : u = v) (k : Calls P f #[v] w F) : Calls P f #[u] w F := h ▸ k
theorem eqc2 {P : Program} {f : Nat} {w : World} {F : Ending → World → Prop} {u v x : Value} (h : u = v) (k : Calls P f #[v, x] w F) : Calls P f #[u, x] w F := h ▸ k
theorem eqcr {P : Program} {f : Nat} {w : World} {F : Ending → World → Prop} {u v x : Value} (h : u = v) (k : Calls P f #[x, v] w F) : Calls P f #[x, u] w F := h ▸ k
theorem eqc3 {P : Program} {f : Nat} {w : World} {F : Ending → World → Prop} {u v x y t : Value} (h : u = v) (h2 : x = y) (k : Calls P f #[v, y, t] w F) : Calls P f #[u, x, t] w F := h ▸ h2 ▸ k
theorem k_alive (w : World) : Calls Tryz.prog 15 #[] w fun e w' => e = .returned (.bool true) ∧ Ext w w' := by
 obtain ⟨q1, q2, hpj, hq0, hq1, hq2, hq3, hq4⟩ := k_proj8
 have I : KBd w [] w := ⟨Ext.refl w, trivial, by simp, by simp⟩
 go_enter Tryz.func15, Tryz.ntmps15
 go_upto_region 1 with fail
 refine wp_regB [] [⟨4, some 5, BF.own [.int .i64 0, .int .i64 0, .int .i64 0, .int .i64 0, .int .i64 0, .int .i64 0], (BF.own [.int .i64 1099511627776, .int .i64 1099511627776, .int .i64 0, .int .i64 0, .int .i64 0, .int .i64 0])⟩] (fun z_ => ([VF.eq (.tuple #[.agg #[.int .i64 1099511627776, .int .i64 1099511627776, .int .i64 0, .int .i64 0, .int .i64 0, .int .i64 0], .int .i64 0]), VF.eq (.tuple #[.agg #[.int .i64 1099511627776, .int .i64 1099511627776, .int .i64 0, .int .i64 0, .int .i64 0, .int .i64 0], .int .i64 0]), VF.eq (.agg #[.int .i64 1099511627776, .int .i64 1099511627776, .int .i64 0, .int .i64 0, .int .i64 0, .int .i64 0]), VF.eq (.int .i64 0), VF.any, VF.any, VF.eq (.int .i64 0)] : List VF).getD z_ VF.any) I (fun hc => ⟨?_, ?_, ?_, ?_, ?_, ?_, ?_, trivial⟩) (fun vs gl W hK0 hv hp => ?_)
 ·exact ob_call (fun v => [.int .i64 0, .int .i64 0]) hc rfl fun vs gs w1 c => calls_eq (p_Unit 0 0 ⟨1099511627776, 1099511627776, 0, 0, 0, 0⟩ _ (by decide) (by decide) k_unit_0_0)
 ·exact ob_cp 0 hc (.inl rfl)
 ·exact ob_e1 (x := .tmp 13) (a := (.tuple #[.agg #[.int .i64 1099511627776, .int .i64 1099511627776, .int .i64 0, .int .i64 0, .int .i64 0, .int .i64 0], .int .i64 0])) (u := .agg #[.int .i64 1099511627776, .int .i64 1099511627776, .int .i64 0, .int .i64 0, .int .i64 0, .int .i64 0]) (some 1) hc
 ·exact ob_e1 (x := .tmp 13) (a := (.tuple #[.agg #[.int .i64 1099511627776, .int .i64 1099511627776, .int .i64 0, .int .i64 0, .int .i64 0, .int .i64 0], .int .i64 0])) (u := .int .i64 0) (some 1) hc
 ·exact ob_new (n := 0) [.int .i64 0, .int .i64 0, .int .i64 0, .int .i64 0, .int .i64 0, .int .i64 0] 32 rfl hc rfl rfl rfl
 ·exact ob_putV (n := 0) rfl (some 2) hc rfl rfl
 ·exact ob_cp 3 hc (.inr rfl)
 have p0 : vs 4 = .pointer (some ⟨gl 0, 0, none⟩) := hp 0 _ rfl
 have v6 : vs 6 = .int .i64 0 := hv 6 (by decide)
 simp only [putS, Nat.reduceAdd, Act.put, List.setIfInBounds_toArray, List.set_cons_zero, List.set_cons_succ, p0, v6]
 obtain ⟨gu, e90⟩ : ∃ n, gl 0 = n := ⟨_, rfl⟩
 simp only [kb_, e90] at hK0
 rw [e90]
 replace I := hK0
 clear hK0 hv hp gl p0 v6 e90
 go_upto_region 2 with fail
 refine wp_regB [] [⟨5, some 7, BF.own [.int .i64 0, .int .i64 0], (BF.own [.int .i64 0, .int .i64 0])⟩, ⟨6, some 8, BF.own [.int .i64 0, .int .i64 0], (BF.own [.int .i64 0, .int .i64 0])⟩] (fun z_ => ([VF.eq (.tuple #[.agg #[.int .i64 0, .int .i64 0], .agg #[.int .i64 0, .int .i64 0], .int .i64 0]), VF.eq (.tuple #[.agg #[.int .i64 0, .int .i64 0], .agg #[.int .i64 0, .int .i64 0], .int .i64 0]), VF.eq (.agg #[.int .i64 0, .int .i64 0]), VF.eq (.agg #[.int .i64 0, .int .i64 0]), VF.eq (.int .i64 0), VF.any, VF.any, VF.any, VF.any, VF.eq (.int .i64 0)] : List VF).getD z_ VF.any) I (fun hc => ⟨?_, ?_, ?_, ?_, ?_, ?_, ?_, ?_, ?_, ?_, trivial⟩) (fun vs gl W hK0 hv hp => ?_)
 ·exact ob_call (fun v => [.int .i64 0, .int .i64 0, .int .i64 0, .int .i64 0]) hc rfl fun vs gs w1 c => calls_eq (k_proj0 _)
 ·exact ob_cp 0 hc (.inl rfl)
 ·exact T_SPZ_3
 ·exact T_SPZ_3
 ·exact ob_e1 (x := .tmp 17) (a := (.tuple #[.agg #[.int .i64 0, .int .i64 0], .agg #[.int .i64 0, .int .i64 0], .int .i64 0])) (u := .int .i64 0) (some 1) hc
 ·exact b_33
 ·exact ob_new (n := 2) [.int .i64 0, .int .i64 0] 30 rfl hc rfl rfl rfl
 ·exact ob_put2 (n := 1) 0 rfl (some 2) hc rfl
 ·exact ob_put2 (n := 2) 0 rfl (some 3) hc rfl
 ·exact ob_cp 4 hc (.inr rfl)
 have p0 : vs 5 = .pointer (some ⟨gl 0, 0, none⟩) := hp 0 _ rfl
 have p1 : vs 6 = .pointer (some ⟨gl 1, 0, none⟩) := hp 1 _ rfl
 have v9 : vs 9 = .int .i64 0 := hv 9 (by decide)
 simp only [putS, Nat.reduceAdd, Act.put, List.setIfInBounds_toArray, List.set_cons_zero, List.set_cons_succ, p0, p1, v9]
 obtain ⟨gx, e90⟩ : ∃ n, gl 0 = n := ⟨_, rfl⟩
 obtain ⟨gy, e91⟩ : ∃ n, gl 1 = n := ⟨_, rfl⟩
 simp only [kb_, e90, e91] at hK0
 rw [e90, e91]
 replace I := hK0
 clear hK0 hv hp gl p0 p1 v9 e90 e91
 go_upto_region 3 with fail
 refine wp_regB [] [⟨5, some 7, BF.own [.int .i64 0, .int .i64 0], (BF.own [.int .i64 q1.lo, .int .i64 q1.hi])⟩, ⟨6, some 8, BF.own [.int .i64 0, .int .i64 0], (BF.own [.int .i64 q2.lo, .int .i64 q2.hi])⟩] (fun z_ => ([VF.eq (.tuple #[.agg #[.int .i64 q1.lo, .int .i64 q1.hi], .agg #[.int .i64 q2.lo, .int .i64 q2.hi], .int .i64 0]), VF.eq (.tuple #[.agg #[.int .i64 q1.lo, .int .i64 q1.hi], .agg #[.int .i64 q2.lo, .int .i64 q2.hi], .int .i64 0]), VF.eq (.agg #[.int .i64 q1.lo, .int .i64 q1.hi]), VF.eq (.agg #[.int .i64 q2.lo, .int .i64 q2.hi]), VF.eq (.int .i64 0), VF.any, VF.any, VF.any, VF.any, VF.eq (.int .i64 0)] : List VF).getD z_ VF.any) I (fun hc => ⟨?_, ?_, ?_, ?_, ?_, ?_, ?_, ?_, ?_, ?_, trivial⟩) (fun vs gl W hK0 hv hp => ?_)
 ·exact ob_call (fun v => [.int .i64 162000000000, .int .i64 0, .int .i64 0, .int .i64 0]) hc rfl fun vs gs w1 c => calls_eq (hpj _)
 ·exact ob_cp 0 hc (.inl rfl)
 ·exact ob_e1 (x := .tmp 22) (a := (.tuple #[.agg #[.int .i64 q1.lo, .int .i64 q1.hi], .agg #[.int .i64 q2.lo, .int .i64 q2.hi], .int .i64 0])) (u := .agg #[.int .i64 q1.lo, .int .i64 q1.hi]) (some 1) hc
 ·exact ob_e1 (x := .tmp 22) (a := (.tuple #[.agg #[.int .i64 q1.lo, .int .i64 q1.hi], .agg #[.int .i64 q2.lo, .int .i64 q2.hi], .int .i64 0])) (u := .agg #[.int .i64 q2.lo, .int .i64 q2.hi]) (some 1) hc
 ·exact ob_e1 (x := .tmp 22) (a := (.tuple #[.agg #[.int .i64 q1.lo, .int .i64 q1.hi], .agg #[.int .i64 q2.lo, .int .i64 q2.hi], .int .i64 0])) (u := .int .i64 0) (some 1) hc
 ·exact ob_new (n := 3) [.int .i64 0, .int .i64 0] 30 rfl hc rfl rfl rfl
 ·exact b_22
 ·exact ob_put2 (n := 3) 0 rfl (some 2) hc rfl
 ·exact ob_put2 (n := 4) 0 rfl (some 3) hc rfl
 ·exact ob_cp 4 hc (.inr rfl)
 have p0 : vs 5 = .pointer (some ⟨gl 0, 0, none⟩) := hp 0 _ rfl
 have p1 : vs 6 = .pointer (some ⟨gl 1, 0, none⟩) := hp 1 _ rfl
 have v9 : vs 9 = .int .i64 0 := hv 9 (by decide)
 simp only [putS, Nat.reduceAdd, Act.put, List.setIfInBounds_toArray, List.set_cons_zero, List.set_cons_succ, p0, p1, v9]
 obtain ⟨gz, e90⟩ : ∃ n, gl 0 = n := ⟨_, rfl⟩
 obtain ⟨gt, e91⟩ : ∃ n, gl 1 = n := ⟨_, rfl⟩
 simp only [kb_, e90, e91] at hK0
 rw [e90, e91]
 replace I := hK0
 clear hK0 hv hp gl p0 p1 v9 e90 e91
 go_upto_region 4 with fail
 refine wp_regB [] [] (fun z_ => ([VF.eq (.agg #[.int .i64 0, .int .i64 0, .int .i64 (-5)]), VF.eq (.tuple #[.int .i64 0, .int .i64 (-324000000000), .int .i64 0]), VF.eq (.tuple #[.int .i64 0, .int .i64 (-324000000000), .int .i64 0]), VF.eq (.int .i64 0), VF.eq (.int .i64 (-324000000000)), VF.eq (.int .i64 0), VF.eq (.int .i64 0), VF.eq (.int .i64 (-324000000000)), VF.eq (.int .i64 0)] : List VF).getD z_ VF.any) I (fun hc => ⟨?_, ?_, ?_, ?_, ?_, ?_, ?_, ?_, ?_, trivial⟩) (fun vs gl W hK0 hv hp => ?_)
 ·exact ob_eq (u := .agg #[.int .i64 0, .int .i64 0, .int .i64 (-5)]) hc (fun vs gs w1 ρ hr c => by
   have e1 : ρ (.const (.int .i64 0)) = .int .i64 0 := hr _
   have e2 : ρ (.const (.int .i64 (-5))) = .int .i64 (-5) := hr _
   clear c hr
   go_simp)
 ·exact ob_call (fun v => [v 0]) hc rfl fun vs gs w1 c => eqc1 (c.v 0) (calls_eq (k_dirM _))
 ·exact ob_cp 1 hc (.inl rfl)
 ·exact T_SPZ_6
 ·exact ob_e1 (x := .tmp 27) (a := (.tuple #[.int .i64 0, .int .i64 (-324000000000), .int .i64 0])) (u := .int .i64 (-324000000000)) (some 2) hc
 ·exact T_SPZ_6
 ·exact ob_cp 3 hc (.inr rfl)
 ·exact ob_cp 4 hc (.inr rfl)
 ·exact ob_cp 5 hc (.inr rfl)
 have v6 : vs 6 = .int .i64 0 := hv 6 (by decide)
 have v7 : vs 7 = .int .i64 (-324000000000) := hv 7 (by decide)
 have v8 : vs 8 = .int .i64 0 := hv 8 (by decide)
 simp only [putS, Nat.reduceAdd, Act.put, List.setIfInBounds_toArray, List.set_cons_zero, List.set_cons_succ, v6, v7, v8]
 simp only [kb_] at hK0
 replace I := hK0
 clear hK0 hv hp gl v6 v7 v8
 go_upto_region 6 with fail
 refine wp_regB [] [] (fun z_ => ([VF.eq (.int .i64 0), VF.eq (.bool true), VF.eq (.bool true), VF.eq (.agg #[.int .i64 1099511627776, .int .i64 1099511627776, .int .i64 0, .int .i64 0, .int .i64 0, .int .i64 0]), VF.eq (.int .i64 1099511627776), VF.eq (.int .i64 1099511627776), VF.eq (.agg #[.int .i64 1099511627776, .int .i64 1099511627776]), VF.eq (.agg #[.int .i64 1099511627776, .int .i64 1099511627776, .int .i64 0, .int .i64 0, .int .i64 0, .int .i64 0]), VF.eq (.bool true), VF.eq (.bool true), VF.eq (.bool true), VF.eq (.int .i64 0), VF.eq (.bool true), VF.eq (.bool true), VF.eq (.bool true), VF.eq (.agg #[.int .i64 0, .int .i64 0]), VF.eq (.agg #[.int .i64 0, .int .i64 0]), VF.eq (.bool true), VF.eq (.bool true), VF.eq (.bool true), VF.eq (.agg #[.int .i64 0, .int .i64 0]), VF.eq (.agg #[.int .i64 0, .int .i64 0]), VF.eq (.bool true), VF.eq (.bool true), VF.eq (.bool true), VF.eq (.int .i64 0), VF.eq (.bool true), VF.eq (.bool true), VF.eq (.bool true), VF.eq (.agg #[.int .i64 q1.lo, .int .i64 q1.hi]), VF.eq (.int .i64 1099511627776), VF.eq (.bool true), VF.eq (.bool true), VF.eq (.bool true), VF.eq (.pointer (some ⟨gz, 1, none⟩)), VF.eq (.int .i64 q1.hi), VF.eq (.pointer (some ⟨gz, 0, none⟩)), VF.eq (.int .i64 q1.lo), VF.eq (.int .i64 (q1.hi - q1.lo)), VF.eq (.bool true), VF.eq (.bool true), VF.eq (.bool true), VF.eq (.int .i64 0), VF.eq (.bool true), VF.eq (.bool true), VF.eq (.bool true), VF.eq (.int .i64 0), VF.eq (.bool true), VF.eq (.bool true), VF.eq (.bool true), VF.eq (.int .i64 (-324000000000)), VF.eq (.bool true), VF.eq (.bool true), VF.eq (.bool true)] : List VF).getD z_ VF.any) I (fun hc => ⟨?_, ?_, ?_, ?_, ?_, ?_, ?_, ?_, ?_, ?_, ?_, ?_, ?_, ?_, ?_, ?_, ?_, ?_, ?_, ?_, ?_, ?_, ?_, ?_, ?_, ?_, ?_, ?_, ?_, ?_, ?_, ?_, ?_, ?_, ?_, ?_, ?_, ?_, ?_, ?_, ?_, ?_, ?_, ?_, ?_, ?_, ?_, ?_, ?_, ?_, ?_, ?_, ?_, ?_, trivial⟩) (fun vs gl W hK0 hv hp => ?_)
 ·exact ob_mv hc (.inl rfl)
 ·exact ob_e2 (x := .tmp 33) (y := .const (.int .i64 0)) (a := (.int .i64 0)) (b := .int .i64 0) (u := .bool true) (some 0) none hc (hs := by intro ρ w1 h k; go_simp; first | done | omega | (simp; omega))
 ·exact ob_cp 1 hc (.inl rfl)
 ·exact ob_ld6 (x := .tmp 1) (g := gu) (f := 0) none hc rfl fun vs gs w1 c => ⟨c.own 0 0, c.own 0 1, c.own 0 2, c.own 0 3, c.own 0 4, c.own 0 5⟩
 ·exact ob_mv hc (.inl rfl)
 ·exact ob_mv hc (.inl rfl)
 ·exact ob_call (fun v => [v 4, v 5]) hc rfl fun vs gs w1 c => eqc2 (c.v 4) (eqcr (c.v 5) (calls_eq (k_iv _ _ _)))
 ·exact ob_e1 (x := .tmp 39) (a := (.agg #[.int .i64 1099511627776, .int .i64 1099511627776])) (u := .agg #[.int .i64 1099511627776, .int .i64 1099511627776, .int .i64 0, .int .i64 0, .int .i64 0, .int .i64 0]) (some 6) hc
 ·exact ob_e2 (x := .tmp 36) (y := .tmp 40) (a := (.agg #[.int .i64 1099511627776, .int .i64 1099511627776, .int .i64 0, .int .i64 0, .int .i64 0, .int .i64 0])) (b := (.agg #[.int .i64 1099511627776, .int .i64 1099511627776, .int .i64 0, .int .i64 0, .int .i64 0, .int .i64 0])) (u := .bool true) (some 3) (some 7) hc (hs := by intro ρ w1 h k; go_simp; first | done | (rw [show (10000 : Nat) = 9997 + 1 + 1 + 1 from rfl, eq_vec]; rfl))
 ·exact ob_pickT (some 2) (some 8) hc rfl
 ·exact ob_cp 9 hc (.inl rfl)
 ·exact ob_mv hc (.inl rfl)
 ·exact ob_e2 (x := .tmp 44) (y := .const (.int .i64 0)) (a := (.int .i64 0)) (b := .int .i64 0) (u := .bool true) (some 11) none hc (hs := by intro ρ w1 h k; go_simp; first | done | omega | (simp; omega))
 ·exact ob_pickT (some 10) (some 12) hc rfl
 ·exact ob_cp 13 hc (.inl rfl)
 ·exact ob_ld2 (x := .tmp 3) (g := gx) (f := 0) none hc rfl fun vs gs w1 c => ⟨c.own 1 0, c.own 1 1⟩
 ·exact ob_call (fun v => [.int .i64 0, .int .i64 0]) hc rfl fun vs gs w1 c => calls_eq (k_iv _ _ _)
 ·exact ob_e2 (x := .tmp 48) (y := .tmp 49) (a := (.agg #[.int .i64 0, .int .i64 0])) (b := (.agg #[.int .i64 0, .int .i64 0])) (u := .bool true) (some 15) (some 16) hc (hs := by intro ρ w1 h k; go_simp; first | done | (rw [show (10000 : Nat) = 9998 + 1 + 1 from rfl, eq_iv]; rfl))
 ·exact ob_pickT (some 14) (some 17) hc rfl
 ·exact ob_cp 18 hc (.inl rfl)
 ·exact ob_ld2 (x := .tmp 4) (g := gy) (f := 0) none hc rfl fun vs gs w1 c => ⟨c.own 2 0, c.own 2 1⟩
 ·exact ob_call (fun v => [.int .i64 0, .int .i64 0]) hc rfl fun vs gs w1 c => calls_eq (k_iv _ _ _)
 ·exact ob_e2 (x := .tmp 53) (y := .tmp 54) (a := (.agg #[.int .i64 0, .int .i64 0])) (b := (.agg #[.int .i64 0, .int .i64 0])) (u := .bool true) (some 20) (some 21) hc (hs := by intro ρ w1 h k; go_simp; first | done | (rw [show (10000 : Nat) = 9998 + 1 + 1 from rfl, eq_iv]; rfl))
 ·exact ob_pickT (some 19) (some 22) hc rfl
 ·exact ob_cp 23 hc (.inl rfl)
 ·exact ob_mv hc (.inl rfl)
 ·exact ob_e2 (x := .tmp 58) (y := .const (.int .i64 0)) (a := (.int .i64 0)) (b := .int .i64 0) (u := .bool true) (some 25) none hc (hs := by intro ρ w1 h k; go_simp; first | done | omega | (simp; omega))
 ·exact ob_pickT (some 24) (some 26) hc rfl
 ·exact ob_cp 27 hc (.inl rfl)
 ·exact ob_ld2 (x := .tmp 6) (g := gz) (f := 0) none hc rfl fun vs gs w1 c => ⟨c.own 3 0, c.own 3 1⟩
 ·exact ob_mv hc (.inl rfl)
 ·exact ob_call (fun v => [v 29, v 30]) hc rfl fun vs gs w1 c => eqc2 (c.v 29) (eqcr (c.v 30) (calls_eq (k_has _ _ _ _ hq1 hq2)))
 ·exact ob_pickT (some 28) (some 31) hc rfl
 ·exact ob_cp 32 hc (.inl rfl)
 ·exact ob_e1 (x := .tmp 6) (a := .pointer (some ⟨gz, 0, none⟩)) (u := .pointer (some ⟨gz, 1, none⟩)) none hc
 ·exact ob_ld (x := .tmp 67) (g := gz) (f := 1) (u := .int .i64 q1.hi) (some 34) hc fun vs gs w1 c => c.own 3 1
 ·exact ob_e1 (x := .tmp 6) (a := .pointer (some ⟨gz, 0, none⟩)) (u := .pointer (some ⟨gz, 0, none⟩)) none hc
 ·exact ob_ld (x := .tmp 69) (g := gz) (f := 0) (u := .int .i64 q1.lo) (some 36) hc fun vs gs w1 c => c.own 3 0
 ·exact ob_e2 (x := .tmp 68) (y := .tmp 70) (a := (.int .i64 q1.hi)) (b := (.int .i64 q1.lo)) (u := .int .i64 (q1.hi - q1.lo)) (some 35) (some 37) hc (hs := by intro ρ w1 h k; go_simp; first | done | (simp only [IntKind.wrap_i64]; omega))
 ·exact ob_e2 (x := .tmp 71) (y := .const (.int .i64 100)) (a := (.int .i64 (q1.hi - q1.lo))) (b := .int .i64 100) (u := .bool true) (some 38) none hc (hs := by intro ρ w1 h k; go_simp; first | done | omega | (simp; omega))
 ·exact ob_pickT (some 33) (some 39) hc rfl
 ·exact ob_cp 40 hc (.inl rfl)
 ·exact ob_mv hc (.inl rfl)
 ·exact ob_e2 (x := .tmp 75) (y := .const (.int .i64 0)) (a := (.int .i64 0)) (b := .int .i64 0) (u := .bool true) (some 42) none hc (hs := by intro ρ w1 h k; go_simp; first | done | omega | (simp; omega))
 ·exact ob_pickT (some 41) (some 43) hc rfl
 ·exact ob_cp 44 hc (.inl rfl)
 ·exact ob_mv hc (.inl rfl)
 ·exact ob_e2 (x := .tmp 79) (y := .const (.int .i64 0)) (a := (.int .i64 0)) (b := .int .i64 0) (u := .bool true) (some 46) none hc (hs := by intro ρ w1 h k; go_simp; first | done | omega | (simp; omega))
 ·exact ob_pickT (some 45) (some 47) hc rfl
 ·exact ob_cp 48 hc (.inl rfl)
 ·exact ob_mv hc (.inl rfl)
 ·exact ob_e2 (x := .tmp 83) (y := .const (.int .i64 (-324000000000))) (a := (.int .i64 (-324000000000))) (b := .int .i64 (-324000000000)) (u := .bool true) (some 50) none hc (hs := by intro ρ w1 h k; go_simp; first | done | omega | (simp; omega))
 ·exact ob_pickT (some 49) (some 51) hc rfl
 ·exact ob_cp 52 hc (.inr rfl)
 have v53 : vs 53 = .bool true := hv 53 (by decide)
 simp only [putS, Nat.reduceAdd, Act.put, List.setIfInBounds_toArray, List.set_cons_zero, List.set_cons_succ, v53]
 simp only [kb_] at hK0
 replace I := hK0
 clear hK0 hv hp gl v53
 have hE := I.e
 clear I
 go_wp2_with fail
 go_ret
 exact ⟨rfl, hE⟩
theorem law_sphereNames (w : World) : Calls Tryz.prog 3 #[] w fun e w' => e = .returned (.bool true) ∧ Ext w w' := by
 have I : KBd w [] w := ⟨Ext.refl w, trivial, by simp, by simp⟩
 go_enter Tryz.func3, Tryz.ntmps3
 go_upto_region 1 with fail
 refine wp_regB [] [⟨4, some 5, BF.own [.bool false, .slice none 0 0, .bool false, .slice none 0 0], (BF.pat 1 2)⟩] (fun z_ => ([(VF.pair 1 2).err 0, (VF.pair 1 2).err 0, VF.pair (1) (2), VF.eq (.int .i64 (0)), VF.any, VF.any, VF.eq (.int .i64 (0))] : List VF).getD z_ VF.any) I (fun hc => ⟨?_, ?_, ?_, ?_, ?_, ?_, ?_, trivial⟩) (fun vs gl W hK0 hv hp => ?_)
 ·exact ob_call (fun v => [.int .i64 1, .int .i64 2]) hc rfl fun vs gs w1 c => k_of 1 2 1 2 _ (by decide) (by decide) (by decide) (by decide) c_4 c_4
 ·exact ob_cp 0 hc (.inl rfl)
 ·exact ob_ext0 1 hc rfl
 ·exact ob_ext1 1 hc rfl
 ·exact ob_new (n := 0) [.bool false, .slice none 0 0, .bool false, .slice none 0 0] 26 rfl hc rfl rfl rfl
 ·exact ob_putP (n := 0) rfl 2 hc rfl 0 (h4 := fun _ _ h => own_bx4 h)
 ·exact ob_cp 3 hc (.inr rfl)
 have p0 : vs 4 = .pointer (some ⟨gl 0, 0, none⟩) := hp 0 _ rfl
 have v6 : vs 6 = .int .i64 0 := hv 6 (by decide)
 simp only [putS, Nat.reduceAdd, Act.put, List.setIfInBounds_toArray, List.set_cons_zero, List.set_cons_succ, p0, v6]
 obtain ⟨g1, e90⟩ : ∃ n, gl 0 = n := ⟨_, rfl⟩
 simp only [kb_, e90] at hK0
 rw [e90]
 replace I := hK0
 clear hK0 hv hp gl p0 v6 e90
 go_upto_region 2 with fail
 refine wp_regB [] [⟨4, some 5, BF.own [.bool false, .slice none 0 0, .bool false, .slice none 0 0], (BF.pat 1099511627776 1)⟩] (fun z_ => ([(VF.pair 1099511627776 1).err 0, (VF.pair 1099511627776 1).err 0, VF.pair (1099511627776) (1), VF.eq (.int .i64 (0)), VF.any, VF.any, VF.eq (.int .i64 (0))] : List VF).getD z_ VF.any) I (fun hc => ⟨?_, ?_, ?_, ?_, ?_, ?_, ?_, trivial⟩) (fun vs gl W hK0 hv hp => ?_)
 ·exact ob_call (fun v => [.int .i64 1099511627776, .int .i64 1]) hc rfl fun vs gs w1 c => k_of 1099511627776 1 1099511627776 1 _ (by decide) (by decide) (by decide) (by decide) c_4 c_4
 ·exact ob_cp 0 hc (.inl rfl)
 ·exact ob_ext0 1 hc rfl
 ·exact ob_ext1 1 hc rfl
 ·exact ob_new (n := 1) [.bool false, .slice none 0 0, .bool false, .slice none 0 0] 26 rfl hc rfl rfl rfl
 ·exact ob_putP (n := 1) rfl 2 hc rfl 0 (h4 := fun _ _ h => own_bx4 h)
 ·exact ob_cp 3 hc (.inr rfl)
 have p0 : vs 4 = .pointer (some ⟨gl 0, 0, none⟩) := hp 0 _ rfl
 have v6 : vs 6 = .int .i64 0 := hv 6 (by decide)
 simp only [putS, Nat.reduceAdd, Act.put, List.setIfInBounds_toArray, List.set_cons_zero, List.set_cons_succ, p0, v6]
 obtain ⟨g3, e90⟩ : ∃ n, gl 0 = n := ⟨_, rfl⟩
 simp only [kb_, e90] at hK0
 rw [e90]
 replace I := hK0
 clear hK0 hv hp gl p0 v6 e90
 go_upto_region 3 with fail
 refine wp_regB [] [⟨0, none, BF.own [.int .i64 0, .int .i64 0, .int .i64 0, .int .i64 0, .int .i64 0, .int .i64 0], BF.own [.int .i64 0, .int .i64 0, .int .i64 0, .int .i64 0, .int .i64 0, .int .i64 0]⟩, ⟨1, none, BF.own [.int .i64 0, .int .i64 0, .int .i64 0, .int .i64 0, .int .i64 0, .int .i64 0], BF.own [.int .i64 0, .int .i64 0, .int .i64 0, .int .i64 0, .int .i64 0, .int .i64 0]⟩] (fun z_ => ([] : List VF).getD z_ VF.any) I (fun hc => ⟨?_, ?_, trivial⟩) (fun vs gl W hK0 hv hp => ?_)
 ·exact ob_new (n := 2) [.int .i64 0, .int .i64 0, .int .i64 0, .int .i64 0, .int .i64 0, .int .i64 0] 32 rfl hc rfl rfl rfl
 ·exact ob_new (n := 3) [.int .i64 0, .int .i64 0, .int .i64 0, .int .i64 0, .int .i64 0, .int .i64 0] 32 rfl hc rfl rfl rfl
 have p0 : vs 0 = .pointer (some ⟨gl 0, 0, none⟩) := hp 0 _ rfl
 have p1 : vs 1 = .pointer (some ⟨gl 1, 0, none⟩) := hp 1 _ rfl
 simp only [putS, Nat.reduceAdd, Act.put, List.setIfInBounds_toArray, List.set_cons_zero, List.set_cons_succ, p0, p1]
 obtain ⟨g5, e90⟩ : ∃ n, gl 0 = n := ⟨_, rfl⟩
 obtain ⟨g6, e91⟩ : ∃ n, gl 1 = n := ⟨_, rfl⟩
 simp only [kb_, e90, e91] at hK0
 rw [e90, e91]
 replace I := hK0
 clear hK0 hv hp gl p0 p1 e90 e91
 go_upto_region 4 with fail
 refine wp_regB [[], [], [], [(2, BF.own [.int .i64 0, .int .i64 0, .int .i64 1, .int .i64 0, .int .i64 0, .int .i64 0])]] [] (fun z_ => ([VF.eq (.agg #[.int .i64 1, .int .i64 0]), VF.eq (.pointer (some ⟨g6, 2, none⟩))] : List VF).getD z_ VF.any) I (fun hc => ⟨?_, ?_, ?_, trivial⟩) (fun vs gl W hK0 hv hp => ?_)
 ·exact ob_call (fun v => [.int .i64 1, .int .i64 0]) hc rfl fun vs gs w1 c => calls_eq (k_iv _ _ _)
 ·exact ob_e2 (x := .tmp 6) (y := .const (.int .i64 1)) (a := .pointer (some ⟨g6, 0, none⟩)) (b := .int .i64 1) (u := .pointer (some ⟨g6, 2, none⟩)) none none hc
 ·exact ob_put2 (n := 3) (hy := ⟨some 1, fun _ => by kernel_rfl, rfl, by kernel_rfl⟩) 2 rfl (some 0) hc rfl
 simp only [putS, Nat.reduceAdd, Act.put, List.setIfInBounds_toArray, List.set_cons_zero, List.set_cons_succ]
 simp only [kb_] at hK0
 replace I := hK0
 clear hK0 hv hp gl
 go_upto_region 5 with fail
 refine wp_regB [] [⟨4, some 5, BF.own [.int .i64 0, .int .i64 0, .int .i64 0, .int .i64 0, .int .i64 0, .int .i64 0], (BF.own [.int .i64 0, .int .i64 0, .int .i64 0, .int .i64 0, .int .i64 0, .int .i64 0])⟩] (fun z_ => ([VF.eq (.tuple #[.agg #[.int .i64 0, .int .i64 0, .int .i64 0, .int .i64 0, .int .i64 0, .int .i64 0], .int .i64 2]), VF.eq (.tuple #[.agg #[.int .i64 0, .int .i64 0, .int .i64 0, .int .i64 0, .int .i64 0, .int .i64 0], .int .i64 2]), VF.eq (.agg #[.int .i64 0, .int .i64 0, .int .i64 0, .int .i64 0, .int .i64 0, .int .i64 0]), VF.eq (.int .i64 2), VF.any, VF.any, VF.eq (.int .i64 2)] : List VF).getD z_ VF.any) I (fun hc => ⟨?_, ?_, ?_, ?_, ?_, ?_, ?_, trivial⟩) (fun vs gl W hK0 hv hp => ?_)
 ·exact ob_call (fun v => [.int .i64 0, .int .i64 324000000001]) hc rfl fun vs gs w1 c => calls_eq (p_UnitBad 0 324000000001 _ (.inr (by decide)))
 ·exact ob_cp 0 hc (.inl rfl)
 ·exact ob_e1 (x := .tmp 59) (a := (.tuple #[.agg #[.int .i64 0, .int .i64 0, .int .i64 0, .int .i64 0, .int .i64 0, .int .i64 0], .int .i64 2])) (u := .agg #[.int .i64 0, .int .i64 0, .int .i64 0, .int .i64 0, .int .i64 0, .int .i64 0]) (some 1) hc
 ·exact ob_e1 (x := .tmp 59) (a := (.tuple #[.agg #[.int .i64 0, .int .i64 0, .int .i64 0, .int .i64 0, .int .i64 0, .int .i64 0], .int .i64 2])) (u := .int .i64 2) (some 1) hc
 ·exact ob_new (n := 4) [.int .i64 0, .int .i64 0, .int .i64 0, .int .i64 0, .int .i64 0, .int .i64 0] 32 rfl hc rfl rfl rfl
 ·exact ob_putV (n := 4) rfl (some 2) hc rfl rfl
 ·exact ob_cp 3 hc (.inr rfl)
 have p0 : vs 4 = .pointer (some ⟨gl 0, 0, none⟩) := hp 0 _ rfl
 have v6 : vs 6 = .int .i64 2 := hv 6 (by decide)
 simp only [putS, Nat.reduceAdd, Act.put, List.setIfInBounds_toArray, List.set_cons_zero, List.set_cons_succ, p0, v6]
 obtain ⟨g7, e90⟩ : ∃ n, gl 0 = n := ⟨_, rfl⟩
 simp only [kb_, e90] at hK0
 rw [e90]
 replace I := hK0
 clear hK0 hv hp gl p0 v6 e90
 go_upto_region 6 with fail
 refine wp_regB [] [⟨5, some 7, BF.own [.int .i64 0, .int .i64 0], (BF.own [.int .i64 0, .int .i64 0])⟩, ⟨6, some 8, BF.own [.int .i64 0, .int .i64 0], (BF.own [.int .i64 0, .int .i64 0])⟩] (fun z_ => ([VF.eq (.tuple #[.agg #[.int .i64 0, .int .i64 0], .agg #[.int .i64 0, .int .i64 0], .int .i64 16]), VF.eq (.tuple #[.agg #[.int .i64 0, .int .i64 0], .agg #[.int .i64 0, .int .i64 0], .int .i64 16]), VF.eq (.agg #[.int .i64 0, .int .i64 0]), VF.eq (.agg #[.int .i64 0, .int .i64 0]), VF.eq (.int .i64 16), VF.any, VF.any, VF.any, VF.any, VF.eq (.int .i64 16)] : List VF).getD z_ VF.any) I (fun hc => ⟨?_, ?_, ?_, ?_, ?_, ?_, ?_, ?_, ?_, ?_, trivial⟩) (fun vs gl W hK0 hv hp => ?_)
 ·exact ob_call (fun v => [.int .i64 0, .int .i64 0, .int .i64 324000000000, .int .i64 0]) hc rfl fun vs gs w1 c => calls_eq (k_projR _)
 ·exact ob_cp 0 hc (.inl rfl)
 ·exact T_SPZ_2
 ·exact T_SPZ_2
 ·exact ob_e1 (x := .tmp 63) (a := (.tuple #[.agg #[.int .i64 0, .int .i64 0], .agg #[.int .i64 0, .int .i64 0], .int .i64 16])) (u := .int .i64 16) (some 1) hc
 ·exact ob_new (n := 5) [.int .i64 0, .int .i64 0] 30 rfl hc rfl rfl rfl
 ·exact ob_new (n := 6) [.int .i64 0, .int .i64 0] 30 rfl hc rfl rfl rfl
 ·exact ob_put2 (n := 5) 0 rfl (some 2) hc rfl
 ·exact ob_put2 (n := 6) 0 rfl (some 3) hc rfl
 ·exact ob_cp 4 hc (.inr rfl)
 have p0 : vs 5 = .pointer (some ⟨gl 0, 0, none⟩) := hp 0 _ rfl
 have p1 : vs 6 = .pointer (some ⟨gl 1, 0, none⟩) := hp 1 _ rfl
 have v9 : vs 9 = .int .i64 16 := hv 9 (by decide)
 simp only [putS, Nat.reduceAdd, Act.put, List.setIfInBounds_toArray, List.set_cons_zero, List.set_cons_succ, p0, p1, v9]
 obtain ⟨g9, e90⟩ : ∃ n, gl 0 = n := ⟨_, rfl⟩
 obtain ⟨g10, e91⟩ : ∃ n, gl 1 = n := ⟨_, rfl⟩
 simp only [kb_, e90, e91] at hK0
 rw [e90, e91]
 replace I := hK0
 clear hK0 hv hp gl p0 p1 v9 e90 e91
 go_upto_region 7 with fail
 refine wp_regB [] [⟨5, some 7, BF.own [.int .i64 0, .int .i64 0], (BF.own [.int .i64 0, .int .i64 0])⟩, ⟨6, some 8, BF.own [.int .i64 0, .int .i64 0], (BF.own [.int .i64 0, .int .i64 0])⟩] (fun z_ => ([VF.eq (.tuple #[.agg #[.int .i64 0, .int .i64 0], .agg #[.int .i64 0, .int .i64 0], .int .i64 2]), VF.eq (.tuple #[.agg #[.int .i64 0, .int .i64 0], .agg #[.int .i64 0, .int .i64 0], .int .i64 2]), VF.eq (.agg #[.int .i64 0, .int .i64 0]), VF.eq (.agg #[.int .i64 0, .int .i64 0]), VF.eq (.int .i64 2), VF.any, VF.any, VF.any, VF.any, VF.eq (.int .i64 2)] : List VF).getD z_ VF.any) I (fun hc => ⟨?_, ?_, ?_, ?_, ?_, ?_, ?_, ?_, ?_, ?_, trivial⟩) (fun vs gl W hK0 hv hp => ?_)
 ·exact ob_call (fun v => [.int .i64 0, .int .i64 0, .int .i64 0, .int .i64 (-324000000001)]) hc rfl fun vs gs w1 c => calls_eq (k_projA _)
 ·exact ob_cp 0 hc (.inl rfl)
 ·exact T_SPZ_4
 ·exact T_SPZ_4
 ·exact ob_e1 (x := .tmp 68) (a := (.tuple #[.agg #[.int .i64 0, .int .i64 0], .agg #[.int .i64 0, .int .i64 0], .int .i64 2])) (u := .int .i64 2) (some 1) hc
 ·exact b_25
 ·exact ob_new (n := 8) [.int .i64 0, .int .i64 0] 30 rfl hc rfl rfl rfl
 ·exact ob_put2 (n := 7) 0 rfl (some 2) hc rfl
 ·exact ob_put2 (n := 8) 0 rfl (some 3) hc rfl
 ·exact ob_cp 4 hc (.inr rfl)
 have p0 : vs 5 = .pointer (some ⟨gl 0, 0, none⟩) := hp 0 _ rfl
 have p1 : vs 6 = .pointer (some ⟨gl 1, 0, none⟩) := hp 1 _ rfl
 have v9 : vs 9 = .int .i64 2 := hv 9 (by decide)
 simp only [putS, Nat.reduceAdd, Act.put, List.setIfInBounds_toArray, List.set_cons_zero, List.set_cons_succ, p0, p1, v9]
 obtain ⟨g12, e90⟩ : ∃ n, gl 0 = n := ⟨_, rfl⟩
 obtain ⟨g13, e91⟩ : ∃ n, gl 1 = n := ⟨_, rfl⟩
 simp only [kb_, e90, e91] at hK0
 rw [e90, e91]
 replace I := hK0
 clear hK0 hv hp gl p0 p1 v9 e90 e91
 go_upto_region 8 with fail
 refine wp_regB [] [] (fun z_ => ([VF.eq (.agg #[.int .i64 0, .int .i64 0, .int .i64 0]), VF.eq (.tuple #[.int .i64 0, .int .i64 0, .int .i64 18]), VF.eq (.tuple #[.int .i64 0, .int .i64 0, .int .i64 18]), VF.eq (.int .i64 0), VF.eq (.int .i64 0), VF.eq (.int .i64 18), VF.eq (.int .i64 0), VF.eq (.int .i64 0), VF.eq (.int .i64 18)] : List VF).getD z_ VF.any) I (fun hc => ⟨?_, ?_, ?_, ?_, ?_, ?_, ?_, ?_, ?_, trivial⟩) (fun vs gl W hK0 hv hp => ?_)
 ·exact ob_k (u := .agg #[.int .i64 0, .int .i64 0, .int .i64 0]) hc
 ·exact ob_call (fun v => [v 0]) hc rfl fun vs gs w1 c => eqc1 (c.v 0) (calls_eq (p_Dir0 _))
 ·exact ob_cp 1 hc (.inl rfl)
 ·exact ob_e1 (x := .tmp 73) (a := (.tuple #[.int .i64 0, .int .i64 0, .int .i64 18])) (u := .int .i64 0) (some 2) hc
 ·exact ob_e1 (x := .tmp 73) (a := (.tuple #[.int .i64 0, .int .i64 0, .int .i64 18])) (u := .int .i64 0) (some 2) hc
 ·exact ob_e1 (x := .tmp 73) (a := (.tuple #[.int .i64 0, .int .i64 0, .int .i64 18])) (u := .int .i64 18) (some 2) hc
 ·exact ob_cp 3 hc (.inr rfl)
 ·exact ob_cp 4 hc (.inr rfl)
 ·exact ob_cp 5 hc (.inr rfl)
 have v6 : vs 6 = .int .i64 0 := hv 6 (by decide)
 have v7 : vs 7 = .int .i64 0 := hv 7 (by decide)
 have v8 : vs 8 = .int .i64 18 := hv 8 (by decide)
 simp only [putS, Nat.reduceAdd, Act.put, List.setIfInBounds_toArray, List.set_cons_zero, List.set_cons_succ, v6, v7, v8]
 simp only [kb_] at hK0
 replace I := hK0
 clear hK0 hv hp gl v6 v7 v8
 go_upto_region 9 with fail
 refine wp_regB [] [] (fun z_ => ([VF.eq (.agg #[.int .i64 0, .int .i64 0, .int .i64 0, .int .i64 0, .int .i64 0, .int .i64 0]), VF.eq (.agg #[.int .i64 0, .int .i64 0, .int .i64 0, .int .i64 0, .int .i64 0, .int .i64 0]), VF.eq (.tuple #[.bool false, .bool false, .int .i64 2]), VF.eq (.tuple #[.bool false, .bool false, .int .i64 2]), VF.eq (.bool false), VF.eq (.bool false), VF.eq (.int .i64 2), VF.eq (.bool false), VF.eq (.bool false), VF.eq (.int .i64 2)] : List VF).getD z_ VF.any) I (fun hc => ⟨?_, ?_, ?_, ?_, ?_, ?_, ?_, ?_, ?_, ?_, trivial⟩) (fun vs gl W hK0 hv hp => ?_)
 ·exact T_SPZ_1
 ·exact T_SPZ_1
 ·exact ob_call (fun v => [v 0, v 1, .int .i64 (-1)]) hc rfl fun vs gs w1 c => eqc3 (c.v 0) (c.v 1) (calls_eq (k_winArg _))
 ·exact ob_cp 2 hc (.inl rfl)
 ·exact ob_e1 (x := .tmp 79) (a := (.tuple #[.bool false, .bool false, .int .i64 2])) (u := .bool false) (some 3) hc
 ·exact ob_e1 (x := .tmp 79) (a := (.tuple #[.bool false, .bool false, .int .i64 2])) (u := .bool false) (some 3) hc
 ·exact ob_e1 (x := .tmp 79) (a := (.tuple #[.bool false, .bool false, .int .i64 2])) (u := .int .i64 2) (some 3) hc
 ·exact ob_cp 4 hc (.inr rfl)
 ·exact ob_cp 5 hc (.inr rfl)
 ·exact ob_cp 6 hc (.inr rfl)
 have v7 : vs 7 = .bool false := hv 7 (by decide)
 have v8 : vs 8 = .bool false := hv 8 (by decide)
 have v9 : vs 9 = .int .i64 2 := hv 9 (by decide)
 simp only [putS, Nat.reduceAdd, Act.put, List.setIfInBounds_toArray, List.set_cons_zero, List.set_cons_succ, v7, v8, v9]
 simp only [kb_] at hK0
 replace I := hK0
 clear hK0 hv hp gl v7 v8 v9
 go_upto_region 10 with fail
 refine wp_regB [] [] (fun z_ => ([VF.eq (.agg #[.int .i64 0, .int .i64 0, .int .i64 0, .int .i64 0, .int .i64 0, .int .i64 0]), VF.eq (.agg #[.int .i64 0, .int .i64 0, .int .i64 0, .int .i64 0, .int .i64 0, .int .i64 0]), VF.eq (.tuple #[.bool true, .bool true, .int .i64 0]), VF.eq (.tuple #[.bool true, .bool true, .int .i64 0]), VF.eq (.bool true), VF.eq (.bool true), VF.eq (.int .i64 0), VF.eq (.bool true), VF.eq (.bool true), VF.eq (.int .i64 0)] : List VF).getD z_ VF.any) I (fun hc => ⟨?_, ?_, ?_, ?_, ?_, ?_, ?_, ?_, ?_, ?_, trivial⟩) (fun vs gl W hK0 hv hp => ?_)
 ·exact T_SPZ_1
 ·exact T_SPZ_1
 ·exact ob_call (fun v => [v 0, v 1, .int .i64 0]) hc rfl fun vs gs w1 c => eqc3 (c.v 0) (c.v 1) (calls_eq (k_win0 _))
 ·exact ob_cp 2 hc (.inl rfl)
 ·exact ob_e1 (x := .tmp 86) (a := (.tuple #[.bool true, .bool true, .int .i64 0])) (u := .bool true) (some 3) hc
 ·exact ob_e1 (x := .tmp 86) (a := (.tuple #[.bool true, .bool true, .int .i64 0])) (u := .bool true) (some 3) hc
 ·exact ob_e1 (x := .tmp 86) (a := (.tuple #[.bool true, .bool true, .int .i64 0])) (u := .int .i64 0) (some 3) hc
 ·exact ob_cp 4 hc (.inr rfl)
 ·exact ob_cp 5 hc (.inr rfl)
 ·exact ob_cp 6 hc (.inr rfl)
 have v7 : vs 7 = .bool true := hv 7 (by decide)
 have v8 : vs 8 = .bool true := hv 8 (by decide)
 have v9 : vs 9 = .int .i64 0 := hv 9 (by decide)
 simp only [putS, Nat.reduceAdd, Act.put, List.setIfInBounds_toArray, List.set_cons_zero, List.set_cons_succ, v7, v8, v9]
 simp only [kb_] at hK0
 replace I := hK0
 clear hK0 hv hp gl v7 v8 v9
 go_upto_region 11 with fail
 refine wp_regB [] [⟨6, some 7, BF.own [.int .i64 0, .int .i64 0, .int .i64 0, .int .i64 0, .int .i64 0, .int .i64 0], (BF.own [.int .i64 0, .int .i64 0, .int .i64 0, .int .i64 0, .int .i64 0, .int .i64 0])⟩] (fun z_ => ([VF.eq (.agg #[.int .i64 0, .int .i64 0, .int .i64 0, .int .i64 0, .int .i64 0, .int .i64 0]), VF.eq (.agg #[.int .i64 0, .int .i64 0, .int .i64 1, .int .i64 0, .int .i64 0, .int .i64 0]), VF.eq (.tuple #[.agg #[.int .i64 0, .int .i64 0, .int .i64 0, .int .i64 0, .int .i64 0, .int .i64 0], .int .i64 8]), VF.eq (.tuple #[.agg #[.int .i64 0, .int .i64 0, .int .i64 0, .int .i64 0, .int .i64 0, .int .i64 0], .int .i64 8]), VF.eq (.agg #[.int .i64 0, .int .i64 0, .int .i64 0, .int .i64 0, .int .i64 0, .int .i64 0]), VF.eq (.int .i64 8), VF.any, VF.any, VF.eq (.int .i64 8)] : List VF).getD z_ VF.any) I (fun hc => ⟨?_, ?_, ?_, ?_, ?_, ?_, ?_, ?_, ?_, trivial⟩) (fun vs gl W hK0 hv hp => ?_)
 ·exact T_SPZ_1
 ·exact ob_ld6 (x := .tmp 6) (g := g6) (f := 0) none hc rfl fun vs gs w1 c => ⟨c.own 3 0, c.own 3 1, c.own 3 2, c.own 3 3, c.own 3 4, c.own 3 5⟩
 ·exact ob_call (fun v => [v 0, v 1]) hc rfl fun vs gs w1 c => eqc2 (c.v 0) (eqcr (c.v 1) (calls_eq (p_AddBad ⟨0, 0, 0, 0, 0, 0⟩ ⟨0, 0, 1, 0, 0, 0⟩ _ c_4)))
 ·exact ob_cp 2 hc (.inl rfl)
 ·exact ob_e1 (x := .tmp 93) (a := (.tuple #[.agg #[.int .i64 0, .int .i64 0, .int .i64 0, .int .i64 0, .int .i64 0, .int .i64 0], .int .i64 8])) (u := .agg #[.int .i64 0, .int .i64 0, .int .i64 0, .int .i64 0, .int .i64 0, .int .i64 0]) (some 3) hc
 ·exact ob_e1 (x := .tmp 93) (a := (.tuple #[.agg #[.int .i64 0, .int .i64 0, .int .i64 0, .int .i64 0, .int .i64 0, .int .i64 0], .int .i64 8])) (u := .int .i64 8) (some 3) hc
 ·exact ob_new (n := 9) [.int .i64 0, .int .i64 0, .int .i64 0, .int .i64 0, .int .i64 0, .int .i64 0] 32 rfl hc rfl rfl rfl
 ·exact ob_putV (n := 9) rfl (some 4) hc rfl rfl
 ·exact ob_cp 5 hc (.inr rfl)
 have p0 : vs 6 = .pointer (some ⟨gl 0, 0, none⟩) := hp 0 _ rfl
 have v8 : vs 8 = .int .i64 8 := hv 8 (by decide)
 simp only [putS, Nat.reduceAdd, Act.put, List.setIfInBounds_toArray, List.set_cons_zero, List.set_cons_succ, p0, v8]
 obtain ⟨g24, e90⟩ : ∃ n, gl 0 = n := ⟨_, rfl⟩
 simp only [kb_, e90] at hK0
 rw [e90]
 replace I := hK0
 clear hK0 hv hp gl p0 v8 e90
 go_upto_region 12 with fail
 refine wp_regB [] [⟨6, some 7, BF.own [.int .i64 0, .int .i64 0], (BF.own [.int .i64 0, .int .i64 0])⟩] (fun z_ => ([VF.eq (.agg #[.int .i64 2305843009213693952, .int .i64 2305843009213693952]), VF.eq (.agg #[.int .i64 2305843009213693952, .int .i64 2305843009213693952, .int .i64 0, .int .i64 0, .int .i64 0, .int .i64 0]), VF.eq (.tuple #[.agg #[.int .i64 0, .int .i64 0], .int .i64 16]), VF.eq (.tuple #[.agg #[.int .i64 0, .int .i64 0], .int .i64 16]), VF.eq (.agg #[.int .i64 0, .int .i64 0]), VF.eq (.int .i64 16), VF.any, VF.any, VF.eq (.int .i64 16)] : List VF).getD z_ VF.any) I (fun hc => ⟨?_, ?_, ?_, ?_, ?_, ?_, ?_, ?_, ?_, trivial⟩) (fun vs gl W hK0 hv hp => ?_)
 ·exact ob_call (fun v => [.int .i64 2305843009213693952, .int .i64 2305843009213693952]) hc rfl fun vs gs w1 c => calls_eq (k_iv _ _ _)
 ·exact ob_e1 (x := .tmp 100) (a := (.agg #[.int .i64 2305843009213693952, .int .i64 2305843009213693952])) (u := .agg #[.int .i64 2305843009213693952, .int .i64 2305843009213693952, .int .i64 0, .int .i64 0, .int .i64 0, .int .i64 0]) (some 0) hc
 ·exact ob_call (fun v => [v 1]) hc rfl fun vs gs w1 c => eqc1 (c.v 1) (calls_eq (k_nrmX _))
 ·exact ob_cp 2 hc (.inl rfl)
 ·exact ob_e1 (x := .tmp 99) (a := (.tuple #[.agg #[.int .i64 0, .int .i64 0], .int .i64 16])) (u := .agg #[.int .i64 0, .int .i64 0]) (some 3) hc
 ·exact ob_e1 (x := .tmp 99) (a := (.tuple #[.agg #[.int .i64 0, .int .i64 0], .int .i64 16])) (u := .int .i64 16) (some 3) hc
 ·exact ob_new (n := 10) [.int .i64 0, .int .i64 0] 30 rfl hc rfl rfl rfl
 ·exact ob_put2 (n := 10) 0 rfl (some 4) hc rfl
 ·exact ob_cp 5 hc (.inr rfl)
 have p0 : vs 6 = .pointer (some ⟨gl 0, 0, none⟩) := hp 0 _ rfl
 have v8 : vs 8 = .int .i64 16 := hv 8 (by decide)
 simp only [putS, Nat.reduceAdd, Act.put, List.setIfInBounds_toArray, List.set_cons_zero, List.set_cons_succ, p0, v8]
 obtain ⟨g26, e90⟩ : ∃ n, gl 0 = n := ⟨_, rfl⟩
 simp only [kb_, e90] at hK0
 rw [e90]
 replace I := hK0
 clear hK0 hv hp gl p0 v8 e90
 go_upto_region 13 with fail
 refine wp_regB [] [] (fun z_ => ([VF.pair (1099511627776) (1), VF.pair (1) (2), VF.eq (.tuple #[.int .i64 0, .int .i64 0, .int .i64 16]), VF.eq (.tuple #[.int .i64 0, .int .i64 0, .int .i64 16]), VF.eq (.int .i64 0), VF.eq (.int .i64 0), VF.eq (.int .i64 16), VF.eq (.int .i64 0), VF.eq (.int .i64 0), VF.eq (.int .i64 16)] : List VF).getD z_ VF.any) I (fun hc => ⟨?_, ?_, ?_, ?_, ?_, ?_, ?_, ?_, ?_, ?_, trivial⟩) (fun vs gl W hK0 hv hp => ?_)
 ·exact ob_getPP g3 (1099511627776) (1) hc rfl fun vs gs w1 c => c.b0 1
 ·exact b_34
 ·exact ob_call (fun v => [v 0, v 1, .int .i64 0, .int .i64 0]) hc rfl fun vs gs w1 c => calls_eq (k_LiftBig (c.v 0) (c.v 1))
 ·exact ob_cp 2 hc (.inl rfl)
 ·exact ob_e1 (x := .tmp 105) (a := (.tuple #[.int .i64 0, .int .i64 0, .int .i64 16])) (u := .int .i64 0) (some 3) hc
 ·exact ob_e1 (x := .tmp 105) (a := (.tuple #[.int .i64 0, .int .i64 0, .int .i64 16])) (u := .int .i64 0) (some 3) hc
 ·exact ob_e1 (x := .tmp 105) (a := (.tuple #[.int .i64 0, .int .i64 0, .int .i64 16])) (u := .int .i64 16) (some 3) hc
 ·exact ob_cp 4 hc (.inr rfl)
 ·exact ob_cp 5 hc (.inr rfl)
 ·exact ob_cp 6 hc (.inr rfl)
 have v7 : vs 7 = .int .i64 0 := hv 7 (by decide)
 have v8 : vs 8 = .int .i64 0 := hv 8 (by decide)
 have v9 : vs 9 = .int .i64 16 := hv 9 (by decide)
 simp only [putS, Nat.reduceAdd, Act.put, List.setIfInBounds_toArray, List.set_cons_zero, List.set_cons_succ, v7, v8, v9]
 simp only [kb_] at hK0
 replace I := hK0
 clear hK0 hv hp gl v7 v8 v9
 go_upto_region 14 with fail
 refine wp_regB [] [] (fun z_ => ([VF.pair (1) (2), VF.pair (1) (2), VF.eq (.tuple #[.int .i64 0, .int .i64 0, .int .i64 2]), VF.eq (.tuple #[.int .i64 0, .int .i64 0, .int .i64 2]), VF.eq (.int .i64 0), VF.eq (.int .i64 0), VF.eq (.int .i64 2), VF.eq (.int .i64 0), VF.eq (.int .i64 0), VF.eq (.int .i64 2)] : List VF).getD z_ VF.any) I (fun hc => ⟨?_, ?_, ?_, ?_, ?_, ?_, ?_, ?_, ?_, ?_, trivial⟩) (fun vs gl W hK0 hv hp => ?_)
 ·exact b_34
 ·exact b_34
 ·exact ob_call (fun v => [v 0, v 1, .int .i64 0, .int .i64 324000000001]) hc rfl fun vs gs w1 c => calls_eq (k_LiftArg (c.v 0) (c.v 1))
 ·exact ob_cp 2 hc (.inl rfl)
 ·exact ob_e1 (x := .tmp 112) (a := (.tuple #[.int .i64 0, .int .i64 0, .int .i64 2])) (u := .int .i64 0) (some 3) hc
 ·exact ob_e1 (x := .tmp 112) (a := (.tuple #[.int .i64 0, .int .i64 0, .int .i64 2])) (u := .int .i64 0) (some 3) hc
 ·exact ob_e1 (x := .tmp 112) (a := (.tuple #[.int .i64 0, .int .i64 0, .int .i64 2])) (u := .int .i64 2) (some 3) hc
 ·exact ob_cp 4 hc (.inr rfl)
 ·exact ob_cp 5 hc (.inr rfl)
 ·exact ob_cp 6 hc (.inr rfl)
 have v7 : vs 7 = .int .i64 0 := hv 7 (by decide)
 have v8 : vs 8 = .int .i64 0 := hv 8 (by decide)
 have v9 : vs 9 = .int .i64 2 := hv 9 (by decide)
 simp only [putS, Nat.reduceAdd, Act.put, List.setIfInBounds_toArray, List.set_cons_zero, List.set_cons_succ, v7, v8, v9]
 simp only [kb_] at hK0
 replace I := hK0
 clear hK0 hv hp gl v7 v8 v9
 go_upto_region 15 with fail
 refine wp_regB [] [] (fun z_ => ([VF.eq (.agg #[.bool false, .slice none 0 0, .bool false, .slice none 0 0]), VF.pair (1) (2), VF.eq (.tuple #[.int .i64 0, .int .i64 0, .int .i64 8]), VF.eq (.tuple #[.int .i64 0, .int .i64 0, .int .i64 8]), VF.eq (.int .i64 0), VF.eq (.int .i64 0), VF.eq (.int .i64 8), VF.eq (.int .i64 0), VF.eq (.int .i64 0), VF.eq (.int .i64 8)] : List VF).getD z_ VF.any) I (fun hc => ⟨?_, ?_, ?_, ?_, ?_, ?_, ?_, ?_, ?_, ?_, trivial⟩) (fun vs gl W hK0 hv hp => ?_)
 ·exact ob_k (u := .agg #[.bool false, .slice none 0 0, .bool false, .slice none 0 0]) hc
 ·exact b_34
 ·exact ob_call (fun v => [v 0, v 1, .int .i64 0, .int .i64 0]) hc rfl fun vs gs w1 c => calls_eq (k_Lift0 (c.v 0) (c.v 1))
 ·exact ob_cp 2 hc (.inl rfl)
 ·exact ob_e1 (x := .tmp 119) (a := (.tuple #[.int .i64 0, .int .i64 0, .int .i64 8])) (u := .int .i64 0) (some 3) hc
 ·exact ob_e1 (x := .tmp 119) (a := (.tuple #[.int .i64 0, .int .i64 0, .int .i64 8])) (u := .int .i64 0) (some 3) hc
 ·exact ob_e1 (x := .tmp 119) (a := (.tuple #[.int .i64 0, .int .i64 0, .int .i64 8])) (u := .int .i64 8) (some 3) hc
 ·exact ob_cp 4 hc (.inr rfl)
 ·exact ob_cp 5 hc (.inr rfl)
 ·exact ob_cp 6 hc (.inr rfl)
 have v7 : vs 7 = .int .i64 0 := hv 7 (by decide)
 have v8 : vs 8 = .int .i64 0 := hv 8 (by decide)
 have v9 : vs 9 = .int .i64 8 := hv 9 (by decide)
 simp only [putS, Nat.reduceAdd, Act.put, List.setIfInBounds_toArray, List.set_cons_zero, List.set_cons_succ, v7, v8, v9]
 simp only [kb_] at hK0
 replace I := hK0
 clear hK0 hv hp gl v7 v8 v9
 go_upto_region 16 with fail
 refine wp_regB [] [⟨2, some 3, BF.own [.int .i64 0, .int .i64 0, .int .i64 0, .int .i64 0, .int .i64 0, .int .i64 0], (BF.own [.int .i64 1099511627776, .int .i64 1099511627776, .int .i64 0, .int .i64 0, .int .i64 0, .int .i64 0])⟩] (fun z_ => ([VF.eq (.agg #[.int .i64 1099511627776, .int .i64 1099511627776]), VF.eq (.agg #[.int .i64 1099511627776, .int .i64 1099511627776, .int .i64 0, .int .i64 0, .int .i64 0, .int .i64 0])] : List VF).getD z_ VF.any) I (fun hc => ⟨?_, ?_, ?_, ?_, trivial⟩) (fun vs gl W hK0 hv hp => ?_)
 ·exact T_SPZ_7
 ·exact ob_e1 (x := .tmp 126) (a := (.agg #[.int .i64 1099511627776, .int .i64 1099511627776])) (u := .agg #[.int .i64 1099511627776, .int .i64 1099511627776, .int .i64 0, .int .i64 0, .int .i64 0, .int .i64 0]) (some 0) hc
 ·exact ob_new (n := 11) [.int .i64 0, .int .i64 0, .int .i64 0, .int .i64 0, .int .i64 0, .int .i64 0] 32 rfl hc rfl rfl rfl
 ·exact ob_putV (n := 11) rfl (some 1) hc rfl rfl
 have p0 : vs 2 = .pointer (some ⟨gl 0, 0, none⟩) := hp 0 _ rfl
 simp only [putS, Nat.reduceAdd, Act.put, List.setIfInBounds_toArray, List.set_cons_zero, List.set_cons_succ, p0]
 obtain ⟨g37, e90⟩ : ∃ n, gl 0 = n := ⟨_, rfl⟩
 simp only [kb_, e90] at hK0
 rw [e90]
 replace I := hK0
 clear hK0 hv hp gl p0 e90
 go_upto_region 17 with fail
 refine wp_regB [] [] (fun z_ => ([VF.eq (.agg #[.int .i64 0, .int .i64 0, .int .i64 0, .int .i64 0, .int .i64 0, .int .i64 0]), VF.eq (.agg #[.int .i64 1099511627776, .int .i64 1099511627776, .int .i64 0, .int .i64 0, .int .i64 0, .int .i64 0]), VF.eq (.tuple #[.bool false, .bool false, .int .i64 0]), VF.eq (.tuple #[.bool false, .bool false, .int .i64 0]), VF.eq (.bool false), VF.eq (.bool false), VF.eq (.int .i64 0), VF.eq (.bool false), VF.eq (.bool false), VF.eq (.int .i64 0)] : List VF).getD z_ VF.any) I (fun hc => ⟨?_, ?_, ?_, ?_, ?_, ?_, ?_, ?_, ?_, ?_, trivial⟩) (fun vs gl W hK0 hv hp => ?_)
 ·exact T_SPZ_1
 ·exact T_SPZ_5
 ·exact ob_call (fun v => [v 0, v 1, .int .i64 107999999999]) hc rfl fun vs gs w1 c => eqc3 (c.v 0) (c.v 1) (calls_eq (k_win1 _))
 ·exact ob_cp 2 hc (.inl rfl)
 ·exact ob_e1 (x := .tmp 128) (a := (.tuple #[.bool false, .bool false, .int .i64 0])) (u := .bool false) (some 3) hc
 ·exact ob_e1 (x := .tmp 128) (a := (.tuple #[.bool false, .bool false, .int .i64 0])) (u := .bool false) (some 3) hc
 ·exact ob_e1 (x := .tmp 128) (a := (.tuple #[.bool false, .bool false, .int .i64 0])) (u := .int .i64 0) (some 3) hc
 ·exact ob_cp 4 hc (.inr rfl)
 ·exact ob_cp 5 hc (.inr rfl)
 ·exact ob_cp 6 hc (.inr rfl)
 have v7 : vs 7 = .bool false := hv 7 (by decide)
 have v8 : vs 8 = .bool false := hv 8 (by decide)
 have v9 : vs 9 = .int .i64 0 := hv 9 (by decide)
 simp only [putS, Nat.reduceAdd, Act.put, List.setIfInBounds_toArray, List.set_cons_zero, List.set_cons_succ, v7, v8, v9]
 simp only [kb_] at hK0
 replace I := hK0
 clear hK0 hv hp gl v7 v8 v9
 go_upto_region 18 with fail
 refine wp_regB [] [] (fun z_ => ([VF.eq (.agg #[.int .i64 0, .int .i64 0, .int .i64 0, .int .i64 0, .int .i64 0, .int .i64 0]), VF.eq (.agg #[.int .i64 1099511627776, .int .i64 1099511627776, .int .i64 0, .int .i64 0, .int .i64 0, .int .i64 0]), VF.eq (.tuple #[.bool true, .bool true, .int .i64 0]), VF.eq (.tuple #[.bool true, .bool true, .int .i64 0]), VF.eq (.bool true), VF.eq (.bool true), VF.eq (.int .i64 0), VF.eq (.bool true), VF.eq (.bool true), VF.eq (.int .i64 0)] : List VF).getD z_ VF.any) I (fun hc => ⟨?_, ?_, ?_, ?_, ?_, ?_, ?_, ?_, ?_, ?_, trivial⟩) (fun vs gl W hK0 hv hp => ?_)
 ·exact T_SPZ_1
 ·exact T_SPZ_5
 ·exact ob_call (fun v => [v 0, v 1, .int .i64 108000000000]) hc rfl fun vs gs w1 c => eqc3 (c.v 0) (c.v 1) (calls_eq (k_win2 _))
 ·exact ob_cp 2 hc (.inl rfl)
 ·exact ob_e1 (x := .tmp 135) (a := (.tuple #[.bool true, .bool true, .int .i64 0])) (u := .bool true) (some 3) hc
 ·exact ob_e1 (x := .tmp 135) (a := (.tuple #[.bool true, .bool true, .int .i64 0])) (u := .bool true) (some 3) hc
 ·exact ob_e1 (x := .tmp 135) (a := (.tuple #[.bool true, .bool true, .int .i64 0])) (u := .int .i64 0) (some 3) hc
 ·exact ob_cp 4 hc (.inr rfl)
 ·exact ob_cp 5 hc (.inr rfl)
 ·exact ob_cp 6 hc (.inr rfl)
 have v7 : vs 7 = .bool true := hv 7 (by decide)
 have v8 : vs 8 = .bool true := hv 8 (by decide)
 have v9 : vs 9 = .int .i64 0 := hv 9 (by decide)
 simp only [putS, Nat.reduceAdd, Act.put, List.setIfInBounds_toArray, List.set_cons_zero, List.set_cons_succ, v7, v8, v9]
 simp only [kb_] at hK0
 replace I := hK0
 clear hK0 hv hp gl v7 v8 v9
 go_upto_region 19 with fail
 refine wp_regB [] [⟨4, some 5, BF.own [.int .i64 0, .int .i64 0, .int .i64 0, .int .i64 0, .int .i64 0, .int .i64 0], (BF.own [.int .i64 0, .int .i64 0, .int .i64 0, .int .i64 0, .int .i64 1099511627776, .int .i64 1099511627776])⟩] (fun z_ => ([VF.eq (.tuple #[.agg #[.int .i64 0, .int .i64 0, .int .i64 0, .int .i64 0, .int .i64 1099511627776, .int .i64 1099511627776], .int .i64 0]), VF.eq (.tuple #[.agg #[.int .i64 0, .int .i64 0, .int .i64 0, .int .i64 0, .int .i64 1099511627776, .int .i64 1099511627776], .int .i64 0]), VF.eq (.agg #[.int .i64 0, .int .i64 0, .int .i64 0, .int .i64 0, .int .i64 1099511627776, .int .i64 1099511627776]), VF.eq (.int .i64 0), VF.any, VF.any, VF.eq (.int .i64 0)] : List VF).getD z_ VF.any) I (fun hc => ⟨?_, ?_, ?_, ?_, ?_, ?_, ?_, trivial⟩) (fun vs gl W hK0 hv hp => ?_)
 ·exact ob_call (fun v => [.int .i64 5, .int .i64 324000000000]) hc rfl fun vs gs w1 c => calls_eq (p_Unit 5 324000000000 ⟨0, 0, 0, 0, 1099511627776, 1099511627776⟩ _ (by decide) (by decide) k_unit_5_324000000000)
 ·exact ob_cp 0 hc (.inl rfl)
 ·exact ob_e1 (x := .tmp 142) (a := (.tuple #[.agg #[.int .i64 0, .int .i64 0, .int .i64 0, .int .i64 0, .int .i64 1099511627776, .int .i64 1099511627776], .int .i64 0])) (u := .agg #[.int .i64 0, .int .i64 0, .int .i64 0, .int .i64 0, .int .i64 1099511627776, .int .i64 1099511627776]) (some 1) hc
 ·exact ob_e1 (x := .tmp 142) (a := (.tuple #[.agg #[.int .i64 0, .int .i64 0, .int .i64 0, .int .i64 0, .int .i64 1099511627776, .int .i64 1099511627776], .int .i64 0])) (u := .int .i64 0) (some 1) hc
 ·exact ob_new (n := 12) [.int .i64 0, .int .i64 0, .int .i64 0, .int .i64 0, .int .i64 0, .int .i64 0] 32 rfl hc rfl rfl rfl
 ·exact ob_putV (n := 12) rfl (some 2) hc rfl rfl
 ·exact ob_cp 3 hc (.inr rfl)
 have p0 : vs 4 = .pointer (some ⟨gl 0, 0, none⟩) := hp 0 _ rfl
 have v6 : vs 6 = .int .i64 0 := hv 6 (by decide)
 simp only [putS, Nat.reduceAdd, Act.put, List.setIfInBounds_toArray, List.set_cons_zero, List.set_cons_succ, p0, v6]
 obtain ⟨g44, e90⟩ : ∃ n, gl 0 = n := ⟨_, rfl⟩
 simp only [kb_, e90] at hK0
 rw [e90]
 replace I := hK0
 clear hK0 hv hp gl p0 v6 e90
 go_upto_region 20 with fail
 refine wp_regB [] [⟨6, some 7, BF.own [.int .i64 0, .int .i64 0, .int .i64 0, .int .i64 0, .int .i64 0, .int .i64 0], (BF.own [.int .i64 0, .int .i64 0, .int .i64 0, .int .i64 0, .int .i64 0, .int .i64 0])⟩] (fun z_ => ([VF.eq (.agg #[.int .i64 0, .int .i64 0, .int .i64 0, .int .i64 0, .int .i64 0, .int .i64 0]), VF.eq (.agg #[.int .i64 1, .int .i64 0]), VF.eq (.tuple #[.agg #[.int .i64 0, .int .i64 0, .int .i64 0, .int .i64 0, .int .i64 0, .int .i64 0], .int .i64 8]), VF.eq (.tuple #[.agg #[.int .i64 0, .int .i64 0, .int .i64 0, .int .i64 0, .int .i64 0, .int .i64 0], .int .i64 8]), VF.eq (.agg #[.int .i64 0, .int .i64 0, .int .i64 0, .int .i64 0, .int .i64 0, .int .i64 0]), VF.eq (.int .i64 8), VF.any, VF.any, VF.eq (.int .i64 8)] : List VF).getD z_ VF.any) I (fun hc => ⟨?_, ?_, ?_, ?_, ?_, ?_, ?_, ?_, ?_, trivial⟩) (fun vs gl W hK0 hv hp => ?_)
 ·exact T_SPZ_1
 ·exact ob_call (fun v => [.int .i64 1, .int .i64 0]) hc rfl fun vs gs w1 c => calls_eq (k_iv _ _ _)
 ·exact ob_call (fun v => [v 0, v 1]) hc rfl fun vs gs w1 c => eqc2 (c.v 0) (eqcr (c.v 1) (calls_eq (p_ScaleBad ⟨0, 0, 0, 0, 0, 0⟩ 1 0 _ c_4)))
 ·exact ob_cp 2 hc (.inl rfl)
 ·exact ob_e1 (x := .tmp 146) (a := (.tuple #[.agg #[.int .i64 0, .int .i64 0, .int .i64 0, .int .i64 0, .int .i64 0, .int .i64 0], .int .i64 8])) (u := .agg #[.int .i64 0, .int .i64 0, .int .i64 0, .int .i64 0, .int .i64 0, .int .i64 0]) (some 3) hc
 ·exact ob_e1 (x := .tmp 146) (a := (.tuple #[.agg #[.int .i64 0, .int .i64 0, .int .i64 0, .int .i64 0, .int .i64 0, .int .i64 0], .int .i64 8])) (u := .int .i64 8) (some 3) hc
 ·exact ob_new (n := 13) [.int .i64 0, .int .i64 0, .int .i64 0, .int .i64 0, .int .i64 0, .int .i64 0] 32 rfl hc rfl rfl rfl
 ·exact ob_putV (n := 13) rfl (some 4) hc rfl rfl
 ·exact ob_cp 5 hc (.inr rfl)
 have p0 : vs 6 = .pointer (some ⟨gl 0, 0, none⟩) := hp 0 _ rfl
 have v8 : vs 8 = .int .i64 8 := hv 8 (by decide)
 simp only [putS, Nat.reduceAdd, Act.put, List.setIfInBounds_toArray, List.set_cons_zero, List.set_cons_succ, p0, v8]
 obtain ⟨g46, e90⟩ : ∃ n, gl 0 = n := ⟨_, rfl⟩
 simp only [kb_, e90] at hK0
 rw [e90]
 replace I := hK0
 clear hK0 hv hp gl p0 v8 e90
 go_upto_region 21 with fail
 refine wp_regB [] [] (fun z_ => ([VF.eq (.bool true), VF.eq (.bool true), VF.eq (.bool true), VF.eq (.bool true), VF.eq (.int .i64 2), VF.eq (.bool true), VF.eq (.bool true), VF.eq (.bool true), VF.eq (.int .i64 16), VF.eq (.bool true), VF.eq (.bool true), VF.eq (.bool true), VF.eq (.int .i64 2), VF.eq (.bool true), VF.eq (.bool true), VF.eq (.bool true), VF.eq (.int .i64 18), VF.eq (.bool true), VF.eq (.bool true), VF.eq (.bool true), VF.eq (.int .i64 2), VF.eq (.bool true), VF.eq (.bool true), VF.eq (.bool true), VF.eq (.int .i64 0), VF.eq (.bool true), VF.eq (.bool true), VF.eq (.bool true), VF.eq (.bool true), VF.eq (.bool true), VF.eq (.bool true), VF.eq (.bool true), VF.eq (.bool true), VF.eq (.bool true), VF.eq (.int .i64 8), VF.eq (.bool true), VF.eq (.bool true), VF.eq (.bool true), VF.eq (.int .i64 16), VF.eq (.bool true), VF.eq (.bool true), VF.eq (.bool true)] : List VF).getD z_ VF.any) I (fun hc => ⟨?_, ?_, ?_, ?_, ?_, ?_, ?_, ?_, ?_, ?_, ?_, ?_, ?_, ?_, ?_, ?_, ?_, ?_, ?_, ?_, ?_, ?_, ?_, ?_, ?_, ?_, ?_, ?_, ?_, ?_, ?_, ?_, ?_, ?_, ?_, ?_, ?_, ?_, ?_, ?_, ?_, ?_, trivial⟩) (fun vs gl W hK0 hv hp => ?_)
 ·exact ob_mv hc (.inl rfl)
 ·exact ob_call (fun v => []) hc rfl fun vs gs w1 c => calls_eq (k_alive _)
 ·exact ob_pickT (some 0) (some 1) hc rfl
 ·exact ob_cp 2 hc (.inl rfl)
 ·exact ob_mv hc (.inl rfl)
 ·exact ob_e2 (x := .tmp 156) (y := .const (.int .i64 2)) (a := (.int .i64 2)) (b := .int .i64 2) (u := .bool true) (some 4) none hc (hs := by intro ρ w1 h k; go_simp; first | done | omega | (simp; omega))
 ·exact ob_pickT (some 3) (some 5) hc rfl
 ·exact ob_cp 6 hc (.inl rfl)
 ·exact ob_mv hc (.inl rfl)
 ·exact ob_e2 (x := .tmp 160) (y := .const (.int .i64 16)) (a := (.int .i64 16)) (b := .int .i64 16) (u := .bool true) (some 8) none hc (hs := by intro ρ w1 h k; go_simp; first | done | omega | (simp; omega))
 ·exact ob_pickT (some 7) (some 9) hc rfl
 ·exact ob_cp 10 hc (.inl rfl)
 ·exact ob_mv hc (.inl rfl)
 ·exact ob_e2 (x := .tmp 164) (y := .const (.int .i64 2)) (a := (.int .i64 2)) (b := .int .i64 2) (u := .bool true) (some 12) none hc (hs := by intro ρ w1 h k; go_simp; first | done | omega | (simp; omega))
 ·exact ob_pickT (some 11) (some 13) hc rfl
 ·exact ob_cp 14 hc (.inl rfl)
 ·exact ob_mv hc (.inl rfl)
 ·exact ob_e2 (x := .tmp 168) (y := .const (.int .i64 18)) (a := (.int .i64 18)) (b := .int .i64 18) (u := .bool true) (some 16) none hc (hs := by intro ρ w1 h k; go_simp; first | done | omega | (simp; omega))
 ·exact ob_pickT (some 15) (some 17) hc rfl
 ·exact ob_cp 18 hc (.inl rfl)
 ·exact ob_mv hc (.inl rfl)
 ·exact ob_e2 (x := .tmp 172) (y := .const (.int .i64 2)) (a := (.int .i64 2)) (b := .int .i64 2) (u := .bool true) (some 20) none hc (hs := by intro ρ w1 h k; go_simp; first | done | omega | (simp; omega))
 ·exact ob_pickT (some 19) (some 21) hc rfl
 ·exact ob_cp 22 hc (.inl rfl)
 ·exact ob_mv hc (.inl rfl)
 ·exact ob_e2 (x := .tmp 176) (y := .const (.int .i64 0)) (a := (.int .i64 0)) (b := .int .i64 0) (u := .bool true) (some 24) none hc (hs := by intro ρ w1 h k; go_simp; first | done | omega | (simp; omega))
 ·exact ob_pickT (some 23) (some 25) hc rfl
 ·exact ob_cp 26 hc (.inl rfl)
 ·exact ob_mv hc (.inl rfl)
 ·exact ob_pickT (some 27) (some 28) hc rfl
 ·exact ob_cp 29 hc (.inl rfl)
 ·exact ob_mv hc (.inl rfl)
 ·exact ob_pickT (some 30) (some 31) hc rfl
 ·exact ob_cp 32 hc (.inl rfl)
 ·exact ob_mv hc (.inl rfl)
 ·exact ob_e2 (x := .tmp 186) (y := .const (.int .i64 8)) (a := (.int .i64 8)) (b := .int .i64 8) (u := .bool true) (some 34) none hc (hs := by intro ρ w1 h k; go_simp; first | done | omega | (simp; omega))
 ·exact ob_pickT (some 33) (some 35) hc rfl
 ·exact ob_cp 36 hc (.inl rfl)
 ·exact ob_mv hc (.inl rfl)
 ·exact ob_e2 (x := .tmp 190) (y := .const (.int .i64 16)) (a := (.int .i64 16)) (b := .int .i64 16) (u := .bool true) (some 38) none hc (hs := by intro ρ w1 h k; go_simp; first | done | omega | (simp; omega))
 ·exact ob_pickT (some 37) (some 39) hc rfl
 ·exact ob_cp 40 hc (.inr rfl)
 have v41 : vs 41 = .bool true := hv 41 (by decide)
 simp only [putS, Nat.reduceAdd, Act.put, List.setIfInBounds_toArray, List.set_cons_zero, List.set_cons_succ, v41]
 simp only [kb_] at hK0
 replace I := hK0
 clear hK0 hv hp gl v41
 go_upto_region 22 with fail
 refine wp_regB [] [] (fun z_ => ([VF.eq (.bool true), VF.eq (.bool true), VF.eq (.int .i64 16), VF.eq (.bool true), VF.eq (.bool true), VF.eq (.bool true), VF.eq (.int .i64 2), VF.eq (.bool true), VF.eq (.bool true), VF.eq (.bool true), VF.eq (.int .i64 8), VF.eq (.bool true), VF.eq (.bool true), VF.eq (.bool true), VF.eq (.int .i64 0), VF.eq (.bool true), VF.eq (.bool true), VF.eq (.bool true), VF.eq (.bool false), VF.eq (.bool true), VF.eq (.bool true), VF.eq (.bool true), VF.eq (.bool false), VF.eq (.bool true), VF.eq (.bool true), VF.eq (.bool true), VF.eq (.int .i64 0), VF.eq (.bool true), VF.eq (.bool true), VF.eq (.bool true), VF.eq (.bool true), VF.eq (.bool true), VF.eq (.bool true), VF.eq (.int .i64 0), VF.eq (.bool true), VF.eq (.bool true), VF.eq (.bool true), VF.eq (.agg #[.int .i64 0, .int .i64 0, .int .i64 0, .int .i64 0, .int .i64 1099511627776, .int .i64 1099511627776]), VF.eq (.agg #[.int .i64 0, .int .i64 0]), VF.eq (.agg #[.int .i64 0, .int .i64 0]), VF.eq (.agg #[.int .i64 1099511627776, .int .i64 1099511627776]), VF.eq (.agg #[.int .i64 0, .int .i64 0, .int .i64 0, .int .i64 0, .int .i64 1099511627776, .int .i64 1099511627776]), VF.eq (.bool true), VF.eq (.bool true), VF.eq (.bool true), VF.eq (.int .i64 8), VF.eq (.bool true), VF.eq (.bool true), VF.eq (.bool true)] : List VF).getD z_ VF.any) I (fun hc => ⟨?_, ?_, ?_, ?_, ?_, ?_, ?_, ?_, ?_, ?_, ?_, ?_, ?_, ?_, ?_, ?_, ?_, ?_, ?_, ?_, ?_, ?_, ?_, ?_, ?_, ?_, ?_, ?_, ?_, ?_, ?_, ?_, ?_, ?_, ?_, ?_, ?_, ?_, ?_, ?_, ?_, ?_, ?_, ?_, ?_, ?_, ?_, ?_, ?_, trivial⟩) (fun vs gl W hK0 hv hp => ?_)
 ·exact ob_mv hc (.inl rfl)
 ·exact ob_cp 0 hc (.inl rfl)
 ·exact ob_mv hc (.inl rfl)
 ·exact ob_e2 (x := .tmp 195) (y := .const (.int .i64 16)) (a := (.int .i64 16)) (b := .int .i64 16) (u := .bool true) (some 2) none hc (hs := by intro ρ w1 h k; go_simp; first | done | omega | (simp; omega))
 ·exact ob_pickT (some 1) (some 3) hc rfl
 ·exact ob_cp 4 hc (.inl rfl)
 ·exact ob_mv hc (.inl rfl)
 ·exact ob_e2 (x := .tmp 199) (y := .const (.int .i64 2)) (a := (.int .i64 2)) (b := .int .i64 2) (u := .bool true) (some 6) none hc (hs := by intro ρ w1 h k; go_simp; first | done | omega | (simp; omega))
 ·exact ob_pickT (some 5) (some 7) hc rfl
 ·exact ob_cp 8 hc (.inl rfl)
 ·exact ob_mv hc (.inl rfl)
 ·exact ob_e2 (x := .tmp 203) (y := .const (.int .i64 8)) (a := (.int .i64 8)) (b := .int .i64 8) (u := .bool true) (some 10) none hc (hs := by intro ρ w1 h k; go_simp; first | done | omega | (simp; omega))
 ·exact ob_pickT (some 9) (some 11) hc rfl
 ·exact ob_cp 12 hc (.inl rfl)
 ·exact ob_mv hc (.inl rfl)
 ·exact ob_e2 (x := .tmp 207) (y := .const (.int .i64 0)) (a := (.int .i64 0)) (b := .int .i64 0) (u := .bool true) (some 14) none hc (hs := by intro ρ w1 h k; go_simp; first | done | omega | (simp; omega))
 ·exact ob_pickT (some 13) (some 15) hc rfl
 ·exact ob_cp 16 hc (.inl rfl)
 ·exact ob_mv hc (.inl rfl)
 ·exact ob_e1 (x := .tmp 211) (a := (.bool false)) (u := .bool true) (some 18) hc
 ·exact ob_pickT (some 17) (some 19) hc rfl
 ·exact ob_cp 20 hc (.inl rfl)
 ·exact ob_mv hc (.inl rfl)
 ·exact ob_e1 (x := .tmp 215) (a := (.bool false)) (u := .bool true) (some 22) hc
 ·exact ob_pickT (some 21) (some 23) hc rfl
 ·exact ob_cp 24 hc (.inl rfl)
 ·exact ob_mv hc (.inl rfl)
 ·exact ob_e2 (x := .tmp 219) (y := .const (.int .i64 0)) (a := (.int .i64 0)) (b := .int .i64 0) (u := .bool true) (some 26) none hc (hs := by intro ρ w1 h k; go_simp; first | done | omega | (simp; omega))
 ·exact ob_pickT (some 25) (some 27) hc rfl
 ·exact ob_cp 28 hc (.inl rfl)
 ·exact ob_mv hc (.inl rfl)
 ·exact ob_pickT (some 29) (some 30) hc rfl
 ·exact ob_cp 31 hc (.inl rfl)
 ·exact ob_mv hc (.inl rfl)
 ·exact ob_e2 (x := .tmp 226) (y := .const (.int .i64 0)) (a := (.int .i64 0)) (b := .int .i64 0) (u := .bool true) (some 33) none hc (hs := by intro ρ w1 h k; go_simp; first | done | omega | (simp; omega))
 ·exact ob_pickT (some 32) (some 34) hc rfl
 ·exact ob_cp 35 hc (.inl rfl)
 ·exact ob_ld6 (x := .tmp 44) (g := g44) (f := 0) none hc rfl fun vs gs w1 c => ⟨c.own 12 0, c.own 12 1, c.own 12 2, c.own 12 3, c.own 12 4, c.own 12 5⟩
 ·exact b_21
 ·exact b_21
 ·exact T_SPZ_7
 ·exact ob_b3 (some 38) (some 39) (some 40) hc rfl
 ·exact ob_e2 (x := .tmp 230) (y := .tmp 234) (a := (.agg #[.int .i64 0, .int .i64 0, .int .i64 0, .int .i64 0, .int .i64 1099511627776, .int .i64 1099511627776])) (b := (.agg #[.int .i64 0, .int .i64 0, .int .i64 0, .int .i64 0, .int .i64 1099511627776, .int .i64 1099511627776])) (u := .bool true) (some 37) (some 41) hc (hs := by intro ρ w1 h k; go_simp; first | done | (rw [show (10000 : Nat) = 9997 + 1 + 1 + 1 from rfl, eq_vec]; rfl))
 ·exact ob_pickT (some 36) (some 42) hc rfl
 ·exact ob_cp 43 hc (.inl rfl)
 ·exact ob_mv hc (.inl rfl)
 ·exact ob_e2 (x := .tmp 238) (y := .const (.int .i64 8)) (a := (.int .i64 8)) (b := .int .i64 8) (u := .bool true) (some 45) none hc (hs := by intro ρ w1 h k; go_simp; first | done | omega | (simp; omega))
 ·exact ob_pickT (some 44) (some 46) hc rfl
 ·exact ob_cp 47 hc (.inr rfl)
 have v48 : vs 48 = .bool true := hv 48 (by decide)
 simp only [putS, Nat.reduceAdd, Act.put, List.setIfInBounds_toArray, List.set_cons_zero, List.set_cons_succ, v48]
 simp only [kb_] at hK0
 replace I := hK0
 clear hK0 hv hp gl v48
 have hE := I.e
 clear I
 go_wp2_with fail
 go_ret
 exact ⟨rfl, hE⟩
end Go.Proofs.YtaoioncjmfcolaaGreat
