/- the reference: Angle and rounded at one angle. -/
import Derived.Test.YtogblocakccbgaaGreatU36
set_option linter.unusedSimpArgs false
set_option linter.unusedVariables false
set_option maxRecDepth 100000
set_option maxHeartbeats 4000000
namespace Go.Proofs.YtogblocakccbgaaGreat
open Go.RowKit
theorem q_roundI (va : Value) (lo hi n : Int) (w : World) (ha : PairV w va lo hi) (h0 : okN lo = true) (h1 : okN hi = true) (e0 : lo / 2 ^ 40 = n) (e1 : hi / 2 ^ 40 = n) (k0 : -9000000000000000000 ≤ n) (k1 : n ≤ 9000000000000000000) :
    Calls Tryz.prog 34 #[va, .int .i64 80] w fun e w' => e = .returned (.tuple #[.agg #[.int .i64 n, .int .i64 (n + 1)], .bool true]) ∧ Ext w w' := by
 have hdl : ∀ (w1 : World) (u1 u2 : Value), Wid w1 u1 lo → u2 = .int .i64 40 → Calls Tryz.prog 68 #[u1, u2] w1 fun e w' => ∃ u, e = .returned u ∧ Wid w' u n ∧ Ext w1 w' := fun w1 u1 u2 a b => by
  subst b
  have := q_down u1 lo 40 w1 a (okN.sz h0) (by decide) (by decide)
  rw [e0] at this
  exact this
 have hdh : ∀ (w1 : World) (u1 u2 : Value), Wid w1 u1 hi → u2 = .int .i64 40 → Calls Tryz.prog 68 #[u1, u2] w1 fun e w' => ∃ u, e = .returned u ∧ Wid w' u n ∧ Ext w1 w' := fun w1 u1 u2 a b => by
  subst b
  have := q_down u1 hi 40 w1 a (okN.sz h1) (by decide) (by decide)
  rw [e1] at this
  exact this
 have hsm : ∀ (w1 : World) (u1 u2 : Value), Wid w1 u1 n → Wid w1 u2 n → Calls Tryz.prog 69 #[u1, u2] w1 fun e w' => ∃ u, e = .returned u ∧ u = .bool true ∧ Ext w1 w' := fun w1 u1 u2 a b => calls_eq (r_SameW u1 u2 n w1 a b)
 have hin : ∀ (w1 : World) (u1 : Value), Wid w1 u1 n → Calls Tryz.prog 70 #[u1] w1 fun e w' => ∃ u, e = .returned u ∧ u = .tuple #[.int .i64 n, .int .i64 0] ∧ Ext w1 w' := fun w1 u1 a => calls_eq (r_IntZ u1 n w1 a (by omega) (by omega))
 clear e0 e1 h0 h1
 obtain ⟨sa, aoa, na, capa, sb, aob, nb, capb, rfl, hA, hB⟩ := ha.open
 have I0 : KBd w [] w := ⟨Ext.refl w, trivial, by simp, by simp⟩
 have I := ((I0.push ((Ext.refl w).alloc (.cells #[.bool sa, .slice aoa na capa, .bool sb, .slice aob nb capb] 68)) (BF.pat lo hi) (PatP.new hA hB)).new [.int .i64 0, .int .i64 0] 31 (by simp))
 simp only [World.size_alloc, List.nil_append, List.cons_append] at I
 clear I0 hA hB ha
 go_enter Tryz.func34, Tryz.ntmps34
 go_upto_region 1 with fail
 refine wp_regB [] [⟨10, some 12, BF.b2, (BF.wat n)⟩, ⟨11, some 13, BF.b2, (BF.wat n)⟩] (fun z_ => ([VF.eq (.pointer (some ⟨w.heap.size, 0, none⟩)), VF.wid (lo), VF.eq (.int .i64 (80)), VF.eq (.int .i64 (40)), VF.wid (n), VF.eq (.pointer (some ⟨w.heap.size, 2, none⟩)), VF.wid (hi), VF.eq (.int .i64 (80)), VF.eq (.int .i64 (40)), VF.wid (n)] : List VF).getD z_ VF.any) I (fun hc => ⟨?_, ?_, ?_, ?_, ?_, ?_, ?_, ?_, ?_, ?_, ?_, ?_, ?_, ?_, trivial⟩) (fun vs gl W hK0 hv hp => ?_)
 ·exact b_16
 ·exact ob_getP0 w.heap.size lo hi (some 0) hc rfl fun vs gs w1 c => c.b0 0
 ·exact ob_mv hc (.inl rfl)
 ·exact ob_e2 (x := .tmp 12) (y := .const (.int .i64 40)) (a := (.int .i64 (80))) (b := .int .i64 40) (u := .int .i64 (40)) (some 2) none hc (hs := by intro ρ w1 h k; go_simp; first | done | (simp only [IntKind.wrap_i64]; omega))
 ·exact ob_call (fun v => [v 1, v 3]) hc rfl fun vs gs w1 c => hdl _ _ _ (c.v 1) (c.v 3)
 ·exact ob_e1 (x := .tmp 2) (a := .pointer (some ⟨w.heap.size, 0, none⟩)) (u := .pointer (some ⟨w.heap.size, 2, none⟩)) none hc
 ·exact ob_getP2 w.heap.size lo hi (some 5) hc rfl fun vs gs w1 c => c.b0 0
 ·exact ob_mv hc (.inl rfl)
 ·exact ob_e2 (x := .tmp 17) (y := .const (.int .i64 40)) (a := (.int .i64 (80))) (b := .int .i64 40) (u := .int .i64 (40)) (some 7) none hc (hs := by intro ρ w1 h k; go_simp; first | done | (simp only [IntKind.wrap_i64]; omega))
 ·exact ob_call (fun v => [v 6, v 8]) hc rfl fun vs gs w1 c => hdh _ _ _ (c.v 6) (c.v 8)
 ·exact b_15
 ·exact b_29
 ·exact ob_putW (n := 2) rfl 4 hc rfl 0
 ·exact ob_putW (n := 3) rfl 9 hc rfl 0
 have p0 : vs 10 = .pointer (some ⟨gl 0, 0, none⟩) := hp 0 _ rfl
 have p1 : vs 11 = .pointer (some ⟨gl 1, 0, none⟩) := hp 1 _ rfl
 simp only [putS, Nat.reduceAdd, Act.put, List.setIfInBounds_toArray, List.set_cons_zero, List.set_cons_succ, p0, p1]
 obtain ⟨g6, e90⟩ : ∃ n, gl 0 = n := ⟨_, rfl⟩
 obtain ⟨g7, e91⟩ : ∃ n, gl 1 = n := ⟨_, rfl⟩
 simp only [kb_, e90, e91] at hK0
 rw [e90, e91]
 replace I := hK0
 clear hK0 hv hp gl p0 p1 e90 e91
 clear hdl hdh
 go_upto_region 2 with fail
 refine wp_regB [] [] (fun z_ => ([VF.wid (n), VF.wid (n), VF.eq (.bool true), VF.eq (.bool false)] : List VF).getD z_ VF.any) I (fun hc => ⟨?_, ?_, ?_, ?_, trivial⟩) (fun vs gl W hK0 hv hp => ?_)
 ·exact ob_getW g6 (n) hc rfl fun vs gs w1 c => c.b0 2
 ·exact ob_getW g7 (n) hc rfl fun vs gs w1 c => c.b0 3
 ·exact ob_call (fun v => [v 0, v 1]) hc rfl fun vs gs w1 c => hsm _ _ _ (c.v 0) (c.v 1)
 ·exact ob_e1 (x := .tmp 22) (a := (.bool true)) (u := .bool false) (some 2) hc
 have v3 : vs 3 = .bool false := hv 3 (by decide)
 simp only [putS, Nat.reduceAdd, Act.put, List.setIfInBounds_toArray, List.set_cons_zero, List.set_cons_succ, v3]
 simp only [kb_] at hK0
 replace I := hK0
 clear hK0 hv hp gl v3
 go_upto_region 4 with fail
 refine wp_regB [] [] (fun z_ => ([VF.wid (n), VF.eq (.tuple #[.int .i64 n, .int .i64 0]), VF.eq (.tuple #[.int .i64 n, .int .i64 0]), VF.eq (.int .i64 (n)), VF.eq (.int .i64 (0)), VF.eq (.int .i64 (n)), VF.eq (.int .i64 (0))] : List VF).getD z_ VF.any) I (fun hc => ⟨?_, ?_, ?_, ?_, ?_, ?_, ?_, trivial⟩) (fun vs gl W hK0 hv hp => ?_)
 ·exact ob_getW g6 (n) hc rfl fun vs gs w1 c => c.b0 2
 ·exact ob_call (fun v => [v 0]) hc rfl fun vs gs w1 c => hin _ _ (c.v 0)
 ·exact ob_cp 1 hc (.inl rfl)
 ·exact ob_e1 (x := .tmp 25) (a := (.tuple #[.int .i64 n, .int .i64 0])) (u := .int .i64 (n)) (some 2) hc
 ·exact ob_e1 (x := .tmp 25) (a := (.tuple #[.int .i64 n, .int .i64 0])) (u := .int .i64 (0)) (some 2) hc
 ·exact ob_cp 3 hc (.inr rfl)
 ·exact ob_cp 4 hc (.inr rfl)
 have v5 : vs 5 = .int .i64 n := hv 5 (by decide)
 have v6 : vs 6 = .int .i64 0 := hv 6 (by decide)
 simp only [putS, Nat.reduceAdd, Act.put, List.setIfInBounds_toArray, List.set_cons_zero, List.set_cons_succ, v5, v6]
 simp only [kb_] at hK0
 replace I := hK0
 clear hK0 hv hp gl v5 v6
 go_upto_region 5 with fail
 refine wp_regB [[], [(4, BF.own [.int .i64 n, .int .i64 (n + 1)])]] [] (fun z_ => ([VF.eq (.int .i64 (n)), VF.eq (.int .i64 (n)), VF.eq (.int .i64 (n + 1)), VF.eq (.agg #[.int .i64 n, .int .i64 (n + 1)]), VF.any, VF.eq (.bool true)] : List VF).getD z_ VF.any) I (fun hc => ⟨?_, ?_, ?_, ?_, ?_, ?_, trivial⟩) (fun vs gl W hK0 hv hp => ?_)
 ·exact ob_mv hc (.inl rfl)
 ·exact ob_mv hc (.inl rfl)
 ·exact ob_e2 (x := .tmp 31) (y := .const (.int .i64 1)) (a := (.int .i64 (n))) (b := .int .i64 1) (u := .int .i64 (n + 1)) (some 1) none hc (hs := by intro ρ w1 h k; go_simp; first | done | (simp only [IntKind.wrap_i64]; omega))
 ·exact ob_e2 (x := .tmp 30) (y := .tmp 32) (a := (.int .i64 (n))) (b := (.int .i64 (n + 1))) (u := .agg #[.int .i64 n, .int .i64 (n + 1)]) (some 0) (some 2) hc
 ·exact ob_put2 (n := 1) 0 rfl (some 3) hc rfl
 ·exact ob_mv hc (.inr rfl)
 have v5 : vs 5 = .bool true := hv 5 (by decide)
 simp only [putS, Nat.reduceAdd, Act.put, List.setIfInBounds_toArray, List.set_cons_zero, List.set_cons_succ, v5]
 simp only [kb_] at hK0
 replace I := hK0
 clear hK0 hv hp gl v5
 have d0 := I.own 1 0
 have d1 := I.own 1 1
 have hE := I.e
 clear I hsm hin
 go_wp2_with fail
 refine bodyPost_ret (v := .tuple #[.agg #[.int .i64 n, .int .i64 (n + 1)], .bool true]) ?_ rfl ⟨rfl, hE⟩
 simp [results, Tryz.results34, go_sem, ↓IntWalk.iteOmega, d0, d1]
def cirF8 : Option (Int × Int) := (invF 5 1000 0 (2 ^ 100 / 5) 0).bind fun a => (invF 239 1000 0 (2 ^ 100 / 239) 0).bind fun b =>
 if okN ((16 * a : Nat) : Int) = true ∧ okN ((4 * b : Nat) : Int) = true ∧ 4 * b ≤ 16 * a ∧ 2 ^ 16 ≤ 16 * a - 4 * b ∧ okN ((16 * a - 4 * b + 2 ^ 16 : Nat) : Int) = true ∧ okN (-(-((16 * a - 4 * b + 2 ^ 16 : Nat) : Int) / 2 ^ 20)) = true then
  some (((16 * a - 4 * b - 2 ^ 16 : Nat) : Int) / 2 ^ 20, -(-((16 * a - 4 * b + 2 ^ 16 : Nat) : Int) / 2 ^ 20)) else none
theorem q_cirF8 {R : Int × Int} (h : cirF8 = some R) (w : World) : Calls Tryz.prog 71 #[.int .i64 80] w fun e w' => ∃ u, e = .returned u ∧ PairV w' u R.1 R.2 ∧ Ext w w' := by
 unfold cirF8 at h
 rw [Option.bind_eq_some_iff] at h
 obtain ⟨a, ha, h⟩ := h
 rw [Option.bind_eq_some_iff] at h
 obtain ⟨b, hb, h⟩ := h
 split at h
 case isFalse => cases h
 rename_i k
 obtain ⟨k1, k2, k3, k4, k5, k6⟩ := k
 obtain rfl := Option.some.inj h
 exact q_Circle8 a b 1000 _ _ w (by decide) ha hb k1 k2 k3 k4 k5 rfl (by omega) k6
def angF : Option (Int × Int) := cirF8.bind fun c =>
 if 0 ≤ c.1 ∧ 0 ≤ c.2 ∧ okN c.1 = true ∧ okN c.2 = true ∧ okN (c.1 * 230290448384) = true ∧ okN (c.2 * 230290448384) = true ∧ okN (c.2 * 230290448384 / 1296000000000) = true ∧ okN (c.2 * 230290448384 / 1296000000000 + 1) = true then
  (smaF (c.1 * 230290448384 / 1296000000000).toNat (c.2 * 230290448384 / 1296000000000 + 1).toNat 80 false).bind fun R => if okN R.1 = true ∧ okN R.2 = true then some (-R.2, -R.1) else none
 else none
theorem q_angF (A : Int × Int) (w : World) (h : angF = some A) :
    Calls Tryz.prog 35 #[.int .i64 (-9223372036854775808), .int .i64 80] w fun e w' => ∃ u, e = .returned u ∧ PairV w' u A.1 A.2 ∧ Ext w w' := by
 unfold angF at h
 rw [Option.bind_eq_some_iff] at h
 obtain ⟨⟨c, d⟩, hc, h⟩ := h
 have hci : ∀ (w1 : World) (u1 : Value), u1 = .int .i64 80 → Calls Tryz.prog 71 #[u1] w1 fun e w' => ∃ u, e = .returned u ∧ PairV w' u c d ∧ Ext w1 w' := fun w1 u1 a => by subst a; exact q_cirF8 hc w1
 clear hc
 split at h
 case isFalse => cases h
 rename_i k
 obtain ⟨k1, k2, k3, k4, k5, k6, k7, k8⟩ := k
 dsimp only at k1 k2 k3 k4 k5 k6 k7 k8 h
 rw [Option.bind_eq_some_iff] at h
 obtain ⟨R, hR, h⟩ := h
 split at h
 case isFalse => cases h
 rename_i k9
 obtain ⟨o1, o2⟩ := k9
 obtain rfl := Option.some.inj h
 clear h
 have g1 : 0 ≤ c * 230290448384 := Int.mul_nonneg k1 (by decide)
 have g2 : 0 ≤ d * 230290448384 := Int.mul_nonneg k2 (by decide)
 obtain ⟨lo, hlo⟩ : ∃ lo, (c * 230290448384 / 1296000000000).toNat = lo := ⟨_, rfl⟩
 obtain ⟨hi, hhi⟩ : ∃ hi, (d * 230290448384 / 1296000000000 + 1).toNat = hi := ⟨_, rfl⟩
 have elo : c * 230290448384 / 1296000000000 = (lo : Int) := by omega
 have ehi : d * 230290448384 / 1296000000000 + 1 = (hi : Int) := by omega
 rw [hlo, hhi] at hR
 have hsm : ∀ (w1 : World) (u1 u2 u3 : Value), PairV w1 u1 (lo : Int) (hi : Int) → u2 = .int .i64 80 → u3 = .bool false → Calls Tryz.prog 76 #[u1, u2, u3] w1 fun e w' => ∃ u, e = .returned u ∧ PairV w' u R.1 R.2 ∧ Ext w1 w' := fun w1 u1 u2 u3 a b c => by subst b c; exact q_small u1 lo hi 80 false R w1 a hR
 have hne : ∀ (w1 : World) (u1 : Value), PairV w1 u1 R.1 R.2 → Calls Tryz.prog 77 #[u1] w1 fun e w' => ∃ u, e = .returned u ∧ PairV w' u (-R.2) (-R.1) ∧ Ext w1 w' := fun w1 u1 a => q_neg u1 _ _ w1 a o1 o2
 have hfr : ∀ (w1 : World) (u1 : Value), u1 = .int .i64 230290448384 → Calls Tryz.prog 74 #[u1] w1 fun e w' => ∃ u, e = .returned u ∧ Wid w' u 230290448384 ∧ Ext w1 w' := fun w1 u1 a => by subst a; exact q_fromI (by decide) (by decide)
 have hmc : ∀ (w1 : World) (u1 u2 : Value), Wid w1 u1 (c) → Wid w1 u2 230290448384 → Calls Tryz.prog 73 #[u1, u2] w1 fun e w' => ∃ u, e = .returned u ∧ Wid w' u (c * 230290448384) ∧ Ext w1 w' := fun w1 u1 u2 a b => q_mulI a b k1 (by decide) k3 (by decide) k5
 have hmd : ∀ (w1 : World) (u1 u2 : Value), Wid w1 u1 (d) → Wid w1 u2 230290448384 → Calls Tryz.prog 73 #[u1, u2] w1 fun e w' => ∃ u, e = .returned u ∧ Wid w' u (d * 230290448384) ∧ Ext w1 w' := fun w1 u1 u2 a b => q_mulI a b k2 (by decide) k4 (by decide) k6
 have hov : ∀ (w1 : World) (u1 u2 : Value), Wid w1 u1 (c * 230290448384) → Wid w1 u2 1296000000000 → Calls Tryz.prog 72 #[u1, u2] w1 fun e w' => ∃ u, e = .returned u ∧ Wid w' u ((lo : Int)) ∧ Ext w1 w' := fun w1 u1 u2 a b => by have := q_overI a b g1 (by decide) k5 (by decide); rw [elo] at this; exact this
 have hod : ∀ (w1 : World) (u1 u2 : Value), Wid w1 u1 (d * 230290448384) → Wid w1 u2 1296000000000 → Calls Tryz.prog 72 #[u1, u2] w1 fun e w' => ∃ u, e = .returned u ∧ Wid w' u (d * 230290448384 / 1296000000000) ∧ Ext w1 w' := fun w1 u1 u2 a b => q_overI a b g2 (by decide) k6 (by decide)
 have had : ∀ (w1 : World) (u1 u2 : Value), Wid w1 u1 (d * 230290448384 / 1296000000000) → Wid w1 u2 1 → Calls Tryz.prog 75 #[u1, u2] w1 fun e w' => ∃ u, e = .returned u ∧ Wid w' u ((hi : Int)) ∧ Ext w1 w' := fun w1 u1 u2 a b => by have := q_addI a b (by omega) (by decide) k7 (by decide) k8; rw [ehi] at this; exact this
 clear hR hlo hhi elo ehi g1 g2 k1 k2 k3 k4 k5 k6 k7 k8 o1 o2
 have I0 : KBd w [] w := ⟨Ext.refl w, trivial, by simp, by simp⟩
 have I := I0.new [.bool false, .slice none 0 0, .bool false, .slice none 0 0] 68 (by simp)
 simp only [World.size_alloc, List.nil_append, List.cons_append] at I
 clear I0
 go_enter Tryz.func35, Tryz.ntmps35
 go_upto_region 10 with fail
 refine wp_regB [] [⟨2, some 3, BF.own [.bool false, .slice none 0 0, .bool false, .slice none 0 0], (BF.pat c d)⟩] (fun z_ => ([VF.eq (.int .i64 (80)), VF.pair (c) (d)] : List VF).getD z_ VF.any) I (fun hc => ⟨?_, ?_, ?_, ?_, trivial⟩) (fun vs gl W hK0 hv hp => ?_)
 ·exact ob_mv hc (.inl rfl)
 ·exact ob_call (fun v => [v 0]) hc rfl fun vs gs w1 c => hci _ _ (c.v 0)
 ·exact ob_new (n := 1) [.bool false, .slice none 0 0, .bool false, .slice none 0 0] 68 rfl hc rfl rfl rfl
 ·exact ob_putP (n := 1) rfl 1 hc rfl 0
 have p0 : vs 2 = .pointer (some ⟨gl 0, 0, none⟩) := hp 0 _ rfl
 simp only [putS, Nat.reduceAdd, Act.put, List.setIfInBounds_toArray, List.set_cons_zero, List.set_cons_succ, p0]
 obtain ⟨gc, e90⟩ : ∃ n, gl 0 = n := ⟨_, rfl⟩
 simp only [kb_, e90] at hK0
 rw [e90]
 replace I := hK0
 clear hK0 hv hp gl p0 e90
 go_upto_region 11 with fail
 refine wp_regB [] [⟨19, some 20, BF.own [.bool false, .slice none 0 0, .bool false, .slice none 0 0], (BF.pat (lo : Int) (hi : Int))⟩] (fun z_ => ([VF.eq (.pointer (some ⟨gc, 0, none⟩)), VF.wid (c), VF.eq (.int .i64 (115145224192)), VF.eq (.int .i64 (230290448384)), VF.wid (230290448384), VF.wid (c * 230290448384), VF.wid (1296000000000), VF.wid ((lo : Int)), VF.eq (.pointer (some ⟨gc, 2, none⟩)), VF.wid (d), VF.eq (.int .i64 (115145224192)), VF.eq (.int .i64 (230290448384)), VF.wid (230290448384), VF.wid (d * 230290448384), VF.wid (1296000000000), VF.wid (d * 230290448384 / 1296000000000), VF.wid (1), VF.wid ((hi : Int)), VF.pair ((lo : Int)) ((hi : Int))] : List VF).getD z_ VF.any) I (fun hc => ⟨?_, ?_, ?_, ?_, ?_, ?_, ?_, ?_, ?_, ?_, ?_, ?_, ?_, ?_, ?_, ?_, ?_, ?_, ?_, ?_, ?_, trivial⟩) (fun vs gl W hK0 hv hp => ?_)
 ·exact ob_e1 (x := .tmp 9) (a := .pointer (some ⟨gc, 0, none⟩)) (u := .pointer (some ⟨gc, 0, none⟩)) none hc
 ·exact ob_getP0 gc c d (some 0) hc rfl fun vs gs w1 c => c.b0 1
 ·exact ob_mv hc (.inl rfl)
 ·exact ob_e2 (x := .const (.int .i64 2)) (y := .tmp 36) (a := .int .i64 2) (b := (.int .i64 (115145224192))) (u := .int .i64 (230290448384)) none (some 2) hc (hs := by intro ρ w1 h k; go_simp; first | done | rfl)
 ·exact ob_call (fun v => [v 3]) hc rfl fun vs gs w1 c => hfr _ _ (c.v 3)
 ·exact ob_call (fun v => [v 1, v 4]) hc rfl fun vs gs w1 c => hmc _ _ _ (c.v 1) (c.v 4)
 ·exact ob_call (fun v => [.int .i64 1296000000000]) hc rfl fun vs gs w1 c => q_fromI (by decide) (by decide)
 ·exact ob_call (fun v => [v 5, v 6]) hc rfl fun vs gs w1 c => hov _ _ _ (c.v 5) (c.v 6)
 ·exact ob_e1 (x := .tmp 9) (a := .pointer (some ⟨gc, 0, none⟩)) (u := .pointer (some ⟨gc, 2, none⟩)) none hc
 ·exact ob_getP2 gc c d (some 8) hc rfl fun vs gs w1 c => c.b0 1
 ·exact ob_mv hc (.inl rfl)
 ·exact ob_e2 (x := .const (.int .i64 2)) (y := .tmp 44) (a := .int .i64 2) (b := (.int .i64 (115145224192))) (u := .int .i64 (230290448384)) none (some 10) hc (hs := by intro ρ w1 h k; go_simp; first | done | rfl)
 ·exact ob_call (fun v => [v 11]) hc rfl fun vs gs w1 c => hfr _ _ (c.v 11)
 ·exact ob_call (fun v => [v 9, v 12]) hc rfl fun vs gs w1 c => hmd _ _ _ (c.v 9) (c.v 12)
 ·exact ob_call (fun v => [.int .i64 1296000000000]) hc rfl fun vs gs w1 c => q_fromI (by decide) (by decide)
 ·exact ob_call (fun v => [v 13, v 14]) hc rfl fun vs gs w1 c => hod _ _ _ (c.v 13) (c.v 14)
 ·exact ob_call (fun v => [.int .i64 1]) hc rfl fun vs gs w1 c => q_fromI (by decide) (by decide)
 ·exact ob_call (fun v => [v 15, v 16]) hc rfl fun vs gs w1 c => had _ _ _ (c.v 15) (c.v 16)
 ·exact ob_buildP (q := (lo : Int)) (r := (hi : Int)) 7 17 hc rfl
 ·exact ob_new (n := 2) [.bool false, .slice none 0 0, .bool false, .slice none 0 0] 68 rfl hc rfl rfl rfl
 ·exact ob_putP (n := 2) rfl 18 hc rfl 0
 have p0 : vs 19 = .pointer (some ⟨gl 0, 0, none⟩) := hp 0 _ rfl
 simp only [putS, Nat.reduceAdd, Act.put, List.setIfInBounds_toArray, List.set_cons_zero, List.set_cons_succ, p0]
 obtain ⟨gx, e90⟩ : ∃ n, gl 0 = n := ⟨_, rfl⟩
 simp only [kb_, e90] at hK0
 rw [e90]
 replace I := hK0
 clear hK0 hv hp gl p0 e90
 go_upto_region 12 with fail
 refine wp_regB [] [⟨4, some 5, BF.own [.bool false, .slice none 0 0, .bool false, .slice none 0 0], (BF.pat R.1 R.2)⟩] (fun z_ => ([VF.pair ((lo : Int)) ((hi : Int)), VF.eq (.int .i64 (80)), VF.eq (.bool false), VF.pair (R.1) (R.2)] : List VF).getD z_ VF.any) I (fun hc => ⟨?_, ?_, ?_, ?_, ?_, ?_, trivial⟩) (fun vs gl W hK0 hv hp => ?_)
 ·exact ob_getPP gx ((lo : Int)) ((hi : Int)) hc rfl fun vs gs w1 c => c.b0 2
 ·exact ob_mv hc (.inl rfl)
 ·exact ob_mv hc (.inl rfl)
 ·exact ob_call (fun v => [v 0, v 1, v 2]) hc rfl fun vs gs w1 c => hsm _ _ _ _ (c.v 0) (c.v 1) (c.v 2)
 ·exact ob_new (n := 3) [.bool false, .slice none 0 0, .bool false, .slice none 0 0] 68 rfl hc rfl rfl rfl
 ·exact ob_putP (n := 3) rfl 3 hc rfl 0
 have p0 : vs 4 = .pointer (some ⟨gl 0, 0, none⟩) := hp 0 _ rfl
 simp only [putS, Nat.reduceAdd, Act.put, List.setIfInBounds_toArray, List.set_cons_zero, List.set_cons_succ, p0]
 obtain ⟨gs, e90⟩ : ∃ n, gl 0 = n := ⟨_, rfl⟩
 simp only [kb_, e90] at hK0
 rw [e90]
 replace I := hK0
 clear hK0 hv hp gl p0 e90
 go_upto_region 14 with fail
 refine wp_regB [[(2, BF.pat (-R.2) (-R.1))]] [] (fun z_ => ([VF.pair (R.1) (R.2), VF.pair (-R.2) (-R.1)] : List VF).getD z_ VF.any) I (fun hc => ⟨?_, ?_, ?_, trivial⟩) (fun vs gl W hK0 hv hp => ?_)
 ·exact ob_getPP gs (R.1) (R.2) hc rfl fun vs gs w1 c => c.b0 3
 ·exact ob_call (fun v => [v 0]) hc rfl fun vs gs w1 c => hne _ _ (c.v 0)
 ·exact ob_putP (n := 0) rfl 1 hc rfl 0
 simp only [putS, Nat.reduceAdd, Act.put, List.setIfInBounds_toArray, List.set_cons_zero, List.set_cons_succ]
 simp only [kb_] at hK0
 replace I := hK0
 clear hK0 hv hp gl
 obtain ⟨⟨bs, us, bt, ut, x0, x1, x2, x3, x4, x5⟩, x6, -, -⟩ := (show PatP W w.heap.size (-R.2) (-R.1) from I.at 0)
 have hEx := I.e
 clear I
 go_wp2_with fail
 refine bodyPost_ret (v := .agg #[.bool bs, us, .bool bt, ut]) ?_ rfl ⟨_, rfl, ⟨_, _, _, _, rfl, x4, x5⟩, hEx⟩
 simp [results, Tryz.results35, go_sem, ↓IntWalk.iteOmega, *]
theorem q_exact0 (w : World) :
    Calls Tryz.prog 33 #[.int .i64 (-9223372036854775808)] w fun e w' => e = .returned (.tuple #[.int .i64 0, .bool false]) ∧ Ext w w' := by
 go_enter Tryz.func33, Tryz.ntmps33
 go_wp2_with fail
 refine bodyPost_ret (v := .tuple #[.int .i64 0, .bool false]) ?_ rfl ⟨rfl, ex_⟩
 simp [results, Tryz.results33, go_sem, ↓IntWalk.iteOmega, *]
theorem q_Sin0 (A : Int × Int) (n : Int) (w : World) (h : angF = some A) (h0 : okN A.1 = true) (h1 : okN A.2 = true) (e0 : A.1 / 2 ^ 40 = n) (e1 : A.2 / 2 ^ 40 = n) (k0 : -9000000000000000000 ≤ n) (k1 : n ≤ 9000000000000000000) :
    Calls Tryz.prog 14 #[.int .i64 (-9223372036854775808)] w fun e w' => e = .returned (.agg #[.int .i64 n, .int .i64 (n + 1)]) ∧ Ext w w' := by
 have hex : ∀ (w1 : World) (u1 : Value), u1 = .int .i64 (-9223372036854775808) → Calls Tryz.prog 33 #[u1] w1 fun e w' => ∃ u, e = .returned u ∧ u = .tuple #[.int .i64 0, .bool false] ∧ Ext w1 w' := fun w1 u1 a => by subst a; exact calls_eq (q_exact0 w1)
 have han : ∀ (w1 : World) (u1 u2 : Value), u1 = .int .i64 (-9223372036854775808) → u2 = .int .i64 80 → Calls Tryz.prog 35 #[u1, u2] w1 fun e w' => ∃ u, e = .returned u ∧ PairV w' u A.1 A.2 ∧ Ext w1 w' := fun w1 u1 u2 a b => by subst a b; exact q_angF A w1 h
 have hro : ∀ (w1 : World) (u1 u2 : Value), PairV w1 u1 A.1 A.2 → u2 = .int .i64 80 → Calls Tryz.prog 34 #[u1, u2] w1 fun e w' => ∃ u, e = .returned u ∧ u = .tuple #[.agg #[.int .i64 n, .int .i64 (n + 1)], .bool true] ∧ Ext w1 w' := fun w1 u1 u2 a b => by subst b; exact calls_eq (q_roundI u1 _ _ n w1 a h0 h1 e0 e1 k0 k1)
 clear h h0 h1 e0 e1
 have I0 : KBd w [] w := ⟨Ext.refl w, trivial, by simp, by simp⟩
 have I := I0.new [.int .i64 0, .int .i64 0] 31 (by simp)
 simp only [World.size_alloc, List.nil_append, List.cons_append] at I
 clear I0
 go_enter Tryz.func14, Tryz.ntmps14
 go_upto_region 1 with fail
 refine wp_regB [] [] (fun z_ => ([VF.eq (.int .i64 (-9223372036854775808)), VF.eq (.tuple #[.int .i64 0, .bool false]), VF.eq (.tuple #[.int .i64 0, .bool false]), VF.eq (.int .i64 (0)), VF.eq (.bool false), VF.eq (.int .i64 (0)), VF.eq (.bool false)] : List VF).getD z_ VF.any) I (fun hc => ⟨?_, ?_, ?_, ?_, ?_, ?_, ?_, trivial⟩) (fun vs gl W hK0 hv hp => ?_)
 ·exact ob_mv hc (.inl rfl)
 ·exact ob_call (fun v => [v 0]) hc rfl fun vs gs w1 c => hex _ _ (c.v 0)
 ·exact ob_cp 1 hc (.inl rfl)
 ·exact ob_e1 (x := .tmp 8) (a := (.tuple #[.int .i64 0, .bool false])) (u := .int .i64 (0)) (some 2) hc
 ·exact ob_e1 (x := .tmp 8) (a := (.tuple #[.int .i64 0, .bool false])) (u := .bool false) (some 2) hc
 ·exact ob_cp 3 hc (.inr rfl)
 ·exact ob_cp 4 hc (.inr rfl)
 have v5 : vs 5 = .int .i64 0 := hv 5 (by decide)
 have v6 : vs 6 = .bool false := hv 6 (by decide)
 simp only [putS, Nat.reduceAdd, Act.put, List.setIfInBounds_toArray, List.set_cons_zero, List.set_cons_succ, v5, v6]
 simp only [kb_] at hK0
 replace I := hK0
 clear hK0 hv hp gl v5 v6
 go_wp2_with fail
 refine wp_loop_rounds 1 ?_
 rw [rounds_succ]
 go_upto_region 6 with fail
 refine wp_regB [] [⟨8, some 9, BF.own [.int .i64 0, .int .i64 0], (BF.own [.int .i64 n, .int .i64 (n + 1)])⟩] (fun z_ => ([VF.eq (.int .i64 (-9223372036854775808)), VF.eq (.int .i64 (80)), VF.pair (A.1) (A.2), VF.eq (.int .i64 (80)), VF.eq (.tuple #[.agg #[.int .i64 n, .int .i64 (n + 1)], .bool true]), VF.eq (.tuple #[.agg #[.int .i64 n, .int .i64 (n + 1)], .bool true]), VF.eq (.agg #[.int .i64 n, .int .i64 (n + 1)]), VF.eq (.bool true), VF.any, VF.any, VF.eq (.bool true)] : List VF).getD z_ VF.any) I (fun hc => ⟨?_, ?_, ?_, ?_, ?_, ?_, ?_, ?_, ?_, ?_, ?_, trivial⟩) (fun vs gl W hK0 hv hp => ?_)
 ·exact ob_mv hc (.inl rfl)
 ·exact ob_mv hc (.inl rfl)
 ·exact ob_call (fun v => [v 0, v 1]) hc rfl fun vs gs w1 c => han _ _ _ (c.v 0) (c.v 1)
 ·exact ob_mv hc (.inl rfl)
 ·exact ob_call (fun v => [v 2, v 3]) hc rfl fun vs gs w1 c => hro _ _ _ (c.v 2) (c.v 3)
 ·exact ob_cp 4 hc (.inl rfl)
 ·exact ob_e1 (x := .tmp 19) (a := (.tuple #[.agg #[.int .i64 n, .int .i64 (n + 1)], .bool true])) (u := .agg #[.int .i64 n, .int .i64 (n + 1)]) (some 5) hc
 ·exact ob_e1 (x := .tmp 19) (a := (.tuple #[.agg #[.int .i64 n, .int .i64 (n + 1)], .bool true])) (u := .bool true) (some 5) hc
 ·exact ob_new (n := 1) [.int .i64 0, .int .i64 0] 31 rfl hc rfl rfl rfl
 ·exact ob_put2 (n := 1) 0 rfl (some 6) hc rfl
 ·exact ob_cp 7 hc (.inr rfl)
 have p0 : vs 8 = .pointer (some ⟨gl 0, 0, none⟩) := hp 0 _ rfl
 have v10 : vs 10 = .bool true := hv 10 (by decide)
 simp only [putS, Nat.reduceAdd, Act.put, List.setIfInBounds_toArray, List.set_cons_zero, List.set_cons_succ, p0, v10]
 obtain ⟨gi, e90⟩ : ∃ n, gl 0 = n := ⟨_, rfl⟩
 simp only [kb_, e90] at hK0
 rw [e90]
 replace I := hK0
 clear hK0 hv hp gl p0 v10 e90
 go_upto_region 8 with fail
 refine wp_regB [[(1, BF.own [.int .i64 n, .int .i64 (n + 1)])]] [] (fun z_ => ([VF.eq (.agg #[.int .i64 n, .int .i64 (n + 1)])] : List VF).getD z_ VF.any) I (fun hc => ⟨?_, ?_, trivial⟩) (fun vs gl W hK0 hv hp => ?_)
 ·exact ob_ld2 (x := .tmp 6) (g := gi) (f := 0) none hc rfl fun vs gs w1 c => ⟨c.own 1 0, c.own 1 1⟩
 ·exact ob_put2 (n := 0) 0 rfl (some 0) hc rfl
 simp only [putS, Nat.reduceAdd, Act.put, List.setIfInBounds_toArray, List.set_cons_zero, List.set_cons_succ]
 simp only [kb_] at hK0
 replace I := hK0
 clear hK0 hv hp gl
 have d0 := I.own 0 0
 have d1 := I.own 0 1
 have hE := I.e
 clear I hex han hro
 go_wp2_with fail
 refine bodyPost_ret (v := .agg #[.int .i64 n, .int .i64 (n + 1)]) ?_ rfl ⟨rfl, hE⟩
 simp [results, Tryz.results14, go_sem, ↓IntWalk.iteOmega, d0, d1]
theorem t_unit120 (vb : Value) (x r q : Int) (w : World) (hb0 : Ball w vb x r) (hr0 : 0 ≤ r) (hr1 : r ≤ 1000000000000) (hk0 : okN x = true) (hk1 : okN (x + -r) = true) (hk2 : okN (x + r) = true) (hq1 : (x + -r) / 2 ^ 80 = q) (hq2 : (x + r) / 2 ^ 80 = q) (hq3 : 0 ≤ q ∧ q ≤ 9000000000000000000) :
    Calls Tryz.prog 29 #[vb, .int .i64 120] w fun e w' => e = .returned (.tuple #[.agg #[.int .i64 q, .int .i64 (q + 1)], .bool true]) ∧ Ext w w' := by
 obtain ⟨sb, aob, nb, capb, rfl, hWx⟩ := hb0.open
 have hfl := fun w1 (k1 : Ext w w1) => t_floor120 _ x r q w1 (hb0.ext k1) hr0 hr1 hk0 hk1 hk2 hq1 hq2 hq3
 clear hq1 hq2 hWx hb0
 go_enter Tryz.func29, Tryz.ntmps29
 go_wp2_with (go_at_call 66; (with_reducible refine (hfl _ ex_).mono ?_); rintro e w1 ⟨rfl, hb⟩; obtain ⟨_, _, ⟨hc, hf⟩, hz⟩ := hb.c3; (try simp only [wsz] at hz hc hf))
 refine bodyPost_ret (v := .tuple #[.agg #[.int .i64 q, .int .i64 (q + 1)], .bool true]) ?_ rfl ⟨rfl, ?_⟩
 ·simp [results, Tryz.results29, go_sem, ↓IntWalk.iteOmega, *]
 ·exact b_0
theorem t_Pi (w : World) : Calls Tryz.prog 30 #[] w fun e w' => e = .returned (.agg #[.int .i64 3454217652357, .int .i64 3454217652358]) ∧ Ext w w' := by
 have hpi : ∀ w, Calls Tryz.prog 25 #[.int .i64 120] w fun e w' => ∃ u, e = .returned u ∧ Ball w' u 4175892906503776358826876457663557616 2664 ∧ Ext w w' := fun w =>
  t_pi 120 60 73770166896822829355237547328900946 23317397332039735124298028429839709 (5561590958449548710103136193927924) 14 10 7 w (by decide) (by decide) (by decide) (by decide) (by decide) c_2 c_2 c_2 c_2 c_2 c_2 c_2 c_2
 have hun := fun v w1 (hb : Ball w1 v 4175892906503776358826876457663557616 2664) => t_unit120 v 4175892906503776358826876457663557616 2664 3454217652357 w1 hb (by decide) (by decide) c_2 c_2 c_2 c_2 c_2 (by decide)
 obtain ⟨X, hX⟩ : ∃ X : Int, X = 4175892906503776358826876457663557616 := ⟨_, rfl⟩
 rw [← hX] at hpi hun
 clear hX
 go_enter Tryz.func30, Tryz.ntmps30
 go_wp2_with (first
  | (go_at_call 25; (with_reducible refine (hpi _).mono ?_); rintro e w1 ⟨y1, rfl, hy1, hb⟩; obtain ⟨_, _, ⟨hc, hf⟩, hz⟩ := hb.c3; (try simp only [wsz] at hz hc hf))
  | (go_at_call 29; (with_reducible refine (hun _ _ hy1).mono ?_); rintro e w2 ⟨rfl, hb2⟩; obtain ⟨_, _, ⟨hc2, hf2⟩, hz2⟩ := hb2.c3; (try simp only [wsz] at hz2 hc2 hf2)))
 refine bodyPost_ret (v := .agg #[.int .i64 3454217652357, .int .i64 3454217652358]) ?_ rfl ⟨rfl, ?_⟩
 ·simp [results, Tryz.results30, go_sem, ↓IntWalk.iteOmega, *]
 ·exact b_0
theorem cl_a1 : atF 1 1 = some 162000000000 := by kernel_rfl
theorem cl_a2 : atF (-1) 0 = some 972000000000 := by kernel_rfl
theorem cl_a3 : atF 1 2 = some 95634184237 := by kernel_rfl
theorem cl_a4 : atF (-1) 4611686018427387904 = some 1295999999999 := by kernel_rfl
theorem cl_c1 : arcF 0 0 1 = some (1099511627776, 1099511627776) := by kernel_rfl
theorem cl_c2 : arcF (-70368744177664) 70368744177664 0 = some (-1099511627776, 1099511627776) := by kernel_rfl
theorem cl_c3 : arcF 0 1 0 = some (0, 1) := by kernel_rfl
theorem cl_s1 : sinF 108000000000 = some (549755813888, 549755813888) := by kernel_rfl
theorem cl_s2 : sinF 162000000000 = some (777472127993, 777472127994) := by kernel_rfl
theorem cl_s3 : sinF 648000000000 = some (0, 0) := by kernel_rfl
theorem cl_s4 : sinF (-9223372036854775808) = some (-582404753263, -582404753262) := by kernel_rfl
theorem cl_r1 : radiF (-1296000000000) = some (-6908435304716) := by kernel_rfl
def angB : Bool := match angF with
 | some A => okN A.1 && (okN A.2 && (decide (A.1 / 2 ^ 40 = -582404753263) && decide (A.2 / 2 ^ 40 = -582404753263)))
 | none => false
theorem cl_ang : angB = true := by kernel_rfl
theorem cl_Sin0 (w : World) : Calls Tryz.prog 14 #[.int .i64 (-9223372036854775808)] w fun e w' => e = .returned (.agg #[.int .i64 (-582404753263), .int .i64 (-582404753262)]) ∧ Ext w w' := by
 have h := cl_ang
 unfold angB at h
 split at h
 ·rename_i A hA
  simp only [Bool.and_eq_true, decide_eq_true_eq] at h
  exact q_Sin0 A _ w hA h.1 h.2.1 h.2.2.1 h.2.2.2 (by decide) (by decide)
 ·cases h
theorem eq_iv (a b : Int) (d : Nat) (w : World) : (Op.equalIn (d + 1 + 1) 31 (.agg #[.int .i64 a, .int .i64 b]) (.agg #[.int .i64 a, .int .i64 b])).run Tryz.prog w = .ok true w := by
 rw [run_equalIn_agg w (d + 1) 31 _ _ (by simp [Program.fieldsOf, Tryz.underlying31]) c_2]
 simp [Op.eqFields, Program.fieldsOf, Tryz.underlying31, go_sem, Tryz.underlying2]
end Go.Proofs.YtogblocakccbgaaGreat
