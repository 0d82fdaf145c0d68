/- trig: Radians. -/
import Derived.Test.YtogblocakccbgaaGreatU22
set_option linter.unusedSimpArgs false
set_option linter.unusedVariables false
set_option maxRecDepth 100000
set_option maxHeartbeats 4000000
namespace Go.Proofs.YtogblocakccbgaaGreat
open Go.RowKit
theorem T_TRR_1 {p : Prop} (h : p := by
 go_wp2_with fail
 try rw [Exit.noGoto_ret]
 refine bodyPost_ret (v := .tuple #[.agg #[.int .i64 0, .int .i64 0], .int .i64 2]) ?_ rfl ⟨rfl, ?_⟩
 ·simp [results, Tryz.results10, go_sem, ↓IntWalk.iteOmega, *]
 ·repeat (first | with_reducible exact Ext.refl _ | with_reducible assumption | with_reducible refine Ext.alloc ?_ _ | with_reducible refine Ext.setCell ?_ c_17 _ | with_reducible refine Ext.drewN ?_ _ | with_reducible refine Ext.drew ?_ | with_reducible refine Ext.trans ?_ c_18)) : p := h
def radiF (a : Int) : Option Int := (piF 120).bind fun P =>
 if okN (P.v * (2 * a)) = true then floorF (P.v * (2 * a) / 1296000000000) (200 * P.r + 1) 120 else none
theorem t_RadBad (a : Int) (w : World) (h0 : a < -129600000000000 ∨ 129600000000000 < a) :
    Calls Tryz.prog 10 #[.int .i64 a] w fun e w' => e = .returned (.tuple #[.agg #[.int .i64 0, .int .i64 0], .int .i64 2]) ∧ Ext w w' := by
 go_enter Tryz.func10, Tryz.ntmps10
 go_upto_region 1 with fail
 go_step3
 rcases h0 with h | h
 ·exact T_TRR_1
 ·have h' : ¬ a < -129600000000000 := by omega
  exact T_TRR_1
theorem t_Rad (a q : Int) (w : World) (h0 : -129600000000000 ≤ a) (h1 : a ≤ 129600000000000) (ha : ¬ a = 0) (hF : radiF a = some q) :
    Calls Tryz.prog 10 #[.int .i64 a] w fun e w' => e = .returned (.tuple #[.agg #[.int .i64 q, .int .i64 (q + 1)], .int .i64 0]) ∧ Ext w w' := by
 unfold radiF at hF
 rw [Option.bind_eq_some_iff] at hF
 obtain ⟨P, hP, hF⟩ := hF
 split at hF
 case isFalse => cases hF
 rename_i km
 obtain ⟨x, hx⟩ : ∃ x, P.v * (2 * a) / 1296000000000 = x := ⟨_, rfl⟩
 obtain ⟨r, hr⟩ : ∃ r, 200 * P.r + 1 = r := ⟨_, rfl⟩
 rw [hx, hr] at hF
 obtain ⟨-, kP, kP0, kr0, kr1, -⟩ := t_piF w hP
 have hpi : ∀ w1 u, u = .int .i64 120 → Calls Tryz.prog 25 #[u] w1 fun e w' => ∃ u, e = .returned u ∧ Ball w' u P.v P.r ∧ Ext w1 w' := fun w1 u hu => by subst hu; exact (t_piF w1 hP).1
 have hn2 : ∀ (w1 : World) (u1 : Value), u1 = .int .i64 (2 * a) → Calls Tryz.prog 28 #[u1] w1 fun e w' => ∃ u, e = .returned u ∧ Wid w' u (2 * a) ∧ Ext w1 w' := fun w1 u1 k => by subst k; exact t_numZ _ _ (by omega) (by omega)
 have hsz2 : Sz (2 * a) := dig_bits (k := 64) (L := 4096) (by omega) (by decide)
 have hmu : ∀ (w1 : World) (u1 u2 : Value), Wid w1 u1 P.v → Wid w1 u2 (2 * a) → Calls Tryz.prog 27 #[u1, u2] w1 fun e w' => ∃ u, e = .returned u ∧ Wid w' u (P.v * (2 * a)) ∧ Ext w1 w' := fun w1 u1 u2 k1 k2 => t_mulZ u1 u2 _ _ w1 k1 k2 (okN.sz kP) hsz2 (okN.sz km)
 have hdv : ∀ (w1 : World) (u1 u2 : Value), Wid w1 u1 (P.v * (2 * a)) → Wid w1 u2 1296000000000 → Calls Tryz.prog 26 #[u1, u2] w1 fun e w' => ∃ u, e = .returned u ∧ Wid w' u x ∧ Ext w1 w' := fun w1 u1 u2 k1 k2 => by
  rw [← hx]
  exact t_divZ u1 u2 _ 1296000000000 w1 k1 (k2.nn (by decide)) (okN.sz km) (dig_bits (k := 64) (L := 4096) (by decide) (by decide)) (by decide)
 have hun : ∀ (w1 : World) (u1 u2 : Value), Ball w1 u1 x r → u2 = .int .i64 120 → Calls Tryz.prog 29 #[u1, u2] w1 fun e w' => ∃ u, e = .returned u ∧ u = .tuple #[.agg #[.int .i64 q, .int .i64 (q + 1)], .bool true] ∧ Ext w1 w' := fun w1 u1 u2 k1 k2 => by
  subst k2
  exact calls_eq (t_unit u1 x r q 120 w1 k1 (by omega) (by omega) (by decide) (by decide) hF)
 clear hP hF km hsz2 hx kP
 have I0 : KBd w [] w := ⟨Ext.refl w, trivial, by simp, by simp⟩
 have I := I0.new [.int .i64 0, .int .i64 0] 31 (by simp)
 simp only [List.nil_append] at I
 clear I0
 go_enter Tryz.func10, Tryz.ntmps10
 go_upto_region 1 with fail
 go_step3
 have hn0 : ¬ a < -129600000000000 := by omega
 have hn1 : ¬ 129600000000000 < a := by omega
 go_wp2_with fail
 go_step3
 go_upto_region 6 with fail
 refine wp_regB [] [⟨2, some 3, BF.own [.bool false, .slice none 0 0, .int .i64 0], (BF.bat P.v P.r)⟩] (fun z_ => ([VF.eq (.int .i64 (120)), VF.ball (P.v) (P.r)] : List VF).getD z_ VF.any) I (fun hc => ⟨?_, ?_, ?_, ?_, trivial⟩) (fun vs gl W hK0 hv hp => ?_)
 ·exact ob_mv hc (.inl rfl)
 ·exact b_19
 ·exact ob_new (n := 1) [.bool false, .slice none 0 0, .int .i64 0] 57 rfl hc rfl rfl rfl
 ·exact ob_putB (n := 1) rfl 1 hc rfl 0
 have p0 : vs 2 = .pointer (some ⟨gl 0, 0, none⟩) := hp 0 _ rfl
 simp only [putS, Nat.reduceAdd, Act.put, List.setIfInBounds_toArray, List.set_cons_zero, List.set_cons_succ, p0]
 obtain ⟨gp, e90⟩ : ∃ n, gl 0 = n := ⟨_, rfl⟩
 simp only [kb_, e90] at hK0
 rw [e90]
 replace I := hK0
 clear hK0 hv hp gl p0 e90
 go_upto_region 7 with fail
 refine wp_regB [] [⟨18, some 19, BF.own [.int .i64 0, .int .i64 0], (BF.own [.int .i64 q, .int .i64 (q + 1)])⟩] (fun z_ => ([VF.eq (.pointer (some ⟨gp, 0, none⟩)), VF.wid (P.v), VF.eq (.int .i64 (a)), VF.eq (.int .i64 (2 * a)), VF.wid (2 * a), VF.wid (P.v * (2 * a)), VF.wid (1296000000000), VF.wid (x), VF.eq (.pointer (some ⟨gp, 2, none⟩)), VF.eq (.int .i64 (P.r)), VF.eq (.int .i64 (200 * P.r)), VF.eq (.int .i64 (r)), VF.ball (x) (r), VF.eq (.int .i64 (120)), VF.eq (.tuple #[.agg #[.int .i64 q, .int .i64 (q + 1)], .bool true]), VF.eq (.tuple #[.agg #[.int .i64 q, .int .i64 (q + 1)], .bool true]), VF.eq (.agg #[.int .i64 q, .int .i64 (q + 1)]), VF.eq (.bool true), VF.any, VF.any, VF.eq (.bool true)] : List VF).getD z_ VF.any) I (fun hc => ⟨?_, ?_, ?_, ?_, ?_, ?_, ?_, ?_, ?_, ?_, ?_, ?_, ?_, ?_, ?_, ?_, ?_, ?_, ?_, ?_, ?_, trivial⟩) (fun vs gl W hK0 hv hp => ?_)
 ·exact ob_e1 (x := .tmp 5) (a := .pointer (some ⟨gp, 0, none⟩)) (u := .pointer (some ⟨gp, 0, none⟩)) none hc
 ·exact ob_getN gp P.v P.r (some 0) hc rfl fun vs gs w1 c => c.b0 1
 ·exact ob_mv hc (.inl rfl)
 ·exact ob_e2 (x := .const (.int .i64 2)) (y := .tmp 23) (a := .int .i64 2) (b := (.int .i64 (a))) (u := .int .i64 (2 * a)) none (some 2) hc (hs := by intro ρ w1 h k; go_simp; first | done | (simp only [IntKind.wrap_i64]; omega))
 ·exact ob_call (fun v => [v 3]) hc rfl fun vs gs w1 c => hn2 _ _ (c.v 3)
 ·exact ob_call (fun v => [v 1, v 4]) hc rfl fun vs gs w1 c => hmu _ _ _ (c.v 1) (c.v 4)
 ·exact ob_call (fun v => [.int .i64 1296000000000]) hc rfl fun vs gs w1 c => t_numZ 1296000000000 _ (by decide) (by decide)
 ·exact ob_call (fun v => [v 5, v 6]) hc rfl fun vs gs w1 c => hdv _ _ _ (c.v 5) (c.v 6)
 ·exact ob_e1 (x := .tmp 5) (a := .pointer (some ⟨gp, 0, none⟩)) (u := .pointer (some ⟨gp, 2, none⟩)) none hc
 ·exact ob_ld (x := .tmp 29) (g := gp) (f := 2) (u := .int .i64 (P.r)) (some 8) hc fun vs gs w1 c => BatP.r (c.b0 1)
 ·exact ob_e2 (x := .const (.int .i64 200)) (y := .tmp 30) (a := .int .i64 200) (b := (.int .i64 (P.r))) (u := .int .i64 (200 * P.r)) none (some 9) hc (hs := by intro ρ w1 h k; go_simp; first | done | (simp only [IntKind.wrap_i64]; omega))
 ·exact ob_e2 (x := .tmp 31) (y := .const (.int .i64 1)) (a := (.int .i64 (200 * P.r))) (b := .int .i64 1) (u := .int .i64 (r)) (some 10) none hc (hs := by intro ρ w1 h k; go_simp; first | done | (simp only [IntKind.wrap_i64]; omega))
 ·exact ob_buildB (q := x) (r := r) 7 (some 11) hc rfl
 ·exact ob_mv hc (.inl rfl)
 ·exact ob_call (fun v => [v 12, v 13]) hc rfl fun vs gs w1 c => hun _ _ _ (c.v 12) (c.v 13)
 ·exact ob_cp 14 hc (.inl rfl)
 ·exact ob_e1 (x := .tmp 20) (a := (.tuple #[.agg #[.int .i64 q, .int .i64 (q + 1)], .bool true])) (u := .agg #[.int .i64 q, .int .i64 (q + 1)]) (some 15) hc
 ·exact ob_e1 (x := .tmp 20) (a := (.tuple #[.agg #[.int .i64 q, .int .i64 (q + 1)], .bool true])) (u := .bool true) (some 15) hc
 ·exact ob_new (n := 2) [.int .i64 0, .int .i64 0] 31 rfl hc rfl rfl rfl
 ·exact ob_put2 (n := 2) 0 rfl (some 16) hc rfl
 ·exact ob_cp 17 hc (.inr rfl)
 have p0 : vs 18 = .pointer (some ⟨gl 0, 0, none⟩) := hp 0 _ rfl
 have v20 : vs 20 = .bool true := hv 20 (by decide)
 simp only [putS, Nat.reduceAdd, Act.put, List.setIfInBounds_toArray, List.set_cons_zero, List.set_cons_succ, p0, v20]
 obtain ⟨gi, e90⟩ : ∃ n, gl 0 = n := ⟨_, rfl⟩
 simp only [kb_, e90] at hK0
 rw [e90]
 replace I := hK0
 clear hK0 hv hp gl p0 v20 e90
 have c0 := I.own 2 0
 have c1 := I.own 2 1
 have d0 := I.own 0 0
 have d1 := I.own 0 1
 obtain ⟨-, f0, -, hlt⟩ := (show (BF.own [.int .i64 0, .int .i64 0]).p w.heap.size W from I.at 0)
 have hE := I.e
 clear I hpi hn2 hmu hdv hun
 go_wp2_with fail
 try rw [Exit.noGoto_ret]
 refine bodyPost_ret (v := .tuple #[.agg #[.int .i64 q, .int .i64 (q + 1)], .int .i64 0]) ?_ rfl ⟨rfl, ?_⟩
 ·simp [results, Tryz.results10, go_sem, ↓IntWalk.iteOmega, *]
 ·exact b_0
theorem T_TRA_1 {p : Prop} (h : p := by
 exact ob_e1 (x := .tmp 8) (a := .pointer (some ⟨gp, 0, none⟩)) (u := .pointer (some ⟨gp, 0, none⟩)) none hc) : p := h
def radQ (n : Int) (P : Bl) : Int := n * 2 ^ 90 * 2 ^ 1 / P.v
def radB (n : Int) (P : Bl) : Bl := ⟨n * 2 ^ 90 - radQ n P * P.v / 2, 100 * P.r + 1⟩
def radF (n m : Int) : Option (Int × Int) := (piF 130).bind fun P =>
 if 0 < P.v ∧ -100000000000 ≤ radQ n P ∧ radQ n P ≤ 100000000000 ∧ okN (n * 2 ^ 90) = true ∧ okN (n * 2 ^ 90 * 2 ^ 1) = true ∧ okN (radQ n P * P.v) = true ∧ okN (radQ n P * P.v / 2) = true ∧ okN (radB n P).v = true ∧ okN (P.v / 2) = true ∧ okN (P.v / 2 - (radB n P).v) = true ∧ (radB n P).r < (radB n P).v ∧ 2 * (radB n P).r < P.v / 2 - (radB n P).v then
  (turnF ((radQ n P + m) % 4) (radB n P) P 130).bind fun T => if 0 ≤ T.r ∧ T.r ≤ 9000000000000000000 then (floorF T.v T.r 130).bind fun f => some (radQ n P, f) else none
 else none
theorem tmod4 (q : Int) : (q.tmod 4 + 4).tmod 4 = q % 4 ∧ -4 < q.tmod 4 ∧ q.tmod 4 < 4 := by
 rcases Int.le_total 0 q with h | h
 ·rw [Int.tmod_eq_emod_of_nonneg h, Int.tmod_eq_emod_of_nonneg (by omega)]; omega
 ·obtain ⟨c, rfl⟩ : ∃ c, q = -c := ⟨-q, by omega⟩
  rw [Int.neg_tmod, Int.tmod_eq_emod_of_nonneg (a := c) (by omega), Int.tmod_eq_emod_of_nonneg (by omega)]; omega
theorem t_radian (n m q f : Int) (w : World) (h0 : -9000000000000000000 ≤ n) (h1 : n ≤ 9000000000000000000) (hn : ¬ n = 0) (hm : m = 0 ∨ m = 1) (hF : radF n m = some (q, f)) :
    Calls Tryz.prog 61 #[.int .i64 n, .int .i64 m] w fun e w' => e = .returned (.tuple #[.int .i64 q, .agg #[.int .i64 f, .int .i64 (f + 1)]]) ∧ Ext w w' := by
 unfold radF at hF
 rw [Option.bind_eq_some_iff] at hF
 obtain ⟨P, hP, hF⟩ := hF
 split at hF
 case isFalse => cases hF
 rename_i k0
 obtain ⟨z0, z1, z2, z3, z4, z5, z6, z7, z8, z9, z10, z11⟩ := k0
 rw [Option.bind_eq_some_iff] at hF
 obtain ⟨T, hT, hF⟩ := hF
 split at hF
 case isFalse => cases hF
 rename_i k1
 rw [Option.bind_eq_some_iff] at hF
 obtain ⟨f', hf, hF⟩ := hF
 have hF2 := Option.some.inj hF
 have e1 : radQ n P = q := congrArg Prod.fst hF2
 have e2 : f' = f := congrArg Prod.snd hF2
 subst e2
 rw [e1] at z1 z2 z5 z6 hT
 clear hF hF2
 obtain ⟨b, hb⟩ : ∃ b, radB n P = b := ⟨_, rfl⟩
 have hbv : n * 2 ^ 90 - q * P.v / 2 = b.v := by rw [← hb, ← e1]; rfl
 have hbr0 : 100 * P.r + 1 = b.r := by rw [← hb]; rfl
 rw [hb] at z7 z9 z10 z11 hT
 unfold radQ at e1
 obtain ⟨x, hx⟩ : ∃ x, n * 2 ^ 90 = x := ⟨_, rfl⟩
 rw [hx] at z3 z4 hbv e1
 obtain ⟨h, hh⟩ : ∃ h, q * P.v / 2 = h := ⟨_, rfl⟩
 rw [hh] at z6 hbv
 obtain ⟨ph, hph0⟩ : ∃ ph, P.v / 2 = ph := ⟨_, rfl⟩
 rw [hph0] at z8 z9 z11
 obtain ⟨o, ho⟩ : ∃ o, ph - b.v = o := ⟨_, rfl⟩
 rw [ho] at z9 z11
 obtain ⟨-, kP, kP0, kr0, kr1, -⟩ := t_piF w hP
 have hpi : ∀ w1 u, u = .int .i64 130 → Calls Tryz.prog 25 #[u] w1 fun e w' => ∃ u, e = .returned u ∧ Ball w' u P.v P.r ∧ Ext w1 w' := fun w1 u hu => by subst hu; exact (t_piF w1 hP).1
 have hnn : ∀ (w1 : World) (u1 : Value), u1 = .int .i64 n → Calls Tryz.prog 28 #[u1] w1 fun e w' => ∃ u, e = .returned u ∧ Wid w' u n ∧ Ext w1 w' := fun w1 u1 k => by subst k; exact t_numZ _ _ (by omega) (by omega)
 have hbr : ∀ (w1 : World) (u1 : Value), u1 = .int .i64 b.r → Calls Tryz.prog 28 #[u1] w1 fun e w' => ∃ u, e = .returned u ∧ Wid w' u b.r ∧ Ext w1 w' := fun w1 u1 k => by subst k; exact t_numZ _ _ (by omega) (by omega)
 have hb2 : ∀ (w1 : World) (u1 : Value), u1 = .int .i64 (2 * b.r) → Calls Tryz.prog 28 #[u1] w1 fun e w' => ∃ u, e = .returned u ∧ Wid w' u (2 * b.r) ∧ Ext w1 w' := fun w1 u1 k => by subst k; exact t_numZ _ _ (by omega) (by omega)
 have szn : Sz n := dig_bits (k := 64) (L := 4096) (by omega) (by decide)
 have szr : Sz b.r := dig_bits (k := 64) (L := 4096) (by omega) (by decide)
 have szr2 : Sz (2 * b.r) := dig_bits (k := 64) (L := 4096) (by omega) (by decide)
 have szq : Sz q := dig_bits (k := 64) (L := 4096) (by omega) (by decide)
 have hxs : ∀ (w1 : World) (u1 u2 : Value), Wid w1 u1 n → u2 = .int .i64 90 → Calls Tryz.prog 118 #[u1, u2] w1 fun e w' => ∃ u, e = .returned u ∧ Wid w' u x ∧ Ext w1 w' := fun w1 u1 u2 k1 k2 => by
  subst k2
  have := t_shiftU u1 n 90 w1 k1 szn (by decide) (by rw [hx]; exact okN.sz z3)
  rw [hx] at this
  exact this
 have hx2 : ∀ (w1 : World) (u1 : Value), Wid w1 u1 x → Calls Tryz.prog 118 #[u1, .int .i64 1] w1 fun e w' => ∃ u, e = .returned u ∧ Wid w' u (x * 2 ^ 1) ∧ Ext w1 w' := fun w1 u1 k1 => t_shiftU u1 x 1 w1 k1 (okN.sz z3) (by decide) (okN.sz z4)
 have hqd : ∀ (w1 : World) (u1 u2 : Value), Wid w1 u1 (x * 2 ^ 1) → Wid w1 u2 P.v → Calls Tryz.prog 26 #[u1, u2] w1 fun e w' => ∃ u, e = .returned u ∧ Wid w' u q ∧ Ext w1 w' := fun w1 u1 u2 k1 k2 => by
  rw [← e1]
  have e : P.v = ((P.v.natAbs : Nat) : Int) := by omega
  have := t_divZ u1 u2 _ P.v.natAbs w1 k1 (k2.nn (by omega)) (okN.sz z4) (okN.sz kP) (by omega)
  rw [← e] at this
  exact this
 have hqi : ∀ (w1 : World) (u1 : Value), Wid w1 u1 q → Calls Tryz.prog 119 #[u1] w1 fun e w' => ∃ u, e = .returned u ∧ u = .tuple #[.int .i64 q, .int .i64 0] ∧ Ext w1 w' := fun w1 u1 k1 => calls_eq (z_Int u1 q w1 k1 (by omega) (by omega))
 have hqp : ∀ (w1 : World) (u1 u2 : Value), Wid w1 u1 q → Wid w1 u2 P.v → Calls Tryz.prog 27 #[u1, u2] w1 fun e w' => ∃ u, e = .returned u ∧ Wid w' u (q * P.v) ∧ Ext w1 w' := fun w1 u1 u2 k1 k2 => t_mulZ u1 u2 _ _ w1 k1 k2 szq (okN.sz kP) (okN.sz z5)
 have hhf : ∀ (w1 : World) (u1 : Value), Wid w1 u1 (q * P.v) → Calls Tryz.prog 118 #[u1, .int .i64 (-1)] w1 fun e w' => ∃ u, e = .returned u ∧ Wid w' u h ∧ Ext w1 w' := fun w1 u1 k => by
  have := t_shiftD u1 (q * P.v) 1 w1 k (okN.sz z5) (by decide) (by decide)
  rw [Int.pow_one, hh] at this
  exact this
 have hbs : ∀ (w1 : World) (u1 u2 : Value), Wid w1 u1 x → Wid w1 u2 h → Calls Tryz.prog 57 #[u1, u2] w1 fun e w' => ∃ u, e = .returned u ∧ Wid w' u b.v ∧ Ext w1 w' := fun w1 u1 u2 k1 k2 => by
  have := t_subZ u1 u2 _ _ w1 k1 k2 (okN.sz z3) (okN.sz z6) (by rw [hbv]; exact okN.sz z7)
  rw [hbv] at this
  exact this
 have hph : ∀ (w1 : World) (u1 : Value), Wid w1 u1 P.v → Calls Tryz.prog 118 #[u1, .int .i64 (-1)] w1 fun e w' => ∃ u, e = .returned u ∧ Wid w' u ph ∧ Ext w1 w' := fun w1 u1 k => by
  have := t_shiftD u1 P.v 1 w1 k (okN.sz kP) (by decide) (by decide)
  rw [Int.pow_one, hph0] at this
  exact this
 have hos : ∀ (w1 : World) (u1 u2 : Value), Wid w1 u1 ph → Wid w1 u2 b.v → Calls Tryz.prog 57 #[u1, u2] w1 fun e w' => ∃ u, e = .returned u ∧ Wid w' u o ∧ Ext w1 w' := fun w1 u1 u2 k1 k2 => by
  have := t_subZ u1 u2 _ _ w1 k1 k2 (okN.sz z8) (okN.sz z7) (by rw [ho]; exact okN.sz z9)
  rw [ho] at this
  exact this
 have hc1 : ∀ (w1 : World) (u1 u2 : Value), Wid w1 u1 b.v → Wid w1 u2 b.r → Calls Tryz.prog 56 #[u1, u2] w1 fun e w' => ∃ u, e = .returned u ∧ u = .tuple #[.int .i64 1, .int .i64 0] ∧ Ext w1 w' := fun w1 u1 u2 k1 k2 => by
  have := z_Cmp u1 u2 _ _ w1 k1 k2 (okN.sz z7) szr
  rw [cmp_gt z10] at this
  exact calls_eq this
 have hc2 : ∀ (w1 : World) (u1 u2 : Value), Wid w1 u1 o → Wid w1 u2 (2 * b.r) → Calls Tryz.prog 56 #[u1, u2] w1 fun e w' => ∃ u, e = .returned u ∧ u = .tuple #[.int .i64 1, .int .i64 0] ∧ Ext w1 w' := fun w1 u1 u2 k1 k2 => by
  have := z_Cmp u1 u2 _ _ w1 k1 k2 (okN.sz z9) szr2
  rw [cmp_gt z11] at this
  exact calls_eq this
 obtain ⟨r1, hr1⟩ : ∃ r1, (q + m).tmod 4 = r1 := ⟨_, rfl⟩
 obtain ⟨k, hk⟩ : ∃ k, (r1 + 4).tmod 4 = k := ⟨_, rfl⟩
 obtain ⟨t4, hr4⟩ := tmod4 (q + m)
 rw [hr1] at t4 hr4
 rw [hk] at t4
 rw [← t4] at hT
 have hk4 : k = 0 ∨ k = 1 ∨ k = 2 ∨ k = 3 := by omega
 have htu : ∀ (w1 : World) (u0 u1 u2 : Value), u0 = .int .i64 k → Ball w1 u1 b.v b.r → u2 = .int .i64 130 → Calls Tryz.prog 67 #[u0, u1, u2] w1 fun e w' => ∃ u, e = .returned u ∧ Ball w' u T.v T.r ∧ Ext w1 w' := fun w1 u0 u1 u2 k0 k1 k2 => by
  subst k0 k2
  exact t_turned u1 _ b P T 130 w1 k1 hk4 (by decide) hP hT
 have hun : ∀ (w1 : World) (u1 u2 : Value), Ball w1 u1 T.v T.r → u2 = .int .i64 130 → Calls Tryz.prog 29 #[u1, u2] w1 fun e w' => ∃ u, e = .returned u ∧ u = .tuple #[.agg #[.int .i64 f', .int .i64 (f' + 1)], .bool true] ∧ Ext w1 w' := fun w1 u1 u2 j1 j2 => by
  subst j2
  exact calls_eq (t_unit u1 T.v T.r f' 130 w1 j1 k1.1 k1.2 (by decide) (by decide) hf)
 clear hP hT hf hb hbv hx e1 hh hph0 ho z3 z4 z5 z6 z7 z8 z9 z10 z11 k1 kP szn szr szr2 szq t4 hk4
 obtain ⟨f, hf⟩ : ∃ f, f' = f := ⟨_, rfl⟩
 rw [hf] at hun ⊢
 clear hf
 have I0 : KBd w [] w := ⟨Ext.refl w, trivial, by simp, by simp⟩
 have I := I0.new [.int .i64 0, .int .i64 0] 31 (by simp)
 simp only [List.nil_append] at I
 clear I0
 go_enter Tryz.func61, Tryz.ntmps61
 go_upto_region 1 with fail
 go_step3
 go_wp2_with fail
 go_step3
 go_upto_region 4 with fail
 refine wp_regB [] [⟨5, some 6, BF.b2, (BF.wat x)⟩] (fun z_ => ([VF.eq (.int .i64 (n)), VF.wid (n), VF.eq (.int .i64 (130)), VF.eq (.int .i64 (90)), VF.wid (x)] : List VF).getD z_ VF.any) I (fun hc => ⟨?_, ?_, ?_, ?_, ?_, ?_, ?_, trivial⟩) (fun vs gl W hK0 hv hp => ?_)
 ·exact ob_mv hc (.inl rfl)
 ·exact b_22
 ·exact ob_mv hc (.inl rfl)
 ·exact b_23
 ·exact b_24
 ·exact ob_allocW (n := 1) rfl hc rfl rfl rfl
 ·exact ob_putW (n := 1) rfl 4 hc rfl 0
 have p0 : vs 5 = .pointer (some ⟨gl 0, 0, none⟩) := hp 0 _ rfl
 simp only [putS, Nat.reduceAdd, Act.put, List.setIfInBounds_toArray, List.set_cons_zero, List.set_cons_succ, p0]
 obtain ⟨gx, e90⟩ : ∃ n, gl 0 = n := ⟨_, rfl⟩
 simp only [kb_, e90] at hK0
 rw [e90]
 replace I := hK0
 clear hK0 hv hp gl p0 e90
 go_upto_region 5 with fail
 refine wp_regB [] [⟨2, some 3, BF.own [.bool false, .slice none 0 0, .int .i64 0], (BF.bat P.v P.r)⟩] (fun z_ => ([VF.eq (.int .i64 (130)), VF.ball (P.v) (P.r)] : List VF).getD z_ VF.any) I (fun hc => ⟨?_, ?_, ?_, ?_, trivial⟩) (fun vs gl W hK0 hv hp => ?_)
 ·exact ob_mv hc (.inl rfl)
 ·exact b_19
 ·exact b_20
 ·exact ob_putB (n := 2) rfl 1 hc rfl 0
 have p0 : vs 2 = .pointer (some ⟨gl 0, 0, none⟩) := hp 0 _ rfl
 simp only [putS, Nat.reduceAdd, Act.put, List.setIfInBounds_toArray, List.set_cons_zero, List.set_cons_succ, p0]
 obtain ⟨gp, e90⟩ : ∃ n, gl 0 = n := ⟨_, rfl⟩
 simp only [kb_, e90] at hK0
 rw [e90]
 replace I := hK0
 clear hK0 hv hp gl p0 e90
 go_upto_region 6 with fail
 refine wp_regB [] [⟨5, some 6, BF.b2, (BF.wat q)⟩] (fun z_ => ([VF.wid (x), VF.wid (x * 2 ^ 1), VF.eq (.pointer (some ⟨gp, 0, none⟩)), VF.wid (P.v), VF.wid (q)] : List VF).getD z_ VF.any) I (fun hc => ⟨?_, ?_, ?_, ?_, ?_, ?_, ?_, trivial⟩) (fun vs gl W hK0 hv hp => ?_)
 ·exact b_25
 ·exact b_26
 ·exact T_TRA_1
 ·exact b_27
 ·exact b_28
 ·exact b_29
 ·exact ob_putW (n := 3) rfl 4 hc rfl 0
 have p0 : vs 5 = .pointer (some ⟨gl 0, 0, none⟩) := hp 0 _ rfl
 simp only [putS, Nat.reduceAdd, Act.put, List.setIfInBounds_toArray, List.set_cons_zero, List.set_cons_succ, p0]
 obtain ⟨gq, e90⟩ : ∃ n, gl 0 = n := ⟨_, rfl⟩
 simp only [kb_, e90] at hK0
 rw [e90]
 replace I := hK0
 clear hK0 hv hp gl p0 e90
 go_upto_region 7 with fail
 refine wp_regB [] [] (fun z_ => ([VF.wid (q), VF.eq (.tuple #[.int .i64 q, .int .i64 0]), VF.eq (.tuple #[.int .i64 q, .int .i64 0]), VF.eq (.int .i64 (q)), VF.eq (.int .i64 (0)), VF.eq (.int .i64 (q)), VF.eq (.int .i64 (0))] : List VF).getD z_ VF.any) I (fun hc => ⟨?_, ?_, ?_, ?_, ?_, ?_, ?_, trivial⟩) (fun vs gl W hK0 hv hp => ?_)
 ·exact b_30
 ·exact b_31
 ·exact ob_cp 1 hc (.inl rfl)
 ·exact b_32
 ·exact b_33
 ·exact ob_cp 3 hc (.inr rfl)
 ·exact ob_cp 4 hc (.inr rfl)
 have v5 : vs 5 = .int .i64 q := hv 5 (by decide)
 have v6 : vs 6 = .int .i64 0 := hv 6 (by decide)
 simp only [putS, Nat.reduceAdd, Act.put, List.setIfInBounds_toArray, List.set_cons_zero, List.set_cons_succ, v5, v6]
 simp only [kb_] at hK0
 replace I := hK0
 clear hK0 hv hp gl v5 v6
 go_upto_region 8 with fail
 refine wp_regB [] [⟨12, some 13, BF.own [.bool false, .slice none 0 0, .int .i64 0], (BF.bat b.v b.r)⟩] (fun z_ => ([VF.wid (x), VF.wid (q), VF.eq (.pointer (some ⟨gp, 0, none⟩)), VF.wid (P.v), VF.wid (q * P.v), VF.wid (h), VF.wid (b.v), VF.eq (.pointer (some ⟨gp, 2, none⟩)), VF.eq (.int .i64 (P.r)), VF.eq (.int .i64 (100 * P.r)), VF.eq (.int .i64 (b.r)), VF.ball (b.v) (b.r)] : List VF).getD z_ VF.any) I (fun hc => ⟨?_, ?_, ?_, ?_, ?_, ?_, ?_, ?_, ?_, ?_, ?_, ?_, ?_, ?_, trivial⟩) (fun vs gl W hK0 hv hp => ?_)
 ·exact b_25
 ·exact b_30
 ·exact T_TRA_1
 ·exact b_27
 ·exact b_34
 ·exact b_35
 ·exact b_36
 ·exact b_37
 ·exact b_38
 ·exact ob_e2 (x := .const (.int .i64 100)) (y := .tmp 52) (a := .int .i64 100) (b := (.int .i64 (P.r))) (u := .int .i64 (100 * P.r)) none (some 8) hc (hs := by intro ρ w1 h k; go_simp; first | done | (simp only [IntKind.wrap_i64]; omega))
 ·exact ob_e2 (x := .tmp 53) (y := .const (.int .i64 1)) (a := (.int .i64 (100 * P.r))) (b := .int .i64 1) (u := .int .i64 (b.r)) (some 9) none hc (hs := by intro ρ w1 h k; go_simp; first | done | (simp only [IntKind.wrap_i64]; omega))
 ·exact ob_buildB (q := b.v) (r := b.r) 6 (some 10) hc rfl
 ·exact b_21
 ·exact ob_putB (n := 4) rfl 11 hc rfl 0
 have p0 : vs 12 = .pointer (some ⟨gl 0, 0, none⟩) := hp 0 _ rfl
 simp only [putS, Nat.reduceAdd, Act.put, List.setIfInBounds_toArray, List.set_cons_zero, List.set_cons_succ, p0]
 obtain ⟨gb, e90⟩ : ∃ n, gl 0 = n := ⟨_, rfl⟩
 simp only [kb_, e90] at hK0
 rw [e90]
 replace I := hK0
 clear hK0 hv hp gl p0 e90
 go_upto_region 9 with fail
 refine wp_regB [] [⟨6, some 7, BF.b2, (BF.wat o)⟩] (fun z_ => ([VF.eq (.pointer (some ⟨gp, 0, none⟩)), VF.wid (P.v), VF.wid (ph), VF.eq (.pointer (some ⟨gb, 0, none⟩)), VF.wid (b.v), VF.wid (o)] : List VF).getD z_ VF.any) I (fun hc => ⟨?_, ?_, ?_, ?_, ?_, ?_, ?_, ?_, trivial⟩) (fun vs gl W hK0 hv hp => ?_)
 ·exact T_TRA_1
 ·exact ob_getN gp P.v P.r (some 0) hc rfl fun vs gs w1 c => c.b0 2
 ·exact b_39
 ·exact ob_e1 (x := .tmp 12) (a := .pointer (some ⟨gb, 0, none⟩)) (u := .pointer (some ⟨gb, 0, none⟩)) none hc
 ·exact ob_getN gb b.v b.r (some 3) hc rfl fun vs gs w1 c => c.b0 4
 ·exact b_40
 ·exact b_17
 ·exact ob_putW (n := 5) rfl 5 hc rfl 0
 have p0 : vs 6 = .pointer (some ⟨gl 0, 0, none⟩) := hp 0 _ rfl
 simp only [putS, Nat.reduceAdd, Act.put, List.setIfInBounds_toArray, List.set_cons_zero, List.set_cons_succ, p0]
 obtain ⟨go, e90⟩ : ∃ n, gl 0 = n := ⟨_, rfl⟩
 simp only [kb_, e90] at hK0
 rw [e90]
 replace I := hK0
 clear hK0 hv hp gl p0 e90
 go_upto_region 10 with fail
 refine wp_regB [] [] (fun z_ => ([VF.eq (.pointer (some ⟨gb, 0, none⟩)), VF.wid (b.v), VF.eq (.pointer (some ⟨gb, 2, none⟩)), VF.eq (.int .i64 (b.r)), VF.wid (b.r), VF.eq (.tuple #[.int .i64 1, .int .i64 0]), VF.eq (.tuple #[.int .i64 1, .int .i64 0]), VF.eq (.int .i64 (1)), VF.eq (.int .i64 (0)), VF.eq (.int .i64 (1)), VF.eq (.int .i64 (0))] : List VF).getD z_ VF.any) I (fun hc => ⟨?_, ?_, ?_, ?_, ?_, ?_, ?_, ?_, ?_, ?_, ?_, trivial⟩) (fun vs gl W hK0 hv hp => ?_)
 ·exact ob_e1 (x := .tmp 12) (a := .pointer (some ⟨gb, 0, none⟩)) (u := .pointer (some ⟨gb, 0, none⟩)) none hc
 ·exact ob_getN gb b.v b.r (some 0) hc rfl fun vs gs w1 c => c.b0 4
 ·exact ob_e1 (x := .tmp 12) (a := .pointer (some ⟨gb, 0, none⟩)) (u := .pointer (some ⟨gb, 2, none⟩)) none hc
 ·exact b_41
 ·exact b_42
 ·exact b_43
 ·exact ob_cp 5 hc (.inl rfl)
 ·exact b_44
 ·exact b_45
 ·exact ob_cp 7 hc (.inr rfl)
 ·exact ob_cp 8 hc (.inr rfl)
 have v9 : vs 9 = .int .i64 1 := hv 9 (by decide)
 have v10 : vs 10 = .int .i64 0 := hv 10 (by decide)
 simp only [putS, Nat.reduceAdd, Act.put, List.setIfInBounds_toArray, List.set_cons_zero, List.set_cons_succ, v9, v10]
 simp only [kb_] at hK0
 replace I := hK0
 clear hK0 hv hp gl v9 v10
 go_upto_region 13 with fail
 refine wp_regB [] [] (fun z_ => ([VF.wid (o), VF.eq (.pointer (some ⟨gb, 2, none⟩)), VF.eq (.int .i64 (b.r)), VF.eq (.int .i64 (2 * b.r)), VF.wid (2 * b.r), VF.eq (.tuple #[.int .i64 1, .int .i64 0]), VF.eq (.tuple #[.int .i64 1, .int .i64 0]), VF.eq (.int .i64 (1)), VF.eq (.int .i64 (0)), VF.eq (.int .i64 (1)), VF.eq (.int .i64 (0))] : List VF).getD z_ VF.any) I (fun hc => ⟨?_, ?_, ?_, ?_, ?_, ?_, ?_, ?_, ?_, ?_, ?_, trivial⟩) (fun vs gl W hK0 hv hp => ?_)
 ·exact ob_getW go (o) hc rfl fun vs gs w1 c => c.b0 5
 ·exact ob_e1 (x := .tmp 12) (a := .pointer (some ⟨gb, 0, none⟩)) (u := .pointer (some ⟨gb, 2, none⟩)) none hc
 ·exact b_46
 ·exact ob_e2 (x := .const (.int .i64 2)) (y := .tmp 78) (a := .int .i64 2) (b := (.int .i64 (b.r))) (u := .int .i64 (2 * b.r)) none (some 2) hc (hs := by intro ρ w1 h k; go_simp; first | done | (simp only [IntKind.wrap_i64]; omega))
 ·exact b_47
 ·exact b_48
 ·exact ob_cp 5 hc (.inl rfl)
 ·exact b_49
 ·exact b_50
 ·exact ob_cp 7 hc (.inr rfl)
 ·exact ob_cp 8 hc (.inr rfl)
 have v9 : vs 9 = .int .i64 1 := hv 9 (by decide)
 have v10 : vs 10 = .int .i64 0 := hv 10 (by decide)
 simp only [putS, Nat.reduceAdd, Act.put, List.setIfInBounds_toArray, List.set_cons_zero, List.set_cons_succ, v9, v10]
 simp only [kb_] at hK0
 replace I := hK0
 clear hK0 hv hp gl v9 v10
 go_upto_region 16 with fail
 refine wp_regB [] [⟨14, some 15, BF.own [.int .i64 0, .int .i64 0], (BF.own [.int .i64 f, .int .i64 (f + 1)])⟩] (fun z_ => ([VF.eq (.int .i64 (q)), VF.eq (.int .i64 (m)), VF.eq (.int .i64 (q + m)), VF.eq (.int .i64 (r1)), VF.eq (.int .i64 (r1 + 4)), VF.eq (.int .i64 (k)), VF.ball (b.v) (b.r), VF.eq (.int .i64 (130)), VF.ball (T.v) (T.r), VF.eq (.int .i64 (130)), VF.eq (.tuple #[.agg #[.int .i64 f, .int .i64 (f + 1)], .bool true]), VF.eq (.tuple #[.agg #[.int .i64 f, .int .i64 (f + 1)], .bool true]), VF.eq (.agg #[.int .i64 f, .int .i64 (f + 1)]), VF.eq (.bool true), VF.any, VF.any, VF.eq (.bool true)] : List VF).getD z_ VF.any) I (fun hc => ⟨?_, ?_, ?_, ?_, ?_, ?_, ?_, ?_, ?_, ?_, ?_, ?_, ?_, ?_, ?_, ?_, ?_, trivial⟩) (fun vs gl W hK0 hv hp => ?_)
 ·exact ob_mv hc (.inl rfl)
 ·exact ob_mv hc (.inl rfl)
 ·exact ob_e2 (x := .tmp 89) (y := .tmp 90) (a := (.int .i64 (q))) (b := (.int .i64 (m))) (u := .int .i64 (q + m)) (some 0) (some 1) hc (hs := by intro ρ w1 h k; go_simp; first | done | (simp only [IntKind.wrap_i64]; omega))
 ·exact ob_e2 (x := .tmp 91) (y := .const (.int .i64 4)) (a := (.int .i64 (q + m))) (b := .int .i64 4) (u := .int .i64 (r1)) (some 2) none hc (hs := by intro ρ w1 h k; go_simp; first | done | exact hr1)
 ·exact ob_e2 (x := .tmp 92) (y := .const (.int .i64 4)) (a := (.int .i64 (r1))) (b := .int .i64 4) (u := .int .i64 (r1 + 4)) (some 3) none hc (hs := by intro ρ w1 h k; go_simp; first | done | (simp only [IntKind.wrap_i64]; omega))
 ·exact ob_e2 (x := .tmp 93) (y := .const (.int .i64 4)) (a := (.int .i64 (r1 + 4))) (b := .int .i64 4) (u := .int .i64 (k)) (some 4) none hc (hs := by intro ρ w1 h k; go_simp; first | done | exact hk)
 ·exact ob_getB gb (b.v) (b.r) hc rfl fun vs gs w1 c => c.b0 4
 ·exact ob_mv hc (.inl rfl)
 ·exact b_51
 ·exact ob_mv hc (.inl rfl)
 ·exact b_52
 ·exact ob_cp 10 hc (.inl rfl)
 ·exact b_53
 ·exact b_54
 ·exact b_55
 ·exact ob_put2 (n := 6) 0 rfl (some 12) hc rfl
 ·exact ob_cp 13 hc (.inr rfl)
 have p0 : vs 14 = .pointer (some ⟨gl 0, 0, none⟩) := hp 0 _ rfl
 have v16 : vs 16 = .bool true := hv 16 (by decide)
 simp only [putS, Nat.reduceAdd, Act.put, List.setIfInBounds_toArray, List.set_cons_zero, List.set_cons_succ, p0, v16]
 obtain ⟨gi, e90⟩ : ∃ n, gl 0 = n := ⟨_, rfl⟩
 simp only [kb_, e90] at hK0
 rw [e90]
 replace I := hK0
 clear hK0 hv hp gl p0 v16 e90
 go_upto_region 19 with fail
 refine wp_regB [[(3, BF.own [.int .i64 f, .int .i64 (f + 1)])]] [] (fun z_ => ([VF.eq (.int .i64 (q)), VF.eq (.agg #[.int .i64 f, .int .i64 (f + 1)]), VF.eq (.int .i64 (q))] : List VF).getD z_ VF.any) I (fun hc => ⟨?_, ?_, ?_, ?_, trivial⟩) (fun vs gl W hK0 hv hp => ?_)
 ·exact ob_mv hc (.inl rfl)
 ·exact ob_ld2 (x := .tmp 18) (g := gi) (f := 0) none hc rfl fun vs gs w1 c => ⟨c.own 6 0, c.own 6 1⟩
 ·exact ob_cp 0 hc (.inr rfl)
 ·exact ob_put2 (n := 0) 0 rfl (some 1) hc rfl
 have v2 : vs 2 = .int .i64 q := hv 2 (by decide)
 simp only [putS, Nat.reduceAdd, Act.put, List.setIfInBounds_toArray, List.set_cons_zero, List.set_cons_succ, v2]
 simp only [kb_] at hK0
 replace I := hK0
 clear hK0 hv hp gl v2
 have d0 := I.own 0 0
 have d1 := I.own 0 1
 have hE := I.e
 clear I hpi hnn hbr hb2 hxs hx2 hqd hqi hqp hhf hbs hph hos hc1 hc2 htu hun
 go_wp2_with fail
 try rw [Exit.noGoto_ret]
 refine bodyPost_ret (v := .tuple #[.int .i64 q, .agg #[.int .i64 f, .int .i64 (f + 1)]]) ?_ rfl ⟨rfl, ?_⟩
 ·simp [results, Tryz.results61, go_sem, ↓IntWalk.iteOmega, *]
 ·exact b_0
def I64 (x : Int) : Prop := -9223372036854775808 ≤ x ∧ x < 9223372036854775808
structure R3 where
 lo : Int
 hi : Int
 e : Int
def ckI (lo hi : Int) : Int := if hi < lo ∨ lo < -2305843009213693952 ∨ 2305843009213693952 < hi then 8 else 0
def ck2 (a b c d : Int) : Int := if ckI a b ≠ 0 then ckI a b else ckI c d
def madeI (lo hi : Int) : R3 := if lo < -2305843009213693952 ∨ 2305843009213693952 < hi then ⟨0, 0, 16⟩ else ⟨lo, hi, 0⟩
def addI (a b c d : Int) : R3 := if ck2 a b c d ≠ 0 then ⟨0, 0, ck2 a b c d⟩ else madeI (wrap64 (a + c)) (wrap64 (b + d))
def subI (a b c d : Int) : R3 := if ck2 a b c d ≠ 0 then ⟨0, 0, ck2 a b c d⟩ else madeI (wrap64 (a - d)) (wrap64 (b - c))
def dnT (T d : Int) : Int := max (-4611686018427387904) (min (T / d) 4611686018427387904)
def upT (T d : Int) : Int := - dnT (-T) d
def min4 (a b c d : Int) : Int := min (min (min a b) c) d
def max4 (a b c d : Int) : Int := max (max (max a b) c) d
def mulI (a b c d : Int) : R3 := if ck2 a b c d ≠ 0 then ⟨0, 0, ck2 a b c d⟩ else
 madeI (dnT (min4 (a * c) (a * d) (b * c) (b * d)) 1099511627776) (upT (max4 (a * c) (a * d) (b * c) (b * d)) 1099511627776)
def absI (a b : Int) : R3 := if ckI a b ≠ 0 then ⟨0, 0, ckI a b⟩ else if 0 ≤ a then ⟨a, b, 0⟩ else if b ≤ 0 then ⟨wrap64 (-b), wrap64 (-a), 0⟩ else ⟨0, max (wrap64 (-a)) b, 0⟩
def sqI (a b : Int) : R3 := if (absI a b).e ≠ 0 then ⟨0, 0, (absI a b).e⟩ else
 madeI (dnT ((absI a b).lo * (absI a b).lo) 1099511627776) (upT ((absI a b).hi * (absI a b).hi) 1099511627776)
def negI (a b : Int) : R3 := if ckI a b ≠ 0 then ⟨0, 0, ckI a b⟩ else ⟨wrap64 (-b), wrap64 (-a), 0⟩
theorem k_chk (a b : Int) (n : Nat) (w : World) (hn : n = w.heap.size) :
    Calls Tryz.prog 92 #[.slice (some ⟨n, 0, none⟩) 1 1] (w.alloc (.cells #[.int .i64 a, .int .i64 b] 31)) fun e w' => e = .returned (.int .i64 (ckI a b)) ∧ Ext (w.alloc (.cells #[.int .i64 a, .int .i64 b] 31)) w' := by
 subst hn
 go_enter Tryz.func92, Tryz.ntmps92
 go_wp2
 refine wp_loop_rounds 2 ?_
 repeat
  any_goals
   rw [rounds_succ]
   go_wp2
 all_goals
  go_ret
  refine ⟨?_, ?_⟩
  ·first | (simp [ckI, *]; done) | (simp [ckI, *]; omega)
  ·exact b_0
theorem k_span (a b : Int) (w : World) :
    Calls Tryz.prog 60 #[.agg #[.int .i64 a, .int .i64 b]] w fun e w' => e = .returned (.int .i64 (ckI a b)) ∧ Ext w w' := by
 have l0 : IntKind.i64.wrap 0 = 0 := rfl
 have l1 : IntKind.i64.wrap 1 = 1 := rfl
 go_enter Tryz.func60, Tryz.ntmps60
 go_wp2_with (go_at_call 92; (with_reducible refine (k_chk _ _ _ _ (by first | rfl | simp)).mono ?_); rintro e w1 ⟨rfl, hb⟩; obtain ⟨_, _, ⟨hc, hf⟩, hz⟩ := hb.c3; (try simp only [wsz] at hz hc hf))
 all_goals
  go_ret
  refine ⟨?_, ?_⟩
  ·first | (simp [ckI, *]; done) | (simp [ckI, *]; omega)
  ·exact b_0
end Go.Proofs.YtogblocakccbgaaGreat
