/- trig: Sin, two rounds. -/
import Derived.Test.YtaoioncjmfcolaaGreatW21
import Derived.Test.YtaoioncjmfcolaaGreatW22
import Derived.Test.YtaoioncjmfcolaaGreatW34
set_option linter.unusedSimpArgs false
set_option linter.unusedVariables false
set_option maxRecDepth 100000
set_option maxHeartbeats 4000000
namespace Go.Proofs.YtaoioncjmfcolaaGreat
open Go.RowKit
def sinF2 (a : Int) : Option (Int × Int) :=
 match plainF a with
 | (_, true) => none
 | (_, false) => (sineF a 90).bind fun b => if 0 ≤ b.r ∧ b.r ≤ 9000000000000000000 ∧ floorN b.v b.r 90 = true then (sineF a 180).bind fun c => if 0 ≤ c.r ∧ c.r ≤ 9000000000000000000 then (floorF c.v c.r 180).bind fun q => some (q, q + 1) else none else none
theorem t_Sin2 (a lo hi : Int) (w : World) (h0 : -9223372036854775808 ≤ a) (h1 : a ≤ 9223372036854775807) (hF : sinF2 a = some (lo, hi)) :
    Calls Tryz.prog 39 #[.int .i64 a] w fun e w' => e = .returned (.agg #[.int .i64 lo, .int .i64 hi]) ∧ Ext w w' := by
 have hpl := fun w => t_plain a w h0 h1
 unfold sinF2 at hF
 obtain ⟨⟨v, t⟩, hp⟩ : ∃ x, plainF a = x := ⟨_, rfl⟩
 rw [hp] at hpl hF
 dsimp only at hpl
 cases t with
 | true => cases hF
 | false =>
  dsimp only at hF
  rw [Option.bind_eq_some_iff] at hF
  obtain ⟨b1, hs, hF⟩ := hF
  split at hF
  case isFalse => cases hF
  rename_i hr
  rw [Option.bind_eq_some_iff] at hF
  obtain ⟨b2, hs2, hF⟩ := hF
  split at hF
  case isFalse => cases hF
  rename_i hr2
  rw [Option.bind_eq_some_iff] at hF
  obtain ⟨q, hq, hF⟩ := hF
  obtain ⟨rfl, rfl⟩ : q = lo ∧ q + 1 = hi := by have := Option.some.inj hF; exact ⟨congrArg Prod.fst this, congrArg Prod.snd this⟩
  have hsi1 : ∀ (w1 : World) (u1 u2 : Value), u1 = .int .i64 a → u2 = .int .i64 90 → Calls Tryz.prog 88 #[u1, u2] w1 fun e w' => ∃ u, e = .returned u ∧ Ball w' u b1.v b1.r ∧ Ext w1 w' := fun w1 u1 u2 k1 k2 => by subst k1 k2; exact t_sine a b1 90 w1 h0 h1 hs
  have hsi2 : ∀ (w1 : World) (u1 u2 : Value), u1 = .int .i64 a → u2 = .int .i64 180 → Calls Tryz.prog 88 #[u1, u2] w1 fun e w' => ∃ u, e = .returned u ∧ Ball w' u b2.v b2.r ∧ Ext w1 w' := fun w1 u1 u2 k1 k2 => by subst k1 k2; exact t_sine a b2 180 w1 h0 h1 hs2
  have hun1 : ∀ (w1 : World) (u1 u2 : Value), Ball w1 u1 b1.v b1.r → u2 = .int .i64 90 → Calls Tryz.prog 89 #[u1, u2] w1 fun e w' => ∃ u, e = .returned u ∧ u = .tuple #[.agg #[.int .i64 0, .int .i64 1], .bool false] ∧ Ext w1 w' := fun w1 u1 u2 k1 k2 => by subst k2; exact calls_eq (t_unitNo u1 b1.v b1.r 90 w1 k1 hr.1 hr.2.1 (by decide) (by decide) hr.2.2)
  have hun2 : ∀ (w1 : World) (u1 u2 : Value), Ball w1 u1 b2.v b2.r → u2 = .int .i64 180 → Calls Tryz.prog 89 #[u1, u2] w1 fun e w' => ∃ u, e = .returned u ∧ u = .tuple #[.agg #[.int .i64 q, .int .i64 (q + 1)], .bool true] ∧ Ext w1 w' := fun w1 u1 u2 k1 k2 => by subst k2; exact calls_eq (t_unit u1 b2.v b2.r q 180 w1 k1 hr2.1 hr2.2 (by decide) (by decide) hq)
  clear hF hp hs hs2 hq hr hr2
  have I0 : KBd w [] w := ⟨Ext.refl w, trivial, by simp, by simp⟩
  have I := I0.new [.int .i64 0, .int .i64 0] 30 (by simp)
  simp only [List.nil_append] at I
  clear I0
  go_enter Tryz.func39, Tryz.ntmps39
  go_upto_region 1 with fail
  obtain ⟨J, hJ⟩ : ∃ J : Act → World → Prop, J = fun a' w' => ∃ (u3 u4 u6 u7 u8 u9 u10 u11 u12 u13 u14 u15 u16 u17 u18 u19 u20 u21 u22 u23 u24 u25 u26 u27 u28 u29 : Value), a' = { tmps := #[.int .i64 a, undef, .pointer (some ⟨w.heap.size, 0, none⟩), u3, u4, .int .i64 180, u6, u7, u8, u9, u10, u11, u12, u13, u14, u15, u16, u17, u18, u19, u20, u21, u22, u23, u24, u25, u26, u27, u28, u29], defers := [] } ∧ KBd w [(w.heap.size, BF.own [.int .i64 0, .int .i64 0])] w' := ⟨_, rfl⟩
  replace hJ := Lib.hid hJ
  refine wp_scope_jumps 0 J (fun _ _ => 0) rfl ?first ?pass
  case first =>
   have hsi := hsi1
   have hun := hun1
   obtain ⟨b, hb⟩ : ∃ b, b1 = b := ⟨_, rfl⟩
   rw [hb] at hsi hun
   clear hsi1 hsi2 hun1 hun2 hb
   go_wp2_with (go_at_call 87; (with_reducible refine (hpl _).mono ?_); rintro e w1 ⟨rfl, hb⟩; replace I := I.ext hb; obtain ⟨_, _, ⟨hc, hf⟩, hz⟩ := hb.c3; (try simp only [wsz] at hz hc hf))
   go_step3
   clear hb hc hf hz
   go_upto_region 5 with fail
   refine wp_regB [] [⟨8, some 9, BF.own [.int .i64 0, .int .i64 0], (BF.own [.int .i64 0, .int .i64 1])⟩] (fun z_ => ([VF.eq (.int .i64 (a)), VF.eq (.int .i64 (90)), VF.ball (b.v) (b.r), VF.eq (.int .i64 (90)), VF.eq (.tuple #[.agg #[.int .i64 0, .int .i64 1], .bool false]), VF.eq (.tuple #[.agg #[.int .i64 0, .int .i64 1], .bool false]), VF.eq (.agg #[.int .i64 0, .int .i64 1]), VF.eq (.bool false), VF.any, VF.any, VF.eq (.bool false)] : List VF).getD z_ VF.any) I (fun hc => ⟨?_, ?_, ?_, ?_, ?_, ?_, ?_, ?_, ?_, ?_, ?_, trivial⟩) (fun vs gl W hK0 hv hp => ?_)
   ·exact ob_mv hc (.inl rfl)
   ·exact ob_mv hc (.inl rfl)
   ·exact ob_call (fun v => [v 0, v 1]) hc rfl fun vs gs w1 c => hsi _ _ _ (c.v 0) (c.v 1)
   ·exact ob_mv hc (.inl rfl)
   ·exact ob_call (fun v => [v 2, v 3]) hc rfl fun vs gs w1 c => hun _ _ _ (c.v 2) (c.v 3)
   ·exact ob_cp 4 hc (.inl rfl)
   ·exact ob_e1 (x := .tmp 17) (a := (.tuple #[.agg #[.int .i64 0, .int .i64 1], .bool false])) (u := .agg #[.int .i64 0, .int .i64 1]) (some 5) hc
   ·exact ob_e1 (x := .tmp 17) (a := (.tuple #[.agg #[.int .i64 0, .int .i64 1], .bool false])) (u := .bool false) (some 5) hc
   ·exact b_33
   ·exact ob_put2 (n := 1) 0 rfl (some 6) hc rfl
   ·exact ob_cp 7 hc (.inr rfl)
   have p0 : vs 8 = .pointer (some ⟨gl 0, 0, none⟩) := hp 0 _ rfl
   have v10 : vs 10 = .bool false := hv 10 (by decide)
   simp only [putS, Nat.reduceAdd, Act.put, List.setIfInBounds_toArray, List.set_cons_zero, List.set_cons_succ, p0, v10]
   obtain ⟨g6, e90⟩ : ∃ n, gl 0 = n := ⟨_, rfl⟩
   simp only [kb_, e90] at hK0
   rw [e90]
   replace I := hK0
   clear hK0 hv hp gl p0 v10 e90
   have I1 := I.take 1
   clear I hsi hun hpl
   go_wp2_with fail
   go_step3
   try simp only [Exit.jump]
   rw [hJ.out]
   exact ⟨rfl, _, _, _, _, _, _, _, _, _, _, _, _, _, _, _, _, _, _, _, _, _, _, _, _, _, _, rfl, I1⟩
  case pass =>
   have hsi := hsi2
   have hun := hun2
   obtain ⟨b, hb⟩ : ∃ b, b2 = b := ⟨_, rfl⟩
   rw [hb] at hsi hun
   clear hsi1 hsi2 hun1 hun2 hb hpl I
   rintro a' w' hJJ
   rw [hJ.out] at hJJ
   obtain ⟨u3, u4, u6, u7, u8, u9, u10, u11, u12, u13, u14, u15, u16, u17, u18, u19, u20, u21, u22, u23, u24, u25, u26, u27, u28, u29, rfl, I⟩ := hJJ
   clear hJ
   go_upto_region 5 with fail
   refine wp_regB [] [⟨8, some 9, BF.own [.int .i64 0, .int .i64 0], (BF.own [.int .i64 q, .int .i64 (q + 1)])⟩] (fun z_ => ([VF.eq (.int .i64 (a)), VF.eq (.int .i64 (180)), VF.ball (b.v) (b.r), VF.eq (.int .i64 (180)), VF.eq (.tuple #[.agg #[.int .i64 q, .int .i64 (q + 1)], .bool true]), VF.eq (.tuple #[.agg #[.int .i64 q, .int .i64 (q + 1)], .bool true]), VF.eq (.agg #[.int .i64 q, .int .i64 (q + 1)]), VF.eq (.bool true), VF.any, VF.any, VF.eq (.bool true)] : List VF).getD z_ VF.any) I (fun hc => ⟨?_, ?_, ?_, ?_, ?_, ?_, ?_, ?_, ?_, ?_, ?_, trivial⟩) (fun vs gl W hK0 hv hp => ?_)
   ·exact ob_mv hc (.inl rfl)
   ·exact ob_mv hc (.inl rfl)
   ·exact ob_call (fun v => [v 0, v 1]) hc rfl fun vs gs w1 c => hsi _ _ _ (c.v 0) (c.v 1)
   ·exact ob_mv hc (.inl rfl)
   ·exact ob_call (fun v => [v 2, v 3]) hc rfl fun vs gs w1 c => hun _ _ _ (c.v 2) (c.v 3)
   ·exact ob_cp 4 hc (.inl rfl)
   ·exact ob_e1 (x := .tmp 17) (a := (.tuple #[.agg #[.int .i64 q, .int .i64 (q + 1)], .bool true])) (u := .agg #[.int .i64 q, .int .i64 (q + 1)]) (some 5) hc
   ·exact ob_e1 (x := .tmp 17) (a := (.tuple #[.agg #[.int .i64 q, .int .i64 (q + 1)], .bool true])) (u := .bool true) (some 5) hc
   ·exact b_33
   ·exact ob_put2 (n := 1) 0 rfl (some 6) hc rfl
   ·exact ob_cp 7 hc (.inr rfl)
   have p0 : vs 8 = .pointer (some ⟨gl 0, 0, none⟩) := hp 0 _ rfl
   have v10 : vs 10 = .bool true := hv 10 (by decide)
   simp only [putS, Nat.reduceAdd, Act.put, List.setIfInBounds_toArray, List.set_cons_zero, List.set_cons_succ, p0, v10]
   obtain ⟨g6, e90⟩ : ∃ n, gl 0 = n := ⟨_, rfl⟩
   simp only [kb_, e90] at hK0
   rw [e90]
   replace I := hK0
   clear hK0 hv hp gl p0 v10 e90
   go_upto_region 8 with fail
   go_upto_region 8 with fail
   refine wp_regB [[(1, BF.own [.int .i64 q, .int .i64 (q + 1)])]] [] (fun z_ => ([VF.eq (.agg #[.int .i64 q, .int .i64 (q + 1)])] : List VF).getD z_ VF.any) I (fun hc => ⟨?_, ?_, trivial⟩) (fun vs gl W hK0 hv hp => ?_)
   ·exact ob_ld2 (x := .tmp 6) (g := g6) (f := 0) none hc rfl fun vs gs w1 c => ⟨c.own 1 0, c.own 1 1⟩
   ·exact ob_put2 (n := 0) 0 rfl (some 0) hc rfl
   simp only [putS, Nat.reduceAdd, Act.put, List.setIfInBounds_toArray, List.set_cons_zero, List.set_cons_succ]
   simp only [kb_] at hK0
   replace I := hK0
   clear hK0 hv hp gl
   have d0 := I.own 0 0
   have d1 := I.own 0 1
   have hE := I.e
   clear I hsi hun
   go_wp2_with fail
   try simp only [Exit.jump]
   try (show bodyPost _ _ _ _ _ _)
   refine bodyPost_ret (v := .agg #[.int .i64 q, .int .i64 (q + 1)]) ?_ rfl ⟨rfl, hE⟩
   simp [results, Tryz.results39, go_sem, ↓IntWalk.iteOmega, d0, d1]
theorem t_Cos2 (a lo hi : Int) (w : World) (h0 : -9223372036854775808 ≤ a) (h1 : a ≤ 9223372036854775807) (hF : sinF2 (a.tmod 1296000000000 + 324000000000) = some (lo, hi)) :
    Calls Tryz.prog 68 #[.int .i64 a] w fun e w' => e = .returned (.agg #[.int .i64 lo, .int .i64 hi]) ∧ Ext w w' := by
 obtain ⟨b, hb⟩ : ∃ b, a.tmod 1296000000000 = b := ⟨_, rfl⟩
 rw [hb] at hF
 have hb0 : -1296000000000 ≤ b ∧ b < 1296000000000 := by
  have := tmod_emod a
  rw [hb] at this
  split at this <;> omega
 have hsi : ∀ c w, c = b + 324000000000 → Calls Tryz.prog 39 #[.int .i64 c] w fun e w' => e = .returned (.agg #[.int .i64 lo, .int .i64 hi]) ∧ Ext w w' := fun c w hc => by
  subst hc
  exact t_Sin2 _ lo hi w (by omega) (by omega) hF
 clear hF
 go_enter Tryz.func68, Tryz.ntmps68
 go_wp2_with (go_at_call 39; (with_reducible refine (hsi _ _ (by first | rfl | (unfold wrap64; omega) | (simp only [IntKind.wrap_i64]; omega))).mono ?_); rintro e w1 ⟨rfl, hb1⟩; obtain ⟨_, _, ⟨hc1, hf1⟩, hz1⟩ := hb1.c3; (try simp only [wsz] at hz1 hc1 hf1))
 refine bodyPost_ret (v := .agg #[.int .i64 lo, .int .i64 hi]) ?_ rfl ⟨rfl, ?_⟩
 ·simp [results, Tryz.results68, go_sem, ↓IntWalk.iteOmega, *]
 ·exact b_1
theorem sv_0 : sinF 0 = some (0, 0) := by kernel_rfl
theorem sv_324000000000 : sinF 324000000000 = some (1099511627776, 1099511627776) := by kernel_rfl
theorem sv_162000000000 : sinF 162000000000 = some (777472127993, 777472127994) := by kernel_rfl
theorem sv_486000000000 : sinF 486000000000 = some (777472127993, 777472127994) := by kernel_rfl
theorem sv_648000000000 : sinF 648000000000 = some (0, 0) := by kernel_rfl
theorem sv_5 : sinF 5 = some (26, 27) := by kernel_rfl
theorem sv_324000000005 : sinF2 324000000005 = some (1099511627775, 1099511627776) := by kernel_rfl
theorem sv_107999999999 : sinF 107999999999 = some (549755813883, 549755813884) := by kernel_rfl
theorem sv_108000000000 : sinF 108000000000 = some (549755813888, 549755813888) := by kernel_rfl
theorem iv_ {a b : Int} (h : (decide (-9223372036854775808 ≤ a) && (decide (a < 9223372036854775808) && (decide (-9223372036854775808 ≤ b) && decide (b < 9223372036854775808)))) = true := by rfl) : I64 a ∧ I64 b := by
 simp only [Bool.and_eq_true, decide_eq_true_eq] at h
 exact ⟨⟨h.1, h.2.1⟩, ⟨h.2.2.1, h.2.2.2⟩⟩
theorem k_unit_0_0 (w : World) : Calls Tryz.prog 28 #[.int .i64 0, .int .i64 0] w fun e w' => e = .returned (.agg #[.int .i64 1099511627776, .int .i64 1099511627776, .int .i64 0, .int .i64 0, .int .i64 0, .int .i64 0]) ∧ Ext w w' := by
 have h := p_unit 0 0 (1099511627776, 1099511627776) (1099511627776, 1099511627776) (0, 0) (0, 0) w (fun w => t_Cos 0 _ _ w (by decide) (by decide) sv_324000000000) (fun w => t_Cos 0 _ _ w (by decide) (by decide) sv_324000000000) (fun w => t_Sin 0 _ _ w (by decide) (by decide) sv_0) (fun w => t_Sin 0 _ _ w (by decide) (by decide) sv_0) iv_ iv_ iv_
 rw [show (unitV (1099511627776, 1099511627776) (1099511627776, 1099511627776) (0, 0) (0, 0)) = ⟨1099511627776, 1099511627776, 0, 0, 0, 0⟩ by kernel_rfl] at h
 exact h
theorem k_unit_162000000000_0 (w : World) : Calls Tryz.prog 28 #[.int .i64 162000000000, .int .i64 0] w fun e w' => e = .returned (.agg #[.int .i64 777472127993, .int .i64 777472127994, .int .i64 777472127993, .int .i64 777472127994, .int .i64 0, .int .i64 0]) ∧ Ext w w' := by
 have h := p_unit 162000000000 0 (1099511627776, 1099511627776) (777472127993, 777472127994) (777472127993, 777472127994) (0, 0) w (fun w => t_Cos 0 _ _ w (by decide) (by decide) sv_324000000000) (fun w => t_Cos 162000000000 _ _ w (by decide) (by decide) sv_486000000000) (fun w => t_Sin 162000000000 _ _ w (by decide) (by decide) sv_162000000000) (fun w => t_Sin 0 _ _ w (by decide) (by decide) sv_0) iv_ iv_ iv_
 rw [show (unitV (1099511627776, 1099511627776) (777472127993, 777472127994) (777472127993, 777472127994) (0, 0)) = ⟨777472127993, 777472127994, 777472127993, 777472127994, 0, 0⟩ by kernel_rfl] at h
 exact h
theorem k_unit_5_324000000000 (w : World) : Calls Tryz.prog 28 #[.int .i64 5, .int .i64 324000000000] w fun e w' => e = .returned (.agg #[.int .i64 0, .int .i64 0, .int .i64 0, .int .i64 0, .int .i64 1099511627776, .int .i64 1099511627776]) ∧ Ext w w' := by
 have h := p_unit 5 324000000000 (0, 0) (1099511627775, 1099511627776) (26, 27) (1099511627776, 1099511627776) w (fun w => t_Cos 324000000000 _ _ w (by decide) (by decide) sv_648000000000) (fun w => t_Cos2 5 _ _ w (by decide) (by decide) sv_324000000005) (fun w => t_Sin 5 _ _ w (by decide) (by decide) sv_5) (fun w => t_Sin 324000000000 _ _ w (by decide) (by decide) sv_324000000000) iv_ iv_ iv_
 rw [show (unitV (0, 0) (1099511627775, 1099511627776) (26, 27) (1099511627776, 1099511627776)) = ⟨0, 0, 0, 0, 1099511627776, 1099511627776⟩ by kernel_rfl] at h
 exact h
theorem k_frame_0_0 (w : World) : Calls Tryz.prog 29 #[.int .i64 0, .int .i64 0] w fun e w' => e = .returned (.tuple #[.agg #[.int .i64 1099511627776, .int .i64 1099511627776, .int .i64 0, .int .i64 0, .int .i64 0, .int .i64 0], .agg #[.int .i64 0, .int .i64 0, .int .i64 1099511627776, .int .i64 1099511627776, .int .i64 0, .int .i64 0], .agg #[.int .i64 0, .int .i64 0, .int .i64 0, .int .i64 0, .int .i64 1099511627776, .int .i64 1099511627776]]) ∧ Ext w w' := by
 have h := p_frame 0 0 (1099511627776, 1099511627776) (1099511627776, 1099511627776) (0, 0) (0, 0) w (fun w => t_Cos 0 _ _ w (by decide) (by decide) sv_324000000000) (fun w => t_Cos 0 _ _ w (by decide) (by decide) sv_324000000000) (fun w => t_Sin 0 _ _ w (by decide) (by decide) sv_0) (fun w => t_Sin 0 _ _ w (by decide) (by decide) sv_0) iv_ iv_ iv_ iv_
 rw [show (unitV (1099511627776, 1099511627776) (1099511627776, 1099511627776) (0, 0) (0, 0)) = ⟨1099511627776, 1099511627776, 0, 0, 0, 0⟩ by kernel_rfl, show eastV (1099511627776, 1099511627776) (0, 0) = ⟨0, 0, 1099511627776, 1099511627776, 0, 0⟩ by kernel_rfl, show northV (1099511627776, 1099511627776) (1099511627776, 1099511627776) (0, 0) (0, 0) = ⟨0, 0, 0, 0, 1099511627776, 1099511627776⟩ by kernel_rfl] at h
 exact h
theorem k_frame_324000000000_0 (w : World) : Calls Tryz.prog 29 #[.int .i64 324000000000, .int .i64 0] w fun e w' => e = .returned (.tuple #[.agg #[.int .i64 0, .int .i64 0, .int .i64 1099511627776, .int .i64 1099511627776, .int .i64 0, .int .i64 0], .agg #[.int .i64 (-1099511627776), .int .i64 (-1099511627776), .int .i64 0, .int .i64 0, .int .i64 0, .int .i64 0], .agg #[.int .i64 0, .int .i64 0, .int .i64 0, .int .i64 0, .int .i64 1099511627776, .int .i64 1099511627776]]) ∧ Ext w w' := by
 have h := p_frame 324000000000 0 (1099511627776, 1099511627776) (0, 0) (1099511627776, 1099511627776) (0, 0) w (fun w => t_Cos 0 _ _ w (by decide) (by decide) sv_324000000000) (fun w => t_Cos 324000000000 _ _ w (by decide) (by decide) sv_648000000000) (fun w => t_Sin 324000000000 _ _ w (by decide) (by decide) sv_324000000000) (fun w => t_Sin 0 _ _ w (by decide) (by decide) sv_0) iv_ iv_ iv_ iv_
 rw [show (unitV (1099511627776, 1099511627776) (0, 0) (1099511627776, 1099511627776) (0, 0)) = ⟨0, 0, 1099511627776, 1099511627776, 0, 0⟩ by kernel_rfl, show eastV (0, 0) (1099511627776, 1099511627776) = ⟨(-1099511627776), (-1099511627776), 0, 0, 0, 0⟩ by kernel_rfl, show northV (1099511627776, 1099511627776) (0, 0) (1099511627776, 1099511627776) (0, 0) = ⟨0, 0, 0, 0, 1099511627776, 1099511627776⟩ by kernel_rfl] at h
 exact h
theorem k_proj0 (w : World) : Calls Tryz.prog 8 #[.int .i64 0, .int .i64 0, .int .i64 0, .int .i64 0] w fun e w' => e = .returned (.tuple #[.agg #[.int .i64 0, .int .i64 0], .agg #[.int .i64 0, .int .i64 0], .int .i64 0]) ∧ Ext w w' :=
 p_ProjOk 0 0 0 0 ⟨1099511627776, 1099511627776, 0, 0, 0, 0⟩ ⟨1099511627776, 1099511627776, 0, 0, 0, 0⟩ ⟨0, 0, 1099511627776, 1099511627776, 0, 0⟩ ⟨0, 0, 0, 0, 1099511627776, 1099511627776⟩ ⟨1099511627776, 1099511627776, 0⟩ ⟨0, 0, 0⟩ ⟨0, 0, 0⟩ ⟨0, 0, 0⟩ ⟨0, 0, 0⟩ w ⟨by decide, by decide⟩ ⟨by decide, by decide⟩ k_unit_0_0 k_frame_0_0 ⟨iv_, iv_, iv_⟩ ⟨iv_, iv_, iv_⟩ ⟨iv_, iv_, iv_⟩ ⟨iv_, iv_, iv_⟩ c_4 rfl (by decide) c_4 c_4 c_4 c_4 rfl
theorem k_projR (w : World) : Calls Tryz.prog 8 #[.int .i64 0, .int .i64 0, .int .i64 324000000000, .int .i64 0] w fun e w' => e = .returned (.tuple #[.agg #[.int .i64 0, .int .i64 0], .agg #[.int .i64 0, .int .i64 0], .int .i64 16]) ∧ Ext w w' :=
 p_ProjRange 0 0 324000000000 0 ⟨1099511627776, 1099511627776, 0, 0, 0, 0⟩ ⟨0, 0, 1099511627776, 1099511627776, 0, 0⟩ ⟨(-1099511627776), (-1099511627776), 0, 0, 0, 0⟩ ⟨0, 0, 0, 0, 1099511627776, 1099511627776⟩ ⟨0, 0, 0⟩ w ⟨by decide, by decide⟩ ⟨by decide, by decide⟩ k_unit_0_0 k_frame_324000000000_0 ⟨iv_, iv_, iv_⟩ ⟨iv_, iv_, iv_⟩ c_4 rfl (by decide)
theorem k_projA (w : World) : Calls Tryz.prog 8 #[.int .i64 0, .int .i64 0, .int .i64 0, .int .i64 (-324000000001)] w fun e w' => e = .returned (.tuple #[.agg #[.int .i64 0, .int .i64 0], .agg #[.int .i64 0, .int .i64 0], .int .i64 2]) ∧ Ext w w' :=
 p_ProjArg 0 0 0 (-324000000001) w ⟨by decide, by decide⟩ (.inl (by decide))
def pj8D : R3 := dotS 0 ⟨777472127993, 777472127994, 777472127993, 777472127994, 0, 0⟩ ⟨1099511627776, 1099511627776, 0, 0, 0, 0⟩
def pj8X : R3 := dotS pj8D.e ⟨777472127993, 777472127994, 777472127993, 777472127994, 0, 0⟩ ⟨0, 0, 1099511627776, 1099511627776, 0, 0⟩
def pj8Q : R3 := doI pj8X.e (divI pj8X.lo pj8X.hi pj8D.lo pj8D.hi)
def pj8Y : R3 := dotS pj8Q.e ⟨777472127993, 777472127994, 777472127993, 777472127994, 0, 0⟩ ⟨0, 0, 0, 0, 1099511627776, 1099511627776⟩
def pj8R : R3 := doI pj8Y.e (divI pj8Y.lo pj8Y.hi pj8D.lo pj8D.hi)
theorem pj8_ok : (decide (pj8D.e = 0) && (decide (0 < pj8D.lo) && (decide (pj8R.e = 0) && (decide (0 ≤ pj8Q.lo) && (decide (pj8Q.lo ≤ 1099511627776) && (decide (1099511627776 ≤ pj8Q.hi) && (decide (pj8Q.hi < pj8Q.lo + 100) && decide (pj8Q.hi ≤ 2000000000000)))))))) = true := by kernel_rfl
theorem k_proj8 : ∃ q1 q2 : R3, (∀ w : World, Calls Tryz.prog 8 #[.int .i64 162000000000, .int .i64 0, .int .i64 0, .int .i64 0] w fun e w' => e = .returned (.tuple #[.agg #[.int .i64 q1.lo, .int .i64 q1.hi], .agg #[.int .i64 q2.lo, .int .i64 q2.hi], .int .i64 0]) ∧ Ext w w') ∧ 0 ≤ q1.lo ∧ q1.lo ≤ 1099511627776 ∧ 1099511627776 ≤ q1.hi ∧ q1.hi < q1.lo + 100 ∧ q1.hi ≤ 2000000000000 := by
 have h := pj8_ok
 simp only [Bool.and_eq_true, decide_eq_true_eq] at h
 obtain ⟨h1, h2, h3, h4, h5, h6, h7, h8⟩ := h
 exact ⟨pj8Q, pj8R, fun w => p_ProjOk 162000000000 0 0 0 ⟨777472127993, 777472127994, 777472127993, 777472127994, 0, 0⟩ ⟨1099511627776, 1099511627776, 0, 0, 0, 0⟩ ⟨0, 0, 1099511627776, 1099511627776, 0, 0⟩ ⟨0, 0, 0, 0, 1099511627776, 1099511627776⟩ pj8D pj8X pj8Q pj8Y pj8R w ⟨by decide, by decide⟩ ⟨by decide, by decide⟩ k_unit_162000000000_0 k_frame_0_0 ⟨iv_, iv_, iv_⟩ ⟨iv_, iv_, iv_⟩ ⟨iv_, iv_, iv_⟩ ⟨iv_, iv_, iv_⟩ rfl h1 h2 rfl rfl rfl rfl h3, h4, h5, h6, h7, h8⟩
theorem k_win0 (w : World) : Calls Tryz.prog 10 #[.agg #[.int .i64 0, .int .i64 0, .int .i64 0, .int .i64 0, .int .i64 0, .int .i64 0], .agg #[.int .i64 0, .int .i64 0, .int .i64 0, .int .i64 0, .int .i64 0, .int .i64 0], .int .i64 0] w fun e w' => e = .returned (.tuple #[.bool true, .bool true, .int .i64 0]) ∧ Ext w w' := by
 have h := p_within ⟨0, 0, 0, 0, 0, 0⟩ ⟨0, 0, 0, 0, 0, 0⟩ 0 (0, 0) w c_4 ⟨⟨by decide, by decide⟩, ⟨by decide, by decide⟩, ⟨by decide, by decide⟩, ⟨by decide, by decide⟩, ⟨by decide, by decide⟩, ⟨by decide, by decide⟩⟩ ⟨⟨by decide, by decide⟩, ⟨by decide, by decide⟩, ⟨by decide, by decide⟩, ⟨by decide, by decide⟩, ⟨by decide, by decide⟩, ⟨by decide, by decide⟩⟩ (by decide) (by decide) (fun w => t_Sin 0 _ _ w (by decide) (by decide) sv_0) ⟨by decide, by decide, by decide, by decide⟩
 rw [show decide (wnM ⟨0, 0, 0, 0, 0, 0⟩ ⟨0, 0, 0, 0, 0, 0⟩ ≤ 2 * ((0, 0) : Int × Int).1 * (2 * ((0, 0) : Int × Int).1)) = true by kernel_rfl, show decide (wnL ⟨0, 0, 0, 0, 0, 0⟩ ⟨0, 0, 0, 0, 0, 0⟩ ≤ 2 * ((0, 0) : Int × Int).2 * (2 * ((0, 0) : Int × Int).2)) = true by kernel_rfl] at h
 exact h
theorem k_win1 (w : World) : Calls Tryz.prog 10 #[.agg #[.int .i64 0, .int .i64 0, .int .i64 0, .int .i64 0, .int .i64 0, .int .i64 0], .agg #[.int .i64 1099511627776, .int .i64 1099511627776, .int .i64 0, .int .i64 0, .int .i64 0, .int .i64 0], .int .i64 107999999999] w fun e w' => e = .returned (.tuple #[.bool false, .bool false, .int .i64 0]) ∧ Ext w w' := by
 have h := p_within ⟨0, 0, 0, 0, 0, 0⟩ ⟨1099511627776, 1099511627776, 0, 0, 0, 0⟩ 107999999999 (549755813883, 549755813884) w c_4 ⟨⟨by decide, by decide⟩, ⟨by decide, by decide⟩, ⟨by decide, by decide⟩, ⟨by decide, by decide⟩, ⟨by decide, by decide⟩, ⟨by decide, by decide⟩⟩ ⟨⟨by decide, by decide⟩, ⟨by decide, by decide⟩, ⟨by decide, by decide⟩, ⟨by decide, by decide⟩, ⟨by decide, by decide⟩, ⟨by decide, by decide⟩⟩ (by decide) (by decide) (fun w => t_Sin 107999999999 _ _ w (by decide) (by decide) sv_107999999999) ⟨by decide, by decide, by decide, by decide⟩
 rw [show decide (wnM ⟨0, 0, 0, 0, 0, 0⟩ ⟨1099511627776, 1099511627776, 0, 0, 0, 0⟩ ≤ 2 * ((549755813883, 549755813884) : Int × Int).1 * (2 * ((549755813883, 549755813884) : Int × Int).1)) = false by kernel_rfl, show decide (wnL ⟨0, 0, 0, 0, 0, 0⟩ ⟨1099511627776, 1099511627776, 0, 0, 0, 0⟩ ≤ 2 * ((549755813883, 549755813884) : Int × Int).2 * (2 * ((549755813883, 549755813884) : Int × Int).2)) = false by kernel_rfl] at h
 exact h
theorem k_win2 (w : World) : Calls Tryz.prog 10 #[.agg #[.int .i64 0, .int .i64 0, .int .i64 0, .int .i64 0, .int .i64 0, .int .i64 0], .agg #[.int .i64 1099511627776, .int .i64 1099511627776, .int .i64 0, .int .i64 0, .int .i64 0, .int .i64 0], .int .i64 108000000000] w fun e w' => e = .returned (.tuple #[.bool true, .bool true, .int .i64 0]) ∧ Ext w w' := by
 have h := p_within ⟨0, 0, 0, 0, 0, 0⟩ ⟨1099511627776, 1099511627776, 0, 0, 0, 0⟩ 108000000000 (549755813888, 549755813888) w c_4 ⟨⟨by decide, by decide⟩, ⟨by decide, by decide⟩, ⟨by decide, by decide⟩, ⟨by decide, by decide⟩, ⟨by decide, by decide⟩, ⟨by decide, by decide⟩⟩ ⟨⟨by decide, by decide⟩, ⟨by decide, by decide⟩, ⟨by decide, by decide⟩, ⟨by decide, by decide⟩, ⟨by decide, by decide⟩, ⟨by decide, by decide⟩⟩ (by decide) (by decide) (fun w => t_Sin 108000000000 _ _ w (by decide) (by decide) sv_108000000000) ⟨by decide, by decide, by decide, by decide⟩
 rw [show decide (wnM ⟨0, 0, 0, 0, 0, 0⟩ ⟨1099511627776, 1099511627776, 0, 0, 0, 0⟩ ≤ 2 * ((549755813888, 549755813888) : Int × Int).1 * (2 * ((549755813888, 549755813888) : Int × Int).1)) = true by kernel_rfl, show decide (wnL ⟨0, 0, 0, 0, 0, 0⟩ ⟨1099511627776, 1099511627776, 0, 0, 0, 0⟩ ≤ 2 * ((549755813888, 549755813888) : Int × Int).2 * (2 * ((549755813888, 549755813888) : Int × Int).2)) = true by kernel_rfl] at h
 exact h
theorem k_iv (a b : Int) (w : World) : Calls Tryz.prog 6 #[.int .i64 a, .int .i64 b] w fun e w' => e = .returned (.agg #[.int .i64 a, .int .i64 b]) ∧ Ext w w' := by
 go_enter Tryz.func6, Tryz.ntmps6
 go_wp2_with fail
 refine bodyPost_ret (v := .agg #[.int .i64 a, .int .i64 b]) ?_ rfl ⟨rfl, ?_⟩
 ·simp [results, Tryz.results6, go_sem, ↓IntWalk.iteOmega, *]
 ·exact b_1
theorem k_has (a b n : Int) (w : World) (h0 : a ≤ n) (h1 : n ≤ b) : Calls Tryz.prog 49 #[.agg #[.int .i64 a, .int .i64 b], .int .i64 n] w fun e w' => e = .returned (.bool true) ∧ Ext w w' := by
 go_enter Tryz.func49, Tryz.ntmps49
 go_wp2_with fail
 go_ret
 exact ⟨by first | rfl | (simp; omega), ex_⟩
theorem k_winArg (w : World) : Calls Tryz.prog 10 #[.agg #[.int .i64 0, .int .i64 0, .int .i64 0, .int .i64 0, .int .i64 0, .int .i64 0], .agg #[.int .i64 0, .int .i64 0, .int .i64 0, .int .i64 0, .int .i64 0, .int .i64 0], .int .i64 (-1)] w fun e w' => e = .returned (.tuple #[.bool false, .bool false, .int .i64 2]) ∧ Ext w w' := by
 have hlk := fun w => s_look ⟨0, 0, 0, 0, 0, 0⟩ ⟨0, 0, 0, 0, 0, 0⟩ w
 rw [show ck2V ⟨0, 0, 0, 0, 0, 0⟩ ⟨0, 0, 0, 0, 0, 0⟩ = 0 by kernel_rfl] at hlk
 go_enter Tryz.func10, Tryz.ntmps10
 go_wp2_with (go_at_call 38; (with_reducible refine (hlk _).mono ?_); rintro e w1 ⟨rfl, hb⟩; obtain ⟨_, _, ⟨hc, hf⟩, hz⟩ := hb.c3; (try simp only [wsz] at hz hc hf))
 refine bodyPost_ret (v := .tuple #[.bool false, .bool false, .int .i64 2]) ?_ rfl ⟨rfl, ex_⟩
 simp [results, Tryz.results10, go_sem, ↓IntWalk.iteOmega, *]
theorem fr_pair {w : World} {v : Value} {n d : Int} {x : Rat} (h : PairV w v n d) (hn : x.num = n) (hd : (x.den : Int) = d) : Fr w v x := by
 obtain ⟨s, u, t, z, rfl, h1, h2⟩ := h
 subst hn hd
 obtain ⟨u', e1, l1⟩ := h1
 obtain ⟨z', e2, l2⟩ := h2
 cases e1
 cases e2
 rw [decide_eq_false (show ¬ (x.den : Int) < 0 by omega)]
 rw [Int.natAbs_natCast] at l2
 exact ⟨_, _, rfl, l1, l2⟩
theorem pair_fr {w : World} {v : Value} {x : Rat} (h : Fr w v x) : PairV w v x.num (x.den : Int) := by
 obtain ⟨u, s, rfl, h1, h2⟩ := h.num
 exact ⟨_, _, _, _, rfl, h1, h2.wid⟩
theorem k_of (n : Int) (d : Nat) (N D : Int) (w : World) (hn : -9223372036854775808 ≤ n) (hn2 : n ≤ 9223372036854775807) (hd : d < 9223372036854775808) (h0 : 0 < d) (hN : (mkRat n d).num = N) (hD : ((mkRat n d).den : Int) = D) :
    Calls Tryz.prog 5 #[.int .i64 n, .int .i64 d] w fun e w' => ∃ u, e = .returned u ∧ ((VF.pair N D).err 0).p u w' ∧ Ext w w' := by
 subst hN hD
 exact calls_err ((r_OfZ n d w hn hn2 hd h0).mono fun e w' ⟨u, h1, h2, h3⟩ => ⟨u, h1, (show (VF.pair _ _).p u w' from pair_fr h2), h3⟩)
theorem k_LiftBig {w : World} {u1 u2 : Value} (h1 : PairV w u1 1099511627776 1) (h2 : PairV w u2 1 2) : Calls Tryz.prog 13 #[u1, u2, .int .i64 0, .int .i64 0] w fun e w' => e = .returned (.tuple #[.int .i64 0, .int .i64 0, .int .i64 16]) ∧ Ext w w' := by
 obtain ⟨sa, ao, n, cap, sb, bo, m, cap2, rfl, hA, hB⟩ := h1.open
 obtain ⟨sc, co, n3, cap3, sd, do_, n4, cap4, rfl, -, -⟩ := h2.open
 have hx : PairV w _ _ _ := ⟨_, _, _, _, rfl, hA, hB⟩
 exact p_LiftBad sa sb sc sd ao bo co do_ n cap m cap2 n3 cap3 n4 cap4 0 0 16 w (by decide) fun w1 k => p_OfBig _ (mkRat 1099511627776 1) 60 w1 (fr_pair (hx.ext k) c_4 c_4) ⟨Nat.le_of_ble_eq_true c_4, Nat.le_of_ble_eq_true c_4⟩ (by decide) (of_decide_eq_true c_4) (of_decide_eq_true c_4)
theorem k_Lift0 {w : World} {u1 u2 : Value} (h1 : u1 = .agg #[.bool false, .slice none 0 0, .bool false, .slice none 0 0]) (h2 : PairV w u2 1 2) : Calls Tryz.prog 13 #[u1, u2, .int .i64 0, .int .i64 0] w fun e w' => e = .returned (.tuple #[.int .i64 0, .int .i64 0, .int .i64 8]) ∧ Ext w w' := by
 subst h1
 obtain ⟨sc, co, n3, cap3, sd, do_, n4, cap4, rfl, -, -⟩ := h2.open
 exact p_LiftBad false false sc sd none none co do_ 0 0 0 0 n3 cap3 n4 cap4 0 0 8 w (by decide) fun w1 k => p_Of0 w1
theorem k_LiftArg {w : World} {u1 u2 : Value} (h1 : PairV w u1 1 2) (h2 : PairV w u2 1 2) : Calls Tryz.prog 13 #[u1, u2, .int .i64 0, .int .i64 324000000001] w fun e w' => e = .returned (.tuple #[.int .i64 0, .int .i64 0, .int .i64 2]) ∧ Ext w w' := by
 obtain ⟨sa, ao, n, cap, sb, bo, m, cap2, rfl, hA, hB⟩ := h1.open
 obtain ⟨sc, co, n3, cap3, sd, do_, n4, cap4, rfl, hC, hD⟩ := h2.open
 have hx : PairV w _ _ _ := ⟨_, _, _, _, rfl, hA, hB⟩
 have hy : PairV w _ _ _ := ⟨_, _, _, _, rfl, hC, hD⟩
 have hq := fun v w1 (h : PairV w1 v 1 2) => z_SOf v (mkRat 1 2) 60 w1 (fr_pair h c_4 c_4) ⟨Nat.le_of_ble_eq_true c_4, Nat.le_of_ble_eq_true c_4⟩ (by decide) (of_decide_eq_true c_4) (of_decide_eq_true c_4)
 exact p_LiftArg sa sb sc sd ao bo co do_ n cap m cap2 n3 cap3 n4 cap4 0 324000000001 _ _ _ _ w (.inr (by decide)) (fun w1 k => hq _ w1 (hx.ext k)) (fun w1 k => hq _ w1 (hy.ext k))
theorem k_dirM (w : World) : Calls Tryz.prog 9 #[.agg #[.int .i64 0, .int .i64 0, .int .i64 (-5)]] w fun e w' => e = .returned (.tuple #[.int .i64 0, .int .i64 (-324000000000), .int .i64 0]) ∧ Ext w w' :=
 p_DirZ (-5) 972000000000 w (by decide) (by decide) (by decide) (by decide) (by decide) c_4
theorem k_nrmX (w : World) : Calls Tryz.prog 12 #[.agg #[.int .i64 2305843009213693952, .int .i64 2305843009213693952, .int .i64 0, .int .i64 0, .int .i64 0, .int .i64 0]] w fun e w' => e = .returned (.tuple #[.agg #[.int .i64 0, .int .i64 0], .int .i64 16]) ∧ Ext w w' := by
 have h := p_nrm ⟨2305843009213693952, 2305843009213693952, 0, 0, 0, 0⟩ w ⟨iv_, iv_, iv_⟩
 rw [show nrmV ⟨2305843009213693952, 2305843009213693952, 0, 0, 0, 0⟩ = ⟨0, 0, 16⟩ by kernel_rfl] at h
 exact h
end Go.Proofs.YtaoioncjmfcolaaGreat
