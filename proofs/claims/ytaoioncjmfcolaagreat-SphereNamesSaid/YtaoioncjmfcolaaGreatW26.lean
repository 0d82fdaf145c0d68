/- trig: plain. -/
import Derived.Test.YtaoioncjmfcolaaGreatW25
set_option linter.unusedSimpArgs false
set_option linter.unusedVariables false
set_option maxRecDepth 100000
set_option maxHeartbeats 4000000
namespace Go.Proofs.YtaoioncjmfcolaaGreat
open Go.RowKit
def plK (k : Int) : Int × Bool :=
 if k = 0 ∨ k = 6 then (0, true) else if k = 1 ∨ k = 5 then (549755813888, true) else if k = 3 then (1099511627776, true) else if k = 7 ∨ k = 11 then (-549755813888, true) else if k = 9 then (-1099511627776, true) else (0, false)
def plainF (a : Int) : Int × Bool := if a % 108000000000 = 0 then plK (a / 108000000000 % 12) else (0, false)
theorem tmod12 (q : Int) : (q.tmod 12 + 12).tmod 12 = q % 12 := by
 rcases Int.le_total 0 q with h | h
 ·rw [Int.tmod_eq_emod_of_nonneg h, Int.tmod_eq_emod_of_nonneg (by omega)]; omega
 ·obtain ⟨c, rfl⟩ : ∃ c, q = -c := ⟨-q, by omega⟩
  rw [Int.neg_tmod, Int.tmod_eq_emod_of_nonneg (a := c) (by omega), Int.tmod_eq_emod_of_nonneg (by omega)]; omega
theorem t_plain (a : Int) (w : World) (h0 : -9223372036854775808 ≤ a) (h1 : a ≤ 9223372036854775807) :
    Calls Tryz.prog 87 #[.int .i64 a] w fun e w' => e = .returned (.tuple #[.int .i64 (plainF a).1, .bool (plainF a).2]) ∧ Ext w w' := by
 unfold plainF
 by_cases hd : a % 108000000000 = 0
 ·have hdv : (108000000000 : Int) ∣ a := Int.dvd_of_emod_eq_zero hd
  rw [if_pos hd]
  have hm : a.tmod 108000000000 = 0 := Int.tmod_eq_zero_of_dvd hdv
  obtain ⟨q, hq⟩ : ∃ q, a / 108000000000 = q := ⟨_, rfl⟩
  rw [hq]
  have hqt : a.tdiv 108000000000 = q := by rw [← hq]; exact Int.tdiv_eq_ediv_of_dvd hdv
  obtain ⟨r1, hr1⟩ : ∃ r1, q.tmod 12 = r1 := ⟨_, rfl⟩
  have hr0 : -12 < r1 ∧ r1 < 12 := by
   rw [← hr1]
   rcases Int.le_total 0 q with h | h
   ·rw [Int.tmod_eq_emod_of_nonneg h]; omega
   ·obtain ⟨c, rfl⟩ : ∃ c, q = -c := ⟨-q, by omega⟩
    rw [Int.neg_tmod, Int.tmod_eq_emod_of_nonneg (by omega)]; omega
  obtain ⟨k, hk⟩ : ∃ k, (r1 + 12).tmod 12 = k := ⟨_, rfl⟩
  have hkq : q % 12 = k := by rw [← hk, ← hr1, tmod12]
  rw [hkq]
  have hk12 : k = 0 ∨ k = 1 ∨ k = 2 ∨ k = 3 ∨ k = 4 ∨ k = 5 ∨ k = 6 ∨ k = 7 ∨ k = 8 ∨ k = 9 ∨ k = 10 ∨ k = 11 := by omega
  have hqb : -9223372036854775808 ≤ q ∧ q ≤ 9223372036854775807 := by omega
  clear hkq hq hdv hd
  have I : KBd w [] w := ⟨Ext.refl w, trivial, by simp, by simp⟩
  go_enter Tryz.func87, Tryz.ntmps87
  go_upto_region 3 with fail
  refine wp_regB [] [] (fun z_ => ([VF.eq (.int .i64 (a)), VF.eq (.int .i64 (q)), VF.eq (.int .i64 (r1)), VF.eq (.int .i64 (r1 + 12)), VF.eq (.int .i64 (k)), VF.eq (.int .i64 (k))] : List VF).getD z_ VF.any) I (fun hc => ⟨?_, ?_, ?_, ?_, ?_, ?_, trivial⟩) (fun vs gl W hK0 hv hp => ?_)
  ·exact ob_mv hc (.inl rfl)
  ·exact ob_e2 (x := .tmp 9) (y := .const (.int .i64 108000000000)) (a := (.int .i64 (a))) (b := .int .i64 108000000000) (u := .int .i64 (q)) (some 0) none hc (hs := by intro ρ w1 h k; go_simp; first | done | (simp only [IntKind.wrap_i64]; omega))
  ·exact ob_e2 (x := .tmp 10) (y := .const (.int .i64 12)) (a := (.int .i64 (q))) (b := .int .i64 12) (u := .int .i64 (r1)) (some 1) none hc (hs := by intro ρ w1 h k; go_simp; first | done | exact hr1)
  ·exact ob_e2 (x := .tmp 11) (y := .const (.int .i64 12)) (a := (.int .i64 (r1))) (b := .int .i64 12) (u := .int .i64 (r1 + 12)) (some 2) none hc (hs := by intro ρ w1 h k; go_simp; first | done | (simp only [IntKind.wrap_i64]; omega))
  ·exact ob_e2 (x := .tmp 12) (y := .const (.int .i64 12)) (a := (.int .i64 (r1 + 12))) (b := .int .i64 12) (u := .int .i64 (k)) (some 3) none hc (hs := by intro ρ w1 h k; go_simp; first | done | exact hk)
  ·exact ob_cp 4 hc (.inr rfl)
  have v5 : vs 5 = .int .i64 k := hv 5 (by decide)
  simp only [putS, Nat.reduceAdd, Act.put, List.setIfInBounds_toArray, List.set_cons_zero, List.set_cons_succ, v5]
  simp only [kb_] at hK0
  replace I := hK0
  clear hK0 hv hp gl v5
  have hEx := I.e
  clear I hk hr1 hqt hm h0 h1 hqb hr0
  rcases hk12 with rfl | rfl | rfl | rfl | rfl | rfl | rfl | rfl | rfl | rfl | rfl | rfl
  all_goals (go_wp2_with fail; go_ret2; exact ⟨rfl, hEx⟩)
 ·rw [if_neg hd]
  have hm : ¬ a.tmod 108000000000 = 0 := fun h => hd (Int.emod_eq_zero_of_dvd (Int.dvd_of_tmod_eq_zero h))
  clear hd
  go_enter Tryz.func87, Tryz.ntmps87
  go_wp2_with fail
  go_ret2
  exact ⟨rfl, Ext.refl _⟩
def sinF (a : Int) : Option (Int × Int) :=
 match plainF a with
 | (v, true) => some (v, v)
 | (_, false) => (sineF a 90).bind fun b => if 0 ≤ b.r ∧ b.r ≤ 9000000000000000000 then (floorF b.v b.r 90).bind fun q => some (q, q + 1) else none
theorem t_Sin (a lo hi : Int) (w : World) (h0 : -9223372036854775808 ≤ a) (h1 : a ≤ 9223372036854775807) (hF : sinF a = some (lo, hi)) :
    Calls Tryz.prog 39 #[.int .i64 a] w fun e w' => e = .returned (.agg #[.int .i64 lo, .int .i64 hi]) ∧ Ext w w' := by
 have hpl := fun w => t_plain a w h0 h1
 unfold sinF at hF
 obtain ⟨⟨v, t⟩, hp⟩ : ∃ x, plainF a = x := ⟨_, rfl⟩
 rw [hp] at hpl hF
 dsimp only at hpl
 cases t with
 | true =>
  obtain ⟨rfl, rfl⟩ : v = lo ∧ v = hi := by have := Option.some.inj hF; exact ⟨congrArg Prod.fst this, congrArg Prod.snd this⟩
  clear hF hp
  go_enter Tryz.func39, Tryz.ntmps39
  go_upto_region 1 with fail
  go_step3
  go_wp2_with (go_at_call 87; (with_reducible refine (hpl _).mono ?_); rintro e w1 ⟨rfl, hb⟩; obtain ⟨_, _, ⟨hc, hf⟩, hz⟩ := hb.c3; (try simp only [wsz] at hz hc hf))
  rw [Exit.noGoto_ret]
  refine bodyPost_ret (v := .agg #[.int .i64 v, .int .i64 v]) ?_ rfl ⟨rfl, ?_⟩
  ·simp [results, Tryz.results39, go_sem, ↓IntWalk.iteOmega, *]
  ·exact b_1
 | false =>
  dsimp only at hF
  rw [Option.bind_eq_some_iff] at hF
  obtain ⟨b, hs, hF⟩ := hF
  split at hF
  case isFalse => cases hF
  rename_i hr
  rw [Option.bind_eq_some_iff] at hF
  obtain ⟨q, hq, hF⟩ := hF
  obtain ⟨rfl, rfl⟩ : q = lo ∧ q + 1 = hi := by have := Option.some.inj hF; exact ⟨congrArg Prod.fst this, congrArg Prod.snd this⟩
  have hsi : ∀ w, Calls Tryz.prog 88 #[.int .i64 a, .int .i64 90] w fun e w' => ∃ u, e = .returned u ∧ Ball w' u b.v b.r ∧ Ext w w' := fun w => t_sine a b 90 w h0 h1 hs
  have hun : ∀ v w1, Ball w1 v b.v b.r → Calls Tryz.prog 89 #[v, .int .i64 90] w1 fun e w' => e = .returned (.tuple #[.agg #[.int .i64 q, .int .i64 (q + 1)], .bool true]) ∧ Ext w1 w' := fun v w1 h => t_unit v b.v b.r q 90 w1 h hr.1 hr.2 (by decide) (by decide) hq
  clear hF hp hs hq
  go_enter Tryz.func39, Tryz.ntmps39
  go_upto_region 1 with fail
  go_step3
  go_wp2_with (go_at_call 87; (with_reducible refine (hpl _).mono ?_); rintro e w1 ⟨rfl, hb⟩; obtain ⟨_, _, ⟨hc, hf⟩, hz⟩ := hb.c3; (try simp only [wsz] at hz hc hf))
  go_step3
  go_wp2_with (first
   | (go_at_call 88; (with_reducible refine (hsi _).mono ?_); rintro e w2 ⟨y2, rfl, hy2, hb2⟩; obtain ⟨_, _, ⟨hc2, hf2⟩, hz2⟩ := hb2.c3; (try simp only [wsz] at hz2 hc2 hf2))
   | (go_at_call 89; (with_reducible refine (hun _ _ hy2).mono ?_); rintro e w3 ⟨rfl, hb3⟩; obtain ⟨_, _, ⟨hc3, hf3⟩, hz3⟩ := hb3.c3; (try simp only [wsz] at hz3 hc3 hf3)))
  rw [Exit.noGoto_ret]
  refine bodyPost_ret (v := .agg #[.int .i64 q, .int .i64 (q + 1)]) ?_ rfl ⟨rfl, ?_⟩
  ·simp [results, Tryz.results39, go_sem, ↓IntWalk.iteOmega, *]
  ·exact b_1
theorem t_Cos (a lo hi : Int) (w : World) (h0 : -9223372036854775808 ≤ a) (h1 : a ≤ 9223372036854775807) (hF : sinF (a.tmod 1296000000000 + 324000000000) = some (lo, hi)) :
    Calls Tryz.prog 68 #[.int .i64 a] w fun e w' => e = .returned (.agg #[.int .i64 lo, .int .i64 hi]) ∧ Ext w w' := by
 obtain ⟨b, hb⟩ : ∃ b, a.tmod 1296000000000 = b := ⟨_, rfl⟩
 rw [hb] at hF
 have hb0 : -1296000000000 ≤ b ∧ b < 1296000000000 := by
  have := tmod_emod a
  rw [hb] at this
  split at this <;> omega
 have hsi : ∀ c w, c = b + 324000000000 → Calls Tryz.prog 39 #[.int .i64 c] w fun e w' => e = .returned (.agg #[.int .i64 lo, .int .i64 hi]) ∧ Ext w w' := fun c w hc => by
  subst hc
  exact t_Sin _ lo hi w (by omega) (by omega) hF
 clear hF
 go_enter Tryz.func68, Tryz.ntmps68
 go_wp2_with (go_at_call 39; (with_reducible refine (hsi _ _ (by first | rfl | (unfold wrap64; omega) | (simp only [IntKind.wrap_i64]; omega))).mono ?_); rintro e w1 ⟨rfl, hb1⟩; obtain ⟨_, _, ⟨hc1, hf1⟩, hz1⟩ := hb1.c3; (try simp only [wsz] at hz1 hc1 hf1))
 refine bodyPost_ret (v := .agg #[.int .i64 lo, .int .i64 hi]) ?_ rfl ⟨rfl, ?_⟩
 ·simp [results, Tryz.results68, go_sem, ↓IntWalk.iteOmega, *]
 ·exact b_1
theorem T_ZDM_4 {p : Prop} (h : p := by
 intro p hp
 simp only [List.mem_cons, List.mem_nil_iff, or_false] at hp
 rcases hp with rfl | rfl | rfl | rfl <;> simp [go_sem, ↓IntWalk.iteOmega]) : p := h
theorem T_ZDM_3 {p : Prop} (h : p := by
 intro p hp
 simp only [List.mem_cons, List.mem_nil_iff, or_false] at hp
 rcases hp with rfl | rfl | rfl | rfl <;> (dsimp only; omega)) : p := h
theorem T_ZDM_2 {p : Prop} (h : p := by
 rw [← hW4]
 refine ⟨hW4 ▸ hEW, ?_, ?_, ?_, ?_, ?_, by simp⟩
 ·exact T_ZDM_4
 ·exact b_2
 ·exact b_3
 ·exact b_4
 ·have := NoU.new (((w.alloc (.cells #[.bool true, .slice ao (dig m).length cap1] 24)).alloc (.cells #[.bool false, .slice bo (dig k).length cap2] 24)).alloc (.cells #[.bool false, .slice none 0 0] 24)) #[.bool false, .slice none 0 0] 24 (noU2 (by simp) (by simp))
  simpa using this) : p := h
theorem T_ZDM_1 {p : Prop} (h : p := by
 rw [← hW4]
 refine ⟨hW4 ▸ hEW, ?_, ?_, ?_, ?_, ?_, by simp⟩
 ·exact T_ZDM_4
 ·exact b_2
 ·exact b_3
 ·exact b_4
 ·have := (NoU.new ((w.alloc (.cells #[.bool true, .slice ao (dig m).length cap1] 24)).alloc (.cells #[.bool false, .slice bo (dig k).length cap2] 24)) #[.bool false, .slice none 0 0] 24 (noU2 (by simp) (by simp))).alloc (by simp) #[.bool false, .slice none 0 0] 24
  simpa using this) : p := h
theorem z_DivTr (va vb : Value) (m k : Nat) (w : World) (ha : Sm w va true m) (hb0 : Nn w vb k) (hs : Small m) (hz : m = 0 → true = false) (hk0 : 0 < k) (hs2 : Small k) (hr0 : 0 < m % k) :
    Calls Tryz.prog 98 #[va, vb] w fun e w' => ∃ u v, e = .returned (.tuple #[u, v, .int .i64 0]) ∧ Wid w' u (sg true (m / k + 1)) ∧ Nn w' v (k - m % k) ∧ Ext w w' := by
 obtain ⟨u, rfl, hu⟩ := ha
 obtain ⟨s, rfl, hv⟩ := hb0
 obtain ⟨ao, b1, o1, cap1, rfl, v1, v2, v3, v4, v5, v6⟩ := hu.view
 obtain ⟨bo, b2, o2, cap2, rfl, y1, y2, y3, y4, y5, y6⟩ := hv.view
 have hlen : (dig m).length ≤ 49999 := by unfold Small at hs; omega
 have hl1 := dig_pos.2 hk0
 have hlk : (dig k).length ≤ 49999 := by unfold Small at hs2; omega
 obtain ⟨W4, hW4⟩ : ∃ W4, (((w.alloc (.cells #[.bool true, .slice ao (dig m).length cap1] 24)).alloc (.cells #[.bool false, .slice bo (dig k).length cap2] 24)).alloc (.cells #[.bool false, .slice none 0 0] 24)).alloc (.cells #[.bool false, .slice none 0 0] 24) = W4 := ⟨_, rfl⟩
 have hWs : W4.heap.size = w.heap.size + 1 + 1 + 1 + 1 := by rw [← hW4]; simp
 have hEW : Ext w W4 := by rw [← hW4]; exact ((((Ext.refl w).alloc _).alloc _).alloc _).alloc _
 have hA0 : BX w (w.heap.size + 1 + 1) [(w.heap.size, 0, .bool true), (w.heap.size, 1, .slice ao (dig m).length cap1), (w.heap.size + 1, 0, .bool false), (w.heap.size + 1, 1, .slice bo (dig k).length cap2)] W4 := by
  exact T_ZDM_1
 have hB0 : BX w (w.heap.size + 1 + 1 + 1) [(w.heap.size, 0, .bool true), (w.heap.size, 1, .slice ao (dig m).length cap1), (w.heap.size + 1, 0, .bool false), (w.heap.size + 1, 1, .slice bo (dig k).length cap2)] W4 := by
  exact T_ZDM_2
 have hL2 : ∀ p ∈ ([(w.heap.size, 0, .bool true), (w.heap.size, 1, .slice ao (dig m).length cap1), (w.heap.size + 1, 0, .bool false), (w.heap.size + 1, 1, .slice bo (dig k).length cap2)] : List (Nat × Nat × Value)), p.1 ≠ w.heap.size + 1 + 1 := by
  exact T_ZDM_3
 have hL3 : ∀ p ∈ ([(w.heap.size, 0, .bool true), (w.heap.size, 1, .slice ao (dig m).length cap1), (w.heap.size + 1, 0, .bool false), (w.heap.size + 1, 1, .slice bo (dig k).length cap2)] : List (Nat × Nat × Value)), p.1 ≠ w.heap.size + 1 + 1 + 1 := by
  exact T_ZDM_3
 have hck := z_check_two W4 _ _ true false m k (hu.ext hEW) (hv.ext hEW) hs hs2 hz (fun _ => rfl)
 rw [hWs] at hck
 subst hW4
 clear v1 v4 v5 y1 y4 y5 hWs hEW
 have z0 : (((dig k).length : Int) == 0) = false := by simp; intro e; rw [e] at hl1; simp at hl1
 have hdv := fun w1 (k1 : Ext w w1) => w_divideA _ _ (dig m) (dig k) w1 (hu.ext k1) (hv.ext k1) (dig_nz m) (dig_nz k) hlen hl1
 have hl2 := hl1
 clear hl1
 obtain ⟨Q, hQ⟩ : ∃ Q, (m / k + 1) = Q := ⟨_, rfl⟩
 obtain ⟨R, hR⟩ : ∃ R, (k - m % k) = R := ⟨_, rfl⟩
 rw [hQ, hR]
 go_enter Tryz.func98, Tryz.ntmps98
 go_upto_region 7 with (first
  | (go_at_call 77; (with_reducible refine hck.mono ?_); rintro e w1 ⟨rfl, hb⟩; have hA := hA0.ext (((Ext.refl _).alloc _).trans hb); have hB := hB0.ext (((Ext.refl _).alloc _).trans hb); have q0 := BX.get hA 0 rfl; have q1 := BX.get hA 1 rfl; have q2 := BX.get hA 2 rfl; have q3 := BX.get hA 3 rfl; clear hA0 hB0 hck hb)
  | (go_at_call 83; (with_reducible refine (hdv _ hA.base).mono ?_); rintro e w2 ⟨y14, y15, qs, rs, rfl, hq, hr, nq, nr, hval, hlt, hb5⟩; obtain ⟨ao6, b6, o6, cap6, rfl, -⟩ := hr.view; obtain ⟨ao5, b5, o5, cap5, rfl, -⟩ := hq.view; replace hA := hA.ext hb5; replace hB := hB.ext hb5; replace q0 := BX.get hA 0 rfl; replace q1 := BX.get hA 1 rfl; replace q2 := BX.get hA 2 rfl; replace q3 := BX.get hA 3 rfl))
 obtain ⟨eq, er⟩ := div_dig hq.lb hr.lb nq nr hval hlt
 subst eq
 subst er
 have hmk : m / k ≤ m := Nat.div_le_self _ _
 have hrk : m % k < k := Nat.mod_lt _ hk0
 have hlq : (dig (m / k)).length ≤ 49999 := Nat.le_trans (dig_mono hmk) hlen
 have hsq0 : (dig (m / k + 1)).length ≤ 4096 := Nat.le_trans (dig_mono (Nat.div_lt_self (Nat.pos_of_ne_zero (by rintro rfl; simp at hr0)) (by omega))) hs
 have hsr0 : (dig (k - m % k)).length ≤ 4096 := Nat.le_trans (dig_mono (by omega)) hs2
 have hrp : 0 < (dig (m % k)).length := dig_pos.2 hr0
 have hsq : (dig Q).length ≤ 4096 := hQ ▸ hsq0
 have hsr : (dig R).length ≤ 4096 := hR ▸ hsr0
 clear hdv hval hlt nq nr hb5 hsq0 hsr0
 go_upto_region 10 with (first
  | (go_at_call 85; (with_reducible refine (w_plus _ _ _ [1] _ (hq.ext ((Ext.refl _).alloc _)) (lim_one _ 1 u32_one) c_13).mono ?_); rintro e w3 ⟨y3, zs, rfl, hz3, hval3, hb3⟩; obtain ⟨zo, _, _, zc, rfl, -⟩ := hz3.view; have hb3' := ((Ext.refl w2).alloc _).trans hb3; replace hA := hA.ext hb3'; replace hB := hB.ext hb3'; replace q0 := BX.get hA 0 rfl; replace q1 := BX.get hA 1 rfl; replace q2 := BX.get hA 2 rfl; replace q3 := BX.get hA 3 rfl; have hr3 := hr.ext hb3')
  | (go_at_call 135; (with_reducible refine (w_minus _ _ (dig k) (dig (m % k)) _ (hv.ext hA.base) hr3 (by omega) (dig_mono (Nat.le_of_lt hrk)) (by rw [dig_val, dig_val]; omega)).mono ?_); rintro e w4 ⟨y4, ts, rfl, ht4, hval4, hb4⟩; obtain ⟨to_, _, _, tc, rfl, -⟩ := ht4.view; replace hA := hA.ext hb4; replace hB := hB.ext hb4; replace q0 := BX.get hA 0 rfl; replace q1 := BX.get hA 1 rfl; replace q2 := BX.get hA 2 rfl; replace q3 := BX.get hA 3 rfl; replace hz3 := hz3.ext hb4))
 have hvq : val zs = ((m / k + 1 : Nat) : Int) := by rw [hval3, dig_val]; simp [val]
 have hvr : val ts = ((k - m % k : Nat) : Int) := by rw [hval4, dig_val, dig_val]; omega
 go_upto_region 11 with (go_at_call 76; go_loud (with_reducible refine (w_madeS true _ _ Q _ hz3 (by rw [hvq, hQ]) hsq).mono ?_); rintro e w5 ⟨y16, boq, rfl, hq5, hboq, hb6⟩; replace hboq : Hid _ := hboq; obtain ⟨ao7, b7, o7, cap7, rfl, -⟩ := hq5.view; replace hA := hA.ext hb6; replace hB := hB.ext hb6; replace q0 := BX.get hA 0 rfl; replace q1 := BX.get hA 1 rfl; replace q2 := BX.get hA 2 rfl; replace q3 := BX.get hA 3 rfl; obtain ⟨⟨xa, h3a⟩, ⟨xb, h3b⟩, h3f, hnu, hsl⟩ := hA.box; have hr6 := ht4.ext hb6)
 obtain ⟨Wq, hWq⟩ : ∃ Wq, (w5.setCell ⟨w.heap.size + 1 + 1, 0, none⟩ (.bool boq)).setCell ⟨w.heap.size + 1 + 1, 1, none⟩ (.slice ao7 (dig Q).length cap7) = Wq := ⟨_, rfl⟩
 have hAq : BX w (w.heap.size + 1 + 1) [(w.heap.size, 0, .bool true), (w.heap.size, 1, .slice ao (dig m).length cap1), (w.heap.size + 1, 0, .bool false), (w.heap.size + 1, 1, .slice bo (dig k).length cap2)] Wq := hWq ▸ (hA.set (by omega) hL2 (fun z e => by cases e)).set (by omega) hL2 (fun z e => by cases e)
 have hBq : BX w (w.heap.size + 1 + 1 + 1) [(w.heap.size, 0, .bool true), (w.heap.size, 1, .slice ao (dig m).length cap1), (w.heap.size + 1, 0, .bool false), (w.heap.size + 1, 1, .slice bo (dig k).length cap2)] Wq := hWq ▸ (hB.other (by omega) hL2 (by omega) (fun z e => by cases e)).other (by omega) hL2 (by omega) (fun z e => by cases e)
 have hqq : Lim Wq (.slice ao7 (dig Q).length cap7) (dig Q) := hWq ▸ Lim.box (Lim.box hq5 hnu) (NoU.set hnu (fun z e => by cases e))
 have hrq : Lim Wq _ _ := hWq ▸ Lim.box (Lim.box hr6 hnu) (NoU.set hnu (fun z e => by cases e))
 have c20 : Wq.cell? ⟨w.heap.size + 1 + 1, 0, none⟩ = some (.bool boq) := by rw [← hWq]; simp [go_sem, h3a, h3b]
 have c21 : Wq.cell? ⟨w.heap.size + 1 + 1, 1, none⟩ = some (.slice ao7 (dig Q).length cap7) := by rw [← hWq]; simp [go_sem, h3a, h3b]
 rw [hWq]
 replace q0 := BX.get hAq 0 rfl
 replace q1 := BX.get hAq 1 rfl
 replace q2 := BX.get hAq 2 rfl
 replace q3 := BX.get hAq 3 rfl
 clear hWq hA hB hq5 hr6 h3a h3b h3f hnu hsl
 go_upto_region 14 with (go_at_call 76; (with_reducible refine (w_madeN _ _ R _ hrq (by rw [hvr, hR]) hsr).mono ?_); rintro e w6 ⟨y17, rfl, hr7, hb7⟩; obtain ⟨ao8, b8, o8, cap8, rfl, -⟩ := hr7.view; have hA6 := hAq.ext hb7; have hB6 := hBq.ext hb7; obtain ⟨⟨xa, h4a⟩, ⟨xb, h4b⟩, h4f, hnv, hsm⟩ := hB6.box; have hsl := hAq.box.2.2.2.2; have h3f := hA6.box.2.2.1; have d20 := (hb7.cells.1 _ 0 hsl).trans c20; have d21 := (hb7.cells.1 _ 1 hsl).trans c21; clear c20 c21 q0 q1 q2 q3)
 have h4f0 := h4f 0
 have h4f1 := h4f 1
 have h3f0 := h3f 0
 have h3f1 := h3f 1
 go_region
 all_goals
  have hE6 := hA6.base
  have hnu := hA6.box.2.2.2.1
  have hq6 := hqq.ext hb7
  go_wp2_with fail
  refine bodyPost_ret (v := .tuple #[.agg #[.bool boq, .slice ao7 (dig Q).length cap7], .agg #[.bool false, .slice ao8 (dig R).length cap8], .int .i64 0]) ?_ rfl ⟨_, _, rfl, ?_, ⟨_, rfl, ?_⟩, ?_⟩
  ·simp [results, Tryz.results98, go_sem, ↓IntWalk.iteOmega, h4a, h4b, d20, d21]
  ·refine Wid.mk' (Lim.ext ?_ ((Ext.refl _).drew)) hboq.out
   refine Lim.box (Lim.box (Lim.box (Lim.box (Lim.box (Lim.box hq6 ?_) ?_) ?_) ?_) ?_) ?_ <;> (repeat (first | with_reducible exact hnu | with_reducible exact hnv | with_reducible refine NoU.set ?_ (fun z e => by cases e)))
  ·refine Lim.ext ?_ ((Ext.refl _).drew)
   refine Lim.box (Lim.box (Lim.box (Lim.box (Lim.box (Lim.box hr7 ?_) ?_) ?_) ?_) ?_) ?_ <;> (repeat (first | with_reducible exact hnu | with_reducible exact hnv | with_reducible refine NoU.set ?_ (fun z e => by cases e)))
  ·exact b_1
theorem z_DivTn (va vb : Value) (m k : Nat) (w : World) (ha : Sm w va true m) (hb0 : Nn w vb k) (hs : Small m) (hz : m = 0 → true = false) (hk0 : 0 < k) (hs2 : Small k) (hr0 : ¬ 0 < m % k) :
    Calls Tryz.prog 98 #[va, vb] w fun e w' => ∃ u v, e = .returned (.tuple #[u, v, .int .i64 0]) ∧ Wid w' u (sg true (m / k)) ∧ Nn w' v (m % k) ∧ Ext w w' := by
 obtain ⟨u, rfl, hu⟩ := ha
 obtain ⟨s, rfl, hv⟩ := hb0
 obtain ⟨ao, b1, o1, cap1, rfl, v1, v2, v3, v4, v5, v6⟩ := hu.view
 obtain ⟨bo, b2, o2, cap2, rfl, y1, y2, y3, y4, y5, y6⟩ := hv.view
 have hlen : (dig m).length ≤ 49999 := by unfold Small at hs; omega
 have hl1 := dig_pos.2 hk0
 have hlk : (dig k).length ≤ 49999 := by unfold Small at hs2; omega
 obtain ⟨W4, hW4⟩ : ∃ W4, (((w.alloc (.cells #[.bool true, .slice ao (dig m).length cap1] 24)).alloc (.cells #[.bool false, .slice bo (dig k).length cap2] 24)).alloc (.cells #[.bool false, .slice none 0 0] 24)).alloc (.cells #[.bool false, .slice none 0 0] 24) = W4 := ⟨_, rfl⟩
 have hWs : W4.heap.size = w.heap.size + 1 + 1 + 1 + 1 := by rw [← hW4]; simp
 have hEW : Ext w W4 := by rw [← hW4]; exact ((((Ext.refl w).alloc _).alloc _).alloc _).alloc _
 have hA0 : BX w (w.heap.size + 1 + 1) [(w.heap.size, 0, .bool true), (w.heap.size, 1, .slice ao (dig m).length cap1), (w.heap.size + 1, 0, .bool false), (w.heap.size + 1, 1, .slice bo (dig k).length cap2)] W4 := by
  exact T_ZDM_1
 have hB0 : BX w (w.heap.size + 1 + 1 + 1) [(w.heap.size, 0, .bool true), (w.heap.size, 1, .slice ao (dig m).length cap1), (w.heap.size + 1, 0, .bool false), (w.heap.size + 1, 1, .slice bo (dig k).length cap2)] W4 := by
  exact T_ZDM_2
 have hL2 : ∀ p ∈ ([(w.heap.size, 0, .bool true), (w.heap.size, 1, .slice ao (dig m).length cap1), (w.heap.size + 1, 0, .bool false), (w.heap.size + 1, 1, .slice bo (dig k).length cap2)] : List (Nat × Nat × Value)), p.1 ≠ w.heap.size + 1 + 1 := by
  exact T_ZDM_3
 have hL3 : ∀ p ∈ ([(w.heap.size, 0, .bool true), (w.heap.size, 1, .slice ao (dig m).length cap1), (w.heap.size + 1, 0, .bool false), (w.heap.size + 1, 1, .slice bo (dig k).length cap2)] : List (Nat × Nat × Value)), p.1 ≠ w.heap.size + 1 + 1 + 1 := by
  exact T_ZDM_3
 have hck := z_check_two W4 _ _ true false m k (hu.ext hEW) (hv.ext hEW) hs hs2 hz (fun _ => rfl)
 rw [hWs] at hck
 subst hW4
 clear v1 v4 v5 y1 y4 y5 hWs hEW
 have z0 : (((dig k).length : Int) == 0) = false := by simp; intro e; rw [e] at hl1; simp at hl1
 have hdv := fun w1 (k1 : Ext w w1) => w_divideA _ _ (dig m) (dig k) w1 (hu.ext k1) (hv.ext k1) (dig_nz m) (dig_nz k) hlen hl1
 have hl2 := hl1
 clear hl1
 obtain ⟨Q, hQ⟩ : ∃ Q, (m / k) = Q := ⟨_, rfl⟩
 obtain ⟨R, hR⟩ : ∃ R, (m % k) = R := ⟨_, rfl⟩
 rw [hQ, hR]
 go_enter Tryz.func98, Tryz.ntmps98
 go_upto_region 7 with (first
  | (go_at_call 77; (with_reducible refine hck.mono ?_); rintro e w1 ⟨rfl, hb⟩; have hA := hA0.ext (((Ext.refl _).alloc _).trans hb); have hB := hB0.ext (((Ext.refl _).alloc _).trans hb); have q0 := BX.get hA 0 rfl; have q1 := BX.get hA 1 rfl; have q2 := BX.get hA 2 rfl; have q3 := BX.get hA 3 rfl; clear hA0 hB0 hck hb)
  | (go_at_call 83; (with_reducible refine (hdv _ hA.base).mono ?_); rintro e w2 ⟨y14, y15, qs, rs, rfl, hq, hr, nq, nr, hval, hlt, hb5⟩; obtain ⟨ao6, b6, o6, cap6, rfl, -⟩ := hr.view; obtain ⟨ao5, b5, o5, cap5, rfl, -⟩ := hq.view; replace hA := hA.ext hb5; replace hB := hB.ext hb5; replace q0 := BX.get hA 0 rfl; replace q1 := BX.get hA 1 rfl; replace q2 := BX.get hA 2 rfl; replace q3 := BX.get hA 3 rfl))
 obtain ⟨eq, er⟩ := div_dig hq.lb hr.lb nq nr hval hlt
 subst eq
 subst er
 have hmk : m / k ≤ m := Nat.div_le_self _ _
 have hrk : m % k < k := Nat.mod_lt _ hk0
 have hlq : (dig (m / k)).length ≤ 49999 := Nat.le_trans (dig_mono hmk) hlen
 have hsq0 : (dig (m / k)).length ≤ 4096 := Nat.le_trans (dig_mono hmk) hs
 have hsr0 : (dig (m % k)).length ≤ 4096 := Nat.le_trans (dig_mono (by omega)) hs2
 have hrp : (dig (m % k)).length = 0 := by
  have : m % k = 0 := by omega
  rw [this]; rfl
 have hsq : (dig Q).length ≤ 4096 := hQ ▸ hsq0
 have hsr : (dig R).length ≤ 4096 := hR ▸ hsr0
 clear hdv hval hlt nq nr hb5 hsq0 hsr0
 rw [hQ] at hq
 rw [hR] at hr hrp
 go_upto_region 11 with (go_at_call 76; go_loud (with_reducible refine (w_madeS true _ _ Q _ hq (dig_val _) hsq).mono ?_); rintro e w5 ⟨y16, boq, rfl, hq5, hboq, hb6⟩; replace hboq : Hid _ := hboq; obtain ⟨ao7, b7, o7, cap7, rfl, -⟩ := hq5.view; replace hA := hA.ext hb6; replace hB := hB.ext hb6; replace q0 := BX.get hA 0 rfl; replace q1 := BX.get hA 1 rfl; replace q2 := BX.get hA 2 rfl; replace q3 := BX.get hA 3 rfl; obtain ⟨⟨xa, h3a⟩, ⟨xb, h3b⟩, h3f, hnu, hsl⟩ := hA.box; have hr6 := hr.ext hb6)
 obtain ⟨Wq, hWq⟩ : ∃ Wq, (w5.setCell ⟨w.heap.size + 1 + 1, 0, none⟩ (.bool boq)).setCell ⟨w.heap.size + 1 + 1, 1, none⟩ (.slice ao7 (dig Q).length cap7) = Wq := ⟨_, rfl⟩
 have hAq : BX w (w.heap.size + 1 + 1) [(w.heap.size, 0, .bool true), (w.heap.size, 1, .slice ao (dig m).length cap1), (w.heap.size + 1, 0, .bool false), (w.heap.size + 1, 1, .slice bo (dig k).length cap2)] Wq := hWq ▸ (hA.set (by omega) hL2 (fun z e => by cases e)).set (by omega) hL2 (fun z e => by cases e)
 have hBq : BX w (w.heap.size + 1 + 1 + 1) [(w.heap.size, 0, .bool true), (w.heap.size, 1, .slice ao (dig m).length cap1), (w.heap.size + 1, 0, .bool false), (w.heap.size + 1, 1, .slice bo (dig k).length cap2)] Wq := hWq ▸ (hB.other (by omega) hL2 (by omega) (fun z e => by cases e)).other (by omega) hL2 (by omega) (fun z e => by cases e)
 have hqq : Lim Wq (.slice ao7 (dig Q).length cap7) (dig Q) := hWq ▸ Lim.box (Lim.box hq5 hnu) (NoU.set hnu (fun z e => by cases e))
 have hrq : Lim Wq _ _ := hWq ▸ Lim.box (Lim.box hr6 hnu) (NoU.set hnu (fun z e => by cases e))
 have c20 : Wq.cell? ⟨w.heap.size + 1 + 1, 0, none⟩ = some (.bool boq) := by rw [← hWq]; simp [go_sem, h3a, h3b]
 have c21 : Wq.cell? ⟨w.heap.size + 1 + 1, 1, none⟩ = some (.slice ao7 (dig Q).length cap7) := by rw [← hWq]; simp [go_sem, h3a, h3b]
 rw [hWq]
 replace q0 := BX.get hAq 0 rfl
 replace q1 := BX.get hAq 1 rfl
 replace q2 := BX.get hAq 2 rfl
 replace q3 := BX.get hAq 3 rfl
 clear hWq hA hB hq5 hr6 h3a h3b h3f hnu hsl
 rw [hrp] at hrq
 go_upto_region 14 with (go_at_call 76; (with_reducible refine (w_madeN _ _ R _ hrq (dig_val _) hsr).mono ?_); rintro e w6 ⟨y17, rfl, hr7, hb7⟩; obtain ⟨ao8, b8, o8, cap8, rfl, -⟩ := hr7.view; have hA6 := hAq.ext hb7; have hB6 := hBq.ext hb7; obtain ⟨⟨xa, h4a⟩, ⟨xb, h4b⟩, h4f, hnv, hsm⟩ := hB6.box; have hsl := hAq.box.2.2.2.2; have h3f := hA6.box.2.2.1; have d20 := (hb7.cells.1 _ 0 hsl).trans c20; have d21 := (hb7.cells.1 _ 1 hsl).trans c21; clear c20 c21 q0 q1 q2 q3)
 have h4f0 := h4f 0
 have h4f1 := h4f 1
 have h3f0 := h3f 0
 have h3f1 := h3f 1
 go_region
 all_goals
  have hE6 := hA6.base
  have hnu := hA6.box.2.2.2.1
  have hq6 := hqq.ext hb7
  go_wp2_with fail
  refine bodyPost_ret (v := .tuple #[.agg #[.bool boq, .slice ao7 (dig Q).length cap7], .agg #[.bool false, .slice ao8 (dig R).length cap8], .int .i64 0]) ?_ rfl ⟨_, _, rfl, ?_, ⟨_, rfl, ?_⟩, ?_⟩
  ·simp [results, Tryz.results98, go_sem, ↓IntWalk.iteOmega, h4a, h4b, d20, d21] <;> exact hrp.symm
  ·refine Wid.mk' (Lim.ext ?_ ((Ext.refl _).drew)) hboq.out
   refine Lim.box (Lim.box (Lim.box (Lim.box (Lim.box (Lim.box hq6 ?_) ?_) ?_) ?_) ?_) ?_ <;> (repeat (first | with_reducible exact hnu | with_reducible exact hnv | with_reducible refine NoU.set ?_ (fun z e => by cases e)))
  ·refine Lim.ext ?_ ((Ext.refl _).drew)
   refine Lim.box (Lim.box (Lim.box (Lim.box (Lim.box (Lim.box hr7 ?_) ?_) ?_) ?_) ?_) ?_ <;> (repeat (first | with_reducible exact hnu | with_reducible exact hnv | with_reducible refine NoU.set ?_ (fun z e => by cases e)))
  ·exact b_1
theorem neg_divN (m k : Nat) (hk : 0 < k) : (-(m : Int)) / k = (if 0 < m % k then -((m / k + 1 : Nat) : Int) else -((m / k : Nat) : Int)) ∧ (-(m : Int)) % k = (if 0 < m % k then ((k - m % k : Nat) : Int) else 0) := by
 have hd := Nat.div_add_mod m k
 have hm := Nat.mod_lt m hk
 generalize m / k = q at *
 generalize m % k = r at *
 have e : (m : Int) = k * q + r := by exact_mod_cast hd.symm
 split
 ·rename_i h0
  refine (Int.ediv_emod_unique (a := -(m : Int)) (b := k) (r := ((k - r : Nat) : Int)) (q := -((q + 1 : Nat) : Int)) (by omega)).2 ⟨?_, by omega, by omega⟩
  rw [e, Int.natCast_add, Int.mul_neg, Int.mul_add]; omega
 ·rename_i h0
  refine (Int.ediv_emod_unique (a := -(m : Int)) (b := k) (r := 0) (q := -(q : Int)) (by omega)).2 ⟨?_, by omega, by omega⟩
  rw [e, Int.mul_neg]; omega
theorem z_DivMod (va vb : Value) (n : Int) (k : Nat) (w : World) (ha : Wid w va n) (hb0 : Nn w vb k) (hs : Sz n) (hk0 : 0 < k) (hs2 : Small k) :
    Calls Tryz.prog 98 #[va, vb] w fun e w' => ∃ u v, e = .returned (.tuple #[u, v, .int .i64 0]) ∧ Wid w' u (n / k) ∧ Nn w' v (n % k).toNat ∧ Ext w w' := by
 by_cases h : n < 0
 ·obtain ⟨u, rfl, hu⟩ := ha
  have hd : decide (n < 0) = true := decide_eq_true h
  rw [hd]
  obtain ⟨e1, e2⟩ := neg_divN n.natAbs k hk0
  have e : -(n.natAbs : Int) = n := by omega
  rw [e] at e1 e2
  rw [e1, e2]
  by_cases hr : 0 < n.natAbs % k
  ·rw [if_pos hr, if_pos hr, Int.toNat_natCast]
   exact z_DivTr _ _ n.natAbs k w ⟨u, rfl, hu⟩ hb0 hs (by omega) hk0 hs2 hr
  ·rw [if_neg hr, if_neg hr]
   have h0 : n.natAbs % k = 0 := by omega
   have := z_DivTn _ _ n.natAbs k w ⟨u, rfl, hu⟩ hb0 hs (by omega) hk0 hs2 hr
   rw [h0] at this
   exact this
 ·have h1 : ((n.natAbs : Nat) : Int) = n := by omega
  have e1 : n / k = ((n.natAbs / k : Nat) : Int) := by rw [← h1]; simp
  have e2 : (n % k).toNat = n.natAbs % k := by rw [← h1]; simp; omega
  rw [e1, e2]
  refine (w_DivMod va vb n.natAbs k w (ha.nn (by omega)) hb0 hs hk0 hs2).mono ?_
  rintro e w' ⟨u, v, rfl, hu, hv, hb⟩
  exact ⟨u, v, rfl, hu.wid, hv, hb⟩
def radiF (a : Int) : Option Int := (piF 120).bind fun P =>
 if okN (P.v * (2 * a)) = true then floorF (P.v * (2 * a) / 1296000000000) (200 * P.r + 1) 120 else none
def radQ (n : Int) (P : Bl) : Int := n * 2 ^ 90 * 2 ^ 1 / P.v
def radB (n : Int) (P : Bl) : Bl := ⟨n * 2 ^ 90 - radQ n P * P.v / 2, 100 * P.r + 1⟩
def radF (n m : Int) : Option (Int × Int) := (piF 130).bind fun P =>
 if 0 < P.v ∧ -100000000000 ≤ radQ n P ∧ radQ n P ≤ 100000000000 ∧ okN (n * 2 ^ 90) = true ∧ okN (n * 2 ^ 90 * 2 ^ 1) = true ∧ okN (radQ n P * P.v) = true ∧ okN (radQ n P * P.v / 2) = true ∧ okN (radB n P).v = true ∧ okN (P.v / 2) = true ∧ okN (P.v / 2 - (radB n P).v) = true ∧ (radB n P).r < (radB n P).v ∧ 2 * (radB n P).r < P.v / 2 - (radB n P).v then
  (turnF ((radQ n P + m) % 4) (radB n P) P 130).bind fun T => if 0 ≤ T.r ∧ T.r ≤ 9000000000000000000 then (floorF T.v T.r 130).bind fun f => some (radQ n P, f) else none
 else none
def floorN (x r : Int) (p : Nat) : Bool := okN x && (okN (x + -r) && (okN (x + r) && (okN ((x + -r) / 2 ^ (p - 40)) && (okN ((x + r) / 2 ^ (p - 40)) && decide ((x + -r) / 2 ^ (p - 40) < (x + r) / 2 ^ (p - 40))))))
theorem t_floorNo (vb : Value) (x r : Int) (p : Nat) (w : World) (hb0 : Ball w vb x r) (hr0 : 0 ≤ r) (hr1 : r ≤ 9000000000000000000) (hp0 : 41 ≤ p) (hp : p ≤ 1000) (hF : floorN x r p = true) :
    Calls Tryz.prog 147 #[vb, .int .i64 p] w fun e w' => e = .returned (.tuple #[.int .i64 0, .bool false]) ∧ Ext w w' := by
 unfold floorN at hF
 rw [Bool.and_eq_true, Bool.and_eq_true, Bool.and_eq_true, Bool.and_eq_true, Bool.and_eq_true, decide_eq_true_eq] at hF
 obtain ⟨hk0, hk1, hk2, hka, hkb, hqq⟩ := hF
 obtain ⟨qa, hq1⟩ : ∃ q, (x + -r) / 2 ^ (p - 40) = q := ⟨_, rfl⟩
 obtain ⟨qb, hq2⟩ : ∃ q, (x + r) / 2 ^ (p - 40) = q := ⟨_, rfl⟩
 rw [hq1] at hka hqq
 rw [hq2] at hkb hqq
 have hszqa : Sz qa := okN.sz hka
 have hszqb : Sz qb := okN.sz hkb
 clear hka hkb
 obtain ⟨sb, aob, nb, capb, rfl, hWx⟩ := hb0.open
 have hsz0 : Sz (-r) := dig_bits (k := 64) (L := 4096) (by omega) (by decide)
 have hsz1 : Sz r := dig_bits (k := 64) (L := 4096) (by omega) (by decide)
 have hpk : 40 - (p : Int) = -((p - 40 : Nat) : Int) := by omega
 have hsh0 : ∀ v w2, Wid w2 v (x + -r) → Calls Tryz.prog 169 #[v, .int .i64 (40 - (p : Int))] w2 fun e w' => ∃ u, e = .returned u ∧ Wid w' u qa ∧ Ext w2 w' := fun v w2 hv => by
  have := t_shiftD v (x + -r) (p - 40) w2 hv (okN.sz hk1) (by omega) (by omega)
  rw [hq1] at this; rw [hpk]; exact this
 have hsh1 : ∀ v w2, Wid w2 v (x + r) → Calls Tryz.prog 169 #[v, .int .i64 (40 - (p : Int))] w2 fun e w' => ∃ u, e = .returned u ∧ Wid w' u qb ∧ Ext w2 w' := fun v w2 hv => by
  have := t_shiftD v (x + r) (p - 40) w2 hv (okN.sz hk2) (by omega) (by omega)
  rw [hq2] at this; rw [hpk]; exact this
 clear hq1 hq2 hpk
 have hwk : Hid (IntKind.i64.wrap (40 - (p : Int)) = 40 - (p : Int)) := by show _ = _; rw [IntKind.wrap_i64]; omega
 have i0 : ∀ w, (Instr.index 152 (.agg #[.int .i64 (-r), .int .i64 r]) (.int .i64 0)).run Tryz.prog w = .ok (.int .i64 (-r)) w := fun _ => by kernel_rfl
 have i1 : ∀ w, (Instr.index 152 (.agg #[.int .i64 (-r), .int .i64 r]) (.int .i64 1)).run Tryz.prog w = .ok (.int .i64 r) w := fun _ => by kernel_rfl
 go_enter Tryz.func147, Tryz.ntmps147
 go_wp2_with fail
 refine wp_loop_rounds 3 ?_
 rw [rounds_succ]
 go_upto_region 5 with fail
 obtain ⟨U, hU⟩ : ∃ U, (w.alloc (.cells #[.bool sb, .slice aob nb capb, .int .i64 r] 137)).alloc (.cells #[.bool false, .slice none 0 0, .bool false, .slice none 0 0] 119) = U := ⟨_, rfl⟩
 rw [hU]
 have hGU : GB (w.heap.size + 1) w U := GB.ext (by rw [← hU]; exact ((Ext.refl w).alloc _).alloc _)
 have b0 : U.cell? ⟨w.heap.size, 0, none⟩ = some (.bool sb) := by rw [← hU]; simp [go_sem, ↓IntWalk.iteOmega]
 have b1 : U.cell? ⟨w.heap.size, 1, none⟩ = some (.slice aob nb capb) := by rw [← hU]; simp [go_sem, ↓IntWalk.iteOmega]
 have hl0 : U.cell? ⟨w.heap.size + 1, 0, none⟩ = some (.bool false) := by rw [← hU]; simp [go_sem, ↓IntWalk.iteOmega]
 have hl1 : U.cell? ⟨w.heap.size + 1, 1, none⟩ = some (.slice none 0 0) := by rw [← hU]; simp [go_sem, ↓IntWalk.iteOmega]
 have hl2 : U.cell? ⟨w.heap.size + 1, 2, none⟩ = some (.bool false) := by rw [← hU]; simp [go_sem, ↓IntWalk.iteOmega]
 have hl3 : U.cell? ⟨w.heap.size + 1, 3, none⟩ = some (.slice none 0 0) := by rw [← hU]; simp [go_sem, ↓IntWalk.iteOmega]
 have hUs : U.heap.size = w.heap.size + 1 + 1 := by rw [← hU]; simp
 have hbl : w.heap.size < U.heap.size := by omega
 have hUn : NoU U (w.heap.size + 1) := by
  have := NoU.new (w.alloc (.cells #[.bool sb, .slice aob nb capb, .int .i64 r] 137)) #[.bool false, .slice none 0 0, .bool false, .slice none 0 0] 119 (noU4 (by simp) (by simp) (by simp) (by simp))
  rw [← hU]; simpa using this
 have hUf : ∀ o, U.frozen? ⟨w.heap.size + 1, o, none⟩ = false := fun o => by rw [← hU]; simp [go_sem, ↓IntWalk.iteOmega]
 replace hWx := hWx.ext (show Ext w U by rw [← hU]; exact ((Ext.refl w).alloc _).alloc _)
 have hL : Bx2 U (w.heap.size + 1) := ⟨⟨_, hl0⟩, ⟨_, hl1⟩, hUf, hUn, by omega⟩
 have hL2 : BxO U (w.heap.size + 1) 2 := ⟨⟨_, hl2⟩, ⟨_, hl3⟩, hUf, hUn, by omega⟩
 clear hU hUn hUf hl0 hl1 hl2 hl3
 replace hL2 := hL2.ext ((Ext.refl U).drew)
 replace hL := hL.ext ((Ext.refl U).drew)
 replace hWx := hWx.ext ((Ext.refl U).drew)
 refine wp_region_held_drew (S := (fun w0 => GB (w.heap.size + 1) U w0)) c_4 ?_ (fun hH => ?_)
 ·exact (GB.refl _ _).drew
 try simp only [sx_]
 refine sK 0 ?_
 refine sK 1 ?_
 refine tk 2 rfl c_28 ?_
 try simp only [sx_]
 refine sK 3 ?_
 refine sK 6 ?_
 refine sK 7 ?_
 refine rh1 4 rfl fun K hK => ?_
 go_simp
 (go_at_call 134; (with_reducible refine (t_numZ (-r) _ (by omega) (by omega)).mono ?_); rintro e w1 ⟨y1, rfl, hf1, hx⟩)
 replace hWx := hWx.ext hx
 replace hL := hL.ext hx
 replace hL2 := hL2.ext hx
 refine hK.out _ _ ?_ fun _ => ?_
 ·exact b_12
 clear hK K hH
 rename_i hH
 try simp only [sx_]
 refine rh1 5 rfl fun K hK => ?_
 go_simp
 (go_at_call 133; (with_reducible refine (t_addZ _ _ x (-r) _ hWx hf1 (okN.sz hk0) hsz0 (okN.sz hk1)).mono ?_); rintro e w2 ⟨y2, rfl, hf2, hx⟩)
 replace hWx := hWx.ext hx
 replace hL := hL.ext hx
 replace hL2 := hL2.ext hx
 replace hf1 := hf1.ext hx
 refine hK.out _ _ ?_ fun _ => ?_
 ·exact b_12
 clear hK K hH
 rename_i hH
 try simp only [sx_]
 refine rh1 8 rfl fun K hK => ?_
 go_simp
 rw [hwk.out]
 (go_at_call 169; (with_reducible refine (hsh0 _ _ hf2).mono ?_); rintro e w3 ⟨y3, rfl, hf3, hx⟩)
 replace hWx := hWx.ext hx
 replace hL := hL.ext hx
 replace hL2 := hL2.ext hx
 replace hf1 := hf1.ext hx
 replace hf2 := hf2.ext hx
 obtain ⟨y9, rfl, hf9⟩ := hf3
 obtain ⟨ao5, _, _, cap5, rfl, -⟩ := hf9.view
 have hf4 : Wid w3 (.agg #[.bool (decide (qa < 0)), .slice ao5 (dig qa.natAbs).length cap5]) qa := ⟨_, rfl, hf9⟩
 clear hf9
 refine hK.out _ _ ?_ fun _ => ?_
 ·exact b_12
 clear hK K hH
 rename_i hH
 try simp only [sx_]
 refine sK 9 ?_
 refine rh1 10 rfl fun K hK => ?_
 obtain ⟨⟨xa, h3a⟩, ⟨xb, h3b⟩, h3f, hnu, hsl⟩ := hL
 go_simp
 refine hK.out _ _ ?_ fun _ => ?_
 ·exact b_13
 clear hK K hH
 rename_i hH
 try simp only [sx_]
 refine wpAnyH_done c_4 ?_ _
 have hLn0 := NoU.set (j := 0) (B' := w.heap.size + 1) (x := .bool (decide (qa < 0))) hnu (fun z e => by cases e)
 have hLn := NoU.set (j := 1) (B' := w.heap.size + 1) (x := .slice ao5 (dig qa.natAbs).length cap5) hLn0 (fun z e => by cases e)
 have hV0 := (Wid.box (j := 0) (x := .bool (decide (qa < 0))) hf4 hnu).box (j := 1) (x := .slice ao5 (dig qa.natAbs).length cap5) hLn0
 have hWx2 := (Wid.box (j := 0) (x := .bool (decide (qa < 0))) hWx hnu).box (j := 1) (x := .slice ao5 (dig qa.natAbs).length cap5) hLn0
 obtain ⟨U1, hU1⟩ : ∃ U1, (w3.setCell ⟨w.heap.size + 1, 0, none⟩ (.bool (decide (qa < 0)))).setCell ⟨w.heap.size + 1, 1, none⟩ (.slice ao5 (dig qa.natAbs).length cap5) = U1 := ⟨_, rfl⟩
 have e0 : U1.cell? ⟨w.heap.size + 1, 0, none⟩ = some (.bool (decide (qa < 0))) := by rw [← hU1]; simp [go_sem, ↓IntWalk.iteOmega, h3a]
 have e1 : U1.cell? ⟨w.heap.size + 1, 1, none⟩ = some (.slice ao5 (dig qa.natAbs).length cap5) := by rw [← hU1]; simp [go_sem, ↓IntWalk.iteOmega, h3b]
 have hL2 := BxO.set (BxO.set (j := 0) (v := .bool (decide (qa < 0))) hL2 (fun z e => by cases e)) (j := 1) (v := .slice ao5 (dig qa.natAbs).length cap5) (fun z e => by cases e)
 have hs1 : U1.heap.size = w3.heap.size := by rw [← hU1]; simp
 rw [hU1] at hLn hV0 hWx2 hH hL2 ⊢
 have b0' := (GB.cell (o := 0) hH hbl (by omega)).trans b0
 have b1' := (GB.cell (o := 1) hH hbl (by omega)).trans b1
 have hUU : GB (w.heap.size + 1) w U1 := hGU.trans hH
 have hsU : w.heap.size + 1 + 1 ≤ U1.heap.size := by have := hH.size; omega
 clear hU1 hH hWx hLn0 h3a h3b h3f hnu hsl b0 b1 hGU
 go_wp2_with fail
 rw [rounds_succ]
 go_upto_region 5 with fail
 have hbl1 : w.heap.size < U1.heap.size := by omega
 have hL1 : C2 U1 (w.heap.size + 1) (.bool (decide (qa < 0))) (.slice ao5 (dig qa.natAbs).length cap5) := ⟨e0, e1, by omega⟩
 replace hL2 := hL2.ext ((Ext.refl U1).drew)
 replace hL1 := hL1.ext ((Ext.refl U1).drew)
 replace hWx2 := hWx2.ext ((Ext.refl U1).drew)
 replace hV0 := hV0.ext ((Ext.refl U1).drew)
 refine wp_region_held_drew (S := (fun w0 => GB (w.heap.size + 1) U1 w0)) c_4 ?_ (fun hH => ?_)
 ·exact (GB.refl _ _).drew
 try simp only [sx_]
 refine sK 0 ?_
 refine sK 1 ?_
 refine tk 2 rfl c_27 ?_
 try simp only [sx_]
 refine sK 3 ?_
 refine sK 6 ?_
 refine sK 7 ?_
 refine rh1 4 rfl fun K hK => ?_
 go_simp
 (go_at_call 134; (with_reducible refine (t_numZ r _ (by omega) (by omega)).mono ?_); rintro e w1 ⟨y1, rfl, hf1, hx⟩)
 replace hWx2 := hWx2.ext hx
 replace hL2 := hL2.ext hx
 replace hV0 := hV0.ext hx
 replace hL1 := hL1.ext hx
 refine hK.out _ _ ?_ fun _ => ?_
 ·exact b_12
 clear hK K hH
 rename_i hH
 try simp only [sx_]
 refine rh1 5 rfl fun K hK => ?_
 go_simp
 (go_at_call 133; (with_reducible refine (t_addZ _ _ x r _ hWx2 hf1 (okN.sz hk0) hsz1 (okN.sz hk2)).mono ?_); rintro e w2 ⟨y2, rfl, hf2, hx⟩)
 replace hWx2 := hWx2.ext hx
 replace hL2 := hL2.ext hx
 replace hV0 := hV0.ext hx
 replace hL1 := hL1.ext hx
 replace hf1 := hf1.ext hx
 refine hK.out _ _ ?_ fun _ => ?_
 ·exact b_12
 clear hK K hH
 rename_i hH
 try simp only [sx_]
 refine rh1 8 rfl fun K hK => ?_
 go_simp
 rw [hwk.out]
 (go_at_call 169; (with_reducible refine (hsh1 _ _ hf2).mono ?_); rintro e w3 ⟨y3, rfl, hf3, hx⟩)
 replace hWx2 := hWx2.ext hx
 replace hL2 := hL2.ext hx
 replace hV0 := hV0.ext hx
 replace hL1 := hL1.ext hx
 replace hf1 := hf1.ext hx
 replace hf2 := hf2.ext hx
 obtain ⟨y9, rfl, hf9⟩ := hf3
 obtain ⟨ao6, _, _, cap6, rfl, -⟩ := hf9.view
 have hf4 : Wid w3 (.agg #[.bool (decide (qb < 0)), .slice ao6 (dig qb.natAbs).length cap6]) qb := ⟨_, rfl, hf9⟩
 clear hf9
 refine hK.out _ _ ?_ fun _ => ?_
 ·exact b_12
 clear hK K hH
 rename_i hH
 try simp only [sx_]
 refine sK 9 ?_
 refine rh1 10 rfl fun K hK => ?_
 obtain ⟨⟨xa, h3a⟩, ⟨xb, h3b⟩, h3f, hnu, hsl⟩ := hL2
 go_simp
 refine hK.out _ _ ?_ fun _ => ?_
 ·exact b_13
 clear hK K hH
 rename_i hH
 try simp only [sx_]
 refine wpAnyH_done c_4 ?_ _
 have hLn0 := NoU.set (j := 2) (B' := w.heap.size + 1) (x := .bool (decide (qb < 0))) hnu (fun z e => by cases e)
 have hV1 := (Wid.box (j := 2) (x := .bool (decide (qb < 0))) hf4 hnu).box (j := 3) (x := .slice ao6 (dig qb.natAbs).length cap6) hLn0
 have hV2 := (Wid.box (j := 2) (x := .bool (decide (qb < 0))) hV0 hnu).box (j := 3) (x := .slice ao6 (dig qb.natAbs).length cap6) hLn0
 obtain ⟨X2, hX2⟩ : ∃ X2, (w3.setCell ⟨w.heap.size + 1, 2, none⟩ (.bool (decide (qb < 0)))).setCell ⟨w.heap.size + 1, 3, none⟩ (.slice ao6 (dig qb.natAbs).length cap6) = X2 := ⟨_, rfl⟩
 have f0 : X2.cell? ⟨w.heap.size + 1, 0, none⟩ = some (.bool (decide (qa < 0))) := by rw [← hX2]; simp [go_sem, ↓IntWalk.iteOmega, hL1.1]
 have f1 : X2.cell? ⟨w.heap.size + 1, 1, none⟩ = some (.slice ao5 (dig qa.natAbs).length cap5) := by rw [← hX2]; simp [go_sem, ↓IntWalk.iteOmega, hL1.2.1]
 have f2 : X2.cell? ⟨w.heap.size + 1, 2, none⟩ = some (.bool (decide (qb < 0))) := by rw [← hX2]; simp [go_sem, ↓IntWalk.iteOmega, h3a]
 have f3 : X2.cell? ⟨w.heap.size + 1, 3, none⟩ = some (.slice ao6 (dig qb.natAbs).length cap6) := by rw [← hX2]; simp [go_sem, ↓IntWalk.iteOmega, h3b]
 rw [hX2] at hV1 hV2 hH ⊢
 have hE2 : Ext w X2 := (hUU.trans hH).out (by omega)
 have hsX : w.heap.size + 1 + 1 ≤ X2.heap.size := by have := hH.size; omega
 have hcm := z_Cmp _ _ qa qb X2 hV2 hV1 hszqa hszqb
 rw [cmp_lt hqq] at hcm
 clear hX2 hH hWx2 hLn0 h3a h3b h3f hnu hsl hV1 hV2
 go_wp2_with fail
 rw [rounds_succ]
 go_wp2_with (go_at_call 52; (with_reducible refine hcm.mono ?_); rintro e w7 ⟨rfl, hb7⟩; obtain ⟨_, _, ⟨hc7, hf7⟩, hz7⟩ := hb7.c3; (try simp only [wsz] at hz7 hc7 hf7))
 go_ret2
 exact ⟨rfl, ex_⟩
theorem t_unitNo (vb : Value) (x r : Int) (p : Nat) (w : World) (hb0 : Ball w vb x r) (hr0 : 0 ≤ r) (hr1 : r ≤ 9000000000000000000) (hp0 : 41 ≤ p) (hp : p ≤ 1000) (hF : floorN x r p = true) :
    Calls Tryz.prog 89 #[vb, .int .i64 p] w fun e w' => e = .returned (.tuple #[.agg #[.int .i64 0, .int .i64 1], .bool false]) ∧ Ext w w' := by
 obtain ⟨sb, aob, nb, capb, rfl, hWx⟩ := hb0.open
 have hfl := fun w1 (k1 : Ext w w1) => t_floorNo _ x r p w1 (hb0.ext k1) hr0 hr1 hp0 hp hF
 clear hF hWx hb0
 go_enter Tryz.func89, Tryz.ntmps89
 go_wp2_with (go_at_call 147; (with_reducible refine (hfl _ ex_).mono ?_); rintro e w1 ⟨rfl, hb⟩; obtain ⟨_, _, ⟨hc, hf⟩, hz⟩ := hb.c3; (try simp only [wsz] at hz hc hf))
 refine bodyPost_ret (v := .tuple #[.agg #[.int .i64 0, .int .i64 1], .bool false]) ?_ rfl ⟨rfl, ?_⟩
 ·simp [results, Tryz.results89, go_sem, ↓IntWalk.iteOmega, *]
 ·exact b_1
end Go.Proofs.YtaoioncjmfcolaaGreat
