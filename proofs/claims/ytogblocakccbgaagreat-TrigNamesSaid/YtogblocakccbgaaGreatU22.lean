/- trig: plain. -/
import Derived.Test.YtogblocakccbgaaGreatU21
set_option linter.unusedSimpArgs false
set_option linter.unusedVariables false
set_option maxRecDepth 100000
set_option maxHeartbeats 4000000
namespace Go.Proofs.YtogblocakccbgaaGreat
open Go.RowKit
def plK (k : Int) : Int × Bool :=
 if k = 0 ∨ k = 6 then (0, true) else if k = 1 ∨ k = 5 then (549755813888, true) else if k = 3 then (1099511627776, true) else if k = 7 ∨ k = 11 then (-549755813888, true) else if k = 9 then (-1099511627776, true) else (0, false)
def plainF (a : Int) : Int × Bool := if a % 108000000000 = 0 then plK (a / 108000000000 % 12) else (0, false)
theorem tmod12 (q : Int) : (q.tmod 12 + 12).tmod 12 = q % 12 := by
 rcases Int.le_total 0 q with h | h
 ·rw [Int.tmod_eq_emod_of_nonneg h, Int.tmod_eq_emod_of_nonneg (by omega)]; omega
 ·obtain ⟨c, rfl⟩ : ∃ c, q = -c := ⟨-q, by omega⟩
  rw [Int.neg_tmod, Int.tmod_eq_emod_of_nonneg (a := c) (by omega), Int.tmod_eq_emod_of_nonneg (by omega)]; omega
theorem t_plain (a : Int) (w : World) (h0 : -9223372036854775808 ≤ a) (h1 : a ≤ 9223372036854775807) :
    Calls Tryz.prog 31 #[.int .i64 a] w fun e w' => e = .returned (.tuple #[.int .i64 (plainF a).1, .bool (plainF a).2]) ∧ Ext w w' := by
 unfold plainF
 by_cases hd : a % 108000000000 = 0
 ·have hdv : (108000000000 : Int) ∣ a := Int.dvd_of_emod_eq_zero hd
  rw [if_pos hd]
  have hm : a.tmod 108000000000 = 0 := Int.tmod_eq_zero_of_dvd hdv
  obtain ⟨q, hq⟩ : ∃ q, a / 108000000000 = q := ⟨_, rfl⟩
  rw [hq]
  have hqt : a.tdiv 108000000000 = q := by rw [← hq]; exact Int.tdiv_eq_ediv_of_dvd hdv
  obtain ⟨r1, hr1⟩ : ∃ r1, q.tmod 12 = r1 := ⟨_, rfl⟩
  have hr0 : -12 < r1 ∧ r1 < 12 := by
   rw [← hr1]
   rcases Int.le_total 0 q with h | h
   ·rw [Int.tmod_eq_emod_of_nonneg h]; omega
   ·obtain ⟨c, rfl⟩ : ∃ c, q = -c := ⟨-q, by omega⟩
    rw [Int.neg_tmod, Int.tmod_eq_emod_of_nonneg (by omega)]; omega
  obtain ⟨k, hk⟩ : ∃ k, (r1 + 12).tmod 12 = k := ⟨_, rfl⟩
  have hkq : q % 12 = k := by rw [← hk, ← hr1, tmod12]
  rw [hkq]
  have hk12 : k = 0 ∨ k = 1 ∨ k = 2 ∨ k = 3 ∨ k = 4 ∨ k = 5 ∨ k = 6 ∨ k = 7 ∨ k = 8 ∨ k = 9 ∨ k = 10 ∨ k = 11 := by omega
  have hqb : -9223372036854775808 ≤ q ∧ q ≤ 9223372036854775807 := by omega
  clear hkq hq hdv hd
  have I : KBd w [] w := ⟨Ext.refl w, trivial, by simp, by simp⟩
  go_enter Tryz.func31, Tryz.ntmps31
  go_upto_region 3 with fail
  refine wp_regB [] [] (fun z_ => ([VF.eq (.int .i64 (a)), VF.eq (.int .i64 (q)), VF.eq (.int .i64 (r1)), VF.eq (.int .i64 (r1 + 12)), VF.eq (.int .i64 (k)), VF.eq (.int .i64 (k))] : List VF).getD z_ VF.any) I (fun hc => ⟨?_, ?_, ?_, ?_, ?_, ?_, trivial⟩) (fun vs gl W hK0 hv hp => ?_)
  ·exact ob_mv hc (.inl rfl)
  ·exact ob_e2 (x := .tmp 9) (y := .const (.int .i64 108000000000)) (a := (.int .i64 (a))) (b := .int .i64 108000000000) (u := .int .i64 (q)) (some 0) none hc (hs := by intro ρ w1 h k; go_simp; first | done | (simp only [IntKind.wrap_i64]; omega))
  ·exact ob_e2 (x := .tmp 10) (y := .const (.int .i64 12)) (a := (.int .i64 (q))) (b := .int .i64 12) (u := .int .i64 (r1)) (some 1) none hc (hs := by intro ρ w1 h k; go_simp; first | done | exact hr1)
  ·exact ob_e2 (x := .tmp 11) (y := .const (.int .i64 12)) (a := (.int .i64 (r1))) (b := .int .i64 12) (u := .int .i64 (r1 + 12)) (some 2) none hc (hs := by intro ρ w1 h k; go_simp; first | done | (simp only [IntKind.wrap_i64]; omega))
  ·exact ob_e2 (x := .tmp 12) (y := .const (.int .i64 12)) (a := (.int .i64 (r1 + 12))) (b := .int .i64 12) (u := .int .i64 (k)) (some 3) none hc (hs := by intro ρ w1 h k; go_simp; first | done | exact hk)
  ·exact ob_cp 4 hc (.inr rfl)
  have v5 : vs 5 = .int .i64 k := hv 5 (by decide)
  simp only [putS, Nat.reduceAdd, Act.put, List.setIfInBounds_toArray, List.set_cons_zero, List.set_cons_succ, v5]
  simp only [kb_] at hK0
  replace I := hK0
  clear hK0 hv hp gl v5
  have hEx := I.e
  clear I hk hr1 hqt hm h0 h1 hqb hr0
  rcases hk12 with rfl | rfl | rfl | rfl | rfl | rfl | rfl | rfl | rfl | rfl | rfl | rfl
  all_goals (go_wp2_with fail; go_ret2; exact ⟨rfl, hEx⟩)
 ·rw [if_neg hd]
  have hm : ¬ a.tmod 108000000000 = 0 := fun h => hd (Int.emod_eq_zero_of_dvd (Int.dvd_of_tmod_eq_zero h))
  clear hd
  go_enter Tryz.func31, Tryz.ntmps31
  go_wp2_with fail
  go_ret2
  exact ⟨rfl, Ext.refl _⟩
def sinF (a : Int) : Option (Int × Int) :=
 match plainF a with
 | (v, true) => some (v, v)
 | (_, false) => (sineF a 90).bind fun b => if 0 ≤ b.r ∧ b.r ≤ 9000000000000000000 then (floorF b.v b.r 90).bind fun q => some (q, q + 1) else none
theorem t_Sin (a lo hi : Int) (w : World) (h0 : -9223372036854775808 ≤ a) (h1 : a ≤ 9223372036854775807) (hF : sinF a = some (lo, hi)) :
    Calls Tryz.prog 13 #[.int .i64 a] w fun e w' => e = .returned (.agg #[.int .i64 lo, .int .i64 hi]) ∧ Ext w w' := by
 have hpl := fun w => t_plain a w h0 h1
 unfold sinF at hF
 obtain ⟨⟨v, t⟩, hp⟩ : ∃ x, plainF a = x := ⟨_, rfl⟩
 rw [hp] at hpl hF
 dsimp only at hpl
 cases t with
 | true =>
  obtain ⟨rfl, rfl⟩ : v = lo ∧ v = hi := by have := Option.some.inj hF; exact ⟨congrArg Prod.fst this, congrArg Prod.snd this⟩
  clear hF hp
  go_enter Tryz.func13, Tryz.ntmps13
  go_upto_region 1 with fail
  go_step3
  go_wp2_with (go_at_call 31; (with_reducible refine (hpl _).mono ?_); rintro e w1 ⟨rfl, hb⟩; obtain ⟨_, _, ⟨hc, hf⟩, hz⟩ := hb.c3; (try simp only [wsz] at hz hc hf))
  rw [Exit.noGoto_ret]
  refine bodyPost_ret (v := .agg #[.int .i64 v, .int .i64 v]) ?_ rfl ⟨rfl, ?_⟩
  ·simp [results, Tryz.results13, go_sem, ↓IntWalk.iteOmega, *]
  ·exact b_0
 | false =>
  dsimp only at hF
  rw [Option.bind_eq_some_iff] at hF
  obtain ⟨b, hs, hF⟩ := hF
  split at hF
  case isFalse => cases hF
  rename_i hr
  rw [Option.bind_eq_some_iff] at hF
  obtain ⟨q, hq, hF⟩ := hF
  obtain ⟨rfl, rfl⟩ : q = lo ∧ q + 1 = hi := by have := Option.some.inj hF; exact ⟨congrArg Prod.fst this, congrArg Prod.snd this⟩
  have hsi : ∀ w, Calls Tryz.prog 32 #[.int .i64 a, .int .i64 90] w fun e w' => ∃ u, e = .returned u ∧ Ball w' u b.v b.r ∧ Ext w w' := fun w => t_sine a b 90 w h0 h1 hs
  have hun : ∀ v w1, Ball w1 v b.v b.r → Calls Tryz.prog 29 #[v, .int .i64 90] w1 fun e w' => e = .returned (.tuple #[.agg #[.int .i64 q, .int .i64 (q + 1)], .bool true]) ∧ Ext w1 w' := fun v w1 h => t_unit v b.v b.r q 90 w1 h hr.1 hr.2 (by decide) (by decide) hq
  clear hF hp hs hq
  go_enter Tryz.func13, Tryz.ntmps13
  go_upto_region 1 with fail
  go_step3
  go_wp2_with (go_at_call 31; (with_reducible refine (hpl _).mono ?_); rintro e w1 ⟨rfl, hb⟩; obtain ⟨_, _, ⟨hc, hf⟩, hz⟩ := hb.c3; (try simp only [wsz] at hz hc hf))
  go_step3
  go_wp2_with (first
   | (go_at_call 32; (with_reducible refine (hsi _).mono ?_); rintro e w2 ⟨y2, rfl, hy2, hb2⟩; obtain ⟨_, _, ⟨hc2, hf2⟩, hz2⟩ := hb2.c3; (try simp only [wsz] at hz2 hc2 hf2))
   | (go_at_call 29; (with_reducible refine (hun _ _ hy2).mono ?_); rintro e w3 ⟨rfl, hb3⟩; obtain ⟨_, _, ⟨hc3, hf3⟩, hz3⟩ := hb3.c3; (try simp only [wsz] at hz3 hc3 hf3)))
  rw [Exit.noGoto_ret]
  refine bodyPost_ret (v := .agg #[.int .i64 q, .int .i64 (q + 1)]) ?_ rfl ⟨rfl, ?_⟩
  ·simp [results, Tryz.results13, go_sem, ↓IntWalk.iteOmega, *]
  ·exact b_0
theorem t_Cos (a lo hi : Int) (w : World) (h0 : -9223372036854775808 ≤ a) (h1 : a ≤ 9223372036854775807) (hF : sinF (a.tmod 1296000000000 + 324000000000) = some (lo, hi)) :
    Calls Tryz.prog 12 #[.int .i64 a] w fun e w' => e = .returned (.agg #[.int .i64 lo, .int .i64 hi]) ∧ Ext w w' := by
 obtain ⟨b, hb⟩ : ∃ b, a.tmod 1296000000000 = b := ⟨_, rfl⟩
 rw [hb] at hF
 have hb0 : -1296000000000 ≤ b ∧ b < 1296000000000 := by
  have := tmod_emod a
  rw [hb] at this
  split at this <;> omega
 have hsi : ∀ c w, c = b + 324000000000 → Calls Tryz.prog 13 #[.int .i64 c] w fun e w' => e = .returned (.agg #[.int .i64 lo, .int .i64 hi]) ∧ Ext w w' := fun c w hc => by
  subst hc
  exact t_Sin _ lo hi w (by omega) (by omega) hF
 clear hF
 go_enter Tryz.func12, Tryz.ntmps12
 go_wp2_with (go_at_call 13; (with_reducible refine (hsi _ _ (by first | rfl | (unfold wrap64; omega) | (simp only [IntKind.wrap_i64]; omega))).mono ?_); rintro e w1 ⟨rfl, hb1⟩; obtain ⟨_, _, ⟨hc1, hf1⟩, hz1⟩ := hb1.c3; (try simp only [wsz] at hz1 hc1 hf1))
 refine bodyPost_ret (v := .agg #[.int .i64 lo, .int .i64 hi]) ?_ rfl ⟨rfl, ?_⟩
 ·simp [results, Tryz.results12, go_sem, ↓IntWalk.iteOmega, *]
 ·exact b_0
theorem T_ZDM_4 {p : Prop} (h : p := by
 intro p hp
 simp only [List.mem_cons, List.mem_nil_iff, or_false] at hp
 rcases hp with rfl | rfl | rfl | rfl <;> simp [go_sem, ↓IntWalk.iteOmega]) : p := h
theorem T_ZDM_3 {p : Prop} (h : p := by
 intro p hp
 simp only [List.mem_cons, List.mem_nil_iff, or_false] at hp
 rcases hp with rfl | rfl | rfl | rfl <;> (dsimp only; omega)) : p := h
theorem T_ZDM_2 {p : Prop} (h : p := by
 rw [← hW4]
 refine ⟨hW4 ▸ hEW, ?_, ?_, ?_, ?_, ?_, by simp⟩
 ·exact T_ZDM_4
 ·exact b_1
 ·exact b_2
 ·exact b_3
 ·have := NoU.new (((w.alloc (.cells #[.bool true, .slice ao (dig m).length cap1] 24)).alloc (.cells #[.bool false, .slice bo (dig k).length cap2] 24)).alloc (.cells #[.bool false, .slice none 0 0] 24)) #[.bool false, .slice none 0 0] 24 (noU2 (by simp) (by simp))
  simpa using this) : p := h
theorem T_ZDM_1 {p : Prop} (h : p := by
 rw [← hW4]
 refine ⟨hW4 ▸ hEW, ?_, ?_, ?_, ?_, ?_, by simp⟩
 ·exact T_ZDM_4
 ·exact b_1
 ·exact b_2
 ·exact b_3
 ·have := (NoU.new ((w.alloc (.cells #[.bool true, .slice ao (dig m).length cap1] 24)).alloc (.cells #[.bool false, .slice bo (dig k).length cap2] 24)) #[.bool false, .slice none 0 0] 24 (noU2 (by simp) (by simp))).alloc (by simp) #[.bool false, .slice none 0 0] 24
  simpa using this) : p := h
theorem z_DivTr (va vb : Value) (m k : Nat) (w : World) (ha : Sm w va true m) (hb0 : Nn w vb k) (hs : Small m) (hz : m = 0 → true = false) (hk0 : 0 < k) (hs2 : Small k) (hr0 : 0 < m % k) :
    Calls Tryz.prog 63 #[va, vb] w fun e w' => ∃ u v, e = .returned (.tuple #[u, v, .int .i64 0]) ∧ Wid w' u (sg true (m / k + 1)) ∧ Nn w' v (k - m % k) ∧ Ext w w' := by
 obtain ⟨u, rfl, hu⟩ := ha
 obtain ⟨s, rfl, hv⟩ := hb0
 obtain ⟨ao, b1, o1, cap1, rfl, v1, v2, v3, v4, v5, v6⟩ := hu.view
 obtain ⟨bo, b2, o2, cap2, rfl, y1, y2, y3, y4, y5, y6⟩ := hv.view
 have hlen : (dig m).length ≤ 49999 := by unfold Small at hs; omega
 have hl1 := dig_pos.2 hk0
 have hlk : (dig k).length ≤ 49999 := by unfold Small at hs2; omega
 obtain ⟨W4, hW4⟩ : ∃ W4, (((w.alloc (.cells #[.bool true, .slice ao (dig m).length cap1] 24)).alloc (.cells #[.bool false, .slice bo (dig k).length cap2] 24)).alloc (.cells #[.bool false, .slice none 0 0] 24)).alloc (.cells #[.bool false, .slice none 0 0] 24) = W4 := ⟨_, rfl⟩
 have hWs : W4.heap.size = w.heap.size + 1 + 1 + 1 + 1 := by rw [← hW4]; simp
 have hEW : Ext w W4 := by rw [← hW4]; exact ((((Ext.refl w).alloc _).alloc _).alloc _).alloc _
 have hA0 : BX w (w.heap.size + 1 + 1) [(w.heap.size, 0, .bool true), (w.heap.size, 1, .slice ao (dig m).length cap1), (w.heap.size + 1, 0, .bool false), (w.heap.size + 1, 1, .slice bo (dig k).length cap2)] W4 := by
  exact T_ZDM_1
 have hB0 : BX w (w.heap.size + 1 + 1 + 1) [(w.heap.size, 0, .bool true), (w.heap.size, 1, .slice ao (dig m).length cap1), (w.heap.size + 1, 0, .bool false), (w.heap.size + 1, 1, .slice bo (dig k).length cap2)] W4 := by
  exact T_ZDM_2
 have hL2 : ∀ p ∈ ([(w.heap.size, 0, .bool true), (w.heap.size, 1, .slice ao (dig m).length cap1), (w.heap.size + 1, 0, .bool false), (w.heap.size + 1, 1, .slice bo (dig k).length cap2)] : List (Nat × Nat × Value)), p.1 ≠ w.heap.size + 1 + 1 := by
  exact T_ZDM_3
 have hL3 : ∀ p ∈ ([(w.heap.size, 0, .bool true), (w.heap.size, 1, .slice ao (dig m).length cap1), (w.heap.size + 1, 0, .bool false), (w.heap.size + 1, 1, .slice bo (dig k).length cap2)] : List (Nat × Nat × Value)), p.1 ≠ w.heap.size + 1 + 1 + 1 := by
  exact T_ZDM_3
 have hck := z_check_two W4 _ _ true false m k (hu.ext hEW) (hv.ext hEW) hs hs2 hz (fun _ => rfl)
 rw [hWs] at hck
 subst hW4
 clear v1 v4 v5 y1 y4 y5 hWs hEW
 have z0 : (((dig k).length : Int) == 0) = false := by simp; intro e; rw [e] at hl1; simp at hl1
 have hdv := fun w1 (k1 : Ext w w1) => w_divideA _ _ (dig m) (dig k) w1 (hu.ext k1) (hv.ext k1) (dig_nz m) (dig_nz k) hlen hl1
 have hl2 := hl1
 clear hl1
 obtain ⟨Q, hQ⟩ : ∃ Q, (m / k + 1) = Q := ⟨_, rfl⟩
 obtain ⟨R, hR⟩ : ∃ R, (k - m % k) = R := ⟨_, rfl⟩
 rw [hQ, hR]
 go_enter Tryz.func63, Tryz.ntmps63
 go_upto_region 7 with (first
  | (go_at_call 52; (with_reducible refine hck.mono ?_); rintro e w1 ⟨rfl, hb⟩; have hA := hA0.ext (((Ext.refl _).alloc _).trans hb); have hB := hB0.ext (((Ext.refl _).alloc _).trans hb); have q0 := BX.get hA 0 rfl; have q1 := BX.get hA 1 rfl; have q2 := BX.get hA 2 rfl; have q3 := BX.get hA 3 rfl; clear hA0 hB0 hck hb)
  | (go_at_call 122; (with_reducible refine (hdv _ hA.base).mono ?_); rintro e w2 ⟨y14, y15, qs, rs, rfl, hq, hr, nq, nr, hval, hlt, hb5⟩; obtain ⟨ao6, b6, o6, cap6, rfl, -⟩ := hr.view; obtain ⟨ao5, b5, o5, cap5, rfl, -⟩ := hq.view; replace hA := hA.ext hb5; replace hB := hB.ext hb5; replace q0 := BX.get hA 0 rfl; replace q1 := BX.get hA 1 rfl; replace q2 := BX.get hA 2 rfl; replace q3 := BX.get hA 3 rfl))
 obtain ⟨eq, er⟩ := div_dig hq.lb hr.lb nq nr hval hlt
 subst eq
 subst er
 have hmk : m / k ≤ m := Nat.div_le_self _ _
 have hrk : m % k < k := Nat.mod_lt _ hk0
 have hlq : (dig (m / k)).length ≤ 49999 := Nat.le_trans (dig_mono hmk) hlen
 have hsq0 : (dig (m / k + 1)).length ≤ 4096 := Nat.le_trans (dig_mono (Nat.div_lt_self (Nat.pos_of_ne_zero (by rintro rfl; simp at hr0)) (by omega))) hs
 have hsr0 : (dig (k - m % k)).length ≤ 4096 := Nat.le_trans (dig_mono (by omega)) hs2
 have hrp : 0 < (dig (m % k)).length := dig_pos.2 hr0
 have hsq : (dig Q).length ≤ 4096 := hQ ▸ hsq0
 have hsr : (dig R).length ≤ 4096 := hR ▸ hsr0
 clear hdv hval hlt nq nr hb5 hsq0 hsr0
 go_upto_region 10 with (first
  | (go_at_call 123; (with_reducible refine (w_plus _ _ _ [1] _ (hq.ext ((Ext.refl _).alloc _)) (lim_one _ 1 u32_one) c_6).mono ?_); rintro e w3 ⟨y3, zs, rfl, hz3, hval3, hb3⟩; obtain ⟨zo, _, _, zc, rfl, -⟩ := hz3.view; have hb3' := ((Ext.refl w2).alloc _).trans hb3; replace hA := hA.ext hb3'; replace hB := hB.ext hb3'; replace q0 := BX.get hA 0 rfl; replace q1 := BX.get hA 1 rfl; replace q2 := BX.get hA 2 rfl; replace q3 := BX.get hA 3 rfl; have hr3 := hr.ext hb3')
  | (go_at_call 124; (with_reducible refine (w_minus _ _ (dig k) (dig (m % k)) _ (hv.ext hA.base) hr3 (by omega) (dig_mono (Nat.le_of_lt hrk)) (by rw [dig_val, dig_val]; omega)).mono ?_); rintro e w4 ⟨y4, ts, rfl, ht4, hval4, hb4⟩; obtain ⟨to_, _, _, tc, rfl, -⟩ := ht4.view; replace hA := hA.ext hb4; replace hB := hB.ext hb4; replace q0 := BX.get hA 0 rfl; replace q1 := BX.get hA 1 rfl; replace q2 := BX.get hA 2 rfl; replace q3 := BX.get hA 3 rfl; replace hz3 := hz3.ext hb4))
 have hvq : val zs = ((m / k + 1 : Nat) : Int) := by rw [hval3, dig_val]; simp [val]
 have hvr : val ts = ((k - m % k : Nat) : Int) := by rw [hval4, dig_val, dig_val]; omega
 go_upto_region 11 with (go_at_call 54; go_loud (with_reducible refine (w_madeS true _ _ Q _ hz3 (by rw [hvq, hQ]) hsq).mono ?_); rintro e w5 ⟨y16, boq, rfl, hq5, hboq, hb6⟩; replace hboq : Hid _ := hboq; obtain ⟨ao7, b7, o7, cap7, rfl, -⟩ := hq5.view; replace hA := hA.ext hb6; replace hB := hB.ext hb6; replace q0 := BX.get hA 0 rfl; replace q1 := BX.get hA 1 rfl; replace q2 := BX.get hA 2 rfl; replace q3 := BX.get hA 3 rfl; obtain ⟨⟨xa, h3a⟩, ⟨xb, h3b⟩, h3f, hnu, hsl⟩ := hA.box; have hr6 := ht4.ext hb6)
 obtain ⟨Wq, hWq⟩ : ∃ Wq, (w5.setCell ⟨w.heap.size + 1 + 1, 0, none⟩ (.bool boq)).setCell ⟨w.heap.size + 1 + 1, 1, none⟩ (.slice ao7 (dig Q).length cap7) = Wq := ⟨_, rfl⟩
 have hAq : BX w (w.heap.size + 1 + 1) [(w.heap.size, 0, .bool true), (w.heap.size, 1, .slice ao (dig m).length cap1), (w.heap.size + 1, 0, .bool false), (w.heap.size + 1, 1, .slice bo (dig k).length cap2)] Wq := hWq ▸ (hA.set (by omega) hL2 (fun z e => by cases e)).set (by omega) hL2 (fun z e => by cases e)
 have hBq : BX w (w.heap.size + 1 + 1 + 1) [(w.heap.size, 0, .bool true), (w.heap.size, 1, .slice ao (dig m).length cap1), (w.heap.size + 1, 0, .bool false), (w.heap.size + 1, 1, .slice bo (dig k).length cap2)] Wq := hWq ▸ (hB.other (by omega) hL2 (by omega) (fun z e => by cases e)).other (by omega) hL2 (by omega) (fun z e => by cases e)
 have hqq : Lim Wq (.slice ao7 (dig Q).length cap7) (dig Q) := hWq ▸ Lim.box (Lim.box hq5 hnu) (NoU.set hnu (fun z e => by cases e))
 have hrq : Lim Wq _ _ := hWq ▸ Lim.box (Lim.box hr6 hnu) (NoU.set hnu (fun z e => by cases e))
 have c20 : Wq.cell? ⟨w.heap.size + 1 + 1, 0, none⟩ = some (.bool boq) := by rw [← hWq]; simp [go_sem, h3a, h3b]
 have c21 : Wq.cell? ⟨w.heap.size + 1 + 1, 1, none⟩ = some (.slice ao7 (dig Q).length cap7) := by rw [← hWq]; simp [go_sem, h3a, h3b]
 rw [hWq]
 replace q0 := BX.get hAq 0 rfl
 replace q1 := BX.get hAq 1 rfl
 replace q2 := BX.get hAq 2 rfl
 replace q3 := BX.get hAq 3 rfl
 clear hWq hA hB hq5 hr6 h3a h3b h3f hnu hsl
 go_upto_region 14 with (go_at_call 54; (with_reducible refine (w_madeN _ _ R _ hrq (by rw [hvr, hR]) hsr).mono ?_); rintro e w6 ⟨y17, rfl, hr7, hb7⟩; obtain ⟨ao8, b8, o8, cap8, rfl, -⟩ := hr7.view; have hA6 := hAq.ext hb7; have hB6 := hBq.ext hb7; obtain ⟨⟨xa, h4a⟩, ⟨xb, h4b⟩, h4f, hnv, hsm⟩ := hB6.box; have hsl := hAq.box.2.2.2.2; have h3f := hA6.box.2.2.1; have d20 := (hb7.cells.1 _ 0 hsl).trans c20; have d21 := (hb7.cells.1 _ 1 hsl).trans c21; clear c20 c21 q0 q1 q2 q3)
 have h4f0 := h4f 0
 have h4f1 := h4f 1
 have h3f0 := h3f 0
 have h3f1 := h3f 1
 go_region
 all_goals
  have hE6 := hA6.base
  have hnu := hA6.box.2.2.2.1
  have hq6 := hqq.ext hb7
  go_wp2_with fail
  refine bodyPost_ret (v := .tuple #[.agg #[.bool boq, .slice ao7 (dig Q).length cap7], .agg #[.bool false, .slice ao8 (dig R).length cap8], .int .i64 0]) ?_ rfl ⟨_, _, rfl, ?_, ⟨_, rfl, ?_⟩, ?_⟩
  ·simp [results, Tryz.results63, go_sem, ↓IntWalk.iteOmega, h4a, h4b, d20, d21]
  ·refine Wid.mk' (Lim.ext ?_ ((Ext.refl _).drew)) hboq.out
   refine Lim.box (Lim.box (Lim.box (Lim.box (Lim.box (Lim.box hq6 ?_) ?_) ?_) ?_) ?_) ?_ <;> (repeat (first | with_reducible exact hnu | with_reducible exact hnv | with_reducible refine NoU.set ?_ (fun z e => by cases e)))
  ·refine Lim.ext ?_ ((Ext.refl _).drew)
   refine Lim.box (Lim.box (Lim.box (Lim.box (Lim.box (Lim.box hr7 ?_) ?_) ?_) ?_) ?_) ?_ <;> (repeat (first | with_reducible exact hnu | with_reducible exact hnv | with_reducible refine NoU.set ?_ (fun z e => by cases e)))
  ·exact b_0
theorem z_DivTn (va vb : Value) (m k : Nat) (w : World) (ha : Sm w va true m) (hb0 : Nn w vb k) (hs : Small m) (hz : m = 0 → true = false) (hk0 : 0 < k) (hs2 : Small k) (hr0 : ¬ 0 < m % k) :
    Calls Tryz.prog 63 #[va, vb] w fun e w' => ∃ u v, e = .returned (.tuple #[u, v, .int .i64 0]) ∧ Wid w' u (sg true (m / k)) ∧ Nn w' v (m % k) ∧ Ext w w' := by
 obtain ⟨u, rfl, hu⟩ := ha
 obtain ⟨s, rfl, hv⟩ := hb0
 obtain ⟨ao, b1, o1, cap1, rfl, v1, v2, v3, v4, v5, v6⟩ := hu.view
 obtain ⟨bo, b2, o2, cap2, rfl, y1, y2, y3, y4, y5, y6⟩ := hv.view
 have hlen : (dig m).length ≤ 49999 := by unfold Small at hs; omega
 have hl1 := dig_pos.2 hk0
 have hlk : (dig k).length ≤ 49999 := by unfold Small at hs2; omega
 obtain ⟨W4, hW4⟩ : ∃ W4, (((w.alloc (.cells #[.bool true, .slice ao (dig m).length cap1] 24)).alloc (.cells #[.bool false, .slice bo (dig k).length cap2] 24)).alloc (.cells #[.bool false, .slice none 0 0] 24)).alloc (.cells #[.bool false, .slice none 0 0] 24) = W4 := ⟨_, rfl⟩
 have hWs : W4.heap.size = w.heap.size + 1 + 1 + 1 + 1 := by rw [← hW4]; simp
 have hEW : Ext w W4 := by rw [← hW4]; exact ((((Ext.refl w).alloc _).alloc _).alloc _).alloc _
 have hA0 : BX w (w.heap.size + 1 + 1) [(w.heap.size, 0, .bool true), (w.heap.size, 1, .slice ao (dig m).length cap1), (w.heap.size + 1, 0, .bool false), (w.heap.size + 1, 1, .slice bo (dig k).length cap2)] W4 := by
  exact T_ZDM_1
 have hB0 : BX w (w.heap.size + 1 + 1 + 1) [(w.heap.size, 0, .bool true), (w.heap.size, 1, .slice ao (dig m).length cap1), (w.heap.size + 1, 0, .bool false), (w.heap.size + 1, 1, .slice bo (dig k).length cap2)] W4 := by
  exact T_ZDM_2
 have hL2 : ∀ p ∈ ([(w.heap.size, 0, .bool true), (w.heap.size, 1, .slice ao (dig m).length cap1), (w.heap.size + 1, 0, .bool false), (w.heap.size + 1, 1, .slice bo (dig k).length cap2)] : List (Nat × Nat × Value)), p.1 ≠ w.heap.size + 1 + 1 := by
  exact T_ZDM_3
 have hL3 : ∀ p ∈ ([(w.heap.size, 0, .bool true), (w.heap.size, 1, .slice ao (dig m).length cap1), (w.heap.size + 1, 0, .bool false), (w.heap.size + 1, 1, .slice bo (dig k).length cap2)] : List (Nat × Nat × Value)), p.1 ≠ w.heap.size + 1 + 1 + 1 := by
  exact T_ZDM_3
 have hck := z_check_two W4 _ _ true false m k (hu.ext hEW) (hv.ext hEW) hs hs2 hz (fun _ => rfl)
 rw [hWs] at hck
 subst hW4
 clear v1 v4 v5 y1 y4 y5 hWs hEW
 have z0 : (((dig k).length : Int) == 0) = false := by simp; intro e; rw [e] at hl1; simp at hl1
 have hdv := fun w1 (k1 : Ext w w1) => w_divideA _ _ (dig m) (dig k) w1 (hu.ext k1) (hv.ext k1) (dig_nz m) (dig_nz k) hlen hl1
 have hl2 := hl1
 clear hl1
 obtain ⟨Q, hQ⟩ : ∃ Q, (m / k) = Q := ⟨_, rfl⟩
 obtain ⟨R, hR⟩ : ∃ R, (m % k) = R := ⟨_, rfl⟩
 rw [hQ, hR]
 go_enter Tryz.func63, Tryz.ntmps63
 go_upto_region 7 with (first
  | (go_at_call 52; (with_reducible refine hck.mono ?_); rintro e w1 ⟨rfl, hb⟩; have hA := hA0.ext (((Ext.refl _).alloc _).trans hb); have hB := hB0.ext (((Ext.refl _).alloc _).trans hb); have q0 := BX.get hA 0 rfl; have q1 := BX.get hA 1 rfl; have q2 := BX.get hA 2 rfl; have q3 := BX.get hA 3 rfl; clear hA0 hB0 hck hb)
  | (go_at_call 122; (with_reducible refine (hdv _ hA.base).mono ?_); rintro e w2 ⟨y14, y15, qs, rs, rfl, hq, hr, nq, nr, hval, hlt, hb5⟩; obtain ⟨ao6, b6, o6, cap6, rfl, -⟩ := hr.view; obtain ⟨ao5, b5, o5, cap5, rfl, -⟩ := hq.view; replace hA := hA.ext hb5; replace hB := hB.ext hb5; replace q0 := BX.get hA 0 rfl; replace q1 := BX.get hA 1 rfl; replace q2 := BX.get hA 2 rfl; replace q3 := BX.get hA 3 rfl))
 obtain ⟨eq, er⟩ := div_dig hq.lb hr.lb nq nr hval hlt
 subst eq
 subst er
 have hmk : m / k ≤ m := Nat.div_le_self _ _
 have hrk : m % k < k := Nat.mod_lt _ hk0
 have hlq : (dig (m / k)).length ≤ 49999 := Nat.le_trans (dig_mono hmk) hlen
 have hsq0 : (dig (m / k)).length ≤ 4096 := Nat.le_trans (dig_mono hmk) hs
 have hsr0 : (dig (m % k)).length ≤ 4096 := Nat.le_trans (dig_mono (by omega)) hs2
 have hrp : (dig (m % k)).length = 0 := by
  have : m % k = 0 := by omega
  rw [this]; rfl
 have hsq : (dig Q).length ≤ 4096 := hQ ▸ hsq0
 have hsr : (dig R).length ≤ 4096 := hR ▸ hsr0
 clear hdv hval hlt nq nr hb5 hsq0 hsr0
 rw [hQ] at hq
 rw [hR] at hr hrp
 go_upto_region 11 with (go_at_call 54; go_loud (with_reducible refine (w_madeS true _ _ Q _ hq (dig_val _) hsq).mono ?_); rintro e w5 ⟨y16, boq, rfl, hq5, hboq, hb6⟩; replace hboq : Hid _ := hboq; obtain ⟨ao7, b7, o7, cap7, rfl, -⟩ := hq5.view; replace hA := hA.ext hb6; replace hB := hB.ext hb6; replace q0 := BX.get hA 0 rfl; replace q1 := BX.get hA 1 rfl; replace q2 := BX.get hA 2 rfl; replace q3 := BX.get hA 3 rfl; obtain ⟨⟨xa, h3a⟩, ⟨xb, h3b⟩, h3f, hnu, hsl⟩ := hA.box; have hr6 := hr.ext hb6)
 obtain ⟨Wq, hWq⟩ : ∃ Wq, (w5.setCell ⟨w.heap.size + 1 + 1, 0, none⟩ (.bool boq)).setCell ⟨w.heap.size + 1 + 1, 1, none⟩ (.slice ao7 (dig Q).length cap7) = Wq := ⟨_, rfl⟩
 have hAq : BX w (w.heap.size + 1 + 1) [(w.heap.size, 0, .bool true), (w.heap.size, 1, .slice ao (dig m).length cap1), (w.heap.size + 1, 0, .bool false), (w.heap.size + 1, 1, .slice bo (dig k).length cap2)] Wq := hWq ▸ (hA.set (by omega) hL2 (fun z e => by cases e)).set (by omega) hL2 (fun z e => by cases e)
 have hBq : BX w (w.heap.size + 1 + 1 + 1) [(w.heap.size, 0, .bool true), (w.heap.size, 1, .slice ao (dig m).length cap1), (w.heap.size + 1, 0, .bool false), (w.heap.size + 1, 1, .slice bo (dig k).length cap2)] Wq := hWq ▸ (hB.other (by omega) hL2 (by omega) (fun z e => by cases e)).other (by omega) hL2 (by omega) (fun z e => by cases e)
 have hqq : Lim Wq (.slice ao7 (dig Q).length cap7) (dig Q) := hWq ▸ Lim.box (Lim.box hq5 hnu) (NoU.set hnu (fun z e => by cases e))
 have hrq : Lim Wq _ _ := hWq ▸ Lim.box (Lim.box hr6 hnu) (NoU.set hnu (fun z e => by cases e))
 have c20 : Wq.cell? ⟨w.heap.size + 1 + 1, 0, none⟩ = some (.bool boq) := by rw [← hWq]; simp [go_sem, h3a, h3b]
 have c21 : Wq.cell? ⟨w.heap.size + 1 + 1, 1, none⟩ = some (.slice ao7 (dig Q).length cap7) := by rw [← hWq]; simp [go_sem, h3a, h3b]
 rw [hWq]
 replace q0 := BX.get hAq 0 rfl
 replace q1 := BX.get hAq 1 rfl
 replace q2 := BX.get hAq 2 rfl
 replace q3 := BX.get hAq 3 rfl
 clear hWq hA hB hq5 hr6 h3a h3b h3f hnu hsl
 rw [hrp] at hrq
 go_upto_region 14 with (go_at_call 54; (with_reducible refine (w_madeN _ _ R _ hrq (dig_val _) hsr).mono ?_); rintro e w6 ⟨y17, rfl, hr7, hb7⟩; obtain ⟨ao8, b8, o8, cap8, rfl, -⟩ := hr7.view; have hA6 := hAq.ext hb7; have hB6 := hBq.ext hb7; obtain ⟨⟨xa, h4a⟩, ⟨xb, h4b⟩, h4f, hnv, hsm⟩ := hB6.box; have hsl := hAq.box.2.2.2.2; have h3f := hA6.box.2.2.1; have d20 := (hb7.cells.1 _ 0 hsl).trans c20; have d21 := (hb7.cells.1 _ 1 hsl).trans c21; clear c20 c21 q0 q1 q2 q3)
 have h4f0 := h4f 0
 have h4f1 := h4f 1
 have h3f0 := h3f 0
 have h3f1 := h3f 1
 go_region
 all_goals
  have hE6 := hA6.base
  have hnu := hA6.box.2.2.2.1
  have hq6 := hqq.ext hb7
  go_wp2_with fail
  refine bodyPost_ret (v := .tuple #[.agg #[.bool boq, .slice ao7 (dig Q).length cap7], .agg #[.bool false, .slice ao8 (dig R).length cap8], .int .i64 0]) ?_ rfl ⟨_, _, rfl, ?_, ⟨_, rfl, ?_⟩, ?_⟩
  ·simp [results, Tryz.results63, go_sem, ↓IntWalk.iteOmega, h4a, h4b, d20, d21] <;> exact hrp.symm
  ·refine Wid.mk' (Lim.ext ?_ ((Ext.refl _).drew)) hboq.out
   refine Lim.box (Lim.box (Lim.box (Lim.box (Lim.box (Lim.box hq6 ?_) ?_) ?_) ?_) ?_) ?_ <;> (repeat (first | with_reducible exact hnu | with_reducible exact hnv | with_reducible refine NoU.set ?_ (fun z e => by cases e)))
  ·refine Lim.ext ?_ ((Ext.refl _).drew)
   refine Lim.box (Lim.box (Lim.box (Lim.box (Lim.box (Lim.box hr7 ?_) ?_) ?_) ?_) ?_) ?_ <;> (repeat (first | with_reducible exact hnu | with_reducible exact hnv | with_reducible refine NoU.set ?_ (fun z e => by cases e)))
  ·exact b_0
theorem neg_divN (m k : Nat) (hk : 0 < k) : (-(m : Int)) / k = (if 0 < m % k then -((m / k + 1 : Nat) : Int) else -((m / k : Nat) : Int)) ∧ (-(m : Int)) % k = (if 0 < m % k then ((k - m % k : Nat) : Int) else 0) := by
 have hd := Nat.div_add_mod m k
 have hm := Nat.mod_lt m hk
 generalize m / k = q at *
 generalize m % k = r at *
 have e : (m : Int) = k * q + r := by exact_mod_cast hd.symm
 split
 ·rename_i h0
  refine (Int.ediv_emod_unique (a := -(m : Int)) (b := k) (r := ((k - r : Nat) : Int)) (q := -((q + 1 : Nat) : Int)) (by omega)).2 ⟨?_, by omega, by omega⟩
  rw [e, Int.natCast_add, Int.mul_neg, Int.mul_add]; omega
 ·rename_i h0
  refine (Int.ediv_emod_unique (a := -(m : Int)) (b := k) (r := 0) (q := -(q : Int)) (by omega)).2 ⟨?_, by omega, by omega⟩
  rw [e, Int.mul_neg]; omega
theorem z_DivMod (va vb : Value) (n : Int) (k : Nat) (w : World) (ha : Wid w va n) (hb0 : Nn w vb k) (hs : Sz n) (hk0 : 0 < k) (hs2 : Small k) :
    Calls Tryz.prog 63 #[va, vb] w fun e w' => ∃ u v, e = .returned (.tuple #[u, v, .int .i64 0]) ∧ Wid w' u (n / k) ∧ Nn w' v (n % k).toNat ∧ Ext w w' := by
 by_cases h : n < 0
 ·obtain ⟨u, rfl, hu⟩ := ha
  have hd : decide (n < 0) = true := decide_eq_true h
  rw [hd]
  obtain ⟨e1, e2⟩ := neg_divN n.natAbs k hk0
  have e : -(n.natAbs : Int) = n := by omega
  rw [e] at e1 e2
  rw [e1, e2]
  by_cases hr : 0 < n.natAbs % k
  ·rw [if_pos hr, if_pos hr, Int.toNat_natCast]
   exact z_DivTr _ _ n.natAbs k w ⟨u, rfl, hu⟩ hb0 hs (by omega) hk0 hs2 hr
  ·rw [if_neg hr, if_neg hr]
   have h0 : n.natAbs % k = 0 := by omega
   have := z_DivTn _ _ n.natAbs k w ⟨u, rfl, hu⟩ hb0 hs (by omega) hk0 hs2 hr
   rw [h0] at this
   exact this
 ·have h1 : ((n.natAbs : Nat) : Int) = n := by omega
  have e1 : n / k = ((n.natAbs / k : Nat) : Int) := by rw [← h1]; simp
  have e2 : (n % k).toNat = n.natAbs % k := by rw [← h1]; simp; omega
  rw [e1, e2]
  refine (w_DivMod va vb n.natAbs k w (ha.nn (by omega)) hb0 hs hk0 hs2).mono ?_
  rintro e w' ⟨u, v, rfl, hu, hv, hb⟩
  exact ⟨u, v, rfl, hu.wid, hv, hb⟩
theorem t_divZ (va vb : Value) (n : Int) (k : Nat) (w : World) (ha : Wid w va n) (hb0 : Nn w vb k) (hs : Sz n) (hs2 : Small k) (hk0 : 0 < k) : Calls Tryz.prog 26 #[va, vb] w fun e w' => ∃ u, e = .returned u ∧ Wid w' u (n / k) ∧ Ext w w' := by
 obtain ⟨sa, ao, la, cap1, rfl⟩ : ∃ sa ao la cap1, va = .agg #[.bool sa, .slice ao la cap1] := by
  obtain ⟨u, rfl, hu⟩ := ha; obtain ⟨ao, b1, o1, cap1, rfl, -⟩ := hu.view; exact ⟨_, _, _, _, rfl⟩
 obtain ⟨bo, lb, cap2, rfl⟩ : ∃ bo lb cap2, vb = .agg #[.bool false, .slice bo lb cap2] := by
  obtain ⟨u, rfl, hu⟩ := hb0; obtain ⟨ao, b1, o1, cap1, rfl, -⟩ := hu.view; exact ⟨_, _, _, rfl⟩
 have hm := fun w1 (k1 : Ext w w1) => z_DivMod _ _ n k w1 (ha.ext k1) (hb0.ext k1) hs hk0 hs2
 obtain ⟨R, hR⟩ : ∃ R, n / (k : Int) = R := ⟨_, rfl⟩
 obtain ⟨M, hM⟩ : ∃ M, (n % (k : Int)).toNat = M := ⟨_, rfl⟩
 rw [hR, hM] at hm
 rw [hR]
 clear hR hM ha hb0
 go_enter Tryz.func26, Tryz.ntmps26
 go_wp2_with (go_at_call 63; (with_reducible refine (hm _ ex_).mono ?_); rintro e w1 ⟨y1, y3, rfl, hx, ⟨y4, rfl, hy⟩, hb⟩; obtain ⟨xs, xo, xl, xc, rfl⟩ : ∃ xs xo xl xc, y1 = .agg #[.bool xs, .slice xo xl xc] := (by obtain ⟨u, rfl, hu⟩ := hx; obtain ⟨ao, b1, o1, cap1, rfl, -⟩ := hu.view; exact ⟨_, _, _, _, rfl⟩); obtain ⟨yo, _, _, yc, rfl, -⟩ := hy.view; obtain ⟨_, _, ⟨hc, hf⟩, hz⟩ := hb.c3; (try simp only [wsz] at hz hc hf))
 have hnu : NoU ((w1.alloc (.cells #[.bool xs, .slice xo xl xc] 24)).alloc (.cells #[.bool false, .slice yo (dig M).length yc] 24)) (w.heap.size + 1 + 1) := by
  have h0 := NoU.new ((w.alloc (.cells #[.bool sa, .slice ao la cap1] 24)).alloc (.cells #[.bool false, .slice bo lb cap2] 24)) #[.bool false, .slice none 0 0] 24 (noU2 (by simp) (by simp))
  simp only [World.size_alloc] at h0
  exact h0.ext (by simp) ((hb.alloc _).alloc _)
 refine bodyPost_ret (v := .agg #[.bool xs, .slice xo xl xc]) ?_ rfl ⟨_, rfl, ?_, ?_⟩
 ·simp [results, Tryz.results26, go_sem, ↓IntWalk.iteOmega, *]
 ·exact Wid.box (Wid.box (hx.ext (((Ext.refl w1).alloc _).alloc _)) hnu) (NoU.set hnu (fun z e => by cases e))
 ·exact b_0
end Go.Proofs.YtogblocakccbgaaGreat
