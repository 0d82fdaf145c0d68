/- Numbers with signs: divided by a power of 2, rounded down. -/
import Derived.Test.YtogblocakccbgaaGreatJ00
import Derived.Test.YtogblocakccbgaaGreatJ26
import Derived.Test.YtogblocakccbgaaGreatJ27
set_option linter.unusedSimpArgs false
set_option linter.unusedVariables false
set_option maxRecDepth 100000
set_option maxHeartbeats 4000000
namespace Go.Proofs.YtogblocakccbgaaGreat
open Go.RowKit
theorem T_ZS2_2 {p : Prop} (h : p := by
 refine bodyPost_ret (v := .tuple #[.agg #[.bool bo3, .slice ao3 (dig R).length cc3], .int .i64 0]) ?_ rfl ⟨_, rfl, Wid.mk' (Lim.box (Lim.box hz3 hnu) (NoU.set hnu (fun z e => by cases e))) hbo3, ?_⟩
 ·simp [results, Tryz.results169, go_sem, ↓IntWalk.iteOmega, *] <;> first | exact hbo3.symm | simp [hbo3]
 ·repeat (first | with_reducible exact Ext.refl _ | with_reducible assumption | with_reducible refine Ext.alloc ?_ _ | with_reducible refine Ext.setCell ?_ c_14 _ | with_reducible refine Ext.drewN ?_ _ | with_reducible refine Ext.drew ?_ | with_reducible refine Ext.trans ?_ c_1)) : p := h
theorem T_ZS2_1 {p : Prop} (h : p := by
 have hE4 : Ext ((w.alloc (.cells #[.bool true, .slice ao la cap1] 24)).alloc (.cells #[.bool false, .slice none 0 0] 24)) w4 := ex_
 have hnu : NoU w4 (w.heap.size + 1) := by
  have h0 := NoU.new (w.alloc (.cells #[.bool true, .slice ao la cap1] 24)) #[.bool false, .slice none 0 0] 24 (noU2 (by simp) (by simp))
  simp only [World.size_alloc] at h0
  exact h0.ext (by simp) hE4
 exact T_ZS2_2) : p := h
theorem u32_one : U32 1 := by unfold U32; decide
theorem right_plain {m d s k c : Nat} {q r : Int} (hk : k = 32 * d + s) (hc : min d (dig m).length = c) (hq0 : 0 ≤ q) (h : q * 2 ^ s + r = val ((dig m).drop c)) (r0 : 0 ≤ r) (r1 : r < 2 ^ s) :
    q = ((m / 2 ^ k : Nat) : Int) ∧ (decide (0 < val ((dig m).take c)) || decide (0 < r)) = decide (0 < m % 2 ^ k) := by
 have hm := dig_val m
 have lX := dig_lb m
 have hsp : val (dig m) = val ((dig m).take c) + BB ^ c * val ((dig m).drop c) := by
  have h1 := val_append ((dig m).take c) ((dig m).drop c)
  rw [List.take_append_drop, List.length_take, Nat.min_eq_left (by omega)] at h1
  exact h1
 have t0 := val_nonneg (lX.take c)
 have t1 := val_lt (lX.take c)
 rw [List.length_take, Nat.min_eq_left (by omega)] at t1
 have hlen : c = d ∨ ((dig m).length = c ∧ c ≤ d) := by omega
 have hdl : (dig m).length = c → val ((dig m).drop c) = 0 := fun e => by rw [List.drop_of_length_le (by omega)]; rfl
 have hB : ∀ x : Nat, BB ^ x = ((2 ^ (32 * x) : Nat) : Int) := fun x => by
  have : BB = ((2 ^ 32 : Nat) : Int) := rfl
  rw [this, ← Int.natCast_pow, ← Nat.pow_mul]
 rw [hm, ← h] at hsp
 rw [← h] at hdl
 generalize val ((dig m).take c) = T at *
 clear h
 have h2s : (2 : Int) ^ s = ((2 ^ s : Nat) : Int) := by rw [Int.natCast_pow]; rfl
 rw [h2s] at hsp r1 hdl
 rw [hB] at hsp t1
 obtain ⟨q', rfl⟩ := Int.eq_ofNat_of_zero_le hq0
 obtain ⟨r', rfl⟩ := Int.eq_ofNat_of_zero_le r0
 obtain ⟨T', rfl⟩ := Int.eq_ofNat_of_zero_le t0
 have hsN : m = T' + 2 ^ (32 * c) * (q' * 2 ^ s + r') := by exact_mod_cast hsp
 have t1N : T' < 2 ^ (32 * c) := by exact_mod_cast t1
 have r1N : r' < 2 ^ s := by exact_mod_cast r1
 have dT : decide ((0 : Int) < (T' : Int)) = decide (0 < T') := by congr 1; exact propext (by omega)
 have dr : decide ((0 : Int) < (r' : Int)) = decide (0 < r') := by congr 1; exact propext (by omega)
 rw [dT, dr]
 have key : m = 2 ^ k * q' + (T' + 2 ^ (32 * c) * r') ∧ T' + 2 ^ (32 * c) * r' < 2 ^ k := by
  rcases hlen with e | ⟨e, hcd⟩
  ·subst e
   rw [hk, Nat.pow_add]
   constructor
   ·rw [hsN]; grind
   ·have : 2 ^ (32 * c) * (r' + 1) ≤ 2 ^ (32 * c) * 2 ^ s := Nat.mul_le_mul_left _ r1N
    rw [Nat.mul_add] at this
    omega
  ·have h0 := hdl e
   have h1 : q' * 2 ^ s + r' = 0 := by exact_mod_cast h0
   have hr : r' = 0 := by omega
   have hqs : q' * 2 ^ s = 0 := by omega
   have hq : q' = 0 := by
    rcases Nat.mul_eq_zero.1 hqs with h | h
    ·exact h
    ·exact absurd h (Nat.ne_of_gt (Nat.two_pow_pos s))
   have hle : 2 ^ (32 * c) ≤ 2 ^ k := Nat.pow_le_pow_right (by decide) (by omega)
   rw [hsN, h1, hr, hq]
   constructor <;> simp <;> omega
 obtain ⟨k1, k2⟩ := key
 have hdv : m / 2 ^ k = q' := by
  rw [k1, Nat.mul_add_div (Nat.two_pow_pos k), Nat.div_eq_of_lt k2, Nat.add_zero]
 have hmd : m % 2 ^ k = T' + 2 ^ (32 * c) * r' := by
  rw [k1, Nat.mul_add_mod, Nat.mod_eq_of_lt k2]
 rw [hdv, hmd]
 refine ⟨rfl, ?_⟩
 have hp := Nat.two_pow_pos (32 * c)
 rcases Nat.eq_zero_or_pos r' with e | e
 ·subst e; simp
 ·have : 0 < 2 ^ (32 * c) * r' := Nat.mul_pos hp e
  generalize 2 ^ (32 * c) * r' = z at *
  rw [decide_eq_true e, decide_eq_true (show 0 < T' + z by omega), Bool.or_true]
theorem w_rightN (va : Value) (m k : Nat) (w : World) (ha : Lim w va (dig m)) (hs : Small m) (hk : k ≤ 131072) :
    Calls Tryz.prog 174 #[va, .int .i64 k] w fun e w' => ∃ u qs, e = .returned (.tuple #[u, .bool (decide (0 < m % 2 ^ k))]) ∧ Lim w' u qs ∧ qs.length ≤ 100000 ∧ val qs = ((m / 2 ^ k : Nat) : Int) ∧ Ext w w' := by
 have hsl : (dig m).length ≤ 4096 := hs
 refine (w_right2 va (dig m) (k / 32) (k % 32) k w ha (Nat.mod_lt _ (by decide)) (by omega) (by omega) (by omega)).mono ?_
 rintro e w' ⟨u, qs, r, bo, rfl, hbo, hu, hl, hq, r0, r1, hb⟩
 obtain ⟨p1, p2⟩ := right_plain (m := m) (d := k / 32) (s := k % 32) (k := k) (c := min (k / 32) (dig m).length) (by omega) rfl (val_nonneg hu.lb) hq r0 r1
 exact ⟨u, qs, by rw [hbo, p2], hu, hl, p1, hb⟩
theorem neg_floor (m k : Nat) : (-(m : Int)) / 2 ^ k = if 0 < m % 2 ^ k then -((m / 2 ^ k + 1 : Nat) : Int) else -((m / 2 ^ k : Nat) : Int) := by
 have h2 : (2 : Int) ^ k = ((2 ^ k : Nat) : Int) := by rw [Int.natCast_pow]; rfl
 have hp := Nat.two_pow_pos k
 have hd := Nat.div_add_mod m (2 ^ k)
 have hm := Nat.mod_lt m hp
 rw [h2]
 generalize 2 ^ k = P at *
 generalize m / P = q at *
 generalize m % P = r at *
 split
 ·rename_i h0
  refine ((Int.ediv_emod_unique (a := -(m : Int)) (b := P) (r := (P : Int) - r) (q := -((q + 1 : Nat) : Int)) (by omega)).2 ⟨?_, by omega, by omega⟩).1
  have : (m : Int) = P * q + r := by exact_mod_cast hd.symm
  rw [this, Int.natCast_add, Int.mul_neg, Int.mul_add]; omega
 ·rename_i h0
  refine ((Int.ediv_emod_unique (a := -(m : Int)) (b := P) (r := 0) (q := -(q : Int)) (by omega)).2 ⟨?_, by omega, by omega⟩).1
  have : (m : Int) = P * q + r := by exact_mod_cast hd.symm
  rw [this, Int.mul_neg]; omega
theorem z_shiftDF (va : Value) (m k : Nat) (w : World) (ha : Sm w va false m) (hs : Small m) (hz : m = 0 → false = false) (hk0 : 0 < k) (hk : k ≤ 131072) :
    Calls Tryz.prog 169 #[va, .int .i64 (-(k : Int))] w fun e w' => ∃ u, e = .returned (.tuple #[u, .int .i64 0]) ∧ Wid w' u (sg false (m / 2 ^ k)) ∧ Ext w w' := by
 obtain ⟨u, rfl, hu⟩ := ha
 obtain ⟨ao, b1, o1, cap1, rfl, -⟩ := hu.view
 have hck := z_check_one ((w.alloc (.cells #[.bool false, .slice ao (dig m).length cap1] 24)).alloc (.cells #[.bool false, .slice none 0 0] 24)) _ false m (hu.ext ex_) hs hz
 simp only [World.size_alloc] at hck
 have hri := fun w1 (k1 : Ext w w1) => w_rightN _ m k w1 (hu.ext k1) hs hk
 obtain ⟨rb, hrb⟩ : ∃ rb, decide (0 < m % 2 ^ k) = rb := ⟨_, rfl⟩
 rw [hrb] at hri
 clear hrb
 have hle : (dig (m / 2 ^ k)).length ≤ 4096 := by
  have h1 : (m / 2 ^ k) ≤ m := Nat.div_le_self _ _
  exact Nat.le_trans (dig_mono h1) hs
 obtain ⟨R, hR⟩ : ∃ R, (m / 2 ^ k) = R := ⟨_, rfl⟩
 have hmd : ∀ v xs w1, Lim w1 v xs → val xs = (((m / 2 ^ k) : Nat) : Int) → _ := fun v xs w1 h1 h2 => w_madeS false v xs (m / 2 ^ k) w1 h1 h2 hle
 obtain ⟨Q, hQ⟩ : ∃ Q, m / 2 ^ k = Q := ⟨_, rfl⟩
 rw [hR] at hmd ⊢
 rw [hQ] at hri hR
 clear hQ hle
 generalize (dig m).length = la at *
 go_enter Tryz.func169, Tryz.ntmps169
 go_wp2_with (first
  | (go_at_call 52; (with_reducible refine hck.mono ?_); rintro e w1 ⟨rfl, hb⟩; obtain ⟨_, _, hc, hf⟩ := hb.cells2; have hz := hb.size; (try simp only [wsz] at hz hc hf); clear hck)
  | (go_at_call 174; (with_reducible refine (hri _ ex_).mono ?_); rintro e w2 ⟨y2, qs, rfl, hq, hql, hqv, hb2⟩; obtain ⟨qo, _, _, qc, rfl, -⟩ := hq.view; obtain ⟨_, _, hc2, hf2⟩ := hb2.cells2; have hz2 := hb2.size; (try simp only [wsz] at hz2 hc2 hf2); clear hri)
  | (go_at_call 54; (with_reducible refine (hmd _ qs _ hq (by rw [hqv, hR])).mono ?_); rintro e w4 ⟨s3, bo3, rfl, hz3, hbo3, hb4⟩; obtain ⟨ao3, bb3, oo3, cc3, rfl, _⟩ := hz3.view; obtain ⟨_, _, hc4, hf4⟩ := hb4.cells2; have hz4 := hb4.size; (try simp only [wsz] at hz4 hc4 hf4); clear hmd))
 have hE4 : Ext ((w.alloc (.cells #[.bool false, .slice ao la cap1] 24)).alloc (.cells #[.bool false, .slice none 0 0] 24)) w4 := ex_
 have hnu : NoU w4 (w.heap.size + 1) := by
  have h0 := NoU.new (w.alloc (.cells #[.bool false, .slice ao la cap1] 24)) #[.bool false, .slice none 0 0] 24 (noU2 (by simp) (by simp))
  simp only [World.size_alloc] at h0
  exact h0.ext (by simp) hE4
 exact T_ZS2_2
theorem z_shiftDTr (va : Value) (m k : Nat) (w : World) (ha : Sm w va true m) (hs : Small m) (hz : m = 0 → true = false) (hk0 : 0 < k) (hk : k ≤ 131072) (hr : 0 < m % 2 ^ k) :
    Calls Tryz.prog 169 #[va, .int .i64 (-(k : Int))] w fun e w' => ∃ u, e = .returned (.tuple #[u, .int .i64 0]) ∧ Wid w' u (sg true (m / 2 ^ k + 1)) ∧ Ext w w' := by
  obtain ⟨u, rfl, hu⟩ := ha
  obtain ⟨ao, b1, o1, cap1, rfl, -⟩ := hu.view
  have hck := z_check_one ((w.alloc (.cells #[.bool true, .slice ao (dig m).length cap1] 24)).alloc (.cells #[.bool false, .slice none 0 0] 24)) _ true m (hu.ext ex_) hs hz
  simp only [World.size_alloc] at hck
  have hri := fun w1 (k1 : Ext w w1) => w_rightN _ m k w1 (hu.ext k1) hs hk
  rw [decide_eq_true hr] at hri
  have hle : (dig (m / 2 ^ k + 1)).length ≤ 4096 := by
    have h1 : (m / 2 ^ k + 1) ≤ m := by
      have h2 : m / 2 ^ k < m := Nat.div_lt_self (by rcases Nat.eq_zero_or_pos m with e | e; · subst e; simp at hr
                                                     · exact e) (Nat.lt_of_lt_of_le (by decide) (Nat.pow_le_pow_right (n := 2) (by decide) hk0))
      omega
    exact Nat.le_trans (dig_mono h1) hs
  obtain ⟨R, hR⟩ : ∃ R, (m / 2 ^ k + 1) = R := ⟨_, rfl⟩
  have hmd : ∀ v xs w1, Lim w1 v xs → val xs = (((m / 2 ^ k + 1) : Nat) : Int) → _ := fun v xs w1 h1 h2 => w_madeS true v xs (m / 2 ^ k + 1) w1 h1 h2 hle
  obtain ⟨Q, hQ⟩ : ∃ Q, m / 2 ^ k = Q := ⟨_, rfl⟩
  rw [hR] at hmd ⊢
  rw [hQ] at hri hR
  clear hQ hle
  generalize (dig m).length = la at *
  go_enter Tryz.func169, Tryz.ntmps169
  go_wp2_with (first
    | (go_at_call 52; (with_reducible refine hck.mono ?_); rintro e w1 ⟨rfl, hb⟩; obtain ⟨_, _, hc, hf⟩ := hb.cells2; have hz := hb.size; (try simp only [wsz] at hz hc hf); clear hck)
    | (go_at_call 174; (with_reducible refine (hri _ ex_).mono ?_); rintro e w2 ⟨y2, qs, rfl, hq, hql, hqv, hb2⟩; obtain ⟨qo, _, _, qc, rfl, -⟩ := hq.view; obtain ⟨_, _, hc2, hf2⟩ := hb2.cells2; have hz2 := hb2.size; (try simp only [wsz] at hz2 hc2 hf2); clear hri)
    | (go_at_call 123; go_loud (with_reducible refine (w_plus _ _ qs [1] _ (hq.ext ((Ext.refl _).alloc _)) (lim_one _ 1 u32_one) c_29).mono ?_); rintro e w3 ⟨y3, zs, rfl, hz3q, hval3, hb3⟩; obtain ⟨zo, _, _, zc, rfl, -⟩ := hz3q.view; obtain ⟨_, _, hc3, hf3⟩ := hb3.cells2; have hz3 := hb3.size; (try simp only [wsz] at hz3 hc3 hf3))
    | (go_at_call 54; (with_reducible refine (hmd _ zs _ (hz3q) (by rw [hval3, hqv]; simp [val]; omega)).mono ?_); rintro e w4 ⟨s3, bo3, rfl, hz3, hbo3, hb4⟩; obtain ⟨ao3, bb3, oo3, cc3, rfl, _⟩ := hz3.view; obtain ⟨_, _, hc4, hf4⟩ := hb4.cells2; have hz4 := hb4.size; (try simp only [wsz] at hz4 hc4 hf4); clear hmd))
  exact T_ZS2_1
theorem z_shiftDTn (va : Value) (m k : Nat) (w : World) (ha : Sm w va true m) (hs : Small m) (hz : m = 0 → true = false) (hk0 : 0 < k) (hk : k ≤ 131072) (hr : ¬ 0 < m % 2 ^ k) :
    Calls Tryz.prog 169 #[va, .int .i64 (-(k : Int))] w fun e w' => ∃ u, e = .returned (.tuple #[u, .int .i64 0]) ∧ Wid w' u (sg true (m / 2 ^ k)) ∧ Ext w w' := by
 obtain ⟨u, rfl, hu⟩ := ha
 obtain ⟨ao, b1, o1, cap1, rfl, -⟩ := hu.view
 have hck := z_check_one ((w.alloc (.cells #[.bool true, .slice ao (dig m).length cap1] 24)).alloc (.cells #[.bool false, .slice none 0 0] 24)) _ true m (hu.ext ex_) hs hz
 simp only [World.size_alloc] at hck
 have hri := fun w1 (k1 : Ext w w1) => w_rightN _ m k w1 (hu.ext k1) hs hk
 rw [decide_eq_false hr] at hri
 have hle : (dig (m / 2 ^ k)).length ≤ 4096 := by
  have h1 : (m / 2 ^ k) ≤ m := Nat.div_le_self _ _
  exact Nat.le_trans (dig_mono h1) hs
 obtain ⟨R, hR⟩ : ∃ R, (m / 2 ^ k) = R := ⟨_, rfl⟩
 have hmd : ∀ v xs w1, Lim w1 v xs → val xs = (((m / 2 ^ k) : Nat) : Int) → _ := fun v xs w1 h1 h2 => w_madeS true v xs (m / 2 ^ k) w1 h1 h2 hle
 obtain ⟨Q, hQ⟩ : ∃ Q, m / 2 ^ k = Q := ⟨_, rfl⟩
 rw [hR] at hmd ⊢
 rw [hQ] at hri hR
 clear hQ hle
 generalize (dig m).length = la at *
 go_enter Tryz.func169, Tryz.ntmps169
 go_wp2_with (first
  | (go_at_call 52; (with_reducible refine hck.mono ?_); rintro e w1 ⟨rfl, hb⟩; obtain ⟨_, _, hc, hf⟩ := hb.cells2; have hz := hb.size; (try simp only [wsz] at hz hc hf); clear hck)
  | (go_at_call 174; (with_reducible refine (hri _ ex_).mono ?_); rintro e w2 ⟨y2, qs, rfl, hq, hql, hqv, hb2⟩; obtain ⟨qo, _, _, qc, rfl, -⟩ := hq.view; obtain ⟨_, _, hc2, hf2⟩ := hb2.cells2; have hz2 := hb2.size; (try simp only [wsz] at hz2 hc2 hf2); clear hri)
  | (go_at_call 54; (with_reducible refine (hmd _ qs _ hq (by rw [hqv, hR])).mono ?_); rintro e w4 ⟨s3, bo3, rfl, hz3, hbo3, hb4⟩; obtain ⟨ao3, bb3, oo3, cc3, rfl, _⟩ := hz3.view; obtain ⟨_, _, hc4, hf4⟩ := hb4.cells2; have hz4 := hb4.size; (try simp only [wsz] at hz4 hc4 hf4); clear hmd))
 exact T_ZS2_1
theorem z_shiftD (va : Value) (n : Int) (k : Nat) (w : World) (ha : Wid w va n) (hs : Sz n) (hk0 : 0 < k) (hk : k ≤ 131072) :
    Calls Tryz.prog 169 #[va, .int .i64 (-(k : Int))] w fun e w' => ∃ u, e = .returned (.tuple #[u, .int .i64 0]) ∧ Wid w' u (n / 2 ^ k) ∧ Ext w w' := by
 obtain ⟨u, rfl, hu⟩ := ha
 by_cases h : n < 0
 ·have hd : decide (n < 0) = true := decide_eq_true h
  rw [hd]
  have hn := neg_floor n.natAbs k
  have e : -(n.natAbs : Int) = n := by omega
  rw [e] at hn
  rw [hn]
  split
  ·rename_i hr
   exact z_shiftDTr _ n.natAbs k w ⟨u, rfl, hu⟩ hs (by omega) hk0 hk hr
  ·rename_i hr
   exact z_shiftDTn _ n.natAbs k w ⟨u, rfl, hu⟩ hs (by omega) hk0 hk hr
 ·have hd : decide (n < 0) = false := decide_eq_false h
  rw [hd]
  have e : n / 2 ^ k = sg false (n.natAbs / 2 ^ k) := by
   have h1 : (n.natAbs : Int) = n := by omega
   have h2 : ((n.natAbs / 2 ^ k : Nat) : Int) = (n.natAbs : Int) / 2 ^ k := by rw [Int.natCast_ediv, Int.natCast_pow]; rfl
   unfold sg
   rw [if_neg (by decide), h2, h1]
  rw [e]
  exact z_shiftDF _ n.natAbs k w ⟨u, rfl, hu⟩ hs (fun _ => rfl) hk0 hk
end Go.Proofs.YtogblocakccbgaaGreat
