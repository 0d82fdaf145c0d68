/- planisphereref03: numbers of two words with a sign. -/
import Derived.Test.YtomgcjeahkmhiaaSpanC
namespace Go.Proofs.Ytomgcjeahkmhiaa
open Go.RowKit

/-- The absolute value. -/
def absv (x : Int) : Int := if x < 0 then -x else x
theorem absv_nonneg (x : Int) : 0 ≤ absv x := by unfold absv; split <;> omega
theorem absv_mul (a b : Int) : absv a * absv b = absv (a * b) := by
  have h : ∀ x, absv x = (x.natAbs : Int) := fun x => by unfold absv; split <;> omega
  rw [h, h, h, Int.natAbs_mul]; rfl
theorem wrapNeg (x : Int) (h : x < 0) (h2 : -9223372036854775808 ≤ x) : IntKind.u64.wrap (-IntKind.u64.wrap x) = absv x := by
  rw [IntKind.wrap_u64, IntKind.wrap_u64, absv, if_pos h]; omega

theorem mul64q (x y : Int) (w : World) (hx : 0 ≤ x ∧ x < 18446744073709551616) (hy : 0 ≤ y ∧ y < 18446744073709551616) :
    Calls Try.prog 118 #[.int .u64 x, .int .u64 y] w fun e w' => e = .returned (.tuple #[.int .u64 (x * y / 18446744073709551616), .int .u64 (x * y % 18446744073709551616)]) ∧ Ext w w' := by
  obtain ⟨m, rfl⟩ := Int.eq_ofNat_of_zero_le hx.1
  obtain ⟨n, rfl⟩ := Int.eq_ofNat_of_zero_le hy.1
  refine (Try.bits_Mul64 m n (by omega) (by omega) w).mono ?_
  rintro e w' ⟨rfl, rfl⟩
  refine ⟨?_, Ext.refl _⟩
  rw [Int.natCast_ediv, Int.natCast_emod, Int.natCast_mul]
  rfl

theorem sign_mul (a b : Int) : (a < 0 → b < 0 → 0 ≤ a * b) ∧ (0 ≤ a → 0 ≤ b → 0 ≤ a * b) ∧ (a < 0 → 0 ≤ b → a * b ≤ 0) ∧ (0 ≤ a → b < 0 → a * b ≤ 0) := by
  refine ⟨fun h1 h2 => Int.mul_nonneg_of_nonpos_of_nonpos (by omega) (by omega), fun h1 h2 => Int.mul_nonneg h1 h2, fun h1 h2 => Int.mul_nonpos_of_nonpos_of_nonneg (by omega) h2, fun h1 h2 => Int.mul_nonpos_of_nonneg_of_nonpos h1 (by omega)⟩

set_option maxRecDepth 100000 in
set_option maxHeartbeats 1000000 in
theorem ref_size (a : Int) (w : World) (ha : I64 a) :
    Calls Try.prog 132 #[.int .i64 a] w fun e w' => e = .returned (.int .u64 (absv a)) ∧ Ext w w' := by
  obtain ⟨h1, h2⟩ := ha
  go_enter Try.func132, Try.ntmps132
  go_wp2
  all_goals
    go_ret
    refine ⟨congrArg (fun n => Ending.returned (.int .u64 n)) ?_, Ext.refl _⟩
    first | exact wrapNeg a (by assumption) h1 | (unfold absv; rw [if_neg (by omega)])

set_option maxRecDepth 100000 in
set_option maxHeartbeats 1000000 in
theorem ref_times (a b : Int) (w : World) (ha : I64 a) (hb0 : I64 b) :
    Calls Try.prog 129 #[.int .i64 a, .int .i64 b] w fun e w' => e = .returned (.agg #[.bool (decide (a * b < 0)), .int .u64 (absv (a * b) / 18446744073709551616), .int .u64 (absv (a * b) % 18446744073709551616)]) ∧ Ext w w' := by
  have hT := abs_mul_bound ha hb0
  have hs := sign_mul a b
  have ea := absv_mul a b
  obtain ⟨a1, a2⟩ := (show -9223372036854775808 ≤ a ∧ a < 9223372036854775808 from ha)
  obtain ⟨b1, b2⟩ := (show -9223372036854775808 ≤ b ∧ b < 9223372036854775808 from hb0)
  have ba : 0 ≤ absv a ∧ absv a < 18446744073709551616 := by unfold absv; split <;> omega
  have bb : 0 ≤ absv b ∧ absv b < 18446744073709551616 := by unfold absv; split <;> omega
  have hx := fun w => mul64q (absv a) (absv b) w ba bb
  rw [ea] at hx
  obtain ⟨T, eT⟩ : ∃ T, T = a * b := ⟨_, rfl⟩
  rw [← eT] at hx hs hT
  have hz : (absv T / 18446744073709551616 ≤ 0 → absv T % 18446744073709551616 ≤ 0 → T = 0) ∧ (T = 0 → absv T / 18446744073709551616 = 0 ∧ absv T % 18446744073709551616 = 0) := by
    unfold absv; split <;> omega
  have Hx := Lib.hid hx
  have Hs := Lib.hid (And.intro hs hz)
  have Et := Lib.hid eT
  clear hx hs hz eT ea hT
  go_enter Try.func129, Try.ntmps129
  go_wp2_with (first | (go_at_call 132; (with_reducible refine (ref_size _ _ (by assumption)).mono ?_); rintro e w1 ⟨rfl, hb⟩; obtain ⟨_, _, hc, hf⟩ := hb.cells2; have hz := hb.size; (try simp only [World.size_alloc] at hz hc hf)) | (go_at_call 118; (with_reducible refine (Hx.out _).mono ?_); rintro e w1 ⟨rfl, hb⟩; obtain ⟨_, _, hc, hf⟩ := hb.cells2; have hz := hb.size; (try simp only [World.size_alloc, World.size_setCell] at hz hc hf)))
  all_goals
    refine bodyPost_ret (v := .agg #[.bool (decide (a * b < 0)), .int .u64 (absv (a * b) / 18446744073709551616), .int .u64 (absv (a * b) % 18446744073709551616)]) ?_ rfl ⟨rfl, ?_⟩
    · simp [results, Try.results129, go_sem, ↓IntWalk.iteOmega, *]
      rw [← Et.out]
      obtain ⟨⟨s1, s2, s3, s4⟩, z1, z2⟩ := Hs.out
      by_cases c1 : a < 0 <;> by_cases c2 : b < 0 <;> by_cases c3 : T < 0 <;> by_cases c4 : 0 < absv T / 18446744073709551616 <;> by_cases c5 : 0 < absv T % 18446744073709551616 <;> first | (exfalso; omega) | (simp [c1, c2, c3, c4, c5]; done) | (simp; omega)
    · repeat (first | exact Ext.refl _ | with_reducible assumption | refine Ext.alloc ?_ _ | refine Ext.setCell ?_ (by (try simp only []); omega) _ | refine Ext.drewN ?_ _ | refine Ext.drew ?_ | refine Ext.trans ?_ (by with_reducible assumption))

/-- What 'over' finds. -/
def ovS (T d : Int) (up : Bool) : Int := if up then upT T d else dnT T d
theorem over_eq (T d : Int) (up s : Bool) (h l : Int) (es : s = decide (T < 0)) (eT : absv T = h * 18446744073709551616 + l) (hh : 0 ≤ h) (hl : 0 ≤ l) (hl2 : l < 18446744073709551616) (d0 : 0 < d) :
    (¬ h < d → ovS T d up = if s then -4611686018427387904 else 4611686018427387904) ∧
    (h < d → ovS T d up = (if s then -1 else 1) * (if 4611686018427387904 ≤ absv T / d then 4611686018427387904 else if 0 < absv T % d ∧ up ≠ s then absv T / d + 1 else absv T / d)) := by
  have key : ovS T d up = (if s then -1 else 1) * min (if 0 < absv T % d ∧ up ≠ s then absv T / d + 1 else absv T / d) 4611686018427387904 := by
    by_cases ht : T < 0
    · have e : absv T = -T := by unfold absv; rw [if_pos ht]
      have e1 := upT_eq (-T) d (by omega) d0
      have e2 := dnT_eq (-T) d (by omega) d0
      have e3 := upT_neg T d
      have e4 : upT T d = - dnT (-T) d := rfl
      rw [e]
      cases up <;> cases s <;> simp [ht, ovS] at es ⊢
      · omega
      · rw [e4, e2]
    · have e : absv T = T := by unfold absv; rw [if_neg ht]
      have e1 := upT_eq T d (by omega) d0
      have e2 := dnT_eq T d (by omega) d0
      rw [e]
      cases up <;> cases s <;> simp [ht, ovS] at es ⊢
      · exact e2
      · exact e1
      all_goals omega
  refine ⟨fun hd => ?_, fun hd => ?_⟩
  · have hb := big_quot eT hl (by omega) d0
    rw [key, Int.min_eq_right (by split <;> omega)]
    cases s <;> simp
  · obtain ⟨q1, q2, r1, r2⟩ := small_quot eT hh hl hl2 hd
    rw [key]
    congr 1
    split <;> split <;> omega
set_option maxRecDepth 100000 in
set_option maxHeartbeats 1000000 in
theorem ref_over (T d : Int) (up : Bool) (w : World) (h1 : -85070591730234615865843651857942052864 ≤ T) (h2 : T ≤ 85070591730234615865843651857942052864) (d0 : 0 < d) (d1 : d < 18446744073709551616) :
    Calls Try.prog 123 #[.agg #[.bool (decide (T < 0)), .int .u64 (absv (T) / 18446744073709551616), .int .u64 (absv (T) % 18446744073709551616)], .int .u64 d, .bool up] w fun e w' => e = .returned (.int .i64 (ovS T d up)) ∧ Ext w w' := by
  have hz := absv_nonneg T
  have hn : (T < 0 → absv T = -T) ∧ (0 ≤ T → absv T = T) := by unfold absv; split <;> omega
  obtain ⟨h, eh⟩ : ∃ h : Int, h = absv T / 18446744073709551616 := ⟨_, rfl⟩
  obtain ⟨l, el⟩ : ∃ h : Int, h = absv T % 18446744073709551616 := ⟨_, rfl⟩
  have hl1 : 0 ≤ l := by omega
  have hl2 : l < 18446744073709551616 := by omega
  have hh1 : 0 ≤ h := by omega
  have hh2 : h < 18446744073709551616 := by omega
  have eT : absv T = h * 18446744073709551616 + l := by omega
  rw [← eh, ← el]
  obtain ⟨s, es⟩ : ∃ s : Bool, s = decide (T < 0) := ⟨_, rfl⟩
  rw [← es]
  have ho := over_eq T d up s h l es eT hh1 hl1 hl2 d0
  clear eh el h1 h2
  by_cases hd : h < d
  · obtain ⟨q1, q2, r1, r2⟩ := small_quot eT hh1 hl1 hl2 hd
    obtain ⟨q, hq⟩ : ∃ q, q = absv T / d := ⟨_, rfl⟩
    obtain ⟨r, hr⟩ : ∃ q, q = absv T % d := ⟨_, rfl⟩
    rw [← hq] at q1 q2
    rw [← hr] at r1 r2
    have hc := fun w => div64q h l d q r w (by omega) (by omega) d1 (by rw [hq, eT]) (by rw [hr, eT])
    have ho2 := ho.2 hd
    rw [← hq, ← hr] at ho2
    have Hc := Lib.hid hc; clear hc
    have Ho := Lib.hid ho2; clear ho2 ho
    clear eT hq hr hz hn es
    go_enter Try.func123, Try.ntmps123
    go_wp2_with (go_at_call 121; refine (Hc.out _).mono ?_; rintro e w1 ⟨rfl, hb⟩; obtain ⟨_, _, hc, hf⟩ := hb.cells2; have hz := hb.size; (try simp only [World.size_alloc] at hz hc hf))
    all_goals
      go_ret
      refine ⟨congrArg (fun n => Ending.returned (.int .i64 n)) ?_, by repeat (first | exact Ext.refl _ | with_reducible assumption | refine Ext.alloc ?_ _ | refine Ext.setCell ?_ (by (try simp only [World.size_alloc, World.size_setCell]); omega) _ | refine Ext.drewN ?_ _ | refine Ext.drew ?_ | refine Ext.trans ?_ (by with_reducible assumption))⟩
      rw [Ho.out]
      clear hb hc hf Hc Ho
      cases up <;> cases s <;> simp_all <;> omega
  · have ho1 := ho.1 hd
    have Ho := Lib.hid ho1; clear ho1 ho
    clear eT hz hn es
    go_enter Try.func123, Try.ntmps123
    go_wp2_with fail
    all_goals
      go_ret
      refine ⟨congrArg (fun n => Ending.returned (.int .i64 n)) ?_, by repeat (first | exact Ext.refl _ | with_reducible assumption | refine Ext.alloc ?_ _ | refine Ext.setCell ?_ (by (try simp only [World.size_alloc, World.size_setCell]); omega) _ | refine Ext.drewN ?_ _ | refine Ext.drew ?_ | refine Ext.trans ?_ (by with_reducible assumption))⟩
      rw [Ho.out]
      cases s <;> simp_all

end Go.Proofs.Ytomgcjeahkmhiaa
