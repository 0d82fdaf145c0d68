/- Plain functions on intervals: what both texts calculate.; span: numbers of two words.; span: comparing numbers of two words; the least and the greatest.; span: the checks. -/
import Derived.Test.YtogblocakccbgaaGreatJ00
import Derived.Test.YtogblocakccbgaaGreatJ13
import Derived.Laws.Bits64
import Derived.Laws.BitsLemmas
import Derived.WalkKit
import Derived.Shelf.Spec.BitsCarry
import Derived.Handy
set_option linter.unusedSimpArgs false
set_option linter.unusedVariables false
set_option maxRecDepth 100000
set_option maxHeartbeats 2000000
namespace Go.Proofs.YtogblocakccbgaaGreat
open Go.RowKit
def I64 (x : Int) : Prop := -9223372036854775808 ≤ x ∧ x < 9223372036854775808
structure R3 where
 lo : Int
 hi : Int
 e : Int
def ckI (lo hi : Int) : Int := if hi < lo ∨ lo < -2305843009213693952 ∨ 2305843009213693952 < hi then 8 else 0
def ck2 (a b c d : Int) : Int := if ckI a b ≠ 0 then ckI a b else ckI c d
def madeI (lo hi : Int) : R3 := if lo < -2305843009213693952 ∨ 2305843009213693952 < hi then ⟨0, 0, 16⟩ else ⟨lo, hi, 0⟩
def addI (a b c d : Int) : R3 := if ck2 a b c d ≠ 0 then ⟨0, 0, ck2 a b c d⟩ else madeI (wrap64 (a + c)) (wrap64 (b + d))
def subI (a b c d : Int) : R3 := if ck2 a b c d ≠ 0 then ⟨0, 0, ck2 a b c d⟩ else madeI (wrap64 (a - d)) (wrap64 (b - c))
def dnT (T d : Int) : Int := max (-4611686018427387904) (min (T / d) 4611686018427387904)
def upT (T d : Int) : Int := - dnT (-T) d
def min4 (a b c d : Int) : Int := min (min (min a b) c) d
def max4 (a b c d : Int) : Int := max (max (max a b) c) d
def mulI (a b c d : Int) : R3 := if ck2 a b c d ≠ 0 then ⟨0, 0, ck2 a b c d⟩ else
 madeI (dnT (min4 (a * c) (a * d) (b * c) (b * d)) 1099511627776) (upT (max4 (a * c) (a * d) (b * c) (b * d)) 1099511627776)
def absI (a b : Int) : R3 := if ckI a b ≠ 0 then ⟨0, 0, ckI a b⟩ else if 0 ≤ a then ⟨a, b, 0⟩ else if b ≤ 0 then ⟨wrap64 (-b), wrap64 (-a), 0⟩ else ⟨0, max (wrap64 (-a)) b, 0⟩
def sqI (a b : Int) : R3 := if (absI a b).e ≠ 0 then ⟨0, 0, (absI a b).e⟩ else
 madeI (dnT ((absI a b).lo * (absI a b).lo) 1099511627776) (upT ((absI a b).hi * (absI a b).hi) 1099511627776)
def negI (a b : Int) : R3 := if ckI a b ≠ 0 then ⟨0, 0, ckI a b⟩ else ⟨wrap64 (-b), wrap64 (-a), 0⟩
theorem ckI_ok {a b : Int} (h : ckI a b = 0) : a ≤ b ∧ -2305843009213693952 ≤ a ∧ b ≤ 2305843009213693952 := by
 unfold ckI at h; split at h
 ·simp at h
 ·omega
theorem ckI_of {a b : Int} (h : a ≤ b ∧ -2305843009213693952 ≤ a ∧ b ≤ 2305843009213693952) : ckI a b = 0 := by
 unfold ckI; rw [if_neg (by omega)]
theorem ck2_ok {a b c d : Int} (h : ck2 a b c d = 0) : ckI a b = 0 ∧ ckI c d = 0 := by
 unfold ck2 at h; split at h
 ·contradiction
 ·exact ⟨by simpa using ‹¬ ckI a b ≠ 0›, h⟩
theorem w64_in {x : Int} (h : -9223372036854775808 ≤ x ∧ x < 9223372036854775808) : wrap64 x = x := by
 unfold wrap64; omega
theorem abs_mul_bound {a b : Int} (ha : I64 a) (hb : I64 b) : -85070591730234615865843651857942052864 ≤ a * b ∧ a * b ≤ 85070591730234615865843651857942052864 := by
 obtain ⟨a1, a2⟩ := ha
 obtain ⟨b1, b2⟩ := hb
 have h1 : a.natAbs ≤ 9223372036854775808 := by omega
 have h2 : b.natAbs ≤ 9223372036854775808 := by omega
 have h3 : (a * b).natAbs ≤ 9223372036854775808 * 9223372036854775808 := by
  rw [Int.natAbs_mul]; exact Nat.mul_le_mul h1 h2
 omega
theorem w64_mod (x : Int) : (wrap64 x - x) % 18446744073709551616 = 0 ∧ -9223372036854775808 ≤ wrap64 x ∧ wrap64 x < 9223372036854775808 := by
 unfold wrap64; omega
theorem mul_shift (a b x y M i j : Int) (hx : x = a + i * M) (hy : y = b + j * M) : x * y = a * b + M * (a * j + i * b + i * j * M) := by
 subst hx hy; grind
theorem times_hi (a b x y : Int) (ha : I64 a) (hb : I64 b) (hx : x = a % 18446744073709551616) (hy : y = b % 18446744073709551616) :
    x * y % 18446744073709551616 = a * b % 18446744073709551616 ∧
    (a < 0 → b < 0 → wrap64 (wrap64 (wrap64 (x * y / 18446744073709551616) - b) - a) = a * b / 18446744073709551616) ∧
    (a < 0 → 0 ≤ b → wrap64 (wrap64 (x * y / 18446744073709551616) - b) = a * b / 18446744073709551616) ∧
    (0 ≤ a → b < 0 → wrap64 (wrap64 (x * y / 18446744073709551616) - a) = a * b / 18446744073709551616) ∧
    (0 ≤ a → 0 ≤ b → wrap64 (x * y / 18446744073709551616) = a * b / 18446744073709551616) := by
 have hp := abs_mul_bound ha hb
 obtain ⟨a1, a2⟩ := ha
 obtain ⟨b1, b2⟩ := hb
 have ex : ∃ i : Int, x = a + i * 18446744073709551616 ∧ (a < 0 → i = 1) ∧ (0 ≤ a → i = 0) := ⟨if a < 0 then 1 else 0, by split <;> omega, fun h => if_pos h, fun h => if_neg (by omega)⟩
 have ey : ∃ i : Int, y = b + i * 18446744073709551616 ∧ (b < 0 → i = 1) ∧ (0 ≤ b → i = 0) := ⟨if b < 0 then 1 else 0, by split <;> omega, fun h => if_pos h, fun h => if_neg (by omega)⟩
 obtain ⟨i, e1, i1, i0⟩ := ex
 obtain ⟨j, e2, j1, j0⟩ := ey
 have e := mul_shift a b x y 18446744073709551616 i j e1 e2
 have f1 : x * y % 18446744073709551616 = a * b % 18446744073709551616 := by rw [e, Int.add_mul_emod_self_left]
 have f2 : x * y / 18446744073709551616 = a * b / 18446744073709551616 + (a * j + i * b + i * j * 18446744073709551616) := by
  rw [e, Int.add_mul_ediv_left _ _ (by omega)]
 obtain ⟨P, hP⟩ : ∃ P, P = a * b := ⟨_, rfl⟩
 rw [← hP] at hp f2
 rw [← hP] at ⊢
 refine ⟨by rw [f1, hP], fun h1 h2 => ?_, fun h1 h2 => ?_, fun h1 h2 => ?_, fun h1 h2 => ?_⟩
 ·rw [i1 h1, j1 h2] at f2
  rw [f2]; unfold wrap64; omega
 ·rw [i1 h1, j0 h2] at f2
  rw [f2]; unfold wrap64; omega
 ·rw [i0 h1, j1 h2] at f2
  rw [f2]; unfold wrap64; omega
 ·rw [i0 h1, j0 h2] at f2
  rw [f2]; unfold wrap64; omega
theorem neg_div (T d : Int) (d0 : 0 < d) : -((-T) / d) = if 0 < T % d then T / d + 1 else T / d := by
 have h := Int.mul_ediv_add_emod T d
 have h1 := Int.emod_nonneg T (show d ≠ 0 by omega)
 have h2 := Int.emod_lt_of_pos T d0
 obtain ⟨q, hq⟩ : ∃ q, q = T / d := ⟨_, rfl⟩
 obtain ⟨r, hr⟩ : ∃ r, r = T % d := ⟨_, rfl⟩
 rw [← hq, ← hr] at h
 rw [← hr] at h1 h2
 rw [← hq, ← hr]
 split
 ·have e : -T = (d - r) + d * (-q - 1) := by rw [← h, Int.mul_sub, Int.mul_neg]; omega
  rw [e, Int.add_mul_ediv_left _ _ (by omega), Int.ediv_eq_zero_of_lt (by omega) (by omega)]; omega
 ·have e : -T = d * (-q) := by rw [← h, Int.mul_neg]; omega
  rw [e, Int.mul_ediv_cancel_left _ (by omega)]; omega
theorem upT_eq (T d : Int) (h0 : 0 ≤ T) (d0 : 0 < d) : upT T d = min (if 0 < T % d then T / d + 1 else T / d) 4611686018427387904 := by
 have h := neg_div T d d0
 have hq : 0 ≤ T / d := Int.ediv_nonneg h0 (by omega)
 unfold upT dnT
 split at h <;> omega
theorem dnT_eq (T d : Int) (h0 : 0 ≤ T) (d0 : 0 < d) : dnT T d = min (T / d) 4611686018427387904 := by
 have hq : 0 ≤ T / d := Int.ediv_nonneg h0 (by omega)
 unfold dnT; omega
theorem dnT_range (T d : Int) : -4611686018427387904 ≤ dnT T d ∧ dnT T d ≤ 4611686018427387904 := by unfold dnT; omega
theorem upT_range (T d : Int) : -4611686018427387904 ≤ upT T d ∧ upT T d ≤ 4611686018427387904 := by have := dnT_range (-T) d; unfold upT; omega
theorem upT_neg (T d : Int) : upT (-T) d = - dnT T d := by unfold upT; rw [Int.neg_neg]
theorem dnT_neg (T d : Int) : dnT (-T) d = - upT T d := by unfold upT; omega
theorem big_quot {T d h l : Int} (eT : T = h * 18446744073709551616 + l) (hl : 0 ≤ l) (hd : d ≤ h) (d0 : 0 < d) : 18446744073709551616 ≤ T / d := by
 rw [Int.le_ediv_iff_mul_le d0, eT]
 have : 18446744073709551616 * d ≤ 18446744073709551616 * h := Int.mul_le_mul_of_nonneg_left hd (by omega)
 omega
theorem small_quot {T d h l : Int} (eT : T = h * 18446744073709551616 + l) (hh : 0 ≤ h) (hl : 0 ≤ l) (hl2 : l < 18446744073709551616) (hd : h < d) : 0 ≤ T / d ∧ T / d < 18446744073709551616 ∧ 0 ≤ T % d ∧ T % d < d := by
 refine ⟨Int.ediv_nonneg (by omega) (by omega), ?_, Int.emod_nonneg _ (by omega), Int.emod_lt_of_pos _ (by omega)⟩
 rw [Int.ediv_lt_iff_lt_mul (by omega), eT]
 have : (h + 1) * 18446744073709551616 ≤ d * 18446744073709551616 := Int.mul_le_mul_of_nonneg_right (by omega) (by omega)
 omega
theorem times_any (a b : Int) (w : World) (ha : I64 a) (hb : I64 b) :
    Calls Tryz.prog 93 #[.int .i64 a, .int .i64 b] w fun e w' => e = .returned (.agg #[.int .i64 (a * b / 18446744073709551616), .int .u64 (a * b % 18446744073709551616)]) ∧ Ext w w' := by
 have ht := times_hi a b _ _ ha hb rfl rfl
 obtain ⟨a1, a2⟩ := ha
 obtain ⟨b1, b2⟩ := hb
 obtain ⟨x, hx⟩ : ∃ x : Nat, (x : Int) = a % 18446744073709551616 := ⟨(a % 18446744073709551616).toNat, by omega⟩
 obtain ⟨y, hy⟩ : ∃ x : Nat, (x : Int) = b % 18446744073709551616 := ⟨(b % 18446744073709551616).toNat, by omega⟩
 have ex : IntKind.u64.wrap a = (x : Int) := by rw [IntKind.wrap_u64]; omega
 have ey : IntKind.u64.wrap b = (y : Int) := by rw [IntKind.wrap_u64]; omega
 have hx64 : x < 18446744073709551616 := by omega
 have hy64 : y < 18446744073709551616 := by omega
 rw [← hx, ← hy] at ht
 have Ht := Lib.hid ht; clear ht
 have Hx := Lib.hid hx; clear hx
 have Hy := Lib.hid hy; clear hy
 go_enter Tryz.func93, Tryz.ntmps93
 go_wp2_with (go_at_call 157; refine (Tryz.bits_Mul64 x y hx64 hy64 _).mono ?_; rintro e w' ⟨rfl, hw⟩; rw [hw]; clear hw)
 all_goals
  refine bodyPost_ret (v := .agg #[.int .i64 (a * b / 18446744073709551616), .int .u64 (a * b % 18446744073709551616)]) ?_ rfl ⟨rfl, (Ext.refl _).alloc _⟩
  simp [results, Tryz.results93, go_sem]
  obtain ⟨t0, t1, t2, t3, t4⟩ := Ht.out
  refine ⟨?_, t0⟩
  first | exact t1 c_32 c_32 | exact t2 c_32 c_32 | exact t3 c_32 c_32 | exact t4 c_32 c_32
theorem sub64_run (y : Int) (h1 : 0 ≤ y) (h2 : y < 18446744073709551616) (w : World) :
    (callFunc 158 #[.int .u64 0, .int .u64 y, .int .u64 0]).run Tryz.prog w = .ok (.value (.tuple #[.int .u64 ((-y) % 18446744073709551616), .int .u64 (if y = 0 then 0 else 1)])) w := by
 obtain ⟨n, rfl⟩ := Int.eq_ofNat_of_zero_le h1
 have h := run_sub64 (P := Tryz.prog) 0 n 0 (by omega) w
 rw [run_callFunc_extern Tryz.func158 c_4 c_4 c_4 (e := sub64Entry) c_4]
 have e0 : (.int .u64 0 : Value) = .int .u64 ((0 : Nat) : Int) := rfl
 have e1 : (((0 + 18446744073709551616 - n - 0) % 18446744073709551616 : Nat) : Int) = (-(n : Int)) % 18446744073709551616 := by omega
 have e2 : ((if 0 < n + 0 then 1 else 0 : Nat) : Int) = if (n : Int) = 0 then 0 else 1 := by split <;> split <;> first | rfl | omega
 rw [e1, e2] at h
 rw [e0, h]
 rfl
theorem div64q (hi lo y q r : Int) (w : World) (hh : 0 ≤ hi ∧ hi < y) (hl : 0 ≤ lo ∧ lo < 18446744073709551616) (hy : y < 18446744073709551616) (hq : q = (hi * 18446744073709551616 + lo) / y) (hr : r = (hi * 18446744073709551616 + lo) % y) :
    Calls Tryz.prog 160 #[.int .u64 hi, .int .u64 lo, .int .u64 y] w fun e w' => e = .returned (.tuple #[.int .u64 q, .int .u64 r]) ∧ Ext w w' := by
 obtain ⟨h, rfl⟩ := Int.eq_ofNat_of_zero_le hh.1
 obtain ⟨l, rfl⟩ := Int.eq_ofNat_of_zero_le hl.1
 obtain ⟨d, rfl⟩ := Int.eq_ofNat_of_zero_le (show 0 ≤ y by omega)
 refine (div64 h l d w (by omega) (by omega) (by omega)).mono ?_
 rintro e w' ⟨rfl, hx⟩
 refine ⟨?_, hx⟩
 rw [hq, hr, Int.natCast_ediv, Int.natCast_emod, Int.natCast_add, Int.natCast_mul]
 rfl
theorem neg_any (T : Int) (w : World) (h1 : -85070591730234615865843651857942052864 ≤ T) (h2 : T ≤ 85070591730234615865843651857942052864) :
    Calls Tryz.prog 94 #[.agg #[.int .i64 (T / 18446744073709551616), .int .u64 (T % 18446744073709551616)]] w fun e w' => e = .returned (.agg #[.int .i64 ((-T) / 18446744073709551616), .int .u64 ((-T) % 18446744073709551616)]) ∧ Ext w w' := by
 obtain ⟨h, eh⟩ : ∃ h, h = T / 18446744073709551616 := ⟨_, rfl⟩
 obtain ⟨l, el⟩ : ∃ h, h = T % 18446744073709551616 := ⟨_, rfl⟩
 obtain ⟨b, eb⟩ : ∃ b : Int, b = if l = 0 then 0 else 1 := ⟨_, rfl⟩
 have hb : b = 0 ∨ b = 1 := by rw [eb]; split <;> simp
 have hs := fun w => sub64_run l (by omega) (by omega) w
 rw [← eb] at hs
 rw [← eh, ← el]
 have b1 : 0 ≤ b := by omega
 have b2 : b ≤ 1 := by omega
 have g1 : -4611686018427387904 ≤ h := by omega
 have g2 : h ≤ 4611686018427387904 := by omega
 have hf : -h - b = (-T) / 18446744073709551616 ∧ (-l) % 18446744073709551616 = (-T) % 18446744073709551616 := by
  rw [eb]; split <;> omega
 have HF := Lib.hid hf; clear hf eh el eb hb h1 h2
 go_enter Tryz.func94, Tryz.ntmps94
 go_wp2_with fail
 refine bodyPost_ret (v := .agg #[.int .i64 ((-T) / 18446744073709551616), .int .u64 ((-T) % 18446744073709551616)]) ?_ rfl ⟨rfl, ((Ext.refl _).alloc _).alloc _⟩
 simp [results, Tryz.results94, go_sem]
 exact HF.out
theorem up_nonneg (T d : Int) (w : World) (h0 : 0 ≤ T) (h2 : T ≤ 85070591730234615865843651857942052864) (d0 : 0 < d) (d1 : d < 18446744073709551616) :
    Calls Tryz.prog 99 #[.agg #[.int .i64 (T / 18446744073709551616), .int .u64 (T % 18446744073709551616)], .int .u64 d] w fun e w' => e = .returned (.int .i64 (upT T d)) ∧ Ext w w' := by
 obtain ⟨h, eh⟩ : ∃ h : Int, h = T / 18446744073709551616 := ⟨_, rfl⟩
 obtain ⟨l, el⟩ : ∃ h : Int, h = T % 18446744073709551616 := ⟨_, rfl⟩
 have hl1 : 0 ≤ l := by omega
 have hl2 : l < 18446744073709551616 := by omega
 have hh1 : 0 ≤ h := by omega
 have hh2 : h < 9223372036854775808 := by omega
 have eT : T = h * 18446744073709551616 + l := by omega
 have Et : Hid (T = h * 18446744073709551616 + l ∧ 0 ≤ T) := Lib.hid ⟨eT, h0⟩
 rw [← eh, ← el]
 clear eh el h2 h0
 have e1 : IntKind.u64.wrap h = h := by rw [IntKind.wrap_u64]; omega
 by_cases hd : d ≤ h
 ·clear eT
  go_enter Tryz.func99, Tryz.ntmps99
  go_wp2_with fail
  go_ret
  refine ⟨?_, (Ext.refl _).alloc _⟩
  rw [upT_eq T d Et.out.2 d0]
  have := big_quot Et.out.1 hl1 hd d0
  exact congrArg (fun n => Ending.returned (.int .i64 n)) (by split <;> omega)
 ·obtain ⟨q1, q2, r1, r2⟩ := small_quot eT hh1 hl1 hl2 (show h < d by omega)
  obtain ⟨q, hq⟩ : ∃ q, q = T / d := ⟨_, rfl⟩
  obtain ⟨r, hr⟩ : ∃ q, q = T % d := ⟨_, rfl⟩
  rw [← hq] at q1 q2
  rw [← hr] at r1 r2
  have hc := div64q h l d q r (w.alloc (.cells #[.int .i64 h, .int .u64 l] 136)) (by omega) (by omega) d1 (by rw [hq, eT]) (by rw [hr, eT])
  have Hc := Lib.hid hc; clear hc
  have Hq := Lib.hid hq; clear hq
  have Hr := Lib.hid hr; clear hr
  clear eT
  go_enter Tryz.func99, Tryz.ntmps99
  go_wp2_with (go_at_call 160; refine Hc.out.mono ?_; rintro e w1 ⟨rfl, hb⟩)
  all_goals
   go_ret
   refine ⟨?_, ((Ext.refl _).alloc _).trans hb⟩
   rw [upT_eq T d Et.out.2 d0, ← Hq.out, ← Hr.out]
   exact congrArg (fun n => Ending.returned (.int .i64 n)) (by split <;> first | rfl | omega)
theorem down_nonneg (T d : Int) (w : World) (h0 : 0 ≤ T) (h2 : T ≤ 85070591730234615865843651857942052864) (d0 : 0 < d) (d1 : d < 18446744073709551616) :
    Calls Tryz.prog 97 #[.agg #[.int .i64 (T / 18446744073709551616), .int .u64 (T % 18446744073709551616)], .int .u64 d] w fun e w' => e = .returned (.int .i64 (dnT T d)) ∧ Ext w w' := by
 obtain ⟨h, eh⟩ : ∃ h : Int, h = T / 18446744073709551616 := ⟨_, rfl⟩
 obtain ⟨l, el⟩ : ∃ h : Int, h = T % 18446744073709551616 := ⟨_, rfl⟩
 have hl1 : 0 ≤ l := by omega
 have hl2 : l < 18446744073709551616 := by omega
 have hh1 : 0 ≤ h := by omega
 have hh2 : h < 9223372036854775808 := by omega
 have eT : T = h * 18446744073709551616 + l := by omega
 have Et : Hid (T = h * 18446744073709551616 + l ∧ 0 ≤ T) := Lib.hid ⟨eT, h0⟩
 rw [← eh, ← el]
 clear eh el h2 h0
 have e1 : IntKind.u64.wrap h = h := by rw [IntKind.wrap_u64]; omega
 by_cases hd : d ≤ h
 ·clear eT
  go_enter Tryz.func97, Tryz.ntmps97
  go_wp2_with fail
  go_ret
  refine ⟨?_, (Ext.refl _).alloc _⟩
  rw [dnT_eq T d Et.out.2 d0]
  have := big_quot Et.out.1 hl1 hd d0
  exact congrArg (fun n => Ending.returned (.int .i64 n)) (by omega)
 ·obtain ⟨q1, q2, r1, r2⟩ := small_quot eT hh1 hl1 hl2 (show h < d by omega)
  obtain ⟨q, hq⟩ : ∃ q, q = T / d := ⟨_, rfl⟩
  obtain ⟨r, hr⟩ : ∃ q, q = T % d := ⟨_, rfl⟩
  rw [← hq] at q1 q2
  rw [← hr] at r1 r2
  have hc := div64q h l d q r (w.alloc (.cells #[.int .i64 h, .int .u64 l] 136)) (by omega) (by omega) d1 (by rw [hq, eT]) (by rw [hr, eT])
  have Hc := Lib.hid hc; clear hc
  have Hq := Lib.hid hq; clear hq
  have Hr := Lib.hid hr; clear hr
  clear eT
  go_enter Tryz.func97, Tryz.ntmps97
  go_wp2_with (go_at_call 160; refine Hc.out.mono ?_; rintro e w1 ⟨rfl, hb⟩)
  all_goals
   go_ret
   refine ⟨?_, ((Ext.refl _).alloc _).trans hb⟩
   rw [dnT_eq T d Et.out.2 d0, ← Hq.out]
   exact congrArg (fun n => Ending.returned (.int .i64 n)) (by first | rfl | omega)
theorem up_neg (T d : Int) (w : World) (h0 : T < 0) (h2 : -85070591730234615865843651857942052864 ≤ T) (d0 : 0 < d) (d1 : d < 18446744073709551616) :
    Calls Tryz.prog 99 #[.agg #[.int .i64 (T / 18446744073709551616), .int .u64 (T % 18446744073709551616)], .int .u64 d] w fun e w' => e = .returned (.int .i64 (upT T d)) ∧ Ext w w' := by
 have hh : T / 18446744073709551616 < 0 := by omega
 have hr := dnT_range (-T) d
 have hr1 := hr.1
 have hr2 := hr.2
 have hn := fun w => neg_any T w (by omega) (by omega)
 have ho := fun w => down_nonneg (-T) d w (by omega) (by omega) d0 d1
 have Hn := Lib.hid hn; clear hn
 have Ho := Lib.hid ho; clear ho hr h0 h2
 go_enter Tryz.func99, Tryz.ntmps99
 go_wp2_with (first | (go_at_call 94; refine (Hn.out _).mono ?_; rintro e w1 ⟨rfl, hb⟩) | (go_at_call 97; refine (Ho.out _).mono ?_; rintro e w2 ⟨rfl, hb2⟩))
 go_ret
 refine ⟨?_, (((Ext.refl _).alloc _).trans hb).trans hb2⟩
 exact congrArg (fun n => Ending.returned (.int .i64 n)) (by have := dnT_neg T d; omega)
theorem up_any (T d : Int) (w : World) (h1 : -85070591730234615865843651857942052864 ≤ T) (h2 : T ≤ 85070591730234615865843651857942052864) (d0 : 0 < d) (d1 : d < 18446744073709551616) :
    Calls Tryz.prog 99 #[.agg #[.int .i64 (T / 18446744073709551616), .int .u64 (T % 18446744073709551616)], .int .u64 d] w fun e w' => e = .returned (.int .i64 (upT T d)) ∧ Ext w w' := by
 by_cases h : T < 0
 ·exact up_neg T d w h h1 d0 d1
 ·exact up_nonneg T d w (by omega) h2 d0 d1
theorem down_neg (T d : Int) (w : World) (h0 : T < 0) (h2 : -85070591730234615865843651857942052864 ≤ T) (d0 : 0 < d) (d1 : d < 18446744073709551616) :
    Calls Tryz.prog 97 #[.agg #[.int .i64 (T / 18446744073709551616), .int .u64 (T % 18446744073709551616)], .int .u64 d] w fun e w' => e = .returned (.int .i64 (dnT T d)) ∧ Ext w w' := by
 have hh : T / 18446744073709551616 < 0 := by omega
 have hr := upT_range (-T) d
 have hr1 := hr.1
 have hr2 := hr.2
 have hn := fun w => neg_any T w (by omega) (by omega)
 have ho := fun w => up_nonneg (-T) d w (by omega) (by omega) d0 d1
 have Hn := Lib.hid hn; clear hn
 have Ho := Lib.hid ho; clear ho hr h0 h2
 go_enter Tryz.func97, Tryz.ntmps97
 go_wp2_with (first | (go_at_call 94; refine (Hn.out _).mono ?_; rintro e w1 ⟨rfl, hb⟩) | (go_at_call 99; refine (Ho.out _).mono ?_; rintro e w2 ⟨rfl, hb2⟩))
 go_ret
 refine ⟨?_, (((Ext.refl _).alloc _).trans hb).trans hb2⟩
 exact congrArg (fun n => Ending.returned (.int .i64 n)) (by have := upT_neg T d; omega)
theorem down_any (T d : Int) (w : World) (h1 : -85070591730234615865843651857942052864 ≤ T) (h2 : T ≤ 85070591730234615865843651857942052864) (d0 : 0 < d) (d1 : d < 18446744073709551616) :
    Calls Tryz.prog 97 #[.agg #[.int .i64 (T / 18446744073709551616), .int .u64 (T % 18446744073709551616)], .int .u64 d] w fun e w' => e = .returned (.int .i64 (dnT T d)) ∧ Ext w w' := by
 by_cases h : T < 0
 ·exact down_neg T d w h h1 d0 d1
 ·exact down_nonneg T d w (by omega) h2 d0 d1
def cmpT (T U : Int) : Int := if T = U then 0 else if T < U then -1 else 1
theorem cmp_any (T U : Int) (w : World) :
    Calls Tryz.prog 159 #[.agg #[.int .i64 (T / 18446744073709551616), .int .u64 (T % 18446744073709551616)], .agg #[.int .i64 (U / 18446744073709551616), .int .u64 (U % 18446744073709551616)]] w fun e w' => e = .returned (.int .i64 (cmpT T U)) ∧ Ext w w' := by
 obtain ⟨h, eh⟩ : ∃ h : Int, h = T / 18446744073709551616 := ⟨_, rfl⟩
 obtain ⟨l, el⟩ : ∃ h : Int, h = T % 18446744073709551616 := ⟨_, rfl⟩
 obtain ⟨h', eh'⟩ : ∃ h : Int, h = U / 18446744073709551616 := ⟨_, rfl⟩
 obtain ⟨l', el'⟩ : ∃ h : Int, h = U % 18446744073709551616 := ⟨_, rfl⟩
 have hc : (h = h' ∧ l = l' ↔ T = U) ∧ (h < h' ∨ h = h' ∧ l < l' ↔ T < U) := by omega
 rw [← eh, ← el, ← eh', ← el']
 have Hc := Lib.hid hc
 clear hc eh el eh' el'
 go_enter Tryz.func159, Tryz.ntmps159
 go_wp2_with fail
 all_goals
  go_ret
  refine ⟨?_, ((Ext.refl _).alloc _).alloc _⟩
  obtain ⟨c1, c2⟩ := Hc.out
  exact congrArg (fun n => Ending.returned (.int .i64 n)) (by unfold cmpT; split <;> (try split) <;> omega)
theorem cmp_neg (T U : Int) : cmpT T U < 0 ↔ T < U := by unfold cmpT; split <;> (try split) <;> omega
theorem cmp_nn (T U : Int) : 0 ≤ cmpT T U ↔ U ≤ T := by unfold cmpT; split <;> (try split) <;> omega
theorem cmp_pos (T U : Int) : 0 < cmpT T U ↔ U < T := by unfold cmpT; split <;> (try split) <;> omega
theorem cmp_np (T U : Int) : cmpT T U ≤ 0 ↔ T ≤ U := by unfold cmpT; split <;> (try split) <;> omega
def min2 (a b : Int) : Int := min a b
def max2 (a b : Int) : Int := max a b
theorem least_3 (T U V X : Int) (b c : Nat) (w : World) 
    (c2 : w.cell? ⟨b, 2, none⟩ = some (.int .i64 (U / 18446744073709551616))) (c3 : w.cell? ⟨b, 3, none⟩ = some (.int .u64 (U % 18446744073709551616)))
    (c4 : w.cell? ⟨b, 4, none⟩ = some (.int .i64 (V / 18446744073709551616))) (c5 : w.cell? ⟨b, 5, none⟩ = some (.int .u64 (V % 18446744073709551616)))
    (c6 : w.cell? ⟨b, 6, none⟩ = some (.int .i64 (X / 18446744073709551616))) (c7 : w.cell? ⟨b, 7, none⟩ = some (.int .u64 (X % 18446744073709551616))) :
    Calls Tryz.prog 96 #[.agg #[.int .i64 (T / 18446744073709551616), .int .u64 (T % 18446744073709551616)], .slice (some ⟨b, 2, none⟩) 3 c] w fun e w' => e = .returned (.agg #[.int .i64 (min4 T U V X / 18446744073709551616), .int .u64 (min4 T U V X % 18446744073709551616)]) ∧ Ext w w' := by
 have hb0 : b < w.heap.size := World.block_lt_of_cell? w _ c2
 go_enter Tryz.func96, Tryz.ntmps96
 go_wp2_with fail
 refine wp_loop_rounds 4 ?_
 repeat
  any_goals
   rw [rounds_succ]
   go_wp2_with (go_at_call 159; (with_reducible refine (cmp_any _ _ _).mono ?_); rintro e w1 ⟨rfl, hb⟩; obtain ⟨_, _, hc, hf⟩ := hb.cells2; have hz := hb.size; (try simp only [wsz] at hz hc hf))
 all_goals
  refine bodyPost_ret (v := .agg #[.int .i64 (min4 T U V X / 18446744073709551616), .int .u64 (min4 T U V X % 18446744073709551616)]) ?_ rfl ⟨rfl, ?_⟩
  ·simp [results, Tryz.results96, go_sem, ↓IntWalk.iteOmega, *]
   simp only [cmp_neg, cmp_nn] at *
   refine ⟨congrArg (· / 18446744073709551616) ?_, congrArg (· % 18446744073709551616) ?_⟩ <;> (unfold min4; omega)
  ·repeat (first | exact Ext.refl _ | with_reducible assumption | refine Ext.alloc ?_ _ | refine Ext.setCell ?_ c_19 _ | refine Ext.trans ?_ c_1)
theorem greatest_3 (T U V X : Int) (b c : Nat) (w : World) 
    (c2 : w.cell? ⟨b, 2, none⟩ = some (.int .i64 (U / 18446744073709551616))) (c3 : w.cell? ⟨b, 3, none⟩ = some (.int .u64 (U % 18446744073709551616)))
    (c4 : w.cell? ⟨b, 4, none⟩ = some (.int .i64 (V / 18446744073709551616))) (c5 : w.cell? ⟨b, 5, none⟩ = some (.int .u64 (V % 18446744073709551616)))
    (c6 : w.cell? ⟨b, 6, none⟩ = some (.int .i64 (X / 18446744073709551616))) (c7 : w.cell? ⟨b, 7, none⟩ = some (.int .u64 (X % 18446744073709551616))) :
    Calls Tryz.prog 98 #[.agg #[.int .i64 (T / 18446744073709551616), .int .u64 (T % 18446744073709551616)], .slice (some ⟨b, 2, none⟩) 3 c] w fun e w' => e = .returned (.agg #[.int .i64 (max4 T U V X / 18446744073709551616), .int .u64 (max4 T U V X % 18446744073709551616)]) ∧ Ext w w' := by
 have hb0 : b < w.heap.size := World.block_lt_of_cell? w _ c2
 go_enter Tryz.func98, Tryz.ntmps98
 go_wp2_with fail
 refine wp_loop_rounds 4 ?_
 repeat
  any_goals
   rw [rounds_succ]
   go_wp2_with (go_at_call 159; (with_reducible refine (cmp_any _ _ _).mono ?_); rintro e w1 ⟨rfl, hb⟩; obtain ⟨_, _, hc, hf⟩ := hb.cells2; have hz := hb.size; (try simp only [wsz] at hz hc hf))
 all_goals
  refine bodyPost_ret (v := .agg #[.int .i64 (max4 T U V X / 18446744073709551616), .int .u64 (max4 T U V X % 18446744073709551616)]) ?_ rfl ⟨rfl, ?_⟩
  ·simp [results, Tryz.results98, go_sem, ↓IntWalk.iteOmega, *]
   simp only [cmp_pos, cmp_np] at *
   refine ⟨congrArg (· / 18446744073709551616) ?_, congrArg (· % 18446744073709551616) ?_⟩ <;> (unfold max4; omega)
  ·repeat (first | exact Ext.refl _ | with_reducible assumption | refine Ext.alloc ?_ _ | refine Ext.setCell ?_ c_19 _ | refine Ext.trans ?_ c_1)
theorem least_1 (T U : Int) (b c : Nat) (w : World) 
    (c0 : w.cell? ⟨b, 0, none⟩ = some (.int .i64 (U / 18446744073709551616))) (c1 : w.cell? ⟨b, 1, none⟩ = some (.int .u64 (U % 18446744073709551616))) :
    Calls Tryz.prog 96 #[.agg #[.int .i64 (T / 18446744073709551616), .int .u64 (T % 18446744073709551616)], .slice (some ⟨b, 0, none⟩) 1 c] w fun e w' => e = .returned (.agg #[.int .i64 (min2 T U / 18446744073709551616), .int .u64 (min2 T U % 18446744073709551616)]) ∧ Ext w w' := by
 have hb0 : b < w.heap.size := World.block_lt_of_cell? w _ c0
 go_enter Tryz.func96, Tryz.ntmps96
 go_wp2_with fail
 refine wp_loop_rounds 2 ?_
 repeat
  any_goals
   rw [rounds_succ]
   go_wp2_with (go_at_call 159; (with_reducible refine (cmp_any _ _ _).mono ?_); rintro e w1 ⟨rfl, hb⟩; obtain ⟨_, _, hc, hf⟩ := hb.cells2; have hz := hb.size; (try simp only [World.size_alloc] at hz hc hf))
 all_goals
  refine bodyPost_ret (v := .agg #[.int .i64 (min2 T U / 18446744073709551616), .int .u64 (min2 T U % 18446744073709551616)]) ?_ rfl ⟨rfl, ?_⟩
  ·simp [results, Tryz.results96, go_sem, *]
   simp only [cmp_neg, cmp_nn] at *
   refine ⟨congrArg (· / 18446744073709551616) ?_, congrArg (· % 18446744073709551616) ?_⟩ <;> (unfold min2; omega)
  ·repeat (first | exact Ext.refl _ | with_reducible assumption | refine Ext.alloc ?_ _ | refine Ext.setCell ?_ c_19 _ | refine Ext.trans ?_ c_1)
theorem greatest_1 (T U : Int) (b c : Nat) (w : World) 
    (c0 : w.cell? ⟨b, 0, none⟩ = some (.int .i64 (U / 18446744073709551616))) (c1 : w.cell? ⟨b, 1, none⟩ = some (.int .u64 (U % 18446744073709551616))) :
    Calls Tryz.prog 98 #[.agg #[.int .i64 (T / 18446744073709551616), .int .u64 (T % 18446744073709551616)], .slice (some ⟨b, 0, none⟩) 1 c] w fun e w' => e = .returned (.agg #[.int .i64 (max2 T U / 18446744073709551616), .int .u64 (max2 T U % 18446744073709551616)]) ∧ Ext w w' := by
 have hb0 : b < w.heap.size := World.block_lt_of_cell? w _ c0
 go_enter Tryz.func98, Tryz.ntmps98
 go_wp2_with fail
 refine wp_loop_rounds 2 ?_
 repeat
  any_goals
   rw [rounds_succ]
   go_wp2_with (go_at_call 159; (with_reducible refine (cmp_any _ _ _).mono ?_); rintro e w1 ⟨rfl, hb⟩; obtain ⟨_, _, hc, hf⟩ := hb.cells2; have hz := hb.size; (try simp only [World.size_alloc] at hz hc hf))
 all_goals
  refine bodyPost_ret (v := .agg #[.int .i64 (max2 T U / 18446744073709551616), .int .u64 (max2 T U % 18446744073709551616)]) ?_ rfl ⟨rfl, ?_⟩
  ·simp [results, Tryz.results98, go_sem, *]
   simp only [cmp_pos, cmp_np] at *
   refine ⟨congrArg (· / 18446744073709551616) ?_, congrArg (· % 18446744073709551616) ?_⟩ <;> (unfold max2; omega)
  ·repeat (first | exact Ext.refl _ | with_reducible assumption | refine Ext.alloc ?_ _ | refine Ext.setCell ?_ c_19 _ | refine Ext.trans ?_ c_1)
theorem check_2 (a b c d : Int) (n : Nat) (w : World) (hn : n = w.heap.size) :
    Calls Tryz.prog 92 #[.slice (some ⟨n, 0, none⟩) 2 2] (w.alloc (.cells #[.int .i64 a, .int .i64 b, .int .i64 c, .int .i64 d] 31)) fun e w' => e = .returned (.int .i64 (ck2 a b c d)) ∧ Ext (w.alloc (.cells #[.int .i64 a, .int .i64 b, .int .i64 c, .int .i64 d] 31)) w' := by
 subst hn
 go_enter Tryz.func92, Tryz.ntmps92
 go_wp2
 refine wp_loop_rounds 3 ?_
 repeat
  any_goals
   rw [rounds_succ]
   go_wp2
 all_goals
  go_ret
  refine ⟨?_, ?_⟩
  ·first | (simp [ck2, ckI, *]; done) | (simp [ck2, ckI, *]; omega)
  ·repeat (first | exact Ext.refl _ | with_reducible assumption | refine Ext.alloc ?_ _ | refine Ext.setCell ?_ c_14 _ | refine Ext.drewN ?_ _ | refine Ext.drew ?_ | refine Ext.trans ?_ c_1)
theorem check_1 (a b : Int) (n : Nat) (w : World) (hn : n = w.heap.size) :
    Calls Tryz.prog 92 #[.slice (some ⟨n, 0, none⟩) 1 1] (w.alloc (.cells #[.int .i64 a, .int .i64 b] 31)) fun e w' => e = .returned (.int .i64 (ckI a b)) ∧ Ext (w.alloc (.cells #[.int .i64 a, .int .i64 b] 31)) w' := by
 subst hn
 go_enter Tryz.func92, Tryz.ntmps92
 go_wp2
 refine wp_loop_rounds 2 ?_
 repeat
  any_goals
   rw [rounds_succ]
   go_wp2
 all_goals
  go_ret
  refine ⟨?_, ?_⟩
  ·first | (simp [ckI, *]; done) | (simp [ckI, *]; omega)
  ·repeat (first | exact Ext.refl _ | with_reducible assumption | refine Ext.alloc ?_ _ | refine Ext.setCell ?_ c_14 _ | refine Ext.drewN ?_ _ | refine Ext.drew ?_ | refine Ext.trans ?_ c_1)
theorem span_made (lo hi : Int) (w : World) :
    Calls Tryz.prog 95 #[.int .i64 lo, .int .i64 hi] w fun e w' => e = .returned (.tuple #[.agg #[.int .i64 (madeI lo hi).lo, .int .i64 (madeI lo hi).hi], .int .i64 (madeI lo hi).e]) ∧ Ext w w' := by
 go_enter Tryz.func95, Tryz.ntmps95
 go_wp2
 all_goals
  refine bodyPost_ret (v := .tuple #[.agg #[.int .i64 (madeI lo hi).lo, .int .i64 (madeI lo hi).hi], .int .i64 (madeI lo hi).e]) ?_ rfl ⟨rfl, ?_⟩
  ·(try simp only [] at *)
   simp [results, Tryz.results95, go_sem, ↓IntWalk.iteOmega, madeI, *]
  ·repeat (first | exact Ext.refl _ | with_reducible assumption | refine Ext.alloc ?_ _ | refine Ext.setCell ?_ c_14 _ | refine Ext.drewN ?_ _ | refine Ext.drew ?_ | refine Ext.trans ?_ c_1)
theorem span_add (a b c d : Int) (w : World) :
    Calls Tryz.prog 188 #[.agg #[.int .i64 a, .int .i64 b], .agg #[.int .i64 c, .int .i64 d]] w fun e w' => e = .returned (.tuple #[.agg #[.int .i64 (addI a b c d).lo, .int .i64 (addI a b c d).hi], .int .i64 (addI a b c d).e]) ∧ Ext w w' := by
 go_enter Tryz.func188, Tryz.ntmps188
 go_wp2_with (first | (go_at_call 92; (with_reducible refine (check_2 _ _ _ _ _ _ c_48).mono ?_); rintro e w1 ⟨rfl, hb⟩; obtain ⟨_, _, hc, hf⟩ := hb.cells2; have hz := hb.size; (try simp only [World.size_alloc] at hz hc hf)) | (go_at_call 95; (with_reducible refine (span_made _ _ _).mono ?_); rintro e w1 ⟨rfl, hb⟩; obtain ⟨_, _, hc, hf⟩ := hb.cells2; have hz := hb.size; (try simp only [wsz] at hz hc hf)))
 all_goals
  refine bodyPost_ret (v := .tuple #[.agg #[.int .i64 (addI a b c d).lo, .int .i64 (addI a b c d).hi], .int .i64 (addI a b c d).e]) ?_ rfl ⟨rfl, ?_⟩
  ·(try simp only [bne_iff_ne, ne_eq, bne_eq_false_iff_eq] at *)
   simp [results, Tryz.results188, go_sem, ↓IntWalk.iteOmega, addI, *]
  ·repeat (first | exact Ext.refl _ | with_reducible assumption | refine Ext.alloc ?_ _ | refine Ext.setCell ?_ c_19 _ | refine Ext.drewN ?_ _ | refine Ext.drew ?_ | refine Ext.trans ?_ c_1)
theorem span_sub (a b c d : Int) (w : World) :
    Calls Tryz.prog 148 #[.agg #[.int .i64 a, .int .i64 b], .agg #[.int .i64 c, .int .i64 d]] w fun e w' => e = .returned (.tuple #[.agg #[.int .i64 (subI a b c d).lo, .int .i64 (subI a b c d).hi], .int .i64 (subI a b c d).e]) ∧ Ext w w' := by
 go_enter Tryz.func148, Tryz.ntmps148
 go_wp2_with (first | (go_at_call 92; (with_reducible refine (check_2 _ _ _ _ _ _ c_48).mono ?_); rintro e w1 ⟨rfl, hb⟩; obtain ⟨_, _, hc, hf⟩ := hb.cells2; have hz := hb.size; (try simp only [World.size_alloc] at hz hc hf)) | (go_at_call 95; (with_reducible refine (span_made _ _ _).mono ?_); rintro e w1 ⟨rfl, hb⟩; obtain ⟨_, _, hc, hf⟩ := hb.cells2; have hz := hb.size; (try simp only [wsz] at hz hc hf)))
 all_goals
  refine bodyPost_ret (v := .tuple #[.agg #[.int .i64 (subI a b c d).lo, .int .i64 (subI a b c d).hi], .int .i64 (subI a b c d).e]) ?_ rfl ⟨rfl, ?_⟩
  ·(try simp only [bne_iff_ne, ne_eq, bne_eq_false_iff_eq] at *)
   simp [results, Tryz.results148, go_sem, ↓IntWalk.iteOmega, subI, *]
  ·repeat (first | exact Ext.refl _ | with_reducible assumption | refine Ext.alloc ?_ _ | refine Ext.setCell ?_ c_19 _ | refine Ext.drewN ?_ _ | refine Ext.drew ?_ | refine Ext.trans ?_ c_1)
end Go.Proofs.YtogblocakccbgaaGreat
