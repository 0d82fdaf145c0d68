/- Plain functions on intervals: what both texts calculate. -/
import Derived.Laws.Bits64
import Derived.Laws.BitsLemmas
import Derived.WalkKit
namespace Go.Proofs.Ytomgcjeahkmhiaa
open Go.RowKit

/-- An int64. -/
def I64 (x : Int) : Prop := -9223372036854775808 ≤ x ∧ x < 9223372036854775808

/-- A result: an interval and an error. -/
structure R3 where
  lo : Int
  hi : Int
  e : Int

def ckI (lo hi : Int) : Int := if hi < lo ∨ lo < -2305843009213693952 ∨ 2305843009213693952 < hi then 8 else 0
def ck2 (a b c d : Int) : Int := if ckI a b ≠ 0 then ckI a b else ckI c d
def madeI (lo hi : Int) : R3 := if lo < -2305843009213693952 ∨ 2305843009213693952 < hi then ⟨0, 0, 16⟩ else ⟨lo, hi, 0⟩
def addI (a b c d : Int) : R3 := if ck2 a b c d ≠ 0 then ⟨0, 0, ck2 a b c d⟩ else madeI (wrap64 (a + c)) (wrap64 (b + d))
def subI (a b c d : Int) : R3 := if ck2 a b c d ≠ 0 then ⟨0, 0, ck2 a b c d⟩ else madeI (wrap64 (a - d)) (wrap64 (b - c))
/-- A quotient rounded down, cut at 2^62. -/
def dnT (T d : Int) : Int := max (-4611686018427387904) (min (T / d) 4611686018427387904)
def upT (T d : Int) : Int := - dnT (-T) d
def min4 (a b c d : Int) : Int := min (min (min a b) c) d
def max4 (a b c d : Int) : Int := max (max (max a b) c) d
def mulI (a b c d : Int) : R3 := if ck2 a b c d ≠ 0 then ⟨0, 0, ck2 a b c d⟩ else
  madeI (dnT (min4 (a * c) (a * d) (b * c) (b * d)) 1099511627776) (upT (max4 (a * c) (a * d) (b * c) (b * d)) 1099511627776)
def absI (a b : Int) : R3 := if ckI a b ≠ 0 then ⟨0, 0, ckI a b⟩ else if 0 ≤ a then ⟨a, b, 0⟩ else if b ≤ 0 then ⟨wrap64 (-b), wrap64 (-a), 0⟩ else ⟨0, max (wrap64 (-a)) b, 0⟩
def sqI (a b : Int) : R3 := if (absI a b).e ≠ 0 then ⟨0, 0, (absI a b).e⟩ else
  madeI (dnT ((absI a b).lo * (absI a b).lo) 1099511627776) (upT ((absI a b).hi * (absI a b).hi) 1099511627776)
def negI (a b : Int) : R3 := if ckI a b ≠ 0 then ⟨0, 0, ckI a b⟩ else ⟨wrap64 (-b), wrap64 (-a), 0⟩

theorem ckI_ok {a b : Int} (h : ckI a b = 0) : a ≤ b ∧ -2305843009213693952 ≤ a ∧ b ≤ 2305843009213693952 := by
  unfold ckI at h; split at h
  · simp at h
  · omega
theorem ckI_of {a b : Int} (h : a ≤ b ∧ -2305843009213693952 ≤ a ∧ b ≤ 2305843009213693952) : ckI a b = 0 := by
  unfold ckI; rw [if_neg (by omega)]
theorem ck2_ok {a b c d : Int} (h : ck2 a b c d = 0) : ckI a b = 0 ∧ ckI c d = 0 := by
  unfold ck2 at h; split at h
  · contradiction
  · exact ⟨by simpa using ‹¬ ckI a b ≠ 0›, h⟩
theorem w64_in {x : Int} (h : -9223372036854775808 ≤ x ∧ x < 9223372036854775808) : wrap64 x = x := by
  unfold wrap64; omega
theorem w64_eq {x y : Int} (h : (x - y) % 18446744073709551616 = 0) (hy : -9223372036854775808 ≤ y ∧ y < 9223372036854775808) : wrap64 x = y := by
  unfold wrap64; omega

theorem abs_mul_bound {a b : Int} (ha : I64 a) (hb : I64 b) : -85070591730234615865843651857942052864 ≤ a * b ∧ a * b ≤ 85070591730234615865843651857942052864 := by
  obtain ⟨a1, a2⟩ := ha
  obtain ⟨b1, b2⟩ := hb
  have h1 : a.natAbs ≤ 9223372036854775808 := by omega
  have h2 : b.natAbs ≤ 9223372036854775808 := by omega
  have h3 : (a * b).natAbs ≤ 9223372036854775808 * 9223372036854775808 := by
    rw [Int.natAbs_mul]; exact Nat.mul_le_mul h1 h2
  omega

theorem w64_mod (x : Int) : (wrap64 x - x) % 18446744073709551616 = 0 ∧ -9223372036854775808 ≤ wrap64 x ∧ wrap64 x < 9223372036854775808 := by
  unfold wrap64; omega

theorem mul_shift (a b x y M i j : Int) (hx : x = a + i * M) (hy : y = b + j * M) : x * y = a * b + M * (a * j + i * b + i * j * M) := by
  subst hx hy; grind

/-- The upper word of a product taken without signs, and what the signs take away. -/
theorem times_hi (a b x y : Int) (ha : I64 a) (hb : I64 b) (hx : x = a % 18446744073709551616) (hy : y = b % 18446744073709551616) :
    x * y % 18446744073709551616 = a * b % 18446744073709551616 ∧
    (a < 0 → b < 0 → wrap64 (wrap64 (wrap64 (x * y / 18446744073709551616) - b) - a) = a * b / 18446744073709551616) ∧
    (a < 0 → 0 ≤ b → wrap64 (wrap64 (x * y / 18446744073709551616) - b) = a * b / 18446744073709551616) ∧
    (0 ≤ a → b < 0 → wrap64 (wrap64 (x * y / 18446744073709551616) - a) = a * b / 18446744073709551616) ∧
    (0 ≤ a → 0 ≤ b → wrap64 (x * y / 18446744073709551616) = a * b / 18446744073709551616) := by
  have hp := abs_mul_bound ha hb
  obtain ⟨a1, a2⟩ := ha
  obtain ⟨b1, b2⟩ := hb
  have ex : ∃ i : Int, x = a + i * 18446744073709551616 ∧ (a < 0 → i = 1) ∧ (0 ≤ a → i = 0) := ⟨if a < 0 then 1 else 0, by split <;> omega, fun h => if_pos h, fun h => if_neg (by omega)⟩
  have ey : ∃ i : Int, y = b + i * 18446744073709551616 ∧ (b < 0 → i = 1) ∧ (0 ≤ b → i = 0) := ⟨if b < 0 then 1 else 0, by split <;> omega, fun h => if_pos h, fun h => if_neg (by omega)⟩
  obtain ⟨i, e1, i1, i0⟩ := ex
  obtain ⟨j, e2, j1, j0⟩ := ey
  have e := mul_shift a b x y 18446744073709551616 i j e1 e2
  have f1 : x * y % 18446744073709551616 = a * b % 18446744073709551616 := by rw [e, Int.add_mul_emod_self_left]
  have f2 : x * y / 18446744073709551616 = a * b / 18446744073709551616 + (a * j + i * b + i * j * 18446744073709551616) := by
    rw [e, Int.add_mul_ediv_left _ _ (by omega)]
  obtain ⟨P, hP⟩ : ∃ P, P = a * b := ⟨_, rfl⟩
  rw [← hP] at hp f2
  rw [← hP] at ⊢
  refine ⟨by rw [f1, hP], fun h1 h2 => ?_, fun h1 h2 => ?_, fun h1 h2 => ?_, fun h1 h2 => ?_⟩
  · rw [i1 h1, j1 h2] at f2
    rw [f2]; unfold wrap64; omega
  · rw [i1 h1, j0 h2] at f2
    rw [f2]; unfold wrap64; omega
  · rw [i0 h1, j1 h2] at f2
    rw [f2]; unfold wrap64; omega
  · rw [i0 h1, j0 h2] at f2
    rw [f2]; unfold wrap64; omega

theorem neg_div (T d : Int) (d0 : 0 < d) : -((-T) / d) = if 0 < T % d then T / d + 1 else T / d := by
  have h := Int.mul_ediv_add_emod T d
  have h1 := Int.emod_nonneg T (show d ≠ 0 by omega)
  have h2 := Int.emod_lt_of_pos T d0
  obtain ⟨q, hq⟩ : ∃ q, q = T / d := ⟨_, rfl⟩
  obtain ⟨r, hr⟩ : ∃ r, r = T % d := ⟨_, rfl⟩
  rw [← hq, ← hr] at h
  rw [← hr] at h1 h2
  rw [← hq, ← hr]
  split
  · have e : -T = (d - r) + d * (-q - 1) := by rw [← h, Int.mul_sub, Int.mul_neg]; omega
    rw [e, Int.add_mul_ediv_left _ _ (by omega), Int.ediv_eq_zero_of_lt (by omega) (by omega)]; omega
  · have e : -T = d * (-q) := by rw [← h, Int.mul_neg]; omega
    rw [e, Int.mul_ediv_cancel_left _ (by omega)]; omega

theorem upT_eq (T d : Int) (h0 : 0 ≤ T) (d0 : 0 < d) : upT T d = min (if 0 < T % d then T / d + 1 else T / d) 4611686018427387904 := by
  have h := neg_div T d d0
  have hq : 0 ≤ T / d := Int.ediv_nonneg h0 (by omega)
  unfold upT dnT
  split at h <;> omega

theorem dnT_eq (T d : Int) (h0 : 0 ≤ T) (d0 : 0 < d) : dnT T d = min (T / d) 4611686018427387904 := by
  have hq : 0 ≤ T / d := Int.ediv_nonneg h0 (by omega)
  unfold dnT; omega

theorem dnT_range (T d : Int) : -4611686018427387904 ≤ dnT T d ∧ dnT T d ≤ 4611686018427387904 := by unfold dnT; omega
theorem upT_range (T d : Int) : -4611686018427387904 ≤ upT T d ∧ upT T d ≤ 4611686018427387904 := by have := dnT_range (-T) d; unfold upT; omega
theorem upT_neg (T d : Int) : upT (-T) d = - dnT T d := by unfold upT; rw [Int.neg_neg]
theorem dnT_neg (T d : Int) : dnT (-T) d = - upT T d := by unfold upT; omega

/-- A first word that is not below the divisor. -/
theorem big_quot {T d h l : Int} (eT : T = h * 18446744073709551616 + l) (hl : 0 ≤ l) (hd : d ≤ h) (d0 : 0 < d) : 18446744073709551616 ≤ T / d := by
  rw [Int.le_ediv_iff_mul_le d0, eT]
  have : 18446744073709551616 * d ≤ 18446744073709551616 * h := Int.mul_le_mul_of_nonneg_left hd (by omega)
  omega
theorem small_quot {T d h l : Int} (eT : T = h * 18446744073709551616 + l) (hh : 0 ≤ h) (hl : 0 ≤ l) (hl2 : l < 18446744073709551616) (hd : h < d) : 0 ≤ T / d ∧ T / d < 18446744073709551616 ∧ 0 ≤ T % d ∧ T % d < d := by
  refine ⟨Int.ediv_nonneg (by omega) (by omega), ?_, Int.emod_nonneg _ (by omega), Int.emod_lt_of_pos _ (by omega)⟩
  rw [Int.ediv_lt_iff_lt_mul (by omega), eT]
  have : (h + 1) * 18446744073709551616 ≤ d * 18446744073709551616 := Int.mul_le_mul_of_nonneg_right (by omega) (by omega)
  omega

end Go.Proofs.Ytomgcjeahkmhiaa
