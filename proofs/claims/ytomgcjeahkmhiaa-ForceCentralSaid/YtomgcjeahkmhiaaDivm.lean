/- The plain arithmetic of a division of two words by one. -/
import Derived.Laws.Bits64b
import Derived.Lib.BitFns
import Derived.Lib.ItoaNum
import Derived.Laws.Bits64
namespace Go.Proofs.Ytomgcjeahkmhiaa

/-- One step: what the loop's guess has to do with the quotient. -/
theorem step_stop {Y v1 v0 u c q r : Nat} (hY : Y = v1 * 4294967296 + v0) (hu : q * v1 + r = u) (hle : (u * 4294967296 + c) / Y ≤ q) (h0 : 0 < Y) (ht : q * v0 ≤ 4294967296 * r + c) :
    q = (u * 4294967296 + c) / Y := by
  refine Nat.le_antisymm ?_ hle
  rw [Nat.le_div_iff_mul_le h0]
  have : q * Y = q * v1 * 4294967296 + q * v0 := by rw [hY, Nat.mul_add, Nat.mul_assoc]
  rw [this, ← hu]; omega

theorem step_more {Y v1 v0 u c q r : Nat} (hY : Y = v1 * 4294967296 + v0) (hu : q * v1 + r = u) (h0 : 0 < Y) (ht : 4294967296 * r + c < q * v0) :
    (u * 4294967296 + c) / Y ≤ q - 1 := by
  have h1 : (u * 4294967296 + c) / Y < q := by
    rw [Nat.div_lt_iff_lt_mul h0]
    have : q * Y = q * v1 * 4294967296 + q * v0 := by rw [hY, Nat.mul_add, Nat.mul_assoc]
    rw [this, ← hu]; omega
  omega

theorem step_big {Y u c q : Nat} (h0 : 0 < Y) (hu : u < Y) (hc : c < 4294967296) (hq : 4294967296 ≤ q) : (u * 4294967296 + c) / Y ≤ q - 1 := by
  have h1 : (u * 4294967296 + c) / Y < 4294967296 := by
    rw [Nat.div_lt_iff_lt_mul h0]
    have : (u + 1) * 4294967296 ≤ Y * 4294967296 := Nat.mul_le_mul_right _ hu
    rw [Nat.mul_comm 4294967296 Y]; omega
  omega

theorem step_break {Y v1 v0 u c q r : Nat} (hY : Y = v1 * 4294967296 + v0) (h0 : 0 < Y) (hv0 : v0 < 4294967296) (hu : u < Y) (hq : q * v1 + r = u) (hle : (u * 4294967296 + c) / Y ≤ q) (hr : 4294967296 ≤ r) :
    q = (u * 4294967296 + c) / Y := by
  refine step_stop hY hq hle h0 ?_
  have h1 : q < 4294967296 := by
    refine Nat.lt_of_not_le fun hn => ?_
    have : 4294967296 * v1 ≤ q * v1 := Nat.mul_le_mul_right _ hn
    omega
  have h2 : q * v0 ≤ q * 4294967296 := Nat.mul_le_mul_left _ (Nat.le_of_lt hv0)
  omega

theorem step_first {Y v1 v0 u c : Nat} (hY : Y = v1 * 4294967296 + v0) (h0 : 0 < v1) (hc : c < 4294967296) : (u * 4294967296 + c) / Y ≤ u / v1 := by
  rw [hY, Nat.le_div_iff_mul_le h0]
  have h1 := Nat.div_mul_le_self (u * 4294967296 + c) (v1 * 4294967296 + v0)
  generalize (u * 4294967296 + c) / (v1 * 4294967296 + v0) = q at h1 ⊢
  rw [Nat.mul_add, ← Nat.mul_assoc] at h1
  omega

theorem step_down {q v1 r u : Nat} (hq : q * v1 + r = u) (h : 1 ≤ q) : (q - 1) * v1 + (r + v1) = u := by
  obtain ⟨k, rfl⟩ : ∃ k, q = k + 1 := ⟨q - 1, by omega⟩
  rw [Nat.add_mul] at hq
  simp; omega

theorem pow_split (s : Nat) (hs : s ≤ 64) : 2 ^ (64 - s) * 2 ^ s = 18446744073709551616 := by
  rw [← Nat.pow_add, Nat.sub_add_cancel hs]

/-- The shifted numbers. -/
theorem norm_facts (hi lo y : Nat) (hy0 : 0 < y) (hy : y < 18446744073709551616) (hh : hi < y) (hl : lo < 18446744073709551616) :
    ∃ s : Nat, s < 64 ∧ Lib.bitLen y + s = 64 ∧ 9223372036854775808 ≤ y * 2 ^ s ∧ y * 2 ^ s < 18446744073709551616 ∧
      (hi * 2 ^ s) ||| (lo / 2 ^ (64 - s)) = hi * 2 ^ s + lo / 2 ^ (64 - s) ∧ hi * 2 ^ s + lo / 2 ^ (64 - s) < y * 2 ^ s ∧ hi * 2 ^ s < 18446744073709551616 ∧
      (hi * 2 ^ s + lo / 2 ^ (64 - s)) * 18446744073709551616 + lo * 2 ^ s % 18446744073709551616 = (hi * 18446744073709551616 + lo) * 2 ^ s := by
  have hb := Lib.bitLenAux_bounds 64 y (by simpa using hy) (by omega)
  have hL : Lib.bitLen y ≤ 64 := Lib.bitLen_le y 64 (by omega) (by simpa using hy)
  obtain ⟨b1, b2, b3⟩ := hb
  change 1 ≤ Lib.bitLen y at b1
  change 2 ^ (Lib.bitLen y - 1) ≤ y at b2
  change y < 2 ^ Lib.bitLen y at b3
  refine ⟨64 - Lib.bitLen y, by omega, by omega, ?_⟩
  generalize hs : 64 - Lib.bitLen y = s
  have hs' : Lib.bitLen y = 64 - s := by omega
  have hp := pow_split s (by omega)
  rw [hs'] at b2 b3
  have hpos : 0 < 2 ^ s := Nat.two_pow_pos s
  have e1 : 9223372036854775808 ≤ y * 2 ^ s := by
    have h2 : 2 ^ (64 - s) = 2 ^ (64 - s - 1) * 2 := by
      rw [← Nat.pow_succ]; congr 1; omega
    have h3 : 2 ^ (64 - s - 1) * 2 ^ s ≤ y * 2 ^ s := Nat.mul_le_mul_right _ b2
    rw [h2, Nat.mul_right_comm] at hp
    omega
  have e2 : y * 2 ^ s < 18446744073709551616 := by
    rw [← hp]; exact Nat.mul_lt_mul_of_pos_right b3 hpos
  have hlo : lo / 2 ^ (64 - s) < 2 ^ s := by
    rw [Nat.div_lt_iff_lt_mul (Nat.two_pow_pos _), Nat.mul_comm, hp]; exact hl
  have hlo2 : lo * 2 ^ s / 18446744073709551616 = lo / 2 ^ (64 - s) := by
    rw [← hp]; exact Nat.mul_div_mul_right _ _ hpos
  have e5 : (hi * 2 ^ s + lo / 2 ^ (64 - s)) * 18446744073709551616 + lo * 2 ^ s % 18446744073709551616 = (hi * 18446744073709551616 + lo) * 2 ^ s := by
    have := Nat.div_add_mod (lo * 2 ^ s) 18446744073709551616
    rw [hlo2] at this
    rw [Nat.add_mul, Nat.add_mul, Nat.mul_right_comm hi]; omega
  have e4 : hi * 2 ^ s + lo / 2 ^ (64 - s) < y * 2 ^ s := by
    have h1 : (hi + 1) * 2 ^ s ≤ y * 2 ^ s := Nat.mul_le_mul_right _ hh
    rw [Nat.add_mul] at h1; omega
  refine ⟨e1, e2, ?_, e4, by omega, e5⟩
  have := Nat.two_pow_add_eq_or_of_lt hlo hi
  rw [Nat.mul_comm hi]
  exact this.symm

theorem wrapN (a : Nat) : IntKind.u64.wrap (a : Int) = ((a % 18446744073709551616 : Nat) : Int) := by rw [IntKind.wrap_u64]; omega
theorem wrapL (a : Nat) (ha : a < 18446744073709551616) : IntKind.u64.wrap (a : Int) = (a : Int) := by rw [IntKind.wrap_u64]; omega
/-- What is left, reckoned modulo 2^64. -/
theorem wrap_rest (u c q Y R : Nat) (h : u * 4294967296 + c = q * Y + R) (hR : R < 18446744073709551616) :
    IntKind.u64.wrap (IntKind.u64.wrap (IntKind.u64.wrap ((u : Int) * 4294967296) + (c : Int)) - IntKind.u64.wrap ((q : Int) * (Y : Int))) = (R : Int) := by
  have h' : (u : Int) * 4294967296 + c = (q : Int) * Y + R := by
    have h2 : ((u * 4294967296 + c : Nat) : Int) = ((q * Y + R : Nat) : Int) := by rw [h]
    rw [Int.natCast_add, Int.natCast_mul, Int.natCast_add, Int.natCast_mul] at h2
    exact h2
  rw [IntKind.wrap_u64, IntKind.wrap_u64, IntKind.wrap_u64, IntKind.wrap_u64]
  generalize (q : Int) * (Y : Int) = p at h' ⊢
  omega

theorem maskN (a : Nat) (ha : a < 18446744073709551616) : bits .and .u64 (a : Int) 4294967295 = ((a % 4294967296 : Nat) : Int) := by
  have h := bits_and_u64_nat a 4294967295 ha (by omega)
  have e : a &&& 4294967295 = a % 4294967296 := Nat.and_two_pow_sub_one_eq_mod a 32
  rw [e] at h
  exact h

#print axioms norm_facts
end Go.Proofs.Ytomgcjeahkmhiaa
