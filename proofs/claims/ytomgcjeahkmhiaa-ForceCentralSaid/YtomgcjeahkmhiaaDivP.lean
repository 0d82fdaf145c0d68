/- Plain functions: quotients, roots. -/
import Derived.Test.YtomgcjeahkmhiaaSph
namespace Go.Proofs.Ytomgcjeahkmhiaa
open Go.RowKit

theorem ediv_le_pos {T c d : Int} (h : 0 ≤ T) (c0 : 0 < c) (hcd : c ≤ d) : T / d ≤ T / c := by
  have q : 0 ≤ T / d := Int.ediv_nonneg h (by omega)
  rw [Int.le_ediv_iff_mul_le c0]
  have h1 : T / d * c ≤ T / d * d := Int.mul_le_mul_of_nonneg_left hcd q
  have h2 : T / d * d ≤ T := Int.ediv_mul_le _ (by omega)
  omega
theorem ediv_le_neg {T c d : Int} (h : T < 0) (c0 : 0 < c) (hcd : c ≤ d) : T / c ≤ T / d := by
  have q : T / c < 0 := Int.ediv_neg_of_neg_of_pos h c0
  rw [Int.le_ediv_iff_mul_le (by omega)]
  have h1 : -(T / c) * c ≤ -(T / c) * d := Int.mul_le_mul_of_nonneg_left hcd (by omega)
  have h2 : T / c * c ≤ T := Int.ediv_mul_le _ (by omega)
  rw [Int.neg_mul, Int.neg_mul] at h1
  omega
theorem dn_min {T c d : Int} (c0 : 0 < c) (hcd : c ≤ d) : min (dnT T c) (dnT T d) = dnT T (if T < 0 then c else d) := by
  split
  · have := ediv_le_neg ‹_› c0 hcd
    unfold dnT; omega
  · have := ediv_le_pos (T := T) (by omega) c0 hcd
    unfold dnT; omega
theorem up_max {T c d : Int} (c0 : 0 < c) (hcd : c ≤ d) : max (upT T c) (upT T d) = upT T (if 0 < T then c else d) := by
  have h := dn_min (T := -T) c0 hcd
  have e : (if -T < 0 then c else d) = (if 0 < T then c else d) := by split <;> split <;> omega
  rw [e] at h
  unfold upT
  rw [← h]; omega
/-- A quotient by positive numbers. -/
def divP (a b c d : Int) : R3 := madeI (dnT (a * 1099511627776) (if a < 0 then c else d)) (upT (b * 1099511627776) (if 0 < b then c else d))
def divI (a b c d : Int) : R3 := if ck2 a b c d ≠ 0 then ⟨0, 0, ck2 a b c d⟩ else if c ≤ 0 ∧ 0 ≤ d then ⟨0, 0, 18⟩ else if d < 0 then divP (-b) (-a) (-d) (-c) else divP a b c d
theorem divP_prog {a b c d : Int} (c0 : 0 < c) (hcd : c ≤ d) : divP a b c d = madeI (min (dnT (a * 1099511627776) c) (dnT (a * 1099511627776) d)) (max (upT (b * 1099511627776) c) (upT (b * 1099511627776) d)) := by
  unfold divP
  rw [dn_min c0 hcd, up_max c0 hcd]
  have e1 : (if a * 1099511627776 < 0 then c else d) = (if a < 0 then c else d) := by split <;> split <;> omega
  have e2 : (if 0 < b * 1099511627776 then c else d) = (if 0 < b then c else d) := by split <;> split <;> omega
  rw [e1, e2]
theorem divI_Z (a b c d : Int) : (divI a b c d).Z := by
  unfold divI
  refine ifZ ?_
  split
  · intro _; exact ⟨rfl, rfl⟩
  · split <;> exact madeI_Z _ _
theorem divI_W (a b c d : Int) : (divI a b c d).W := by
  unfold divI
  refine ifW ?_
  split
  · exact ⟨I64_0, I64_0⟩
  · split <;> exact madeI_I64 _ _ (dn_I64 _ _) (up_I64 _ _)
/-- The root of a number of units, rounded down. -/
def IsRoot (x r : Int) : Prop := 0 ≤ r ∧ r * r ≤ x * 1099511627776 ∧ x * 1099511627776 < (r + 1) * (r + 1)
theorem sq_lt {r s : Int} (h0 : 0 ≤ s) (h : r * r < s * s) : r < s := by
  rcases Int.lt_or_le r s with h1 | h1
  · exact h1
  · have := Int.mul_le_mul h1 h1 h0 (by omega); omega
theorem IsRoot.one {x r s : Int} (h : IsRoot x r) (k : IsRoot x s) : r = s := by
  have h1 := sq_lt (r := r) (s := s + 1) (by have := k.1; omega) (by have := h.2.1; have := k.2.2; omega)
  have h2 := sq_lt (r := s) (s := r + 1) (by have := h.1; omega) (by have := k.2.1; have := h.2.2; omega)
  omega
noncomputable def rootI (x : Int) : Int := @Classical.epsilon Int ⟨0⟩ (IsRoot x)
theorem IsRoot.eq {x r : Int} (h : IsRoot x r) : r = rootI x := h.one (Classical.epsilon_spec (p := IsRoot x) ⟨r, h⟩)
theorem IsRoot.of {x r : Int} (h : IsRoot x r) : IsRoot x (rootI x) := h.eq ▸ h
noncomputable def sqrtI (a b : Int) : R3 := if ckI a b ≠ 0 then ⟨0, 0, ckI a b⟩ else if a < 0 then ⟨0, 0, 2⟩ else ⟨rootI a, if rootI b * rootI b = b * 1099511627776 then rootI b else rootI b + 1, 0⟩
def sc3I (a b : Int) : R3 := if ckI a b ≠ 0 then ⟨0, 0, ckI a b⟩ else madeI (dnT (a * 3) 1) (upT (b * 3) 1)

end Go.Proofs.Ytomgcjeahkmhiaa
