/- Intervals have the results for numbers that their arguments have: with fractions p / s, in units. -/
import Derived.Test.YtomgcjeahkmhiaaFc8
set_option linter.unusedSimpArgs false
set_option linter.unusedVariables false
namespace Go.Proofs.Ytomgcjeahkmhiaa
open Go.RowKit

theorem ltge (a b : Int) : a < b ∨ b ≤ a := by omega
theorem npl {a b c : Int} (h : b ≤ c) (ha : a ≤ 0) : a * c ≤ a * b := by
  rw [Int.mul_comm a c, Int.mul_comm a b]; exact Int.mul_le_mul_of_nonpos_right h ha
/-- The interval from lo to hi has p / s. -/
def Hs (lo hi p s : Int) : Prop := lo * s ≤ p ∧ p ≤ hi * s
theorem Hs.pt (a b : Int) (h : a ≤ b) : Hs a b a 1 := ⟨by omega, by omega⟩

theorem madeI_e0 {lo hi : Int} (h : (madeI lo hi).e = 0) : madeI lo hi = ⟨lo, hi, 0⟩ ∧ -2305843009213693952 ≤ lo ∧ hi ≤ 2305843009213693952 := by
  unfold madeI at h ⊢; split at h
  · exact absurd h (by decide)
  · rename_i k; rw [if_neg k]; exact ⟨rfl, by omega, by omega⟩
theorem dn_le {T d : Int} (d0 : 0 < d) (h : -2305843009213693952 ≤ dnT T d) : dnT T d * d ≤ T := by
  have e : dnT T d ≤ T / d := by unfold dnT at h ⊢; omega
  exact Int.le_trans (Int.mul_le_mul_of_nonneg_right e (by omega)) (Int.ediv_mul_le T (by omega))
theorem le_up {T d : Int} (d0 : 0 < d) (h : upT T d ≤ 2305843009213693952) : T ≤ upT T d * d := by
  have k := dn_le (T := -T) d0 (by unfold upT at h; omega)
  unfold upT
  rw [Int.neg_mul]; omega
theorem minmax_mul {x l u k : Int} (h1 : l ≤ x) (h2 : x ≤ u) : min (l * k) (u * k) ≤ x * k ∧ x * k ≤ max (l * k) (u * k) := by
  by_cases hk : 0 ≤ k
  · have a := Int.mul_le_mul_of_nonneg_right h1 hk
    have b := Int.mul_le_mul_of_nonneg_right h2 hk
    omega
  · have a := Int.mul_le_mul_of_nonpos_right h1 (by omega : k ≤ 0)
    have b := Int.mul_le_mul_of_nonpos_right h2 (by omega : k ≤ 0)
    omega
theorem four {a b c d x y : Int} (h1 : a ≤ x) (h2 : x ≤ b) (h3 : c ≤ y) (h4 : y ≤ d) :
    min4 (a * c) (a * d) (b * c) (b * d) ≤ x * y ∧ x * y ≤ max4 (a * c) (a * d) (b * c) (b * d) := by
  have m := minmax_mul (k := y) h1 h2
  have p := minmax_mul (k := a) h3 h4
  have q := minmax_mul (k := b) h3 h4
  rw [Int.mul_comm c a, Int.mul_comm d a, Int.mul_comm y a] at p
  rw [Int.mul_comm c b, Int.mul_comm d b, Int.mul_comm y b] at q
  unfold min4 max4; omega
theorem min4_scale {a b c d k : Int} (hk : 0 ≤ k) : min4 a b c d * k ≤ a * k ∧ min4 a b c d * k ≤ b * k ∧ min4 a b c d * k ≤ c * k ∧ min4 a b c d * k ≤ d * k :=
  ⟨Int.mul_le_mul_of_nonneg_right (by unfold min4; omega) hk, Int.mul_le_mul_of_nonneg_right (by unfold min4; omega) hk, Int.mul_le_mul_of_nonneg_right (by unfold min4; omega) hk, Int.mul_le_mul_of_nonneg_right (by unfold min4; omega) hk⟩
theorem max4_scale {a b c d k : Int} (hk : 0 ≤ k) : a * k ≤ max4 a b c d * k ∧ b * k ≤ max4 a b c d * k ∧ c * k ≤ max4 a b c d * k ∧ d * k ≤ max4 a b c d * k :=
  ⟨Int.mul_le_mul_of_nonneg_right (by unfold max4; omega) hk, Int.mul_le_mul_of_nonneg_right (by unfold max4; omega) hk, Int.mul_le_mul_of_nonneg_right (by unfold max4; omega) hk, Int.mul_le_mul_of_nonneg_right (by unfold max4; omega) hk⟩
abbrev U : Int := 1099511627776
theorem mul_hs {a b c d p s q t : Int} (h : (mulI a b c d).e = 0) (h1 : Hs a b p s) (h2 : Hs c d q t) (s0 : 0 < s) (t0 : 0 < t) :
    Hs (mulI a b c d).lo (mulI a b c d).hi (p * q) (s * t * U) := by
  unfold mulI at h ⊢
  split at h
  · rename_i k; exact absurd h k
  · rename_i k
    rw [if_neg k]
    obtain ⟨e, l1, l2⟩ := madeI_e0 h
    rw [e]
    have d1 := dn_le (by decide) l1
    have d2 := le_up (by decide) l2
    have st : 0 < s * t := Int.mul_pos s0 t0
    have f := four h1.1 h1.2 h2.1 h2.2
    have g : ∀ x y : Int, x * s * (y * t) = x * y * (s * t) := fun x y => by grind
    rw [g, g, g, g] at f
    have m1 := min4_scale (a := a * c) (b := a * d) (c := b * c) (d := b * d) (k := s * t) (by omega)
    have m2 := max4_scale (a := a * c) (b := a * d) (c := b * c) (d := b * d) (k := s * t) (by omega)
    have n1 : min4 (a * c) (a * d) (b * c) (b * d) * (s * t) ≤ p * q := by
      refine Int.le_trans ?_ f.1
      generalize min4 (a * c) (a * d) (b * c) (b * d) * (s * t) = M at m1
      unfold min4; omega
    have n2 : p * q ≤ max4 (a * c) (a * d) (b * c) (b * d) * (s * t) := by
      refine Int.le_trans f.2 ?_
      generalize max4 (a * c) (a * d) (b * c) (b * d) * (s * t) = M at m2
      unfold max4; omega
    have o1 := Int.mul_le_mul_of_nonneg_right d1 (by omega : 0 ≤ s * t)
    have o2 := Int.mul_le_mul_of_nonneg_right d2 (by omega : 0 ≤ s * t)
    refine ⟨?_, ?_⟩
    · dsimp only
      have r : ∀ z : Int, z * (s * t * U) = z * 1099511627776 * (s * t) := fun z => by unfold U; grind
      rw [r]; exact Int.le_trans o1 n1
    · dsimp only
      have r : ∀ z : Int, z * (s * t * U) = z * 1099511627776 * (s * t) := fun z => by unfold U; grind
      rw [r]; exact Int.le_trans n2 o2
theorem w64_of_made {x y : Int} (h : I64 x) : wrap64 x = x := w64_in h
theorem add_hs {a b c d p s q t : Int} (h : (addI a b c d).e = 0) (h1 : Hs a b p s) (h2 : Hs c d q t) (s0 : 0 < s) (t0 : 0 < t) :
    Hs (addI a b c d).lo (addI a b c d).hi (p * t + q * s) (s * t) := by
  unfold addI at h ⊢
  split at h
  · rename_i k; exact absurd h k
  · rename_i k
    rw [if_neg k]
    obtain ⟨k1, k2⟩ := ck2_ok (Decidable.not_not.1 k)
    obtain ⟨a1, a2, a3⟩ := ckI_ok k1
    obtain ⟨c1, c2, c3⟩ := ckI_ok k2
    rw [w64_in (x := a + c) (by omega), w64_in (x := b + d) (by omega)] at h ⊢
    obtain ⟨e, l1, l2⟩ := madeI_e0 h
    rw [e]
    have o1 := Int.mul_le_mul_of_nonneg_right h1.1 (by omega : 0 ≤ t)
    have o2 := Int.mul_le_mul_of_nonneg_right h1.2 (by omega : 0 ≤ t)
    have o3 := Int.mul_le_mul_of_nonneg_right h2.1 (by omega : 0 ≤ s)
    have o4 := Int.mul_le_mul_of_nonneg_right h2.2 (by omega : 0 ≤ s)
    refine ⟨?_, ?_⟩ <;> dsimp only
    · have r : (a + c) * (s * t) = a * s * t + c * t * s := by grind
      rw [r]; omega
    · have r : (b + d) * (s * t) = b * s * t + d * t * s := by grind
      rw [r]; omega
theorem sub_hs {a b c d p s q t : Int} (h : (subI a b c d).e = 0) (h1 : Hs a b p s) (h2 : Hs c d q t) (s0 : 0 < s) (t0 : 0 < t) :
    Hs (subI a b c d).lo (subI a b c d).hi (p * t - q * s) (s * t) := by
  unfold subI at h ⊢
  split at h
  · rename_i k; exact absurd h k
  · rename_i k
    rw [if_neg k]
    obtain ⟨k1, k2⟩ := ck2_ok (Decidable.not_not.1 k)
    obtain ⟨a1, a2, a3⟩ := ckI_ok k1
    obtain ⟨c1, c2, c3⟩ := ckI_ok k2
    rw [w64_in (x := a - d) (by omega), w64_in (x := b - c) (by omega)] at h ⊢
    obtain ⟨e, l1, l2⟩ := madeI_e0 h
    rw [e]
    have o1 := Int.mul_le_mul_of_nonneg_right h1.1 (by omega : 0 ≤ t)
    have o2 := Int.mul_le_mul_of_nonneg_right h1.2 (by omega : 0 ≤ t)
    have o3 := Int.mul_le_mul_of_nonneg_right h2.1 (by omega : 0 ≤ s)
    have o4 := Int.mul_le_mul_of_nonneg_right h2.2 (by omega : 0 ≤ s)
    refine ⟨?_, ?_⟩ <;> dsimp only
    · have r : (a - d) * (s * t) = a * s * t - d * t * s := by grind
      rw [r]; omega
    · have r : (b - c) * (s * t) = b * s * t - c * t * s := by grind
      rw [r]; omega
theorem neg_hs {a b p s : Int} (h : (negI a b).e = 0) (h1 : Hs a b p s) : Hs (negI a b).lo (negI a b).hi (-p) s := by
  unfold negI at h ⊢
  split at h
  · rename_i k; exact absurd h k
  · rename_i k
    rw [if_neg k]
    obtain ⟨a1, a2, a3⟩ := ckI_ok (Decidable.not_not.1 k)
    rw [w64_in (x := -b) (by omega), w64_in (x := -a) (by omega)]
    refine ⟨?_, ?_⟩ <;> dsimp only <;> rw [Int.neg_mul] <;> have := h1.1 <;> have := h1.2 <;> omega
theorem sc3_hs {a b p s : Int} (h : (scI a b 3 1).e = 0) (h1 : Hs a b p s) (s0 : 0 < s) : Hs (scI a b 3 1).lo (scI a b 3 1).hi (p * 3) s := by
  unfold scI at h ⊢
  split at h
  · rename_i k; exact absurd h k
  · rename_i k
    rw [if_neg k]
    obtain ⟨e, l1, l2⟩ := madeI_e0 h
    rw [e]
    have d1 := dn_le (by decide) l1
    have d2 := le_up (by decide) l2
    rw [Int.mul_one] at d1 d2
    have o1 := Int.mul_le_mul_of_nonneg_right d1 (by omega : 0 ≤ s)
    have o2 := Int.mul_le_mul_of_nonneg_right d2 (by omega : 0 ≤ s)
    have r : ∀ z : Int, z * 3 * s = z * s * 3 := fun z => by grind
    rw [r] at o1 o2
    have := h1.1; have := h1.2
    refine ⟨?_, ?_⟩ <;> dsimp only <;> omega
/-- A quotient by what is positive. -/
theorem divP_hs {a b c d p s q t : Int} (h : (divP a b c d).e = 0) (c0 : 0 < c) (cd : c ≤ d) (h1 : Hs a b p s) (h2 : Hs c d q t) (s0 : 0 < s) (t0 : 0 < t) (q0 : 0 < q) :
    Hs (divP a b c d).lo (divP a b c d).hi (p * t * U) (s * q) := by
  unfold divP at h ⊢
  obtain ⟨e, l1, l2⟩ := madeI_e0 h
  rw [e]
  have d1 := dn_le (T := a * 1099511627776) (d := if a < 0 then c else d) (by split <;> omega) l1
  have d2 := le_up (T := b * 1099511627776) (d := if 0 < b then c else d) (by split <;> omega) l2
  refine ⟨?_, ?_⟩ <;> dsimp only
  · generalize dnT (a * 1099511627776) (if a < 0 then c else d) = L at d1 l1
    have hs1 := h1.1
    -- L * q ≤ a * U * t
    have k : L * q ≤ a * U * t := by
      by_cases ha : a < 0
      · rw [if_pos ha] at d1
        have L0 : L < 0 := by
          rcases ltge L 0 with g | g
          · exact g
          · have := Int.mul_nonneg g (by omega : 0 ≤ c); omega
        have x1 := npl h2.1 (by omega : L ≤ 0)
        have x2 := Int.mul_le_mul_of_nonneg_right d1 (by omega : 0 ≤ t)
        have r : L * (c * t) = L * c * t := by grind
        rw [r] at x1
        unfold U; omega
      · rw [if_neg ha] at d1
        rcases ltge L 0 with g | g
        · have x1 := Int.mul_nonpos_of_nonpos_of_nonneg (by omega : L ≤ 0) (by omega : 0 ≤ q)
          have x2 : 0 ≤ a * U * t := Int.mul_nonneg (Int.mul_nonneg (by omega) (by unfold U; omega)) (by omega)
          omega
        · have x1 := Int.mul_le_mul_of_nonneg_left h2.2 g
          have x2 := Int.mul_le_mul_of_nonneg_right d1 (by omega : 0 ≤ t)
          have r : L * (d * t) = L * d * t := by grind
          rw [r] at x1
          unfold U; omega
    have y1 := Int.mul_le_mul_of_nonneg_right k (by omega : 0 ≤ s)
    have y2 := Int.mul_le_mul_of_nonneg_right hs1 (Int.mul_nonneg (by omega : 0 ≤ t) (by unfold U; omega) : 0 ≤ t * U)
    have r1 : L * (s * q) = L * q * s := by grind
    have r2 : a * s * (t * U) = a * U * t * s := by grind
    have r3 : p * (t * U) = p * t * U := by grind
    rw [r1]; rw [r2, r3] at y2; omega
  · generalize upT (b * 1099511627776) (if 0 < b then c else d) = L at d2 l2
    have hs1 := h1.2
    have k : b * U * t ≤ L * q := by
      by_cases hb : 0 < b
      · rw [if_pos hb] at d2
        have L0 : 0 < L := by
          rcases ltge 0 L with g | g
          · exact g
          · have := Int.mul_nonpos_of_nonpos_of_nonneg g (by omega : 0 ≤ c); omega
        have x1 := Int.mul_le_mul_of_nonneg_left h2.1 (by omega : 0 ≤ L)
        have x2 := Int.mul_le_mul_of_nonneg_right d2 (by omega : 0 ≤ t)
        have r : L * (c * t) = L * c * t := by grind
        rw [r] at x1
        unfold U; omega
      · rw [if_neg hb] at d2
        rcases ltge 0 L with g | g
        · have x1 := Int.mul_nonneg (by omega : 0 ≤ L) (by omega : 0 ≤ q)
          have x2 : b * U * t ≤ 0 := Int.mul_nonpos_of_nonpos_of_nonneg (Int.mul_nonpos_of_nonpos_of_nonneg (by omega) (by unfold U; omega)) (by omega)
          omega
        · have x1 := npl h2.2 g
          have x2 := Int.mul_le_mul_of_nonneg_right d2 (by omega : 0 ≤ t)
          have r : L * (d * t) = L * d * t := by grind
          rw [r] at x1
          unfold U; omega
    have y1 := Int.mul_le_mul_of_nonneg_right k (by omega : 0 ≤ s)
    have y2 := Int.mul_le_mul_of_nonneg_right hs1 (Int.mul_nonneg (by omega : 0 ≤ t) (by unfold U; omega) : 0 ≤ t * U)
    have r1 : L * (s * q) = L * q * s := by grind
    have r2 : b * s * (t * U) = b * U * t * s := by grind
    have r3 : p * (t * U) = p * t * U := by grind
    rw [r1]; rw [r2, r3] at y2; omega
theorem div_hs {a b c d p s q t : Int} (h : (divI a b c d).e = 0) (c0 : 0 < c) (h1 : Hs a b p s) (h2 : Hs c d q t) (s0 : 0 < s) (t0 : 0 < t) (q0 : 0 < q) :
    Hs (divI a b c d).lo (divI a b c d).hi (p * t * U) (s * q) := by
  have k2 : ck2 a b c d = 0 := by
    unfold divI at h; split at h
    · rename_i k; exact absurd h k
    · rename_i k; exact Decidable.not_not.1 k
  have cd := (ckI_ok (ck2_ok k2).2).1
  have e : divI a b c d = divP a b c d := by unfold divI; rw [if_neg (by simpa using k2), if_neg (by omega), if_neg (by omega)]
  rw [e] at h ⊢
  exact divP_hs h c0 cd h1 h2 s0 t0 q0
end Go.Proofs.Ytomgcjeahkmhiaa
