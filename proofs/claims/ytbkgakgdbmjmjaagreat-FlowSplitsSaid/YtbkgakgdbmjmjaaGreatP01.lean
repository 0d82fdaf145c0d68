/- Plain functions on intervals: what both texts calculate. -/
import Derived.Test.YtbkgakgdbmjmjaaGreatP00
set_option linter.unusedSimpArgs false
set_option linter.unusedVariables false
namespace Go.Proofs.YtbkgakgdbmjmjaaGreat
open Go.RowKit
def I64 (x : Int) : Prop := -9223372036854775808 ≤ x ∧ x < 9223372036854775808
structure R3 where
 lo : Int
 hi : Int
 e : Int
def ckI (lo hi : Int) : Int := if hi < lo ∨ lo < -2305843009213693952 ∨ 2305843009213693952 < hi then 8 else 0
def ck2 (a b c d : Int) : Int := if ckI a b ≠ 0 then ckI a b else ckI c d
def madeI (lo hi : Int) : R3 := if lo < -2305843009213693952 ∨ 2305843009213693952 < hi then ⟨0, 0, 16⟩ else ⟨lo, hi, 0⟩
def addI (a b c d : Int) : R3 := if ck2 a b c d ≠ 0 then ⟨0, 0, ck2 a b c d⟩ else madeI (wrap64 (a + c)) (wrap64 (b + d))
def subI (a b c d : Int) : R3 := if ck2 a b c d ≠ 0 then ⟨0, 0, ck2 a b c d⟩ else madeI (wrap64 (a - d)) (wrap64 (b - c))
def dnT (T d : Int) : Int := max (-4611686018427387904) (min (T / d) 4611686018427387904)
def upT (T d : Int) : Int := - dnT (-T) d
def min4 (a b c d : Int) : Int := min (min (min a b) c) d
def max4 (a b c d : Int) : Int := max (max (max a b) c) d
def mulI (a b c d : Int) : R3 := if ck2 a b c d ≠ 0 then ⟨0, 0, ck2 a b c d⟩ else
 madeI (dnT (min4 (a * c) (a * d) (b * c) (b * d)) 1099511627776) (upT (max4 (a * c) (a * d) (b * c) (b * d)) 1099511627776)
def absI (a b : Int) : R3 := if ckI a b ≠ 0 then ⟨0, 0, ckI a b⟩ else if 0 ≤ a then ⟨a, b, 0⟩ else if b ≤ 0 then ⟨wrap64 (-b), wrap64 (-a), 0⟩ else ⟨0, max (wrap64 (-a)) b, 0⟩
def sqI (a b : Int) : R3 := if (absI a b).e ≠ 0 then ⟨0, 0, (absI a b).e⟩ else
 madeI (dnT ((absI a b).lo * (absI a b).lo) 1099511627776) (upT ((absI a b).hi * (absI a b).hi) 1099511627776)
def negI (a b : Int) : R3 := if ckI a b ≠ 0 then ⟨0, 0, ckI a b⟩ else ⟨wrap64 (-b), wrap64 (-a), 0⟩
theorem ckI_ok {a b : Int} (h : ckI a b = 0) : a ≤ b ∧ -2305843009213693952 ≤ a ∧ b ≤ 2305843009213693952 := by
 unfold ckI at h; split at h
 ·simp at h
 ·omega
theorem ckI_of {a b : Int} (h : a ≤ b ∧ -2305843009213693952 ≤ a ∧ b ≤ 2305843009213693952) : ckI a b = 0 := by
 unfold ckI; rw [if_neg (by omega)]
theorem ck2_ok {a b c d : Int} (h : ck2 a b c d = 0) : ckI a b = 0 ∧ ckI c d = 0 := by
 unfold ck2 at h; split at h
 ·contradiction
 ·exact ⟨by simpa using ‹¬ ckI a b ≠ 0›, h⟩
theorem w64_in {x : Int} (h : -9223372036854775808 ≤ x ∧ x < 9223372036854775808) : wrap64 x = x := by
 unfold wrap64; omega
theorem abs_mul_bound {a b : Int} (ha : I64 a) (hb : I64 b) : -85070591730234615865843651857942052864 ≤ a * b ∧ a * b ≤ 85070591730234615865843651857942052864 := by
 obtain ⟨a1, a2⟩ := ha
 obtain ⟨b1, b2⟩ := hb
 have h1 : a.natAbs ≤ 9223372036854775808 := by omega
 have h2 : b.natAbs ≤ 9223372036854775808 := by omega
 have h3 : (a * b).natAbs ≤ 9223372036854775808 * 9223372036854775808 := by
  rw [Int.natAbs_mul]; exact Nat.mul_le_mul h1 h2
 omega
theorem w64_mod (x : Int) : (wrap64 x - x) % 18446744073709551616 = 0 ∧ -9223372036854775808 ≤ wrap64 x ∧ wrap64 x < 9223372036854775808 := by
 unfold wrap64; omega
theorem mul_shift (a b x y M i j : Int) (hx : x = a + i * M) (hy : y = b + j * M) : x * y = a * b + M * (a * j + i * b + i * j * M) := by
 subst hx hy; grind
theorem times_hi (a b x y : Int) (ha : I64 a) (hb : I64 b) (hx : x = a % 18446744073709551616) (hy : y = b % 18446744073709551616) :
    x * y % 18446744073709551616 = a * b % 18446744073709551616 ∧
    (a < 0 → b < 0 → wrap64 (wrap64 (wrap64 (x * y / 18446744073709551616) - b) - a) = a * b / 18446744073709551616) ∧
    (a < 0 → 0 ≤ b → wrap64 (wrap64 (x * y / 18446744073709551616) - b) = a * b / 18446744073709551616) ∧
    (0 ≤ a → b < 0 → wrap64 (wrap64 (x * y / 18446744073709551616) - a) = a * b / 18446744073709551616) ∧
    (0 ≤ a → 0 ≤ b → wrap64 (x * y / 18446744073709551616) = a * b / 18446744073709551616) := by
 have hp := abs_mul_bound ha hb
 obtain ⟨a1, a2⟩ := ha
 obtain ⟨b1, b2⟩ := hb
 have ex : ∃ i : Int, x = a + i * 18446744073709551616 ∧ (a < 0 → i = 1) ∧ (0 ≤ a → i = 0) := ⟨if a < 0 then 1 else 0, by split <;> omega, fun h => if_pos h, fun h => if_neg (by omega)⟩
 have ey : ∃ i : Int, y = b + i * 18446744073709551616 ∧ (b < 0 → i = 1) ∧ (0 ≤ b → i = 0) := ⟨if b < 0 then 1 else 0, by split <;> omega, fun h => if_pos h, fun h => if_neg (by omega)⟩
 obtain ⟨i, e1, i1, i0⟩ := ex
 obtain ⟨j, e2, j1, j0⟩ := ey
 have e := mul_shift a b x y 18446744073709551616 i j e1 e2
 have f1 : x * y % 18446744073709551616 = a * b % 18446744073709551616 := by rw [e, Int.add_mul_emod_self_left]
 have f2 : x * y / 18446744073709551616 = a * b / 18446744073709551616 + (a * j + i * b + i * j * 18446744073709551616) := by
  rw [e, Int.add_mul_ediv_left _ _ (by omega)]
 obtain ⟨P, hP⟩ : ∃ P, P = a * b := ⟨_, rfl⟩
 rw [← hP] at hp f2
 rw [← hP] at ⊢
 refine ⟨by rw [f1, hP], fun h1 h2 => ?_, fun h1 h2 => ?_, fun h1 h2 => ?_, fun h1 h2 => ?_⟩
 ·rw [i1 h1, j1 h2] at f2
  rw [f2]; unfold wrap64; omega
 ·rw [i1 h1, j0 h2] at f2
  rw [f2]; unfold wrap64; omega
 ·rw [i0 h1, j1 h2] at f2
  rw [f2]; unfold wrap64; omega
 ·rw [i0 h1, j0 h2] at f2
  rw [f2]; unfold wrap64; omega
theorem neg_div (T d : Int) (d0 : 0 < d) : -((-T) / d) = if 0 < T % d then T / d + 1 else T / d := by
 have h := Int.mul_ediv_add_emod T d
 have h1 := Int.emod_nonneg T (show d ≠ 0 by omega)
 have h2 := Int.emod_lt_of_pos T d0
 obtain ⟨q, hq⟩ : ∃ q, q = T / d := ⟨_, rfl⟩
 obtain ⟨r, hr⟩ : ∃ r, r = T % d := ⟨_, rfl⟩
 rw [← hq, ← hr] at h
 rw [← hr] at h1 h2
 rw [← hq, ← hr]
 split
 ·have e : -T = (d - r) + d * (-q - 1) := by rw [← h, Int.mul_sub, Int.mul_neg]; omega
  rw [e, Int.add_mul_ediv_left _ _ (by omega), Int.ediv_eq_zero_of_lt (by omega) (by omega)]; omega
 ·have e : -T = d * (-q) := by rw [← h, Int.mul_neg]; omega
  rw [e, Int.mul_ediv_cancel_left _ (by omega)]; omega
theorem upT_eq (T d : Int) (h0 : 0 ≤ T) (d0 : 0 < d) : upT T d = min (if 0 < T % d then T / d + 1 else T / d) 4611686018427387904 := by
 have h := neg_div T d d0
 have hq : 0 ≤ T / d := Int.ediv_nonneg h0 (by omega)
 unfold upT dnT
 split at h <;> omega
theorem dnT_eq (T d : Int) (h0 : 0 ≤ T) (d0 : 0 < d) : dnT T d = min (T / d) 4611686018427387904 := by
 have hq : 0 ≤ T / d := Int.ediv_nonneg h0 (by omega)
 unfold dnT; omega
theorem dnT_range (T d : Int) : -4611686018427387904 ≤ dnT T d ∧ dnT T d ≤ 4611686018427387904 := by unfold dnT; omega
theorem upT_range (T d : Int) : -4611686018427387904 ≤ upT T d ∧ upT T d ≤ 4611686018427387904 := by have := dnT_range (-T) d; unfold upT; omega
theorem upT_neg (T d : Int) : upT (-T) d = - dnT T d := by unfold upT; rw [Int.neg_neg]
theorem dnT_neg (T d : Int) : dnT (-T) d = - upT T d := by unfold upT; omega
theorem big_quot {T d h l : Int} (eT : T = h * 18446744073709551616 + l) (hl : 0 ≤ l) (hd : d ≤ h) (d0 : 0 < d) : 18446744073709551616 ≤ T / d := by
 rw [Int.le_ediv_iff_mul_le d0, eT]
 have : 18446744073709551616 * d ≤ 18446744073709551616 * h := Int.mul_le_mul_of_nonneg_left hd (by omega)
 omega
theorem small_quot {T d h l : Int} (eT : T = h * 18446744073709551616 + l) (hh : 0 ≤ h) (hl : 0 ≤ l) (hl2 : l < 18446744073709551616) (hd : h < d) : 0 ≤ T / d ∧ T / d < 18446744073709551616 ∧ 0 ≤ T % d ∧ T % d < d := by
 refine ⟨Int.ediv_nonneg (by omega) (by omega), ?_, Int.emod_nonneg _ (by omega), Int.emod_lt_of_pos _ (by omega)⟩
 rw [Int.ediv_lt_iff_lt_mul (by omega), eT]
 have : (h + 1) * 18446744073709551616 ≤ d * 18446744073709551616 := Int.mul_le_mul_of_nonneg_right (by omega) (by omega)
 omega
def doI (E : Int) (r : R3) : R3 := if E ≠ 0 then ⟨0, 0, E⟩ else r
def kpI (E x y e : Int) : R3 := if E ≠ 0 then ⟨0, 0, E⟩ else if e ≠ 0 then ⟨0, 0, e⟩ else ⟨x, y, 0⟩
def R3.Z (r : R3) : Prop := r.e ≠ 0 → r.lo = 0 ∧ r.hi = 0
theorem R3.eta (r : R3) (x y e : Int) (h1 : r.lo = x) (h2 : r.hi = y) (h3 : r.e = e) : r = ⟨x, y, e⟩ := by cases r; simp_all
theorem kp_do {E : Int} {r : R3} (h : r.Z) : kpI E r.lo r.hi r.e = doI E r := by
 unfold kpI doI
 split
 ·rfl
 ·split
  ·have h2 := h ‹_›
   exact (R3.eta r _ _ _ h2.1 h2.2 rfl).symm
  ·exact (R3.eta r _ _ _ rfl rfl (by simpa using ‹¬ r.e ≠ 0›)).symm
theorem madeI_Z (a b : Int) : (madeI a b).Z := by
 intro h; unfold madeI at *; split at h <;> simp_all
theorem ifZ {p : Prop} [Decidable p] {e : Int} {r : R3} (h : r.Z) : (if p then ⟨0, 0, e⟩ else r : R3).Z := by
 split
 ·intro _; exact ⟨rfl, rfl⟩
 ·exact h
theorem addI_Z (a b c d : Int) : (addI a b c d).Z := ifZ (madeI_Z _ _)
theorem subI_Z (a b c d : Int) : (subI a b c d).Z := ifZ (madeI_Z _ _)
theorem mulI_Z (a b c d : Int) : (mulI a b c d).Z := ifZ (madeI_Z _ _)
theorem negI_Z (a b : Int) : (negI a b).Z := by
 unfold negI
 split
 ·intro _; exact ⟨rfl, rfl⟩
 ·intro h; exact absurd rfl h
theorem doI_Z {E : Int} {r : R3} (h : r.Z) : (doI E r).Z := ifZ h
theorem absI_ok {a b : Int} (h : (absI a b).e = 0) : 0 ≤ (absI a b).lo ∧ (absI a b).lo ≤ (absI a b).hi ∧ (absI a b).hi ≤ 2305843009213693952 ∧ ckI a b = 0 := by
 unfold absI at *
 split at h
 ·exact absurd h (by simpa using ‹ckI a b ≠ 0›)
 ·have hc : ckI a b = 0 := by simpa using ‹¬ ckI a b ≠ 0›
  have ho := ckI_ok hc
  rw [if_neg (by simpa using hc)]
  split
  ·exact ⟨by omega, by simp only []; omega, by simp only []; omega, hc⟩
  ·split
   ·simp only []
    rw [w64_in (by omega), w64_in (by omega)]
    exact ⟨by omega, by omega, by omega, hc⟩
   ·simp only []
    rw [w64_in (by omega)]
    exact ⟨by omega, by omega, by omega, hc⟩
def sqR (a b : Int) : R3 := if (absI a b).e ≠ 0 then ⟨0, 0, (absI a b).e⟩ else mulI (absI a b).lo (absI a b).hi (absI a b).lo (absI a b).hi
theorem sqI_mul (a b : Int) : sqI a b = sqR a b := by
 show _ = if (absI a b).e ≠ 0 then ⟨0, 0, (absI a b).e⟩ else mulI (absI a b).lo (absI a b).hi (absI a b).lo (absI a b).hi
 unfold sqI
 split
 ·rfl
 ·have h : (absI a b).e = 0 := by simpa using ‹¬ (absI a b).e ≠ 0›
  obtain ⟨h1, h2, h3, -⟩ := absI_ok h
  obtain ⟨x, hx⟩ : ∃ x, x = (absI a b).lo := ⟨_, rfl⟩
  obtain ⟨y, hy⟩ : ∃ y, y = (absI a b).hi := ⟨_, rfl⟩
  rw [← hx] at h1 h2
  rw [← hy] at h2 h3
  rw [← hx, ← hy]
  have hc : ckI x y = 0 := ckI_of ⟨h2, by omega, h3⟩
  have hc2 : ck2 x y x y = 0 := by unfold ck2; rw [hc]; rfl
  unfold mulI
  rw [hc2, if_neg (by simp)]
  have m1 : x * x ≤ x * y := Int.mul_le_mul_of_nonneg_left h2 h1
  have m2 : x * y ≤ y * y := Int.mul_le_mul_of_nonneg_right h2 (by omega)
  have e1 : min4 (x * x) (x * y) (y * x) (y * y) = x * x := by rw [Int.mul_comm y x]; unfold min4; omega
  have e2 : max4 (x * x) (x * y) (y * x) (y * y) = y * y := by rw [Int.mul_comm y x]; unfold max4; omega
  rw [e1, e2]
def negR (a b : Int) : R3 := if ckI a b ≠ 0 then ⟨0, 0, ckI a b⟩ else madeI (wrap64 (-b)) (wrap64 (-a))
def absR (a b : Int) : R3 := if ckI a b ≠ 0 then ⟨0, 0, ckI a b⟩ else if 0 ≤ a then ⟨a, b, 0⟩ else if b ≤ 0 then madeI (wrap64 (-b)) (wrap64 (-a)) else madeI 0 (max (wrap64 (-a)) b)
theorem I64_0 : I64 0 := by unfold I64; omega
theorem madeI_I64 (a b : Int) (ha : I64 a) (hb : I64 b) : I64 (madeI a b).lo ∧ I64 (madeI a b).hi := by
 unfold madeI; split
 ·exact ⟨I64_0, I64_0⟩
 ·exact ⟨ha, hb⟩
theorem w64_I64 (x : Int) : I64 (wrap64 x) := ⟨(w64_mod x).2.1, (w64_mod x).2.2⟩
def R3.W (r : R3) : Prop := I64 r.lo ∧ I64 r.hi
theorem ifW {p : Prop} [Decidable p] {e : Int} {r : R3} (h : r.W) : (if p then ⟨0, 0, e⟩ else r : R3).W := by
 split
 ·exact ⟨I64_0, I64_0⟩
 ·exact h
theorem addI_W (a b c d : Int) : (addI a b c d).W := ifW (madeI_I64 _ _ (w64_I64 _) (w64_I64 _))
theorem subI_W (a b c d : Int) : (subI a b c d).W := ifW (madeI_I64 _ _ (w64_I64 _) (w64_I64 _))
theorem dn_I64 (T d : Int) : I64 (dnT T d) := by have := dnT_range T d; unfold I64; omega
theorem up_I64 (T d : Int) : I64 (upT T d) := by have := upT_range T d; unfold I64; omega
theorem negI_W (a b : Int) : (negI a b).W := by
 unfold negI; split
 ·exact ⟨I64_0, I64_0⟩
 ·exact ⟨w64_I64 _, w64_I64 _⟩
theorem doI_W {E : Int} {r : R3} (h : r.W) : (doI E r).W := ifW h
structure V3 where
 (a b c d e f : Int)
structure V7 where
 v : V3
 e : Int
def V3.O : V3 := ⟨0, 0, 0, 0, 0, 0⟩
def V3.I (v : V3) : Prop := (I64 v.a ∧ I64 v.b) ∧ (I64 v.c ∧ I64 v.d) ∧ (I64 v.e ∧ I64 v.f)
def ckV (v : V3) : Int := if ckI v.a v.b ≠ 0 then ckI v.a v.b else ck2 v.c v.d v.e v.f
def ck2V (a b : V3) : Int := if ckV a ≠ 0 then ckV a else ckV b
def v3 (x y z : R3) : V3 := ⟨x.lo, x.hi, y.lo, y.hi, z.lo, z.hi⟩
def vecV (E : Int) (v : V3) : V7 := if E ≠ 0 then ⟨V3.O, E⟩ else ⟨v, 0⟩
def each0 (f : Int → Int → Int → Int → R3) (a b : V3) : R3 := doI 0 (f a.a a.b b.a b.b)
def each1 (f : Int → Int → Int → Int → R3) (a b : V3) : R3 := doI (each0 f a b).e (f a.c a.d b.c b.d)
def each2 (f : Int → Int → Int → Int → R3) (a b : V3) : R3 := doI (each1 f a b).e (f a.e a.f b.e b.f)
def eachV (f : Int → Int → Int → Int → R3) (a b : V3) : V7 := if ck2V a b ≠ 0 then ⟨V3.O, ck2V a b⟩ else vecV (each2 f a b).e (v3 (each0 f a b) (each1 f a b) (each2 f a b))
def dot0 (E : Int) (a b : V3) : R3 := doI E (mulI a.a a.b b.a b.b)
def dot1 (E : Int) (a b : V3) : R3 := doI (dot0 E a b).e (mulI a.c a.d b.c b.d)
def dot2 (E : Int) (a b : V3) : R3 := doI (dot1 E a b).e (addI (dot0 E a b).lo (dot0 E a b).hi (dot1 E a b).lo (dot1 E a b).hi)
def dot3 (E : Int) (a b : V3) : R3 := doI (dot2 E a b).e (mulI a.e a.f b.e b.f)
def dotI (E : Int) (a b : V3) : R3 := doI (dot3 E a b).e (addI (dot2 E a b).lo (dot2 E a b).hi (dot3 E a b).lo (dot3 E a b).hi)
def dotV (a b : V3) : R3 := if ck2V a b ≠ 0 then ⟨0, 0, ck2V a b⟩ else dotI 0 a b
def nrm0 (E : Int) (a : V3) : R3 := doI E (sqI a.a a.b)
def nrm1 (E : Int) (a : V3) : R3 := doI (nrm0 E a).e (sqI a.c a.d)
def nrm2 (E : Int) (a : V3) : R3 := doI (nrm1 E a).e (addI (nrm0 E a).lo (nrm0 E a).hi (nrm1 E a).lo (nrm1 E a).hi)
def nrm3 (E : Int) (a : V3) : R3 := doI (nrm2 E a).e (sqI a.e a.f)
def nrmI (E : Int) (a : V3) : R3 := doI (nrm3 E a).e (addI (nrm2 E a).lo (nrm2 E a).hi (nrm3 E a).lo (nrm3 E a).hi)
def nrmV (a : V3) : R3 := if ckV a ≠ 0 then ⟨0, 0, ckV a⟩ else nrmI 0 a
def mm0 (E a b c d : Int) : R3 := doI E (mulI a b c d)
def mm1 (E a b c d e f g h : Int) : R3 := doI (mm0 E a b c d).e (mulI e f g h)
def mmI (E a b c d e f g h : Int) : R3 := doI (mm1 E a b c d e f g h).e (subI (mm0 E a b c d).lo (mm0 E a b c d).hi (mm1 E a b c d e f g h).lo (mm1 E a b c d e f g h).hi)
def crs0 (a b : V3) : R3 := mmI 0 a.c a.d b.e b.f a.e a.f b.c b.d
def crs1 (a b : V3) : R3 := mmI (crs0 a b).e a.e a.f b.a b.b a.a a.b b.e b.f
def crs2 (a b : V3) : R3 := mmI (crs1 a b).e a.a a.b b.c b.d a.c a.d b.a b.b
def crsV (a b : V3) : V7 := if ck2V a b ≠ 0 then ⟨V3.O, ck2V a b⟩ else vecV (crs2 a b).e (v3 (crs0 a b) (crs1 a b) (crs2 a b))
def scaV (a : V3) (x y : Int) : V7 := eachV mulI a ⟨x, y, x, y, x, y⟩
theorem nrmI_Z (E : Int) (a : V3) : (nrmI E a).Z := doI_Z (addI_Z _ _ _ _)
theorem ediv_le_pos {T c d : Int} (h : 0 ≤ T) (c0 : 0 < c) (hcd : c ≤ d) : T / d ≤ T / c := by
 have q : 0 ≤ T / d := Int.ediv_nonneg h (by omega)
 rw [Int.le_ediv_iff_mul_le c0]
 have h1 : T / d * c ≤ T / d * d := Int.mul_le_mul_of_nonneg_left hcd q
 have h2 : T / d * d ≤ T := Int.ediv_mul_le _ (by omega)
 omega
theorem ediv_le_neg {T c d : Int} (h : T < 0) (c0 : 0 < c) (hcd : c ≤ d) : T / c ≤ T / d := by
 have q : T / c < 0 := Int.ediv_neg_of_neg_of_pos h c0
 rw [Int.le_ediv_iff_mul_le (by omega)]
 have h1 : -(T / c) * c ≤ -(T / c) * d := Int.mul_le_mul_of_nonneg_left hcd (by omega)
 have h2 : T / c * c ≤ T := Int.ediv_mul_le _ (by omega)
 rw [Int.neg_mul, Int.neg_mul] at h1
 omega
theorem dn_min {T c d : Int} (c0 : 0 < c) (hcd : c ≤ d) : min (dnT T c) (dnT T d) = dnT T (if T < 0 then c else d) := by
 split
 ·have := ediv_le_neg ‹_› c0 hcd
  unfold dnT; omega
 ·have := ediv_le_pos (T := T) (by omega) c0 hcd
  unfold dnT; omega
theorem up_max {T c d : Int} (c0 : 0 < c) (hcd : c ≤ d) : max (upT T c) (upT T d) = upT T (if 0 < T then c else d) := by
 have h := dn_min (T := -T) c0 hcd
 have e : (if -T < 0 then c else d) = (if 0 < T then c else d) := by split <;> split <;> omega
 rw [e] at h
 unfold upT
 rw [← h]; omega
def divP (a b c d : Int) : R3 := madeI (dnT (a * 1099511627776) (if a < 0 then c else d)) (upT (b * 1099511627776) (if 0 < b then c else d))
def divI (a b c d : Int) : R3 := if ck2 a b c d ≠ 0 then ⟨0, 0, ck2 a b c d⟩ else if c ≤ 0 ∧ 0 ≤ d then ⟨0, 0, 18⟩ else if d < 0 then divP (-b) (-a) (-d) (-c) else divP a b c d
theorem divP_prog {a b c d : Int} (c0 : 0 < c) (hcd : c ≤ d) : divP a b c d = madeI (min (dnT (a * 1099511627776) c) (dnT (a * 1099511627776) d)) (max (upT (b * 1099511627776) c) (upT (b * 1099511627776) d)) := by
 unfold divP
 rw [dn_min c0 hcd, up_max c0 hcd]
 have e1 : (if a * 1099511627776 < 0 then c else d) = (if a < 0 then c else d) := by split <;> split <;> omega
 have e2 : (if 0 < b * 1099511627776 then c else d) = (if 0 < b then c else d) := by split <;> split <;> omega
 rw [e1, e2]
theorem divI_Z (a b c d : Int) : (divI a b c d).Z := by
 unfold divI
 refine ifZ ?_
 split
 ·intro _; exact ⟨rfl, rfl⟩
 ·split <;> exact madeI_Z _ _
def IsRoot (x r : Int) : Prop := 0 ≤ r ∧ r * r ≤ x * 1099511627776 ∧ x * 1099511627776 < (r + 1) * (r + 1)
theorem sq_lt {r s : Int} (h0 : 0 ≤ s) (h : r * r < s * s) : r < s := by
 rcases Int.lt_or_le r s with h1 | h1
 ·exact h1
 ·have := Int.mul_le_mul h1 h1 h0 (by omega); omega
theorem IsRoot.one {x r s : Int} (h : IsRoot x r) (k : IsRoot x s) : r = s := by
 have h1 := sq_lt (r := r) (s := s + 1) (by have := k.1; omega) (by have := h.2.1; have := k.2.2; omega)
 have h2 := sq_lt (r := s) (s := r + 1) (by have := h.1; omega) (by have := k.2.1; have := h.2.2; omega)
 omega
noncomputable def rootI (x : Int) : Int := @Classical.epsilon Int ⟨0⟩ (IsRoot x)
theorem IsRoot.eq {x r : Int} (h : IsRoot x r) : r = rootI x := h.one (Classical.epsilon_spec (p := IsRoot x) ⟨r, h⟩)
theorem IsRoot.of {x r : Int} (h : IsRoot x r) : IsRoot x (rootI x) := h.eq ▸ h
noncomputable def sqrtI (a b : Int) : R3 := if ckI a b ≠ 0 then ⟨0, 0, ckI a b⟩ else if a < 0 then ⟨0, 0, 2⟩ else ⟨rootI a, if rootI b * rootI b = b * 1099511627776 then rootI b else rootI b + 1, 0⟩
def sc3I (a b : Int) : R3 := if ckI a b ≠ 0 then ⟨0, 0, ckI a b⟩ else madeI (dnT (a * 3) 1) (upT (b * 3) 1)
def Ext (w w' : World) : Prop := Below w.heap.size w w'
theorem Ext.refl (w : World) : Ext w w := Below.refl _ _
theorem Ext.trans {a b c : World} (h : Ext a b) (k : Ext b c) : Ext a c := Below.trans h (Below.mono k (Below.size h))
theorem Ext.alloc {a w : World} (h : Ext a w) (o : Obj) : Ext a (w.alloc o) := Below.alloc h (Below.size h) o
theorem Ext.setCell {a w : World} (h : Ext a w) {p : Addr} (hp : a.heap.size ≤ p.block) (u : Value) : Ext a (w.setCell p u) := Below.setCell h hp u
theorem Ext.drew {a w : World} (h : Ext a w) : Ext a w.drew := Below.drew h
theorem Ext.drewN {a w : World} (h : Ext a w) (n : Nat) : Ext a (w.drewN n) := ⟨h.os, h.tape, h.output, h.size, h.block⟩
theorem Ext.size {a w : World} (h : Ext a w) : a.heap.size ≤ w.heap.size := Below.size h
theorem Ext.cells {W w1 : World} (hb : Ext W w1) : (∀ b o, b < W.heap.size → w1.cell? ⟨b, o, none⟩ = W.cell? ⟨b, o, none⟩) ∧ (∀ b o, b < W.heap.size → w1.frozen? ⟨b, o, none⟩ = W.frozen? ⟨b, o, none⟩) :=
 ⟨fun b o h => Below.cell hb (p := ⟨b, o, none⟩) h, fun b o h => Below.frozen hb (p := ⟨b, o, none⟩) h⟩
def Same (W w : World) : Prop := W = w
theorem wp_name {P : Program} {c : Code} {Q : Exit → Act → World → Prop} {a : Act} {w : World} (h : ∀ W, Same W w → c.wp P Q a W) : c.wp P Q a w := h w rfl
theorem Same.cells {W w : World} (h : Same W w) : (∀ p, W.cell? p = w.cell? p) ∧ (∀ p, W.frozen? p = w.frozen? p) ∧ W.heap.size = w.heap.size := by
 cases (h : W = w); exact ⟨fun _ => rfl, fun _ => rfl, rfl⟩
theorem Ext.same {a W w : World} (h : Same W w) (k : Ext a w) : Ext a W := by cases (h : W = w); exact k
def oc (w : World) (b o : Nat) : Option Value := w.cell? ⟨b, o, none⟩
def ofz (w : World) (b o : Nat) : Bool := w.frozen? ⟨b, o, none⟩
def obx (w : World) (b o : Nat) (x : Value) : Value := (w.cell? ⟨b, o, none⟩).getD x
@[go_sem] theorem cell_al (W : World) (c : Array Value) (t : TypeId) (b o : Nat) : (W.alloc (.cells c t)).cell? ⟨b, o, none⟩ = if b = W.heap.size then c[o]? else W.cell? ⟨b, o, none⟩ := by
 split
 ·subst b; exact World.cell?_alloc_new W c t o
 ·exact World.cell?_alloc_old _ _ _ ‹_›
@[go_sem] theorem frozen_al (W : World) (c : Array Value) (t : TypeId) (b o : Nat) : (W.alloc (.cells c t)).frozen? ⟨b, o, none⟩ = if b = W.heap.size then false else W.frozen? ⟨b, o, none⟩ := by
 split
 ·exact World.frozen?_alloc_at (w := W) c t b o ‹_›
 ·show (match (W.heap.push (.cells c t))[b]? with | some (.cells _ _ (lo, hi)) => decide (lo ≤ o) && decide (o < hi) | _ => false) = _
  rw [Array.getElem?_push, if_neg ‹_›]
  rfl
@[go_sem] theorem cell_sc (W : World) (p q : Addr) (v : Value) : (W.setCell p v).cell? q = if q = p then (W.cell? p).map (fun _ => v) else W.cell? q := by
 split
 ·subst q
  cases h : W.cell? p with
  | some u => exact World.cell?_setCell_same _ _ _ h
  | none =>
   simp only [Option.map_none]
   simp only [World.cell?, World.setCell, Array.getElem?_modify] at h ⊢
   cases hh : W.heap[p.block]? with
   | none => simp
   | some ob =>
    rw [hh] at h
    cases ob <;> simp_all
 ·exact World.cell?_setCell_other _ _ _ _ (fun e => ‹¬ q = p› e.symm)
theorem size_drew (w : World) : w.drew.heap.size = w.heap.size := rfl
theorem held0 {w W : World} {RB lo hi : Nat} (hw : Ext w W) :
    (∀ b o, b < W.heap.size → W.drew.cell? ⟨b, o, none⟩ = if b = RB ∧ lo ≤ o ∧ o < hi then (W.cell? ⟨b, o, none⟩).map (obx W.drew b o) else W.cell? ⟨b, o, none⟩) ∧ (∀ b o, b < W.heap.size → W.drew.frozen? ⟨b, o, none⟩ = W.frozen? ⟨b, o, none⟩) ∧ W.heap.size ≤ W.drew.heap.size ∧ Ext w W.drew := by
 refine ⟨fun b o _ => ?_, fun _ _ _ => rfl, Nat.le_refl _, hw.drew⟩
 show W.cell? ⟨b, o, none⟩ = _
 split
 ·cases h : W.cell? ⟨b, o, none⟩ with
  | none => rfl
  | some x => simp [obx, show W.drew.cell? ⟨b, o, none⟩ = W.cell? ⟨b, o, none⟩ from rfl, h]
 ·rfl
theorem held1 {w W w' w1 : World} {RB lo hi : Nat}
    (h : (∀ b o, b < W.heap.size → w'.cell? ⟨b, o, none⟩ = if b = RB ∧ lo ≤ o ∧ o < hi then (W.cell? ⟨b, o, none⟩).map (obx w' b o) else W.cell? ⟨b, o, none⟩) ∧ (∀ b o, b < W.heap.size → w'.frozen? ⟨b, o, none⟩ = W.frozen? ⟨b, o, none⟩) ∧ W.heap.size ≤ w'.heap.size ∧ Ext w w')
    (hb : Ext w' w1) :
    (∀ b o, b < W.heap.size → w1.cell? ⟨b, o, none⟩ = if b = RB ∧ lo ≤ o ∧ o < hi then (W.cell? ⟨b, o, none⟩).map (obx w1 b o) else W.cell? ⟨b, o, none⟩) ∧ (∀ b o, b < W.heap.size → w1.frozen? ⟨b, o, none⟩ = W.frozen? ⟨b, o, none⟩) ∧ W.heap.size ≤ w1.heap.size ∧ Ext w w1 := by
 obtain ⟨h1, h2, h3, h4⟩ := h
 refine ⟨fun b o hc => ?_, fun b o hc => ?_, Nat.le_trans h3 hb.size, h4.trans hb⟩
 ·have e : w1.cell? ⟨b, o, none⟩ = w'.cell? ⟨b, o, none⟩ := Below.cell hb (p := ⟨b, o, none⟩) (Nat.lt_of_lt_of_le hc h3)
  rw [e, h1 b o hc]
  split
  ·congr 1
   funext x
   simp only [obx, e]
  ·rfl
 ·exact b_0
theorem held2 {w W w' : World} {RB lo hi : Nat} {p : Addr} {v : Value}
    (h : (∀ b o, b < W.heap.size → w'.cell? ⟨b, o, none⟩ = if b = RB ∧ lo ≤ o ∧ o < hi then (W.cell? ⟨b, o, none⟩).map (obx w' b o) else W.cell? ⟨b, o, none⟩) ∧ (∀ b o, b < W.heap.size → w'.frozen? ⟨b, o, none⟩ = W.frozen? ⟨b, o, none⟩) ∧ W.heap.size ≤ w'.heap.size ∧ Ext w w')
    (hp : (p.block = RB ∧ lo ≤ p.off ∧ p.off < hi) ∨ W.heap.size ≤ p.block) (hw : w.heap.size ≤ p.block) :
    (∀ b o, b < W.heap.size → (w'.setCell p v).cell? ⟨b, o, none⟩ = if b = RB ∧ lo ≤ o ∧ o < hi then (W.cell? ⟨b, o, none⟩).map (obx (w'.setCell p v) b o) else W.cell? ⟨b, o, none⟩) ∧ (∀ b o, b < W.heap.size → (w'.setCell p v).frozen? ⟨b, o, none⟩ = W.frozen? ⟨b, o, none⟩) ∧ W.heap.size ≤ (w'.setCell p v).heap.size ∧ Ext w (w'.setCell p v) := by
 obtain ⟨h1, h2, h3, h4⟩ := h
 refine ⟨fun b o hc => ?_, fun b o hc => ?_, by simpa using h3, h4.setCell (by omega) _⟩
 ·have h1' := h1 b o hc
  by_cases he : (⟨b, o, none⟩ : Addr) = p
  ·have hr : b = RB ∧ lo ≤ o ∧ o < hi := by
    rcases hp with hp | hp
    ·rw [← he] at hp; exact hp
    ·exact b_1
   rw [if_pos hr] at h1' ⊢
   cases hx : W.cell? ⟨b, o, none⟩ with
   | none =>
    rw [hx] at h1'
    simp only [Option.map_none] at h1' ⊢
    rw [cell_sc, if_pos he, ← he, h1']; rfl
   | some x =>
    rw [hx] at h1'
    simp only [Option.map_some] at h1' ⊢
    have hs : (w'.setCell p v).cell? ⟨b, o, none⟩ = some v := by
     rw [cell_sc, if_pos he, ← he, h1']; rfl
    simp only [obx, hs, Option.getD_some]
  ·have e : (w'.setCell p v).cell? ⟨b, o, none⟩ = w'.cell? ⟨b, o, none⟩ := by rw [cell_sc, if_neg he]
   rw [e, h1']
   split
   ·congr 1
    funext x
    simp only [obx, e]
   ·rfl
 ·rw [World.frozen?_setCell, h2 b o hc]
theorem held3 {w W w' : World} {RB lo hi : Nat} {ob : Obj}
    (h : (∀ b o, b < W.heap.size → w'.cell? ⟨b, o, none⟩ = if b = RB ∧ lo ≤ o ∧ o < hi then (W.cell? ⟨b, o, none⟩).map (obx w' b o) else W.cell? ⟨b, o, none⟩) ∧ (∀ b o, b < W.heap.size → w'.frozen? ⟨b, o, none⟩ = W.frozen? ⟨b, o, none⟩) ∧ W.heap.size ≤ w'.heap.size ∧ Ext w w') :
    (∀ b o, b < W.heap.size → (w'.alloc ob).cell? ⟨b, o, none⟩ = if b = RB ∧ lo ≤ o ∧ o < hi then (W.cell? ⟨b, o, none⟩).map (obx (w'.alloc ob) b o) else W.cell? ⟨b, o, none⟩) ∧ (∀ b o, b < W.heap.size → (w'.alloc ob).frozen? ⟨b, o, none⟩ = W.frozen? ⟨b, o, none⟩) ∧ W.heap.size ≤ (w'.alloc ob).heap.size ∧ Ext w (w'.alloc ob) :=
  held1 h ((Ext.refl _).alloc _)
theorem heldBack {W w' : World} {RB lo hi : Nat} {p : Addr} {v : Value}
    (h : (∀ b o, b < W.heap.size → (w'.setCell p v).cell? ⟨b, o, none⟩ = if b = RB ∧ lo ≤ o ∧ o < hi then (W.cell? ⟨b, o, none⟩).map (obx (w'.setCell p v) b o) else W.cell? ⟨b, o, none⟩) ∧ (∀ b o, b < W.heap.size → (w'.setCell p v).frozen? ⟨b, o, none⟩ = W.frozen? ⟨b, o, none⟩) ∧ W.heap.size ≤ (w'.setCell p v).heap.size)
    (hp : (p.block = RB ∧ lo ≤ p.off ∧ p.off < hi) ∨ W.heap.size ≤ p.block) :
    (∀ b o, b < W.heap.size → w'.cell? ⟨b, o, none⟩ = if b = RB ∧ lo ≤ o ∧ o < hi then (W.cell? ⟨b, o, none⟩).map (obx w' b o) else W.cell? ⟨b, o, none⟩) ∧ (∀ b o, b < W.heap.size → w'.frozen? ⟨b, o, none⟩ = W.frozen? ⟨b, o, none⟩) ∧ W.heap.size ≤ w'.heap.size := by
 obtain ⟨h1, h2, h3⟩ := h
 refine ⟨fun b o hc => ?_, fun b o hc => ?_, by simpa using h3⟩
 ·have h1' := h1 b o hc
  rw [cell_sc] at h1'
  split at h1'
  ·rename_i he
   have hr : b = RB ∧ lo ≤ o ∧ o < hi := by
    rcases hp with hp | hp
    ·rw [← he] at hp; exact hp
    ·exact b_1
   rw [if_pos hr] at h1' ⊢
   rw [← he] at h1'
   cases hx : W.cell? ⟨b, o, none⟩ with
   | none => rw [hx] at h1'; simpa using h1'
   | some x =>
    rw [hx] at h1'
    cases hy : w'.cell? ⟨b, o, none⟩ with
    | none => rw [hy] at h1'; simp at h1'
    | some y => simp [obx, hy]
  ·rename_i he
   have e : (w'.setCell p v).cell? ⟨b, o, none⟩ = w'.cell? ⟨b, o, none⟩ := by rw [cell_sc, if_neg he]
   rw [h1']
   split
   ·congr 1
    funext x
    simp only [obx, e]
   ·rfl
 ·have h2' := h2 b o hc
  rw [World.frozen?_setCell] at h2'
  exact h2'
theorem heldBackA {W w' : World} {RB lo hi : Nat} {ob : Obj}
    (h : (∀ b o, b < W.heap.size → (w'.alloc ob).cell? ⟨b, o, none⟩ = if b = RB ∧ lo ≤ o ∧ o < hi then (W.cell? ⟨b, o, none⟩).map (obx (w'.alloc ob) b o) else W.cell? ⟨b, o, none⟩) ∧ (∀ b o, b < W.heap.size → (w'.alloc ob).frozen? ⟨b, o, none⟩ = W.frozen? ⟨b, o, none⟩) ∧ W.heap.size ≤ (w'.alloc ob).heap.size)
    (hz : W.heap.size ≤ w'.heap.size) :
    (∀ b o, b < W.heap.size → w'.cell? ⟨b, o, none⟩ = if b = RB ∧ lo ≤ o ∧ o < hi then (W.cell? ⟨b, o, none⟩).map (obx w' b o) else W.cell? ⟨b, o, none⟩) ∧ (∀ b o, b < W.heap.size → w'.frozen? ⟨b, o, none⟩ = W.frozen? ⟨b, o, none⟩) ∧ W.heap.size ≤ w'.heap.size := by
 obtain ⟨h1, h2, h3⟩ := h
 refine ⟨fun b o hc => ?_, fun b o hc => ?_, hz⟩
 ·have e : (w'.alloc ob).cell? ⟨b, o, none⟩ = w'.cell? ⟨b, o, none⟩ := Below.cell ((Ext.refl w').alloc ob) (p := ⟨b, o, none⟩) (Nat.lt_of_lt_of_le hc hz)
  rw [← e, h1 b o hc]
  split
  ·congr 1
   funext x
   simp only [obx, e]
  ·rfl
 ·have e : (w'.alloc ob).frozen? ⟨b, o, none⟩ = w'.frozen? ⟨b, o, none⟩ := Below.frozen ((Ext.refl w').alloc ob) (p := ⟨b, o, none⟩) (Nat.lt_of_lt_of_le hc hz)
  rw [← e, h2 b o hc]
theorem held4 {w W w' : World} {RB lo hi : Nat} {ob ob' : Obj}
    (h : (∀ b o, b < W.heap.size → (w'.alloc ob).cell? ⟨b, o, none⟩ = if b = RB ∧ lo ≤ o ∧ o < hi then (W.cell? ⟨b, o, none⟩).map (obx (w'.alloc ob) b o) else W.cell? ⟨b, o, none⟩) ∧ (∀ b o, b < W.heap.size → (w'.alloc ob).frozen? ⟨b, o, none⟩ = W.frozen? ⟨b, o, none⟩) ∧ W.heap.size ≤ (w'.alloc ob).heap.size ∧ Ext w (w'.alloc ob))
    (hz : W.heap.size ≤ w'.heap.size) (hz2 : w.heap.size ≤ w'.heap.size) :
    (∀ b o, b < W.heap.size → (w'.alloc ob').cell? ⟨b, o, none⟩ = if b = RB ∧ lo ≤ o ∧ o < hi then (W.cell? ⟨b, o, none⟩).map (obx (w'.alloc ob') b o) else W.cell? ⟨b, o, none⟩) ∧ (∀ b o, b < W.heap.size → (w'.alloc ob').frozen? ⟨b, o, none⟩ = W.frozen? ⟨b, o, none⟩) ∧ W.heap.size ≤ (w'.alloc ob').heap.size ∧ Ext w (w'.alloc ob') := by
 have hE := h.2.2.2
 have h3 := heldBackA ⟨h.1, h.2.1, h.2.2.1⟩ hz
 have hE' : Ext w w' := ⟨hE.os, hE.tape, hE.output, hz2, fun k hk => by
  rw [← hE.block k hk]; exact (Below.heap_alloc w' ob k (Nat.lt_of_lt_of_le hk hz2)).symm⟩
 exact held3 ⟨h3.1, h3.2.1, h3.2.2, hE'⟩
theorem heldEnd {W w' : World} {RB lo hi : Nat}
    (h : (∀ b o, b < W.heap.size → w'.cell? ⟨b, o, none⟩ = if b = RB ∧ lo ≤ o ∧ o < hi then (W.cell? ⟨b, o, none⟩).map (obx w' b o) else W.cell? ⟨b, o, none⟩) ∧ (∀ b o, b < W.heap.size → w'.frozen? ⟨b, o, none⟩ = W.frozen? ⟨b, o, none⟩) ∧ W.heap.size ≤ w'.heap.size) :
    (∀ b o, w'.cell? ⟨b, o, none⟩ = if b < W.heap.size then (if b = RB ∧ lo ≤ o ∧ o < hi then (W.cell? ⟨b, o, none⟩).map (obx w' b o) else W.cell? ⟨b, o, none⟩) else oc w' b o) ∧ (∀ b o, w'.frozen? ⟨b, o, none⟩ = if b < W.heap.size then W.frozen? ⟨b, o, none⟩ else ofz w' b o) ∧ W.heap.size ≤ w'.heap.size :=
  ⟨fun b o => by
    split
    · exact h.1 b o ‹_›
    · rfl, fun b o => by
    split
    · exact h.2.1 b o ‹_›
    · rfl, h.2.2⟩
theorem Ext.cells2 {W w1 : World} (hb : Ext W w1) : ∃ (f : Nat → Nat → Option Value) (g : Nat → Nat → Bool),
    (∀ b o, w1.cell? ⟨b, o, none⟩ = if b < W.heap.size then W.cell? ⟨b, o, none⟩ else f b o) ∧
    (∀ b o, w1.frozen? ⟨b, o, none⟩ = if b < W.heap.size then W.frozen? ⟨b, o, none⟩ else g b o) := by
 refine ⟨fun b o => w1.cell? ⟨b, o, none⟩, fun b o => w1.frozen? ⟨b, o, none⟩, fun b o => ?_, fun b o => ?_⟩
 ·split
  ·exact Below.cell hb (p := ⟨b, o, none⟩) ‹_›
  ·rfl
 ·split
  ·exact Below.frozen hb (p := ⟨b, o, none⟩) ‹_›
  ·rfl
theorem Ext.c3 {W w1 : World} (hb : Ext W w1) : ∃ (f : Nat → Nat → Option Value) (g : Nat → Nat → Bool), ((∀ b o, w1.cell? ⟨b, o, none⟩ = if b < W.heap.size then W.cell? ⟨b, o, none⟩ else f b o) ∧
    (∀ b o, w1.frozen? ⟨b, o, none⟩ = if b < W.heap.size then W.frozen? ⟨b, o, none⟩ else g b o)) ∧ W.heap.size ≤ w1.heap.size := by
 obtain ⟨f, g, hc, hf⟩ := hb.cells2
 exact ⟨f, g, ⟨hc, hf⟩, hb.size⟩
end Go.Proofs.YtbkgakgdbmjmjaaGreat
