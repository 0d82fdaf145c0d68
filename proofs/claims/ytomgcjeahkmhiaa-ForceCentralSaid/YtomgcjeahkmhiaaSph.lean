/- Plain functions on vectors of intervals. -/
import Derived.Test.YtomgcjeahkmhiaaIv
namespace Go.Proofs.Ytomgcjeahkmhiaa
open Go.RowKit

/-- An operation behind an error. -/
def doI (E : Int) (r : R3) : R3 := if E ≠ 0 then ⟨0, 0, E⟩ else r
def kpI (E x y e : Int) : R3 := if E ≠ 0 then ⟨0, 0, E⟩ else if e ≠ 0 then ⟨0, 0, e⟩ else ⟨x, y, 0⟩
def R3.Z (r : R3) : Prop := r.e ≠ 0 → r.lo = 0 ∧ r.hi = 0
theorem R3.eta (r : R3) (x y e : Int) (h1 : r.lo = x) (h2 : r.hi = y) (h3 : r.e = e) : r = ⟨x, y, e⟩ := by cases r; simp_all
theorem kp_do {E : Int} {r : R3} (h : r.Z) : kpI E r.lo r.hi r.e = doI E r := by
  unfold kpI doI
  split
  · rfl
  · split
    · have h2 := h ‹_›
      exact (R3.eta r _ _ _ h2.1 h2.2 rfl).symm
    · exact (R3.eta r _ _ _ rfl rfl (by simpa using ‹¬ r.e ≠ 0›)).symm
theorem madeI_Z (a b : Int) : (madeI a b).Z := by
  intro h; unfold madeI at *; split at h <;> simp_all
theorem ifZ {p : Prop} [Decidable p] {e : Int} {r : R3} (h : r.Z) : (if p then ⟨0, 0, e⟩ else r : R3).Z := by
  split
  · intro _; exact ⟨rfl, rfl⟩
  · exact h
theorem addI_Z (a b c d : Int) : (addI a b c d).Z := ifZ (madeI_Z _ _)
theorem subI_Z (a b c d : Int) : (subI a b c d).Z := ifZ (madeI_Z _ _)
theorem mulI_Z (a b c d : Int) : (mulI a b c d).Z := ifZ (madeI_Z _ _)
theorem sqI_Z (a b : Int) : (sqI a b).Z := ifZ (madeI_Z _ _)
theorem negI_Z (a b : Int) : (negI a b).Z := by
  unfold negI
  split
  · intro _; exact ⟨rfl, rfl⟩
  · intro h; exact absurd rfl h
theorem doI_Z {E : Int} {r : R3} (h : r.Z) : (doI E r).Z := ifZ h

theorem absI_ok {a b : Int} (h : (absI a b).e = 0) : 0 ≤ (absI a b).lo ∧ (absI a b).lo ≤ (absI a b).hi ∧ (absI a b).hi ≤ 2305843009213693952 ∧ ckI a b = 0 := by
  unfold absI at *
  split at h
  · exact absurd h (by simpa using ‹ckI a b ≠ 0›)
  · have hc : ckI a b = 0 := by simpa using ‹¬ ckI a b ≠ 0›
    have ho := ckI_ok hc
    rw [if_neg (by simpa using hc)]
    split
    · exact ⟨by omega, by simp only []; omega, by simp only []; omega, hc⟩
    · split
      · simp only []
        rw [w64_in (by omega), w64_in (by omega)]
        exact ⟨by omega, by omega, by omega, hc⟩
      · simp only []
        rw [w64_in (by omega)]
        exact ⟨by omega, by omega, by omega, hc⟩

/-- The square, as the reference has it. -/
def sqR (a b : Int) : R3 := if (absI a b).e ≠ 0 then ⟨0, 0, (absI a b).e⟩ else mulI (absI a b).lo (absI a b).hi (absI a b).lo (absI a b).hi
theorem sqI_mul (a b : Int) : sqI a b = sqR a b := by
  show _ = if (absI a b).e ≠ 0 then ⟨0, 0, (absI a b).e⟩ else mulI (absI a b).lo (absI a b).hi (absI a b).lo (absI a b).hi
  unfold sqI
  split
  · rfl
  · have h : (absI a b).e = 0 := by simpa using ‹¬ (absI a b).e ≠ 0›
    obtain ⟨h1, h2, h3, -⟩ := absI_ok h
    obtain ⟨x, hx⟩ : ∃ x, x = (absI a b).lo := ⟨_, rfl⟩
    obtain ⟨y, hy⟩ : ∃ y, y = (absI a b).hi := ⟨_, rfl⟩
    rw [← hx] at h1 h2
    rw [← hy] at h2 h3
    rw [← hx, ← hy]
    have hc : ckI x y = 0 := ckI_of ⟨h2, by omega, h3⟩
    have hc2 : ck2 x y x y = 0 := by unfold ck2; rw [hc]; rfl
    unfold mulI
    rw [hc2, if_neg (by simp)]
    have m1 : x * x ≤ x * y := Int.mul_le_mul_of_nonneg_left h2 h1
    have m2 : x * y ≤ y * y := Int.mul_le_mul_of_nonneg_right h2 (by omega)
    have e1 : min4 (x * x) (x * y) (y * x) (y * y) = x * x := by rw [Int.mul_comm y x]; unfold min4; omega
    have e2 : max4 (x * x) (x * y) (y * x) (y * y) = y * y := by rw [Int.mul_comm y x]; unfold max4; omega
    rw [e1, e2]
/-- The negative, as the reference has it. -/
def negR (a b : Int) : R3 := if ckI a b ≠ 0 then ⟨0, 0, ckI a b⟩ else madeI (wrap64 (-b)) (wrap64 (-a))
theorem negI_made (a b : Int) : negI a b = negR a b := by
  show _ = if ckI a b ≠ 0 then ⟨0, 0, ckI a b⟩ else madeI (wrap64 (-b)) (wrap64 (-a))
  unfold negI
  split
  · rfl
  · have ho := ckI_ok (show ckI a b = 0 by simpa using ‹¬ ckI a b ≠ 0›)
    unfold madeI
    rw [w64_in (by omega), w64_in (by omega), if_neg (by omega)]
/-- The absolute value, as the reference has it. -/
def absR (a b : Int) : R3 := if ckI a b ≠ 0 then ⟨0, 0, ckI a b⟩ else if 0 ≤ a then ⟨a, b, 0⟩ else if b ≤ 0 then madeI (wrap64 (-b)) (wrap64 (-a)) else madeI 0 (max (wrap64 (-a)) b)
theorem absI_made (a b : Int) : absI a b = absR a b := by
  show _ = if ckI a b ≠ 0 then ⟨0, 0, ckI a b⟩ else if 0 ≤ a then ⟨a, b, 0⟩ else if b ≤ 0 then madeI (wrap64 (-b)) (wrap64 (-a)) else madeI 0 (max (wrap64 (-a)) b)
  unfold absI
  split
  · rfl
  · have ho := ckI_ok (show ckI a b = 0 by simpa using ‹¬ ckI a b ≠ 0›)
    split
    · rfl
    · split
      · unfold madeI
        rw [w64_in (by omega), w64_in (by omega), if_neg (by omega)]
      · unfold madeI
        rw [w64_in (by omega), if_neg (by omega)]

theorem I64_0 : I64 0 := by unfold I64; omega
theorem madeI_I64 (a b : Int) (ha : I64 a) (hb : I64 b) : I64 (madeI a b).lo ∧ I64 (madeI a b).hi := by
  unfold madeI; split
  · exact ⟨I64_0, I64_0⟩
  · exact ⟨ha, hb⟩
theorem w64_I64 (x : Int) : I64 (wrap64 x) := ⟨(w64_mod x).2.1, (w64_mod x).2.2⟩
def R3.W (r : R3) : Prop := I64 r.lo ∧ I64 r.hi
theorem ifW {p : Prop} [Decidable p] {e : Int} {r : R3} (h : r.W) : (if p then ⟨0, 0, e⟩ else r : R3).W := by
  split
  · exact ⟨I64_0, I64_0⟩
  · exact h
theorem addI_W (a b c d : Int) : (addI a b c d).W := ifW (madeI_I64 _ _ (w64_I64 _) (w64_I64 _))
theorem subI_W (a b c d : Int) : (subI a b c d).W := ifW (madeI_I64 _ _ (w64_I64 _) (w64_I64 _))
theorem dn_I64 (T d : Int) : I64 (dnT T d) := by have := dnT_range T d; unfold I64; omega
theorem up_I64 (T d : Int) : I64 (upT T d) := by have := upT_range T d; unfold I64; omega
theorem mulI_W (a b c d : Int) : (mulI a b c d).W := ifW (madeI_I64 _ _ (dn_I64 _ _) (up_I64 _ _))
theorem sqI_W (a b : Int) : (sqI a b).W := ifW (madeI_I64 _ _ (dn_I64 _ _) (up_I64 _ _))
theorem negI_W (a b : Int) : (negI a b).W := by
  unfold negI; split
  · exact ⟨I64_0, I64_0⟩
  · exact ⟨w64_I64 _, w64_I64 _⟩
theorem doI_W {E : Int} {r : R3} (h : r.W) : (doI E r).W := ifW h

/-- A vector of intervals. -/
structure V3 where
  (a b c d e f : Int)
structure V7 where
  v : V3
  e : Int
def V3.O : V3 := ⟨0, 0, 0, 0, 0, 0⟩
def V3.I (v : V3) : Prop := (I64 v.a ∧ I64 v.b) ∧ (I64 v.c ∧ I64 v.d) ∧ (I64 v.e ∧ I64 v.f)
def ckV (v : V3) : Int := if ckI v.a v.b ≠ 0 then ckI v.a v.b else ck2 v.c v.d v.e v.f
def ck2V (a b : V3) : Int := if ckV a ≠ 0 then ckV a else ckV b
def v3 (x y z : R3) : V3 := ⟨x.lo, x.hi, y.lo, y.hi, z.lo, z.hi⟩
def vecV (E : Int) (v : V3) : V7 := if E ≠ 0 then ⟨V3.O, E⟩ else ⟨v, 0⟩
def each0 (f : Int → Int → Int → Int → R3) (a b : V3) : R3 := doI 0 (f a.a a.b b.a b.b)
def each1 (f : Int → Int → Int → Int → R3) (a b : V3) : R3 := doI (each0 f a b).e (f a.c a.d b.c b.d)
def each2 (f : Int → Int → Int → Int → R3) (a b : V3) : R3 := doI (each1 f a b).e (f a.e a.f b.e b.f)
def eachV (f : Int → Int → Int → Int → R3) (a b : V3) : V7 := if ck2V a b ≠ 0 then ⟨V3.O, ck2V a b⟩ else vecV (each2 f a b).e (v3 (each0 f a b) (each1 f a b) (each2 f a b))
def dot0 (E : Int) (a b : V3) : R3 := doI E (mulI a.a a.b b.a b.b)
def dot1 (E : Int) (a b : V3) : R3 := doI (dot0 E a b).e (mulI a.c a.d b.c b.d)
def dot2 (E : Int) (a b : V3) : R3 := doI (dot1 E a b).e (addI (dot0 E a b).lo (dot0 E a b).hi (dot1 E a b).lo (dot1 E a b).hi)
def dot3 (E : Int) (a b : V3) : R3 := doI (dot2 E a b).e (mulI a.e a.f b.e b.f)
def dotI (E : Int) (a b : V3) : R3 := doI (dot3 E a b).e (addI (dot2 E a b).lo (dot2 E a b).hi (dot3 E a b).lo (dot3 E a b).hi)
def dotV (a b : V3) : R3 := if ck2V a b ≠ 0 then ⟨0, 0, ck2V a b⟩ else dotI 0 a b
def nrm0 (E : Int) (a : V3) : R3 := doI E (sqI a.a a.b)
def nrm1 (E : Int) (a : V3) : R3 := doI (nrm0 E a).e (sqI a.c a.d)
def nrm2 (E : Int) (a : V3) : R3 := doI (nrm1 E a).e (addI (nrm0 E a).lo (nrm0 E a).hi (nrm1 E a).lo (nrm1 E a).hi)
def nrm3 (E : Int) (a : V3) : R3 := doI (nrm2 E a).e (sqI a.e a.f)
def nrmI (E : Int) (a : V3) : R3 := doI (nrm3 E a).e (addI (nrm2 E a).lo (nrm2 E a).hi (nrm3 E a).lo (nrm3 E a).hi)
def nrmV (a : V3) : R3 := if ckV a ≠ 0 then ⟨0, 0, ckV a⟩ else nrmI 0 a
/-- a b - c d. -/
def mm0 (E a b c d : Int) : R3 := doI E (mulI a b c d)
def mm1 (E a b c d e f g h : Int) : R3 := doI (mm0 E a b c d).e (mulI e f g h)
def mmI (E a b c d e f g h : Int) : R3 := doI (mm1 E a b c d e f g h).e (subI (mm0 E a b c d).lo (mm0 E a b c d).hi (mm1 E a b c d e f g h).lo (mm1 E a b c d e f g h).hi)
def crs0 (a b : V3) : R3 := mmI 0 a.c a.d b.e b.f a.e a.f b.c b.d
def crs1 (a b : V3) : R3 := mmI (crs0 a b).e a.e a.f b.a b.b a.a a.b b.e b.f
def crs2 (a b : V3) : R3 := mmI (crs1 a b).e a.a a.b b.c b.d a.c a.d b.a b.b
def crsV (a b : V3) : V7 := if ck2V a b ≠ 0 then ⟨V3.O, ck2V a b⟩ else vecV (crs2 a b).e (v3 (crs0 a b) (crs1 a b) (crs2 a b))
def scaV (a : V3) (x y : Int) : V7 := eachV mulI a ⟨x, y, x, y, x, y⟩
/-- A result is nothing where the error is. -/
theorem doI_nz {E : Int} {r : R3} (h : r.Z) (he : (doI E r).e ≠ 0) : doI E r = ⟨0, 0, (doI E r).e⟩ :=
  R3.eta _ _ _ _ ((doI_Z h) he).1 ((doI_Z h) he).2 rfl

theorem iv_Z {r : R3} (h : r.Z) : doI r.e ⟨r.lo, r.hi, 0⟩ = r := by
  unfold doI
  split
  · have h2 := h ‹_›
    exact (R3.eta r _ _ _ h2.1 h2.2 rfl).symm
  · exact (R3.eta r _ _ _ rfl rfl (by simpa using ‹¬ r.e ≠ 0›)).symm
theorem dotI_Z (E : Int) (a b : V3) : (dotI E a b).Z := doI_Z (addI_Z _ _ _ _)
theorem nrmI_Z (E : Int) (a : V3) : (nrmI E a).Z := doI_Z (addI_Z _ _ _ _)

end Go.Proofs.Ytomgcjeahkmhiaa
