/- Pulls are central; a tide's trace has 0. -/
import Derived.Test.YtomgcjeahkmhiaaCen
set_option linter.unusedSimpArgs false
set_option linter.unusedVariables false
namespace Go.Proofs.Ytomgcjeahkmhiaa
open Go.RowKit

theorem doI_ok {E : Int} {r : R3} (h : (doI E r).e = 0) : E = 0 ∧ r.e = 0 ∧ doI E r = r := by
  obtain ⟨h1, h2⟩ := doI_e0 h
  exact ⟨h1, h2, by unfold doI; rw [if_neg (by simpa using h1)]⟩
theorem mul_ck {a b c d : Int} (h : (mulI a b c d).e = 0) : ckI a b = 0 ∧ ckI c d = 0 := by
  unfold mulI at h; split at h
  · rename_i k; exact absurd h k
  · rename_i k; exact ck2_ok (Decidable.not_not.1 k)
theorem div_ck {a b c d : Int} (h : (divI a b c d).e = 0) : ckI a b = 0 ∧ ckI c d = 0 ∧ ¬ (c ≤ 0 ∧ 0 ≤ d) := by
  unfold divI at h; split at h
  · rename_i k; exact absurd h k
  · rename_i k; split at h
    · exact absurd h (by decide)
    · rename_i k2; exact ⟨(ck2_ok (Decidable.not_not.1 k)).1, (ck2_ok (Decidable.not_not.1 k)).2, k2⟩
theorem mul_nn {a b c d : Int} (h : (mulI a b c d).e = 0) (ha : 0 ≤ a) (hc : 0 ≤ c) : 0 ≤ (mulI a b c d).lo := by
  obtain ⟨k1, k2⟩ := mul_ck h
  obtain ⟨a1, _, _⟩ := ckI_ok k1
  obtain ⟨c1, _, _⟩ := ckI_ok k2
  unfold mulI at h ⊢; split at h
  · rename_i k; exact absurd h k
  · rename_i k; rw [if_neg k]
    obtain ⟨e, _, _⟩ := madeI_e0 h
    rw [e]
    have m : 0 ≤ min4 (a * c) (a * d) (b * c) (b * d) := by
      have i1 := Int.mul_nonneg ha hc
      have i2 := Int.mul_nonneg ha (by omega : 0 ≤ d)
      have i3 := Int.mul_nonneg (by omega : 0 ≤ b) hc
      have i4 := Int.mul_nonneg (by omega : 0 ≤ b) (by omega : 0 ≤ d)
      unfold min4; omega
    have := Int.ediv_nonneg m (by decide : (0 : Int) ≤ 1099511627776)
    dsimp only; unfold dnT; omega
theorem sq_abs {a b : Int} (h : (sqI a b).e = 0) : (absI a b).e = 0 ∧ sqI a b = mulI (absI a b).lo (absI a b).hi (absI a b).lo (absI a b).hi := by
  rw [sqI_mul] at h ⊢
  unfold sqR at h ⊢; split at h
  · rename_i k; exact absurd h k
  · rename_i k; exact ⟨Decidable.not_not.1 k, by rw [if_neg k]⟩
theorem sq_nn {a b : Int} (h : (sqI a b).e = 0) : 0 ≤ (sqI a b).lo := by
  obtain ⟨k, e⟩ := sq_abs h
  rw [e] at h ⊢
  have := (absI_ok k).1
  exact mul_nn h this this
theorem abs_has {a b : Int} (h : (absI a b).e = 0) : ∃ p : Int, p * p = a * a ∧ (absI a b).lo ≤ p ∧ p ≤ (absI a b).hi := by
  obtain ⟨_, _, _, k⟩ := absI_ok h
  obtain ⟨k1, k2, k3⟩ := ckI_ok k
  unfold absI
  rw [if_neg (by simpa using k)]
  split
  · exact ⟨a, rfl, by dsimp only; omega, by dsimp only; omega⟩
  · split
    · rw [w64_in (x := -b) (by omega), w64_in (x := -a) (by omega)]
      exact ⟨-a, by rw [Int.neg_mul_neg], by dsimp only; omega, by dsimp only; omega⟩
    · rw [w64_in (x := -a) (by omega)]
      exact ⟨-a, by rw [Int.neg_mul_neg], by dsimp only; omega, by dsimp only; omega⟩
theorem sq_hs {a b : Int} (h : (sqI a b).e = 0) : Hs (sqI a b).lo (sqI a b).hi (a * a) U := by
  obtain ⟨k, e⟩ := sq_abs h
  rw [e] at h ⊢
  obtain ⟨p, hp, l1, l2⟩ := abs_has k
  have m := mul_hs (p := p) (s := 1) (q := p) (t := 1) h ⟨by omega, by omega⟩ ⟨by omega, by omega⟩ (by decide) (by decide)
  rw [hp] at m
  simpa using m
theorem add_lo {a b c d : Int} (h : (addI a b c d).e = 0) : (addI a b c d).lo = a + c ∧ ckI a b = 0 ∧ ckI c d = 0 := by
  unfold addI at h ⊢; split at h
  · rename_i k; exact absurd h k
  · rename_i k; rw [if_neg k]
    obtain ⟨k1, k2⟩ := ck2_ok (Decidable.not_not.1 k)
    obtain ⟨a1, a2, a3⟩ := ckI_ok k1
    obtain ⟨c1, c2, c3⟩ := ckI_ok k2
    rw [w64_in (x := a + c) (by omega), w64_in (x := b + d) (by omega)] at h ⊢
    obtain ⟨e, _, _⟩ := madeI_e0 h
    rw [e]; exact ⟨rfl, k1, k2⟩
theorem U0 : (0 : Int) < U := by decide
/-- The square of a vector. -/
theorem nrm_hs {d : V3} (h : (nrmI 0 d).e = 0) : 0 ≤ (nrmI 0 d).lo ∧ Hs (nrmI 0 d).lo (nrmI 0 d).hi (((d.a * d.a) * U + (d.c * d.c) * U) * U + (d.e * d.e) * (U * U)) (U * U * U) := by
  unfold nrmI at h ⊢
  obtain ⟨h3, g4, e4⟩ := doI_ok h
  rw [e4]
  unfold nrm3 at h3 g4 ⊢
  obtain ⟨h2, g3, e3⟩ := doI_ok h3
  rw [e3] at g4 ⊢
  unfold nrm2 at h2 g4 ⊢
  obtain ⟨h1, g2, e2⟩ := doI_ok h2
  rw [e2] at g4 ⊢
  unfold nrm1 at h1 g2 g4 ⊢
  obtain ⟨h0, g1, e1⟩ := doI_ok h1
  rw [e1] at g2 g4 ⊢
  unfold nrm0 at h0 g2 g4 ⊢
  obtain ⟨_, g0, e0⟩ := doI_ok h0
  rw [e0] at g2 g4 ⊢
  have a := add_hs g2 (sq_hs g0) (sq_hs g1) U0 U0
  have b := add_hs g4 a (sq_hs g3) (Int.mul_pos U0 U0) U0
  have n0 := sq_nn g0; have n1 := sq_nn g1; have n3 := sq_nn g3
  have l2 := (add_lo g2).1
  have l4 := (add_lo g4).1
  exact ⟨by omega, b⟩
theorem sz_ok {q : R3} (hq : 0 ≤ q.lo) (h : (sz2 q).e = 0) : q.e = 0 ∧ 0 ≤ (sz2 q).lo := by
  unfold sz2 at h ⊢
  obtain ⟨h1, g2, e2⟩ := doI_ok h
  rw [e2]
  unfold sz1 at h1 g2 ⊢
  obtain ⟨h0, g1, e1⟩ := doI_ok h1
  rw [e1] at g2 ⊢
  have r0 : 0 ≤ (sqrtI q.lo q.hi).lo := by
    unfold sqrtI; split
    · exact Int.le_refl 0
    · split
      · exact Int.le_refl 0
      · exact (root_is (by omega)).1
  exact ⟨h0, mul_nn g2 hq r0⟩
/-- One part of a pull. -/
theorem pz_ok {c : R3} {E x y a b : Int} (h : (pzI c E x y a b).e = 0) : E = 0 ∧ (mulI x y a b).e = 0 ∧ (divI (mulI x y a b).lo (mulI x y a b).hi c.lo c.hi).e = 0 ∧ pzI c E x y a b = negI (divI (mulI x y a b).lo (mulI x y a b).hi c.lo c.hi).lo (divI (mulI x y a b).lo (mulI x y a b).hi c.lo c.hi).hi ∧ (negI (divI (mulI x y a b).lo (mulI x y a b).hi c.lo c.hi).lo (divI (mulI x y a b).lo (mulI x y a b).hi c.lo c.hi).hi).e = 0 := by
  unfold pzI at h ⊢
  obtain ⟨h2, g2, e2⟩ := doI_ok h
  rw [e2]
  unfold pyI at h2 g2 ⊢
  obtain ⟨h1, g1, e1⟩ := doI_ok h2
  rw [e1] at g2 ⊢
  unfold pxI at h1 g1 g2 ⊢
  obtain ⟨h0, g0, e0⟩ := doI_ok h1
  rw [e0] at g1 g2 ⊢
  exact ⟨h0, g0, g1, rfl, g2⟩
theorem pz_hs {c : R3} {E x y a b : Int} (h : (pzI c E x y a b).e = 0) (c0 : 0 ≤ c.lo) (xy : x ≤ y) (ab : a ≤ b) : 0 < c.lo ∧ Hs (pzI c E x y a b).lo (pzI c E x y a b).hi (-(x * a * U)) (U * c.lo) := by
  obtain ⟨_, h1, h2, e, h3⟩ := pz_ok h
  rw [e]
  obtain ⟨_, k2, k3⟩ := div_ck h2
  have cc := (ckI_ok k2).1
  have cl : 0 < c.lo := by omega
  have m := mul_hs h1 (Hs.pt x y xy) (Hs.pt a b ab) (by decide) (by decide)
  have dv := div_hs h2 cl m (Hs.pt c.lo c.hi cc) (by decide) (by decide) cl
  have n := neg_hs h3 dv
  refine ⟨cl, ?_⟩
  have r1 : x * a * 1 * U = x * a * U := by rw [Int.mul_one]
  have r2 : 1 * 1 * U * c.lo = U * c.lo := by rw [Int.one_mul, Int.one_mul]
  rw [r1, r2] at n
  exact n
theorem hs_zero {lo hi s : Int} (h : Hs lo hi 0 s) (s0 : 0 < s) : lo ≤ 0 ∧ 0 ≤ hi := by
  obtain ⟨h1, h2⟩ := h
  refine ⟨?_, ?_⟩
  · rcases ltge 0 lo with g | g
    · have := Int.mul_pos g s0; omega
    · exact g
  · rcases ltge hi 0 with g | g
    · have := Int.mul_neg_of_neg_of_pos g s0; omega
    · exact g
/-- One part of a cross product with what is parallel. -/
theorem mm_zero {E a b c d e f g h p q u v s : Int} (hm : (mmI E a b c d e f g h).e = 0) (h1 : Hs a b p 1) (h2 : Hs c d u s) (h3 : Hs e f q 1) (h4 : Hs g h v s) (s0 : 0 < s) (hz : p * u = q * v) :
    E = 0 ∧ (mmI E a b c d e f g h).lo ≤ 0 ∧ 0 ≤ (mmI E a b c d e f g h).hi := by
  unfold mmI at hm ⊢
  obtain ⟨k1, g2, e2⟩ := doI_ok hm
  rw [e2]
  unfold mm1 at k1 g2 ⊢
  obtain ⟨k0, g1, e1⟩ := doI_ok k1
  rw [e1] at g2 ⊢
  unfold mm0 at k0 g2 ⊢
  obtain ⟨kE, g0, e0⟩ := doI_ok k0
  rw [e0] at g2 ⊢
  have sU : 0 < 1 * s * U := Int.mul_pos (by omega) U0
  have m1 := mul_hs g0 h1 h2 (by decide) s0
  have m2 := mul_hs g1 h3 h4 (by decide) s0
  have z := sub_hs g2 m1 m2 sU sU
  have e : p * u * (1 * s * U) - q * v * (1 * s * U) = 0 := by rw [hz]; omega
  rw [e] at z
  exact ⟨kE, hs_zero z (Int.mul_pos sU sU)⟩
/-- The cross product of a vector and its pull has 0. -/
theorem central {x y : Int} {d : V3} (hk : lkI x y d = 0) (h : (pl2 (sz2 (nrmI 0 d)) x y d).e = 0) (hc : (crsV d (plV (sz2 (nrmI 0 d)) x y d)).e = 0) :
    ((crsV d (plV (sz2 (nrmI 0 d)) x y d)).v.a ≤ 0 ∧ 0 ≤ (crsV d (plV (sz2 (nrmI 0 d)) x y d)).v.b) ∧ ((crsV d (plV (sz2 (nrmI 0 d)) x y d)).v.c ≤ 0 ∧ 0 ≤ (crsV d (plV (sz2 (nrmI 0 d)) x y d)).v.d) ∧ ((crsV d (plV (sz2 (nrmI 0 d)) x y d)).v.e ≤ 0 ∧ 0 ≤ (crsV d (plV (sz2 (nrmI 0 d)) x y d)).v.f) := by
  obtain ⟨kx, kd⟩ := lkI_ok hk
  have xy := (ckI_ok kx).1
  have kd' : ckI d.a d.b = 0 ∧ ck2 d.c d.d d.e d.f = 0 := by unfold ckV at kd; split at kd <;> simp_all
  have da := (ckI_ok kd'.1).1
  have dc := (ckI_ok (ck2_ok kd'.2).1).1
  have de := (ckI_ok (ck2_ok kd'.2).2).1
  generalize hz : sz2 (nrmI 0 d) = c at *
  unfold pl2 at h
  have p1 := (pz_ok h).1
  unfold pl1 at p1
  have p0 := (pz_ok p1).1
  unfold pl0 at p0
  have pc := (pz_ok p0).1
  have q0 : (nrmI 0 d).e = 0 ∨ True := Or.inr trivial
  have c0 : 0 ≤ c.lo := by
    rw [← hz] at pc ⊢
    have ne : (nrmI 0 d).e = 0 := by
      unfold sz2 at pc; obtain ⟨a1, _, _⟩ := doI_ok pc
      unfold sz1 at a1; exact (doI_ok a1).1
    exact (sz_ok (nrm_hs ne).1 pc).2
  obtain ⟨cl, s2⟩ := pz_hs h c0 xy de
  obtain ⟨_, s1⟩ := pz_hs p1 c0 xy dc
  obtain ⟨_, s0⟩ := pz_hs p0 c0 xy da
  have S0 : 0 < U * c.lo := Int.mul_pos U0 cl
  unfold crsV at hc ⊢
  split at hc
  · rename_i k; exact absurd hc k
  · rename_i k
    rw [if_neg k]
    unfold vecV at hc ⊢
    split at hc
    · rename_i k2; exact absurd hc k2
    · rename_i k2
      rw [if_neg k2]
      have z2 : (crs2 d (plV c x y d)).e = 0 := Decidable.not_not.1 k2
      unfold crs2 at z2
      have t2 := mm_zero z2 (Hs.pt d.a d.b da) s1 (Hs.pt d.c d.d dc) s0 S0 (by grind)
      have z1 := t2.1
      unfold crs1 at z1
      have t1 := mm_zero z1 (Hs.pt d.e d.f de) s0 (Hs.pt d.a d.b da) s2 S0 (by grind)
      have z0 := t1.1
      unfold crs0 at z0
      have t0 := mm_zero z0 (Hs.pt d.c d.d dc) s2 (Hs.pt d.e d.f de) s1 S0 (by grind)
      exact ⟨t0.2, t1.2, t2.2⟩
end Go.Proofs.Ytomgcjeahkmhiaa
