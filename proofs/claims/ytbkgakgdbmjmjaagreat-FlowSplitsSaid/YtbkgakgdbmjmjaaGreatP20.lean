/- Operations of intervals: parts have parts as results. -/
import Derived.Test.YtbkgakgdbmjmjaaGreatP06
import Derived.Test.YtbkgakgdbmjmjaaGreatP19
set_option linter.unusedSimpArgs false
set_option linter.unusedVariables false
set_option maxRecDepth 100000
set_option maxHeartbeats 4000000
namespace Go.Proofs.YtbkgakgdbmjmjaaGreat
open Go.RowKit
def Pt (a b c d : Int) : Prop := c ≤ a ∧ a ≤ b ∧ b ≤ d
def RPt (r s : R3) : Prop := s.e = 0 → r.e = 0 ∧ Pt r.lo r.hi s.lo s.hi ∧ ckI s.lo s.hi = 0
theorem Pt.ck {a b c d : Int} (h : Pt a b c d) (k : ckI c d = 0) : ckI a b = 0 := by
 obtain ⟨h1, h2, h3⟩ := h
 obtain ⟨k1, k2, k3⟩ := ckI_ok k
 exact ckI_of ⟨h2, by omega, by omega⟩
theorem Pt.refl {a b : Int} (h : a ≤ b) : Pt a b a b := ⟨Int.le_refl _, h, Int.le_refl _⟩
theorem RPt.ck {r s : R3} (h : RPt r s) (k : s.e = 0) : ckI r.lo r.hi = 0 := by
 obtain ⟨_, a, b⟩ := h k; exact a.ck b
theorem made_pt {lo hi LO HI : Int} (h1 : LO ≤ lo) (h2 : lo ≤ hi) (h3 : hi ≤ HI) : RPt (madeI lo hi) (madeI LO HI) := by
 intro he
 unfold madeI at he ⊢
 split at he
 ·exact absurd he (by decide)
 ·rename_i k
  rw [if_neg k, if_neg (by omega)]
  exact ⟨rfl, ⟨h1, h2, h3⟩, ckI_of ⟨by dsimp only; omega, by dsimp only; omega, by dsimp only; omega⟩⟩
theorem ck2_pt {a b c d A B C D : Int} (h : Pt a b A B) (k : Pt c d C D) (e : ck2 A B C D = 0) : ck2 a b c d = 0 := by
 obtain ⟨e1, e2⟩ := ck2_ok e
 unfold ck2
 rw [h.ck e1]
 simp only [ne_eq, not_true_eq_false, if_false]
 exact k.ck e2
theorem if_pt {p q : Prop} [Decidable p] [Decidable q] {e f : Int} {r s : R3} (he : p → e ≠ 0) (hpq : ¬ p → ¬ q) (h : ¬ p → RPt r s) : RPt (if q then ⟨0, 0, f⟩ else r) (if p then ⟨0, 0, e⟩ else s) := by
 by_cases k : p
 ·intro hh; rw [if_pos k] at hh; exact absurd hh (he k)
 ·rw [if_neg k, if_neg (hpq k)]; exact h k
theorem add_pt {a b c d A B C D : Int} (h : Pt a b A B) (k : Pt c d C D) : RPt (addI a b c d) (addI A B C D) := by
 unfold addI
 refine if_pt (fun j => j) (fun j => by rw [ck2_pt h k (Decidable.not_not.1 j)]; simp) (fun j => ?_)
 obtain ⟨e1, e2⟩ := ck2_ok (Decidable.not_not.1 j)
 obtain ⟨h1, h2, h3⟩ := h
 obtain ⟨k1, k2, k3⟩ := k
 obtain ⟨x1, x2, x3⟩ := ckI_ok e1
 obtain ⟨y1, y2, y3⟩ := ckI_ok e2
 rw [w64_in (x := a + c) (by omega), w64_in (x := b + d) (by omega), w64_in (x := A + C) (by omega), w64_in (x := B + D) (by omega)]
 exact made_pt (by omega) (by omega) (by omega)
theorem sub_pt {a b c d A B C D : Int} (h : Pt a b A B) (k : Pt c d C D) : RPt (subI a b c d) (subI A B C D) := by
 unfold subI
 refine if_pt (fun j => j) (fun j => by rw [ck2_pt h k (Decidable.not_not.1 j)]; simp) (fun j => ?_)
 obtain ⟨e1, e2⟩ := ck2_ok (Decidable.not_not.1 j)
 obtain ⟨h1, h2, h3⟩ := h
 obtain ⟨k1, k2, k3⟩ := k
 obtain ⟨x1, x2, x3⟩ := ckI_ok e1
 obtain ⟨y1, y2, y3⟩ := ckI_ok e2
 rw [w64_in (x := a - d) (by omega), w64_in (x := b - c) (by omega), w64_in (x := A - D) (by omega), w64_in (x := B - C) (by omega)]
 exact made_pt (by omega) (by omega) (by omega)
theorem neg_pt {a b A B : Int} (h : Pt a b A B) : RPt (negI a b) (negI A B) := by
 unfold negI
 refine if_pt (fun j => j) (fun j => by rw [h.ck (Decidable.not_not.1 j)]; simp) (fun j => ?_)
 obtain ⟨x1, x2, x3⟩ := ckI_ok (Decidable.not_not.1 j)
 obtain ⟨h1, h2, h3⟩ := h
 rw [w64_in (x := -b) (by omega), w64_in (x := -a) (by omega), w64_in (x := -B) (by omega), w64_in (x := -A) (by omega)]
 intro _
 exact ⟨rfl, ⟨by dsimp only; omega, by dsimp only; omega, by dsimp only; omega⟩, ckI_of ⟨by dsimp only; omega, by dsimp only; omega, by dsimp only; omega⟩⟩
theorem dn_mono {T S d : Int} (d0 : 0 < d) (h : T ≤ S) : dnT T d ≤ dnT S d := by
 have := Int.ediv_le_ediv d0 h
 unfold dnT; omega
theorem up_mono {T S d : Int} (d0 : 0 < d) (h : T ≤ S) : upT T d ≤ upT S d := by
 have := dn_mono d0 (show -S ≤ -T by omega)
 unfold upT; omega
theorem dn_up {T d : Int} (d0 : 0 < d) : dnT T d ≤ upT T d := by
 have a := Int.ediv_mul_le T (show d ≠ 0 by omega)
 have b := Int.ediv_mul_le (-T) (show d ≠ 0 by omega)
 have c : T / d + (-T) / d ≤ 0 := by
  have : (T / d + (-T) / d) * d ≤ 0 := by rw [Int.add_mul]; omega
  exact Int.le_of_mul_le_mul_right (by simpa using this) d0
 unfold upT dnT; omega
theorem dn_up_le {T S d : Int} (d0 : 0 < d) (h : T ≤ S) : dnT T d ≤ upT S d := Int.le_trans (dn_mono d0 h) (dn_up d0)
theorem mm_mul {x l u k : Int} (h1 : l ≤ x) (h2 : x ≤ u) : min (l * k) (u * k) ≤ x * k ∧ x * k ≤ max (l * k) (u * k) := by
 by_cases hk : 0 ≤ k
 ·have a := Int.mul_le_mul_of_nonneg_right h1 hk
  have b := Int.mul_le_mul_of_nonneg_right h2 hk
  omega
 ·have a := Int.mul_le_mul_of_nonpos_right h1 (by omega : k ≤ 0)
  have b := Int.mul_le_mul_of_nonpos_right h2 (by omega : k ≤ 0)
  omega
theorem four_mul {a b c d x y : Int} (h1 : a ≤ x) (h2 : x ≤ b) (h3 : c ≤ y) (h4 : y ≤ d) :
    min4 (a * c) (a * d) (b * c) (b * d) ≤ x * y ∧ x * y ≤ max4 (a * c) (a * d) (b * c) (b * d) := by
 have m := mm_mul (k := y) h1 h2
 have p := mm_mul (k := a) h3 h4
 have q := mm_mul (k := b) h3 h4
 rw [Int.mul_comm c a, Int.mul_comm d a, Int.mul_comm y a] at p
 rw [Int.mul_comm c b, Int.mul_comm d b, Int.mul_comm y b] at q
 unfold min4 max4; omega
theorem mul_pt {a b c d A B C D : Int} (h : Pt a b A B) (k : Pt c d C D) : RPt (mulI a b c d) (mulI A B C D) := by
 unfold mulI
 refine if_pt (fun j => j) (fun j => by rw [ck2_pt h k (Decidable.not_not.1 j)]; simp) (fun j => ?_)
 obtain ⟨h1, h2, h3⟩ := h
 obtain ⟨k1, k2, k3⟩ := k
 have p1 := four_mul (a := A) (b := B) (c := C) (d := D) (x := a) (y := c) (by omega) (by omega) (by omega) (by omega)
 have p2 := four_mul (a := A) (b := B) (c := C) (d := D) (x := a) (y := d) (by omega) (by omega) (by omega) (by omega)
 have p3 := four_mul (a := A) (b := B) (c := C) (d := D) (x := b) (y := c) (by omega) (by omega) (by omega) (by omega)
 have p4 := four_mul (a := A) (b := B) (c := C) (d := D) (x := b) (y := d) (by omega) (by omega) (by omega) (by omega)
 generalize min4 (A * C) (A * D) (B * C) (B * D) = m at *
 generalize max4 (A * C) (A * D) (B * C) (B * D) = n at *
 refine made_pt (dn_mono (by decide) ?_) (dn_up_le (by decide) ?_) (up_mono (by decide) ?_)
 ·unfold min4 at *; omega
 ·unfold min4 max4; omega
 ·unfold max4 at *; omega
theorem abs_pt {a b A B : Int} (h : Pt a b A B) : RPt (absI a b) (absI A B) := by
 unfold absI
 refine if_pt (fun j => j) (fun j => by rw [h.ck (Decidable.not_not.1 j)]; simp) (fun j => ?_)
 obtain ⟨x1, x2, x3⟩ := ckI_ok (Decidable.not_not.1 j)
 obtain ⟨h1, h2, h3⟩ := h
 rw [w64_in (x := -b) (by omega), w64_in (x := -a) (by omega), w64_in (x := -B) (by omega), w64_in (x := -A) (by omega)]
 intro _
 refine ⟨?_, ?_, ckI_of ?_⟩
 ·repeat' split
  all_goals rfl
 ·unfold Pt
  repeat' split
  all_goals (dsimp only; omega)
 ·repeat' split
  all_goals (dsimp only; omega)
theorem sq_pt {a b A B : Int} (h : Pt a b A B) : RPt (sqI a b) (sqI A B) := by
 rw [sqI_mul, sqI_mul]
 unfold sqR
 have k := abs_pt h
 refine if_pt (fun j => j) (fun j => by rw [(k (Decidable.not_not.1 j)).1]; simp) (fun j => ?_)
 have := (k (Decidable.not_not.1 j)).2.1
 exact mul_pt this this
theorem dn_pick {a b C D c d : Int} (hab : a ≤ b) (h1 : C ≤ c) (h2 : c ≤ d) (h3 : d ≤ D) (h0 : 0 < C) : dnT (a * 1099511627776) (if a < 0 then C else D) ≤ dnT (b * 1099511627776) (if b < 0 then c else d) := by
 have key : a * 1099511627776 / (if a < 0 then C else D) ≤ b * 1099511627776 / (if b < 0 then c else d) := by
  by_cases ha : a < 0
  ·rw [if_pos ha]
   by_cases hb : b < 0
   ·rw [if_pos hb]
    exact Int.le_trans (Int.ediv_le_ediv h0 (by omega)) (ediv_le_neg (by omega) h0 h1)
   ·rw [if_neg hb]
    have p : a * 1099511627776 / C < 0 := Int.ediv_neg_of_neg_of_pos (by omega) h0
    have q : 0 ≤ b * 1099511627776 / d := Int.ediv_nonneg (by omega) (by omega)
    omega
  ·rw [if_neg ha, if_neg (by omega)]
   exact Int.le_trans (ediv_le_pos (by omega) (by omega) h3) (Int.ediv_le_ediv (by omega) (by omega))
 unfold dnT; omega
theorem up_pick {a b C D c d : Int} (hab : b ≤ a) (h1 : C ≤ c) (h2 : c ≤ d) (h3 : d ≤ D) (h0 : 0 < C) : upT (b * 1099511627776) (if 0 < b then c else d) ≤ upT (a * 1099511627776) (if 0 < a then C else D) := by
 have := dn_pick (a := -a) (b := -b) (by omega) h1 h2 h3 h0
 have e1 : (if -a < 0 then C else D) = (if 0 < a then C else D) := by split <;> split <;> omega
 have e2 : (if -b < 0 then c else d) = (if 0 < b then c else d) := by split <;> split <;> omega
 rw [e1, e2, Int.neg_mul, Int.neg_mul] at this
 unfold upT; omega
theorem divP_pt {a b c d A B C D : Int} (h : Pt a b A B) (k : Pt c d C D) (h0 : 0 < C) : RPt (divP a b c d) (divP A B C D) := by
 obtain ⟨h1, h2, h3⟩ := h
 obtain ⟨k1, k2, k3⟩ := k
 refine made_pt (dn_pick h1 k1 k2 k3 h0) ?_ (up_pick h3 k1 k2 k3 h0)
 have c0 : 0 < c := by omega
 have m1 : dnT (a * 1099511627776) (if a < 0 then c else d) ≤ dnT (a * 1099511627776) c := by
  split
  ·exact Int.le_refl _
  ·have := ediv_le_pos (T := a * 1099511627776) (by omega) c0 k2
   unfold dnT; omega
 have m2 : dnT (-(b * 1099511627776)) (if 0 < b then c else d) ≤ dnT (-(b * 1099511627776)) c := by
  split
  ·exact Int.le_refl _
  ·have := ediv_le_pos (T := -(b * 1099511627776)) (by omega) c0 k2
   unfold dnT; omega
 have m3 := dn_up_le (T := a * 1099511627776) (S := b * 1099511627776) c0 (by omega)
 unfold upT at m3 ⊢
 omega
theorem div_pt {a b c d A B C D : Int} (h : Pt a b A B) (k : Pt c d C D) : RPt (divI a b c d) (divI A B C D) := by
 unfold divI
 refine if_pt (fun j => j) (fun j => by rw [ck2_pt h k (Decidable.not_not.1 j)]; simp) (fun j => ?_)
 have kk := k
 obtain ⟨k1, k2, k3⟩ := k
 refine if_pt (fun _ => by decide) (fun j => by omega) (fun j => ?_)
 by_cases hd : D < 0
 ·rw [if_pos hd, if_pos (by omega)]
  exact divP_pt ⟨by have := h.2.2; omega, by have := h.2.1; omega, by have := h.1; omega⟩ ⟨by omega, by omega, by omega⟩ (by omega)
 ·rw [if_neg hd, if_neg (by omega)]
  exact divP_pt h kk (by omega)
/-! Roots. -/
theorem nat_rootQ (n : Nat) : ∃ r : Nat, r * r ≤ n ∧ n < (r + 1) * (r + 1) := by
 induction n with
 | zero => exact ⟨0, by decide, by decide⟩
 | succ n ih =>
  obtain ⟨r, h1, h2⟩ := ih
  by_cases h : n + 1 < (r + 1) * (r + 1)
  ·exact ⟨r, by omega, h⟩
  ·have e : n + 1 = (r + 1) * (r + 1) := by omega
   refine ⟨r + 1, by omega, ?_⟩
   rw [e]
   have : (r + 1 + 1) * (r + 1 + 1) = (r + 1) * (r + 1) + (r + 1) + (r + 1) + 1 := by grind
   omega
theorem rootI_is {x : Int} (h : 0 ≤ x) : IsRoot x (rootI x) := by
 obtain ⟨r, h1, h2⟩ := nat_rootQ (x * 1099511627776).toNat
 have e : (((x * 1099511627776).toNat : Nat) : Int) = x * 1099511627776 := by omega
 refine IsRoot.of (r := (r : Int)) ⟨by omega, ?_, ?_⟩
 ·have : ((r * r : Nat) : Int) ≤ (((x * 1099511627776).toNat : Nat) : Int) := Int.ofNat_le.2 h1
  rw [e, Int.natCast_mul] at this; exact this
 ·have : (((x * 1099511627776).toNat : Nat) : Int) < (((r + 1) * (r + 1) : Nat) : Int) := Int.ofNat_lt.2 h2
  rw [e, Int.natCast_mul, Int.natCast_add] at this; exact this
theorem rootI_mono {x y : Int} (h0 : 0 ≤ x) (h : x ≤ y) : rootI x ≤ rootI y := by
 obtain ⟨a1, a2, a3⟩ := rootI_is h0
 obtain ⟨b1, b2, b3⟩ := rootI_is (show 0 ≤ y by omega)
 have := sq_lt (r := rootI x) (s := rootI y + 1) (by omega) (by omega)
 omega
noncomputable def rtU (b : Int) : Int := if rootI b * rootI b = b * 1099511627776 then rootI b else rootI b + 1
theorem rtU_is {b : Int} (h : 0 ≤ b) : b * 1099511627776 ≤ rtU b * rtU b ∧ ∀ s, 0 ≤ s → b * 1099511627776 ≤ s * s → rtU b ≤ s := by
 obtain ⟨b1, b2, b3⟩ := rootI_is h
 unfold rtU
 split
 ·rename_i e
  refine ⟨by omega, fun s hs hk => ?_⟩
  have := sq_lt (r := rootI b) (s := s + 1) (by omega) (by
   have : (s + 1) * (s + 1) = s * s + s + s + 1 := by grind
   omega)
  omega
 ·rename_i e
  refine ⟨by omega, fun s hs hk => ?_⟩
  have := sq_lt (r := rootI b) (s := s) hs (by omega)
  omega
theorem rtU_mono {x y : Int} (h0 : 0 ≤ x) (h : x ≤ y) : rtU x ≤ rtU y := by
 have a := (rtU_is h0).2 (rtU y) (by
  obtain ⟨b1, _⟩ := rootI_is (show 0 ≤ y by omega)
  unfold rtU; split <;> omega) (by have := (rtU_is (show 0 ≤ y by omega)).1; omega)
 exact a
theorem root_rtU {x y : Int} (h0 : 0 ≤ x) (h : x ≤ y) : rootI x ≤ rtU y := by
 have := rootI_mono h0 h
 unfold rtU; split <;> omega
theorem rtU_big {b : Int} (h : 0 ≤ b) (hb : b ≤ 2305843009213693952) : rtU b ≤ 2305843009213693952 := (rtU_is h).2 _ (by decide) (by
 have : (2305843009213693952 : Int) * 2305843009213693952 = 2305843009213693952 * 2305843009213693952 := rfl
 omega)
theorem sqrt_pt {a b A B : Int} (h : Pt a b A B) : RPt (sqrtI a b) (sqrtI A B) := by
 unfold sqrtI
 refine if_pt (fun j => j) (fun j => by rw [h.ck (Decidable.not_not.1 j)]; simp) (fun j => ?_)
 obtain ⟨x1, x2, x3⟩ := ckI_ok (Decidable.not_not.1 j)
 obtain ⟨h1, h2, h3⟩ := h
 refine if_pt (fun _ => by decide) (fun j => by omega) (fun j => ?_)
 intro _
 have r1 := rootI_mono (x := A) (y := a) (by omega) h1
 have r2 := root_rtU (x := a) (y := b) (by omega) h2
 have r3 := rtU_mono (x := b) (y := B) (by omega) h3
 have r4 := rtU_big (b := B) (by omega) x3
 have r5 := (rootI_is (show 0 ≤ A by omega)).1
 exact ⟨rfl, ⟨r1, r2, r3⟩, ckI_of ⟨show rootI A ≤ rtU B by omega, show -2305843009213693952 ≤ rootI A by omega, r4⟩⟩
/-! Chains with an error that is kept. -/
theorem do_ok {E : Int} {r : R3} (h : (doI E r).e = 0) : E = 0 ∧ r.e = 0 ∧ doI E r = r := by
 unfold doI at h ⊢
 by_cases k : E = 0
 ·rw [if_neg (by omega)] at h ⊢; exact ⟨k, h, rfl⟩
 ·rw [if_pos k] at h; exact absurd h k
theorem do_pt {E F : Int} {r s : R3} (hE : F = 0 → E = 0) (h : F = 0 → RPt r s) : RPt (doI E r) (doI F s) := by
 intro he
 obtain ⟨e1, e2, e3⟩ := do_ok he
 have : doI E r = r := by unfold doI; rw [if_neg (by simpa using hE e1)]
 rw [this, e3]
 exact h e1 e2
def PtV (u v : V3) : Prop := Pt u.a u.b v.a v.b ∧ Pt u.c u.d v.c v.d ∧ Pt u.e u.f v.e v.f
theorem PtV.refl {v : V3} (h : ckV v = 0) : PtV v v := by
 unfold ckV at h
 by_cases k : ckI v.a v.b = 0
 ·rw [if_neg (by omega)] at h
  obtain ⟨k1, k2⟩ := ck2_ok h
  exact ⟨Pt.refl (ckI_ok k).1, Pt.refl (ckI_ok k1).1, Pt.refl (ckI_ok k2).1⟩
 ·rw [if_pos k] at h; exact absurd h k
theorem ckV_ok {v : V3} (h : ckV v = 0) : ckI v.a v.b = 0 ∧ ckI v.c v.d = 0 ∧ ckI v.e v.f = 0 := by
 unfold ckV at h
 by_cases k : ckI v.a v.b = 0
 ·rw [if_neg (by omega)] at h
  obtain ⟨k1, k2⟩ := ck2_ok h
  exact ⟨k, k1, k2⟩
 ·rw [if_pos k] at h; exact absurd h k
theorem ckV_of {v : V3} (h1 : ckI v.a v.b = 0) (h2 : ckI v.c v.d = 0) (h3 : ckI v.e v.f = 0) : ckV v = 0 := by
 unfold ckV ck2
 rw [if_neg (by omega), if_neg (by omega)]; exact h3
theorem PtV.ck {u v : V3} (h : PtV u v) (k : ckV v = 0) : ckV u = 0 := by
 obtain ⟨k1, k2, k3⟩ := ckV_ok k
 exact ckV_of (h.1.ck k1) (h.2.1.ck k2) (h.2.2.ck k3)
theorem PtV.trans {u v t : V3} (h : PtV u v) (k : PtV v t) : PtV u t := by
 obtain ⟨⟨a1, a2, a3⟩, ⟨b1, b2, b3⟩, ⟨c1, c2, c3⟩⟩ := h
 obtain ⟨⟨d1, d2, d3⟩, ⟨e1, e2, e3⟩, ⟨f1, f2, f3⟩⟩ := k
 exact ⟨⟨by omega, a2, by omega⟩, ⟨by omega, b2, by omega⟩, ⟨by omega, c2, by omega⟩⟩
def VPt (r s : V7) : Prop := s.e = 0 → r.e = 0 ∧ PtV r.v s.v ∧ ckV s.v = 0
theorem nrmI_pt {a A : V3} (h : PtV a A) {E F : Int} (hE : F = 0 → E = 0) : RPt (nrmI E a) (nrmI F A) := by
 have p0 : RPt (nrm0 E a) (nrm0 F A) := do_pt hE (fun _ => sq_pt h.1)
 have p1 : RPt (nrm1 E a) (nrm1 F A) := do_pt (fun e => (p0 e).1) (fun _ => sq_pt h.2.1)
 have g0 : (nrm1 F A).e = 0 → (nrm0 F A).e = 0 := fun e => (do_ok e).1
 have p2 : RPt (nrm2 E a) (nrm2 F A) := do_pt (fun e => (p1 e).1) (fun e => add_pt (p0 (g0 e)).2.1 (p1 e).2.1)
 have p3 : RPt (nrm3 E a) (nrm3 F A) := do_pt (fun e => (p2 e).1) (fun _ => sq_pt h.2.2)
 have g2 : (nrm3 F A).e = 0 → (nrm2 F A).e = 0 := fun e => (do_ok e).1
 exact do_pt (fun e => (p3 e).1) (fun e => add_pt (p2 (g2 e)).2.1 (p3 e).2.1)
theorem nrmV_pt {a A : V3} (h : PtV a A) : RPt (nrmV a) (nrmV A) := by
 unfold nrmV
 exact if_pt (fun j => j) (fun j => by rw [h.ck (Decidable.not_not.1 j)]; simp) (fun _ => nrmI_pt h (fun e => e))
def scI (a b n d : Int) : R3 := if ckI a b ≠ 0 then ⟨0, 0, ckI a b⟩ else madeI (dnT (a * n) d) (upT (b * n) d)
theorem scI_W (a b n d : Int) : (scI a b n d).W := ifW (madeI_I64 _ _ (dn_I64 _ _) (up_I64 _ _))
theorem ssc_p (a b n d : Int) (w : World) (hk : ckI a b = 0) (kn : I64 n) (kn0 : 0 ≤ n) (kd : I64 d) (kd0 : 0 < d) :
    Calls Tryz.prog 106 #[.agg #[.int .i64 a, .int .i64 b], .int .i64 n, .int .i64 d] w fun e w' => e = .returned (.tuple #[.agg #[.int .i64 (madeI (dnT (a * n) d) (upT (b * n) d)).lo, .int .i64 (madeI (dnT (a * n) d) (upT (b * n) d)).hi], .int .i64 (madeI (dnT (a * n) d) (upT (b * n) d)).e]) ∧ Ext w w' := by
 obtain ⟨ka1, ka2, ka3⟩ := ckI_ok hk
 have hA : I64 a := by unfold I64; omega
 have hB : I64 b := by unfold I64; omega
 have hle : a * n ≤ b * n := Int.mul_le_mul_of_nonneg_right ka1 kn0
 have d63 : d < 9223372036854775808 := kd.2
 have d64 : d < 18446744073709551616 := by omega
 have e1 : IntKind.u64.wrap d = d := by rw [IntKind.wrap_u64]; omega
 have dn0 : decide (d < 0) = false := by simp; omega
 have dz : ¬ d = 0 := by omega
 have m1 : min2 (a * n) (b * n) = a * n := by unfold min2; omega
 have m2 : max2 (a * n) (b * n) = b * n := by unfold max2; omega
 go_enter Tryz.func106, Tryz.ntmps106
 go_upto_region 6 with (first | (go_at_call 66; (with_reducible refine (check_1 _ _ _ _ c_53).mono ?_); rintro e w1 ⟨rfl, hb⟩; obtain ⟨_, _, ⟨hc, hf⟩, hz⟩ := hb.c3; (try simp only [wsz] at hz hc hf); (try have zz := q_7 w.heap.size w1.heap.size); (try have zz := q_7 (w.heap.size + 1) w1.heap.size); (try have zz := q_7 (w.heap.size + 1 + 1) w1.heap.size)))
 refine wp_name fun V hV => ?_
 obtain ⟨hVc, hVf, hVz⟩ := hV.cells
 have hVe : Ext w V := Ext.same hV ex_
 (try simp only [wsz] at hVz)
 replace hVz := And.intro (Nat.le_of_eq hVz) (Nat.le_of_eq hVz.symm)
 have hlv : w.heap.size < V.heap.size ∧ w.heap.size + 1 < V.heap.size := (by refine ⟨?_, ?_⟩ <;> omega)
 have hd : ¬ w.heap.size = w.heap.size + 1 ∧ ¬ w.heap.size + 1 = w.heap.size := (by refine ⟨?_, ?_⟩ <;> omega)
 have hnv : ¬ w.heap.size = V.heap.size ∧ ¬ w.heap.size + 1 = V.heap.size := (by omega)
 go_cut [9, 10] (fun sx0 sx1 wx => ∃ g h : Nat, sx0 = .pointer (some ⟨g, 0, none⟩) ∧ sx1 = .pointer (some ⟨h, 0, none⟩) ∧ Ext V wx ∧ V.heap.size ≤ g ∧ g < wx.heap.size ∧ (∀ o, wx.frozen? ⟨g, o, none⟩ = false) ∧ V.heap.size ≤ h ∧ h < wx.heap.size ∧ (∀ o, wx.frozen? ⟨h, o, none⟩ = false) ∧ g ≠ h ∧ wx.cell? ⟨g, 0, none⟩ = some (.int .i64 ((a * n) / 18446744073709551616)) ∧ wx.cell? ⟨g, 1, none⟩ = some (.int .u64 ((a * n) % 18446744073709551616)) ∧ wx.cell? ⟨h, 0, none⟩ = some (.int .i64 ((b * n) / 18446744073709551616)) ∧ wx.cell? ⟨h, 1, none⟩ = some (.int .u64 ((b * n) % 18446744073709551616)))
 case first =>
  have hWe : Ext V V := Ext.refl V
  go_region_held3 (fun w' => (∀ b o, b < V.heap.size → w'.cell? ⟨b, o, none⟩ = if b = V.heap.size ∧ 0 ≤ o ∧ o < 0 then (V.cell? ⟨b, o, none⟩).map (obx w' b o) else V.cell? ⟨b, o, none⟩) ∧ (∀ b o, b < V.heap.size → w'.frozen? ⟨b, o, none⟩ = V.frozen? ⟨b, o, none⟩) ∧ V.heap.size ≤ w'.heap.size ∧ Ext V w') (exact k_2) ((first | (go_at_call 163; (with_reducible refine (times_any a n _ hA kn).mono ?_); rintro e w2 ⟨rfl, hb0⟩; obtain ⟨hq0, hr0⟩ := hb0.cells; have hz0 := hb0.size; (try simp only [wsd] at hz0 hq0 hr0); (try have hly0 : V.heap.size < w2.heap.size := by omega); (try have hly1 : V.heap.size + 1 < w2.heap.size := by omega)) | (go_at_call 163; (with_reducible refine (times_any b n _ hB kn).mono ?_); rintro e w3 ⟨rfl, hb1⟩; obtain ⟨hq1, hr1⟩ := hb1.cells; have hz1 := hb1.size; (try simp only [wsd] at hz1 hq1 hr1); (try have hly0 : V.heap.size < w3.heap.size := by omega); (try have hly1 : V.heap.size + 1 < w3.heap.size := by omega); (try have hly2 : w2.heap.size < w3.heap.size := by omega); (try have hly3 : w2.heap.size + 1 < w3.heap.size := by omega))))
  all_goals
   rename_i hOld
   clear hOld
   go_wp2_with fail
   go_meet
   refine ⟨_, _, rfl, rfl, ?_, ?_, ?_, ?_, ?_, ?_, ?_, ?_, ?_, ?_, ?_, ?_⟩
   ·exact b_5
   all_goals first | ((try simp only [wsz]); omega) | (intro o; simp [go_sem, ↓IntWalk.iteOmega, *]; done) | (simp [go_sem, ↓IntWalk.iteOmega, *]; done)
 case rest =>
  obtain ⟨g, h, rfl, rfl, hx, hg01, hg02, hgf0, hg11, hg12, hgf1, hgh, hv00, hv01, hv10, hv11⟩ := hcut
  obtain ⟨_, _, hcc, hcf⟩ := hx.cells2
  have hcz := hx.size
  replace hVe := hVe.trans hx
  have hlv2 : w.heap.size < wc.heap.size ∧ w.heap.size + 1 < wc.heap.size := (by omega)
  have hlg := q_10 w.heap.size g h (w.heap.size + 1)
  clear hx
  go_wp2_with fail
  refine wp_name fun W hW => ?_
  obtain ⟨hWc, hWf, hWz⟩ := hW.cells
  have hWe : Ext w W := Ext.same hW ex_
  (try simp only [wsz] at hWz)
  (try simp only [size_drew, size_drewN, World.size_alloc, World.size_setCell] at hWz)
  replace hWz := And.intro (Nat.le_of_eq hWz) (Nat.le_of_eq hWz.symm)
  have hlt := q_0 w.heap.size W.heap.size (w.heap.size + 1) g h
  have hd := q_17 w.heap.size (w.heap.size + 1) g h
  go_region_held3 (fun w' => (∀ b o, b < W.heap.size → w'.cell? ⟨b, o, none⟩ = if b = w.heap.size + 1 ∧ 0 ≤ o ∧ o < 2 then (W.cell? ⟨b, o, none⟩).map (obx w' b o) else W.cell? ⟨b, o, none⟩) ∧ (∀ b o, b < W.heap.size → w'.frozen? ⟨b, o, none⟩ = W.frozen? ⟨b, o, none⟩) ∧ W.heap.size ≤ w'.heap.size ∧ Ext w w') (exact k_2) ((first | (go_at_call 165; (with_reducible refine (least_1 (a * n) (b * n) _ _ _ c_27 c_27).mono ?_); simp only [m1]; rintro e w2 ⟨rfl, hb0⟩; obtain ⟨hq0, hr0⟩ := hb0.cells; have hz0 := hb0.size; (try simp only [wsd] at hz0 hq0 hr0); (try have hly0 : W.heap.size < w2.heap.size := by omega); (try have hly1 : W.heap.size + 1 < w2.heap.size := by omega)) | (go_at_call 167; (with_reducible refine (greatest_1 (a * n) (b * n) _ _ _ c_27 c_27).mono ?_); simp only [m2]; rintro e w4 ⟨rfl, hb2⟩; obtain ⟨hq2, hr2⟩ := hb2.cells; have hz2 := hb2.size; (try simp only [wsd] at hz2 hq2 hr2); (try have hly0 : W.heap.size < w4.heap.size := by omega); (try have hly1 : W.heap.size + 1 < w4.heap.size := by omega); (try have hly2 : w2.heap.size < w4.heap.size := by omega); (try have hly3 : w3.heap.size < w4.heap.size := by omega)) | (go_at_call 166; (with_reducible refine (down_any _ d _ (abs_mul_bound hA kn).1 (abs_mul_bound hA kn).2 kd0 d64).mono ?_); rintro e w3 ⟨rfl, hb1⟩; obtain ⟨hq1, hr1⟩ := hb1.cells; have hz1 := hb1.size; (try simp only [wsd] at hz1 hq1 hr1); (try have hly0 : W.heap.size < w3.heap.size := by omega); (try have hly1 : W.heap.size + 1 < w3.heap.size := by omega); (try have hly2 : w2.heap.size < w3.heap.size := by omega)) | (go_at_call 168; (with_reducible refine (up_any _ d _ (abs_mul_bound hB kn).1 (abs_mul_bound hB kn).2 kd0 d64).mono ?_); rintro e w5 ⟨rfl, hb3⟩; obtain ⟨hq3, hr3⟩ := hb3.cells; have hz3 := hb3.size; (try simp only [wsd] at hz3 hq3 hr3); (try have hly0 : W.heap.size < w5.heap.size := by omega); (try have hly1 : W.heap.size + 1 < w5.heap.size := by omega); (try have hly2 : w2.heap.size < w5.heap.size := by omega); (try have hly3 : w3.heap.size < w5.heap.size := by omega); (try have hly4 : w4.heap.size < w5.heap.size := by omega)) | (go_at_call 112; (with_reducible refine (span_made _ _ _).mono ?_); rintro e w6 ⟨rfl, hb4⟩; obtain ⟨hq4, hr4⟩ := hb4.cells; have hz4 := hb4.size; (try simp only [wsd] at hz4 hq4 hr4); (try have hly0 : W.heap.size < w6.heap.size := by omega); (try have hly1 : W.heap.size + 1 < w6.heap.size := by omega); (try have hly2 : w2.heap.size < w6.heap.size := by omega); (try have hly3 : w3.heap.size < w6.heap.size := by omega); (try have hly4 : w4.heap.size < w6.heap.size := by omega); (try have hly5 : w5.heap.size < w6.heap.size := by omega))))
  all_goals
   rename_i hOld
   have hE := hOld.2.2.2
   have hO := And.intro hOld.1 (And.intro hOld.2.1 hOld.2.2.1)
   clear hOld
   replace hO := heldBack hO c_18
   replace hO := heldBack hO c_18
   obtain ⟨hOc, hOf, hOz⟩ := heldEnd hO
   clear hO
   go_wp2_with fail
   refine bodyPost_ret (v := .tuple #[.agg #[.int .i64 (madeI (dnT (a * n) d) (upT (b * n) d)).lo, .int .i64 (madeI (dnT (a * n) d) (upT (b * n) d)).hi], .int .i64 (madeI (dnT (a * n) d) (upT (b * n) d)).e]) ?_ rfl ⟨rfl, ?_⟩
   ·(try simp only [bn_, bm_] at *)
    simp [results, Tryz.results106, go_sem, ↓IntWalk.iteOmega, ne_eq, *]
   ·exact b_6
theorem ssc_e (a b n d : Int) (w : World) (hk : ¬ ckI a b = 0) :
    Calls Tryz.prog 106 #[.agg #[.int .i64 a, .int .i64 b], .int .i64 n, .int .i64 d] w fun e w' => e = .returned (.tuple #[.agg #[.int .i64 (R3.mk 0 0 (ckI a b)).lo, .int .i64 (R3.mk 0 0 (ckI a b)).hi], .int .i64 (R3.mk 0 0 (ckI a b)).e]) ∧ Ext w w' := by
 go_enter Tryz.func106, Tryz.ntmps106
 go_wp2_with (first | (go_at_call 66; (with_reducible refine (check_1 _ _ _ _ c_53).mono ?_); rintro e w1 ⟨rfl, hb⟩; obtain ⟨_, _, ⟨hc, hf⟩, hz⟩ := hb.c3; (try simp only [wsz] at hz hc hf); (try have zz := q_7 w.heap.size w1.heap.size); (try have zz := q_7 (w.heap.size + 1) w1.heap.size); (try have zz := q_7 (w.heap.size + 1 + 1) w1.heap.size)))
 all_goals
  refine bodyPost_ret (v := .tuple #[.agg #[.int .i64 (R3.mk 0 0 (ckI a b)).lo, .int .i64 (R3.mk 0 0 (ckI a b)).hi], .int .i64 (R3.mk 0 0 (ckI a b)).e]) ?_ rfl ⟨rfl, ?_⟩
  ·(try simp only [bn_, bm_] at *)
   simp [results, Tryz.results106, go_sem, ↓IntWalk.iteOmega, ne_eq, *]
  ·exact b_6
theorem span_sc (a b n d : Int) (w : World) (kn : I64 n) (kn0 : 0 ≤ n) (kd : I64 d) (kd0 : 0 < d) :
    Calls Tryz.prog 106 #[.agg #[.int .i64 a, .int .i64 b], .int .i64 n, .int .i64 d] w fun e w' => e = .returned (.tuple #[.agg #[.int .i64 (scI a b n d).lo, .int .i64 (scI a b n d).hi], .int .i64 (scI a b n d).e]) ∧ Ext w w' := by
 by_cases hk : ckI a b = 0
 ·have e : scI a b n d = madeI (dnT (a * n) d) (upT (b * n) d) := by unfold scI; rw [if_neg c_68]
  rw [e]; exact ssc_p a b n d w hk kn kn0 kd kd0
 ·have e : scI a b n d = ⟨0, 0, ckI a b⟩ := by unfold scI; rw [if_pos c_68]
  rw [e]; exact ssc_e a b n d w hk
theorem range_nil (w : World) (b o : Nat) : w.rangeAt b o [] := fun j v h => by simp at h
theorem range_cons {w : World} {b o : Nat} {v : Value} {r : List Value} (h : w.cell? ⟨b, o, none⟩ = some v) (k : w.rangeAt b (o + 1) r) : w.rangeAt b o (v :: r) := fun j u hj => by
 cases j with
 | zero => simp at hj; subst hj; exact h
 | succ j => have := k j u (by simpa using hj); rw [show o + (j + 1) = o + 1 + j from by omega]; exact this
theorem there_range {w : World} {b o : Nat} {vs : List Value} (h : w.rangeAt b o vs) (hf : ∀ q, w.frozen? ⟨b, q, none⟩ = false) (n : Nat) (hn : n = vs.length) : w.there b o n := fun j hj =>
 ⟨h.isSome j (by omega), hf _⟩
theorem Ext.setCells {a : World} {b : Nat} (hb : a.heap.size ≤ b) : ∀ (vs : List Value) (o : Nat) (w : World), Ext a w → Ext a (w.setCells b o vs)
 | [], _, _, h => h
 | v :: r, o, w, h => Ext.setCells hb r (o + 1) _ (h.setCell (p := ⟨b, o, none⟩) hb v)
theorem size_scs (b : Nat) : ∀ (vs : List Value) (o : Nat) (w : World), (w.setCells b o vs).heap.size = w.heap.size
 | [], _, _ => rfl
 | v :: r, o, w => by rw [World.setCells, size_scs b r]; simp
@[go_sem] theorem cell_scs (w : World) (b o : Nat) (vs : List Value) (b' o' : Nat) (h : ¬ b' = b) : (w.setCells b o vs).cell? ⟨b', o', none⟩ = w.cell? ⟨b', o', none⟩ :=
 World.cell?_setCells_out b vs o w ⟨b', o', none⟩ (fun e => absurd e h)
@[go_sem] theorem frozen_scs (w : World) (b o : Nat) (vs : List Value) (x : Addr) : (w.setCells b o vs).frozen? x = w.frozen? x := World.frozen?_setCells b vs o w x
theorem run_load_row (w : World) (b : Nat) (ty : TypeId) (cs : List Value) (d : TypeDesc) (hc : w.rangeAt b 0 cs)
    (hu : Tryz.prog.underlying ty = some d) (hd : d.isRow = true) (hi : (Tryz.prog.info? ty).map (·.size) = some cs.length) :
    (loadVar ty ⟨b, 0, none⟩).run Tryz.prog w = .ok (.agg cs.toArray) w := run_loadVar_mid w b 0 ty cs d hc hu hd hi
def Row (W w : World) (b : Nat) (vs : List Value) : Prop := W = w.setCells b 0 vs ∧ w.there b 0 vs.length
theorem Row.range {W w : World} {b : Nat} {vs : List Value} (h : Row W w b vs) : W.rangeAt b 0 vs := by
 obtain ⟨rfl, h⟩ := h; exact World.rangeAt_setCells_same w b 0 vs h
theorem Row.cells {W w : World} {b : Nat} {vs : List Value} (h : Row W w b vs) : (∀ b' o, ¬ b' = b → W.cell? ⟨b', o, none⟩ = w.cell? ⟨b', o, none⟩) ∧ (∀ p, W.frozen? p = w.frozen? p) ∧ W.heap.size = w.heap.size := by
 obtain ⟨rfl, h⟩ := h; exact ⟨fun b' o hb => cell_scs w b 0 vs b' o hb, fun p => frozen_scs w b 0 vs p, size_scs b vs 0 w⟩
theorem Row.ext {a W w : World} {b : Nat} {vs : List Value} (h : Row W w b vs) (k : Ext a w) (hb : a.heap.size ≤ b) : Ext a W := by
 obtain ⟨rfl, h⟩ := h; exact Ext.setCells hb vs 0 w k
theorem store_row {P : Program} {ops : Array Oper} {rest : List Oper} {op : Oper} {a : Act} {w : World} {Q : Exit → Act → World → Prop} (hgd : op.guard = none) (ty : TypeId) (x y : Operand) (ho : op.op = .store ty x y)
    (b : Nat) (cells : Array Value) (hx : a.eval x = .pointer (some ⟨b, 0, none⟩)) (hy : a.eval y = .agg cells)
    (ht : w.there b 0 cells.size) (hi : (P.info? ty).map (·.size) = some cells.size) (h1 : cells.all (·.oneCell') = true)
    (h : ∀ W, Row W w b cells.toList → wpList P ops Q rest (a.put op.dst undef) W) : wpList P ops Q (op :: rest) a w :=
  wpList_store_mid hgd ty x y ho b 0 cells hx hy ht hi h1 (h _ ⟨rfl, by simpa using ht⟩)
def tnI (c : R3) (x y : Int) : R3 := doI c.e (divI x y c.lo c.hi)
def ttI (n : R3) : R3 := doI n.e (scI n.lo n.hi 3 1)
def tmI (q n : R3) : R3 := doI (ttI n).e (divI (ttI n).lo (ttI n).hi q.lo q.hi)
def dsI (E a b : Int) : R3 := doI E (sqI a b)
def dxI (m : R3) (E a b : Int) : R3 := doI (dsI E a b).e (mulI m.lo m.hi (dsI E a b).lo (dsI E a b).hi)
def dgI (n m : R3) (E a b : Int) : R3 := doI (dxI m E a b).e (subI (dxI m E a b).lo (dxI m E a b).hi n.lo n.hi)
def oyI (E a b c d : Int) : R3 := doI E (mulI a b c d)
def ozI (m : R3) (E a b c d : Int) : R3 := doI (oyI E a b c d).e (mulI m.lo m.hi (oyI E a b c d).lo (oyI E a b c d).hi)
def pg0 (n m : R3) (d : V3) : R3 := dgI n m m.e d.a d.b
def pg1 (n m : R3) (d : V3) : R3 := dgI n m (pg0 n m d).e d.c d.d
def pz1 (n m : R3) (d : V3) : R3 := ozI m (pg1 n m d).e d.c d.d d.a d.b
def pg2 (n m : R3) (d : V3) : R3 := dgI n m (pz1 n m d).e d.e d.f
def pz2 (n m : R3) (d : V3) : R3 := ozI m (pg2 n m d).e d.e d.f d.a d.b
def pz3 (n m : R3) (d : V3) : R3 := ozI m (pz2 n m d).e d.e d.f d.c d.d
def ro0 (n m : R3) (d : V3) : R3 := dgI n m m.e d.a d.b
def ro1 (n m : R3) (d : V3) : R3 := ozI m (ro0 n m d).e d.a d.b d.c d.d
def ro2 (n m : R3) (d : V3) : R3 := ozI m (ro1 n m d).e d.a d.b d.e d.f
def ro3 (n m : R3) (d : V3) : R3 := ozI m (ro2 n m d).e d.c d.d d.a d.b
def ro4 (n m : R3) (d : V3) : R3 := dgI n m (ro3 n m d).e d.c d.d
def ro5 (n m : R3) (d : V3) : R3 := ozI m (ro4 n m d).e d.c d.d d.e d.f
def ro6 (n m : R3) (d : V3) : R3 := ozI m (ro5 n m d).e d.e d.f d.a d.b
def ro7 (n m : R3) (d : V3) : R3 := ozI m (ro6 n m d).e d.e d.f d.c d.d
def ro8 (n m : R3) (d : V3) : R3 := dgI n m (ro7 n m d).e d.e d.f
/-! Vectors, with an error that is kept. -/
def ch0 (f : Int → Int → Int → Int → R3) (E : Int) (a b : V3) : R3 := doI E (f a.a a.b b.a b.b)
def ch1 (f : Int → Int → Int → Int → R3) (E : Int) (a b : V3) : R3 := doI (ch0 f E a b).e (f a.c a.d b.c b.d)
def ch2 (f : Int → Int → Int → Int → R3) (E : Int) (a b : V3) : R3 := doI (ch1 f E a b).e (f a.e a.f b.e b.f)
def chV (f : Int → Int → Int → Int → R3) (E : Int) (a b : V3) : V7 := ⟨v3 (ch0 f E a b) (ch1 f E a b) (ch2 f E a b), (ch2 f E a b).e⟩
noncomputable def plR (E x y : Int) (d : V3) : V7 := ⟨plV (sz2 (doI E (nrmV d))) x y d, (pl2 (sz2 (doI E (nrmV d))) x y d).e⟩
noncomputable def ac1 (p : V3) (s : SrcD) (A : V7) : V7 := chV subI A.e p s.v
noncomputable def ac2 (p : V3) (s : SrcD) (A : V7) : V7 := plR (ac1 p s A).e s.x s.y (ac1 p s A).v
noncomputable def ac3 (p : V3) (s : SrcD) (A : V7) : V7 := chV addI (ac2 p s A).e A.v (ac2 p s A).v
noncomputable def ac4 (p : V3) (s : SrcD) (A : V7) : V7 := plR (ac3 p s A).e s.x s.y s.v
noncomputable def acS (p : V3) (s : SrcD) (A : V7) : V7 := chV addI (ac4 p s A).e (ac3 p s A).v (ac4 p s A).v
noncomputable def ac0 (p : V3) : V7 := plR 0 325358913 325358914 p
noncomputable def acN (p : V3) : List SrcD → V7 → V7
 | [], A => A
 | s :: l, A => acN p l (acS p s A)
noncomputable def acR (E : Int) (l : List BodyD) (fr ti : Int) (p : V3) : V7 :=
 if (gaR E l fr ti p).2 ≠ 0 then ⟨V3.O, (gaR E l fr ti p).2⟩ else if (acN p (gaR E l fr ti p).1 (ac0 p)).e ≠ 0 then ⟨V3.O, 24⟩ else ⟨(acN p (gaR E l fr ti p).1 (ac0 p)).v, 0⟩
/-! Parts. -/
theorem ch_pt {f : Int → Int → Int → Int → R3} (hf : ∀ {a b c d A B C D : Int}, Pt a b A B → Pt c d C D → RPt (f a b c d) (f A B C D)) {E F : Int} {a b A B : V3} (hE : F = 0 → E = 0) (h : F = 0 → PtV a A) (k : F = 0 → PtV b B) : VPt (chV f E a b) (chV f F A B) := by
 have p0 : RPt (ch0 f E a b) (ch0 f F A B) := do_pt hE (fun z => hf (h z).1 (k z).1)
 have g0 : (ch0 f F A B).e = 0 → F = 0 := fun e => (do_ok e).1
 have p1 : RPt (ch1 f E a b) (ch1 f F A B) := do_pt (fun e => (p0 e).1) (fun e => hf (h (g0 e)).2.1 (k (g0 e)).2.1)
 have g1 : (ch1 f F A B).e = 0 → (ch0 f F A B).e = 0 := fun e => (do_ok e).1
 have p2 : RPt (ch2 f E a b) (ch2 f F A B) := do_pt (fun e => (p1 e).1) (fun e => hf (h (g0 (g1 e))).2.2 (k (g0 (g1 e))).2.2)
 have g2 : (ch2 f F A B).e = 0 → (ch1 f F A B).e = 0 := fun e => (do_ok e).1
 intro he
 obtain ⟨x2, y2, z2⟩ := p2 he
 obtain ⟨x1, y1, z1⟩ := p1 (g2 he)
 obtain ⟨x0, y0, z0⟩ := p0 (g1 (g2 he))
 exact ⟨x2, ⟨y0, y1, y2⟩, ckV_of z0 z1 z2⟩
theorem sz1_pt {q Q : R3} (h : RPt q Q) : RPt (sz1 q) (sz1 Q) := do_pt (fun e => (h e).1) (fun e => sqrt_pt (h e).2.1)
theorem sz2_pt {q Q : R3} (h : RPt q Q) : RPt (sz2 q) (sz2 Q) := do_pt (fun e => (sz1_pt h e).1) (fun e => mul_pt (h (do_ok e).1).2.1 (sz1_pt h e).2.1)
theorem pz_pt {c C : R3} (hc : RPt c C) {E F x y a b X Y A B : Int} (hE : F = 0 → E = 0 ∧ C.e = 0) (hx : Pt x y X Y) (ha : Pt a b A B) : RPt (pzI c E x y a b) (pzI C F X Y A B) := by
 have p0 : RPt (pxI E x y a b) (pxI F X Y A B) := do_pt (fun e => (hE e).1) (fun _ => mul_pt hx ha)
 have p1 : RPt (pyI c E x y a b) (pyI C F X Y A B) := do_pt (fun e => (p0 e).1) (fun e => div_pt (p0 e).2.1 (hc (hE (do_ok e).1).2).2.1)
 exact do_pt (fun e => (p1 e).1) (fun e => neg_pt (p1 e).2.1)
theorem pl_pt {c C : R3} (hc : RPt c C) {x y X Y : Int} {d D : V3} (hx : Pt x y X Y) (hd : PtV d D) : VPt ⟨plV c x y d, (pl2 c x y d).e⟩ ⟨plV C X Y D, (pl2 C X Y D).e⟩ := by
 have g : ∀ {E x y a b : Int}, (pzI C E x y a b).e = 0 → E = 0 := fun e => (do_ok (do_ok (do_ok e).1).1).1
 have p0 : RPt (pl0 c x y d) (pl0 C X Y D) := pz_pt hc (fun e => ⟨(hc e).1, e⟩) hx hd.1
 have p1 : RPt (pl1 c x y d) (pl1 C X Y D) := pz_pt hc (fun e => ⟨(p0 e).1, g e⟩) hx hd.2.1
 have p2 : RPt (pl2 c x y d) (pl2 C X Y D) := pz_pt hc (fun e => ⟨(p1 e).1, g (g e)⟩) hx hd.2.2
 intro he
 obtain ⟨x2, y2, z2⟩ := p2 he
 obtain ⟨x1, y1, z1⟩ := p1 (g he)
 obtain ⟨x0, y0, z0⟩ := p0 (g (g he))
 exact ⟨x2, ⟨y0, y1, y2⟩, ckV_of z0 z1 z2⟩
theorem plR_e {E x y : Int} {d : V3} (h : (plR E x y d).e = 0) : E = 0 := by
 have g : ∀ {c : R3} {E x y a b : Int}, (pzI c E x y a b).e = 0 → E = 0 := fun e => (do_ok (do_ok (do_ok e).1).1).1
 have h1 : (sz2 (doI E (nrmV d))).e = 0 := g (g (g h))
 exact (do_ok (do_ok (do_ok h1).1).1).1
theorem plR_pt {E F x y X Y : Int} {d D : V3} (hE : F = 0 → E = 0) (hx : Pt x y X Y) (hd : F = 0 → PtV d D) : VPt (plR E x y d) (plR F X Y D) := by
 intro he
 have h0 := plR_e he
 have hq : RPt (doI E (nrmV d)) (doI F (nrmV D)) := do_pt hE (fun z => nrmV_pt (hd z))
 exact pl_pt (sz2_pt hq) hx (hd h0) he
theorem chV_e {f : Int → Int → Int → Int → R3} {E : Int} {a b : V3} (h : (chV f E a b).e = 0) : E = 0 := (do_ok (do_ok (do_ok h).1).1).1
def SPt (s t : SrcD) : Prop := Pt s.x s.y t.x t.y ∧ PtV s.v t.v
theorem acS_pt {p P : V3} {s t : SrcD} {A B : V7} (hp : PtV p P) (hs : SPt s t) (hA : VPt A B) : VPt (acS p s A) (acS P t B) := by
 have p1 : VPt (ac1 p s A) (ac1 P t B) := ch_pt sub_pt (fun e => (hA e).1) (fun _ => hp) (fun _ => hs.2)
 have p2 : VPt (ac2 p s A) (ac2 P t B) := plR_pt (fun e => (p1 e).1) hs.1 (fun e => (p1 e).2.1)
 have p3 : VPt (ac3 p s A) (ac3 P t B) := ch_pt add_pt (fun e => (p2 e).1) (fun e => (hA (chV_e (plR_e e))).2.1) (fun e => (p2 e).2.1)
 have p4 : VPt (ac4 p s A) (ac4 P t B) := plR_pt (fun e => (p3 e).1) hs.1 (fun _ => hs.2)
 exact ch_pt add_pt (fun e => (p4 e).1) (fun e => (p3 (plR_e e)).2.1) (fun e => (p4 e).2.1)
def LPt : List SrcD → List SrcD → Prop
 | [], [] => True
 | s :: l, t :: m => SPt s t ∧ LPt l m
 | _, _ => False
theorem acN_pt {p P : V3} (hp : PtV p P) : ∀ {l m : List SrcD} {A B : V7}, LPt l m → VPt A B → VPt (acN p l A) (acN P m B)
 | [], [], _, _, _, h => h
 | _ :: l, _ :: m, _, _, hl, h => acN_pt (l := l) (m := m) hp hl.2 (acS_pt hp hl.1 h)
 | [], _ :: _, _, _, hl, _ => absurd hl id
 | _ :: _, [], _, _, hl, _ => absurd hl id
theorem ac0_pt {p P : V3} (hp : PtV p P) : VPt (ac0 p) (ac0 P) := plR_pt (fun e => e) (Pt.refl (by decide)) (fun _ => hp)
theorem p_get (v : Value) (l : List BodyD) (i : Nat) (w : World) (hB : Bds w v l) (hE : CkE l 0) (hi : i < l.length) :
    Calls Tryz.prog 131 #[.agg #[v], .int .i64 (i : Int)] w fun e w' => ∃ vs, e = .returned (.tuple #[.agg #[.string (bd l i).name, .int .i64 (bd l i).gm, .int .i64 (bd l i).rad, vs], .int .i64 0]) ∧ Sgs w vs (bd l i).segs ∧ Ext w w' := by
 obtain ⟨ao, b, o, cap, rfl, ha, hl, hm⟩ := hB.len
 obtain rfl := ha (by omega)
 obtain ⟨hb1, vs, ⟨c0, c1, c2, c3⟩, hns, hg1, hr1, hss⟩ := hB.at (i := i) (by omega)
 have hk := fun w1 (k1 : Ext w w1) => p_eCheck _ l 0 w1 (hB.ext k1) hE
 obtain ⟨nm, hnm⟩ : ∃ z, (bd l i).name = z := ⟨_, rfl⟩
 obtain ⟨gm, hgm⟩ : ∃ z, (bd l i).gm = z := ⟨_, rfl⟩
 obtain ⟨rad, hrad⟩ : ∃ z, (bd l i).rad = z := ⟨_, rfl⟩
 obtain ⟨segs, hsegs⟩ : ∃ z, (bd l i).segs = z := ⟨_, rfl⟩
 rw [hnm] at c0
 rw [hgm] at c1
 rw [hrad] at c2
 rw [hsegs] at hss
 rw [hnm, hgm, hrad, hsegs]
 obtain ⟨sao, sb, so, scap, rfl, -⟩ := hss.len
 go_enter Tryz.func131, Tryz.ntmps131
 go_wp2_with (go_at_call 85; (with_reducible refine (hk _ ex_).mono ?_); rintro e w4 ⟨rfl, hb4⟩; obtain ⟨_, _, ⟨hc4, hf4⟩, hz4⟩ := hb4.c3; (try simp only [wsz] at hz4 hc4 hf4))
 refine bodyPost_ret (v := .tuple #[.agg #[.string nm, .int .i64 gm, .int .i64 rad, .slice sao segs.length scap], .int .i64 0]) ?_ rfl ⟨_, rfl, hss, ?_⟩
 ·simp [results, Tryz.results131, go_sem, ↓IntWalk.iteOmega, *]
 ·exact b_6
theorem p_Gm (v : Value) (l : List BodyD) (i : Nat) (w : World) (hB : Bds w v l) (hE : CkE l 0) (hi : i < l.length) :
    Calls Tryz.prog 130 #[.agg #[v], .int .i64 (i : Int)] w fun e w' => ∃ u, e = .returned (.tuple #[u, .int .i64 0]) ∧ Fr w' u (gmX (bd l i)) ∧ Ext w w' := by
 have hk := fun w1 (k1 : Ext w w1) => p_get v l i w1 (hB.ext k1) hE hi
 obtain ⟨ao, b, o, cap, rfl, ha, hl, hm⟩ := hB.len
 have hbd := (hE.zero rfl).2.1 i hi
 have hof : ∀ w1, Calls Tryz.prog 93 #[.int .i64 (bd l i).gm, .int .i64 1000000000000000000] w1 fun e w' => ∃ u, e = .returned (.tuple #[u, .int .i64 0]) ∧ Fr w' u (gmX (bd l i)) ∧ Ext w1 w' := fun w1 => z_Of (bd l i).gm 1000000000000000000 w1 (by have := hbd.2.1; omega) (by have := hbd.2.2.1; omega) (by decide) (by decide)
 generalize gmX (bd l i) = X at *
 obtain ⟨nm, hnm⟩ : ∃ z, (bd l i).name = z := ⟨_, rfl⟩
 obtain ⟨gm, hgm⟩ : ∃ z, (bd l i).gm = z := ⟨_, rfl⟩
 obtain ⟨rad, hrad⟩ : ∃ z, (bd l i).rad = z := ⟨_, rfl⟩
 rw [hnm, hgm, hrad] at hk
 rw [hgm] at hof
 clear hbd hnm hgm hrad hB hE
 go_enter Tryz.func130, Tryz.ntmps130
 go_wp2_with (first
  | (go_at_call 131; (with_reducible refine (hk _ ex_).mono ?_); rintro e w4 ⟨vs, rfl, hs4, hb4⟩; obtain ⟨sao, sb, so, scap, rfl, -⟩ := hs4.len; obtain ⟨_, _, ⟨hc4, hf4⟩, hz4⟩ := hb4.c3; (try simp only [wsz] at hz4 hc4 hf4))
  | (go_at_call 93; (with_reducible refine (hof _).mono ?_); rintro e w5 ⟨y4, rfl, hn4, hb5⟩; obtain ⟨s8, ao8, l8, cap8, bo8, l9, cap9, rfl⟩ := hn4.shape; obtain ⟨_, _, ⟨hc5, hf5⟩, hz5⟩ := hb5.c3; (try simp only [wsz] at hz5 hc5 hf5)))
 have hF := (F4.fresh (w.alloc (.cells #[.slice ao l.length cap] 24))).ext (b := w5) ex_
 simp only [World.size_alloc] at hF
 refine bodyPost_ret (v := .tuple #[.agg #[.bool s8, .slice ao8 l8 cap8, .bool false, .slice bo8 l9 cap9], .int .i64 0]) ?_ rfl ⟨_, rfl, ?_, ?_⟩
 ·simp [results, Tryz.results130, go_sem, ↓IntWalk.iteOmega, *]
 ·exact Fr.set4 hn4 hF.2.2.2.2.2.1
 ·exact b_6
theorem p_during (nm : ByteArray) (gm rad fr ti : Int) (sao : Option Addr) (n cap : Nat) (w : World) :
    Calls Tryz.prog 132 #[.agg #[.string nm, .int .i64 gm, .int .i64 rad, .slice sao n cap], .int .i64 fr, .int .i64 ti] w fun e w' => e = .returned (.func (.func 177) #[] #[.pointer (some ⟨w.heap.size, 0, none⟩), .pointer (some ⟨w.heap.size + 2, 0, none⟩), .pointer (some ⟨w.heap.size + 1, 0, none⟩)]) ∧ w' = ((w.alloc (.cells #[.string nm, .int .i64 gm, .int .i64 rad, .slice sao n cap] 50)).alloc (.cells #[.int .i64 fr] 2)).alloc (.cells #[.int .i64 ti] 2) := by
 go_enter Tryz.func132, Tryz.ntmps132
 go_wp2_with fail
 refine bodyPost_ret ?_ rfl ⟨rfl, rfl⟩
 simp [results, Tryz.results132, go_sem, ↓IntWalk.iteOmega]
end Go.Proofs.YtbkgakgdbmjmjaaGreat
