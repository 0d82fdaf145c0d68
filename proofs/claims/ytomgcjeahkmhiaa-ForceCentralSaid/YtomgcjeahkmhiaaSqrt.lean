/- Square roots of intervals. -/
import Derived.Test.YtomgcjeahkmhiaaSRoot
import Derived.Test.YtomgcjeahkmhiaaRRoot
import Derived.Test.YtomgcjeahkmhiaaPtr
set_option linter.unusedSimpArgs false
set_option linter.unusedVariables false
namespace Go.Proofs.Ytomgcjeahkmhiaa
open Go.RowKit

theorem nat_root (n : Nat) : ∃ r : Nat, r * r ≤ n ∧ n < (r + 1) * (r + 1) := by
  induction n with
  | zero => exact ⟨0, by omega, by omega⟩
  | succ n ih =>
    obtain ⟨r, h1, h2⟩ := ih
    by_cases h : n + 1 < (r + 1) * (r + 1)
    · exact ⟨r, by omega, h⟩
    · have e : (r + 1 + 1) * (r + 1 + 1) = (r + 1) * (r + 1) + 2 * (r + 1) + 1 := by grind
      exact ⟨r + 1, by omega, by omega⟩
set_option maxRecDepth 100000 in
theorem root_is {x : Int} (h : 0 ≤ x) : IsRoot x (rootI x) := by
  obtain ⟨r, h1, h2⟩ := nat_root (x * 1099511627776).toNat
  have e : ((x * 1099511627776).toNat : Int) = x * 1099511627776 := Int.toNat_of_nonneg (by omega)
  refine IsRoot.of (r := (r : Int)) ⟨by omega, ?_, ?_⟩
  · have q := Int.ofNat_le.2 h1
    rw [Int.natCast_mul, e] at q
    exact q
  · have q := Int.ofNat_lt.2 h2
    rw [Int.natCast_mul, Int.natCast_add, e] at q
    exact q
theorem root_le {x : Int} (h : 0 ≤ x) (h1 : x ≤ 2305843009213693952) : 0 ≤ rootI x ∧ rootI x < 2251799813685248 := by
  have k := root_is h
  exact ⟨k.1, sq_lt (by omega) (by have := k.2.1; omega)⟩
noncomputable def sqrtP (a b : Int) : R3 := ⟨rootI a, if rootI b * rootI b = b * 1099511627776 then rootI b else rootI b + 1, 0⟩
theorem eq_twin (h l h' l' : Int) (d : Nat) (w : World) : (Op.equalIn (d + 1 + 1) 113 (.agg #[.int .i64 h, .int .u64 l]) (.agg #[.int .i64 h', .int .u64 l'])).run Try.prog w = .ok (h == h' && l == l') w := by
  rw [run_equalIn_agg w (d + 1) 113 _ _ (by simp [Program.fieldsOf, Try.underlying113]) (by kernel_rfl)]
  simp [Op.eqFields, Program.fieldsOf, Try.underlying113, go_sem, Try.underlying111, Try.underlying2]
  by_cases e : h = h' <;> by_cases e2 : l = l' <;> simp [e, e2, go_sem]
theorem twin_eq (T U : Int) : (T / 18446744073709551616 == U / 18446744073709551616 && T % 18446744073709551616 == U % 18446744073709551616) = decide (T = U) := by
  by_cases h : T = U
  · subst h; simp
  · simp [h]; omega

set_option maxRecDepth 100000 in
set_option maxHeartbeats 2000000 in
theorem rsqrt_p (a b : Int) (w : World) (hk : ckI a b = 0) (h0 : 0 ≤ a) :
    Calls Try.prog 126 #[.agg #[.int .i64 a, .int .i64 b]] w fun e w' => e = .returned (.tuple #[.agg #[.int .i64 (sqrtP a b).lo, .int .i64 (sqrtP a b).hi], .int .i64 (sqrtP a b).e]) ∧ Ext w w' := by
  obtain ⟨ka1, ka2, ka3⟩ := ckI_ok hk
  obtain ⟨ra0, ra1⟩ := root_le (x := a) h0 (by omega)
  obtain ⟨rb0, rb1⟩ := root_le (x := b) (by omega) (by omega)
  have n1 : IntKind.i64.wrap (rootI b + 1) = rootI b + 1 := by rw [IntKind.wrap_i64]; omega
  go_enter Try.func126, Try.ntmps126
  go_wp2_with (first | (go_at_call 26; (with_reducible refine (ref_check _ _ _).mono ?_); rintro e w1 ⟨rfl, hb⟩; obtain ⟨_, _, hc, hf⟩ := hb.cells2; have hz := hb.size; (try simp only [World.size_alloc, World.size_setCell] at hz hc hf)) | (go_at_call 164; (with_reducible refine (r_root a _ h0 (by omega)).mono ?_); rintro e w1 ⟨rfl, hb⟩; obtain ⟨_, _, hc, hf⟩ := hb.cells2; have hz := hb.size; (try simp only [World.size_alloc, World.size_setCell] at hz hc hf)) | (go_at_call 164; (with_reducible refine (r_root b _ (by omega) (by omega)).mono ?_); rintro e w1 ⟨rfl, hb⟩; obtain ⟨_, _, hc, hf⟩ := hb.cells2; have hz := hb.size; (try simp only [World.size_alloc, World.size_setCell] at hz hc hf)) | (go_at_call 117; (with_reducible refine (ref_made _ _ _).mono ?_); rintro e w1 ⟨rfl, hb⟩; obtain ⟨_, _, hc, hf⟩ := hb.cells2; have hz := hb.size; (try simp only [World.size_alloc, World.size_setCell] at hz hc hf)))
  all_goals
    refine bodyPost_ret (v := .tuple #[.agg #[.int .i64 (sqrtP a b).lo, .int .i64 (sqrtP a b).hi], .int .i64 (sqrtP a b).e]) ?_ rfl ⟨rfl, ?_⟩
    · (try simp only [bne_iff_ne, ne_eq, bne_eq_false_iff_eq, beq_iff_eq, beq_eq_false_iff_ne] at *)
      have q1 : ¬ (rootI a < -2305843009213693952 ∨ 2305843009213693952 < rootI b) := by omega
      have q2 : ¬ (rootI a < -2305843009213693952 ∨ 2305843009213693952 < rootI b + 1) := by omega
      simp [results, Try.results126, go_sem, ↓IntWalk.iteOmega, madeI, sqrtP, *]
      all_goals (try (intro hh; simp_all; done))
    · repeat (first | with_reducible exact Ext.refl _ | with_reducible assumption | with_reducible refine Ext.alloc ?_ _ | with_reducible refine Ext.setCell ?_ (by (try simp only [World.size_alloc, World.size_setCell]); omega) _ | with_reducible refine Ext.drewN ?_ _ | with_reducible refine Ext.drew ?_ | with_reducible refine Ext.trans ?_ (by with_reducible assumption))

set_option maxRecDepth 100000 in
set_option maxHeartbeats 2000000 in
theorem rsqrt_e (a b : Int) (w : World) (hk : ¬ ckI a b = 0) :
    Calls Try.prog 126 #[.agg #[.int .i64 a, .int .i64 b]] w fun e w' => e = .returned (.tuple #[.agg #[.int .i64 (R3.mk 0 0 (ckI a b)).lo, .int .i64 (R3.mk 0 0 (ckI a b)).hi], .int .i64 (R3.mk 0 0 (ckI a b)).e]) ∧ Ext w w' := by
  go_enter Try.func126, Try.ntmps126
  go_wp2_with (first | (go_at_call 26; (with_reducible refine (ref_check _ _ _).mono ?_); rintro e w1 ⟨rfl, hb⟩; obtain ⟨_, _, hc, hf⟩ := hb.cells2; have hz := hb.size; (try simp only [World.size_alloc, World.size_setCell] at hz hc hf)))
  all_goals
    refine bodyPost_ret (v := .tuple #[.agg #[.int .i64 (R3.mk 0 0 (ckI a b)).lo, .int .i64 (R3.mk 0 0 (ckI a b)).hi], .int .i64 (R3.mk 0 0 (ckI a b)).e]) ?_ rfl ⟨rfl, ?_⟩
    · (try simp only [bne_iff_ne, ne_eq, bne_eq_false_iff_eq, beq_iff_eq, beq_eq_false_iff_ne] at *)
      simp [results, Try.results126, go_sem, ↓IntWalk.iteOmega, ne_eq, *]
    · repeat (first | with_reducible exact Ext.refl _ | with_reducible assumption | with_reducible refine Ext.alloc ?_ _ | with_reducible refine Ext.setCell ?_ (by (try simp only [World.size_alloc, World.size_setCell]); omega) _ | with_reducible refine Ext.drewN ?_ _ | with_reducible refine Ext.drew ?_ | with_reducible refine Ext.trans ?_ (by with_reducible assumption))

set_option maxRecDepth 100000 in
set_option maxHeartbeats 2000000 in
theorem rsqrt_n (a b : Int) (w : World) (hk : ckI a b = 0) (h0 : a < 0) :
    Calls Try.prog 126 #[.agg #[.int .i64 a, .int .i64 b]] w fun e w' => e = .returned (.tuple #[.agg #[.int .i64 (R3.mk 0 0 2).lo, .int .i64 (R3.mk 0 0 2).hi], .int .i64 (R3.mk 0 0 2).e]) ∧ Ext w w' := by
  go_enter Try.func126, Try.ntmps126
  go_wp2_with (first | (go_at_call 26; (with_reducible refine (ref_check _ _ _).mono ?_); rintro e w1 ⟨rfl, hb⟩; obtain ⟨_, _, hc, hf⟩ := hb.cells2; have hz := hb.size; (try simp only [World.size_alloc, World.size_setCell] at hz hc hf)))
  all_goals
    refine bodyPost_ret (v := .tuple #[.agg #[.int .i64 (R3.mk 0 0 2).lo, .int .i64 (R3.mk 0 0 2).hi], .int .i64 (R3.mk 0 0 2).e]) ?_ rfl ⟨rfl, ?_⟩
    · (try simp only [bne_iff_ne, ne_eq, bne_eq_false_iff_eq, beq_iff_eq, beq_eq_false_iff_ne] at *)
      simp [results, Try.results126, go_sem, ↓IntWalk.iteOmega, ne_eq, *]
    · repeat (first | with_reducible exact Ext.refl _ | with_reducible assumption | with_reducible refine Ext.alloc ?_ _ | with_reducible refine Ext.setCell ?_ (by (try simp only [World.size_alloc, World.size_setCell]); omega) _ | with_reducible refine Ext.drewN ?_ _ | with_reducible refine Ext.drew ?_ | with_reducible refine Ext.trans ?_ (by with_reducible assumption))

theorem ref_sqrt (a b : Int) (w : World) :
    Calls Try.prog 126 #[.agg #[.int .i64 a, .int .i64 b]] w fun e w' => e = .returned (.tuple #[.agg #[.int .i64 (sqrtI a b).lo, .int .i64 (sqrtI a b).hi], .int .i64 (sqrtI a b).e]) ∧ Ext w w' := by
  by_cases hk : ckI a b = 0
  · by_cases h0 : a < 0
    · have e : sqrtI a b = ⟨0, 0, 2⟩ := by unfold sqrtI; rw [if_neg (by simpa using hk), if_pos h0]
      rw [e]; exact rsqrt_n a b w hk h0
    · have e : sqrtI a b = sqrtP a b := by unfold sqrtI; rw [if_neg (by simpa using hk), if_neg h0]; rfl
      rw [e]; exact rsqrt_p a b w hk (by omega)
  · have e : sqrtI a b = ⟨0, 0, ckI a b⟩ := by unfold sqrtI; rw [if_pos (by simpa using hk)]
    rw [e]; exact rsqrt_e a b w hk

end Go.Proofs.Ytomgcjeahkmhiaa
