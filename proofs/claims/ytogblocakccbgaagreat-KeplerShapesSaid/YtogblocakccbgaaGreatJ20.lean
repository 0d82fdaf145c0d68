/- planisphereref03.root.; Square roots of intervals.; span.Sqrt.; kepler: must, div, sub, root. -/
import Derived.Test.YtogblocakccbgaaGreatJ00
import Derived.Test.YtogblocakccbgaaGreatJ15
import Derived.Test.YtogblocakccbgaaGreatJ16
import Derived.Test.YtogblocakccbgaaGreatJ19
import Derived.Test.YtogblocakccbgaaGreatJ18
import Derived.Test.YtogblocakccbgaaGreatJ14
set_option linter.unusedSimpArgs false
set_option linter.unusedVariables false
set_option maxRecDepth 100000
set_option maxHeartbeats 2000000
namespace Go.Proofs.YtogblocakccbgaaGreat
open Go.RowKit
theorem eq_long (s s' : Bool) (h l h' l' : Int) (d : Nat) (w : World) : (Op.equalIn (d + 1 + 1) 152 (.agg #[.bool s, .int .u64 h, .int .u64 l]) (.agg #[.bool s', .int .u64 h', .int .u64 l'])).run Tryz.prog w = .ok (s == s' && (h == h' && l == l')) w := by
 rw [run_equalIn_agg w (d + 1) 152 _ _ (by simp [Program.fieldsOf, Tryz.underlying152]) c_4]
 simp [Op.eqFields, Program.fieldsOf, Tryz.underlying152, go_sem, Tryz.underlying97, Tryz.underlying4]
 cases s <;> cases s' <;> by_cases e : h = h' <;> by_cases e2 : l = l' <;> simp [e, e2, go_sem]
theorem long_eq (T U : Int) (hT : 0 ≤ T) (hU : 0 ≤ U) : (decide (T < 0) == decide (U < 0) && (absv T / 18446744073709551616 == absv U / 18446744073709551616 && absv T % 18446744073709551616 == absv U % 18446744073709551616)) = decide (T = U) := by
 have e1 : absv T = T := by unfold absv; rw [if_neg (by omega)]
 have e2 : absv U = U := by unfold absv; rw [if_neg (by omega)]
 have f1 : decide (T < 0) = false := by simp; omega
 have f2 : decide (U < 0) = false := by simp; omega
 rw [e1, e2, f1, f2]
 by_cases h : T = U
 ·subst h; simp
 ·simp [h]; omega
theorem pow_half {b : Int} {k : Nat} (h : b = 2 ^ k) : (b / 2 = 0 ∧ b = 1) ∨ (0 < b / 2 ∧ b = 2 * (b / 2) ∧ ∃ j : Nat, b / 2 = 2 ^ j) := by
 cases k with
 | zero => left; subst h; decide
 | succ j =>
  right
  have e : b = 2 * 2 ^ j := by rw [h, Int.pow_succ]; omega
  have p : (0 : Int) < 2 ^ j := Int.pow_pos (by omega)
  have q : b / 2 = 2 ^ j := by omega
  exact ⟨by omega, by omega, j, q⟩
theorem stepA {X r b : Int} {k : Nat} (hX : X < (r + 2 * b) * (r + 2 * b)) (h : b = 2 ^ k) : (b / 2 = 0 ∧ X < (r + b + 1) * (r + b + 1)) ∨ (0 < b / 2 ∧ X < (r + b + 2 * (b / 2)) * (r + b + 2 * (b / 2)) ∧ ∃ k : Nat, b / 2 = 2 ^ k) := by
 rcases pow_half h with ⟨h1, h2⟩ | ⟨h1, h2, h3⟩
 ·left
  have e : r + b + 1 = r + 2 * b := by omega
  rw [e]; exact ⟨h1, hX⟩
 ·right
  have e : r + b + 2 * (b / 2) = r + 2 * b := by omega
  rw [e]; exact ⟨h1, hX, h3⟩
theorem stepB {X r b : Int} {k : Nat} (hX : X < (r + b) * (r + b)) (h : b = 2 ^ k) : (b / 2 = 0 ∧ X < (r + 1) * (r + 1)) ∨ (0 < b / 2 ∧ X < (r + 2 * (b / 2)) * (r + 2 * (b / 2)) ∧ ∃ k : Nat, b / 2 = 2 ^ k) := by
 rcases pow_half h with ⟨h1, h2⟩ | ⟨h1, h2, h3⟩
 ·left
  have e : r + 1 = r + b := by omega
  rw [e]; exact ⟨h1, hX⟩
 ·right
  have e : r + 2 * (b / 2) = r + b := by omega
  rw [e]; exact ⟨h1, hX, h3⟩
theorem r_root (x : Int) (w : World) (x0 : 0 ≤ x) (x1 : x ≤ 2305843009213693952) :
    Calls Tryz.prog 161 #[.int .i64 x] w fun e w' => e = .returned (.tuple #[.int .i64 (rootI x), .bool (decide (rootI x * rootI x = x * 1099511627776))]) ∧ Ext w w' := by
 have hx : I64 x := by unfold I64; omega
 have hM : I64 1099511627776 := by unfold I64; omega
 go_enter Tryz.func161, Tryz.ntmps161
 go_wp2_with (first | (go_at_call 107; (with_reducible refine (ref_times x 1099511627776 _ hx hM).mono ?_); rintro e w1 ⟨rfl, hb⟩; obtain ⟨_, _, hc, hf⟩ := hb.cells2; have hz := hb.size; (try simp only [wsz] at hz hc hf)))
 go_loopw [5, 6] (fun v5 v6 wr => ∃ r b : Int, v5 = .int .i64 r ∧ v6 = .int .i64 b ∧ 0 ≤ r ∧ r + 2 * b ≤ 4503599627370496 ∧ r * r ≤ x * 1099511627776 ∧ ((b = 0 ∧ x * 1099511627776 < (r + 1) * (r + 1)) ∨ (0 < b ∧ x * 1099511627776 < (r + 2 * b) * (r + 2 * b) ∧ ∃ k : Nat, b = 2 ^ k)) ∧ Ext w wr ∧ w1.heap.size < wr.heap.size ∧ wr.cell? ⟨w1.heap.size, 0, none⟩ = some (.bool (decide (x * 1099511627776 < 0))) ∧ wr.cell? ⟨w1.heap.size, 1, none⟩ = some (.int .u64 (absv (x * 1099511627776) / 18446744073709551616)) ∧ wr.cell? ⟨w1.heap.size, 2, none⟩ = some (.int .u64 (absv (x * 1099511627776) % 18446744073709551616))) (fun v5 v6 wr => (intOf v6).toNat)
 case atStart =>
  refine ⟨_, _, rfl, rfl, by omega, by omega, by omega, Or.inr ⟨by omega, by omega, 51, by decide⟩, ?_, ?_, ?_, ?_, ?_⟩
  ·exact ex_
  all_goals first | ((try simp only [wsz]); omega) | (simp [go_sem, ↓IntWalk.iteOmega, *]; done)
 case round =>
  obtain ⟨r, b, rfl, rfl, k0, k1, k3, k4, hE0, hg, hc0, hc1, hc2⟩ := hrel
  have K3 := Lib.hid k3
  have K4 := Lib.hid k4
  clear k3 k4
  by_cases h1 : 0 < b
  ·have s1 : IntKind.i64.wrap (r + b) = r + b := by rw [IntKind.wrap_i64]; omega
   have hm : I64 (r + b) := by unfold I64; omega
   obtain ⟨hX, k, hk⟩ : x * 1099511627776 < (r + 2 * b) * (r + 2 * b) ∧ ∃ k : Nat, b = 2 ^ k := by
    rcases K4.out with h | h
    ·omega
    ·exact h.2
   have HX := Lib.hid hX
   have HK := Lib.hid hk
   clear hX hk K4
   go_wp2_with fail
   refine wp_name fun W hW => ?_
   obtain ⟨hWc, hWf, hWz⟩ := hW.cells
   have hWe : Ext w W := Ext.same hW ex_
   (try simp only [wsz] at hWz)
   (try simp only [size_drew, size_drewN, World.size_alloc, World.size_setCell] at hWz)
   replace hWz := And.intro (Nat.le_of_eq hWz) (Nat.le_of_eq hWz.symm)
   have hlt : w1.heap.size < W.heap.size := by omega
   
   go_region_held3 (fun w' => (∀ b o, b < W.heap.size → w'.cell? ⟨b, o, none⟩ = if b = w1.heap.size ∧ 0 ≤ o ∧ o < 0 then (W.cell? ⟨b, o, none⟩).map (obx w' b o) else W.cell? ⟨b, o, none⟩) ∧ (∀ b o, b < W.heap.size → w'.frozen? ⟨b, o, none⟩ = W.frozen? ⟨b, o, none⟩) ∧ W.heap.size ≤ w'.heap.size ∧ Ext w w') (first | (with_reducible exact held0 hWe) | (with_reducible exact held1 c_1 c_1) | (with_reducible exact held3 c_1) | ((with_reducible refine held4 c_1 ?_ ?_) <;> omega) | (repeat (first | (with_reducible assumption) | (with_reducible refine held2 ?_ c_2 c_10)))) ((first | (go_at_call 107; (with_reducible refine (ref_times (r + b) (r + b) _ hm hm).mono ?_); rintro e w2 ⟨rfl, hb2⟩; have hz2 := hb2.size; (try rw [size_drew] at hz2)) | (go_at_call 108; (with_reducible refine (ref_less2 _ _ _).mono ?_); rintro e w3 ⟨⟨B, hB, rfl⟩, hb3⟩; have hz3 := hb3.size; (try rw [size_drew] at hz3))))
   all_goals
    rename_i hOld
    have hE := hOld.2.2.2
    have hO := And.intro hOld.1 (And.intro hOld.2.1 hOld.2.2.1)
    clear hOld
    obtain ⟨hOc, hOf, hOz⟩ := heldEnd hO
    clear hO
    go_wp2_with fail
    all_goals
     go_roundw
     case measure => simp only [intOf]; omega
     have hB2 := hB.out
     simp only [Bool.not_eq_true', Bool.not_eq_false', Bool.not_eq_eq_eq_not, Bool.not_true, Bool.not_false] at *
     simp only [*, Bool.false_eq_true, false_iff, true_iff] at hB2
     first | (refine ⟨r + b, b / 2, rfl, rfl, by omega, by omega, Int.not_lt.1 hB2, stepA HX.out HK.out, ?_, ?_, ?_, ?_, ?_⟩) | (refine ⟨r, b / 2, rfl, rfl, by omega, by omega, K3.out, stepB hB2 HK.out, ?_, ?_, ?_, ?_, ?_⟩)
     ·exact ex_
     all_goals first | ((try simp only [wsz]); omega) | (simp [go_sem, ↓IntWalk.iteOmega, *]; done)
  ·have hr0 : IsRoot x r := by
    refine ⟨k0, K3.out, ?_⟩
    rcases K4.out with h | h
    ·exact h.2
    ·omega
   have hr := Lib.hid hr0.eq
   have hm : I64 r := by
    have q : 0 ≤ b := by
     rcases K4.out with h | h
     ·omega
     ·omega
    unfold I64; omega
   have n158 : ∀ (s s' : Bool) (h l h' l' : Int) (w : World), (Op.equalIn 10000 152 (.agg #[.bool s, .int .u64 h, .int .u64 l]) (.agg #[.bool s', .int .u64 h', .int .u64 l'])).run Tryz.prog w = .ok (s == s' && (h == h' && l == l')) w := fun s s' h l h' l' w => eq_long s s' h l h' l' 9998 w
   have m158 : Tryz.prog.eqGuardType Tryz.prog.depth 152 = false := by kernel_rfl
   have hq := Lib.hid (long_eq (r * r) (x * 1099511627776) (Int.mul_nonneg k0 k0) (by omega))
   clear hr0 K4 K3
   go_wp2_with fail
   refine wp_name fun W hW => ?_
   obtain ⟨hWc, hWf, hWz⟩ := hW.cells
   have hWe : Ext w W := Ext.same hW ex_
   (try simp only [wsz] at hWz)
   (try simp only [size_drew, size_drewN, World.size_alloc, World.size_setCell] at hWz)
   replace hWz := And.intro (Nat.le_of_eq hWz) (Nat.le_of_eq hWz.symm)
   have hlt : w1.heap.size < W.heap.size := by omega
   
   go_region_held3 (fun w' => (∀ b o, b < W.heap.size → w'.cell? ⟨b, o, none⟩ = if b = w1.heap.size ∧ 0 ≤ o ∧ o < 0 then (W.cell? ⟨b, o, none⟩).map (obx w' b o) else W.cell? ⟨b, o, none⟩) ∧ (∀ b o, b < W.heap.size → w'.frozen? ⟨b, o, none⟩ = W.frozen? ⟨b, o, none⟩) ∧ W.heap.size ≤ w'.heap.size ∧ Ext w w') (first | (with_reducible exact held0 hWe) | (with_reducible exact held1 c_1 c_1) | (with_reducible exact held3 c_1) | ((with_reducible refine held4 c_1 ?_ ?_) <;> omega) | (repeat (first | (with_reducible assumption) | (with_reducible refine held2 ?_ c_2 c_10)))) ((first | (go_at_call 107; (with_reducible refine (ref_times r r _ hm hm).mono ?_); rintro e w2 ⟨rfl, hb2⟩; have hz2 := hb2.size; (try rw [size_drew] at hz2))))
   all_goals
    rename_i hOld
    have hE := hOld.2.2.2
    have hO := And.intro hOld.1 (And.intro hOld.2.1 hOld.2.2.1)
    clear hOld
    obtain ⟨hOc, hOf, hOz⟩ := heldEnd hO
    clear hO
    go_wp2_with fail
    go_ret2
    refine ⟨?_, hE⟩
    rw [← hr.out, ← hq.out]
    rfl
theorem nat_root (n : Nat) : ∃ r : Nat, r * r ≤ n ∧ n < (r + 1) * (r + 1) := by
 induction n with
 | zero => exact ⟨0, by omega, by omega⟩
 | succ n ih =>
  obtain ⟨r, h1, h2⟩ := ih
  by_cases h : n + 1 < (r + 1) * (r + 1)
  ·exact ⟨r, by omega, h⟩
  ·have e : (r + 1 + 1) * (r + 1 + 1) = (r + 1) * (r + 1) + 2 * (r + 1) + 1 := by grind
   exact ⟨r + 1, by omega, by omega⟩
theorem root_is {x : Int} (h : 0 ≤ x) : IsRoot x (rootI x) := by
 obtain ⟨r, h1, h2⟩ := nat_root (x * 1099511627776).toNat
 have e : ((x * 1099511627776).toNat : Int) = x * 1099511627776 := Int.toNat_of_nonneg (by omega)
 refine IsRoot.of (r := (r : Int)) ⟨by omega, ?_, ?_⟩
 ·have q := Int.ofNat_le.2 h1
  rw [Int.natCast_mul, e] at q
  exact q
 ·have q := Int.ofNat_lt.2 h2
  rw [Int.natCast_mul, Int.natCast_add, e] at q
  exact q
theorem root_le {x : Int} (h : 0 ≤ x) (h1 : x ≤ 2305843009213693952) : 0 ≤ rootI x ∧ rootI x < 2251799813685248 := by
 have k := root_is h
 exact ⟨k.1, sq_lt (by omega) (by have := k.2.1; omega)⟩
noncomputable def sqrtP (a b : Int) : R3 := ⟨rootI a, if rootI b * rootI b = b * 1099511627776 then rootI b else rootI b + 1, 0⟩
theorem eq_twin (h l h' l' : Int) (d : Nat) (w : World) : (Op.equalIn (d + 1 + 1) 136 (.agg #[.int .i64 h, .int .u64 l]) (.agg #[.int .i64 h', .int .u64 l'])).run Tryz.prog w = .ok (h == h' && l == l') w := by
 rw [run_equalIn_agg w (d + 1) 136 _ _ (by simp [Program.fieldsOf, Tryz.underlying136]) c_4]
 simp [Op.eqFields, Program.fieldsOf, Tryz.underlying136, go_sem, Tryz.underlying97, Tryz.underlying2]
 by_cases e : h = h' <;> by_cases e2 : l = l' <;> simp [e, e2, go_sem]
theorem twin_eq (T U : Int) : (T / 18446744073709551616 == U / 18446744073709551616 && T % 18446744073709551616 == U % 18446744073709551616) = decide (T = U) := by
 by_cases h : T = U
 ·subst h; simp
 ·simp [h]; omega
theorem rsqrt_p (a b : Int) (w : World) (hk : ckI a b = 0) (h0 : 0 ≤ a) :
    Calls Tryz.prog 101 #[.agg #[.int .i64 a, .int .i64 b]] w fun e w' => e = .returned (.tuple #[.agg #[.int .i64 (sqrtP a b).lo, .int .i64 (sqrtP a b).hi], .int .i64 (sqrtP a b).e]) ∧ Ext w w' := by
 obtain ⟨ka1, ka2, ka3⟩ := ckI_ok hk
 obtain ⟨ra0, ra1⟩ := root_le (x := a) h0 (by omega)
 obtain ⟨rb0, rb1⟩ := root_le (x := b) (by omega) (by omega)
 have n1 : IntKind.i64.wrap (rootI b + 1) = rootI b + 1 := by rw [IntKind.wrap_i64]; omega
 go_enter Tryz.func101, Tryz.ntmps101
 go_wp2_with (first | (go_at_call 106; (with_reducible refine (ref_check _ _ _).mono ?_); rintro e w1 ⟨rfl, hb⟩; obtain ⟨_, _, hc, hf⟩ := hb.cells2; have hz := hb.size; (try simp only [wsz] at hz hc hf)) | (go_at_call 161; (with_reducible refine (r_root a _ h0 (by omega)).mono ?_); rintro e w1 ⟨rfl, hb⟩; obtain ⟨_, _, hc, hf⟩ := hb.cells2; have hz := hb.size; (try simp only [wsz] at hz hc hf)) | (go_at_call 161; (with_reducible refine (r_root b _ (by omega) (by omega)).mono ?_); rintro e w1 ⟨rfl, hb⟩; obtain ⟨_, _, hc, hf⟩ := hb.cells2; have hz := hb.size; (try simp only [wsz] at hz hc hf)) | (go_at_call 110; (with_reducible refine (ref_made _ _ _).mono ?_); rintro e w1 ⟨rfl, hb⟩; obtain ⟨_, _, hc, hf⟩ := hb.cells2; have hz := hb.size; (try simp only [wsz] at hz hc hf)))
 all_goals
  refine bodyPost_ret (v := .tuple #[.agg #[.int .i64 (sqrtP a b).lo, .int .i64 (sqrtP a b).hi], .int .i64 (sqrtP a b).e]) ?_ rfl ⟨rfl, ?_⟩
  ·(try simp only [bne_iff_ne, ne_eq, bne_eq_false_iff_eq, beq_iff_eq, beq_eq_false_iff_ne] at *)
   have q1 : ¬ (rootI a < -2305843009213693952 ∨ 2305843009213693952 < rootI b) := by omega
   have q2 : ¬ (rootI a < -2305843009213693952 ∨ 2305843009213693952 < rootI b + 1) := by omega
   simp [results, Tryz.results101, go_sem, ↓IntWalk.iteOmega, madeI, sqrtP, *]
   all_goals (try (intro hh; simp_all; done))
  ·exact ex_
theorem rsqrt_e (a b : Int) (w : World) (hk : ¬ ckI a b = 0) :
    Calls Tryz.prog 101 #[.agg #[.int .i64 a, .int .i64 b]] w fun e w' => e = .returned (.tuple #[.agg #[.int .i64 (R3.mk 0 0 (ckI a b)).lo, .int .i64 (R3.mk 0 0 (ckI a b)).hi], .int .i64 (R3.mk 0 0 (ckI a b)).e]) ∧ Ext w w' := by
 go_enter Tryz.func101, Tryz.ntmps101
 go_wp2_with (first | (go_at_call 106; (with_reducible refine (ref_check _ _ _).mono ?_); rintro e w1 ⟨rfl, hb⟩; obtain ⟨_, _, hc, hf⟩ := hb.cells2; have hz := hb.size; (try simp only [wsz] at hz hc hf)))
 all_goals
  refine bodyPost_ret (v := .tuple #[.agg #[.int .i64 (R3.mk 0 0 (ckI a b)).lo, .int .i64 (R3.mk 0 0 (ckI a b)).hi], .int .i64 (R3.mk 0 0 (ckI a b)).e]) ?_ rfl ⟨rfl, ?_⟩
  ·(try simp only [bne_iff_ne, ne_eq, bne_eq_false_iff_eq, beq_iff_eq, beq_eq_false_iff_ne] at *)
   simp [results, Tryz.results101, go_sem, ↓IntWalk.iteOmega, ne_eq, *]
  ·exact ex_
theorem rsqrt_n (a b : Int) (w : World) (hk : ckI a b = 0) (h0 : a < 0) :
    Calls Tryz.prog 101 #[.agg #[.int .i64 a, .int .i64 b]] w fun e w' => e = .returned (.tuple #[.agg #[.int .i64 (R3.mk 0 0 2).lo, .int .i64 (R3.mk 0 0 2).hi], .int .i64 (R3.mk 0 0 2).e]) ∧ Ext w w' := by
 go_enter Tryz.func101, Tryz.ntmps101
 go_wp2_with (first | (go_at_call 106; (with_reducible refine (ref_check _ _ _).mono ?_); rintro e w1 ⟨rfl, hb⟩; obtain ⟨_, _, hc, hf⟩ := hb.cells2; have hz := hb.size; (try simp only [wsz] at hz hc hf)))
 all_goals
  refine bodyPost_ret (v := .tuple #[.agg #[.int .i64 (R3.mk 0 0 2).lo, .int .i64 (R3.mk 0 0 2).hi], .int .i64 (R3.mk 0 0 2).e]) ?_ rfl ⟨rfl, ?_⟩
  ·(try simp only [bne_iff_ne, ne_eq, bne_eq_false_iff_eq, beq_iff_eq, beq_eq_false_iff_ne] at *)
   simp [results, Tryz.results101, go_sem, ↓IntWalk.iteOmega, ne_eq, *]
  ·exact ex_
theorem ref_sqrt (a b : Int) (w : World) :
    Calls Tryz.prog 101 #[.agg #[.int .i64 a, .int .i64 b]] w fun e w' => e = .returned (.tuple #[.agg #[.int .i64 (sqrtI a b).lo, .int .i64 (sqrtI a b).hi], .int .i64 (sqrtI a b).e]) ∧ Ext w w' := by
 by_cases hk : ckI a b = 0
 ·by_cases h0 : a < 0
  ·have e : sqrtI a b = ⟨0, 0, 2⟩ := by unfold sqrtI; rw [if_neg c_46, if_pos h0]
   rw [e]; exact rsqrt_n a b w hk h0
  ·have e : sqrtI a b = sqrtP a b := by unfold sqrtI; rw [if_neg c_46, if_neg h0]; rfl
   rw [e]; exact rsqrt_p a b w hk (by omega)
 ·have e : sqrtI a b = ⟨0, 0, ckI a b⟩ := by unfold sqrtI; rw [if_pos c_46]
  rw [e]; exact rsqrt_e a b w hk
theorem ssqrt_p (a b : Int) (w : World) (hk : ckI a b = 0) (h0 : 0 ≤ a) :
    Calls Tryz.prog 146 #[.agg #[.int .i64 a, .int .i64 b]] w fun e w' => e = .returned (.tuple #[.agg #[.int .i64 (sqrtP a b).lo, .int .i64 (sqrtP a b).hi], .int .i64 (sqrtP a b).e]) ∧ Ext w w' := by
 obtain ⟨ka1, ka2, ka3⟩ := ckI_ok hk
 obtain ⟨ra0, ra1⟩ := root_le (x := a) h0 (by omega)
 obtain ⟨rb0, rb1⟩ := root_le (x := b) (by omega) (by omega)
 have n1 : IntKind.i64.wrap (rootI b + 1) = rootI b + 1 := by rw [IntKind.wrap_i64]; omega
 have hM : I64 1099511627776 := by unfold I64; omega
 have hR : I64 (rootI b) := by unfold I64; omega
 have hB : I64 b := by unfold I64; omega
 have n113 : ∀ (h l h' l' : Int) (w : World), (Op.equalIn 10000 136 (.agg #[.int .i64 h, .int .u64 l]) (.agg #[.int .i64 h', .int .u64 l'])).run Tryz.prog w = .ok (h == h' && l == l') w := fun h l h' l' w => eq_twin h l h' l' 9998 w
 have m113 : Tryz.prog.eqGuardType Tryz.prog.depth 136 = false := by kernel_rfl
 have hq := twin_eq (rootI b * rootI b) (b * 1099511627776)
 go_enter Tryz.func146, Tryz.ntmps146
 go_upto_region 7 with (first | (go_at_call 92; (with_reducible refine (check_1 _ _ _ _ c_48).mono ?_); rintro e w1 ⟨rfl, hb⟩; obtain ⟨_, _, hc, hf⟩ := hb.cells2; have hz := hb.size; (try simp only [wsz] at hz hc hf); (try have zz : w.heap.size < w1.heap.size ∧ (∀ j, w.heap.size < w1.heap.size + j) ∧ (¬ w.heap.size = w1.heap.size) ∧ (∀ j, ¬ w.heap.size = w1.heap.size + j) ∧ (¬ w1.heap.size = w.heap.size) ∧ (∀ j, ¬ w1.heap.size + j = w.heap.size) := c_6); (try have zz : w.heap.size + 1 < w1.heap.size ∧ (∀ j, w.heap.size + 1 < w1.heap.size + j) ∧ (¬ w.heap.size + 1 = w1.heap.size) ∧ (∀ j, ¬ w.heap.size + 1 = w1.heap.size + j) ∧ (¬ w1.heap.size = w.heap.size + 1) ∧ (∀ j, ¬ w1.heap.size + j = w.heap.size + 1) := c_6)) | (go_at_call 190; (with_reducible refine (s_root b _ (by omega) (by omega)).mono ?_); rintro e w1 ⟨rfl, hb⟩; obtain ⟨_, _, hc, hf⟩ := hb.cells2; have hz := hb.size; (try simp only [wsz] at hz hc hf); (try have zz : w.heap.size < w1.heap.size ∧ (∀ j, w.heap.size < w1.heap.size + j) ∧ (¬ w.heap.size = w1.heap.size) ∧ (∀ j, ¬ w.heap.size = w1.heap.size + j) ∧ (¬ w1.heap.size = w.heap.size) ∧ (∀ j, ¬ w1.heap.size + j = w.heap.size) := c_6); (try have zz : w.heap.size + 1 < w1.heap.size ∧ (∀ j, w.heap.size + 1 < w1.heap.size + j) ∧ (¬ w.heap.size + 1 = w1.heap.size) ∧ (∀ j, ¬ w.heap.size + 1 = w1.heap.size + j) ∧ (¬ w1.heap.size = w.heap.size + 1) ∧ (∀ j, ¬ w1.heap.size + j = w.heap.size + 1) := c_6)))
 refine wp_name fun W hW => ?_
 obtain ⟨hWc, hWf, hWz⟩ := hW.cells
 have hWe : Ext w W := Ext.same hW ex_
 (try simp only [wsz] at hWz)
 (try simp only [size_drew, size_drewN, World.size_alloc, World.size_setCell] at hWz)
 replace hWz := And.intro (Nat.le_of_eq hWz) (Nat.le_of_eq hWz.symm)
 have hlt : w.heap.size < W.heap.size ∧ w.heap.size + 1 < W.heap.size := c_52
 have hd : ¬ w.heap.size = w.heap.size + 1 ∧ ¬ w.heap.size + 1 = w.heap.size := c_52
 go_region_held3 (fun w' => (∀ b o, b < W.heap.size → w'.cell? ⟨b, o, none⟩ = if b = w.heap.size ∧ 0 ≤ o ∧ o < 0 then (W.cell? ⟨b, o, none⟩).map (obx w' b o) else W.cell? ⟨b, o, none⟩) ∧ (∀ b o, b < W.heap.size → w'.frozen? ⟨b, o, none⟩ = W.frozen? ⟨b, o, none⟩) ∧ W.heap.size ≤ w'.heap.size ∧ Ext w w') (first | (with_reducible exact held0 hWe) | (with_reducible exact held1 c_1 c_1) | (with_reducible exact held3 c_1) | ((with_reducible refine held4 c_1 ?_ ?_) <;> omega) | (repeat (first | (with_reducible assumption) | (with_reducible refine held2 ?_ c_2 c_10)))) ((first | (go_at_call 93; (with_reducible refine (times_any _ _ _ hR hR).mono ?_); rintro e w2 ⟨rfl, hb2⟩; have hz2 := hb2.size; (try rw [size_drew] at hz2)) | (go_at_call 93; (with_reducible refine (times_any _ _ _ hB hM).mono ?_); rintro e w2 ⟨rfl, hb2⟩; have hz2 := hb2.size; (try rw [size_drew] at hz2))))
 all_goals
  rename_i hOld
  have hE := hOld.2.2.2
  have hO := And.intro hOld.1 (And.intro hOld.2.1 hOld.2.2.1)
  clear hOld
  obtain ⟨hOc, hOf, hOz⟩ := heldEnd hO
  clear hO
  go_wp2_with (first | (go_at_call 190; (with_reducible refine (s_root a _ h0 (by omega)).mono ?_); rintro e w1 ⟨rfl, hb⟩; obtain ⟨_, _, hc, hf⟩ := hb.cells2; have hz := hb.size; (try simp only [wsz] at hz hc hf)))
  all_goals
   refine bodyPost_ret (v := .tuple #[.agg #[.int .i64 (sqrtP a b).lo, .int .i64 (sqrtP a b).hi], .int .i64 (sqrtP a b).e]) ?_ rfl ⟨rfl, ?_⟩
   ·(try simp only [bne_iff_ne, ne_eq, bne_eq_false_iff_eq, beq_iff_eq, beq_eq_false_iff_ne] at *)
    simp [results, Tryz.results146, go_sem, ↓IntWalk.iteOmega, sqrtP, *]
    all_goals (try (intro hh; simp_all; done))
   ·exact ex_
theorem ssqrt_e (a b : Int) (w : World) (hk : ¬ ckI a b = 0) :
    Calls Tryz.prog 146 #[.agg #[.int .i64 a, .int .i64 b]] w fun e w' => e = .returned (.tuple #[.agg #[.int .i64 (R3.mk 0 0 (ckI a b)).lo, .int .i64 (R3.mk 0 0 (ckI a b)).hi], .int .i64 (R3.mk 0 0 (ckI a b)).e]) ∧ Ext w w' := by
 go_enter Tryz.func146, Tryz.ntmps146
 go_wp2_with (first | (go_at_call 92; (with_reducible refine (check_1 _ _ _ _ c_48).mono ?_); rintro e w1 ⟨rfl, hb⟩; obtain ⟨_, _, hc, hf⟩ := hb.cells2; have hz := hb.size; (try simp only [wsz] at hz hc hf)))
 all_goals
  refine bodyPost_ret (v := .tuple #[.agg #[.int .i64 (R3.mk 0 0 (ckI a b)).lo, .int .i64 (R3.mk 0 0 (ckI a b)).hi], .int .i64 (R3.mk 0 0 (ckI a b)).e]) ?_ rfl ⟨rfl, ?_⟩
  ·(try simp only [bne_iff_ne, ne_eq, bne_eq_false_iff_eq, beq_iff_eq, beq_eq_false_iff_ne] at *)
   simp [results, Tryz.results146, go_sem, ↓IntWalk.iteOmega, ne_eq, *]
  ·exact ex_
theorem ssqrt_n (a b : Int) (w : World) (hk : ckI a b = 0) (h0 : a < 0) :
    Calls Tryz.prog 146 #[.agg #[.int .i64 a, .int .i64 b]] w fun e w' => e = .returned (.tuple #[.agg #[.int .i64 (R3.mk 0 0 2).lo, .int .i64 (R3.mk 0 0 2).hi], .int .i64 (R3.mk 0 0 2).e]) ∧ Ext w w' := by
 go_enter Tryz.func146, Tryz.ntmps146
 go_wp2_with (first | (go_at_call 92; (with_reducible refine (check_1 _ _ _ _ c_48).mono ?_); rintro e w1 ⟨rfl, hb⟩; obtain ⟨_, _, hc, hf⟩ := hb.cells2; have hz := hb.size; (try simp only [wsz] at hz hc hf)))
 all_goals
  refine bodyPost_ret (v := .tuple #[.agg #[.int .i64 (R3.mk 0 0 2).lo, .int .i64 (R3.mk 0 0 2).hi], .int .i64 (R3.mk 0 0 2).e]) ?_ rfl ⟨rfl, ?_⟩
  ·(try simp only [bne_iff_ne, ne_eq, bne_eq_false_iff_eq, beq_iff_eq, beq_eq_false_iff_ne] at *)
   simp [results, Tryz.results146, go_sem, ↓IntWalk.iteOmega, ne_eq, *]
  ·exact ex_
theorem span_sqrt (a b : Int) (w : World) :
    Calls Tryz.prog 146 #[.agg #[.int .i64 a, .int .i64 b]] w fun e w' => e = .returned (.tuple #[.agg #[.int .i64 (sqrtI a b).lo, .int .i64 (sqrtI a b).hi], .int .i64 (sqrtI a b).e]) ∧ Ext w w' := by
 by_cases hk : ckI a b = 0
 ·by_cases h0 : a < 0
  ·have e : sqrtI a b = ⟨0, 0, 2⟩ := by unfold sqrtI; rw [if_neg c_46, if_pos h0]
   rw [e]; exact ssqrt_n a b w hk h0
  ·have e : sqrtI a b = sqrtP a b := by unfold sqrtI; rw [if_neg c_46, if_neg h0]; rfl
   rw [e]; exact ssqrt_p a b w hk (by omega)
 ·have e : sqrtI a b = ⟨0, 0, ckI a b⟩ := by unfold sqrtI; rw [if_pos c_46]
  rw [e]; exact ssqrt_e a b w hk
theorem T_KA_1 {p : Prop} (h : p := by
 refine ⟨rfl, Or.inr ⟨h0, rfl⟩, ?_⟩
 repeat (first | with_reducible exact Ext.refl _ | with_reducible assumption | with_reducible refine Ext.alloc ?_ _ | with_reducible refine Ext.setCell ?_ c_14 _ | with_reducible refine Ext.drewN ?_ _ | with_reducible refine Ext.drew ?_ | with_reducible refine Ext.trans ?_ c_1)) : p := h
def FALL : List PanicEntry := [{ v := .iface 119 (.agg #[]), recovered := false }]
def KP (r : R3) (e : Ending) : Prop := (r.e = 0 ∧ e = .returned (.agg #[.int .i64 r.lo, .int .i64 r.hi])) ∨ (¬ r.e = 0 ∧ e = .panicked FALL)
theorem k_must (r : R3) (w : World) : Calls Tryz.prog 42 #[.agg #[.int .i64 r.lo, .int .i64 r.hi], .int .i64 r.e] w fun e w' => KP r e ∧ Ext w w' := by
 obtain ⟨x, hx⟩ : ∃ x, r.lo = x := ⟨_, rfl⟩
 obtain ⟨y, hy⟩ : ∃ y, r.hi = y := ⟨_, rfl⟩
 obtain ⟨ee, he⟩ : ∃ ee, r.e = ee := ⟨_, rfl⟩
 unfold KP
 rw [hx, hy, he]
 clear hx hy he
 by_cases h0 : ee = 0
 ·subst h0
  go_enter Tryz.func42, Tryz.ntmps42
  go_wp2
  refine bodyPost_ret (v := .agg #[.int .i64 x, .int .i64 y]) ?_ rfl ⟨Or.inl (by simp), ?_⟩
  ·simp [results, Tryz.results42, go_sem, ↓IntWalk.iteOmega, *]
  ·exact ex_
 ·go_enter Tryz.func42, Tryz.ntmps42
  go_wp2
  exact T_KA_1
theorem k_div (a b c d : Int) (w : World) : Calls Tryz.prog 44 #[.agg #[.int .i64 a, .int .i64 b], .agg #[.int .i64 c, .int .i64 d]] w fun e w' => KP (divI a b c d) e ∧ Ext w w' := by
 have hs := fun w1 => span_div a b c d w1
 generalize divI a b c d = r at hs ⊢
 have hm := fun w1 => k_must r w1
 obtain ⟨lo, hlo⟩ : ∃ x, r.lo = x := ⟨_, rfl⟩
 obtain ⟨hi, hhi⟩ : ∃ x, r.hi = x := ⟨_, rfl⟩
 obtain ⟨ee, hee⟩ : ∃ x, r.e = x := ⟨_, rfl⟩
 unfold KP at hm ⊢
 rw [hlo, hhi, hee] at hs hm
 rw [hlo, hhi, hee]
 clear hlo hhi hee
 by_cases h0 : ee = 0
 ·subst h0
  replace hm := fun w1 => (hm w1).mono (R' := fun e w' => e = .returned (.agg #[.int .i64 lo, .int .i64 hi]) ∧ Ext w1 w') c_33
  go_enter Tryz.func44, Tryz.ntmps44
  go_wp2_with (first
   | (go_at_call 100; (with_reducible refine (hs _).mono ?_); rintro e w1 ⟨rfl, hb⟩; obtain ⟨_, _, hc, hf⟩ := hb.cells2; have hz := hb.size; (try simp only [wsz] at hz hc hf))
   | (go_at_call 42; (with_reducible refine (hm _).mono ?_); rintro e w2 ⟨rfl, hb2⟩; obtain ⟨_, _, hc2, hf2⟩ := hb2.cells2; have hz2 := hb2.size; (try simp only [wsz] at hz2 hc2 hf2)))
  refine bodyPost_ret (v := .agg #[.int .i64 lo, .int .i64 hi]) ?_ rfl ⟨Or.inl (by simp), ?_⟩
  ·simp [results, Tryz.results44, go_sem, ↓IntWalk.iteOmega, *]
  ·exact ex_
 ·replace hm := fun w1 => (hm w1).mono (R' := fun e w' => e = .panicked FALL ∧ Ext w1 w') c_45
  go_enter Tryz.func44, Tryz.ntmps44
  go_wp2_with (first
   | (go_at_call 100; (with_reducible refine (hs _).mono ?_); rintro e w1 ⟨rfl, hb⟩; obtain ⟨_, _, hc, hf⟩ := hb.cells2; have hz := hb.size; (try simp only [wsz] at hz hc hf))
   | (go_at_call 42; (with_reducible refine (hm _).mono ?_); rintro e w2 ⟨rfl, hb2⟩; obtain ⟨_, _, hc2, hf2⟩ := hb2.cells2; have hz2 := hb2.size; (try simp only [wsz] at hz2 hc2 hf2)))
  exact T_KA_1
theorem k_sub (a b c d : Int) (w : World) : Calls Tryz.prog 84 #[.agg #[.int .i64 a, .int .i64 b], .agg #[.int .i64 c, .int .i64 d]] w fun e w' => KP (subI a b c d) e ∧ Ext w w' := by
 have hs := fun w1 => span_sub a b c d w1
 generalize subI a b c d = r at hs ⊢
 have hm := fun w1 => k_must r w1
 obtain ⟨lo, hlo⟩ : ∃ x, r.lo = x := ⟨_, rfl⟩
 obtain ⟨hi, hhi⟩ : ∃ x, r.hi = x := ⟨_, rfl⟩
 obtain ⟨ee, hee⟩ : ∃ x, r.e = x := ⟨_, rfl⟩
 unfold KP at hm ⊢
 rw [hlo, hhi, hee] at hs hm
 rw [hlo, hhi, hee]
 clear hlo hhi hee
 by_cases h0 : ee = 0
 ·subst h0
  replace hm := fun w1 => (hm w1).mono (R' := fun e w' => e = .returned (.agg #[.int .i64 lo, .int .i64 hi]) ∧ Ext w1 w') c_33
  go_enter Tryz.func84, Tryz.ntmps84
  go_wp2_with (first
   | (go_at_call 148; (with_reducible refine (hs _).mono ?_); rintro e w1 ⟨rfl, hb⟩; obtain ⟨_, _, hc, hf⟩ := hb.cells2; have hz := hb.size; (try simp only [wsz] at hz hc hf))
   | (go_at_call 42; (with_reducible refine (hm _).mono ?_); rintro e w2 ⟨rfl, hb2⟩; obtain ⟨_, _, hc2, hf2⟩ := hb2.cells2; have hz2 := hb2.size; (try simp only [wsz] at hz2 hc2 hf2)))
  refine bodyPost_ret (v := .agg #[.int .i64 lo, .int .i64 hi]) ?_ rfl ⟨Or.inl (by simp), ?_⟩
  ·simp [results, Tryz.results84, go_sem, ↓IntWalk.iteOmega, *]
  ·exact ex_
 ·replace hm := fun w1 => (hm w1).mono (R' := fun e w' => e = .panicked FALL ∧ Ext w1 w') c_45
  go_enter Tryz.func84, Tryz.ntmps84
  go_wp2_with (first
   | (go_at_call 148; (with_reducible refine (hs _).mono ?_); rintro e w1 ⟨rfl, hb⟩; obtain ⟨_, _, hc, hf⟩ := hb.cells2; have hz := hb.size; (try simp only [wsz] at hz hc hf))
   | (go_at_call 42; (with_reducible refine (hm _).mono ?_); rintro e w2 ⟨rfl, hb2⟩; obtain ⟨_, _, hc2, hf2⟩ := hb2.cells2; have hz2 := hb2.size; (try simp only [wsz] at hz2 hc2 hf2)))
  exact T_KA_1
theorem k_root (a b : Int) (w : World) : Calls Tryz.prog 82 #[.agg #[.int .i64 a, .int .i64 b]] w fun e w' => KP (sqrtI a b) e ∧ Ext w w' := by
 have hs := fun w1 => span_sqrt a b w1
 generalize sqrtI a b = r at hs ⊢
 have hm := fun w1 => k_must r w1
 obtain ⟨lo, hlo⟩ : ∃ x, r.lo = x := ⟨_, rfl⟩
 obtain ⟨hi, hhi⟩ : ∃ x, r.hi = x := ⟨_, rfl⟩
 obtain ⟨ee, hee⟩ : ∃ x, r.e = x := ⟨_, rfl⟩
 unfold KP at hm ⊢
 rw [hlo, hhi, hee] at hs hm
 rw [hlo, hhi, hee]
 clear hlo hhi hee
 by_cases h0 : ee = 0
 ·subst h0
  replace hm := fun w1 => (hm w1).mono (R' := fun e w' => e = .returned (.agg #[.int .i64 lo, .int .i64 hi]) ∧ Ext w1 w') c_33
  go_enter Tryz.func82, Tryz.ntmps82
  go_wp2_with (first
   | (go_at_call 146; (with_reducible refine (hs _).mono ?_); rintro e w1 ⟨rfl, hb⟩; obtain ⟨_, _, hc, hf⟩ := hb.cells2; have hz := hb.size; (try simp only [wsz] at hz hc hf))
   | (go_at_call 42; (with_reducible refine (hm _).mono ?_); rintro e w2 ⟨rfl, hb2⟩; obtain ⟨_, _, hc2, hf2⟩ := hb2.cells2; have hz2 := hb2.size; (try simp only [wsz] at hz2 hc2 hf2)))
  refine bodyPost_ret (v := .agg #[.int .i64 lo, .int .i64 hi]) ?_ rfl ⟨Or.inl (by simp), ?_⟩
  ·simp [results, Tryz.results82, go_sem, ↓IntWalk.iteOmega, *]
  ·exact ex_
 ·replace hm := fun w1 => (hm w1).mono (R' := fun e w' => e = .panicked FALL ∧ Ext w1 w') c_45
  go_enter Tryz.func82, Tryz.ntmps82
  go_wp2_with (first
   | (go_at_call 146; (with_reducible refine (hs _).mono ?_); rintro e w1 ⟨rfl, hb⟩; obtain ⟨_, _, hc, hf⟩ := hb.cells2; have hz := hb.size; (try simp only [wsz] at hz hc hf))
   | (go_at_call 42; (with_reducible refine (hm _).mono ?_); rintro e w2 ⟨rfl, hb2⟩; obtain ⟨_, _, hc2, hf2⟩ := hb2.cells2; have hz2 := hb2.size; (try simp only [wsz] at hz2 hc2 hf2)))
  exact T_KA_1
theorem s_whole (n : Int) (w : World) (h0 : 0 ≤ n) (h1 : n ≤ 1000) : Calls Tryz.prog 147 #[.int .i64 n] w fun e w' => e = .returned (.tuple #[.agg #[.int .i64 (n * 1099511627776), .int .i64 (n * 1099511627776)], .int .i64 0]) ∧ Ext w w' := by
 go_enter Tryz.func147, Tryz.ntmps147
 go_wp2
 refine bodyPost_ret (v := .tuple #[.agg #[.int .i64 (n * 1099511627776), .int .i64 (n * 1099511627776)], .int .i64 0]) ?_ rfl ⟨rfl, ?_⟩
 ·simp [results, Tryz.results147, go_sem, ↓IntWalk.iteOmega, *]
 ·exact ex_
theorem k_whole (n : Int) (w : World) (h0 : 0 ≤ n) (h1 : n ≤ 1000) : Calls Tryz.prog 83 #[.int .i64 n] w fun e w' => e = .returned (.agg #[.int .i64 (n * 1099511627776), .int .i64 (n * 1099511627776)]) ∧ Ext w w' := by
 have hs := fun w1 => s_whole n w1 h0 h1
 obtain ⟨x, hx⟩ : ∃ x, n * 1099511627776 = x := ⟨_, rfl⟩
 rw [hx] at hs ⊢
 clear hx
 have hm : ∀ w1, Calls Tryz.prog 42 #[.agg #[.int .i64 x, .int .i64 x], .int .i64 0] w1 fun e w' => e = .returned (.agg #[.int .i64 x, .int .i64 x]) ∧ Ext w1 w' := fun w1 => (k_must ⟨x, x, 0⟩ w1).mono c_33
 go_enter Tryz.func83, Tryz.ntmps83
 go_wp2_with (first
  | (go_at_call 147; (with_reducible refine (hs _).mono ?_); rintro e w1 ⟨rfl, hb⟩; obtain ⟨_, _, hc, hf⟩ := hb.cells2; have hz := hb.size; (try simp only [wsz] at hz hc hf))
  | (go_at_call 42; (with_reducible refine (hm _).mono ?_); rintro e w2 ⟨rfl, hb2⟩; obtain ⟨_, _, hc2, hf2⟩ := hb2.cells2; have hz2 := hb2.size; (try simp only [wsz] at hz2 hc2 hf2)))
 refine bodyPost_ret (v := .agg #[.int .i64 x, .int .i64 x]) ?_ rfl ⟨rfl, ?_⟩
 ·simp [results, Tryz.results83, go_sem, ↓IntWalk.iteOmega, *]
 ·exact ex_
theorem k_mul1 (a b c d : Int) (g cap : Nat) (w : World) (ha : I64 a ∧ I64 b) (hc0 : I64 c ∧ I64 d) (hl0 : w.cell? ⟨g, 0, none⟩ = some (.int .i64 c)) (hl1 : w.cell? ⟨g, 1, none⟩ = some (.int .i64 d)) : Calls Tryz.prog 86 #[.agg #[.int .i64 a, .int .i64 b], .slice (some ⟨g, 0, none⟩) 1 cap] w fun e w' => KP (mulI a b c d) e ∧ Ext w w' := by
 have hgl : g < w.heap.size := World.block_lt_of_cell? w _ hl0
 have hs := fun w1 => span_mul a b c d w1 ha hc0
 generalize mulI a b c d = r at hs ⊢
 have hm := fun w1 => k_must r w1
 obtain ⟨lo, hlo⟩ : ∃ x, r.lo = x := ⟨_, rfl⟩
 obtain ⟨hi, hhi⟩ : ∃ x, r.hi = x := ⟨_, rfl⟩
 obtain ⟨ee, hee⟩ : ∃ x, r.e = x := ⟨_, rfl⟩
 unfold KP at hm ⊢
 rw [hlo, hhi, hee] at hs hm
 rw [hlo, hhi, hee]
 clear hlo hhi hee
 by_cases h0 : ee = 0
 ·subst h0
  replace hm := fun w1 => (hm w1).mono (R' := fun e w' => e = .returned (.agg #[.int .i64 lo, .int .i64 hi]) ∧ Ext w1 w') c_33
  go_enter Tryz.func86, Tryz.ntmps86
  go_wp2_with fail
  refine wp_loop_rounds 2 ?_
  rw [rounds_succ]
  go_wp2_with (first
   | (go_at_call 151; (with_reducible refine (hs _).mono ?_); rintro e w1 ⟨rfl, hb⟩; obtain ⟨_, _, hc, hf⟩ := hb.cells2; have hz := hb.size; (try simp only [wsz] at hz hc hf))
   | (go_at_call 42; (with_reducible refine (hm _).mono ?_); rintro e w2 ⟨rfl, hb2⟩; obtain ⟨_, _, hc2, hf2⟩ := hb2.cells2; have hz2 := hb2.size; (try simp only [wsz] at hz2 hc2 hf2)))
  rw [rounds_succ]
  go_wp2_with fail
  refine bodyPost_ret (v := .agg #[.int .i64 lo, .int .i64 hi]) ?_ rfl ⟨Or.inl (by simp), ?_⟩
  ·simp [results, Tryz.results86, go_sem, ↓IntWalk.iteOmega, *]
  ·exact ex_
 ·replace hm := fun w1 => (hm w1).mono (R' := fun e w' => e = .panicked FALL ∧ Ext w1 w') c_45
  go_enter Tryz.func86, Tryz.ntmps86
  go_wp2_with fail
  refine wp_loop_rounds 2 ?_
  rw [rounds_succ]
  go_wp2_with (first
   | (go_at_call 151; (with_reducible refine (hs _).mono ?_); rintro e w1 ⟨rfl, hb⟩; obtain ⟨_, _, hc, hf⟩ := hb.cells2; have hz := hb.size; (try simp only [wsz] at hz hc hf))
   | (go_at_call 42; (with_reducible refine (hm _).mono ?_); rintro e w2 ⟨rfl, hb2⟩; obtain ⟨_, _, hc2, hf2⟩ := hb2.cells2; have hz2 := hb2.size; (try simp only [wsz] at hz2 hc2 hf2)))
  exact T_KA_1
end Go.Proofs.YtogblocakccbgaaGreat
