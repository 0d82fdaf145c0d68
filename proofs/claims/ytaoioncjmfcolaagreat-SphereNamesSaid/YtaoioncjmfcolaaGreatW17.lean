/- span: comparing numbers of two words; the least and the greatest. -/
import Derived.Test.YtaoioncjmfcolaaGreatW16
import Derived.Handy
set_option linter.unusedSimpArgs false
set_option linter.unusedVariables false
set_option maxRecDepth 100000
set_option maxHeartbeats 2000000
namespace Go.Proofs.YtaoioncjmfcolaaGreat
open Go.RowKit
def cmpT (T U : Int) : Int := if T = U then 0 else if T < U then -1 else 1
theorem cmp_any (T U : Int) (w : World) :
    Calls Tryz.prog 150 #[.agg #[.int .i64 (T / 18446744073709551616), .int .u64 (T % 18446744073709551616)], .agg #[.int .i64 (U / 18446744073709551616), .int .u64 (U % 18446744073709551616)]] w fun e w' => e = .returned (.int .i64 (cmpT T U)) ∧ Ext w w' := by
 obtain ⟨h, eh⟩ : ∃ h : Int, h = T / 18446744073709551616 := ⟨_, rfl⟩
 obtain ⟨l, el⟩ : ∃ h : Int, h = T % 18446744073709551616 := ⟨_, rfl⟩
 obtain ⟨h', eh'⟩ : ∃ h : Int, h = U / 18446744073709551616 := ⟨_, rfl⟩
 obtain ⟨l', el'⟩ : ∃ h : Int, h = U % 18446744073709551616 := ⟨_, rfl⟩
 have hc : (h = h' ∧ l = l' ↔ T = U) ∧ (h < h' ∨ h = h' ∧ l < l' ↔ T < U) := by omega
 rw [← eh, ← el, ← eh', ← el']
 have Hc := Lib.hid hc
 clear hc eh el eh' el'
 go_enter Tryz.func150, Tryz.ntmps150
 go_wp2_with fail
 all_goals
  go_ret
  refine ⟨?_, ((Ext.refl _).alloc _).alloc _⟩
  obtain ⟨c1, c2⟩ := Hc.out
  exact congrArg (fun n => Ending.returned (.int .i64 n)) (by unfold cmpT; split <;> (try split) <;> omega)
theorem cmp_neg (T U : Int) : cmpT T U < 0 ↔ T < U := by unfold cmpT; split <;> (try split) <;> omega
theorem cmp_nn (T U : Int) : 0 ≤ cmpT T U ↔ U ≤ T := by unfold cmpT; split <;> (try split) <;> omega
theorem cmp_pos (T U : Int) : 0 < cmpT T U ↔ U < T := by unfold cmpT; split <;> (try split) <;> omega
theorem cmp_np (T U : Int) : cmpT T U ≤ 0 ↔ T ≤ U := by unfold cmpT; split <;> (try split) <;> omega
def min2 (a b : Int) : Int := min a b
def max2 (a b : Int) : Int := max a b
theorem least_3 (T U V X : Int) (b c : Nat) (w : World) 
    (c2 : w.cell? ⟨b, 2, none⟩ = some (.int .i64 (U / 18446744073709551616))) (c3 : w.cell? ⟨b, 3, none⟩ = some (.int .u64 (U % 18446744073709551616)))
    (c4 : w.cell? ⟨b, 4, none⟩ = some (.int .i64 (V / 18446744073709551616))) (c5 : w.cell? ⟨b, 5, none⟩ = some (.int .u64 (V % 18446744073709551616)))
    (c6 : w.cell? ⟨b, 6, none⟩ = some (.int .i64 (X / 18446744073709551616))) (c7 : w.cell? ⟨b, 7, none⟩ = some (.int .u64 (X % 18446744073709551616))) :
    Calls Tryz.prog 101 #[.agg #[.int .i64 (T / 18446744073709551616), .int .u64 (T % 18446744073709551616)], .slice (some ⟨b, 2, none⟩) 3 c] w fun e w' => e = .returned (.agg #[.int .i64 (min4 T U V X / 18446744073709551616), .int .u64 (min4 T U V X % 18446744073709551616)]) ∧ Ext w w' := by
 have hb0 : b < w.heap.size := World.block_lt_of_cell? w _ c2
 go_enter Tryz.func101, Tryz.ntmps101
 go_wp2_with fail
 refine wp_loop_rounds 4 ?_
 repeat
  any_goals
   rw [rounds_succ]
   go_wp2_with (go_at_call 150; (with_reducible refine (cmp_any _ _ _).mono ?_); rintro e w1 ⟨rfl, hb⟩; obtain ⟨_, _, ⟨hc, hf⟩, hz⟩ := hb.c3; (try simp only [wsz] at hz hc hf))
 all_goals
  refine bodyPost_ret (v := .agg #[.int .i64 (min4 T U V X / 18446744073709551616), .int .u64 (min4 T U V X % 18446744073709551616)]) ?_ rfl ⟨rfl, ?_⟩
  ·simp [results, Tryz.results101, go_sem, ↓IntWalk.iteOmega, *]
   simp only [cmp_neg, cmp_nn] at *
   refine ⟨congrArg (· / 18446744073709551616) ?_, congrArg (· % 18446744073709551616) ?_⟩ <;> (unfold min4; omega)
  ·exact b_15
theorem greatest_3 (T U V X : Int) (b c : Nat) (w : World) 
    (c2 : w.cell? ⟨b, 2, none⟩ = some (.int .i64 (U / 18446744073709551616))) (c3 : w.cell? ⟨b, 3, none⟩ = some (.int .u64 (U % 18446744073709551616)))
    (c4 : w.cell? ⟨b, 4, none⟩ = some (.int .i64 (V / 18446744073709551616))) (c5 : w.cell? ⟨b, 5, none⟩ = some (.int .u64 (V % 18446744073709551616)))
    (c6 : w.cell? ⟨b, 6, none⟩ = some (.int .i64 (X / 18446744073709551616))) (c7 : w.cell? ⟨b, 7, none⟩ = some (.int .u64 (X % 18446744073709551616))) :
    Calls Tryz.prog 102 #[.agg #[.int .i64 (T / 18446744073709551616), .int .u64 (T % 18446744073709551616)], .slice (some ⟨b, 2, none⟩) 3 c] w fun e w' => e = .returned (.agg #[.int .i64 (max4 T U V X / 18446744073709551616), .int .u64 (max4 T U V X % 18446744073709551616)]) ∧ Ext w w' := by
 have hb0 : b < w.heap.size := World.block_lt_of_cell? w _ c2
 go_enter Tryz.func102, Tryz.ntmps102
 go_wp2_with fail
 refine wp_loop_rounds 4 ?_
 repeat
  any_goals
   rw [rounds_succ]
   go_wp2_with (go_at_call 150; (with_reducible refine (cmp_any _ _ _).mono ?_); rintro e w1 ⟨rfl, hb⟩; obtain ⟨_, _, ⟨hc, hf⟩, hz⟩ := hb.c3; (try simp only [wsz] at hz hc hf))
 all_goals
  refine bodyPost_ret (v := .agg #[.int .i64 (max4 T U V X / 18446744073709551616), .int .u64 (max4 T U V X % 18446744073709551616)]) ?_ rfl ⟨rfl, ?_⟩
  ·simp [results, Tryz.results102, go_sem, ↓IntWalk.iteOmega, *]
   simp only [cmp_pos, cmp_np] at *
   refine ⟨congrArg (· / 18446744073709551616) ?_, congrArg (· % 18446744073709551616) ?_⟩ <;> (unfold max4; omega)
  ·exact b_15
theorem check_2 (a b c d : Int) (n : Nat) (w : World) (hn : n = w.heap.size) :
    Calls Tryz.prog 91 #[.slice (some ⟨n, 0, none⟩) 2 2] (w.alloc (.cells #[.int .i64 a, .int .i64 b, .int .i64 c, .int .i64 d] 30)) fun e w' => e = .returned (.int .i64 (ck2 a b c d)) ∧ Ext (w.alloc (.cells #[.int .i64 a, .int .i64 b, .int .i64 c, .int .i64 d] 30)) w' := by
 subst hn
 go_enter Tryz.func91, Tryz.ntmps91
 go_wp2
 refine wp_loop_rounds 3 ?_
 repeat
  any_goals
   rw [rounds_succ]
   go_wp2
 all_goals
  go_ret
  refine ⟨?_, ?_⟩
  ·first | (simp [ck2, ckI, *]; done) | (simp [ck2, ckI, *]; omega)
  ·exact b_16
theorem check_1 (a b : Int) (n : Nat) (w : World) (hn : n = w.heap.size) :
    Calls Tryz.prog 91 #[.slice (some ⟨n, 0, none⟩) 1 1] (w.alloc (.cells #[.int .i64 a, .int .i64 b] 30)) fun e w' => e = .returned (.int .i64 (ckI a b)) ∧ Ext (w.alloc (.cells #[.int .i64 a, .int .i64 b] 30)) w' := by
 subst hn
 go_enter Tryz.func91, Tryz.ntmps91
 go_wp2
 refine wp_loop_rounds 2 ?_
 repeat
  any_goals
   rw [rounds_succ]
   go_wp2
 all_goals
  go_ret
  refine ⟨?_, ?_⟩
  ·first | (simp [ckI, *]; done) | (simp [ckI, *]; omega)
  ·exact b_16
theorem span_made (lo hi : Int) (w : World) :
    Calls Tryz.prog 92 #[.int .i64 lo, .int .i64 hi] w fun e w' => e = .returned (.tuple #[.agg #[.int .i64 (madeI lo hi).lo, .int .i64 (madeI lo hi).hi], .int .i64 (madeI lo hi).e]) ∧ Ext w w' := by
 go_enter Tryz.func92, Tryz.ntmps92
 go_wp2
 all_goals
  refine bodyPost_ret (v := .tuple #[.agg #[.int .i64 (madeI lo hi).lo, .int .i64 (madeI lo hi).hi], .int .i64 (madeI lo hi).e]) ?_ rfl ⟨rfl, ?_⟩
  ·(try simp only [] at *)
   simp [results, Tryz.results92, go_sem, ↓IntWalk.iteOmega, madeI, *]
  ·exact b_16
theorem span_add (a b c d : Int) (w : World) :
    Calls Tryz.prog 42 #[.agg #[.int .i64 a, .int .i64 b], .agg #[.int .i64 c, .int .i64 d]] w fun e w' => e = .returned (.tuple #[.agg #[.int .i64 (addI a b c d).lo, .int .i64 (addI a b c d).hi], .int .i64 (addI a b c d).e]) ∧ Ext w w' := by
 go_enter Tryz.func42, Tryz.ntmps42
 go_wp2_with (first | (go_at_call 91; (with_reducible refine (check_2 _ _ _ _ _ _ c_30).mono ?_); rintro e w1 ⟨rfl, hb⟩; obtain ⟨_, _, ⟨hc, hf⟩, hz⟩ := hb.c3; (try simp only [World.size_alloc] at hz hc hf)) | (go_at_call 92; (with_reducible refine (span_made _ _ _).mono ?_); rintro e w1 ⟨rfl, hb⟩; obtain ⟨_, _, ⟨hc, hf⟩, hz⟩ := hb.c3; (try simp only [wsz] at hz hc hf)))
 all_goals
  refine bodyPost_ret (v := .tuple #[.agg #[.int .i64 (addI a b c d).lo, .int .i64 (addI a b c d).hi], .int .i64 (addI a b c d).e]) ?_ rfl ⟨rfl, ?_⟩
  ·(try simp only [bn_] at *)
   simp [results, Tryz.results42, go_sem, ↓IntWalk.iteOmega, addI, *]
  ·exact b_17
theorem span_sub (a b c d : Int) (w : World) :
    Calls Tryz.prog 70 #[.agg #[.int .i64 a, .int .i64 b], .agg #[.int .i64 c, .int .i64 d]] w fun e w' => e = .returned (.tuple #[.agg #[.int .i64 (subI a b c d).lo, .int .i64 (subI a b c d).hi], .int .i64 (subI a b c d).e]) ∧ Ext w w' := by
 go_enter Tryz.func70, Tryz.ntmps70
 go_wp2_with (first | (go_at_call 91; (with_reducible refine (check_2 _ _ _ _ _ _ c_30).mono ?_); rintro e w1 ⟨rfl, hb⟩; obtain ⟨_, _, ⟨hc, hf⟩, hz⟩ := hb.c3; (try simp only [World.size_alloc] at hz hc hf)) | (go_at_call 92; (with_reducible refine (span_made _ _ _).mono ?_); rintro e w1 ⟨rfl, hb⟩; obtain ⟨_, _, ⟨hc, hf⟩, hz⟩ := hb.c3; (try simp only [wsz] at hz hc hf)))
 all_goals
  refine bodyPost_ret (v := .tuple #[.agg #[.int .i64 (subI a b c d).lo, .int .i64 (subI a b c d).hi], .int .i64 (subI a b c d).e]) ?_ rfl ⟨rfl, ?_⟩
  ·(try simp only [bn_] at *)
   simp [results, Tryz.results70, go_sem, ↓IntWalk.iteOmega, subI, *]
  ·exact b_17
theorem min4_bound {a b c d : Int} (pa : I64 a) (pb : I64 b) (pc : I64 c) (pd : I64 d) : -85070591730234615865843651857942052864 ≤ min4 (a * c) (a * d) (b * c) (b * d) ∧ min4 (a * c) (a * d) (b * c) (b * d) ≤ 85070591730234615865843651857942052864 := by
 have h1 := abs_mul_bound pa pc
 have h2 := abs_mul_bound pa pd
 have h3 := abs_mul_bound pb pc
 have h4 := abs_mul_bound pb pd
 unfold min4; omega
theorem max4_bound {a b c d : Int} (pa : I64 a) (pb : I64 b) (pc : I64 c) (pd : I64 d) : -85070591730234615865843651857942052864 ≤ max4 (a * c) (a * d) (b * c) (b * d) ∧ max4 (a * c) (a * d) (b * c) (b * d) ≤ 85070591730234615865843651857942052864 := by
 have h1 := abs_mul_bound pa pc
 have h2 := abs_mul_bound pa pd
 have h3 := abs_mul_bound pb pc
 have h4 := abs_mul_bound pb pd
 unfold max4; omega
theorem absI_I64 {a b : Int} (ha : I64 a) (hb : I64 b) : I64 (absI a b).lo ∧ I64 (absI a b).hi := by
 have h1 := w64_mod (-a)
 have h2 := w64_mod (-b)
 unfold I64 absI at *
 split
 ·simp
 ·split
  ·exact ⟨ha, hb⟩
  ·split
   ·exact ⟨h2.2, h1.2⟩
   ·simp only []; omega
theorem span_abs (a b : Int) (w : World) :
    Calls Tryz.prog 94 #[.agg #[.int .i64 a, .int .i64 b]] w fun e w' => e = .returned (.tuple #[.agg #[.int .i64 (absI a b).lo, .int .i64 (absI a b).hi], .int .i64 (absI a b).e]) ∧ Ext w w' := by
 go_enter Tryz.func94, Tryz.ntmps94
 go_wp2_with (first | (go_at_call 91; (with_reducible refine (check_1 _ _ _ _ c_30).mono ?_); rintro e w1 ⟨rfl, hb⟩; obtain ⟨_, _, ⟨hc, hf⟩, hz⟩ := hb.c3; (try simp only [World.size_alloc] at hz hc hf)))
 all_goals
  refine bodyPost_ret (v := .tuple #[.agg #[.int .i64 (absI a b).lo, .int .i64 (absI a b).hi], .int .i64 (absI a b).e]) ?_ rfl ⟨rfl, ?_⟩
  ·(try simp only [bn_] at *)
   simp [results, Tryz.results94, go_sem, ↓IntWalk.iteOmega, absI, *]
   (try (split <;> simp_all <;> omega))
  ·exact b_17
theorem span_sq (a b : Int) (w : World) (ha : I64 a) (hb0 : I64 b) :
    Calls Tryz.prog 45 #[.agg #[.int .i64 a, .int .i64 b]] w fun e w' => e = .returned (.tuple #[.agg #[.int .i64 (sqI a b).lo, .int .i64 (sqI a b).hi], .int .i64 (sqI a b).e]) ∧ Ext w w' := by
 obtain ⟨i1, i2⟩ := absI_I64 ha hb0
 go_enter Tryz.func45, Tryz.ntmps45
 go_wp2_with (first | (go_at_call 94; (with_reducible refine (span_abs _ _ _).mono ?_); rintro e w1 ⟨rfl, hb⟩; obtain ⟨_, _, ⟨hc, hf⟩, hz⟩ := hb.c3; (try simp only [World.size_alloc] at hz hc hf); (try have zz := q_1 w.heap.size w1.heap.size); (try have zz := q_1 (w.heap.size + 1) w1.heap.size)))
 any_goals
  refine wp_name fun W hW => ?_
  obtain ⟨hWc, hWf, hWz⟩ := hW.cells
  have hWe : Ext w W := Ext.same hW c_11
  (try simp only [World.size_alloc] at hWz)
  go_region_held3 (fun w' => (∀ b o, b < W.heap.size → w'.cell? ⟨b, o, none⟩ = if b = w.heap.size + 1 ∧ 0 ≤ o ∧ o < 2 then (W.cell? ⟨b, o, none⟩).map (obx w' b o) else W.cell? ⟨b, o, none⟩) ∧ (∀ b o, b < W.heap.size → w'.frozen? ⟨b, o, none⟩ = W.frozen? ⟨b, o, none⟩) ∧ W.heap.size ≤ w'.heap.size ∧ Ext w w') (exact k_0) ((first | (go_at_call 95; (with_reducible refine (times_any _ _ _ c_24 c_24).mono ?_); rintro e w2 ⟨rfl, hb2⟩; have hz2 := hb2.size; (try rw [size_drew] at hz2)) | (go_at_call 96; (with_reducible refine (down_any _ _ _ (abs_mul_bound c_24 c_24).1 (abs_mul_bound c_24 c_24).2 (by omega) (by omega)).mono ?_); rintro e w2 ⟨rfl, hb2⟩; have hz2 := hb2.size; (try rw [size_drew] at hz2)) | (go_at_call 97; (with_reducible refine (up_any _ _ _ (abs_mul_bound c_24 c_24).1 (abs_mul_bound c_24 c_24).2 (by omega) (by omega)).mono ?_); rintro e w2 ⟨rfl, hb2⟩; have hz2 := hb2.size; (try rw [size_drew] at hz2)) | (go_at_call 92; (with_reducible refine (span_made _ _ _).mono ?_); rintro e w2 ⟨rfl, hb2⟩; have hz2 := hb2.size; (try rw [size_drew] at hz2))))
  rename_i hOld
  have hE := hOld.2.2.2
  have hO := And.intro hOld.1 (And.intro hOld.2.1 hOld.2.2.1)
  clear hOld
  replace hO := heldBack hO c_2
  replace hO := heldBack hO c_2
  obtain ⟨hOc, hOf, hOz⟩ := heldEnd hO
  clear hO
 any_goals go_wp2_with fail
 all_goals
  refine bodyPost_ret (v := .tuple #[.agg #[.int .i64 (sqI a b).lo, .int .i64 (sqI a b).hi], .int .i64 (sqI a b).e]) ?_ rfl ⟨rfl, ?_⟩
  ·(try simp only [bn_] at *)
   simp [results, Tryz.results45, go_sem, sqI, *]
  ·exact b_17
theorem span_mul (a b c d : Int) (w : World) (ha : I64 a ∧ I64 b) (hc0 : I64 c ∧ I64 d) :
    Calls Tryz.prog 48 #[.agg #[.int .i64 a, .int .i64 b], .agg #[.int .i64 c, .int .i64 d]] w fun e w' => e = .returned (.tuple #[.agg #[.int .i64 (mulI a b c d).lo, .int .i64 (mulI a b c d).hi], .int .i64 (mulI a b c d).e]) ∧ Ext w w' := by
 obtain ⟨pa, pb⟩ := ha
 obtain ⟨pc, pd⟩ := hc0
 have i0 : ∀ w, (Instr.index 152 (.agg #[.int .i64 a, .int .i64 b]) (.int .i64 0)).run Tryz.prog w = .ok (.int .i64 a) w := fun _ => by kernel_rfl
 have i1 : ∀ w, (Instr.index 152 (.agg #[.int .i64 a, .int .i64 b]) (.int .i64 1)).run Tryz.prog w = .ok (.int .i64 b) w := fun _ => by kernel_rfl
 have l0 : IntKind.i64.wrap 0 = 0 := rfl
 have l1 : IntKind.i64.wrap 1 = 1 := rfl
 have l2 : IntKind.i64.wrap 2 = 2 := rfl
 have l3 : IntKind.i64.wrap 3 = 3 := rfl
 go_enter Tryz.func48, Tryz.ntmps48
 go_wp2_with (first | (go_at_call 91; (with_reducible refine (check_2 _ _ _ _ _ _ c_30).mono ?_); rintro e w1 ⟨rfl, hb⟩; obtain ⟨_, _, ⟨hc, hf⟩, hz⟩ := hb.c3; (try simp only [World.size_alloc] at hz hc hf); (try have zz := q_1 w.heap.size w1.heap.size); (try have zz := q_1 (w.heap.size + 1) w1.heap.size); (try have zz := q_1 (w.heap.size + 1 + 1) w1.heap.size); (try have zz := q_1 (w.heap.size + 1 + 1 + 1) w1.heap.size)))
 ·all_goals
   refine bodyPost_ret (v := .tuple #[.agg #[.int .i64 (mulI a b c d).lo, .int .i64 (mulI a b c d).hi], .int .i64 (mulI a b c d).e]) ?_ rfl ⟨rfl, ?_⟩
   ·(try simp only [bne_iff_ne, ne_eq] at *)
    simp [results, Tryz.results48, go_sem, mulI, *]
   ·exact b_17
 ·refine wp_loop_rounds 3 ?_
  rw [rounds_succ]
  go_wp2_with fail
  refine wp_name fun W hW => ?_
  obtain ⟨hWc, hWf, hWz⟩ := hW.cells
  have hWe : Ext w W := Ext.same hW c_11
  (try simp only [World.size_alloc] at hWz)
  go_region_held3 (fun w' => (∀ b o, b < W.heap.size → w'.cell? ⟨b, o, none⟩ = if b = w1.heap.size ∧ 0 ≤ o ∧ o < 4 then (W.cell? ⟨b, o, none⟩).map (obx w' b o) else W.cell? ⟨b, o, none⟩) ∧ (∀ b o, b < W.heap.size → w'.frozen? ⟨b, o, none⟩ = W.frozen? ⟨b, o, none⟩) ∧ W.heap.size ≤ w'.heap.size ∧ Ext w w') (exact k_0) ((first | (go_at_call 95; (with_reducible refine (times_any _ _ _ c_24 c_24).mono ?_); rintro e w2 ⟨rfl, hb2⟩; have hz2 := hb2.size; (try rw [size_drew] at hz2))))
  rename_i hOld
  have hE := hOld.2.2.2
  have hO := And.intro hOld.1 (And.intro hOld.2.1 hOld.2.2.1)
  clear hOld
  replace hO := heldBack hO c_2
  replace hO := heldBack hO c_2
  replace hO := heldBack hO c_2
  replace hO := heldBack hO c_2
  obtain ⟨hOc, hOf, hOz⟩ := heldEnd hO
  clear hO
  (try have zz := q_1 w.heap.size w2.heap.size)
  (try have zz := q_1 (w.heap.size + 1) w2.heap.size)
  (try have zz := q_1 (w.heap.size + 1 + 1) w2.heap.size)
  (try have zz := q_1 w1.heap.size w2.heap.size)
  go_wp2_with fail
  rw [rounds_succ]
  go_wp2_with fail
  refine wp_name fun W hW => ?_
  obtain ⟨hWc, hWf, hWz⟩ := hW.cells
  have hWe : Ext w W := Ext.same hW c_11
  (try simp only [World.size_setCell] at hWz)
  go_region_held3 (fun w' => (∀ b o, b < W.heap.size → w'.cell? ⟨b, o, none⟩ = if b = w1.heap.size ∧ 4 ≤ o ∧ o < 8 then (W.cell? ⟨b, o, none⟩).map (obx w' b o) else W.cell? ⟨b, o, none⟩) ∧ (∀ b o, b < W.heap.size → w'.frozen? ⟨b, o, none⟩ = W.frozen? ⟨b, o, none⟩) ∧ W.heap.size ≤ w'.heap.size ∧ Ext w w') (exact k_0) ((first | (go_at_call 95; (with_reducible refine (times_any _ _ _ c_24 c_24).mono ?_); rintro e w2 ⟨rfl, hb2⟩; have hz2 := hb2.size; (try rw [size_drew] at hz2))))
  rename_i hOld
  have hE := hOld.2.2.2
  have hO := And.intro hOld.1 (And.intro hOld.2.1 hOld.2.2.1)
  clear hOld
  replace hO := heldBack hO c_2
  replace hO := heldBack hO c_2
  replace hO := heldBack hO c_2
  replace hO := heldBack hO c_2
  obtain ⟨hOc, hOf, hOz⟩ := heldEnd hO
  clear hO
  (try have zz := q_1 w.heap.size w2.heap.size)
  (try have zz := q_1 (w.heap.size + 1) w2.heap.size)
  (try have zz := q_1 (w.heap.size + 1 + 1) w2.heap.size)
  (try have zz := q_1 w1.heap.size w2.heap.size)
  go_wp2_with fail
  rw [rounds_succ]
  go_wp2_with fail
  refine wp_name fun W hW => ?_
  obtain ⟨hWc, hWf, hWz⟩ := hW.cells
  have hWe : Ext w W := Ext.same hW c_11
  (try simp only [World.size_setCell] at hWz)
  go_region_held3 (fun w' => (∀ b o, b < W.heap.size → w'.cell? ⟨b, o, none⟩ = if b = w.heap.size + 1 + 1 ∧ 0 ≤ o ∧ o < 2 then (W.cell? ⟨b, o, none⟩).map (obx w' b o) else W.cell? ⟨b, o, none⟩) ∧ (∀ b o, b < W.heap.size → w'.frozen? ⟨b, o, none⟩ = W.frozen? ⟨b, o, none⟩) ∧ W.heap.size ≤ w'.heap.size ∧ Ext w w') (exact k_0) ((first | (go_at_call 101; (with_reducible refine (least_3 (a * c) (a * d) (b * c) (b * d) _ _ _ c_25 c_25 c_25 c_25 c_25 c_25).mono ?_); rintro e w2 ⟨rfl, hb2⟩; have hz2 := hb2.size; (try rw [size_drew] at hz2)) | (go_at_call 102; (with_reducible refine (greatest_3 (a * c) (a * d) (b * c) (b * d) _ _ _ c_25 c_25 c_25 c_25 c_25 c_25).mono ?_); rintro e w2 ⟨rfl, hb2⟩; have hz2 := hb2.size; (try rw [size_drew] at hz2)) | (go_at_call 96; (with_reducible refine (down_any _ _ _ (min4_bound pa pb pc pd).1 (min4_bound pa pb pc pd).2 (by omega) (by omega)).mono ?_); rintro e w2 ⟨rfl, hb2⟩; have hz2 := hb2.size; (try rw [size_drew] at hz2)) | (go_at_call 97; (with_reducible refine (up_any _ _ _ (max4_bound pa pb pc pd).1 (max4_bound pa pb pc pd).2 (by omega) (by omega)).mono ?_); rintro e w2 ⟨rfl, hb2⟩; have hz2 := hb2.size; (try rw [size_drew] at hz2)) | (go_at_call 92; (with_reducible refine (span_made _ _ _).mono ?_); rintro e w2 ⟨rfl, hb2⟩; have hz2 := hb2.size; (try rw [size_drew] at hz2))))
  rename_i hOld
  have hE := hOld.2.2.2
  have hO := And.intro hOld.1 (And.intro hOld.2.1 hOld.2.2.1)
  clear hOld
  replace hO := heldBack hO c_2
  replace hO := heldBack hO c_2
  obtain ⟨hOc, hOf, hOz⟩ := heldEnd hO
  clear hO
  go_wp2_with fail
  all_goals
   refine bodyPost_ret (v := .tuple #[.agg #[.int .i64 (mulI a b c d).lo, .int .i64 (mulI a b c d).hi], .int .i64 (mulI a b c d).e]) ?_ rfl ⟨rfl, ?_⟩
   ·(try simp only [bne_eq_false_iff_eq] at *)
    simp [results, Tryz.results48, go_sem, mulI, *]
   ·exact b_16
theorem setCell_self (w : World) (b o : Nat) (v : Value) (h : w.cell? ⟨b, o, none⟩ = some v) : w.setCell ⟨b, o, none⟩ v = w := by
 simp only [World.cell?] at h
 have hh : (w.setCell ⟨b, o, none⟩ v).heap = w.heap := by
  apply Array.ext_getElem?
  intro k
  simp only [World.setCell, Array.getElem?_modify]
  split
  ·subst k
   cases hx : w.heap[b]? with
   | none => rfl
   | some x =>
    rw [hx] at h
    cases x with
    | cells c e f =>
     obtain ⟨f1, f2⟩ := f
     simp only [Option.isSome_none, Bool.false_eq_true, if_false] at h
     have hc : c.setIfInBounds o v = c := by
      apply Array.ext_getElem?
      intro j
      rw [Array.getElem?_setIfInBounds]
      split
      ·subst j
       split
       ·exact h.symm
       ·rename_i hn
        exact (Array.getElem?_eq_none (by omega)).symm
      ·rfl
     simp only [Option.map_some, Option.isSome_none, Bool.false_eq_true, if_false, hc]
    | _ => simp at h
  ·rfl
 cases w
 simp only [World.setCell] at hh ⊢
 rw [World.mk.injEq]
 exact ⟨hh, rfl, rfl, rfl, rfl⟩
theorem Ext.reset {w w' : World} {b o : Nat} {v v' : Value} (h : Ext (w.setCell ⟨b, o, none⟩ v) w') (_hb : b < w.heap.size) : Ext (w.setCell ⟨b, o, none⟩ v') (w'.setCell ⟨b, o, none⟩ v') := by
 have hz : w.heap.size ≤ w'.heap.size := by have := h.size; simpa using this
 refine ⟨h.os, h.tape, h.output, by simpa using hz, fun k hk => ?_⟩
 have hk' : k < w.heap.size := by simpa using hk
 have e := h.block k (by simpa using hk')
 by_cases c : b = k
 ·subst c
  simp only [World.setCell, Array.getElem?_modify, if_true] at e ⊢
  rw [e]
  cases hx : w.heap[b]? with
  | none => rfl
  | some x =>
   cases x with
   | cells c t f => simp
   | _ => rfl
 ·simp only [World.setCell, Array.getElem?_modify, if_neg c] at e ⊢
  exact e
theorem Ext.keep {w w' : World} {b o : Nat} {v : Value} (h : Ext w w') (hc : w.cell? ⟨b, o, none⟩ = some v) : Ext (w.setCell ⟨b, o, none⟩ v) w' := by
 rw [setCell_self w b o v hc]; exact h
theorem cell_drew (w : World) (p : Addr) : w.drew.cell? p = w.cell? p := rfl
theorem frozen_drew (w : World) (p : Addr) : w.drew.frozen? p = w.frozen? p := rfl
theorem setCell_some (w : World) (b o : Nat) : ∃ v, w.setCell ⟨b, o, none⟩ v = w := by
 cases h : w.cell? ⟨b, o, none⟩ with
 | some v => exact ⟨v, setCell_self w b o v h⟩
 | none =>
  refine ⟨.bool false, ?_⟩
  simp only [World.cell?] at h
  have hh : (w.setCell ⟨b, o, none⟩ (.bool false)).heap = w.heap := by
   apply Array.ext_getElem?
   intro k
   simp only [World.setCell, Array.getElem?_modify]
   split
   ·subst k
    cases hx : w.heap[b]? with
    | none => rfl
    | some x =>
     rw [hx] at h
     cases x with
     | cells c e f =>
      obtain ⟨f1, f2⟩ := f
      simp only [Option.isSome_none, Bool.false_eq_true, if_false] at h
      have hc : c.setIfInBounds o (.bool false) = c := by
       apply Array.ext_getElem?
       intro j
       rw [Array.getElem?_setIfInBounds]
       split
       ·subst j
        split
        ·rename_i hn
         have := Array.getElem?_eq_none_iff.1 h
         omega
        ·rename_i hn
         exact (Array.getElem?_eq_none (by omega)).symm
       ·rfl
      simp only [Option.map_some, Option.isSome_none, Bool.false_eq_true, if_false, hc]
     | _ => rfl
   ·rfl
  cases w
  simp only [World.setCell] at hh ⊢
  rw [World.mk.injEq]
  exact ⟨hh, rfl, rfl, rfl, rfl⟩
def ExtP (w : World) (p k : Nat) (w' : World) : Prop := ∃ v, Ext (w.setCell ⟨p, k, none⟩ v) w'
theorem ExtP.of {w w' : World} (p k : Nat) (h : Ext w w') : ExtP w p k w' := by
 obtain ⟨v, hv⟩ := setCell_some w p k
 exact ⟨v, by rw [hv]; exact h⟩
theorem ExtP.ext {w w' w1 : World} {p k : Nat} (h : ExtP w p k w') (hb : Ext w' w1) : ExtP w p k w1 := by
 obtain ⟨v, hv⟩ := h; exact ⟨v, hv.trans hb⟩
theorem setCell_out (w : World) (b o : Nat) (v : Value) (h : w.heap.size ≤ b) : w.setCell ⟨b, o, none⟩ v = w := by
 have hh : (w.setCell ⟨b, o, none⟩ v).heap = w.heap := by
  apply Array.ext_getElem?
  intro k
  simp only [World.setCell, Array.getElem?_modify]
  split
  ·subst k
   rw [Array.getElem?_eq_none (by omega)]; rfl
  ·rfl
 cases w
 simp only [World.setCell] at hh ⊢
 rw [World.mk.injEq]
 exact ⟨hh, rfl, rfl, rfl, rfl⟩
theorem ExtP.out {w w' : World} {p k : Nat} (h : ExtP w p k w') (hp : w.heap.size ≤ p) : Ext w w' := by
 obtain ⟨v, hv⟩ := h
 rw [setCell_out w p k v hp] at hv; exact hv
theorem ExtP.set {w w' : World} {p k : Nat} {v' : Value} (h : ExtP w p k w') : ExtP w p k (w'.setCell ⟨p, k, none⟩ v') := by
 by_cases hp : p < w.heap.size
 ·obtain ⟨v, hv⟩ := h
  exact ⟨v', hv.reset hp⟩
 ·exact ExtP.of _ _ ((h.out (by omega)).setCell (by show w.heap.size ≤ p; omega) _)
theorem ExtP.store {w w' : World} {p k : Nat} {q : Addr} {v' : Value} (h : ExtP w p k w') (hq : w.heap.size ≤ q.block) : ExtP w p k (w'.setCell q v') := by
 obtain ⟨v, hv⟩ := h
 exact ⟨v, hv.setCell (by simpa using hq) _⟩
theorem ExtP.same {w w' W : World} {p k : Nat} (h : Same W w') (k1 : ExtP w p k w') : ExtP w p k W := by cases (h : W = w'); exact k1
theorem ExtP.fin {w w' : World} {p k : Nat} {v' : Value} (h : ExtP w p k w') (c : w'.cell? ⟨p, k, none⟩ = some v') (hp : p < w.heap.size) : Ext (w.setCell ⟨p, k, none⟩ v') w' := by
 obtain ⟨v, hv⟩ := h
 have e : w'.cell? ⟨p, k, none⟩ = (w.setCell ⟨p, k, none⟩ v).cell? ⟨p, k, none⟩ := Below.cell hv (p := ⟨p, k, none⟩) (by simpa using hp)
 rw [cell_sc, if_pos rfl, c] at e
 cases hx : w.cell? ⟨p, k, none⟩ with
 | none => rw [hx] at e; cases e
 | some x =>
  rw [hx] at e
  have e2 : v' = v := by simpa using e
  rw [e2]; exact hv
theorem Ext.got {w w' : World} {p k : Nat} {v u : Value} (h : Ext (w.setCell ⟨p, k, none⟩ v) w') (c : w.cell? ⟨p, k, none⟩ = some u) : w'.cell? ⟨p, k, none⟩ = some v ∧ w'.frozen? ⟨p, k, none⟩ = w.frozen? ⟨p, k, none⟩ := by
 have hb := World.block_lt_of_cell? w _ c
 have e : w'.cell? ⟨p, k, none⟩ = (w.setCell ⟨p, k, none⟩ v).cell? ⟨p, k, none⟩ := Below.cell h (p := ⟨p, k, none⟩) (by simpa using hb)
 have f : w'.frozen? ⟨p, k, none⟩ = (w.setCell ⟨p, k, none⟩ v).frozen? ⟨p, k, none⟩ := Below.frozen h (p := ⟨p, k, none⟩) (by simpa using hb)
 rw [World.frozen?_setCell] at f
 rw [cell_sc, if_pos rfl, c] at e
 exact ⟨e, f⟩
theorem ExtP.trans {a b c : World} {p k : Nat} (h : ExtP a p k b) (h2 : ExtP b p k c) : ExtP a p k c := by
 obtain ⟨v, hv⟩ := h2
 exact (h.set (v' := v)).ext hv
theorem ExtP.cells2 {V x : World} {p k : Nat} {v : Value} (h : ExtP V p k x) (hc : x.cell? ⟨p, k, none⟩ = some v) :
    (∀ b o, x.cell? ⟨b, o, none⟩ = if b < V.heap.size then (if b = p ∧ o = k then some v else V.cell? ⟨b, o, none⟩) else oc x b o) ∧
    (∀ b o, x.frozen? ⟨b, o, none⟩ = if b < V.heap.size then V.frozen? ⟨b, o, none⟩ else ofz x b o) ∧ V.heap.size ≤ x.heap.size := by
 obtain ⟨u, hu⟩ := h
 have hz : V.heap.size ≤ x.heap.size := by have := hu.size; simpa using this
 refine ⟨fun b o => ?_, fun b o => ?_, hz⟩
 ·split
  ·split
   ·rename_i hb; obtain ⟨rfl, rfl⟩ := hb; exact hc
   ·rename_i h1 h2
    have e : x.cell? ⟨b, o, none⟩ = (V.setCell ⟨p, k, none⟩ u).cell? ⟨b, o, none⟩ := Below.cell hu (p := ⟨b, o, none⟩) (by simpa using h1)
    rw [e, cell_sc, if_neg (by intro e; injection e; exact h2 ⟨‹_›, ‹_›⟩)]
  ·rfl
 ·split
  ·rename_i h1
   have e : x.frozen? ⟨b, o, none⟩ = (V.setCell ⟨p, k, none⟩ u).frozen? ⟨b, o, none⟩ := Below.frozen hu (p := ⟨b, o, none⟩) (by simpa using h1)
   rw [e, World.frozen?_setCell]
  ·rfl
theorem obx_of {w : World} {b o : Nat} {v : Value} (h : w.cell? ⟨b, o, none⟩ = some v) (x : Value) : obx w b o x = v := by simp [obx, h]
theorem hel0 {w W : World} {RB lo hi P k : Nat} (hw : ExtP w P k W) :
    (∀ b o, b < W.heap.size → (W.drew).cell? ⟨b, o, none⟩ = if (b = RB ∧ lo ≤ o ∧ o < hi ∨ b = P ∧ o = k) then (W.cell? ⟨b, o, none⟩).map (obx (W.drew) b o) else W.cell? ⟨b, o, none⟩) ∧ (∀ b o, b < W.heap.size → (W.drew).frozen? ⟨b, o, none⟩ = W.frozen? ⟨b, o, none⟩) ∧ W.heap.size ≤ (W.drew).heap.size ∧ ExtP w P k (W.drew) := by
 refine ⟨fun b o _ => ?_, fun _ _ _ => rfl, Nat.le_refl _, hw.ext ((Ext.refl _).drew)⟩
 show W.cell? ⟨b, o, none⟩ = _
 split
 ·cases h : W.cell? ⟨b, o, none⟩ with
  | none => rfl
  | some x => simp [obx, show W.drew.cell? ⟨b, o, none⟩ = W.cell? ⟨b, o, none⟩ from rfl, h]
 ·rfl
theorem hel1 {w W w' w1 : World} {RB lo hi P k : Nat} (h : (∀ b o, b < W.heap.size → (w').cell? ⟨b, o, none⟩ = if (b = RB ∧ lo ≤ o ∧ o < hi ∨ b = P ∧ o = k) then (W.cell? ⟨b, o, none⟩).map (obx (w') b o) else W.cell? ⟨b, o, none⟩) ∧ (∀ b o, b < W.heap.size → (w').frozen? ⟨b, o, none⟩ = W.frozen? ⟨b, o, none⟩) ∧ W.heap.size ≤ (w').heap.size ∧ ExtP w P k (w'))
    (hb : Ext w' w1) : (∀ b o, b < W.heap.size → (w1).cell? ⟨b, o, none⟩ = if (b = RB ∧ lo ≤ o ∧ o < hi ∨ b = P ∧ o = k) then (W.cell? ⟨b, o, none⟩).map (obx (w1) b o) else W.cell? ⟨b, o, none⟩) ∧ (∀ b o, b < W.heap.size → (w1).frozen? ⟨b, o, none⟩ = W.frozen? ⟨b, o, none⟩) ∧ W.heap.size ≤ (w1).heap.size ∧ ExtP w P k (w1) := by
 obtain ⟨h1, h2, h3, h4⟩ := h
 refine ⟨fun b o hc => ?_, fun b o hc => ?_, Nat.le_trans h3 hb.size, h4.ext hb⟩
 ·have e : w1.cell? ⟨b, o, none⟩ = w'.cell? ⟨b, o, none⟩ := Below.cell hb (p := ⟨b, o, none⟩) (Nat.lt_of_lt_of_le hc h3)
  rw [e, h1 b o hc]
  split
  ·congr 1
   funext x
   simp only [obx, e]
  ·rfl
 ·rw [Below.frozen hb (p := ⟨b, o, none⟩) (Nat.lt_of_lt_of_le hc h3), h2 b o hc]
theorem hel2a {W w' : World} {RB lo hi P k : Nat} {p : Addr} {v : Value}
    (h : (∀ b o, b < W.heap.size → (w').cell? ⟨b, o, none⟩ = if (b = RB ∧ lo ≤ o ∧ o < hi ∨ b = P ∧ o = k) then (W.cell? ⟨b, o, none⟩).map (obx (w') b o) else W.cell? ⟨b, o, none⟩) ∧ (∀ b o, b < W.heap.size → (w').frozen? ⟨b, o, none⟩ = W.frozen? ⟨b, o, none⟩) ∧ W.heap.size ≤ (w').heap.size)
    (hp : (p.block = RB ∧ lo ≤ p.off ∧ p.off < hi) ∨ (p.block = P ∧ p.off = k) ∨ W.heap.size ≤ p.block) :
    (∀ b o, b < W.heap.size → (w'.setCell p v).cell? ⟨b, o, none⟩ = if (b = RB ∧ lo ≤ o ∧ o < hi ∨ b = P ∧ o = k) then (W.cell? ⟨b, o, none⟩).map (obx (w'.setCell p v) b o) else W.cell? ⟨b, o, none⟩) ∧ (∀ b o, b < W.heap.size → (w'.setCell p v).frozen? ⟨b, o, none⟩ = W.frozen? ⟨b, o, none⟩) ∧ W.heap.size ≤ (w'.setCell p v).heap.size := by
 obtain ⟨h1, h2, h3⟩ := h
 refine ⟨fun b o hc => ?_, fun b o hc => ?_, by simpa using h3⟩
 ·have h1' := h1 b o hc
  by_cases he : (⟨b, o, none⟩ : Addr) = p
  ·have hr : (b = RB ∧ lo ≤ o ∧ o < hi ∨ b = P ∧ o = k) := by
    rcases hp with hp | hp | hp
    ·rw [← he] at hp; exact Or.inl hp
    ·rw [← he] at hp; exact Or.inr hp
    ·exact b_0
   rw [if_pos hr] at h1' ⊢
   cases hx : W.cell? ⟨b, o, none⟩ with
   | none =>
    rw [hx] at h1'
    simp only [Option.map_none] at h1' ⊢
    rw [cell_sc, if_pos he, ← he, h1']; rfl
   | some x =>
    rw [hx] at h1'
    simp only [Option.map_some] at h1' ⊢
    have hs : (w'.setCell p v).cell? ⟨b, o, none⟩ = some v := by
     rw [cell_sc, if_pos he, ← he, h1']; rfl
    simp only [obx, hs, Option.getD_some]
  ·have e : (w'.setCell p v).cell? ⟨b, o, none⟩ = w'.cell? ⟨b, o, none⟩ := by rw [cell_sc, if_neg he]
   rw [e, h1']
   split
   ·congr 1
    funext x
    simp only [obx, e]
   ·rfl
 ·rw [World.frozen?_setCell, h2 b o hc]
theorem hel2 {w W w' : World} {RB lo hi P k : Nat} {p : Addr} {v : Value}
    (h : (∀ b o, b < W.heap.size → (w').cell? ⟨b, o, none⟩ = if (b = RB ∧ lo ≤ o ∧ o < hi ∨ b = P ∧ o = k) then (W.cell? ⟨b, o, none⟩).map (obx (w') b o) else W.cell? ⟨b, o, none⟩) ∧ (∀ b o, b < W.heap.size → (w').frozen? ⟨b, o, none⟩ = W.frozen? ⟨b, o, none⟩) ∧ W.heap.size ≤ (w').heap.size ∧ ExtP w P k (w'))
    (hp : (p.block = RB ∧ lo ≤ p.off ∧ p.off < hi) ∨ (p.block = P ∧ p.off = k) ∨ W.heap.size ≤ p.block) (hw : w.heap.size ≤ p.block) :
    (∀ b o, b < W.heap.size → (w'.setCell p v).cell? ⟨b, o, none⟩ = if (b = RB ∧ lo ≤ o ∧ o < hi ∨ b = P ∧ o = k) then (W.cell? ⟨b, o, none⟩).map (obx (w'.setCell p v) b o) else W.cell? ⟨b, o, none⟩) ∧ (∀ b o, b < W.heap.size → (w'.setCell p v).frozen? ⟨b, o, none⟩ = W.frozen? ⟨b, o, none⟩) ∧ W.heap.size ≤ (w'.setCell p v).heap.size ∧ ExtP w P k (w'.setCell p v) := by
 obtain ⟨h1, h2, h3, h4⟩ := h
 have g := hel2a (v := v) ⟨h1, h2, h3⟩ hp
 exact ⟨g.1, g.2.1, g.2.2, h4.store hw⟩
theorem hel2p {w W w' : World} {RB lo hi P k : Nat} {v : Value}
    (h : (∀ b o, b < W.heap.size → (w').cell? ⟨b, o, none⟩ = if (b = RB ∧ lo ≤ o ∧ o < hi ∨ b = P ∧ o = k) then (W.cell? ⟨b, o, none⟩).map (obx (w') b o) else W.cell? ⟨b, o, none⟩) ∧ (∀ b o, b < W.heap.size → (w').frozen? ⟨b, o, none⟩ = W.frozen? ⟨b, o, none⟩) ∧ W.heap.size ≤ (w').heap.size ∧ ExtP w P k (w')) :
    (∀ b o, b < W.heap.size → (w'.setCell ⟨P, k, none⟩ v).cell? ⟨b, o, none⟩ = if (b = RB ∧ lo ≤ o ∧ o < hi ∨ b = P ∧ o = k) then (W.cell? ⟨b, o, none⟩).map (obx (w'.setCell ⟨P, k, none⟩ v) b o) else W.cell? ⟨b, o, none⟩) ∧ (∀ b o, b < W.heap.size → (w'.setCell ⟨P, k, none⟩ v).frozen? ⟨b, o, none⟩ = W.frozen? ⟨b, o, none⟩) ∧ W.heap.size ≤ (w'.setCell ⟨P, k, none⟩ v).heap.size ∧ ExtP w P k (w'.setCell ⟨P, k, none⟩ v) := by
 obtain ⟨h1, h2, h3, h4⟩ := h
 have g := hel2a (p := ⟨P, k, none⟩) (v := v) ⟨h1, h2, h3⟩ (Or.inr (Or.inl ⟨rfl, rfl⟩))
 exact ⟨g.1, g.2.1, g.2.2, h4.set⟩
theorem hel1p {w W w' w1 : World} {RB lo hi P k : Nat} {v : Value} (h : (∀ b o, b < W.heap.size → (w').cell? ⟨b, o, none⟩ = if (b = RB ∧ lo ≤ o ∧ o < hi ∨ b = P ∧ o = k) then (W.cell? ⟨b, o, none⟩).map (obx (w') b o) else W.cell? ⟨b, o, none⟩) ∧ (∀ b o, b < W.heap.size → (w').frozen? ⟨b, o, none⟩ = W.frozen? ⟨b, o, none⟩) ∧ W.heap.size ≤ (w').heap.size ∧ ExtP w P k (w'))
    (hb : Ext (w'.setCell ⟨P, k, none⟩ v) w1) : (∀ b o, b < W.heap.size → (w1).cell? ⟨b, o, none⟩ = if (b = RB ∧ lo ≤ o ∧ o < hi ∨ b = P ∧ o = k) then (W.cell? ⟨b, o, none⟩).map (obx (w1) b o) else W.cell? ⟨b, o, none⟩) ∧ (∀ b o, b < W.heap.size → (w1).frozen? ⟨b, o, none⟩ = W.frozen? ⟨b, o, none⟩) ∧ W.heap.size ≤ (w1).heap.size ∧ ExtP w P k (w1) := hel1 (hel2p h) hb
theorem hel3 {w W w' : World} {RB lo hi P k : Nat} {ob : Obj} (h : (∀ b o, b < W.heap.size → (w').cell? ⟨b, o, none⟩ = if (b = RB ∧ lo ≤ o ∧ o < hi ∨ b = P ∧ o = k) then (W.cell? ⟨b, o, none⟩).map (obx (w') b o) else W.cell? ⟨b, o, none⟩) ∧ (∀ b o, b < W.heap.size → (w').frozen? ⟨b, o, none⟩ = W.frozen? ⟨b, o, none⟩) ∧ W.heap.size ≤ (w').heap.size ∧ ExtP w P k (w')) :
    (∀ b o, b < W.heap.size → (w'.alloc ob).cell? ⟨b, o, none⟩ = if (b = RB ∧ lo ≤ o ∧ o < hi ∨ b = P ∧ o = k) then (W.cell? ⟨b, o, none⟩).map (obx (w'.alloc ob) b o) else W.cell? ⟨b, o, none⟩) ∧ (∀ b o, b < W.heap.size → (w'.alloc ob).frozen? ⟨b, o, none⟩ = W.frozen? ⟨b, o, none⟩) ∧ W.heap.size ≤ (w'.alloc ob).heap.size ∧ ExtP w P k (w'.alloc ob) := hel1 h ((Ext.refl _).alloc _)
theorem hel3d {w W w' : World} {RB lo hi P k : Nat} {ob : Obj} (h : (∀ b o, b < W.heap.size → (w'.drew).cell? ⟨b, o, none⟩ = if (b = RB ∧ lo ≤ o ∧ o < hi ∨ b = P ∧ o = k) then (W.cell? ⟨b, o, none⟩).map (obx (w'.drew) b o) else W.cell? ⟨b, o, none⟩) ∧ (∀ b o, b < W.heap.size → (w'.drew).frozen? ⟨b, o, none⟩ = W.frozen? ⟨b, o, none⟩) ∧ W.heap.size ≤ (w'.drew).heap.size ∧ ExtP w P k (w'.drew)) :
    (∀ b o, b < W.heap.size → ((w'.alloc ob).drew).cell? ⟨b, o, none⟩ = if (b = RB ∧ lo ≤ o ∧ o < hi ∨ b = P ∧ o = k) then (W.cell? ⟨b, o, none⟩).map (obx ((w'.alloc ob).drew) b o) else W.cell? ⟨b, o, none⟩) ∧ (∀ b o, b < W.heap.size → ((w'.alloc ob).drew).frozen? ⟨b, o, none⟩ = W.frozen? ⟨b, o, none⟩) ∧ W.heap.size ≤ ((w'.alloc ob).drew).heap.size ∧ ExtP w P k ((w'.alloc ob).drew) := hel3 (w' := w'.drew) h
theorem helBack {W w' : World} {RB lo hi P k : Nat} {p : Addr} {v : Value}
    (h : (∀ b o, b < W.heap.size → (w'.setCell p v).cell? ⟨b, o, none⟩ = if (b = RB ∧ lo ≤ o ∧ o < hi ∨ b = P ∧ o = k) then (W.cell? ⟨b, o, none⟩).map (obx (w'.setCell p v) b o) else W.cell? ⟨b, o, none⟩) ∧ (∀ b o, b < W.heap.size → (w'.setCell p v).frozen? ⟨b, o, none⟩ = W.frozen? ⟨b, o, none⟩) ∧ W.heap.size ≤ (w'.setCell p v).heap.size)
    (hp : (p.block = RB ∧ lo ≤ p.off ∧ p.off < hi) ∨ (p.block = P ∧ p.off = k) ∨ W.heap.size ≤ p.block) :
    (∀ b o, b < W.heap.size → (w').cell? ⟨b, o, none⟩ = if (b = RB ∧ lo ≤ o ∧ o < hi ∨ b = P ∧ o = k) then (W.cell? ⟨b, o, none⟩).map (obx (w') b o) else W.cell? ⟨b, o, none⟩) ∧ (∀ b o, b < W.heap.size → (w').frozen? ⟨b, o, none⟩ = W.frozen? ⟨b, o, none⟩) ∧ W.heap.size ≤ (w').heap.size := by
 obtain ⟨h1, h2, h3⟩ := h
 refine ⟨fun b o hc => ?_, fun b o hc => ?_, by simpa using h3⟩
 ·have h1' := h1 b o hc
  rw [cell_sc] at h1'
  split at h1'
  ·rename_i he
   have hr : (b = RB ∧ lo ≤ o ∧ o < hi ∨ b = P ∧ o = k) := by
    rcases hp with hp | hp | hp
    ·rw [← he] at hp; exact Or.inl hp
    ·rw [← he] at hp; exact Or.inr hp
    ·exact b_0
   rw [if_pos hr] at h1' ⊢
   rw [← he] at h1'
   cases hx : W.cell? ⟨b, o, none⟩ with
   | none => rw [hx] at h1'; simpa using h1'
   | some x =>
    rw [hx] at h1'
    cases hy : w'.cell? ⟨b, o, none⟩ with
    | none => rw [hy] at h1'; simp at h1'
    | some y => simp [obx, hy]
  ·rename_i he
   have e : (w'.setCell p v).cell? ⟨b, o, none⟩ = w'.cell? ⟨b, o, none⟩ := by rw [cell_sc, if_neg he]
   rw [h1']
   split
   ·congr 1
    funext x
    simp only [obx, e]
   ·rfl
 ·have h2' := h2 b o hc
  rw [World.frozen?_setCell] at h2'
  exact h2'
theorem helBackA {W w' : World} {RB lo hi P k : Nat} {ob : Obj}
    (h : (∀ b o, b < W.heap.size → (w'.alloc ob).cell? ⟨b, o, none⟩ = if (b = RB ∧ lo ≤ o ∧ o < hi ∨ b = P ∧ o = k) then (W.cell? ⟨b, o, none⟩).map (obx (w'.alloc ob) b o) else W.cell? ⟨b, o, none⟩) ∧ (∀ b o, b < W.heap.size → (w'.alloc ob).frozen? ⟨b, o, none⟩ = W.frozen? ⟨b, o, none⟩) ∧ W.heap.size ≤ (w'.alloc ob).heap.size)
    (hz : W.heap.size ≤ w'.heap.size) :
    (∀ b o, b < W.heap.size → (w').cell? ⟨b, o, none⟩ = if (b = RB ∧ lo ≤ o ∧ o < hi ∨ b = P ∧ o = k) then (W.cell? ⟨b, o, none⟩).map (obx (w') b o) else W.cell? ⟨b, o, none⟩) ∧ (∀ b o, b < W.heap.size → (w').frozen? ⟨b, o, none⟩ = W.frozen? ⟨b, o, none⟩) ∧ W.heap.size ≤ (w').heap.size := by
 obtain ⟨h1, h2, h3⟩ := h
 refine ⟨fun b o hc => ?_, fun b o hc => ?_, hz⟩
 ·have e : (w'.alloc ob).cell? ⟨b, o, none⟩ = w'.cell? ⟨b, o, none⟩ := Below.cell ((Ext.refl w').alloc ob) (p := ⟨b, o, none⟩) (Nat.lt_of_lt_of_le hc hz)
  rw [← e, h1 b o hc]
  split
  ·congr 1
   funext x
   simp only [obx, e]
  ·rfl
 ·have e : (w'.alloc ob).frozen? ⟨b, o, none⟩ = w'.frozen? ⟨b, o, none⟩ := Below.frozen ((Ext.refl w').alloc ob) (p := ⟨b, o, none⟩) (Nat.lt_of_lt_of_le hc hz)
  rw [← e, h2 b o hc]
theorem hel4 {w W w' : World} {RB lo hi P k : Nat} {ob ob' : Obj} (h : (∀ b o, b < W.heap.size → (w'.alloc ob).cell? ⟨b, o, none⟩ = if (b = RB ∧ lo ≤ o ∧ o < hi ∨ b = P ∧ o = k) then (W.cell? ⟨b, o, none⟩).map (obx (w'.alloc ob) b o) else W.cell? ⟨b, o, none⟩) ∧ (∀ b o, b < W.heap.size → (w'.alloc ob).frozen? ⟨b, o, none⟩ = W.frozen? ⟨b, o, none⟩) ∧ W.heap.size ≤ (w'.alloc ob).heap.size ∧ ExtP w P k (w'.alloc ob)) (hz : W.heap.size ≤ w'.heap.size) (hz2 : w.heap.size ≤ w'.heap.size) :
    (∀ b o, b < W.heap.size → (w'.alloc ob').cell? ⟨b, o, none⟩ = if (b = RB ∧ lo ≤ o ∧ o < hi ∨ b = P ∧ o = k) then (W.cell? ⟨b, o, none⟩).map (obx (w'.alloc ob') b o) else W.cell? ⟨b, o, none⟩) ∧ (∀ b o, b < W.heap.size → (w'.alloc ob').frozen? ⟨b, o, none⟩ = W.frozen? ⟨b, o, none⟩) ∧ W.heap.size ≤ (w'.alloc ob').heap.size ∧ ExtP w P k (w'.alloc ob') := by
 have h3 := helBackA ⟨h.1, h.2.1, h.2.2.1⟩ hz
 obtain ⟨v, hE⟩ := h.2.2.2
 have hE' : Ext (w.setCell ⟨P, k, none⟩ v) w' := ⟨hE.os, hE.tape, hE.output, by simpa using hz2, fun j hj => by
  have hj' : j < w'.heap.size := Nat.lt_of_lt_of_le (by simpa using hj) hz2
  rw [← hE.block j hj]; exact (Below.heap_alloc w' ob j hj').symm⟩
 exact hel3 ⟨h3.1, h3.2.1, h3.2.2, ⟨v, hE'⟩⟩
theorem helEnd {W w' : World} {RB lo hi P k : Nat}
    (h : (∀ b o, b < W.heap.size → (w').cell? ⟨b, o, none⟩ = if (b = RB ∧ lo ≤ o ∧ o < hi ∨ b = P ∧ o = k) then (W.cell? ⟨b, o, none⟩).map (obx (w') b o) else W.cell? ⟨b, o, none⟩) ∧ (∀ b o, b < W.heap.size → (w').frozen? ⟨b, o, none⟩ = W.frozen? ⟨b, o, none⟩) ∧ W.heap.size ≤ (w').heap.size) :
    (∀ b o, w'.cell? ⟨b, o, none⟩ = if b < W.heap.size then (if (b = RB ∧ lo ≤ o ∧ o < hi ∨ b = P ∧ o = k) then (W.cell? ⟨b, o, none⟩).map (obx w' b o) else W.cell? ⟨b, o, none⟩) else oc w' b o) ∧ (∀ b o, w'.frozen? ⟨b, o, none⟩ = if b < W.heap.size then W.frozen? ⟨b, o, none⟩ else ofz w' b o) ∧ W.heap.size ≤ w'.heap.size :=
  ⟨fun b o => by
    split
    · exact h.1 b o ‹_›
    · rfl, fun b o => by
    split
    · exact h.2.1 b o ‹_›
    · rfl, h.2.2⟩
end Go.Proofs.YtaoioncjmfcolaaGreat
