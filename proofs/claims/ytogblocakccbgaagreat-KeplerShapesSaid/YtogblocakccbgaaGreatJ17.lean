/- span: absolute values, negatives, squares, products. -/
import Derived.Test.YtogblocakccbgaaGreatJ00
import Derived.Test.YtogblocakccbgaaGreatJ14
set_option linter.unusedSimpArgs false
set_option linter.unusedVariables false
set_option maxRecDepth 100000
set_option maxHeartbeats 1000000
namespace Go.Proofs.YtogblocakccbgaaGreat
open Go.RowKit
theorem min4_bound {a b c d : Int} (pa : I64 a) (pb : I64 b) (pc : I64 c) (pd : I64 d) : -85070591730234615865843651857942052864 ≤ min4 (a * c) (a * d) (b * c) (b * d) ∧ min4 (a * c) (a * d) (b * c) (b * d) ≤ 85070591730234615865843651857942052864 := by
 have h1 := abs_mul_bound pa pc
 have h2 := abs_mul_bound pa pd
 have h3 := abs_mul_bound pb pc
 have h4 := abs_mul_bound pb pd
 unfold min4; omega
theorem max4_bound {a b c d : Int} (pa : I64 a) (pb : I64 b) (pc : I64 c) (pd : I64 d) : -85070591730234615865843651857942052864 ≤ max4 (a * c) (a * d) (b * c) (b * d) ∧ max4 (a * c) (a * d) (b * c) (b * d) ≤ 85070591730234615865843651857942052864 := by
 have h1 := abs_mul_bound pa pc
 have h2 := abs_mul_bound pa pd
 have h3 := abs_mul_bound pb pc
 have h4 := abs_mul_bound pb pd
 unfold max4; omega
theorem absI_I64 {a b : Int} (ha : I64 a) (hb : I64 b) : I64 (absI a b).lo ∧ I64 (absI a b).hi := by
 have h1 := w64_mod (-a)
 have h2 := w64_mod (-b)
 unfold I64 absI at *
 split
 ·simp
 ·split
  ·exact ⟨ha, hb⟩
  ·split
   ·exact ⟨h2.2, h1.2⟩
   ·simp only []; omega
theorem span_abs (a b : Int) (w : World) :
    Calls Tryz.prog 189 #[.agg #[.int .i64 a, .int .i64 b]] w fun e w' => e = .returned (.tuple #[.agg #[.int .i64 (absI a b).lo, .int .i64 (absI a b).hi], .int .i64 (absI a b).e]) ∧ Ext w w' := by
 go_enter Tryz.func189, Tryz.ntmps189
 go_wp2_with (first | (go_at_call 92; (with_reducible refine (check_1 _ _ _ _ c_48).mono ?_); rintro e w1 ⟨rfl, hb⟩; obtain ⟨_, _, hc, hf⟩ := hb.cells2; have hz := hb.size; (try simp only [World.size_alloc] at hz hc hf)))
 all_goals
  refine bodyPost_ret (v := .tuple #[.agg #[.int .i64 (absI a b).lo, .int .i64 (absI a b).hi], .int .i64 (absI a b).e]) ?_ rfl ⟨rfl, ?_⟩
  ·(try simp only [bne_iff_ne, ne_eq, bne_eq_false_iff_eq] at *)
   simp [results, Tryz.results189, go_sem, ↓IntWalk.iteOmega, absI, *]
   (try (split <;> simp_all <;> omega))
  ·repeat (first | exact Ext.refl _ | with_reducible assumption | refine Ext.alloc ?_ _ | refine Ext.setCell ?_ c_19 _ | refine Ext.drewN ?_ _ | refine Ext.drew ?_ | refine Ext.trans ?_ c_1)
theorem span_sq (a b : Int) (w : World) (ha : I64 a) (hb0 : I64 b) :
    Calls Tryz.prog 144 #[.agg #[.int .i64 a, .int .i64 b]] w fun e w' => e = .returned (.tuple #[.agg #[.int .i64 (sqI a b).lo, .int .i64 (sqI a b).hi], .int .i64 (sqI a b).e]) ∧ Ext w w' := by
 obtain ⟨i1, i2⟩ := absI_I64 ha hb0
 go_enter Tryz.func144, Tryz.ntmps144
 go_wp2_with (first | (go_at_call 189; (with_reducible refine (span_abs _ _ _).mono ?_); rintro e w1 ⟨rfl, hb⟩; obtain ⟨_, _, hc, hf⟩ := hb.cells2; have hz := hb.size; (try simp only [World.size_alloc] at hz hc hf); (try have zz : w.heap.size < w1.heap.size ∧ (∀ j, w.heap.size < w1.heap.size + j) ∧ (¬ w.heap.size = w1.heap.size) ∧ (∀ j, ¬ w.heap.size = w1.heap.size + j) ∧ (¬ w1.heap.size = w.heap.size) ∧ (∀ j, ¬ w1.heap.size + j = w.heap.size) := c_6); (try have zz : w.heap.size + 1 < w1.heap.size ∧ (∀ j, w.heap.size + 1 < w1.heap.size + j) ∧ (¬ w.heap.size + 1 = w1.heap.size) ∧ (∀ j, ¬ w.heap.size + 1 = w1.heap.size + j) ∧ (¬ w1.heap.size = w.heap.size + 1) ∧ (∀ j, ¬ w1.heap.size + j = w.heap.size + 1) := c_6)))
 any_goals
  refine wp_name fun W hW => ?_
  obtain ⟨hWc, hWf, hWz⟩ := hW.cells
  have hWe : Ext w W := Ext.same hW c_23
  (try simp only [World.size_alloc] at hWz)
  go_region_held3 (fun w' => (∀ b o, b < W.heap.size → w'.cell? ⟨b, o, none⟩ = if b = w.heap.size + 1 ∧ 0 ≤ o ∧ o < 2 then (W.cell? ⟨b, o, none⟩).map (obx w' b o) else W.cell? ⟨b, o, none⟩) ∧ (∀ b o, b < W.heap.size → w'.frozen? ⟨b, o, none⟩ = W.frozen? ⟨b, o, none⟩) ∧ W.heap.size ≤ w'.heap.size ∧ Ext w w') (first | (with_reducible exact held0 hWe) | (with_reducible exact held1 c_1 c_1) | (with_reducible exact held3 c_1) | (repeat (first | (with_reducible assumption) | (with_reducible refine held2 ?_ c_9 c_19)))) ((first | (go_at_call 93; (with_reducible refine (times_any _ _ _ c_32 c_32).mono ?_); rintro e w2 ⟨rfl, hb2⟩; have hz2 := hb2.size; (try rw [size_drew] at hz2)) | (go_at_call 97; (with_reducible refine (down_any _ _ _ (abs_mul_bound c_32 c_32).1 (abs_mul_bound c_32 c_32).2 (by omega) (by omega)).mono ?_); rintro e w2 ⟨rfl, hb2⟩; have hz2 := hb2.size; (try rw [size_drew] at hz2)) | (go_at_call 99; (with_reducible refine (up_any _ _ _ (abs_mul_bound c_32 c_32).1 (abs_mul_bound c_32 c_32).2 (by omega) (by omega)).mono ?_); rintro e w2 ⟨rfl, hb2⟩; have hz2 := hb2.size; (try rw [size_drew] at hz2)) | (go_at_call 95; (with_reducible refine (span_made _ _ _).mono ?_); rintro e w2 ⟨rfl, hb2⟩; have hz2 := hb2.size; (try rw [size_drew] at hz2))))
  rename_i hOld
  have hE := hOld.2.2.2
  have hO := And.intro hOld.1 (And.intro hOld.2.1 hOld.2.2.1)
  clear hOld
  replace hO := heldBack hO c_9
  replace hO := heldBack hO c_9
  obtain ⟨hOc, hOf, hOz⟩ := heldEnd hO
  clear hO
 any_goals go_wp2_with fail
 all_goals
  refine bodyPost_ret (v := .tuple #[.agg #[.int .i64 (sqI a b).lo, .int .i64 (sqI a b).hi], .int .i64 (sqI a b).e]) ?_ rfl ⟨rfl, ?_⟩
  ·(try simp only [bne_iff_ne, ne_eq, bne_eq_false_iff_eq] at *)
   simp [results, Tryz.results144, go_sem, sqI, *]
  ·repeat (first | exact Ext.refl _ | with_reducible assumption | refine Ext.alloc ?_ _ | refine Ext.setCell ?_ c_19 _ | refine Ext.drewN ?_ _ | refine Ext.drew ?_ | refine Ext.trans ?_ c_1)
theorem span_mul (a b c d : Int) (w : World) (ha : I64 a ∧ I64 b) (hc0 : I64 c ∧ I64 d) :
    Calls Tryz.prog 151 #[.agg #[.int .i64 a, .int .i64 b], .agg #[.int .i64 c, .int .i64 d]] w fun e w' => e = .returned (.tuple #[.agg #[.int .i64 (mulI a b c d).lo, .int .i64 (mulI a b c d).hi], .int .i64 (mulI a b c d).e]) ∧ Ext w w' := by
 obtain ⟨pa, pb⟩ := ha
 obtain ⟨pc, pd⟩ := hc0
 have i0 : ∀ w, (Instr.index 168 (.agg #[.int .i64 a, .int .i64 b]) (.int .i64 0)).run Tryz.prog w = .ok (.int .i64 a) w := fun _ => by kernel_rfl
 have i1 : ∀ w, (Instr.index 168 (.agg #[.int .i64 a, .int .i64 b]) (.int .i64 1)).run Tryz.prog w = .ok (.int .i64 b) w := fun _ => by kernel_rfl
 have l0 : IntKind.i64.wrap 0 = 0 := rfl
 have l1 : IntKind.i64.wrap 1 = 1 := rfl
 have l2 : IntKind.i64.wrap 2 = 2 := rfl
 have l3 : IntKind.i64.wrap 3 = 3 := rfl
 go_enter Tryz.func151, Tryz.ntmps151
 go_wp2_with (first | (go_at_call 92; (with_reducible refine (check_2 _ _ _ _ _ _ c_48).mono ?_); rintro e w1 ⟨rfl, hb⟩; obtain ⟨_, _, hc, hf⟩ := hb.cells2; have hz := hb.size; (try simp only [World.size_alloc] at hz hc hf); (try have zz : w.heap.size < w1.heap.size ∧ (∀ j, w.heap.size < w1.heap.size + j) ∧ (¬ w.heap.size = w1.heap.size) ∧ (∀ j, ¬ w.heap.size = w1.heap.size + j) ∧ (¬ w1.heap.size = w.heap.size) ∧ (∀ j, ¬ w1.heap.size + j = w.heap.size) := c_6); (try have zz : w.heap.size + 1 < w1.heap.size ∧ (∀ j, w.heap.size + 1 < w1.heap.size + j) ∧ (¬ w.heap.size + 1 = w1.heap.size) ∧ (∀ j, ¬ w.heap.size + 1 = w1.heap.size + j) ∧ (¬ w1.heap.size = w.heap.size + 1) ∧ (∀ j, ¬ w1.heap.size + j = w.heap.size + 1) := c_6); (try have zz : w.heap.size + 1 + 1 < w1.heap.size ∧ (∀ j, w.heap.size + 1 + 1 < w1.heap.size + j) ∧ (¬ w.heap.size + 1 + 1 = w1.heap.size) ∧ (∀ j, ¬ w.heap.size + 1 + 1 = w1.heap.size + j) ∧ (¬ w1.heap.size = w.heap.size + 1 + 1) ∧ (∀ j, ¬ w1.heap.size + j = w.heap.size + 1 + 1) := c_6); (try have zz : w.heap.size + 1 + 1 + 1 < w1.heap.size ∧ (∀ j, w.heap.size + 1 + 1 + 1 < w1.heap.size + j) ∧ (¬ w.heap.size + 1 + 1 + 1 = w1.heap.size) ∧ (∀ j, ¬ w.heap.size + 1 + 1 + 1 = w1.heap.size + j) ∧ (¬ w1.heap.size = w.heap.size + 1 + 1 + 1) ∧ (∀ j, ¬ w1.heap.size + j = w.heap.size + 1 + 1 + 1) := c_6)))
 ·all_goals
   refine bodyPost_ret (v := .tuple #[.agg #[.int .i64 (mulI a b c d).lo, .int .i64 (mulI a b c d).hi], .int .i64 (mulI a b c d).e]) ?_ rfl ⟨rfl, ?_⟩
   ·(try simp only [bne_iff_ne, ne_eq] at *)
    simp [results, Tryz.results151, go_sem, mulI, *]
   ·repeat (first | exact Ext.refl _ | with_reducible assumption | refine Ext.alloc ?_ _ | refine Ext.setCell ?_ c_19 _ | refine Ext.drewN ?_ _ | refine Ext.drew ?_ | refine Ext.trans ?_ c_1)
 ·refine wp_loop_rounds 3 ?_
  rw [rounds_succ]
  go_wp2_with fail
  refine wp_name fun W hW => ?_
  obtain ⟨hWc, hWf, hWz⟩ := hW.cells
  have hWe : Ext w W := Ext.same hW c_23
  (try simp only [World.size_alloc] at hWz)
  go_region_held3 (fun w' => (∀ b o, b < W.heap.size → w'.cell? ⟨b, o, none⟩ = if b = w1.heap.size ∧ 0 ≤ o ∧ o < 4 then (W.cell? ⟨b, o, none⟩).map (obx w' b o) else W.cell? ⟨b, o, none⟩) ∧ (∀ b o, b < W.heap.size → w'.frozen? ⟨b, o, none⟩ = W.frozen? ⟨b, o, none⟩) ∧ W.heap.size ≤ w'.heap.size ∧ Ext w w') (first | (with_reducible exact held0 hWe) | (with_reducible exact held1 c_1 c_1) | (with_reducible exact held3 c_1) | (repeat (first | (with_reducible assumption) | (with_reducible refine held2 ?_ c_9 c_19)))) ((first | (go_at_call 93; (with_reducible refine (times_any _ _ _ c_32 c_32).mono ?_); rintro e w2 ⟨rfl, hb2⟩; have hz2 := hb2.size; (try rw [size_drew] at hz2))))
  rename_i hOld
  have hE := hOld.2.2.2
  have hO := And.intro hOld.1 (And.intro hOld.2.1 hOld.2.2.1)
  clear hOld
  replace hO := heldBack hO c_9
  replace hO := heldBack hO c_9
  replace hO := heldBack hO c_9
  replace hO := heldBack hO c_9
  obtain ⟨hOc, hOf, hOz⟩ := heldEnd hO
  clear hO
  (try have zz : w.heap.size < w2.heap.size ∧ (∀ j, w.heap.size < w2.heap.size + j) ∧ (¬ w.heap.size = w2.heap.size) ∧ (∀ j, ¬ w.heap.size = w2.heap.size + j) ∧ (¬ w2.heap.size = w.heap.size) ∧ (∀ j, ¬ w2.heap.size + j = w.heap.size) := c_6)
  (try have zz : w.heap.size + 1 < w2.heap.size ∧ (∀ j, w.heap.size + 1 < w2.heap.size + j) ∧ (¬ w.heap.size + 1 = w2.heap.size) ∧ (∀ j, ¬ w.heap.size + 1 = w2.heap.size + j) ∧ (¬ w2.heap.size = w.heap.size + 1) ∧ (∀ j, ¬ w2.heap.size + j = w.heap.size + 1) := c_6)
  (try have zz : w.heap.size + 1 + 1 < w2.heap.size ∧ (∀ j, w.heap.size + 1 + 1 < w2.heap.size + j) ∧ (¬ w.heap.size + 1 + 1 = w2.heap.size) ∧ (∀ j, ¬ w.heap.size + 1 + 1 = w2.heap.size + j) ∧ (¬ w2.heap.size = w.heap.size + 1 + 1) ∧ (∀ j, ¬ w2.heap.size + j = w.heap.size + 1 + 1) := c_6)
  (try have zz : w1.heap.size < w2.heap.size ∧ (∀ j, w1.heap.size < w2.heap.size + j) ∧ (¬ w1.heap.size = w2.heap.size) ∧ (∀ j, ¬ w1.heap.size = w2.heap.size + j) ∧ (¬ w2.heap.size = w1.heap.size) ∧ (∀ j, ¬ w2.heap.size + j = w1.heap.size) := c_6)
  go_wp2_with fail
  rw [rounds_succ]
  go_wp2_with fail
  refine wp_name fun W hW => ?_
  obtain ⟨hWc, hWf, hWz⟩ := hW.cells
  have hWe : Ext w W := Ext.same hW c_23
  (try simp only [World.size_setCell] at hWz)
  go_region_held3 (fun w' => (∀ b o, b < W.heap.size → w'.cell? ⟨b, o, none⟩ = if b = w1.heap.size ∧ 4 ≤ o ∧ o < 8 then (W.cell? ⟨b, o, none⟩).map (obx w' b o) else W.cell? ⟨b, o, none⟩) ∧ (∀ b o, b < W.heap.size → w'.frozen? ⟨b, o, none⟩ = W.frozen? ⟨b, o, none⟩) ∧ W.heap.size ≤ w'.heap.size ∧ Ext w w') (first | (with_reducible exact held0 hWe) | (with_reducible exact held1 c_1 c_1) | (with_reducible exact held3 c_1) | (repeat (first | (with_reducible assumption) | (with_reducible refine held2 ?_ c_9 c_19)))) ((first | (go_at_call 93; (with_reducible refine (times_any _ _ _ c_32 c_32).mono ?_); rintro e w2 ⟨rfl, hb2⟩; have hz2 := hb2.size; (try rw [size_drew] at hz2))))
  rename_i hOld
  have hE := hOld.2.2.2
  have hO := And.intro hOld.1 (And.intro hOld.2.1 hOld.2.2.1)
  clear hOld
  replace hO := heldBack hO c_9
  replace hO := heldBack hO c_9
  replace hO := heldBack hO c_9
  replace hO := heldBack hO c_9
  obtain ⟨hOc, hOf, hOz⟩ := heldEnd hO
  clear hO
  (try have zz : w.heap.size < w2.heap.size ∧ (∀ j, w.heap.size < w2.heap.size + j) ∧ (¬ w.heap.size = w2.heap.size) ∧ (∀ j, ¬ w.heap.size = w2.heap.size + j) ∧ (¬ w2.heap.size = w.heap.size) ∧ (∀ j, ¬ w2.heap.size + j = w.heap.size) := c_6)
  (try have zz : w.heap.size + 1 < w2.heap.size ∧ (∀ j, w.heap.size + 1 < w2.heap.size + j) ∧ (¬ w.heap.size + 1 = w2.heap.size) ∧ (∀ j, ¬ w.heap.size + 1 = w2.heap.size + j) ∧ (¬ w2.heap.size = w.heap.size + 1) ∧ (∀ j, ¬ w2.heap.size + j = w.heap.size + 1) := c_6)
  (try have zz : w.heap.size + 1 + 1 < w2.heap.size ∧ (∀ j, w.heap.size + 1 + 1 < w2.heap.size + j) ∧ (¬ w.heap.size + 1 + 1 = w2.heap.size) ∧ (∀ j, ¬ w.heap.size + 1 + 1 = w2.heap.size + j) ∧ (¬ w2.heap.size = w.heap.size + 1 + 1) ∧ (∀ j, ¬ w2.heap.size + j = w.heap.size + 1 + 1) := c_6)
  (try have zz : w1.heap.size < w2.heap.size ∧ (∀ j, w1.heap.size < w2.heap.size + j) ∧ (¬ w1.heap.size = w2.heap.size) ∧ (∀ j, ¬ w1.heap.size = w2.heap.size + j) ∧ (¬ w2.heap.size = w1.heap.size) ∧ (∀ j, ¬ w2.heap.size + j = w1.heap.size) := c_6)
  go_wp2_with fail
  rw [rounds_succ]
  go_wp2_with fail
  refine wp_name fun W hW => ?_
  obtain ⟨hWc, hWf, hWz⟩ := hW.cells
  have hWe : Ext w W := Ext.same hW c_23
  (try simp only [World.size_setCell] at hWz)
  go_region_held3 (fun w' => (∀ b o, b < W.heap.size → w'.cell? ⟨b, o, none⟩ = if b = w.heap.size + 1 + 1 ∧ 0 ≤ o ∧ o < 2 then (W.cell? ⟨b, o, none⟩).map (obx w' b o) else W.cell? ⟨b, o, none⟩) ∧ (∀ b o, b < W.heap.size → w'.frozen? ⟨b, o, none⟩ = W.frozen? ⟨b, o, none⟩) ∧ W.heap.size ≤ w'.heap.size ∧ Ext w w') (first | (with_reducible exact held0 hWe) | (with_reducible exact held1 c_1 c_1) | (with_reducible exact held3 c_1) | (repeat (first | (with_reducible assumption) | (with_reducible refine held2 ?_ c_9 c_19)))) ((first | (go_at_call 96; (with_reducible refine (least_3 (a * c) (a * d) (b * c) (b * d) _ _ _ c_35 c_35 c_35 c_35 c_35 c_35).mono ?_); rintro e w2 ⟨rfl, hb2⟩; have hz2 := hb2.size; (try rw [size_drew] at hz2)) | (go_at_call 98; (with_reducible refine (greatest_3 (a * c) (a * d) (b * c) (b * d) _ _ _ c_35 c_35 c_35 c_35 c_35 c_35).mono ?_); rintro e w2 ⟨rfl, hb2⟩; have hz2 := hb2.size; (try rw [size_drew] at hz2)) | (go_at_call 97; (with_reducible refine (down_any _ _ _ (min4_bound pa pb pc pd).1 (min4_bound pa pb pc pd).2 (by omega) (by omega)).mono ?_); rintro e w2 ⟨rfl, hb2⟩; have hz2 := hb2.size; (try rw [size_drew] at hz2)) | (go_at_call 99; (with_reducible refine (up_any _ _ _ (max4_bound pa pb pc pd).1 (max4_bound pa pb pc pd).2 (by omega) (by omega)).mono ?_); rintro e w2 ⟨rfl, hb2⟩; have hz2 := hb2.size; (try rw [size_drew] at hz2)) | (go_at_call 95; (with_reducible refine (span_made _ _ _).mono ?_); rintro e w2 ⟨rfl, hb2⟩; have hz2 := hb2.size; (try rw [size_drew] at hz2))))
  rename_i hOld
  have hE := hOld.2.2.2
  have hO := And.intro hOld.1 (And.intro hOld.2.1 hOld.2.2.1)
  clear hOld
  replace hO := heldBack hO c_9
  replace hO := heldBack hO c_9
  obtain ⟨hOc, hOf, hOz⟩ := heldEnd hO
  clear hO
  go_wp2_with fail
  all_goals
   refine bodyPost_ret (v := .tuple #[.agg #[.int .i64 (mulI a b c d).lo, .int .i64 (mulI a b c d).hi], .int .i64 (mulI a b c d).e]) ?_ rfl ⟨rfl, ?_⟩
   ·(try simp only [bne_eq_false_iff_eq] at *)
    simp [results, Tryz.results151, go_sem, mulI, *]
   ·repeat (first | exact Ext.refl _ | with_reducible assumption | refine Ext.alloc ?_ _ | refine Ext.setCell ?_ c_14 _ | refine Ext.drewN ?_ _ | refine Ext.drew ?_ | refine Ext.trans ?_ c_1)
end Go.Proofs.YtogblocakccbgaaGreat
