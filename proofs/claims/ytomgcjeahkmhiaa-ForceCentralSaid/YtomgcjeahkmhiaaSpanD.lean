/- span: absolute values, negatives, squares, products. -/
import Derived.Test.YtomgcjeahkmhiaaSpanC
namespace Go.Proofs.Ytomgcjeahkmhiaa
open Go.RowKit

theorem min4_bound {a b c d : Int} (pa : I64 a) (pb : I64 b) (pc : I64 c) (pd : I64 d) : -85070591730234615865843651857942052864 ≤ min4 (a * c) (a * d) (b * c) (b * d) ∧ min4 (a * c) (a * d) (b * c) (b * d) ≤ 85070591730234615865843651857942052864 := by
  have h1 := abs_mul_bound pa pc
  have h2 := abs_mul_bound pa pd
  have h3 := abs_mul_bound pb pc
  have h4 := abs_mul_bound pb pd
  unfold min4; omega
theorem max4_bound {a b c d : Int} (pa : I64 a) (pb : I64 b) (pc : I64 c) (pd : I64 d) : -85070591730234615865843651857942052864 ≤ max4 (a * c) (a * d) (b * c) (b * d) ∧ max4 (a * c) (a * d) (b * c) (b * d) ≤ 85070591730234615865843651857942052864 := by
  have h1 := abs_mul_bound pa pc
  have h2 := abs_mul_bound pa pd
  have h3 := abs_mul_bound pb pc
  have h4 := abs_mul_bound pb pd
  unfold max4; omega

theorem absI_I64 {a b : Int} (ha : I64 a) (hb : I64 b) : I64 (absI a b).lo ∧ I64 (absI a b).hi := by
  have h1 := w64_mod (-a)
  have h2 := w64_mod (-b)
  unfold I64 absI at *
  split
  · simp
  · split
    · exact ⟨ha, hb⟩
    · split
      · exact ⟨h2.2, h1.2⟩
      · simp only []; omega

set_option maxHeartbeats 1000000 in
theorem span_abs (a b : Int) (w : World) :
    Calls Try.prog 82 #[.agg #[.int .i64 a, .int .i64 b]] w fun e w' => e = .returned (.tuple #[.agg #[.int .i64 (absI a b).lo, .int .i64 (absI a b).hi], .int .i64 (absI a b).e]) ∧ Ext w w' := by
  go_enter Try.func82, Try.ntmps82
  go_wp2_with (first | (go_at_call 60; (with_reducible refine (check_1 _ _ _ _ (by first | rfl | simp)).mono ?_); rintro e w1 ⟨rfl, hb⟩; obtain ⟨_, _, hc, hf⟩ := hb.cells2; have hz := hb.size; (try simp only [World.size_alloc] at hz hc hf)))
  all_goals
    refine bodyPost_ret (v := .tuple #[.agg #[.int .i64 (absI a b).lo, .int .i64 (absI a b).hi], .int .i64 (absI a b).e]) ?_ rfl ⟨rfl, ?_⟩
    · (try simp only [bne_iff_ne, ne_eq, bne_eq_false_iff_eq] at *)
      simp [results, Try.results82, go_sem, ↓IntWalk.iteOmega, absI, *]
      (try (split <;> simp_all <;> omega))
    · repeat (first | exact Ext.refl _ | with_reducible assumption | refine Ext.alloc ?_ _ | refine Ext.setCell ?_ (by (try simp only []); omega) _ | refine Ext.drewN ?_ _ | refine Ext.drew ?_ | refine Ext.trans ?_ (by with_reducible assumption))

set_option maxHeartbeats 1000000 in
theorem span_neg (a b : Int) (w : World) :
    Calls Try.prog 86 #[.agg #[.int .i64 a, .int .i64 b]] w fun e w' => e = .returned (.tuple #[.agg #[.int .i64 (negI a b).lo, .int .i64 (negI a b).hi], .int .i64 (negI a b).e]) ∧ Ext w w' := by
  go_enter Try.func86, Try.ntmps86
  go_wp2_with (first | (go_at_call 60; (with_reducible refine (check_1 _ _ _ _ (by first | rfl | simp)).mono ?_); rintro e w1 ⟨rfl, hb⟩; obtain ⟨_, _, hc, hf⟩ := hb.cells2; have hz := hb.size; (try simp only [World.size_alloc] at hz hc hf)))
  all_goals
    refine bodyPost_ret (v := .tuple #[.agg #[.int .i64 (negI a b).lo, .int .i64 (negI a b).hi], .int .i64 (negI a b).e]) ?_ rfl ⟨rfl, ?_⟩
    · (try simp only [bne_iff_ne, ne_eq, bne_eq_false_iff_eq] at *)
      simp [results, Try.results86, go_sem, negI, *]
    · repeat (first | exact Ext.refl _ | with_reducible assumption | refine Ext.alloc ?_ _ | refine Ext.setCell ?_ (by (try simp only []); omega) _ | refine Ext.drewN ?_ _ | refine Ext.drew ?_ | refine Ext.trans ?_ (by with_reducible assumption))

set_option maxRecDepth 100000 in
set_option maxHeartbeats 1000000 in
theorem span_sq (a b : Int) (w : World) (ha : I64 a) (hb0 : I64 b) :
    Calls Try.prog 50 #[.agg #[.int .i64 a, .int .i64 b]] w fun e w' => e = .returned (.tuple #[.agg #[.int .i64 (sqI a b).lo, .int .i64 (sqI a b).hi], .int .i64 (sqI a b).e]) ∧ Ext w w' := by
  obtain ⟨i1, i2⟩ := absI_I64 ha hb0
  go_enter Try.func50, Try.ntmps50
  go_wp2_with (first | (go_at_call 82; (with_reducible refine (span_abs _ _ _).mono ?_); rintro e w1 ⟨rfl, hb⟩; obtain ⟨_, _, hc, hf⟩ := hb.cells2; have hz := hb.size; (try simp only [World.size_alloc] at hz hc hf); (try have zz : w.heap.size < w1.heap.size ∧ (∀ j, w.heap.size < w1.heap.size + j) ∧ (¬ w.heap.size = w1.heap.size) ∧ (∀ j, ¬ w.heap.size = w1.heap.size + j) ∧ (¬ w1.heap.size = w.heap.size) ∧ (∀ j, ¬ w1.heap.size + j = w.heap.size) := (by refine ⟨?_, fun j => ?_, ?_, fun j => ?_, ?_, fun j => ?_⟩ <;> omega)); (try have zz : w.heap.size + 1 < w1.heap.size ∧ (∀ j, w.heap.size + 1 < w1.heap.size + j) ∧ (¬ w.heap.size + 1 = w1.heap.size) ∧ (∀ j, ¬ w.heap.size + 1 = w1.heap.size + j) ∧ (¬ w1.heap.size = w.heap.size + 1) ∧ (∀ j, ¬ w1.heap.size + j = w.heap.size + 1) := (by refine ⟨?_, fun j => ?_, ?_, fun j => ?_, ?_, fun j => ?_⟩ <;> omega))))
  any_goals
    refine wp_name fun W hW => ?_
    obtain ⟨hWc, hWf, hWz⟩ := hW.cells
    have hWe : Ext w W := Ext.same hW (by repeat (first | exact Ext.refl _ | with_reducible assumption | refine Ext.alloc ?_ _ | refine Ext.setCell ?_ (by (try simp only [World.size_alloc, World.size_setCell]); omega) _ | refine Ext.drewN ?_ _ | refine Ext.drew ?_ | refine Ext.trans ?_ (by with_reducible assumption)))
    (try simp only [World.size_alloc] at hWz)
    go_region_held3 (fun w' => (∀ b o, b < W.heap.size → w'.cell? ⟨b, o, none⟩ = if b = w.heap.size + 1 ∧ 0 ≤ o ∧ o < 2 then (W.cell? ⟨b, o, none⟩).map (obx w' b o) else W.cell? ⟨b, o, none⟩) ∧ (∀ b o, b < W.heap.size → w'.frozen? ⟨b, o, none⟩ = W.frozen? ⟨b, o, none⟩) ∧ W.heap.size ≤ w'.heap.size ∧ Ext w w') (first | (with_reducible exact held0 hWe) | (with_reducible exact held1 (by with_reducible assumption) (by with_reducible assumption)) | (with_reducible exact held3 (by with_reducible assumption)) | (repeat (first | (with_reducible assumption) | (with_reducible refine held2 ?_ (by first | exact Or.inl (by refine ⟨?_, ?_, ?_⟩ <;> (first | rfl | (dsimp only; omega))) | exact Or.inr (by (try simp only [World.size_alloc, World.size_setCell]); omega)) (by (try simp only []); omega))))) ((first | (go_at_call 75; (with_reducible refine (times_any _ _ _ (by assumption) (by assumption)).mono ?_); rintro e w2 ⟨rfl, hb2⟩; have hz2 := hb2.size; (try rw [size_drew] at hz2)) | (go_at_call 77; (with_reducible refine (down_any _ _ _ (abs_mul_bound (by assumption) (by assumption)).1 (abs_mul_bound (by assumption) (by assumption)).2 (by omega) (by omega)).mono ?_); rintro e w2 ⟨rfl, hb2⟩; have hz2 := hb2.size; (try rw [size_drew] at hz2)) | (go_at_call 79; (with_reducible refine (up_any _ _ _ (abs_mul_bound (by assumption) (by assumption)).1 (abs_mul_bound (by assumption) (by assumption)).2 (by omega) (by omega)).mono ?_); rintro e w2 ⟨rfl, hb2⟩; have hz2 := hb2.size; (try rw [size_drew] at hz2)) | (go_at_call 61; (with_reducible refine (span_made _ _ _).mono ?_); rintro e w2 ⟨rfl, hb2⟩; have hz2 := hb2.size; (try rw [size_drew] at hz2))))
    rename_i hOld
    have hE := hOld.2.2.2
    have hO := And.intro hOld.1 (And.intro hOld.2.1 hOld.2.2.1)
    clear hOld
    replace hO := heldBack hO (by first | exact Or.inl (by refine ⟨?_, ?_, ?_⟩ <;> (first | rfl | (dsimp only; omega))) | exact Or.inr (by (try simp only [World.size_alloc, World.size_setCell]); omega))
    replace hO := heldBack hO (by first | exact Or.inl (by refine ⟨?_, ?_, ?_⟩ <;> (first | rfl | (dsimp only; omega))) | exact Or.inr (by (try simp only [World.size_alloc, World.size_setCell]); omega))
    obtain ⟨hOc, hOf, hOz⟩ := heldEnd hO
    clear hO
  any_goals go_wp2_with fail
  all_goals
    refine bodyPost_ret (v := .tuple #[.agg #[.int .i64 (sqI a b).lo, .int .i64 (sqI a b).hi], .int .i64 (sqI a b).e]) ?_ rfl ⟨rfl, ?_⟩
    · (try simp only [bne_iff_ne, ne_eq, bne_eq_false_iff_eq] at *)
      simp [results, Try.results50, go_sem, sqI, *]
    · repeat (first | exact Ext.refl _ | with_reducible assumption | refine Ext.alloc ?_ _ | refine Ext.setCell ?_ (by (try simp only []); omega) _ | refine Ext.drewN ?_ _ | refine Ext.drew ?_ | refine Ext.trans ?_ (by with_reducible assumption))

set_option maxRecDepth 100000 in
set_option maxHeartbeats 1000000 in
theorem span_mul (a b c d : Int) (w : World) (ha : I64 a ∧ I64 b) (hc0 : I64 c ∧ I64 d) :
    Calls Try.prog 40 #[.agg #[.int .i64 a, .int .i64 b], .agg #[.int .i64 c, .int .i64 d]] w fun e w' => e = .returned (.tuple #[.agg #[.int .i64 (mulI a b c d).lo, .int .i64 (mulI a b c d).hi], .int .i64 (mulI a b c d).e]) ∧ Ext w w' := by
  obtain ⟨pa, pb⟩ := ha
  obtain ⟨pc, pd⟩ := hc0
  have i0 : ∀ w, (Instr.index 115 (.agg #[.int .i64 a, .int .i64 b]) (.int .i64 0)).run Try.prog w = .ok (.int .i64 a) w := fun _ => by kernel_rfl
  have i1 : ∀ w, (Instr.index 115 (.agg #[.int .i64 a, .int .i64 b]) (.int .i64 1)).run Try.prog w = .ok (.int .i64 b) w := fun _ => by kernel_rfl
  have l0 : IntKind.i64.wrap 0 = 0 := rfl
  have l1 : IntKind.i64.wrap 1 = 1 := rfl
  have l2 : IntKind.i64.wrap 2 = 2 := rfl
  have l3 : IntKind.i64.wrap 3 = 3 := rfl
  go_enter Try.func40, Try.ntmps40
  go_wp2_with (first | (go_at_call 60; (with_reducible refine (check_2 _ _ _ _ _ _ (by first | rfl | simp)).mono ?_); rintro e w1 ⟨rfl, hb⟩; obtain ⟨_, _, hc, hf⟩ := hb.cells2; have hz := hb.size; (try simp only [World.size_alloc] at hz hc hf); (try have zz : w.heap.size < w1.heap.size ∧ (∀ j, w.heap.size < w1.heap.size + j) ∧ (¬ w.heap.size = w1.heap.size) ∧ (∀ j, ¬ w.heap.size = w1.heap.size + j) ∧ (¬ w1.heap.size = w.heap.size) ∧ (∀ j, ¬ w1.heap.size + j = w.heap.size) := (by refine ⟨?_, fun j => ?_, ?_, fun j => ?_, ?_, fun j => ?_⟩ <;> omega)); (try have zz : w.heap.size + 1 < w1.heap.size ∧ (∀ j, w.heap.size + 1 < w1.heap.size + j) ∧ (¬ w.heap.size + 1 = w1.heap.size) ∧ (∀ j, ¬ w.heap.size + 1 = w1.heap.size + j) ∧ (¬ w1.heap.size = w.heap.size + 1) ∧ (∀ j, ¬ w1.heap.size + j = w.heap.size + 1) := (by refine ⟨?_, fun j => ?_, ?_, fun j => ?_, ?_, fun j => ?_⟩ <;> omega)); (try have zz : w.heap.size + 1 + 1 < w1.heap.size ∧ (∀ j, w.heap.size + 1 + 1 < w1.heap.size + j) ∧ (¬ w.heap.size + 1 + 1 = w1.heap.size) ∧ (∀ j, ¬ w.heap.size + 1 + 1 = w1.heap.size + j) ∧ (¬ w1.heap.size = w.heap.size + 1 + 1) ∧ (∀ j, ¬ w1.heap.size + j = w.heap.size + 1 + 1) := (by refine ⟨?_, fun j => ?_, ?_, fun j => ?_, ?_, fun j => ?_⟩ <;> omega)); (try have zz : w.heap.size + 1 + 1 + 1 < w1.heap.size ∧ (∀ j, w.heap.size + 1 + 1 + 1 < w1.heap.size + j) ∧ (¬ w.heap.size + 1 + 1 + 1 = w1.heap.size) ∧ (∀ j, ¬ w.heap.size + 1 + 1 + 1 = w1.heap.size + j) ∧ (¬ w1.heap.size = w.heap.size + 1 + 1 + 1) ∧ (∀ j, ¬ w1.heap.size + j = w.heap.size + 1 + 1 + 1) := (by refine ⟨?_, fun j => ?_, ?_, fun j => ?_, ?_, fun j => ?_⟩ <;> omega))))
  · all_goals
      refine bodyPost_ret (v := .tuple #[.agg #[.int .i64 (mulI a b c d).lo, .int .i64 (mulI a b c d).hi], .int .i64 (mulI a b c d).e]) ?_ rfl ⟨rfl, ?_⟩
      · (try simp only [bne_iff_ne, ne_eq] at *)
        simp [results, Try.results40, go_sem, mulI, *]
      · repeat (first | exact Ext.refl _ | with_reducible assumption | refine Ext.alloc ?_ _ | refine Ext.setCell ?_ (by (try simp only []); omega) _ | refine Ext.drewN ?_ _ | refine Ext.drew ?_ | refine Ext.trans ?_ (by with_reducible assumption))
  · refine wp_loop_rounds 3 ?_
    rw [rounds_succ]
    go_wp2_with fail
    refine wp_name fun W hW => ?_
    obtain ⟨hWc, hWf, hWz⟩ := hW.cells
    have hWe : Ext w W := Ext.same hW (by repeat (first | exact Ext.refl _ | with_reducible assumption | refine Ext.alloc ?_ _ | refine Ext.setCell ?_ (by (try simp only [World.size_alloc, World.size_setCell]); omega) _ | refine Ext.drewN ?_ _ | refine Ext.drew ?_ | refine Ext.trans ?_ (by with_reducible assumption)))
    (try simp only [World.size_alloc] at hWz)
    go_region_held3 (fun w' => (∀ b o, b < W.heap.size → w'.cell? ⟨b, o, none⟩ = if b = w1.heap.size ∧ 0 ≤ o ∧ o < 4 then (W.cell? ⟨b, o, none⟩).map (obx w' b o) else W.cell? ⟨b, o, none⟩) ∧ (∀ b o, b < W.heap.size → w'.frozen? ⟨b, o, none⟩ = W.frozen? ⟨b, o, none⟩) ∧ W.heap.size ≤ w'.heap.size ∧ Ext w w') (first | (with_reducible exact held0 hWe) | (with_reducible exact held1 (by with_reducible assumption) (by with_reducible assumption)) | (with_reducible exact held3 (by with_reducible assumption)) | (repeat (first | (with_reducible assumption) | (with_reducible refine held2 ?_ (by first | exact Or.inl (by refine ⟨?_, ?_, ?_⟩ <;> (first | rfl | (dsimp only; omega))) | exact Or.inr (by (try simp only [World.size_alloc, World.size_setCell]); omega)) (by (try simp only []); omega))))) ((first | (go_at_call 75; (with_reducible refine (times_any _ _ _ (by assumption) (by assumption)).mono ?_); rintro e w2 ⟨rfl, hb2⟩; have hz2 := hb2.size; (try rw [size_drew] at hz2))))
    rename_i hOld
    have hE := hOld.2.2.2
    have hO := And.intro hOld.1 (And.intro hOld.2.1 hOld.2.2.1)
    clear hOld
    replace hO := heldBack hO (by first | exact Or.inl (by refine ⟨?_, ?_, ?_⟩ <;> (first | rfl | (dsimp only; omega))) | exact Or.inr (by (try simp only [World.size_alloc, World.size_setCell]); omega))
    replace hO := heldBack hO (by first | exact Or.inl (by refine ⟨?_, ?_, ?_⟩ <;> (first | rfl | (dsimp only; omega))) | exact Or.inr (by (try simp only [World.size_alloc, World.size_setCell]); omega))
    replace hO := heldBack hO (by first | exact Or.inl (by refine ⟨?_, ?_, ?_⟩ <;> (first | rfl | (dsimp only; omega))) | exact Or.inr (by (try simp only [World.size_alloc, World.size_setCell]); omega))
    replace hO := heldBack hO (by first | exact Or.inl (by refine ⟨?_, ?_, ?_⟩ <;> (first | rfl | (dsimp only; omega))) | exact Or.inr (by (try simp only [World.size_alloc, World.size_setCell]); omega))
    obtain ⟨hOc, hOf, hOz⟩ := heldEnd hO
    clear hO
    (try have zz : w.heap.size < w2.heap.size ∧ (∀ j, w.heap.size < w2.heap.size + j) ∧ (¬ w.heap.size = w2.heap.size) ∧ (∀ j, ¬ w.heap.size = w2.heap.size + j) ∧ (¬ w2.heap.size = w.heap.size) ∧ (∀ j, ¬ w2.heap.size + j = w.heap.size) := (by refine ⟨?_, fun j => ?_, ?_, fun j => ?_, ?_, fun j => ?_⟩ <;> omega))
    (try have zz : w.heap.size + 1 < w2.heap.size ∧ (∀ j, w.heap.size + 1 < w2.heap.size + j) ∧ (¬ w.heap.size + 1 = w2.heap.size) ∧ (∀ j, ¬ w.heap.size + 1 = w2.heap.size + j) ∧ (¬ w2.heap.size = w.heap.size + 1) ∧ (∀ j, ¬ w2.heap.size + j = w.heap.size + 1) := (by refine ⟨?_, fun j => ?_, ?_, fun j => ?_, ?_, fun j => ?_⟩ <;> omega))
    (try have zz : w.heap.size + 1 + 1 < w2.heap.size ∧ (∀ j, w.heap.size + 1 + 1 < w2.heap.size + j) ∧ (¬ w.heap.size + 1 + 1 = w2.heap.size) ∧ (∀ j, ¬ w.heap.size + 1 + 1 = w2.heap.size + j) ∧ (¬ w2.heap.size = w.heap.size + 1 + 1) ∧ (∀ j, ¬ w2.heap.size + j = w.heap.size + 1 + 1) := (by refine ⟨?_, fun j => ?_, ?_, fun j => ?_, ?_, fun j => ?_⟩ <;> omega))
    (try have zz : w1.heap.size < w2.heap.size ∧ (∀ j, w1.heap.size < w2.heap.size + j) ∧ (¬ w1.heap.size = w2.heap.size) ∧ (∀ j, ¬ w1.heap.size = w2.heap.size + j) ∧ (¬ w2.heap.size = w1.heap.size) ∧ (∀ j, ¬ w2.heap.size + j = w1.heap.size) := (by refine ⟨?_, fun j => ?_, ?_, fun j => ?_, ?_, fun j => ?_⟩ <;> omega))
    go_wp2_with fail
    rw [rounds_succ]
    go_wp2_with fail
    refine wp_name fun W hW => ?_
    obtain ⟨hWc, hWf, hWz⟩ := hW.cells
    have hWe : Ext w W := Ext.same hW (by repeat (first | exact Ext.refl _ | with_reducible assumption | refine Ext.alloc ?_ _ | refine Ext.setCell ?_ (by (try simp only [World.size_alloc, World.size_setCell]); omega) _ | refine Ext.drewN ?_ _ | refine Ext.drew ?_ | refine Ext.trans ?_ (by with_reducible assumption)))
    (try simp only [World.size_setCell] at hWz)
    go_region_held3 (fun w' => (∀ b o, b < W.heap.size → w'.cell? ⟨b, o, none⟩ = if b = w1.heap.size ∧ 4 ≤ o ∧ o < 8 then (W.cell? ⟨b, o, none⟩).map (obx w' b o) else W.cell? ⟨b, o, none⟩) ∧ (∀ b o, b < W.heap.size → w'.frozen? ⟨b, o, none⟩ = W.frozen? ⟨b, o, none⟩) ∧ W.heap.size ≤ w'.heap.size ∧ Ext w w') (first | (with_reducible exact held0 hWe) | (with_reducible exact held1 (by with_reducible assumption) (by with_reducible assumption)) | (with_reducible exact held3 (by with_reducible assumption)) | (repeat (first | (with_reducible assumption) | (with_reducible refine held2 ?_ (by first | exact Or.inl (by refine ⟨?_, ?_, ?_⟩ <;> (first | rfl | (dsimp only; omega))) | exact Or.inr (by (try simp only [World.size_alloc, World.size_setCell]); omega)) (by (try simp only []); omega))))) ((first | (go_at_call 75; (with_reducible refine (times_any _ _ _ (by assumption) (by assumption)).mono ?_); rintro e w2 ⟨rfl, hb2⟩; have hz2 := hb2.size; (try rw [size_drew] at hz2))))
    rename_i hOld
    have hE := hOld.2.2.2
    have hO := And.intro hOld.1 (And.intro hOld.2.1 hOld.2.2.1)
    clear hOld
    replace hO := heldBack hO (by first | exact Or.inl (by refine ⟨?_, ?_, ?_⟩ <;> (first | rfl | (dsimp only; omega))) | exact Or.inr (by (try simp only [World.size_alloc, World.size_setCell]); omega))
    replace hO := heldBack hO (by first | exact Or.inl (by refine ⟨?_, ?_, ?_⟩ <;> (first | rfl | (dsimp only; omega))) | exact Or.inr (by (try simp only [World.size_alloc, World.size_setCell]); omega))
    replace hO := heldBack hO (by first | exact Or.inl (by refine ⟨?_, ?_, ?_⟩ <;> (first | rfl | (dsimp only; omega))) | exact Or.inr (by (try simp only [World.size_alloc, World.size_setCell]); omega))
    replace hO := heldBack hO (by first | exact Or.inl (by refine ⟨?_, ?_, ?_⟩ <;> (first | rfl | (dsimp only; omega))) | exact Or.inr (by (try simp only [World.size_alloc, World.size_setCell]); omega))
    obtain ⟨hOc, hOf, hOz⟩ := heldEnd hO
    clear hO
    (try have zz : w.heap.size < w2.heap.size ∧ (∀ j, w.heap.size < w2.heap.size + j) ∧ (¬ w.heap.size = w2.heap.size) ∧ (∀ j, ¬ w.heap.size = w2.heap.size + j) ∧ (¬ w2.heap.size = w.heap.size) ∧ (∀ j, ¬ w2.heap.size + j = w.heap.size) := (by refine ⟨?_, fun j => ?_, ?_, fun j => ?_, ?_, fun j => ?_⟩ <;> omega))
    (try have zz : w.heap.size + 1 < w2.heap.size ∧ (∀ j, w.heap.size + 1 < w2.heap.size + j) ∧ (¬ w.heap.size + 1 = w2.heap.size) ∧ (∀ j, ¬ w.heap.size + 1 = w2.heap.size + j) ∧ (¬ w2.heap.size = w.heap.size + 1) ∧ (∀ j, ¬ w2.heap.size + j = w.heap.size + 1) := (by refine ⟨?_, fun j => ?_, ?_, fun j => ?_, ?_, fun j => ?_⟩ <;> omega))
    (try have zz : w.heap.size + 1 + 1 < w2.heap.size ∧ (∀ j, w.heap.size + 1 + 1 < w2.heap.size + j) ∧ (¬ w.heap.size + 1 + 1 = w2.heap.size) ∧ (∀ j, ¬ w.heap.size + 1 + 1 = w2.heap.size + j) ∧ (¬ w2.heap.size = w.heap.size + 1 + 1) ∧ (∀ j, ¬ w2.heap.size + j = w.heap.size + 1 + 1) := (by refine ⟨?_, fun j => ?_, ?_, fun j => ?_, ?_, fun j => ?_⟩ <;> omega))
    (try have zz : w1.heap.size < w2.heap.size ∧ (∀ j, w1.heap.size < w2.heap.size + j) ∧ (¬ w1.heap.size = w2.heap.size) ∧ (∀ j, ¬ w1.heap.size = w2.heap.size + j) ∧ (¬ w2.heap.size = w1.heap.size) ∧ (∀ j, ¬ w2.heap.size + j = w1.heap.size) := (by refine ⟨?_, fun j => ?_, ?_, fun j => ?_, ?_, fun j => ?_⟩ <;> omega))
    go_wp2_with fail
    rw [rounds_succ]
    go_wp2_with fail
    refine wp_name fun W hW => ?_
    obtain ⟨hWc, hWf, hWz⟩ := hW.cells
    have hWe : Ext w W := Ext.same hW (by repeat (first | exact Ext.refl _ | with_reducible assumption | refine Ext.alloc ?_ _ | refine Ext.setCell ?_ (by (try simp only [World.size_alloc, World.size_setCell]); omega) _ | refine Ext.drewN ?_ _ | refine Ext.drew ?_ | refine Ext.trans ?_ (by with_reducible assumption)))
    (try simp only [World.size_setCell] at hWz)
    go_region_held3 (fun w' => (∀ b o, b < W.heap.size → w'.cell? ⟨b, o, none⟩ = if b = w.heap.size + 1 + 1 ∧ 0 ≤ o ∧ o < 2 then (W.cell? ⟨b, o, none⟩).map (obx w' b o) else W.cell? ⟨b, o, none⟩) ∧ (∀ b o, b < W.heap.size → w'.frozen? ⟨b, o, none⟩ = W.frozen? ⟨b, o, none⟩) ∧ W.heap.size ≤ w'.heap.size ∧ Ext w w') (first | (with_reducible exact held0 hWe) | (with_reducible exact held1 (by with_reducible assumption) (by with_reducible assumption)) | (with_reducible exact held3 (by with_reducible assumption)) | (repeat (first | (with_reducible assumption) | (with_reducible refine held2 ?_ (by first | exact Or.inl (by refine ⟨?_, ?_, ?_⟩ <;> (first | rfl | (dsimp only; omega))) | exact Or.inr (by (try simp only [World.size_alloc, World.size_setCell]); omega)) (by (try simp only []); omega))))) ((first | (go_at_call 76; (with_reducible refine (least_3 (a * c) (a * d) (b * c) (b * d) _ _ _ (by simp [go_sem, *]) (by simp [go_sem, *]) (by simp [go_sem, *]) (by simp [go_sem, *]) (by simp [go_sem, *]) (by simp [go_sem, *])).mono ?_); rintro e w2 ⟨rfl, hb2⟩; have hz2 := hb2.size; (try rw [size_drew] at hz2)) | (go_at_call 78; (with_reducible refine (greatest_3 (a * c) (a * d) (b * c) (b * d) _ _ _ (by simp [go_sem, *]) (by simp [go_sem, *]) (by simp [go_sem, *]) (by simp [go_sem, *]) (by simp [go_sem, *]) (by simp [go_sem, *])).mono ?_); rintro e w2 ⟨rfl, hb2⟩; have hz2 := hb2.size; (try rw [size_drew] at hz2)) | (go_at_call 77; (with_reducible refine (down_any _ _ _ (min4_bound pa pb pc pd).1 (min4_bound pa pb pc pd).2 (by omega) (by omega)).mono ?_); rintro e w2 ⟨rfl, hb2⟩; have hz2 := hb2.size; (try rw [size_drew] at hz2)) | (go_at_call 79; (with_reducible refine (up_any _ _ _ (max4_bound pa pb pc pd).1 (max4_bound pa pb pc pd).2 (by omega) (by omega)).mono ?_); rintro e w2 ⟨rfl, hb2⟩; have hz2 := hb2.size; (try rw [size_drew] at hz2)) | (go_at_call 61; (with_reducible refine (span_made _ _ _).mono ?_); rintro e w2 ⟨rfl, hb2⟩; have hz2 := hb2.size; (try rw [size_drew] at hz2))))
    rename_i hOld
    have hE := hOld.2.2.2
    have hO := And.intro hOld.1 (And.intro hOld.2.1 hOld.2.2.1)
    clear hOld
    replace hO := heldBack hO (by first | exact Or.inl (by refine ⟨?_, ?_, ?_⟩ <;> (first | rfl | (dsimp only; omega))) | exact Or.inr (by (try simp only [World.size_alloc, World.size_setCell]); omega))
    replace hO := heldBack hO (by first | exact Or.inl (by refine ⟨?_, ?_, ?_⟩ <;> (first | rfl | (dsimp only; omega))) | exact Or.inr (by (try simp only [World.size_alloc, World.size_setCell]); omega))
    obtain ⟨hOc, hOf, hOz⟩ := heldEnd hO
    clear hO
    go_wp2_with fail
    all_goals
      refine bodyPost_ret (v := .tuple #[.agg #[.int .i64 (mulI a b c d).lo, .int .i64 (mulI a b c d).hi], .int .i64 (mulI a b c d).e]) ?_ rfl ⟨rfl, ?_⟩
      · (try simp only [bne_eq_false_iff_eq] at *)
        simp [results, Try.results40, go_sem, mulI, *]
      · repeat (first | exact Ext.refl _ | with_reducible assumption | refine Ext.alloc ?_ _ | refine Ext.setCell ?_ (by (try simp only [World.size_alloc, World.size_setCell]); omega) _ | refine Ext.drewN ?_ _ | refine Ext.drew ?_ | refine Ext.trans ?_ (by with_reducible assumption))

end Go.Proofs.Ytomgcjeahkmhiaa
