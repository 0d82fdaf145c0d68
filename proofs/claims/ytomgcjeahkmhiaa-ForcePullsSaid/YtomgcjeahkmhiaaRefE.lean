/- planisphereref03: negatives, absolute values, products, squares. -/
import Derived.Test.YtomgcjeahkmhiaaRefC
import Derived.Test.YtomgcjeahkmhiaaRefD
import Derived.Test.YtomgcjeahkmhiaaSpanD
import Derived.Test.YtomgcjeahkmhiaaSph
namespace Go.Proofs.Ytomgcjeahkmhiaa
open Go.RowKit

set_option maxHeartbeats 1000000 in
theorem ref_neg (a b : Int) (w : World) :
    Calls Try.prog 127 #[.agg #[.int .i64 a, .int .i64 b]] w fun e w' => e = .returned (.tuple #[.agg #[.int .i64 (negI a b).lo, .int .i64 (negI a b).hi], .int .i64 (negI a b).e]) ∧ Ext w w' := by
  rw [negI_made]
  go_enter Try.func127, Try.ntmps127
  go_wp2_with (first | (go_at_call 26; (with_reducible refine (ref_check _ _ _).mono ?_); rintro e w1 ⟨rfl, hb⟩; obtain ⟨_, _, hc, hf⟩ := hb.cells2; have hz := hb.size; (try simp only [World.size_alloc] at hz hc hf)) | (go_at_call 117; (with_reducible refine (ref_made _ _ _).mono ?_); rintro e w1 ⟨rfl, hb⟩; obtain ⟨_, _, hc, hf⟩ := hb.cells2; have hz := hb.size; (try simp only [World.size_alloc, World.size_setCell] at hz hc hf)))
  all_goals
    refine bodyPost_ret (v := .tuple #[.agg #[.int .i64 (negR a b).lo, .int .i64 (negR a b).hi], .int .i64 (negR a b).e]) ?_ rfl ⟨rfl, ?_⟩
    · (try simp only [bne_iff_ne, ne_eq, bne_eq_false_iff_eq] at *)
      simp [results, Try.results127, go_sem, ↓IntWalk.iteOmega, negR, *]
    · repeat (first | with_reducible exact Ext.refl _ | with_reducible assumption | with_reducible refine Ext.alloc ?_ _ | with_reducible refine Ext.setCell ?_ (by (try simp only []); omega) _ | with_reducible refine Ext.drewN ?_ _ | with_reducible refine Ext.drew ?_ | with_reducible refine Ext.trans ?_ (by with_reducible assumption))

set_option maxHeartbeats 1000000 in
theorem ref_abs (a b : Int) (w : World) :
    Calls Try.prog 162 #[.agg #[.int .i64 a, .int .i64 b]] w fun e w' => e = .returned (.tuple #[.agg #[.int .i64 (absI a b).lo, .int .i64 (absI a b).hi], .int .i64 (absI a b).e]) ∧ Ext w w' := by
  rw [absI_made]
  go_enter Try.func162, Try.ntmps162
  go_wp2_with (first | (go_at_call 26; (with_reducible refine (ref_check _ _ _).mono ?_); rintro e w1 ⟨rfl, hb⟩; obtain ⟨_, _, hc, hf⟩ := hb.cells2; have hz := hb.size; (try simp only [World.size_alloc] at hz hc hf)) | (go_at_call 117; (with_reducible refine (ref_made _ _ _).mono ?_); rintro e w1 ⟨rfl, hb⟩; obtain ⟨_, _, hc, hf⟩ := hb.cells2; have hz := hb.size; (try simp only [World.size_alloc, World.size_setCell] at hz hc hf)))
  all_goals
    refine bodyPost_ret (v := .tuple #[.agg #[.int .i64 (absR a b).lo, .int .i64 (absR a b).hi], .int .i64 (absR a b).e]) ?_ rfl ⟨rfl, ?_⟩
    · (try simp only [bne_iff_ne, ne_eq, bne_eq_false_iff_eq] at *)
      simp [results, Try.results162, go_sem, ↓IntWalk.iteOmega, absR, *]
    · repeat (first | with_reducible exact Ext.refl _ | with_reducible assumption | with_reducible refine Ext.alloc ?_ _ | with_reducible refine Ext.setCell ?_ (by (try simp only []); omega) _ | with_reducible refine Ext.drewN ?_ _ | with_reducible refine Ext.drew ?_ | with_reducible refine Ext.trans ?_ (by with_reducible assumption))

set_option maxRecDepth 100000 in
set_option maxHeartbeats 1000000 in
theorem ref_mul (a b c d : Int) (w : World) (ha : I64 a ∧ I64 b) (hc0 : I64 c ∧ I64 d) :
    Calls Try.prog 80 #[.agg #[.int .i64 a, .int .i64 b], .agg #[.int .i64 c, .int .i64 d]] w fun e w' => e = .returned (.tuple #[.agg #[.int .i64 (mulI a b c d).lo, .int .i64 (mulI a b c d).hi], .int .i64 (mulI a b c d).e]) ∧ Ext w w' := by
  obtain ⟨pa, pb⟩ := ha
  obtain ⟨pc, pd⟩ := hc0
  go_enter Try.func80, Try.ntmps80
  go_wp2_with (first | (go_at_call 116; (with_reducible refine (ref_both _ _ _ _ _).mono ?_); rintro e w1 ⟨rfl, hb⟩; obtain ⟨_, _, hc, hf⟩ := hb.cells2; have hz := hb.size; (try simp only [World.size_alloc] at hz hc hf)) | (go_at_call 122; (with_reducible refine (ref_ends _ _ _ _ _ ⟨by assumption, by assumption⟩ ⟨by assumption, by assumption⟩).mono ?_); rintro e w1 ⟨rfl, hb⟩; obtain ⟨_, _, hc, hf⟩ := hb.cells2; have hz := hb.size; (try simp only [World.size_alloc, World.size_setCell] at hz hc hf); (try have zz : w.heap.size < w1.heap.size ∧ (∀ j, w.heap.size < w1.heap.size + j) ∧ (¬ w.heap.size = w1.heap.size) ∧ (∀ j, ¬ w.heap.size = w1.heap.size + j) ∧ (¬ w1.heap.size = w.heap.size) ∧ (∀ j, ¬ w1.heap.size + j = w.heap.size) := (by refine ⟨?_, fun j => ?_, ?_, fun j => ?_, ?_, fun j => ?_⟩ <;> omega)); (try have zz : w.heap.size + 1 < w1.heap.size ∧ (∀ j, w.heap.size + 1 < w1.heap.size + j) ∧ (¬ w.heap.size + 1 = w1.heap.size) ∧ (∀ j, ¬ w.heap.size + 1 = w1.heap.size + j) ∧ (¬ w1.heap.size = w.heap.size + 1) ∧ (∀ j, ¬ w1.heap.size + j = w.heap.size + 1) := (by refine ⟨?_, fun j => ?_, ?_, fun j => ?_, ?_, fun j => ?_⟩ <;> omega)); (try have zz : w.heap.size + 1 + 1 < w1.heap.size ∧ (∀ j, w.heap.size + 1 + 1 < w1.heap.size + j) ∧ (¬ w.heap.size + 1 + 1 = w1.heap.size) ∧ (∀ j, ¬ w.heap.size + 1 + 1 = w1.heap.size + j) ∧ (¬ w1.heap.size = w.heap.size + 1 + 1) ∧ (∀ j, ¬ w1.heap.size + j = w.heap.size + 1 + 1) := (by refine ⟨?_, fun j => ?_, ?_, fun j => ?_, ?_, fun j => ?_⟩ <;> omega))))
  any_goals
    refine wp_name fun W hW => ?_
    obtain ⟨hWc, hWf, hWz⟩ := hW.cells
    have hWe : Ext w W := Ext.same hW (by repeat (first | with_reducible exact Ext.refl _ | with_reducible assumption | with_reducible refine Ext.alloc ?_ _ | with_reducible refine Ext.setCell ?_ (by (try simp only [World.size_alloc, World.size_setCell]); omega) _ | with_reducible refine Ext.drewN ?_ _ | with_reducible refine Ext.drew ?_ | with_reducible refine Ext.trans ?_ (by with_reducible assumption)))
    (try simp only [World.size_alloc] at hWz)
    go_region_held3 (fun w' => (∀ b o, b < W.heap.size → w'.cell? ⟨b, o, none⟩ = if b = w.heap.size + 1 + 1 ∧ 0 ≤ o ∧ o < 2 then (W.cell? ⟨b, o, none⟩).map (obx w' b o) else W.cell? ⟨b, o, none⟩) ∧ (∀ b o, b < W.heap.size → w'.frozen? ⟨b, o, none⟩ = W.frozen? ⟨b, o, none⟩) ∧ W.heap.size ≤ w'.heap.size ∧ Ext w w') (first | (with_reducible exact held0 hWe) | (with_reducible exact held1 (by with_reducible assumption) (by with_reducible assumption)) | (with_reducible exact held3 (by with_reducible assumption)) | ((with_reducible refine held4 (by with_reducible assumption) ?_ ?_) <;> omega) | (repeat (first | (with_reducible assumption) | (with_reducible refine held2 ?_ (by first | (refine Or.inl ⟨?_, ?_, ?_⟩ <;> (first | rfl | (dsimp only; omega))) | (refine Or.inr ?_; (try dsimp only); (try simp only [World.size_alloc, World.size_setCell]); omega)) (by (try dsimp only); (try simp only [World.size_alloc, World.size_setCell]); omega))))) ((first | (go_at_call 123; (with_reducible refine (ref_over _ _ _ _ (min4_bound pa pb pc pd).1 (min4_bound pa pb pc pd).2 (by decide) (by decide)).mono ?_); rintro e w2 ⟨rfl, hb2⟩; have hz2 := hb2.size; (try rw [size_drew] at hz2)) | (go_at_call 123; (with_reducible refine (ref_over _ _ _ _ (max4_bound pa pb pc pd).1 (max4_bound pa pb pc pd).2 (by decide) (by decide)).mono ?_); rintro e w2 ⟨rfl, hb2⟩; have hz2 := hb2.size; (try rw [size_drew] at hz2)) | (go_at_call 117; (with_reducible refine (ref_made _ _ _).mono ?_); rintro e w2 ⟨rfl, hb2⟩; have hz2 := hb2.size; (try rw [size_drew] at hz2))))
    rename_i hOld
    have hE := hOld.2.2.2
    have hO := And.intro hOld.1 (And.intro hOld.2.1 hOld.2.2.1)
    clear hOld
    replace hO := heldBack hO (by first | (refine Or.inl ⟨?_, ?_, ?_⟩ <;> (first | rfl | (dsimp only; omega))) | (refine Or.inr ?_; (try dsimp only); (try simp only [World.size_alloc, World.size_setCell]); omega))
    replace hO := heldBack hO (by first | (refine Or.inl ⟨?_, ?_, ?_⟩ <;> (first | rfl | (dsimp only; omega))) | (refine Or.inr ?_; (try dsimp only); (try simp only [World.size_alloc, World.size_setCell]); omega))
    obtain ⟨hOc, hOf, hOz⟩ := heldEnd hO
    clear hO
  any_goals go_wp2_with fail
  all_goals
    refine bodyPost_ret (v := .tuple #[.agg #[.int .i64 (mulI a b c d).lo, .int .i64 (mulI a b c d).hi], .int .i64 (mulI a b c d).e]) ?_ rfl ⟨rfl, ?_⟩
    · (try simp only [bne_iff_ne, ne_eq, bne_eq_false_iff_eq] at *)
      simp [results, Try.results80, go_sem, ↓IntWalk.iteOmega, mulI, ovS, *]
    · repeat (first | with_reducible exact Ext.refl _ | with_reducible assumption | with_reducible refine Ext.alloc ?_ _ | with_reducible refine Ext.setCell ?_ (by (try simp only []); omega) _ | with_reducible refine Ext.drewN ?_ _ | with_reducible refine Ext.drew ?_ | with_reducible refine Ext.trans ?_ (by with_reducible assumption))

set_option maxRecDepth 100000 in
set_option maxHeartbeats 1000000 in
theorem ref_sq (a b : Int) (w : World) (ha : I64 a) (hb0 : I64 b) :
    Calls Try.prog 124 #[.agg #[.int .i64 a, .int .i64 b]] w fun e w' => e = .returned (.tuple #[.agg #[.int .i64 (sqI a b).lo, .int .i64 (sqI a b).hi], .int .i64 (sqI a b).e]) ∧ Ext w w' := by
  obtain ⟨i1, i2⟩ := absI_I64 ha hb0
  rw [sqI_mul]
  go_enter Try.func124, Try.ntmps124
  go_wp2_with (first | (go_at_call 162; (with_reducible refine (ref_abs _ _ _).mono ?_); rintro e w1 ⟨rfl, hb⟩; obtain ⟨_, _, hc, hf⟩ := hb.cells2; have hz := hb.size; (try simp only [World.size_alloc] at hz hc hf)) | (go_at_call 80; (with_reducible refine (ref_mul _ _ _ _ _ ⟨by assumption, by assumption⟩ ⟨by assumption, by assumption⟩).mono ?_); rintro e w1 ⟨rfl, hb⟩; obtain ⟨_, _, hc, hf⟩ := hb.cells2; have hz := hb.size; (try simp only [World.size_alloc] at hz hc hf)))
  all_goals
    refine bodyPost_ret (v := .tuple #[.agg #[.int .i64 (sqR a b).lo, .int .i64 (sqR a b).hi], .int .i64 (sqR a b).e]) ?_ rfl ⟨rfl, ?_⟩
    · (try simp only [bne_iff_ne, ne_eq, bne_eq_false_iff_eq] at *)
      simp [results, Try.results124, go_sem, ↓IntWalk.iteOmega, sqR, *]
    · repeat (first | with_reducible exact Ext.refl _ | with_reducible assumption | with_reducible refine Ext.alloc ?_ _ | with_reducible refine Ext.setCell ?_ (by (try simp only []); omega) _ | with_reducible refine Ext.drewN ?_ _ | with_reducible refine Ext.drew ?_ | with_reducible refine Ext.trans ?_ (by with_reducible assumption))

end Go.Proofs.Ytomgcjeahkmhiaa
