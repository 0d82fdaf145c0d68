/- planisphereref17: quotients, negatives. -/
import Derived.Test.YtomgcjeahkmhiaaRDiv
import Derived.Test.YtomgcjeahkmhiaaCalc3
set_option linter.unusedSimpArgs false
set_option linter.unusedVariables false
namespace Go.Proofs.Ytomgcjeahkmhiaa
open Go.RowKit

set_option maxRecDepth 100000 in
set_option maxHeartbeats 1000000 in
theorem c_div (p : Nat) (E a b c d : Int) (w : World) (hc : w.cell? ⟨p, 0, none⟩ = some (.int .i64 (E))) (hf : w.frozen? ⟨p, 0, none⟩ = false) :
    Calls Try.prog 91 #[.pointer (some ⟨p, 0, none⟩), .agg #[.int .i64 a, .int .i64 b], .agg #[.int .i64 c, .int .i64 d]] w fun e w' => e = .returned (.agg #[.int .i64 (doI E (divI a b c d)).lo, .int .i64 (doI E (divI a b c d)).hi]) ∧ Ext (w.setCell ⟨p, 0, none⟩ (.int .i64 ((doI E (divI a b c d)).e))) w' := by
  have hp : p < w.heap.size := World.block_lt_of_cell? w _ hc
  rw [← kp_do (divI_Z _ _ _ _)]
  go_enter Try.func91, Try.ntmps91
  go_wp2_with (first | (go_at_call 128; (with_reducible refine (ref_div _ _ _ _ _).mono ?_); rintro e w1 ⟨rfl, hb⟩; obtain ⟨_, _, hc, hf⟩ := hb.cells2; have hz := hb.size; (try simp only [World.size_alloc, World.size_setCell] at hz hc hf)) | (go_at_call 72; (with_reducible refine (c_keep _ E _ _ _ _ (by simp [go_sem, ↓IntWalk.iteOmega, *]) (by simp [go_sem, ↓IntWalk.iteOmega, *])).mono ?_); rintro e w1 ⟨rfl, hb⟩; obtain ⟨_, _, hc, hf⟩ := hb.cells2; have hz := hb.size; (try simp only [World.size_alloc, World.size_setCell] at hz hc hf)))
  all_goals
    refine bodyPost_ret (v := .agg #[.int .i64 (kpI E (divI a b c d).lo (divI a b c d).hi (divI a b c d).e).lo, .int .i64 (kpI E (divI a b c d).lo (divI a b c d).hi (divI a b c d).e).hi]) ?_ rfl ⟨rfl, ?_⟩
    · (try simp only [bne_iff_ne, ne_eq, bne_eq_false_iff_eq, beq_iff_eq, beq_eq_false_iff_ne] at *)
      simp [results, Try.results91, go_sem, ↓IntWalk.iteOmega, kpI, *]
    · refine ExtP.fin ?_ ?_ hp
      · (repeat (first | with_reducible refine ExtP.set ?_ | (with_reducible refine ExtP.store ?_ ?_; rotate_left; (focus ((try simp only [World.size_alloc, World.size_setCell]); omega))) | with_reducible refine ExtP.ext ?_ ((Ext.refl _).alloc _) | with_reducible refine ExtP.ext ?_ ((Ext.refl _).drew) | with_reducible assumption | with_reducible exact ExtP.of _ _ (Ext.refl w) | with_reducible refine ExtP.ext ?_ (by with_reducible assumption)))
      · (try simp only [bne_iff_ne, ne_eq, bne_eq_false_iff_eq, beq_iff_eq, beq_eq_false_iff_ne] at *)
        simp [go_sem, ↓IntWalk.iteOmega, kpI, *]

set_option maxRecDepth 100000 in
set_option maxHeartbeats 1000000 in
theorem c_neg (p : Nat) (E a b : Int) (w : World) (hc : w.cell? ⟨p, 0, none⟩ = some (.int .i64 (E))) (hf : w.frozen? ⟨p, 0, none⟩ = false) :
    Calls Try.prog 90 #[.pointer (some ⟨p, 0, none⟩), .agg #[.int .i64 a, .int .i64 b]] w fun e w' => e = .returned (.agg #[.int .i64 (doI E (negI a b)).lo, .int .i64 (doI E (negI a b)).hi]) ∧ Ext (w.setCell ⟨p, 0, none⟩ (.int .i64 ((doI E (negI a b)).e))) w' := by
  have hp : p < w.heap.size := World.block_lt_of_cell? w _ hc
  rw [← kp_do (negI_Z _ _)]
  go_enter Try.func90, Try.ntmps90
  go_wp2_with (first | (go_at_call 127; (with_reducible refine (ref_neg _ _ _).mono ?_); rintro e w1 ⟨rfl, hb⟩; obtain ⟨_, _, hc, hf⟩ := hb.cells2; have hz := hb.size; (try simp only [World.size_alloc, World.size_setCell] at hz hc hf)) | (go_at_call 72; (with_reducible refine (c_keep _ E _ _ _ _ (by simp [go_sem, ↓IntWalk.iteOmega, *]) (by simp [go_sem, ↓IntWalk.iteOmega, *])).mono ?_); rintro e w1 ⟨rfl, hb⟩; obtain ⟨_, _, hc, hf⟩ := hb.cells2; have hz := hb.size; (try simp only [World.size_alloc, World.size_setCell] at hz hc hf)))
  all_goals
    refine bodyPost_ret (v := .agg #[.int .i64 (kpI E (negI a b).lo (negI a b).hi (negI a b).e).lo, .int .i64 (kpI E (negI a b).lo (negI a b).hi (negI a b).e).hi]) ?_ rfl ⟨rfl, ?_⟩
    · (try simp only [bne_iff_ne, ne_eq, bne_eq_false_iff_eq, beq_iff_eq, beq_eq_false_iff_ne] at *)
      simp [results, Try.results90, go_sem, ↓IntWalk.iteOmega, kpI, *]
    · refine ExtP.fin ?_ ?_ hp
      · (repeat (first | with_reducible refine ExtP.set ?_ | (with_reducible refine ExtP.store ?_ ?_; rotate_left; (focus ((try simp only [World.size_alloc, World.size_setCell]); omega))) | with_reducible refine ExtP.ext ?_ ((Ext.refl _).alloc _) | with_reducible refine ExtP.ext ?_ ((Ext.refl _).drew) | with_reducible assumption | with_reducible exact ExtP.of _ _ (Ext.refl w) | with_reducible refine ExtP.ext ?_ (by with_reducible assumption)))
      · (try simp only [bne_iff_ne, ne_eq, bne_eq_false_iff_eq, beq_iff_eq, beq_eq_false_iff_ne] at *)
        simp [go_sem, ↓IntWalk.iteOmega, kpI, *]

set_option maxRecDepth 100000 in
set_option maxHeartbeats 1000000 in
theorem c_keepr (p : Nat) (E : Int) (r : R3) (w : World) (hc : w.cell? ⟨p, 0, none⟩ = some (.int .i64 (E))) (hf : w.frozen? ⟨p, 0, none⟩ = false) (hZ : r.Z) :
    Calls Try.prog 72 #[.pointer (some ⟨p, 0, none⟩), .agg #[.int .i64 r.lo, .int .i64 r.hi], .int .i64 r.e] w fun e w' => e = .returned (.agg #[.int .i64 (doI E r).lo, .int .i64 (doI E r).hi]) ∧ Ext (w.setCell ⟨p, 0, none⟩ (.int .i64 ((doI E r).e))) w' := by
  have hp : p < w.heap.size := World.block_lt_of_cell? w _ hc
  rw [← kp_do hZ]; exact c_keep p E r.lo r.hi r.e w hc hf
end Go.Proofs.Ytomgcjeahkmhiaa
