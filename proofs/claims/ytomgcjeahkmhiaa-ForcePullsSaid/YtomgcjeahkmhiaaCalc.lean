/- planisphereref17: the calculator. -/
import Derived.Test.YtomgcjeahkmhiaaRefE
import Derived.Test.YtomgcjeahkmhiaaPtr
namespace Go.Proofs.Ytomgcjeahkmhiaa
open Go.RowKit

set_option maxRecDepth 100000 in
set_option maxHeartbeats 1000000 in
theorem c_keep (p : Nat) (E x y ee : Int) (w : World) (hc : w.cell? ⟨p, 0, none⟩ = some (.int .i64 E)) (hf : w.frozen? ⟨p, 0, none⟩ = false) :
    Calls Try.prog 72 #[.pointer (some ⟨p, 0, none⟩), .agg #[.int .i64 x, .int .i64 y], .int .i64 ee] w fun e w' => e = .returned (.agg #[.int .i64 (kpI E x y ee).lo, .int .i64 (kpI E x y ee).hi]) ∧ Ext (w.setCell ⟨p, 0, none⟩ (.int .i64 ((kpI E x y ee).e))) w' := by
  have hp : p < w.heap.size := World.block_lt_of_cell? w _ hc
  go_enter Try.func72, Try.ntmps72
  go_wp2_with fail
  all_goals
    refine bodyPost_ret (v := .agg #[.int .i64 (kpI E x y ee).lo, .int .i64 (kpI E x y ee).hi]) ?_ rfl ⟨rfl, ?_⟩
    · (try simp only [bne_iff_ne, ne_eq, bne_eq_false_iff_eq, beq_iff_eq, beq_eq_false_iff_ne] at *)
      simp [results, Try.results72, go_sem, kpI, *]
    · refine ExtP.fin ?_ ?_ hp
      · (repeat (first | with_reducible exact ExtP.of _ _ (Ext.refl _) | with_reducible assumption | with_reducible refine ExtP.set ?_ | (with_reducible refine ExtP.store ?_ ?_; rotate_left; (focus ((try simp only [World.size_alloc, World.size_setCell]); omega))) | with_reducible refine ExtP.ext ?_ ((Ext.refl _).alloc _) | with_reducible refine ExtP.ext ?_ ((Ext.refl _).drew) | with_reducible refine ExtP.ext ?_ (by with_reducible assumption)))
      · (try simp only [bne_iff_ne, ne_eq, bne_eq_false_iff_eq, beq_iff_eq, beq_eq_false_iff_ne] at *)
        simp [go_sem, kpI, *]

set_option maxRecDepth 100000 in
set_option maxHeartbeats 1000000 in
theorem c_add (p : Nat) (E a b c d : Int) (w : World) (hc : w.cell? ⟨p, 0, none⟩ = some (.int .i64 E)) (hf : w.frozen? ⟨p, 0, none⟩ = false) :
    Calls Try.prog 37 #[.pointer (some ⟨p, 0, none⟩), .agg #[.int .i64 a, .int .i64 b], .agg #[.int .i64 c, .int .i64 d]] w fun e w' => e = .returned (.agg #[.int .i64 (doI E (addI a b c d)).lo, .int .i64 (doI E (addI a b c d)).hi]) ∧ Ext (w.setCell ⟨p, 0, none⟩ (.int .i64 ((doI E (addI a b c d)).e))) w' := by
  have hp : p < w.heap.size := World.block_lt_of_cell? w _ hc
  rw [← kp_do (addI_Z _ _ _ _)]
  go_enter Try.func37, Try.ntmps37
  go_wp2_with (first | (go_at_call 73; (with_reducible refine (ref_add _ _ _ _ _).mono ?_); rintro e w1 ⟨rfl, hb⟩; obtain ⟨_, _, hc, hf⟩ := hb.cells2; have hz := hb.size; (try simp only [World.size_alloc] at hz hc hf)) | (go_at_call 72; (with_reducible refine (c_keep _ E _ _ _ _ (by simp [go_sem, ↓IntWalk.iteOmega, *]) (by simp [go_sem, ↓IntWalk.iteOmega, *])).mono ?_); rintro e w1 ⟨rfl, hb⟩; obtain ⟨_, _, hc, hf⟩ := hb.cells2; have hz := hb.size; (try simp only [World.size_setCell] at hz hc hf)))
  all_goals
    refine bodyPost_ret (v := .agg #[.int .i64 (kpI E (addI a b c d).lo (addI a b c d).hi (addI a b c d).e).lo, .int .i64 (kpI E (addI a b c d).lo (addI a b c d).hi (addI a b c d).e).hi]) ?_ rfl ⟨rfl, ?_⟩
    · (try simp only [] at *)
      simp [results, Try.results37, go_sem, ↓IntWalk.iteOmega, kpI, *]
    · refine ExtP.fin ?_ ?_ hp
      · (repeat (first | with_reducible exact ExtP.of _ _ (Ext.refl _) | with_reducible assumption | with_reducible refine ExtP.set ?_ | (with_reducible refine ExtP.store ?_ ?_; rotate_left; (focus ((try simp only []); omega))) | with_reducible refine ExtP.ext ?_ ((Ext.refl _).alloc _) | with_reducible refine ExtP.ext ?_ ((Ext.refl _).drew) | with_reducible refine ExtP.ext ?_ (by with_reducible assumption)))
      · (try simp only [bne_iff_ne, ne_eq, bne_eq_false_iff_eq, beq_iff_eq, beq_eq_false_iff_ne] at *)
        simp [go_sem, ↓IntWalk.iteOmega, kpI, *]

set_option maxRecDepth 100000 in
set_option maxHeartbeats 1000000 in
theorem c_sub (p : Nat) (E a b c d : Int) (w : World) (hc : w.cell? ⟨p, 0, none⟩ = some (.int .i64 E)) (hf : w.frozen? ⟨p, 0, none⟩ = false) :
    Calls Try.prog 39 #[.pointer (some ⟨p, 0, none⟩), .agg #[.int .i64 a, .int .i64 b], .agg #[.int .i64 c, .int .i64 d]] w fun e w' => e = .returned (.agg #[.int .i64 (doI E (subI a b c d)).lo, .int .i64 (doI E (subI a b c d)).hi]) ∧ Ext (w.setCell ⟨p, 0, none⟩ (.int .i64 ((doI E (subI a b c d)).e))) w' := by
  have hp : p < w.heap.size := World.block_lt_of_cell? w _ hc
  rw [← kp_do (subI_Z _ _ _ _)]
  go_enter Try.func39, Try.ntmps39
  go_wp2_with (first | (go_at_call 74; (with_reducible refine (ref_sub _ _ _ _ _).mono ?_); rintro e w1 ⟨rfl, hb⟩; obtain ⟨_, _, hc, hf⟩ := hb.cells2; have hz := hb.size; (try simp only [World.size_alloc] at hz hc hf)) | (go_at_call 72; (with_reducible refine (c_keep _ E _ _ _ _ (by simp [go_sem, ↓IntWalk.iteOmega, *]) (by simp [go_sem, ↓IntWalk.iteOmega, *])).mono ?_); rintro e w1 ⟨rfl, hb⟩; obtain ⟨_, _, hc, hf⟩ := hb.cells2; have hz := hb.size; (try simp only [World.size_setCell] at hz hc hf)))
  all_goals
    refine bodyPost_ret (v := .agg #[.int .i64 (kpI E (subI a b c d).lo (subI a b c d).hi (subI a b c d).e).lo, .int .i64 (kpI E (subI a b c d).lo (subI a b c d).hi (subI a b c d).e).hi]) ?_ rfl ⟨rfl, ?_⟩
    · (try simp only [] at *)
      simp [results, Try.results39, go_sem, ↓IntWalk.iteOmega, kpI, *]
    · refine ExtP.fin ?_ ?_ hp
      · (repeat (first | with_reducible exact ExtP.of _ _ (Ext.refl _) | with_reducible assumption | with_reducible refine ExtP.set ?_ | (with_reducible refine ExtP.store ?_ ?_; rotate_left; (focus ((try simp only []); omega))) | with_reducible refine ExtP.ext ?_ ((Ext.refl _).alloc _) | with_reducible refine ExtP.ext ?_ ((Ext.refl _).drew) | with_reducible refine ExtP.ext ?_ (by with_reducible assumption)))
      · (try simp only [bne_iff_ne, ne_eq, bne_eq_false_iff_eq, beq_iff_eq, beq_eq_false_iff_ne] at *)
        simp [go_sem, ↓IntWalk.iteOmega, kpI, *]

set_option maxRecDepth 100000 in
set_option maxHeartbeats 1000000 in
theorem c_mul (p : Nat) (E a b c d : Int) (w : World) (hc : w.cell? ⟨p, 0, none⟩ = some (.int .i64 E)) (hf : w.frozen? ⟨p, 0, none⟩ = false) (ha : I64 a ∧ I64 b) (hc0 : I64 c ∧ I64 d) :
    Calls Try.prog 41 #[.pointer (some ⟨p, 0, none⟩), .agg #[.int .i64 a, .int .i64 b], .agg #[.int .i64 c, .int .i64 d]] w fun e w' => e = .returned (.agg #[.int .i64 (doI E (mulI a b c d)).lo, .int .i64 (doI E (mulI a b c d)).hi]) ∧ Ext (w.setCell ⟨p, 0, none⟩ (.int .i64 ((doI E (mulI a b c d)).e))) w' := by
  have hp : p < w.heap.size := World.block_lt_of_cell? w _ hc
  rw [← kp_do (mulI_Z _ _ _ _)]
  go_enter Try.func41, Try.ntmps41
  go_wp2_with (first | (go_at_call 80; (with_reducible refine (ref_mul _ _ _ _ _ ha hc0).mono ?_); rintro e w1 ⟨rfl, hb⟩; obtain ⟨_, _, hc, hf⟩ := hb.cells2; have hz := hb.size; (try simp only [World.size_alloc] at hz hc hf)) | (go_at_call 72; (with_reducible refine (c_keep _ E _ _ _ _ (by simp [go_sem, ↓IntWalk.iteOmega, *]) (by simp [go_sem, ↓IntWalk.iteOmega, *])).mono ?_); rintro e w1 ⟨rfl, hb⟩; obtain ⟨_, _, hc, hf⟩ := hb.cells2; have hz := hb.size; (try simp only [World.size_setCell] at hz hc hf)))
  all_goals
    refine bodyPost_ret (v := .agg #[.int .i64 (kpI E (mulI a b c d).lo (mulI a b c d).hi (mulI a b c d).e).lo, .int .i64 (kpI E (mulI a b c d).lo (mulI a b c d).hi (mulI a b c d).e).hi]) ?_ rfl ⟨rfl, ?_⟩
    · (try simp only [] at *)
      simp [results, Try.results41, go_sem, ↓IntWalk.iteOmega, kpI, *]
    · refine ExtP.fin ?_ ?_ hp
      · (repeat (first | with_reducible exact ExtP.of _ _ (Ext.refl _) | with_reducible assumption | with_reducible refine ExtP.set ?_ | (with_reducible refine ExtP.store ?_ ?_; rotate_left; (focus ((try simp only []); omega))) | with_reducible refine ExtP.ext ?_ ((Ext.refl _).alloc _) | with_reducible refine ExtP.ext ?_ ((Ext.refl _).drew) | with_reducible refine ExtP.ext ?_ (by with_reducible assumption)))
      · (try simp only [bne_iff_ne, ne_eq, bne_eq_false_iff_eq, beq_iff_eq, beq_eq_false_iff_ne] at *)
        simp [go_sem, ↓IntWalk.iteOmega, kpI, *]

set_option maxRecDepth 100000 in
set_option maxHeartbeats 1000000 in
theorem c_sq (p : Nat) (E a b : Int) (w : World) (hc : w.cell? ⟨p, 0, none⟩ = some (.int .i64 E)) (hf : w.frozen? ⟨p, 0, none⟩ = false) (ha : I64 a) (hb0 : I64 b) :
    Calls Try.prog 83 #[.pointer (some ⟨p, 0, none⟩), .agg #[.int .i64 a, .int .i64 b]] w fun e w' => e = .returned (.agg #[.int .i64 (doI E (sqI a b)).lo, .int .i64 (doI E (sqI a b)).hi]) ∧ Ext (w.setCell ⟨p, 0, none⟩ (.int .i64 ((doI E (sqI a b)).e))) w' := by
  have hp : p < w.heap.size := World.block_lt_of_cell? w _ hc
  rw [← kp_do (sqI_Z _ _)]
  go_enter Try.func83, Try.ntmps83
  go_wp2_with (first | (go_at_call 124; (with_reducible refine (ref_sq _ _ _ ha hb0).mono ?_); rintro e w1 ⟨rfl, hb⟩; obtain ⟨_, _, hc, hf⟩ := hb.cells2; have hz := hb.size; (try simp only [World.size_alloc] at hz hc hf)) | (go_at_call 72; (with_reducible refine (c_keep _ E _ _ _ _ (by simp [go_sem, *]) (by simp [go_sem, *])).mono ?_); rintro e w1 ⟨rfl, hb⟩; obtain ⟨_, _, hc, hf⟩ := hb.cells2; have hz := hb.size; (try simp only [World.size_setCell] at hz hc hf)))
  all_goals
    refine bodyPost_ret (v := .agg #[.int .i64 (kpI E (sqI a b).lo (sqI a b).hi (sqI a b).e).lo, .int .i64 (kpI E (sqI a b).lo (sqI a b).hi (sqI a b).e).hi]) ?_ rfl ⟨rfl, ?_⟩
    · (try simp only [] at *)
      simp [results, Try.results83, go_sem, ↓IntWalk.iteOmega, kpI, *]
    · refine ExtP.fin ?_ ?_ hp
      · (repeat (first | with_reducible exact ExtP.of _ _ (Ext.refl _) | with_reducible assumption | with_reducible refine ExtP.set ?_ | (with_reducible refine ExtP.store ?_ ?_; rotate_left; (focus ((try simp only []); omega))) | with_reducible refine ExtP.ext ?_ ((Ext.refl _).alloc _) | with_reducible refine ExtP.ext ?_ ((Ext.refl _).drew) | with_reducible refine ExtP.ext ?_ (by with_reducible assumption)))
      · (try simp only [bne_iff_ne, ne_eq, bne_eq_false_iff_eq, beq_iff_eq, beq_eq_false_iff_ne] at *)
        simp [go_sem, ↓IntWalk.iteOmega, kpI, *]

end Go.Proofs.Ytomgcjeahkmhiaa
