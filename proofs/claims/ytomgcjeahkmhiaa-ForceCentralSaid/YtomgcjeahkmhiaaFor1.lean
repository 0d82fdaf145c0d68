/- force: the sheet. -/
import Derived.Test.YtomgcjeahkmhiaaSDiv
import Derived.Test.YtomgcjeahkmhiaaSphA
set_option linter.unusedSimpArgs false
set_option linter.unusedVariables false
namespace Go.Proofs.Ytomgcjeahkmhiaa
open Go.RowKit

def nz (E : Int) : Bool := decide (E ≠ 0)
theorem nz_true (E : Int) : nz E = true ↔ E ≠ 0 := by simp [nz]
theorem nz_false (E : Int) : nz E = false ↔ E = 0 := by simp [nz]
theorem nz_0 : nz 0 = false := rfl
set_option maxRecDepth 100000 in
set_option maxHeartbeats 1000000 in
theorem f_keep (p : Nat) (E x y ee : Int) (w : World) (hc : w.cell? ⟨p, 0, none⟩ = some (.bool (nz (E)))) (hf : w.frozen? ⟨p, 0, none⟩ = false) :
    Calls Try.prog 85 #[.pointer (some ⟨p, 0, none⟩), .agg #[.int .i64 x, .int .i64 y], .int .i64 ee] w fun e w' => e = .returned (.agg #[.int .i64 (kpI E x y ee).lo, .int .i64 (kpI E x y ee).hi]) ∧ Ext (w.setCell ⟨p, 0, none⟩ (.bool (nz ((kpI E x y ee).e)))) w' := by
  have hp : p < w.heap.size := World.block_lt_of_cell? w _ hc
  by_cases hE0 : E = 0
  · go_enter Try.func85, Try.ntmps85
    go_wp2_with fail
    all_goals
      (try simp only [nz_true, nz_false] at *)
      refine bodyPost_ret (v := .agg #[.int .i64 (kpI E x y ee).lo, .int .i64 (kpI E x y ee).hi]) ?_ rfl ⟨rfl, ?_⟩
      · (try simp only [bne_iff_ne, ne_eq, bne_eq_false_iff_eq, beq_iff_eq, beq_eq_false_iff_ne] at *)
        simp [results, Try.results85, go_sem, ↓IntWalk.iteOmega, kpI, nz, *]
      · refine ExtP.fin ?_ ?_ hp
        · (repeat (first | with_reducible refine ExtP.set ?_ | (with_reducible refine ExtP.store ?_ ?_; rotate_left; (focus ((try simp only [World.size_alloc, World.size_setCell]); omega))) | with_reducible refine ExtP.ext ?_ ((Ext.refl _).alloc _) | with_reducible refine ExtP.ext ?_ ((Ext.refl _).drew) | with_reducible assumption | with_reducible exact ExtP.of _ _ (Ext.refl w) | with_reducible refine ExtP.ext ?_ (by with_reducible assumption)))
        · (try simp only [bne_iff_ne, ne_eq, bne_eq_false_iff_eq, beq_iff_eq, beq_eq_false_iff_ne] at *)
          simp [go_sem, ↓IntWalk.iteOmega, kpI, nz, *]
  · go_enter Try.func85, Try.ntmps85
    go_wp2_with fail
    all_goals
      (try simp only [nz_true, nz_false] at *)
      refine bodyPost_ret (v := .agg #[.int .i64 (kpI E x y ee).lo, .int .i64 (kpI E x y ee).hi]) ?_ rfl ⟨rfl, ?_⟩
      · (try simp only [bne_iff_ne, ne_eq, bne_eq_false_iff_eq, beq_iff_eq, beq_eq_false_iff_ne] at *)
        simp [results, Try.results85, go_sem, ↓IntWalk.iteOmega, kpI, nz, *]
      · refine ExtP.fin ?_ ?_ hp
        · (repeat (first | with_reducible refine ExtP.set ?_ | (with_reducible refine ExtP.store ?_ ?_; rotate_left; (focus ((try simp only [World.size_alloc, World.size_setCell]); omega))) | with_reducible refine ExtP.ext ?_ ((Ext.refl _).alloc _) | with_reducible refine ExtP.ext ?_ ((Ext.refl _).drew) | with_reducible assumption | with_reducible exact ExtP.of _ _ (Ext.refl w) | with_reducible refine ExtP.ext ?_ (by with_reducible assumption)))
        · (try simp only [bne_iff_ne, ne_eq, bne_eq_false_iff_eq, beq_iff_eq, beq_eq_false_iff_ne] at *)
          simp [go_sem, ↓IntWalk.iteOmega, kpI, nz, *]

set_option maxRecDepth 100000 in
set_option maxHeartbeats 1000000 in
theorem f_sub (p : Nat) (E a b c d : Int) (w : World) (hc : w.cell? ⟨p, 0, none⟩ = some (.bool (nz (E)))) (hf : w.frozen? ⟨p, 0, none⟩ = false) :
    Calls Try.prog 93 #[.pointer (some ⟨p, 0, none⟩), .agg #[.int .i64 a, .int .i64 b], .agg #[.int .i64 c, .int .i64 d]] w fun e w' => e = .returned (.agg #[.int .i64 (doI E (subI a b c d)).lo, .int .i64 (doI E (subI a b c d)).hi]) ∧ Ext (w.setCell ⟨p, 0, none⟩ (.bool (nz ((doI E (subI a b c d)).e)))) w' := by
  have hp : p < w.heap.size := World.block_lt_of_cell? w _ hc
  rw [← kp_do (subI_Z _ _ _ _)]
  go_enter Try.func93, Try.ntmps93
  go_wp2_with (first | (go_at_call 38; (with_reducible refine (span_sub _ _ _ _ _).mono ?_); rintro e w1 ⟨rfl, hb⟩; obtain ⟨_, _, hc, hf⟩ := hb.cells2; have hz := hb.size; (try simp only [World.size_alloc, World.size_setCell] at hz hc hf)) | (go_at_call 85; (with_reducible refine (f_keep _ E _ _ _ _ (by simp [go_sem, ↓IntWalk.iteOmega, *]) (by simp [go_sem, ↓IntWalk.iteOmega, *])).mono ?_); rintro e w1 ⟨rfl, hb⟩; obtain ⟨_, _, hc, hf⟩ := hb.cells2; have hz := hb.size; (try simp only [World.size_alloc, World.size_setCell] at hz hc hf)))
  all_goals
    refine bodyPost_ret (v := .agg #[.int .i64 (kpI E (subI a b c d).lo (subI a b c d).hi (subI a b c d).e).lo, .int .i64 (kpI E (subI a b c d).lo (subI a b c d).hi (subI a b c d).e).hi]) ?_ rfl ⟨rfl, ?_⟩
    · (try simp only [bne_iff_ne, ne_eq, bne_eq_false_iff_eq, beq_iff_eq, beq_eq_false_iff_ne] at *)
      simp [results, Try.results93, go_sem, ↓IntWalk.iteOmega, kpI, *]
    · refine ExtP.fin ?_ ?_ hp
      · (repeat (first | with_reducible refine ExtP.set ?_ | (with_reducible refine ExtP.store ?_ ?_; rotate_left; (focus ((try simp only [World.size_alloc, World.size_setCell]); omega))) | with_reducible refine ExtP.ext ?_ ((Ext.refl _).alloc _) | with_reducible refine ExtP.ext ?_ ((Ext.refl _).drew) | with_reducible assumption | with_reducible exact ExtP.of _ _ (Ext.refl w) | with_reducible refine ExtP.ext ?_ (by with_reducible assumption)))
      · (try simp only [bne_iff_ne, ne_eq, bne_eq_false_iff_eq, beq_iff_eq, beq_eq_false_iff_ne] at *)
        simp [go_sem, ↓IntWalk.iteOmega, kpI, *]

set_option maxRecDepth 100000 in
set_option maxHeartbeats 1000000 in
theorem f_mul (p : Nat) (E a b c d : Int) (w : World) (hc : w.cell? ⟨p, 0, none⟩ = some (.bool (nz (E)))) (hf : w.frozen? ⟨p, 0, none⟩ = false) (ha : I64 a ∧ I64 b) (hc0 : I64 c ∧ I64 d) :
    Calls Try.prog 88 #[.pointer (some ⟨p, 0, none⟩), .agg #[.int .i64 a, .int .i64 b], .agg #[.int .i64 c, .int .i64 d]] w fun e w' => e = .returned (.agg #[.int .i64 (doI E (mulI a b c d)).lo, .int .i64 (doI E (mulI a b c d)).hi]) ∧ Ext (w.setCell ⟨p, 0, none⟩ (.bool (nz ((doI E (mulI a b c d)).e)))) w' := by
  have hp : p < w.heap.size := World.block_lt_of_cell? w _ hc
  rw [← kp_do (mulI_Z _ _ _ _)]
  go_enter Try.func88, Try.ntmps88
  go_wp2_with (first | (go_at_call 40; (with_reducible refine (span_mul _ _ _ _ _ ha hc0).mono ?_); rintro e w1 ⟨rfl, hb⟩; obtain ⟨_, _, hc, hf⟩ := hb.cells2; have hz := hb.size; (try simp only [World.size_alloc, World.size_setCell] at hz hc hf)) | (go_at_call 85; (with_reducible refine (f_keep _ E _ _ _ _ (by simp [go_sem, ↓IntWalk.iteOmega, *]) (by simp [go_sem, ↓IntWalk.iteOmega, *])).mono ?_); rintro e w1 ⟨rfl, hb⟩; obtain ⟨_, _, hc, hf⟩ := hb.cells2; have hz := hb.size; (try simp only [World.size_alloc, World.size_setCell] at hz hc hf)))
  all_goals
    refine bodyPost_ret (v := .agg #[.int .i64 (kpI E (mulI a b c d).lo (mulI a b c d).hi (mulI a b c d).e).lo, .int .i64 (kpI E (mulI a b c d).lo (mulI a b c d).hi (mulI a b c d).e).hi]) ?_ rfl ⟨rfl, ?_⟩
    · (try simp only [bne_iff_ne, ne_eq, bne_eq_false_iff_eq, beq_iff_eq, beq_eq_false_iff_ne] at *)
      simp [results, Try.results88, go_sem, ↓IntWalk.iteOmega, kpI, *]
    · refine ExtP.fin ?_ ?_ hp
      · (repeat (first | with_reducible refine ExtP.set ?_ | (with_reducible refine ExtP.store ?_ ?_; rotate_left; (focus ((try simp only [World.size_alloc, World.size_setCell]); omega))) | with_reducible refine ExtP.ext ?_ ((Ext.refl _).alloc _) | with_reducible refine ExtP.ext ?_ ((Ext.refl _).drew) | with_reducible assumption | with_reducible exact ExtP.of _ _ (Ext.refl w) | with_reducible refine ExtP.ext ?_ (by with_reducible assumption)))
      · (try simp only [bne_iff_ne, ne_eq, bne_eq_false_iff_eq, beq_iff_eq, beq_eq_false_iff_ne] at *)
        simp [go_sem, ↓IntWalk.iteOmega, kpI, *]

set_option maxRecDepth 100000 in
set_option maxHeartbeats 1000000 in
theorem f_div (p : Nat) (E a b c d : Int) (w : World) (hc : w.cell? ⟨p, 0, none⟩ = some (.bool (nz (E)))) (hf : w.frozen? ⟨p, 0, none⟩ = false) :
    Calls Try.prog 87 #[.pointer (some ⟨p, 0, none⟩), .agg #[.int .i64 a, .int .i64 b], .agg #[.int .i64 c, .int .i64 d]] w fun e w' => e = .returned (.agg #[.int .i64 (doI E (divI a b c d)).lo, .int .i64 (doI E (divI a b c d)).hi]) ∧ Ext (w.setCell ⟨p, 0, none⟩ (.bool (nz ((doI E (divI a b c d)).e)))) w' := by
  have hp : p < w.heap.size := World.block_lt_of_cell? w _ hc
  rw [← kp_do (divI_Z _ _ _ _)]
  go_enter Try.func87, Try.ntmps87
  go_wp2_with (first | (go_at_call 81; (with_reducible refine (span_div _ _ _ _ _).mono ?_); rintro e w1 ⟨rfl, hb⟩; obtain ⟨_, _, hc, hf⟩ := hb.cells2; have hz := hb.size; (try simp only [World.size_alloc, World.size_setCell] at hz hc hf)) | (go_at_call 85; (with_reducible refine (f_keep _ E _ _ _ _ (by simp [go_sem, ↓IntWalk.iteOmega, *]) (by simp [go_sem, ↓IntWalk.iteOmega, *])).mono ?_); rintro e w1 ⟨rfl, hb⟩; obtain ⟨_, _, hc, hf⟩ := hb.cells2; have hz := hb.size; (try simp only [World.size_alloc, World.size_setCell] at hz hc hf)))
  all_goals
    refine bodyPost_ret (v := .agg #[.int .i64 (kpI E (divI a b c d).lo (divI a b c d).hi (divI a b c d).e).lo, .int .i64 (kpI E (divI a b c d).lo (divI a b c d).hi (divI a b c d).e).hi]) ?_ rfl ⟨rfl, ?_⟩
    · (try simp only [bne_iff_ne, ne_eq, bne_eq_false_iff_eq, beq_iff_eq, beq_eq_false_iff_ne] at *)
      simp [results, Try.results87, go_sem, ↓IntWalk.iteOmega, kpI, *]
    · refine ExtP.fin ?_ ?_ hp
      · (repeat (first | with_reducible refine ExtP.set ?_ | (with_reducible refine ExtP.store ?_ ?_; rotate_left; (focus ((try simp only [World.size_alloc, World.size_setCell]); omega))) | with_reducible refine ExtP.ext ?_ ((Ext.refl _).alloc _) | with_reducible refine ExtP.ext ?_ ((Ext.refl _).drew) | with_reducible assumption | with_reducible exact ExtP.of _ _ (Ext.refl w) | with_reducible refine ExtP.ext ?_ (by with_reducible assumption)))
      · (try simp only [bne_iff_ne, ne_eq, bne_eq_false_iff_eq, beq_iff_eq, beq_eq_false_iff_ne] at *)
        simp [go_sem, ↓IntWalk.iteOmega, kpI, *]

end Go.Proofs.Ytomgcjeahkmhiaa
