/- planisphereref17: checks of vectors; results. -/
import Derived.Test.YtomgcjeahkmhiaaCalc
set_option linter.unusedSimpArgs false
set_option linter.unusedVariables false
namespace Go.Proofs.Ytomgcjeahkmhiaa
open Go.RowKit

set_option maxHeartbeats 1000000 in
theorem c_check (v : V3) (w : World) :
    Calls Try.prog 20 #[.agg #[.int .i64 v.a, .int .i64 v.b, .int .i64 v.c, .int .i64 v.d, .int .i64 v.e, .int .i64 v.f]] w fun e w' => e = .returned (.int .i64 (ckV v)) ∧ Ext w w' := by
  have l0 : IntKind.i64.wrap 0 = 0 := rfl
  have l1 : IntKind.i64.wrap 1 = 1 := rfl
  have l2 : IntKind.i64.wrap 2 = 2 := rfl
  have l3 : IntKind.i64.wrap 3 = 3 := rfl
  go_enter Try.func20, Try.ntmps20
  go_wp2_with fail
  refine wp_loop_rounds 4 ?_
  repeat
    any_goals
      rw [rounds_succ]
      go_wp2_with (first | (go_at_call 26; (with_reducible refine (ref_check _ _ _).mono ?_); rintro e w1 ⟨rfl, hb⟩; obtain ⟨_, _, hc, hf⟩ := hb.cells2; have hz := hb.size; (try simp only [World.size_alloc, World.size_setCell] at hz hc hf)))
  all_goals
    go_ret
    refine ⟨?_, ?_⟩
    · (try simp only [bne_iff_ne, ne_eq, bne_eq_false_iff_eq, beq_iff_eq, beq_eq_false_iff_ne] at *)
      first | (simp [ckV, ck2, *]; done) | (simp [ckV, ck2, *]; omega)
    · repeat (first | with_reducible exact Ext.refl _ | with_reducible assumption | with_reducible refine Ext.alloc ?_ _ | with_reducible refine Ext.setCell ?_ (by (try simp only [World.size_alloc, World.size_setCell]); omega) _ | with_reducible refine Ext.drewN ?_ _ | with_reducible refine Ext.drew ?_ | with_reducible refine Ext.trans ?_ (by with_reducible assumption))

set_option maxHeartbeats 1000000 in
theorem c_both (a b : V3) (w : World) :
    Calls Try.prog 35 #[.agg #[.int .i64 a.a, .int .i64 a.b, .int .i64 a.c, .int .i64 a.d, .int .i64 a.e, .int .i64 a.f], .agg #[.int .i64 b.a, .int .i64 b.b, .int .i64 b.c, .int .i64 b.d, .int .i64 b.e, .int .i64 b.f]] w fun e w' => e = .returned (.int .i64 (ck2V a b)) ∧ Ext w w' := by
  have l0 : IntKind.i64.wrap 0 = 0 := rfl
  have l1 : IntKind.i64.wrap 1 = 1 := rfl
  have l2 : IntKind.i64.wrap 2 = 2 := rfl
  have l3 : IntKind.i64.wrap 3 = 3 := rfl
  go_enter Try.func35, Try.ntmps35
  go_wp2_with (first | (go_at_call 20; (with_reducible refine (c_check a _).mono ?_); rintro e w1 ⟨rfl, hb⟩; obtain ⟨_, _, hc, hf⟩ := hb.cells2; have hz := hb.size; (try simp only [World.size_alloc, World.size_setCell] at hz hc hf)) | (go_at_call 20; (with_reducible refine (c_check b _).mono ?_); rintro e w1 ⟨rfl, hb⟩; obtain ⟨_, _, hc, hf⟩ := hb.cells2; have hz := hb.size; (try simp only [World.size_alloc, World.size_setCell] at hz hc hf)))
  all_goals
    go_ret
    refine ⟨?_, ?_⟩
    · (try simp only [bne_iff_ne, ne_eq, bne_eq_false_iff_eq, beq_iff_eq, beq_eq_false_iff_ne] at *)
      first | (simp [ck2V, *]; done) | (simp [ck2V, *]; omega)
    · repeat (first | with_reducible exact Ext.refl _ | with_reducible assumption | with_reducible refine Ext.alloc ?_ _ | with_reducible refine Ext.setCell ?_ (by (try simp only [World.size_alloc, World.size_setCell]); omega) _ | with_reducible refine Ext.drewN ?_ _ | with_reducible refine Ext.drew ?_ | with_reducible refine Ext.trans ?_ (by with_reducible assumption))

set_option maxRecDepth 100000 in
set_option maxHeartbeats 1000000 in
theorem c_vec (p : Nat) (E : Int) (v : V3) (w : World) (hc : w.cell? ⟨p, 0, none⟩ = some (.int .i64 E)) :
    Calls Try.prog 36 #[.pointer (some ⟨p, 0, none⟩), .agg #[.int .i64 v.a, .int .i64 v.b, .int .i64 v.c, .int .i64 v.d, .int .i64 v.e, .int .i64 v.f]] w fun e w' => e = .returned (.tuple #[.agg #[.int .i64 ((vecV E v).v).a, .int .i64 ((vecV E v).v).b, .int .i64 ((vecV E v).v).c, .int .i64 ((vecV E v).v).d, .int .i64 ((vecV E v).v).e, .int .i64 ((vecV E v).v).f], .int .i64 (vecV E v).e]) ∧ Ext w w' := by
  have hp : p < w.heap.size := World.block_lt_of_cell? w _ hc
  go_enter Try.func36, Try.ntmps36
  go_wp2_with fail
  any_goals go_region
  all_goals go_wp2_with fail
  all_goals
    refine bodyPost_ret (v := .tuple #[.agg #[.int .i64 ((vecV E v).v).a, .int .i64 ((vecV E v).v).b, .int .i64 ((vecV E v).v).c, .int .i64 ((vecV E v).v).d, .int .i64 ((vecV E v).v).e, .int .i64 ((vecV E v).v).f], .int .i64 (vecV E v).e]) ?_ rfl ⟨rfl, ?_⟩
    · (try simp only [bne_iff_ne, ne_eq, bne_eq_false_iff_eq, beq_iff_eq, beq_eq_false_iff_ne] at *)
      simp [results, Try.results36, go_sem, ↓IntWalk.iteOmega, vecV, V3.O, *]
    · repeat (first | with_reducible exact Ext.refl _ | with_reducible assumption | with_reducible refine Ext.alloc ?_ _ | with_reducible refine Ext.setCell ?_ (by (try simp only [World.size_alloc, World.size_setCell]); omega) _ | with_reducible refine Ext.drewN ?_ _ | with_reducible refine Ext.drew ?_ | with_reducible refine Ext.trans ?_ (by with_reducible assumption))

set_option maxRecDepth 100000 in
set_option maxHeartbeats 1000000 in
theorem c_iv (p : Nat) (E x y : Int) (w : World) (hc : w.cell? ⟨p, 0, none⟩ = some (.int .i64 E)) :
    Calls Try.prog 47 #[.pointer (some ⟨p, 0, none⟩), .agg #[.int .i64 x, .int .i64 y]] w fun e w' => e = .returned (.tuple #[.agg #[.int .i64 (doI E (R3.mk x y 0)).lo, .int .i64 (doI E (R3.mk x y 0)).hi], .int .i64 (doI E (R3.mk x y 0)).e]) ∧ Ext w w' := by
  have hp : p < w.heap.size := World.block_lt_of_cell? w _ hc
  go_enter Try.func47, Try.ntmps47
  go_wp2_with fail
  any_goals go_region
  all_goals go_wp2_with fail
  all_goals
    refine bodyPost_ret (v := .tuple #[.agg #[.int .i64 (doI E (R3.mk x y 0)).lo, .int .i64 (doI E (R3.mk x y 0)).hi], .int .i64 (doI E (R3.mk x y 0)).e]) ?_ rfl ⟨rfl, ?_⟩
    · (try simp only [bne_iff_ne, ne_eq, bne_eq_false_iff_eq, beq_iff_eq, beq_eq_false_iff_ne] at *)
      simp [results, Try.results47, go_sem, ↓IntWalk.iteOmega, doI, *]
    · repeat (first | with_reducible exact Ext.refl _ | with_reducible assumption | with_reducible refine Ext.alloc ?_ _ | with_reducible refine Ext.setCell ?_ (by (try simp only [World.size_alloc, World.size_setCell]); omega) _ | with_reducible refine Ext.drewN ?_ _ | with_reducible refine Ext.drew ?_ | with_reducible refine Ext.trans ?_ (by with_reducible assumption))

end Go.Proofs.Ytomgcjeahkmhiaa
