/- sphere: checks, the sheet. -/
import Derived.Test.YtomgcjeahkmhiaaSpanD
import Derived.Test.YtomgcjeahkmhiaaPtr
import Derived.Test.YtomgcjeahkmhiaaSph
namespace Go.Proofs.Ytomgcjeahkmhiaa
open Go.RowKit

set_option maxHeartbeats 1000000 in
theorem s_check1 (a b : Int) (w : World) :
    Calls Try.prog 52 #[.agg #[.int .i64 a, .int .i64 b]] w fun e w' => e = .returned (.int .i64 (ckI a b)) ∧ Ext w w' := by
  have l0 : IntKind.i64.wrap 0 = 0 := rfl
  have l1 : IntKind.i64.wrap 1 = 1 := rfl
  have l2 : IntKind.i64.wrap 2 = 2 := rfl
  have l3 : IntKind.i64.wrap 3 = 3 := rfl
  go_enter Try.func52, Try.ntmps52
  go_wp2_with (first | (go_at_call 60; (with_reducible refine (check_1 _ _ _ _ (by first | rfl | simp)).mono ?_); rintro e w1 ⟨rfl, hb⟩; obtain ⟨_, _, hc, hf⟩ := hb.cells2; have hz := hb.size; (try simp only [World.size_alloc] at hz hc hf)))
  all_goals
    go_ret
    refine ⟨?_, ?_⟩
    · (try simp only [] at *)
      first | (simp [ckI, *]; done) | (simp [ckI, *]; omega)
    · repeat (first | with_reducible exact Ext.refl _ | with_reducible assumption | with_reducible refine Ext.alloc ?_ _ | with_reducible refine Ext.setCell ?_ (by (try simp only [World.size_alloc, World.size_setCell]); omega) _ | with_reducible refine Ext.drewN ?_ _ | with_reducible refine Ext.drew ?_ | with_reducible refine Ext.trans ?_ (by with_reducible assumption))

set_option maxHeartbeats 1000000 in
theorem s_check (v : V3) (w : World) :
    Calls Try.prog 19 #[.agg #[.int .i64 v.a, .int .i64 v.b, .int .i64 v.c, .int .i64 v.d, .int .i64 v.e, .int .i64 v.f]] w fun e w' => e = .returned (.int .i64 (ckV v)) ∧ Ext w w' := by
  have l0 : IntKind.i64.wrap 0 = 0 := rfl
  have l1 : IntKind.i64.wrap 1 = 1 := rfl
  have l2 : IntKind.i64.wrap 2 = 2 := rfl
  have l3 : IntKind.i64.wrap 3 = 3 := rfl
  go_enter Try.func19, Try.ntmps19
  go_wp2_with fail
  refine wp_loop_rounds 4 ?_
  repeat
    any_goals
      rw [rounds_succ]
      go_wp2_with (first | (go_at_call 52; (with_reducible refine (s_check1 _ _ _).mono ?_); rintro e w1 ⟨rfl, hb⟩; obtain ⟨_, _, hc, hf⟩ := hb.cells2; have hz := hb.size; (try simp only [World.size_alloc] at hz hc hf)))
  all_goals
    go_ret
    refine ⟨?_, ?_⟩
    · (try simp only [bne_iff_ne, ne_eq, bne_eq_false_iff_eq] at *)
      first | (simp [ckV, ck2, *]; done) | (simp [ckV, ck2, *]; omega)
    · repeat (first | with_reducible exact Ext.refl _ | with_reducible assumption | with_reducible refine Ext.alloc ?_ _ | with_reducible refine Ext.setCell ?_ (by (try simp only [World.size_alloc, World.size_setCell]); omega) _ | with_reducible refine Ext.drewN ?_ _ | with_reducible refine Ext.drew ?_ | with_reducible refine Ext.trans ?_ (by with_reducible assumption))

set_option maxHeartbeats 1000000 in
theorem s_look (a b : V3) (w : World) :
    Calls Try.prog 42 #[.agg #[.int .i64 a.a, .int .i64 a.b, .int .i64 a.c, .int .i64 a.d, .int .i64 a.e, .int .i64 a.f], .agg #[.int .i64 b.a, .int .i64 b.b, .int .i64 b.c, .int .i64 b.d, .int .i64 b.e, .int .i64 b.f]] w fun e w' => e = .returned (.int .i64 (ck2V a b)) ∧ Ext w w' := by
  have l0 : IntKind.i64.wrap 0 = 0 := rfl
  have l1 : IntKind.i64.wrap 1 = 1 := rfl
  have l2 : IntKind.i64.wrap 2 = 2 := rfl
  have l3 : IntKind.i64.wrap 3 = 3 := rfl
  go_enter Try.func42, Try.ntmps42
  go_wp2_with (first | (go_at_call 19; (with_reducible refine (s_check a _).mono ?_); rintro e w1 ⟨rfl, hb⟩; obtain ⟨_, _, hc, hf⟩ := hb.cells2; have hz := hb.size; (try simp only [World.size_alloc] at hz hc hf)) | (go_at_call 19; (with_reducible refine (s_check b _).mono ?_); rintro e w1 ⟨rfl, hb⟩; obtain ⟨_, _, hc, hf⟩ := hb.cells2; have hz := hb.size; (try simp only [World.size_alloc, World.size_setCell] at hz hc hf)))
  all_goals
    go_ret
    refine ⟨?_, ?_⟩
    · (try simp only [bne_iff_ne, ne_eq, bne_eq_false_iff_eq] at *)
      first | (simp [ck2V, *]; done) | (simp [ck2V, *]; omega)
    · repeat (first | with_reducible exact Ext.refl _ | with_reducible assumption | with_reducible refine Ext.alloc ?_ _ | with_reducible refine Ext.setCell ?_ (by (try simp only [World.size_alloc, World.size_setCell]); omega) _ | with_reducible refine Ext.drewN ?_ _ | with_reducible refine Ext.drew ?_ | with_reducible refine Ext.trans ?_ (by with_reducible assumption))

set_option maxHeartbeats 1000000 in
theorem s_nsq (a b c d : Int) (w : World) (ha : I64 a ∧ I64 b) :
    Calls Try.prog 49 #[.agg #[.int .i64 a, .int .i64 b], .agg #[.int .i64 c, .int .i64 d]] w fun e w' => e = .returned (.tuple #[.agg #[.int .i64 (sqI a b).lo, .int .i64 (sqI a b).hi], .int .i64 (sqI a b).e]) ∧ Ext w w' := by
  go_enter Try.func49, Try.ntmps49
  go_wp2_with (first | (go_at_call 50; (with_reducible refine (span_sq _ _ _ ha.1 ha.2).mono ?_); rintro e w1 ⟨rfl, hb⟩; obtain ⟨_, _, hc, hf⟩ := hb.cells2; have hz := hb.size; (try simp only [World.size_alloc] at hz hc hf)))
  all_goals
    refine bodyPost_ret (v := .tuple #[.agg #[.int .i64 (sqI a b).lo, .int .i64 (sqI a b).hi], .int .i64 (sqI a b).e]) ?_ rfl ⟨rfl, ?_⟩
    · (try simp only [] at *)
      simp [results, Try.results49, go_sem, *]
    · repeat (first | with_reducible exact Ext.refl _ | with_reducible assumption | with_reducible refine Ext.alloc ?_ _ | with_reducible refine Ext.setCell ?_ (by (try simp only []); omega) _ | with_reducible refine Ext.drewN ?_ _ | with_reducible refine Ext.drew ?_ | with_reducible refine Ext.trans ?_ (by with_reducible assumption))

theorem s_begin (w : World) :
    Calls Try.prog 43 #[] w fun e w' => e = .returned (.pointer (some ⟨w.heap.size, 0, none⟩)) ∧ w' = w.alloc (.cells #[.func (.func 29) #[] #[], .func (.func 38) #[] #[], .func (.func 40) #[] #[], .func (.func 81) #[] #[], .int .i64 0] 81) := by
  go_enter Try.func43, Try.ntmps43
  go_wp2_with fail
  all_goals go_ret
  exact ⟨rfl, rfl⟩

set_option maxRecDepth 100000 in
set_option maxHeartbeats 1000000 in
theorem d_add (p : Nat) (E a b c d : Int) (w : World) (hc : w.cell? ⟨p, 4, none⟩ = some (.int .i64 E)) (hf : w.frozen? ⟨p, 4, none⟩ = false) :
    Calls Try.prog 44 #[.pointer (some ⟨p, 0, none⟩), .func (.func 29) #[] #[], .agg #[.int .i64 a, .int .i64 b], .agg #[.int .i64 c, .int .i64 d]] w fun e w' => e = .returned (.agg #[.int .i64 (doI E (addI a b c d)).lo, .int .i64 (doI E (addI a b c d)).hi]) ∧ Ext (w.setCell ⟨p, 4, none⟩ (.int .i64 ((doI E (addI a b c d)).e))) w' := by
  have hp : p < w.heap.size := World.block_lt_of_cell? w _ hc
  go_enter Try.func44, Try.ntmps44
  go_wp2_with (first | (go_at_call 29; (with_reducible refine (span_add _ _ _ _ _).mono ?_); rintro e w1 ⟨rfl, hb⟩; obtain ⟨_, _, hc, hf⟩ := hb.cells2; have hz := hb.size; (try simp only [World.size_alloc] at hz hc hf)))
  all_goals
    refine bodyPost_ret (v := .agg #[.int .i64 (doI E (addI a b c d)).lo, .int .i64 (doI E (addI a b c d)).hi]) ?_ rfl ⟨rfl, ?_⟩
    · (try simp only [bne_iff_ne, ne_eq, bne_eq_false_iff_eq] at *)
      simp [results, Try.results44, go_sem, ↓IntWalk.iteOmega, doI, *]
    · refine ExtP.fin ?_ ?_ hp
      · (repeat (first | with_reducible refine ExtP.set ?_ | (with_reducible refine ExtP.store ?_ ?_; rotate_left; (focus ((try simp only []); omega))) | with_reducible refine ExtP.ext ?_ ((Ext.refl _).alloc _) | with_reducible refine ExtP.ext ?_ ((Ext.refl _).drew) | with_reducible assumption | with_reducible exact ExtP.of _ _ (Ext.refl w) | with_reducible refine ExtP.ext ?_ (by with_reducible assumption)))
      · (try simp only [bne_iff_ne, ne_eq, bne_eq_false_iff_eq] at *)
        simp [go_sem, ↓IntWalk.iteOmega, doI, *]

set_option maxRecDepth 100000 in
set_option maxHeartbeats 1000000 in
theorem d_sub (p : Nat) (E a b c d : Int) (w : World) (hc : w.cell? ⟨p, 4, none⟩ = some (.int .i64 E)) (hf : w.frozen? ⟨p, 4, none⟩ = false) :
    Calls Try.prog 44 #[.pointer (some ⟨p, 0, none⟩), .func (.func 38) #[] #[], .agg #[.int .i64 a, .int .i64 b], .agg #[.int .i64 c, .int .i64 d]] w fun e w' => e = .returned (.agg #[.int .i64 (doI E (subI a b c d)).lo, .int .i64 (doI E (subI a b c d)).hi]) ∧ Ext (w.setCell ⟨p, 4, none⟩ (.int .i64 ((doI E (subI a b c d)).e))) w' := by
  have hp : p < w.heap.size := World.block_lt_of_cell? w _ hc
  go_enter Try.func44, Try.ntmps44
  go_wp2_with (first | (go_at_call 38; (with_reducible refine (span_sub _ _ _ _ _).mono ?_); rintro e w1 ⟨rfl, hb⟩; obtain ⟨_, _, hc, hf⟩ := hb.cells2; have hz := hb.size; (try simp only [World.size_alloc] at hz hc hf)))
  all_goals
    refine bodyPost_ret (v := .agg #[.int .i64 (doI E (subI a b c d)).lo, .int .i64 (doI E (subI a b c d)).hi]) ?_ rfl ⟨rfl, ?_⟩
    · (try simp only [bne_iff_ne, ne_eq, bne_eq_false_iff_eq] at *)
      simp [results, Try.results44, go_sem, ↓IntWalk.iteOmega, doI, *]
    · refine ExtP.fin ?_ ?_ hp
      · (repeat (first | with_reducible refine ExtP.set ?_ | (with_reducible refine ExtP.store ?_ ?_; rotate_left; (focus ((try simp only []); omega))) | with_reducible refine ExtP.ext ?_ ((Ext.refl _).alloc _) | with_reducible refine ExtP.ext ?_ ((Ext.refl _).drew) | with_reducible assumption | with_reducible exact ExtP.of _ _ (Ext.refl w) | with_reducible refine ExtP.ext ?_ (by with_reducible assumption)))
      · (try simp only [bne_iff_ne, ne_eq, bne_eq_false_iff_eq] at *)
        simp [go_sem, ↓IntWalk.iteOmega, doI, *]

set_option maxRecDepth 100000 in
set_option maxHeartbeats 1000000 in
theorem d_mul (p : Nat) (E a b c d : Int) (w : World) (hc : w.cell? ⟨p, 4, none⟩ = some (.int .i64 E)) (hf : w.frozen? ⟨p, 4, none⟩ = false) (ha : I64 a ∧ I64 b) (hc0 : I64 c ∧ I64 d) :
    Calls Try.prog 44 #[.pointer (some ⟨p, 0, none⟩), .func (.func 40) #[] #[], .agg #[.int .i64 a, .int .i64 b], .agg #[.int .i64 c, .int .i64 d]] w fun e w' => e = .returned (.agg #[.int .i64 (doI E (mulI a b c d)).lo, .int .i64 (doI E (mulI a b c d)).hi]) ∧ Ext (w.setCell ⟨p, 4, none⟩ (.int .i64 ((doI E (mulI a b c d)).e))) w' := by
  have hp : p < w.heap.size := World.block_lt_of_cell? w _ hc
  go_enter Try.func44, Try.ntmps44
  go_wp2_with (first | (go_at_call 40; (with_reducible refine (span_mul _ _ _ _ _ ha hc0).mono ?_); rintro e w1 ⟨rfl, hb⟩; obtain ⟨_, _, hc, hf⟩ := hb.cells2; have hz := hb.size; (try simp only [World.size_alloc] at hz hc hf)))
  all_goals
    refine bodyPost_ret (v := .agg #[.int .i64 (doI E (mulI a b c d)).lo, .int .i64 (doI E (mulI a b c d)).hi]) ?_ rfl ⟨rfl, ?_⟩
    · (try simp only [bne_iff_ne, ne_eq, bne_eq_false_iff_eq] at *)
      simp [results, Try.results44, go_sem, ↓IntWalk.iteOmega, doI, *]
    · refine ExtP.fin ?_ ?_ hp
      · (repeat (first | with_reducible refine ExtP.set ?_ | (with_reducible refine ExtP.store ?_ ?_; rotate_left; (focus ((try simp only []); omega))) | with_reducible refine ExtP.ext ?_ ((Ext.refl _).alloc _) | with_reducible refine ExtP.ext ?_ ((Ext.refl _).drew) | with_reducible assumption | with_reducible exact ExtP.of _ _ (Ext.refl w) | with_reducible refine ExtP.ext ?_ (by with_reducible assumption)))
      · (try simp only [bne_iff_ne, ne_eq, bne_eq_false_iff_eq] at *)
        simp [go_sem, ↓IntWalk.iteOmega, doI, *]

set_option maxRecDepth 100000 in
set_option maxHeartbeats 1000000 in
theorem d_sq (p : Nat) (E a b c d : Int) (w : World) (hc : w.cell? ⟨p, 4, none⟩ = some (.int .i64 E)) (hf : w.frozen? ⟨p, 4, none⟩ = false) (ha : I64 a ∧ I64 b) :
    Calls Try.prog 44 #[.pointer (some ⟨p, 0, none⟩), .func (.func 49) #[] #[], .agg #[.int .i64 a, .int .i64 b], .agg #[.int .i64 c, .int .i64 d]] w fun e w' => e = .returned (.agg #[.int .i64 (doI E (sqI a b)).lo, .int .i64 (doI E (sqI a b)).hi]) ∧ Ext (w.setCell ⟨p, 4, none⟩ (.int .i64 ((doI E (sqI a b)).e))) w' := by
  have hp : p < w.heap.size := World.block_lt_of_cell? w _ hc
  go_enter Try.func44, Try.ntmps44
  go_wp2_with (first | (go_at_call 49; (with_reducible refine (s_nsq _ _ _ _ _ ha).mono ?_); rintro e w1 ⟨rfl, hb⟩; obtain ⟨_, _, hc, hf⟩ := hb.cells2; have hz := hb.size; (try simp only [World.size_alloc] at hz hc hf)))
  all_goals
    refine bodyPost_ret (v := .agg #[.int .i64 (doI E (sqI a b)).lo, .int .i64 (doI E (sqI a b)).hi]) ?_ rfl ⟨rfl, ?_⟩
    · (try simp only [bne_iff_ne, ne_eq, bne_eq_false_iff_eq] at *)
      simp [results, Try.results44, go_sem, ↓IntWalk.iteOmega, doI, *]
    · refine ExtP.fin ?_ ?_ hp
      · (repeat (first | with_reducible refine ExtP.set ?_ | (with_reducible refine ExtP.store ?_ ?_; rotate_left; (focus ((try simp only []); omega))) | with_reducible refine ExtP.ext ?_ ((Ext.refl _).alloc _) | with_reducible refine ExtP.ext ?_ ((Ext.refl _).drew) | with_reducible assumption | with_reducible exact ExtP.of _ _ (Ext.refl w) | with_reducible refine ExtP.ext ?_ (by with_reducible assumption)))
      · (try simp only [bne_iff_ne, ne_eq, bne_eq_false_iff_eq] at *)
        simp [go_sem, ↓IntWalk.iteOmega, doI, *]

set_option maxRecDepth 100000 in
set_option maxHeartbeats 1000000 in
theorem s_vec (p : Nat) (E : Int) (v : V3) (w : World) (hc : w.cell? ⟨p, 4, none⟩ = some (.int .i64 E)) :
    Calls Try.prog 45 #[.pointer (some ⟨p, 0, none⟩), .agg #[.int .i64 v.a, .int .i64 v.b, .int .i64 v.c, .int .i64 v.d, .int .i64 v.e, .int .i64 v.f]] w fun e w' => e = .returned (.tuple #[.agg #[.int .i64 ((vecV E v).v).a, .int .i64 ((vecV E v).v).b, .int .i64 ((vecV E v).v).c, .int .i64 ((vecV E v).v).d, .int .i64 ((vecV E v).v).e, .int .i64 ((vecV E v).v).f], .int .i64 (vecV E v).e]) ∧ Ext w w' := by
  have hp : p < w.heap.size := World.block_lt_of_cell? w _ hc
  go_enter Try.func45, Try.ntmps45
  go_wp2_with fail
  any_goals go_region
  all_goals go_wp2_with fail
  all_goals
    refine bodyPost_ret (v := .tuple #[.agg #[.int .i64 ((vecV E v).v).a, .int .i64 ((vecV E v).v).b, .int .i64 ((vecV E v).v).c, .int .i64 ((vecV E v).v).d, .int .i64 ((vecV E v).v).e, .int .i64 ((vecV E v).v).f], .int .i64 (vecV E v).e]) ?_ rfl ⟨rfl, ?_⟩
    · (try simp only [bne_iff_ne, ne_eq, bne_eq_false_iff_eq] at *)
      simp [results, Try.results45, go_sem, vecV, V3.O, *]
    · repeat (first | with_reducible exact Ext.refl _ | with_reducible assumption | with_reducible refine Ext.alloc ?_ _ | with_reducible refine Ext.setCell ?_ (by (try simp only [World.size_alloc, World.size_setCell]); omega) _ | with_reducible refine Ext.drewN ?_ _ | with_reducible refine Ext.drew ?_ | with_reducible refine Ext.trans ?_ (by with_reducible assumption))

theorem s_vec6 (p : Nat) (E x0 x1 x2 x3 x4 x5 : Int) (w : World) (hc : w.cell? ⟨p, 4, none⟩ = some (.int .i64 E)) :
    Calls Try.prog 45 #[.pointer (some ⟨p, 0, none⟩), .agg #[.int .i64 x0, .int .i64 x1, .int .i64 x2, .int .i64 x3, .int .i64 x4, .int .i64 x5]] w fun e w' => e = .returned (.tuple #[.agg #[.int .i64 ((vecV E ⟨x0, x1, x2, x3, x4, x5⟩).v).a, .int .i64 ((vecV E ⟨x0, x1, x2, x3, x4, x5⟩).v).b, .int .i64 ((vecV E ⟨x0, x1, x2, x3, x4, x5⟩).v).c, .int .i64 ((vecV E ⟨x0, x1, x2, x3, x4, x5⟩).v).d, .int .i64 ((vecV E ⟨x0, x1, x2, x3, x4, x5⟩).v).e, .int .i64 ((vecV E ⟨x0, x1, x2, x3, x4, x5⟩).v).f], .int .i64 (vecV E ⟨x0, x1, x2, x3, x4, x5⟩).e]) ∧ Ext w w' := s_vec p E ⟨x0, x1, x2, x3, x4, x5⟩ w hc

end Go.Proofs.Ytomgcjeahkmhiaa
