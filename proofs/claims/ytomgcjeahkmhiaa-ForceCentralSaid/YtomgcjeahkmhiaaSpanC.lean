/- span: the checks. -/
import Derived.Test.YtomgcjeahkmhiaaSpanB
namespace Go.Proofs.Ytomgcjeahkmhiaa
open Go.RowKit

set_option maxHeartbeats 1000000 in
theorem check_2 (a b c d : Int) (n : Nat) (w : World) (hn : n = w.heap.size) :
    Calls Try.prog 60 #[.slice (some ⟨n, 0, none⟩) 2 2] (w.alloc (.cells #[.int .i64 a, .int .i64 b, .int .i64 c, .int .i64 d] 23)) fun e w' => e = .returned (.int .i64 (ck2 a b c d)) ∧ Ext (w.alloc (.cells #[.int .i64 a, .int .i64 b, .int .i64 c, .int .i64 d] 23)) w' := by
  subst hn
  go_enter Try.func60, Try.ntmps60
  go_wp2
  refine wp_loop_rounds 3 ?_
  repeat
    any_goals
      rw [rounds_succ]
      go_wp2
  all_goals
    go_ret
    refine ⟨?_, ?_⟩
    · first | (simp [ck2, ckI, *]; done) | (simp [ck2, ckI, *]; omega)
    · repeat (first | exact Ext.refl _ | with_reducible assumption | refine Ext.alloc ?_ _ | refine Ext.setCell ?_ (by (try simp only [World.size_alloc, World.size_setCell]); omega) _ | refine Ext.drewN ?_ _ | refine Ext.drew ?_ | refine Ext.trans ?_ (by with_reducible assumption))

set_option maxHeartbeats 1000000 in
theorem check_1 (a b : Int) (n : Nat) (w : World) (hn : n = w.heap.size) :
    Calls Try.prog 60 #[.slice (some ⟨n, 0, none⟩) 1 1] (w.alloc (.cells #[.int .i64 a, .int .i64 b] 23)) fun e w' => e = .returned (.int .i64 (ckI a b)) ∧ Ext (w.alloc (.cells #[.int .i64 a, .int .i64 b] 23)) w' := by
  subst hn
  go_enter Try.func60, Try.ntmps60
  go_wp2
  refine wp_loop_rounds 2 ?_
  repeat
    any_goals
      rw [rounds_succ]
      go_wp2
  all_goals
    go_ret
    refine ⟨?_, ?_⟩
    · first | (simp [ckI, *]; done) | (simp [ckI, *]; omega)
    · repeat (first | exact Ext.refl _ | with_reducible assumption | refine Ext.alloc ?_ _ | refine Ext.setCell ?_ (by (try simp only [World.size_alloc, World.size_setCell]); omega) _ | refine Ext.drewN ?_ _ | refine Ext.drew ?_ | refine Ext.trans ?_ (by with_reducible assumption))

set_option maxHeartbeats 1000000 in
theorem span_made (lo hi : Int) (w : World) :
    Calls Try.prog 61 #[.int .i64 lo, .int .i64 hi] w fun e w' => e = .returned (.tuple #[.agg #[.int .i64 (madeI lo hi).lo, .int .i64 (madeI lo hi).hi], .int .i64 (madeI lo hi).e]) ∧ Ext w w' := by
  go_enter Try.func61, Try.ntmps61
  go_wp2
  all_goals
    refine bodyPost_ret (v := .tuple #[.agg #[.int .i64 (madeI lo hi).lo, .int .i64 (madeI lo hi).hi], .int .i64 (madeI lo hi).e]) ?_ rfl ⟨rfl, ?_⟩
    · (try simp only [] at *)
      simp [results, Try.results61, go_sem, ↓IntWalk.iteOmega, madeI, *]
    · repeat (first | exact Ext.refl _ | with_reducible assumption | refine Ext.alloc ?_ _ | refine Ext.setCell ?_ (by (try simp only [World.size_alloc, World.size_setCell]); omega) _ | refine Ext.drewN ?_ _ | refine Ext.drew ?_ | refine Ext.trans ?_ (by with_reducible assumption))

set_option maxHeartbeats 1000000 in
theorem span_add (a b c d : Int) (w : World) :
    Calls Try.prog 29 #[.agg #[.int .i64 a, .int .i64 b], .agg #[.int .i64 c, .int .i64 d]] w fun e w' => e = .returned (.tuple #[.agg #[.int .i64 (addI a b c d).lo, .int .i64 (addI a b c d).hi], .int .i64 (addI a b c d).e]) ∧ Ext w w' := by
  go_enter Try.func29, Try.ntmps29
  go_wp2_with (first | (go_at_call 60; (with_reducible refine (check_2 _ _ _ _ _ _ (by first | rfl | simp)).mono ?_); rintro e w1 ⟨rfl, hb⟩; obtain ⟨_, _, hc, hf⟩ := hb.cells2; have hz := hb.size; (try simp only [World.size_alloc] at hz hc hf)) | (go_at_call 61; (with_reducible refine (span_made _ _ _).mono ?_); rintro e w1 ⟨rfl, hb⟩; obtain ⟨_, _, hc, hf⟩ := hb.cells2; have hz := hb.size; (try simp only [World.size_alloc, World.size_setCell] at hz hc hf)))
  all_goals
    refine bodyPost_ret (v := .tuple #[.agg #[.int .i64 (addI a b c d).lo, .int .i64 (addI a b c d).hi], .int .i64 (addI a b c d).e]) ?_ rfl ⟨rfl, ?_⟩
    · (try simp only [bne_iff_ne, ne_eq, bne_eq_false_iff_eq] at *)
      simp [results, Try.results29, go_sem, ↓IntWalk.iteOmega, addI, *]
    · repeat (first | exact Ext.refl _ | with_reducible assumption | refine Ext.alloc ?_ _ | refine Ext.setCell ?_ (by (try simp only []); omega) _ | refine Ext.drewN ?_ _ | refine Ext.drew ?_ | refine Ext.trans ?_ (by with_reducible assumption))

set_option maxHeartbeats 1000000 in
theorem span_sub (a b c d : Int) (w : World) :
    Calls Try.prog 38 #[.agg #[.int .i64 a, .int .i64 b], .agg #[.int .i64 c, .int .i64 d]] w fun e w' => e = .returned (.tuple #[.agg #[.int .i64 (subI a b c d).lo, .int .i64 (subI a b c d).hi], .int .i64 (subI a b c d).e]) ∧ Ext w w' := by
  go_enter Try.func38, Try.ntmps38
  go_wp2_with (first | (go_at_call 60; (with_reducible refine (check_2 _ _ _ _ _ _ (by first | rfl | simp)).mono ?_); rintro e w1 ⟨rfl, hb⟩; obtain ⟨_, _, hc, hf⟩ := hb.cells2; have hz := hb.size; (try simp only [World.size_alloc] at hz hc hf)) | (go_at_call 61; (with_reducible refine (span_made _ _ _).mono ?_); rintro e w1 ⟨rfl, hb⟩; obtain ⟨_, _, hc, hf⟩ := hb.cells2; have hz := hb.size; (try simp only [World.size_alloc, World.size_setCell] at hz hc hf)))
  all_goals
    refine bodyPost_ret (v := .tuple #[.agg #[.int .i64 (subI a b c d).lo, .int .i64 (subI a b c d).hi], .int .i64 (subI a b c d).e]) ?_ rfl ⟨rfl, ?_⟩
    · (try simp only [bne_iff_ne, ne_eq, bne_eq_false_iff_eq] at *)
      simp [results, Try.results38, go_sem, ↓IntWalk.iteOmega, subI, *]
    · repeat (first | exact Ext.refl _ | with_reducible assumption | refine Ext.alloc ?_ _ | refine Ext.setCell ?_ (by (try simp only []); omega) _ | refine Ext.drewN ?_ _ | refine Ext.drew ?_ | refine Ext.trans ?_ (by with_reducible assumption))

end Go.Proofs.Ytomgcjeahkmhiaa
