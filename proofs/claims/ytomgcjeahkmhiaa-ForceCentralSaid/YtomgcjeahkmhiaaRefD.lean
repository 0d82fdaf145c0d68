/- planisphereref03: checks, sums. -/
import Derived.Test.YtomgcjeahkmhiaaRefB
namespace Go.Proofs.Ytomgcjeahkmhiaa
open Go.RowKit

set_option maxHeartbeats 1000000 in
theorem ref_check (a b : Int) (w : World) :
    Calls Try.prog 26 #[.agg #[.int .i64 a, .int .i64 b]] w fun e w' => e = .returned (.int .i64 (ckI a b)) ∧ Ext w w' := by
  go_enter Try.func26, Try.ntmps26
  go_wp2_with fail
  all_goals
    go_ret
    refine ⟨?_, ?_⟩
    · (try simp only [] at *)
      first | (simp [ckI, *]; done) | (simp [ckI, *]; omega)
    · repeat (first | exact Ext.refl _ | with_reducible assumption | refine Ext.alloc ?_ _ | refine Ext.setCell ?_ (by (try simp only [World.size_alloc, World.size_setCell]); omega) _ | refine Ext.drewN ?_ _ | refine Ext.drew ?_ | refine Ext.trans ?_ (by with_reducible assumption))

set_option maxHeartbeats 1000000 in
theorem ref_both (a b c d : Int) (w : World) :
    Calls Try.prog 116 #[.agg #[.int .i64 a, .int .i64 b], .agg #[.int .i64 c, .int .i64 d]] w fun e w' => e = .returned (.int .i64 (ck2 a b c d)) ∧ Ext w w' := by
  go_enter Try.func116, Try.ntmps116
  go_wp2_with (first | (go_at_call 26; (with_reducible refine (ref_check _ _ _).mono ?_); rintro e w1 ⟨rfl, hb⟩; obtain ⟨_, _, hc, hf⟩ := hb.cells2; have hz := hb.size; (try simp only [World.size_alloc] at hz hc hf)))
  all_goals
    go_ret
    refine ⟨?_, ?_⟩
    · (try simp only [bne_iff_ne, ne_eq, bne_eq_false_iff_eq] at *)
      first | (simp [ck2, *]; done) | (simp [ck2, *]; omega)
    · repeat (first | exact Ext.refl _ | with_reducible assumption | refine Ext.alloc ?_ _ | refine Ext.setCell ?_ (by (try simp only [World.size_alloc, World.size_setCell]); omega) _ | refine Ext.drewN ?_ _ | refine Ext.drew ?_ | refine Ext.trans ?_ (by with_reducible assumption))

set_option maxHeartbeats 1000000 in
theorem ref_made (lo hi : Int) (w : World) :
    Calls Try.prog 117 #[.int .i64 lo, .int .i64 hi] w fun e w' => e = .returned (.tuple #[.agg #[.int .i64 (madeI lo hi).lo, .int .i64 (madeI lo hi).hi], .int .i64 (madeI lo hi).e]) ∧ Ext w w' := by
  go_enter Try.func117, Try.ntmps117
  go_wp2
  all_goals
    refine bodyPost_ret (v := .tuple #[.agg #[.int .i64 (madeI lo hi).lo, .int .i64 (madeI lo hi).hi], .int .i64 (madeI lo hi).e]) ?_ rfl ⟨rfl, ?_⟩
    · (try simp only [] at *)
      simp [results, Try.results117, go_sem, ↓IntWalk.iteOmega, madeI, *]
    · repeat (first | exact Ext.refl _ | with_reducible assumption | refine Ext.alloc ?_ _ | refine Ext.setCell ?_ (by (try simp only [World.size_alloc, World.size_setCell]); omega) _ | refine Ext.drewN ?_ _ | refine Ext.drew ?_ | refine Ext.trans ?_ (by with_reducible assumption))

set_option maxHeartbeats 1000000 in
theorem ref_add (a b c d : Int) (w : World) :
    Calls Try.prog 73 #[.agg #[.int .i64 a, .int .i64 b], .agg #[.int .i64 c, .int .i64 d]] w fun e w' => e = .returned (.tuple #[.agg #[.int .i64 (addI a b c d).lo, .int .i64 (addI a b c d).hi], .int .i64 (addI a b c d).e]) ∧ Ext w w' := by
  go_enter Try.func73, Try.ntmps73
  go_wp2_with (first | (go_at_call 116; (with_reducible refine (ref_both _ _ _ _ _).mono ?_); rintro e w1 ⟨rfl, hb⟩; obtain ⟨_, _, hc, hf⟩ := hb.cells2; have hz := hb.size; (try simp only [World.size_alloc] at hz hc hf)) | (go_at_call 117; (with_reducible refine (ref_made _ _ _).mono ?_); rintro e w1 ⟨rfl, hb⟩; obtain ⟨_, _, hc, hf⟩ := hb.cells2; have hz := hb.size; (try simp only [World.size_alloc, World.size_setCell] at hz hc hf)))
  all_goals
    refine bodyPost_ret (v := .tuple #[.agg #[.int .i64 (addI a b c d).lo, .int .i64 (addI a b c d).hi], .int .i64 (addI a b c d).e]) ?_ rfl ⟨rfl, ?_⟩
    · (try simp only [bne_iff_ne, ne_eq, bne_eq_false_iff_eq] at *)
      simp [results, Try.results73, go_sem, ↓IntWalk.iteOmega, addI, *]
    · repeat (first | exact Ext.refl _ | with_reducible assumption | refine Ext.alloc ?_ _ | refine Ext.setCell ?_ (by (try simp only []); omega) _ | refine Ext.drewN ?_ _ | refine Ext.drew ?_ | refine Ext.trans ?_ (by with_reducible assumption))

set_option maxHeartbeats 1000000 in
theorem ref_sub (a b c d : Int) (w : World) :
    Calls Try.prog 74 #[.agg #[.int .i64 a, .int .i64 b], .agg #[.int .i64 c, .int .i64 d]] w fun e w' => e = .returned (.tuple #[.agg #[.int .i64 (subI a b c d).lo, .int .i64 (subI a b c d).hi], .int .i64 (subI a b c d).e]) ∧ Ext w w' := by
  go_enter Try.func74, Try.ntmps74
  go_wp2_with (first | (go_at_call 116; (with_reducible refine (ref_both _ _ _ _ _).mono ?_); rintro e w1 ⟨rfl, hb⟩; obtain ⟨_, _, hc, hf⟩ := hb.cells2; have hz := hb.size; (try simp only [World.size_alloc] at hz hc hf)) | (go_at_call 117; (with_reducible refine (ref_made _ _ _).mono ?_); rintro e w1 ⟨rfl, hb⟩; obtain ⟨_, _, hc, hf⟩ := hb.cells2; have hz := hb.size; (try simp only [World.size_alloc, World.size_setCell] at hz hc hf)))
  all_goals
    refine bodyPost_ret (v := .tuple #[.agg #[.int .i64 (subI a b c d).lo, .int .i64 (subI a b c d).hi], .int .i64 (subI a b c d).e]) ?_ rfl ⟨rfl, ?_⟩
    · (try simp only [bne_iff_ne, ne_eq, bne_eq_false_iff_eq] at *)
      simp [results, Try.results74, go_sem, ↓IntWalk.iteOmega, subI, *]
    · repeat (first | exact Ext.refl _ | with_reducible assumption | refine Ext.alloc ?_ _ | refine Ext.setCell ?_ (by (try simp only []); omega) _ | refine Ext.drewN ?_ _ | refine Ext.drew ?_ | refine Ext.trans ?_ (by with_reducible assumption))

end Go.Proofs.Ytomgcjeahkmhiaa
