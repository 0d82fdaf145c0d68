/- span: comparing numbers of two words; the least and the greatest. -/
import Derived.Test.YtomgcjeahkmhiaaSpanA
import Derived.Handy
namespace Go.Proofs.Ytomgcjeahkmhiaa
open Go.RowKit

def cmpT (T U : Int) : Int := if T = U then 0 else if T < U then -1 else 1

set_option maxRecDepth 100000 in
set_option maxHeartbeats 1000000 in
theorem cmp_any (T U : Int) (w : World) :
    Calls Try.prog 119 #[.agg #[.int .i64 (T / 18446744073709551616), .int .u64 (T % 18446744073709551616)], .agg #[.int .i64 (U / 18446744073709551616), .int .u64 (U % 18446744073709551616)]] w fun e w' => e = .returned (.int .i64 (cmpT T U)) ∧ Ext w w' := by
  obtain ⟨h, eh⟩ : ∃ h : Int, h = T / 18446744073709551616 := ⟨_, rfl⟩
  obtain ⟨l, el⟩ : ∃ h : Int, h = T % 18446744073709551616 := ⟨_, rfl⟩
  obtain ⟨h', eh'⟩ : ∃ h : Int, h = U / 18446744073709551616 := ⟨_, rfl⟩
  obtain ⟨l', el'⟩ : ∃ h : Int, h = U % 18446744073709551616 := ⟨_, rfl⟩
  have hc : (h = h' ∧ l = l' ↔ T = U) ∧ (h < h' ∨ h = h' ∧ l < l' ↔ T < U) := by omega
  rw [← eh, ← el, ← eh', ← el']
  have Hc := Lib.hid hc
  clear hc eh el eh' el'
  go_enter Try.func119, Try.ntmps119
  go_wp2_with fail
  all_goals
    go_ret
    refine ⟨?_, ((Ext.refl _).alloc _).alloc _⟩
    obtain ⟨c1, c2⟩ := Hc.out
    exact congrArg (fun n => Ending.returned (.int .i64 n)) (by unfold cmpT; split <;> (try split) <;> omega)

theorem cmp_neg (T U : Int) : cmpT T U < 0 ↔ T < U := by unfold cmpT; split <;> (try split) <;> omega
theorem cmp_nn (T U : Int) : 0 ≤ cmpT T U ↔ U ≤ T := by unfold cmpT; split <;> (try split) <;> omega
theorem cmp_pos (T U : Int) : 0 < cmpT T U ↔ U < T := by unfold cmpT; split <;> (try split) <;> omega
theorem cmp_np (T U : Int) : cmpT T U ≤ 0 ↔ T ≤ U := by unfold cmpT; split <;> (try split) <;> omega

def min2 (a b : Int) : Int := min a b
def max2 (a b : Int) : Int := max a b

set_option maxRecDepth 100000 in
set_option maxHeartbeats 2000000 in
theorem least_3 (T U V X : Int) (b c : Nat) (w : World) 
    (c2 : w.cell? ⟨b, 2, none⟩ = some (.int .i64 (U / 18446744073709551616))) (c3 : w.cell? ⟨b, 3, none⟩ = some (.int .u64 (U % 18446744073709551616)))
    (c4 : w.cell? ⟨b, 4, none⟩ = some (.int .i64 (V / 18446744073709551616))) (c5 : w.cell? ⟨b, 5, none⟩ = some (.int .u64 (V % 18446744073709551616)))
    (c6 : w.cell? ⟨b, 6, none⟩ = some (.int .i64 (X / 18446744073709551616))) (c7 : w.cell? ⟨b, 7, none⟩ = some (.int .u64 (X % 18446744073709551616))) :
    Calls Try.prog 76 #[.agg #[.int .i64 (T / 18446744073709551616), .int .u64 (T % 18446744073709551616)], .slice (some ⟨b, 2, none⟩) 3 c] w fun e w' => e = .returned (.agg #[.int .i64 (min4 T U V X / 18446744073709551616), .int .u64 (min4 T U V X % 18446744073709551616)]) ∧ Ext w w' := by
  have hb0 : b < w.heap.size := World.block_lt_of_cell? w _ c2
  go_enter Try.func76, Try.ntmps76
  go_wp2_with fail
  refine wp_loop_rounds 4 ?_
  repeat
    any_goals
      rw [rounds_succ]
      go_wp2_with (go_at_call 119; (with_reducible refine (cmp_any _ _ _).mono ?_); rintro e w1 ⟨rfl, hb⟩; obtain ⟨_, _, hc, hf⟩ := hb.cells2; have hz := hb.size; (try simp only [World.size_alloc, World.size_setCell] at hz hc hf))
  all_goals
    refine bodyPost_ret (v := .agg #[.int .i64 (min4 T U V X / 18446744073709551616), .int .u64 (min4 T U V X % 18446744073709551616)]) ?_ rfl ⟨rfl, ?_⟩
    · simp [results, Try.results76, go_sem, ↓IntWalk.iteOmega, *]
      simp only [cmp_neg, cmp_nn] at *
      refine ⟨congrArg (· / 18446744073709551616) ?_, congrArg (· % 18446744073709551616) ?_⟩ <;> (unfold min4; omega)
    · repeat (first | exact Ext.refl _ | with_reducible assumption | refine Ext.alloc ?_ _ | refine Ext.setCell ?_ (by (try simp only []); omega) _ | refine Ext.trans ?_ (by with_reducible assumption))

set_option maxRecDepth 100000 in
set_option maxHeartbeats 2000000 in
theorem greatest_3 (T U V X : Int) (b c : Nat) (w : World) 
    (c2 : w.cell? ⟨b, 2, none⟩ = some (.int .i64 (U / 18446744073709551616))) (c3 : w.cell? ⟨b, 3, none⟩ = some (.int .u64 (U % 18446744073709551616)))
    (c4 : w.cell? ⟨b, 4, none⟩ = some (.int .i64 (V / 18446744073709551616))) (c5 : w.cell? ⟨b, 5, none⟩ = some (.int .u64 (V % 18446744073709551616)))
    (c6 : w.cell? ⟨b, 6, none⟩ = some (.int .i64 (X / 18446744073709551616))) (c7 : w.cell? ⟨b, 7, none⟩ = some (.int .u64 (X % 18446744073709551616))) :
    Calls Try.prog 78 #[.agg #[.int .i64 (T / 18446744073709551616), .int .u64 (T % 18446744073709551616)], .slice (some ⟨b, 2, none⟩) 3 c] w fun e w' => e = .returned (.agg #[.int .i64 (max4 T U V X / 18446744073709551616), .int .u64 (max4 T U V X % 18446744073709551616)]) ∧ Ext w w' := by
  have hb0 : b < w.heap.size := World.block_lt_of_cell? w _ c2
  go_enter Try.func78, Try.ntmps78
  go_wp2_with fail
  refine wp_loop_rounds 4 ?_
  repeat
    any_goals
      rw [rounds_succ]
      go_wp2_with (go_at_call 119; (with_reducible refine (cmp_any _ _ _).mono ?_); rintro e w1 ⟨rfl, hb⟩; obtain ⟨_, _, hc, hf⟩ := hb.cells2; have hz := hb.size; (try simp only [World.size_alloc, World.size_setCell] at hz hc hf))
  all_goals
    refine bodyPost_ret (v := .agg #[.int .i64 (max4 T U V X / 18446744073709551616), .int .u64 (max4 T U V X % 18446744073709551616)]) ?_ rfl ⟨rfl, ?_⟩
    · simp [results, Try.results78, go_sem, ↓IntWalk.iteOmega, *]
      simp only [cmp_pos, cmp_np] at *
      refine ⟨congrArg (· / 18446744073709551616) ?_, congrArg (· % 18446744073709551616) ?_⟩ <;> (unfold max4; omega)
    · repeat (first | exact Ext.refl _ | with_reducible assumption | refine Ext.alloc ?_ _ | refine Ext.setCell ?_ (by (try simp only []); omega) _ | refine Ext.trans ?_ (by with_reducible assumption))

set_option maxRecDepth 100000 in
set_option maxHeartbeats 2000000 in
theorem least_1 (T U : Int) (b c : Nat) (w : World) 
    (c0 : w.cell? ⟨b, 0, none⟩ = some (.int .i64 (U / 18446744073709551616))) (c1 : w.cell? ⟨b, 1, none⟩ = some (.int .u64 (U % 18446744073709551616))) :
    Calls Try.prog 76 #[.agg #[.int .i64 (T / 18446744073709551616), .int .u64 (T % 18446744073709551616)], .slice (some ⟨b, 0, none⟩) 1 c] w fun e w' => e = .returned (.agg #[.int .i64 (min2 T U / 18446744073709551616), .int .u64 (min2 T U % 18446744073709551616)]) ∧ Ext w w' := by
  have hb0 : b < w.heap.size := World.block_lt_of_cell? w _ c0
  go_enter Try.func76, Try.ntmps76
  go_wp2_with fail
  refine wp_loop_rounds 2 ?_
  repeat
    any_goals
      rw [rounds_succ]
      go_wp2_with (go_at_call 119; (with_reducible refine (cmp_any _ _ _).mono ?_); rintro e w1 ⟨rfl, hb⟩; obtain ⟨_, _, hc, hf⟩ := hb.cells2; have hz := hb.size; (try simp only [World.size_alloc] at hz hc hf))
  all_goals
    refine bodyPost_ret (v := .agg #[.int .i64 (min2 T U / 18446744073709551616), .int .u64 (min2 T U % 18446744073709551616)]) ?_ rfl ⟨rfl, ?_⟩
    · simp [results, Try.results76, go_sem, *]
      simp only [cmp_neg, cmp_nn] at *
      refine ⟨congrArg (· / 18446744073709551616) ?_, congrArg (· % 18446744073709551616) ?_⟩ <;> (unfold min2; omega)
    · repeat (first | exact Ext.refl _ | with_reducible assumption | refine Ext.alloc ?_ _ | refine Ext.setCell ?_ (by (try simp only []); omega) _ | refine Ext.trans ?_ (by with_reducible assumption))

set_option maxRecDepth 100000 in
set_option maxHeartbeats 2000000 in
theorem greatest_1 (T U : Int) (b c : Nat) (w : World) 
    (c0 : w.cell? ⟨b, 0, none⟩ = some (.int .i64 (U / 18446744073709551616))) (c1 : w.cell? ⟨b, 1, none⟩ = some (.int .u64 (U % 18446744073709551616))) :
    Calls Try.prog 78 #[.agg #[.int .i64 (T / 18446744073709551616), .int .u64 (T % 18446744073709551616)], .slice (some ⟨b, 0, none⟩) 1 c] w fun e w' => e = .returned (.agg #[.int .i64 (max2 T U / 18446744073709551616), .int .u64 (max2 T U % 18446744073709551616)]) ∧ Ext w w' := by
  have hb0 : b < w.heap.size := World.block_lt_of_cell? w _ c0
  go_enter Try.func78, Try.ntmps78
  go_wp2_with fail
  refine wp_loop_rounds 2 ?_
  repeat
    any_goals
      rw [rounds_succ]
      go_wp2_with (go_at_call 119; (with_reducible refine (cmp_any _ _ _).mono ?_); rintro e w1 ⟨rfl, hb⟩; obtain ⟨_, _, hc, hf⟩ := hb.cells2; have hz := hb.size; (try simp only [World.size_alloc] at hz hc hf))
  all_goals
    refine bodyPost_ret (v := .agg #[.int .i64 (max2 T U / 18446744073709551616), .int .u64 (max2 T U % 18446744073709551616)]) ?_ rfl ⟨rfl, ?_⟩
    · simp [results, Try.results78, go_sem, *]
      simp only [cmp_pos, cmp_np] at *
      refine ⟨congrArg (· / 18446744073709551616) ?_, congrArg (· % 18446744073709551616) ?_⟩ <;> (unfold max2; omega)
    · repeat (first | exact Ext.refl _ | with_reducible assumption | refine Ext.alloc ?_ _ | refine Ext.setCell ?_ (by (try simp only []); omega) _ | refine Ext.trans ?_ (by with_reducible assumption))

end Go.Proofs.Ytomgcjeahkmhiaa
