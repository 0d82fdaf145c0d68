/- law35.point, rest; ref35.Sound. -/
import Derived.Test.YtbkgakgdbmjmjaaGreatP27
set_option linter.unusedSimpArgs false
set_option linter.unusedVariables false
set_option maxRecDepth 100000
set_option maxHeartbeats 8000000
namespace Go.Proofs.YtbkgakgdbmjmjaaGreat
open Go.RowKit
theorem m_point (x : Int) (w : World) : Calls Tryz.prog 35 #[.int .i64 x] w fun e w' => e = .returned (.agg #[.int .i64 x, .int .i64 x]) ∧ Ext w w' := by
 go_enter Tryz.func35, Tryz.ntmps35
 go_wp2_with fail
 all_goals
  refine bodyPost_ret (v := .agg #[.int .i64 x, .int .i64 x]) ?_ rfl ⟨rfl, ?_⟩
  ·(try simp only [bn_, bm_] at *)
   simp [results, Tryz.results35, go_sem, ↓IntWalk.iteOmega, *]
  ·exact b_6
theorem m_rest (w : World) : Calls Tryz.prog 43 #[] w fun e w' => e = .returned (.agg #[.int .i64 0, .int .i64 1099511627776, .int .i64 0, .int .i64 0, .int .i64 0, .int .i64 0, .int .i64 0]) ∧ Ext w w' := by
 go_enter Tryz.func43, Tryz.ntmps43
 go_wp2_with fail
 all_goals
  refine bodyPost_ret (v := .agg #[.int .i64 0, .int .i64 1099511627776, .int .i64 0, .int .i64 0, .int .i64 0, .int .i64 0, .int .i64 0]) ?_ rfl ⟨rfl, ?_⟩
  ·(try simp only [bn_, bm_] at *)
   simp [results, Tryz.results43, go_sem, ↓IntWalk.iteOmega, *]
  ·exact b_6
def sdB (t : Tu) : Bool := decide (ckV t.h = 0) && (decide (ckV t.f = 0) && (decide (ckV t.p = 0) && decide (ckV t.v = 0)))
theorem m_Sound (t : Tu) (w : World) : Calls Tryz.prog 33 #[tv t] w fun e w' => e = .returned (.bool (sdB t)) ∧ Ext w w' := by
 have k0 := fun w1 => c_check t.h w1
 have k1 := fun w1 => c_check t.f w1
 have k2 := fun w1 => c_check t.p w1
 have k3 := fun w1 => c_check t.v w1
 obtain ⟨R, hR⟩ : ∃ R, sdB t = R := ⟨_, rfl⟩
 rw [hR]
 unfold sdB at hR
 generalize ckV t.h = C0 at *
 generalize ckV t.f = C1 at *
 generalize ckV t.p = C2 at *
 generalize ckV t.v = C3 at *
 unfold tv
 by_cases e0 : C0 = 0
 ·subst e0
  by_cases e1 : C1 = 0
  ·subst e1
   by_cases e2 : C2 = 0
   ·subst e2
    by_cases e3 : C3 = 0
    ·subst e3
     have E : R = true := by rw [← hR]; rfl
     subst E
     clear hR
     go_enter Tryz.func33, Tryz.ntmps33
     go_upto_region 1 with fail
     refine wp_name fun U0 hN => ?_
     have x : Ext w U0 := Ext.same hN ((Ext.refl _).alloc _)
     have bt : VB U0 w.heap.size (tuL t) := by have e : U0 = _ := hN; rw [e]; exact VB.lit w (tuL t) 65
     have lt := bt.2.2
     clear hN
     have t2 : U0.cell? ⟨w.heap.size, 2, none⟩ = some (.int .i64 t.h.a) := bt.1 2 _ rfl
     have t3 : U0.cell? ⟨w.heap.size, 3, none⟩ = some (.int .i64 t.h.b) := bt.1 3 _ rfl
     have t4 : U0.cell? ⟨w.heap.size, 4, none⟩ = some (.int .i64 t.h.c) := bt.1 4 _ rfl
     have t5 : U0.cell? ⟨w.heap.size, 5, none⟩ = some (.int .i64 t.h.d) := bt.1 5 _ rfl
     have t6 : U0.cell? ⟨w.heap.size, 6, none⟩ = some (.int .i64 t.h.e) := bt.1 6 _ rfl
     have t7 : U0.cell? ⟨w.heap.size, 7, none⟩ = some (.int .i64 t.h.f) := bt.1 7 _ rfl
     have t8 : U0.cell? ⟨w.heap.size, 8, none⟩ = some (.int .i64 t.f.a) := bt.1 8 _ rfl
     have t9 : U0.cell? ⟨w.heap.size, 9, none⟩ = some (.int .i64 t.f.b) := bt.1 9 _ rfl
     have t10 : U0.cell? ⟨w.heap.size, 10, none⟩ = some (.int .i64 t.f.c) := bt.1 10 _ rfl
     have t11 : U0.cell? ⟨w.heap.size, 11, none⟩ = some (.int .i64 t.f.d) := bt.1 11 _ rfl
     have t12 : U0.cell? ⟨w.heap.size, 12, none⟩ = some (.int .i64 t.f.e) := bt.1 12 _ rfl
     have t13 : U0.cell? ⟨w.heap.size, 13, none⟩ = some (.int .i64 t.f.f) := bt.1 13 _ rfl
     have t14 : U0.cell? ⟨w.heap.size, 14, none⟩ = some (.int .i64 t.p.a) := bt.1 14 _ rfl
     have t15 : U0.cell? ⟨w.heap.size, 15, none⟩ = some (.int .i64 t.p.b) := bt.1 15 _ rfl
     have t16 : U0.cell? ⟨w.heap.size, 16, none⟩ = some (.int .i64 t.p.c) := bt.1 16 _ rfl
     have t17 : U0.cell? ⟨w.heap.size, 17, none⟩ = some (.int .i64 t.p.d) := bt.1 17 _ rfl
     have t18 : U0.cell? ⟨w.heap.size, 18, none⟩ = some (.int .i64 t.p.e) := bt.1 18 _ rfl
     have t19 : U0.cell? ⟨w.heap.size, 19, none⟩ = some (.int .i64 t.p.f) := bt.1 19 _ rfl
     have t20 : U0.cell? ⟨w.heap.size, 20, none⟩ = some (.int .i64 t.v.a) := bt.1 20 _ rfl
     have t21 : U0.cell? ⟨w.heap.size, 21, none⟩ = some (.int .i64 t.v.b) := bt.1 21 _ rfl
     have t22 : U0.cell? ⟨w.heap.size, 22, none⟩ = some (.int .i64 t.v.c) := bt.1 22 _ rfl
     have t23 : U0.cell? ⟨w.heap.size, 23, none⟩ = some (.int .i64 t.v.d) := bt.1 23 _ rfl
     have t24 : U0.cell? ⟨w.heap.size, 24, none⟩ = some (.int .i64 t.v.e) := bt.1 24 _ rfl
     have t25 : U0.cell? ⟨w.heap.size, 25, none⟩ = some (.int .i64 t.v.f) := bt.1 25 _ rfl
     go_wp2_with (first
      | (go_at_call 22; (with_reducible refine (k0 _).mono ?_); rintro e y0 ⟨rfl, hb0⟩; obtain ⟨_, _, ⟨hc0, hf0⟩, hz0⟩ := hb0.c3; (try simp only [wsz] at hz0 hc0 hf0))
      | (go_at_call 22; (with_reducible refine (k1 _).mono ?_); rintro e y1 ⟨rfl, hb1⟩; obtain ⟨_, _, ⟨hc1, hf1⟩, hz1⟩ := hb1.c3; (try simp only [wsz] at hz1 hc1 hf1))
      | (go_at_call 22; (with_reducible refine (k2 _).mono ?_); rintro e y2 ⟨rfl, hb2⟩; obtain ⟨_, _, ⟨hc2, hf2⟩, hz2⟩ := hb2.c3; (try simp only [wsz] at hz2 hc2 hf2))
      | (go_at_call 22; (with_reducible refine (k3 _).mono ?_); rintro e y3 ⟨rfl, hb3⟩; obtain ⟨_, _, ⟨hc3, hf3⟩, hz3⟩ := hb3.c3; (try simp only [wsz] at hz3 hc3 hf3)))
     refine bodyPost_ret (v := .bool true) ?_ rfl ⟨rfl, ((((x.trans hb0).trans hb1).trans hb2).trans hb3)⟩
     simp [results, Tryz.results33, go_sem, ↓IntWalk.iteOmega, *]
    ·have E : R = false := by rw [← hR, decide_eq_false e3]; simp only [Bool.false_and, Bool.and_false]
     subst E
     clear hR
     go_enter Tryz.func33, Tryz.ntmps33
     go_upto_region 1 with fail
     refine wp_name fun U0 hN => ?_
     have x : Ext w U0 := Ext.same hN ((Ext.refl _).alloc _)
     have bt : VB U0 w.heap.size (tuL t) := by have e : U0 = _ := hN; rw [e]; exact VB.lit w (tuL t) 65
     have lt := bt.2.2
     clear hN
     have t2 : U0.cell? ⟨w.heap.size, 2, none⟩ = some (.int .i64 t.h.a) := bt.1 2 _ rfl
     have t3 : U0.cell? ⟨w.heap.size, 3, none⟩ = some (.int .i64 t.h.b) := bt.1 3 _ rfl
     have t4 : U0.cell? ⟨w.heap.size, 4, none⟩ = some (.int .i64 t.h.c) := bt.1 4 _ rfl
     have t5 : U0.cell? ⟨w.heap.size, 5, none⟩ = some (.int .i64 t.h.d) := bt.1 5 _ rfl
     have t6 : U0.cell? ⟨w.heap.size, 6, none⟩ = some (.int .i64 t.h.e) := bt.1 6 _ rfl
     have t7 : U0.cell? ⟨w.heap.size, 7, none⟩ = some (.int .i64 t.h.f) := bt.1 7 _ rfl
     have t8 : U0.cell? ⟨w.heap.size, 8, none⟩ = some (.int .i64 t.f.a) := bt.1 8 _ rfl
     have t9 : U0.cell? ⟨w.heap.size, 9, none⟩ = some (.int .i64 t.f.b) := bt.1 9 _ rfl
     have t10 : U0.cell? ⟨w.heap.size, 10, none⟩ = some (.int .i64 t.f.c) := bt.1 10 _ rfl
     have t11 : U0.cell? ⟨w.heap.size, 11, none⟩ = some (.int .i64 t.f.d) := bt.1 11 _ rfl
     have t12 : U0.cell? ⟨w.heap.size, 12, none⟩ = some (.int .i64 t.f.e) := bt.1 12 _ rfl
     have t13 : U0.cell? ⟨w.heap.size, 13, none⟩ = some (.int .i64 t.f.f) := bt.1 13 _ rfl
     have t14 : U0.cell? ⟨w.heap.size, 14, none⟩ = some (.int .i64 t.p.a) := bt.1 14 _ rfl
     have t15 : U0.cell? ⟨w.heap.size, 15, none⟩ = some (.int .i64 t.p.b) := bt.1 15 _ rfl
     have t16 : U0.cell? ⟨w.heap.size, 16, none⟩ = some (.int .i64 t.p.c) := bt.1 16 _ rfl
     have t17 : U0.cell? ⟨w.heap.size, 17, none⟩ = some (.int .i64 t.p.d) := bt.1 17 _ rfl
     have t18 : U0.cell? ⟨w.heap.size, 18, none⟩ = some (.int .i64 t.p.e) := bt.1 18 _ rfl
     have t19 : U0.cell? ⟨w.heap.size, 19, none⟩ = some (.int .i64 t.p.f) := bt.1 19 _ rfl
     have t20 : U0.cell? ⟨w.heap.size, 20, none⟩ = some (.int .i64 t.v.a) := bt.1 20 _ rfl
     have t21 : U0.cell? ⟨w.heap.size, 21, none⟩ = some (.int .i64 t.v.b) := bt.1 21 _ rfl
     have t22 : U0.cell? ⟨w.heap.size, 22, none⟩ = some (.int .i64 t.v.c) := bt.1 22 _ rfl
     have t23 : U0.cell? ⟨w.heap.size, 23, none⟩ = some (.int .i64 t.v.d) := bt.1 23 _ rfl
     have t24 : U0.cell? ⟨w.heap.size, 24, none⟩ = some (.int .i64 t.v.e) := bt.1 24 _ rfl
     have t25 : U0.cell? ⟨w.heap.size, 25, none⟩ = some (.int .i64 t.v.f) := bt.1 25 _ rfl
     go_wp2_with (first
      | (go_at_call 22; (with_reducible refine (k0 _).mono ?_); rintro e y0 ⟨rfl, hb0⟩; obtain ⟨_, _, ⟨hc0, hf0⟩, hz0⟩ := hb0.c3; (try simp only [wsz] at hz0 hc0 hf0))
      | (go_at_call 22; (with_reducible refine (k1 _).mono ?_); rintro e y1 ⟨rfl, hb1⟩; obtain ⟨_, _, ⟨hc1, hf1⟩, hz1⟩ := hb1.c3; (try simp only [wsz] at hz1 hc1 hf1))
      | (go_at_call 22; (with_reducible refine (k2 _).mono ?_); rintro e y2 ⟨rfl, hb2⟩; obtain ⟨_, _, ⟨hc2, hf2⟩, hz2⟩ := hb2.c3; (try simp only [wsz] at hz2 hc2 hf2))
      | (go_at_call 22; (with_reducible refine (k3 _).mono ?_); rintro e y3 ⟨rfl, hb3⟩; obtain ⟨_, _, ⟨hc3, hf3⟩, hz3⟩ := hb3.c3; (try simp only [wsz] at hz3 hc3 hf3)))
     refine bodyPost_ret (v := .bool false) ?_ rfl ⟨rfl, ((((x.trans hb0).trans hb1).trans hb2).trans hb3)⟩
     simp [results, Tryz.results33, go_sem, ↓IntWalk.iteOmega, *]
   ·have E : R = false := by rw [← hR, decide_eq_false e2]; simp only [Bool.false_and, Bool.and_false]
    subst E
    clear hR
    go_enter Tryz.func33, Tryz.ntmps33
    go_upto_region 1 with fail
    refine wp_name fun U0 hN => ?_
    have x : Ext w U0 := Ext.same hN ((Ext.refl _).alloc _)
    have bt : VB U0 w.heap.size (tuL t) := by have e : U0 = _ := hN; rw [e]; exact VB.lit w (tuL t) 65
    have lt := bt.2.2
    clear hN
    have t2 : U0.cell? ⟨w.heap.size, 2, none⟩ = some (.int .i64 t.h.a) := bt.1 2 _ rfl
    have t3 : U0.cell? ⟨w.heap.size, 3, none⟩ = some (.int .i64 t.h.b) := bt.1 3 _ rfl
    have t4 : U0.cell? ⟨w.heap.size, 4, none⟩ = some (.int .i64 t.h.c) := bt.1 4 _ rfl
    have t5 : U0.cell? ⟨w.heap.size, 5, none⟩ = some (.int .i64 t.h.d) := bt.1 5 _ rfl
    have t6 : U0.cell? ⟨w.heap.size, 6, none⟩ = some (.int .i64 t.h.e) := bt.1 6 _ rfl
    have t7 : U0.cell? ⟨w.heap.size, 7, none⟩ = some (.int .i64 t.h.f) := bt.1 7 _ rfl
    have t8 : U0.cell? ⟨w.heap.size, 8, none⟩ = some (.int .i64 t.f.a) := bt.1 8 _ rfl
    have t9 : U0.cell? ⟨w.heap.size, 9, none⟩ = some (.int .i64 t.f.b) := bt.1 9 _ rfl
    have t10 : U0.cell? ⟨w.heap.size, 10, none⟩ = some (.int .i64 t.f.c) := bt.1 10 _ rfl
    have t11 : U0.cell? ⟨w.heap.size, 11, none⟩ = some (.int .i64 t.f.d) := bt.1 11 _ rfl
    have t12 : U0.cell? ⟨w.heap.size, 12, none⟩ = some (.int .i64 t.f.e) := bt.1 12 _ rfl
    have t13 : U0.cell? ⟨w.heap.size, 13, none⟩ = some (.int .i64 t.f.f) := bt.1 13 _ rfl
    have t14 : U0.cell? ⟨w.heap.size, 14, none⟩ = some (.int .i64 t.p.a) := bt.1 14 _ rfl
    have t15 : U0.cell? ⟨w.heap.size, 15, none⟩ = some (.int .i64 t.p.b) := bt.1 15 _ rfl
    have t16 : U0.cell? ⟨w.heap.size, 16, none⟩ = some (.int .i64 t.p.c) := bt.1 16 _ rfl
    have t17 : U0.cell? ⟨w.heap.size, 17, none⟩ = some (.int .i64 t.p.d) := bt.1 17 _ rfl
    have t18 : U0.cell? ⟨w.heap.size, 18, none⟩ = some (.int .i64 t.p.e) := bt.1 18 _ rfl
    have t19 : U0.cell? ⟨w.heap.size, 19, none⟩ = some (.int .i64 t.p.f) := bt.1 19 _ rfl
    have t20 : U0.cell? ⟨w.heap.size, 20, none⟩ = some (.int .i64 t.v.a) := bt.1 20 _ rfl
    have t21 : U0.cell? ⟨w.heap.size, 21, none⟩ = some (.int .i64 t.v.b) := bt.1 21 _ rfl
    have t22 : U0.cell? ⟨w.heap.size, 22, none⟩ = some (.int .i64 t.v.c) := bt.1 22 _ rfl
    have t23 : U0.cell? ⟨w.heap.size, 23, none⟩ = some (.int .i64 t.v.d) := bt.1 23 _ rfl
    have t24 : U0.cell? ⟨w.heap.size, 24, none⟩ = some (.int .i64 t.v.e) := bt.1 24 _ rfl
    have t25 : U0.cell? ⟨w.heap.size, 25, none⟩ = some (.int .i64 t.v.f) := bt.1 25 _ rfl
    go_wp2_with (first
     | (go_at_call 22; (with_reducible refine (k0 _).mono ?_); rintro e y0 ⟨rfl, hb0⟩; obtain ⟨_, _, ⟨hc0, hf0⟩, hz0⟩ := hb0.c3; (try simp only [wsz] at hz0 hc0 hf0))
     | (go_at_call 22; (with_reducible refine (k1 _).mono ?_); rintro e y1 ⟨rfl, hb1⟩; obtain ⟨_, _, ⟨hc1, hf1⟩, hz1⟩ := hb1.c3; (try simp only [wsz] at hz1 hc1 hf1))
     | (go_at_call 22; (with_reducible refine (k2 _).mono ?_); rintro e y2 ⟨rfl, hb2⟩; obtain ⟨_, _, ⟨hc2, hf2⟩, hz2⟩ := hb2.c3; (try simp only [wsz] at hz2 hc2 hf2)))
    refine bodyPost_ret (v := .bool false) ?_ rfl ⟨rfl, (((x.trans hb0).trans hb1).trans hb2)⟩
    simp [results, Tryz.results33, go_sem, ↓IntWalk.iteOmega, *]
  ·have E : R = false := by rw [← hR, decide_eq_false e1]; simp only [Bool.false_and, Bool.and_false]
   subst E
   clear hR
   go_enter Tryz.func33, Tryz.ntmps33
   go_upto_region 1 with fail
   refine wp_name fun U0 hN => ?_
   have x : Ext w U0 := Ext.same hN ((Ext.refl _).alloc _)
   have bt : VB U0 w.heap.size (tuL t) := by have e : U0 = _ := hN; rw [e]; exact VB.lit w (tuL t) 65
   have lt := bt.2.2
   clear hN
   have t2 : U0.cell? ⟨w.heap.size, 2, none⟩ = some (.int .i64 t.h.a) := bt.1 2 _ rfl
   have t3 : U0.cell? ⟨w.heap.size, 3, none⟩ = some (.int .i64 t.h.b) := bt.1 3 _ rfl
   have t4 : U0.cell? ⟨w.heap.size, 4, none⟩ = some (.int .i64 t.h.c) := bt.1 4 _ rfl
   have t5 : U0.cell? ⟨w.heap.size, 5, none⟩ = some (.int .i64 t.h.d) := bt.1 5 _ rfl
   have t6 : U0.cell? ⟨w.heap.size, 6, none⟩ = some (.int .i64 t.h.e) := bt.1 6 _ rfl
   have t7 : U0.cell? ⟨w.heap.size, 7, none⟩ = some (.int .i64 t.h.f) := bt.1 7 _ rfl
   have t8 : U0.cell? ⟨w.heap.size, 8, none⟩ = some (.int .i64 t.f.a) := bt.1 8 _ rfl
   have t9 : U0.cell? ⟨w.heap.size, 9, none⟩ = some (.int .i64 t.f.b) := bt.1 9 _ rfl
   have t10 : U0.cell? ⟨w.heap.size, 10, none⟩ = some (.int .i64 t.f.c) := bt.1 10 _ rfl
   have t11 : U0.cell? ⟨w.heap.size, 11, none⟩ = some (.int .i64 t.f.d) := bt.1 11 _ rfl
   have t12 : U0.cell? ⟨w.heap.size, 12, none⟩ = some (.int .i64 t.f.e) := bt.1 12 _ rfl
   have t13 : U0.cell? ⟨w.heap.size, 13, none⟩ = some (.int .i64 t.f.f) := bt.1 13 _ rfl
   have t14 : U0.cell? ⟨w.heap.size, 14, none⟩ = some (.int .i64 t.p.a) := bt.1 14 _ rfl
   have t15 : U0.cell? ⟨w.heap.size, 15, none⟩ = some (.int .i64 t.p.b) := bt.1 15 _ rfl
   have t16 : U0.cell? ⟨w.heap.size, 16, none⟩ = some (.int .i64 t.p.c) := bt.1 16 _ rfl
   have t17 : U0.cell? ⟨w.heap.size, 17, none⟩ = some (.int .i64 t.p.d) := bt.1 17 _ rfl
   have t18 : U0.cell? ⟨w.heap.size, 18, none⟩ = some (.int .i64 t.p.e) := bt.1 18 _ rfl
   have t19 : U0.cell? ⟨w.heap.size, 19, none⟩ = some (.int .i64 t.p.f) := bt.1 19 _ rfl
   have t20 : U0.cell? ⟨w.heap.size, 20, none⟩ = some (.int .i64 t.v.a) := bt.1 20 _ rfl
   have t21 : U0.cell? ⟨w.heap.size, 21, none⟩ = some (.int .i64 t.v.b) := bt.1 21 _ rfl
   have t22 : U0.cell? ⟨w.heap.size, 22, none⟩ = some (.int .i64 t.v.c) := bt.1 22 _ rfl
   have t23 : U0.cell? ⟨w.heap.size, 23, none⟩ = some (.int .i64 t.v.d) := bt.1 23 _ rfl
   have t24 : U0.cell? ⟨w.heap.size, 24, none⟩ = some (.int .i64 t.v.e) := bt.1 24 _ rfl
   have t25 : U0.cell? ⟨w.heap.size, 25, none⟩ = some (.int .i64 t.v.f) := bt.1 25 _ rfl
   go_wp2_with (first
    | (go_at_call 22; (with_reducible refine (k0 _).mono ?_); rintro e y0 ⟨rfl, hb0⟩; obtain ⟨_, _, ⟨hc0, hf0⟩, hz0⟩ := hb0.c3; (try simp only [wsz] at hz0 hc0 hf0))
    | (go_at_call 22; (with_reducible refine (k1 _).mono ?_); rintro e y1 ⟨rfl, hb1⟩; obtain ⟨_, _, ⟨hc1, hf1⟩, hz1⟩ := hb1.c3; (try simp only [wsz] at hz1 hc1 hf1)))
   refine bodyPost_ret (v := .bool false) ?_ rfl ⟨rfl, ((x.trans hb0).trans hb1)⟩
   simp [results, Tryz.results33, go_sem, ↓IntWalk.iteOmega, *]
 ·have E : R = false := by rw [← hR, decide_eq_false e0]; simp only [Bool.false_and, Bool.and_false]
  subst E
  clear hR
  go_enter Tryz.func33, Tryz.ntmps33
  go_upto_region 1 with fail
  refine wp_name fun U0 hN => ?_
  have x : Ext w U0 := Ext.same hN ((Ext.refl _).alloc _)
  have bt : VB U0 w.heap.size (tuL t) := by have e : U0 = _ := hN; rw [e]; exact VB.lit w (tuL t) 65
  have lt := bt.2.2
  clear hN
  have t2 : U0.cell? ⟨w.heap.size, 2, none⟩ = some (.int .i64 t.h.a) := bt.1 2 _ rfl
  have t3 : U0.cell? ⟨w.heap.size, 3, none⟩ = some (.int .i64 t.h.b) := bt.1 3 _ rfl
  have t4 : U0.cell? ⟨w.heap.size, 4, none⟩ = some (.int .i64 t.h.c) := bt.1 4 _ rfl
  have t5 : U0.cell? ⟨w.heap.size, 5, none⟩ = some (.int .i64 t.h.d) := bt.1 5 _ rfl
  have t6 : U0.cell? ⟨w.heap.size, 6, none⟩ = some (.int .i64 t.h.e) := bt.1 6 _ rfl
  have t7 : U0.cell? ⟨w.heap.size, 7, none⟩ = some (.int .i64 t.h.f) := bt.1 7 _ rfl
  have t8 : U0.cell? ⟨w.heap.size, 8, none⟩ = some (.int .i64 t.f.a) := bt.1 8 _ rfl
  have t9 : U0.cell? ⟨w.heap.size, 9, none⟩ = some (.int .i64 t.f.b) := bt.1 9 _ rfl
  have t10 : U0.cell? ⟨w.heap.size, 10, none⟩ = some (.int .i64 t.f.c) := bt.1 10 _ rfl
  have t11 : U0.cell? ⟨w.heap.size, 11, none⟩ = some (.int .i64 t.f.d) := bt.1 11 _ rfl
  have t12 : U0.cell? ⟨w.heap.size, 12, none⟩ = some (.int .i64 t.f.e) := bt.1 12 _ rfl
  have t13 : U0.cell? ⟨w.heap.size, 13, none⟩ = some (.int .i64 t.f.f) := bt.1 13 _ rfl
  have t14 : U0.cell? ⟨w.heap.size, 14, none⟩ = some (.int .i64 t.p.a) := bt.1 14 _ rfl
  have t15 : U0.cell? ⟨w.heap.size, 15, none⟩ = some (.int .i64 t.p.b) := bt.1 15 _ rfl
  have t16 : U0.cell? ⟨w.heap.size, 16, none⟩ = some (.int .i64 t.p.c) := bt.1 16 _ rfl
  have t17 : U0.cell? ⟨w.heap.size, 17, none⟩ = some (.int .i64 t.p.d) := bt.1 17 _ rfl
  have t18 : U0.cell? ⟨w.heap.size, 18, none⟩ = some (.int .i64 t.p.e) := bt.1 18 _ rfl
  have t19 : U0.cell? ⟨w.heap.size, 19, none⟩ = some (.int .i64 t.p.f) := bt.1 19 _ rfl
  have t20 : U0.cell? ⟨w.heap.size, 20, none⟩ = some (.int .i64 t.v.a) := bt.1 20 _ rfl
  have t21 : U0.cell? ⟨w.heap.size, 21, none⟩ = some (.int .i64 t.v.b) := bt.1 21 _ rfl
  have t22 : U0.cell? ⟨w.heap.size, 22, none⟩ = some (.int .i64 t.v.c) := bt.1 22 _ rfl
  have t23 : U0.cell? ⟨w.heap.size, 23, none⟩ = some (.int .i64 t.v.d) := bt.1 23 _ rfl
  have t24 : U0.cell? ⟨w.heap.size, 24, none⟩ = some (.int .i64 t.v.e) := bt.1 24 _ rfl
  have t25 : U0.cell? ⟨w.heap.size, 25, none⟩ = some (.int .i64 t.v.f) := bt.1 25 _ rfl
  go_wp2_with (first
   | (go_at_call 22; (with_reducible refine (k0 _).mono ?_); rintro e y0 ⟨rfl, hb0⟩; obtain ⟨_, _, ⟨hc0, hf0⟩, hz0⟩ := hb0.c3; (try simp only [wsz] at hz0 hc0 hf0)))
  refine bodyPost_ret (v := .bool false) ?_ rfl ⟨rfl, (x.trans hb0)⟩
  simp [results, Tryz.results33, go_sem, ↓IntWalk.iteOmega, *]
theorem T_ALN_1 {p : Prop} (h : p := by
 refine hK.out _ _ ?_ fun _ => ?_
 ·(try dsimp only); exact J4.st
 clear hK K hHeld
 rename_i hHeld
 try simp only [sx_]
 refine wpAnyB_done c_16 ?_ _
 go_wp2_with fail
 go_meet
 exact J4) : p := h
structure StD where
 (t x y z u v r : Int)
def stL (s : StD) : List Int := [s.t, s.x, s.y, s.z, s.u, s.v, s.r]
def alP (s : StD) : V3 := ⟨s.x, s.x, s.y, s.y, s.z, s.z⟩
def alV (s : StD) : V3 := ⟨s.u, s.u, s.v, s.v, s.r, s.r⟩
theorem tyI26 : (Tryz.prog.info? 26).map (·.size) = some 2 := by kernel_rfl
theorem wp_store_at {P : Program} {op : Oper} {a : Act} {w : World} {K : Act → World → Prop} {Q : Exit → Act → World → Prop} (ty : TypeId) (x y : Operand) (ho : op.op = .store ty x y)
    (b o : Nat) (cells : Array Value) (hx : a.eval x = .pointer (some ⟨b, o, none⟩)) (hy : a.eval y = .agg cells)
    (ht : w.there b o cells.size) (hi : (P.info? ty).map (·.size) = some cells.size) (h1 : cells.all (·.oneCell') = true)
    (h : ∀ W, RowAt W w b o cells.toList → K (a.put op.dst undef) W) : op.wp P a w K Q :=
  wp_store_mid ty x y ho b o cells hx hy ht hi h1 (h _ rfl)
theorem RowAt.own {a W w : World} {b o : Nat} {vs : List Value} (k : RowAt W w b o vs) (h : Ext a w) (hb : a.heap.size ≤ b) : Ext a W := by
 rw [show W = _ from k]; exact Ext.setCells hb vs o w h
structure AlI (w : World) (n : Nat) (s : StD) (P V : List Int) (U : World) : Prop where
 own : Ext w U
 st : VB U n (stL s)
 r2 : VB U (n + 1) [0, 0, 0, 0, 0, 0]
 r3 : VB U (n + 1 + 1) [0, 0, 0, 0, 0, 0]
 p : VB U (n + 1 + 1 + 1) P
 v : VB U (n + 1 + 1 + 1 + 1) V
theorem AlI.ext {w U W : World} {n : Nat} {s : StD} {P V : List Int} (h : AlI w n s P V U) (k : Ext U W) : AlI w n s P V W := ⟨h.own.trans k, h.st.ext k, h.r2.ext k, h.r3.ext k, h.p.ext k, h.v.ext k⟩
theorem AlI.sp {w U W : World} {n o : Nat} {s : StD} {P V m : List Int} (h : AlI w n s P V U) (k : RowAt W U (n + 1 + 1 + 1) o (m.map (Value.int .i64))) (hn : w.heap.size ≤ n) (hl : o + m.length ≤ P.length) : AlI w n s (setsL P o m) V W :=
 ⟨k.own h.own (by omega), k.other h.st (by omega), k.other h.r2 (by omega), k.other h.r3 (by omega), k.vb h.p hl, k.other h.v (by omega)⟩
theorem AlI.sv {w U W : World} {n o : Nat} {s : StD} {P V m : List Int} (h : AlI w n s P V U) (k : RowAt W U (n + 1 + 1 + 1 + 1) o (m.map (Value.int .i64))) (hn : w.heap.size ≤ n) (hl : o + m.length ≤ V.length) : AlI w n s P (setsL V o m) W :=
 ⟨k.own h.own (by omega), k.other h.st (by omega), k.other h.r2 (by omega), k.other h.r3 (by omega), k.other h.p (by omega), k.vb h.v hl⟩
theorem m_alone (s : StD) (w : World) : Calls Tryz.prog 38 #[.agg #[.int .i64 s.t, .int .i64 s.x, .int .i64 s.y, .int .i64 s.z, .int .i64 s.u, .int .i64 s.v, .int .i64 s.r]] w fun e w' => e = .returned (.tuple #[.agg #[.int .i64 s.x, .int .i64 s.x, .int .i64 s.y, .int .i64 s.y, .int .i64 s.z, .int .i64 s.z], .agg #[.int .i64 s.u, .int .i64 s.u, .int .i64 s.v, .int .i64 s.v, .int .i64 s.r, .int .i64 s.r]]) ∧ Ext w w' := by
 go_enter Tryz.func38, Tryz.ntmps38
 go_upto_region 2 with fail
 refine wp_name fun U hN => ?_
 have I0 : AlI w w.heap.size s [0, 0, 0, 0, 0, 0] [0, 0, 0, 0, 0, 0] U := by
  have e : U = _ := hN
  have b0 := VB.lit w (stL s) 79
  have e1 := (Ext.refl (w.alloc (.cells #[.int .i64 s.t, .int .i64 s.x, .int .i64 s.y, .int .i64 s.z, .int .i64 s.u, .int .i64 s.v, .int .i64 s.r] 79))).alloc (.cells #[.int .i64 0, .int .i64 0, .int .i64 0, .int .i64 0, .int .i64 0, .int .i64 0] 28)
  have e2 := (Ext.refl (((w.alloc (.cells #[.int .i64 s.t, .int .i64 s.x, .int .i64 s.y, .int .i64 s.z, .int .i64 s.u, .int .i64 s.v, .int .i64 s.r] 79)).alloc (.cells #[.int .i64 0, .int .i64 0, .int .i64 0, .int .i64 0, .int .i64 0, .int .i64 0] 28)))).alloc (.cells #[.int .i64 0, .int .i64 0, .int .i64 0, .int .i64 0, .int .i64 0, .int .i64 0] 28)
  have e3 := (Ext.refl ((((w.alloc (.cells #[.int .i64 s.t, .int .i64 s.x, .int .i64 s.y, .int .i64 s.z, .int .i64 s.u, .int .i64 s.v, .int .i64 s.r] 79)).alloc (.cells #[.int .i64 0, .int .i64 0, .int .i64 0, .int .i64 0, .int .i64 0, .int .i64 0] 28))).alloc (.cells #[.int .i64 0, .int .i64 0, .int .i64 0, .int .i64 0, .int .i64 0, .int .i64 0] 28))).alloc (.cells #[.int .i64 0, .int .i64 0, .int .i64 0, .int .i64 0, .int .i64 0, .int .i64 0] 28)
  have e4 := (Ext.refl (((((w.alloc (.cells #[.int .i64 s.t, .int .i64 s.x, .int .i64 s.y, .int .i64 s.z, .int .i64 s.u, .int .i64 s.v, .int .i64 s.r] 79)).alloc (.cells #[.int .i64 0, .int .i64 0, .int .i64 0, .int .i64 0, .int .i64 0, .int .i64 0] 28))).alloc (.cells #[.int .i64 0, .int .i64 0, .int .i64 0, .int .i64 0, .int .i64 0, .int .i64 0] 28)).alloc (.cells #[.int .i64 0, .int .i64 0, .int .i64 0, .int .i64 0, .int .i64 0, .int .i64 0] 28))).alloc (.cells #[.int .i64 0, .int .i64 0, .int .i64 0, .int .i64 0, .int .i64 0, .int .i64 0] 28)
  have b1 := VB.lit (w.alloc (.cells #[.int .i64 s.t, .int .i64 s.x, .int .i64 s.y, .int .i64 s.z, .int .i64 s.u, .int .i64 s.v, .int .i64 s.r] 79)) [0, 0, 0, 0, 0, 0] 28
  have b2 := VB.lit ((w.alloc (.cells #[.int .i64 s.t, .int .i64 s.x, .int .i64 s.y, .int .i64 s.z, .int .i64 s.u, .int .i64 s.v, .int .i64 s.r] 79)).alloc (.cells #[.int .i64 0, .int .i64 0, .int .i64 0, .int .i64 0, .int .i64 0, .int .i64 0] 28)) [0, 0, 0, 0, 0, 0] 28
  have b3 := VB.lit (((w.alloc (.cells #[.int .i64 s.t, .int .i64 s.x, .int .i64 s.y, .int .i64 s.z, .int .i64 s.u, .int .i64 s.v, .int .i64 s.r] 79)).alloc (.cells #[.int .i64 0, .int .i64 0, .int .i64 0, .int .i64 0, .int .i64 0, .int .i64 0] 28)).alloc (.cells #[.int .i64 0, .int .i64 0, .int .i64 0, .int .i64 0, .int .i64 0, .int .i64 0] 28)) [0, 0, 0, 0, 0, 0] 28
  have b4 := VB.lit ((((w.alloc (.cells #[.int .i64 s.t, .int .i64 s.x, .int .i64 s.y, .int .i64 s.z, .int .i64 s.u, .int .i64 s.v, .int .i64 s.r] 79)).alloc (.cells #[.int .i64 0, .int .i64 0, .int .i64 0, .int .i64 0, .int .i64 0, .int .i64 0] 28)).alloc (.cells #[.int .i64 0, .int .i64 0, .int .i64 0, .int .i64 0, .int .i64 0, .int .i64 0] 28)).alloc (.cells #[.int .i64 0, .int .i64 0, .int .i64 0, .int .i64 0, .int .i64 0, .int .i64 0] 28)) [0, 0, 0, 0, 0, 0] 28
  simp only [World.size_alloc] at b1 b2 b3 b4
  rw [e]
  exact ⟨(((((Ext.refl w).alloc _).alloc _).alloc _).alloc _).alloc _, (((b0.ext e1).ext e2).ext e3).ext e4, ((b1.ext e2).ext e3).ext e4, (b2.ext e3).ext e4, b3.ext e4, b4⟩
 clear hN
 go_wp2_with fail
 refine wp_loop_rounds 4 ?_
 rw [rounds_succ]
 go_upto_block 1 with fail
 go_cut [] from 11 to 24 (fun wx => AlI w w.heap.size s [s.x, s.x, 0, 0, 0, 0] [s.u, s.u, 0, 0, 0, 0] wx)
 case first =>
  go_upto_region 5 with fail
  have J0 := I0.ext (Ext.refl _).drew
  refine wp_region_till (S := (fun w0 => VB w0 w.heap.size (stL s))) (fun _ => false) c_16 ?_ (fun hHeld => ?_)
  ·exact J0.st
  try simp only [sx_]
  refine tp 0 rfl c_0 ?_
  try simp only [sx_]
  refine tp 1 rfl c_0 ?_
  try simp only [sx_]
  refine tp 2 rfl c_0 ?_
  try simp only [sx_]
  refine tp 3 rfl c_0 ?_
  try simp only [sx_]
  refine tp 4 rfl c_0 ?_
  try simp only [sx_]
  refine tb 5 rfl c_31 ?_
  try simp only [sx_]
  refine tp 7 rfl c_0 ?_
  try simp only [sx_]
  refine tp 8 rfl c_0 ?_
  try simp only [sx_]
  refine tp 9 rfl c_0 ?_
  try simp only [sx_]
  refine tb 10 rfl c_31 ?_
  try simp only [sx_]
  refine rb (i := 6) rfl fun K hK => ?_
  go_simp
  (go_at_call 35; (with_reducible refine (m_point s.x _).mono ?_); rintro e y1 ⟨rfl, hy⟩)
  have J1 := J0.ext hy
  refine hK.out _ _ ?_ fun _ => ?_
  ·(try dsimp only); exact J1.st
  clear hK K hHeld
  rename_i hHeld
  try simp only [sx_]
  refine tp 12 rfl c_0 ?_
  try simp only [sx_]
  refine rb (i := 11) rfl fun K hK => ?_
  go_simp
  (go_at_call 35; (with_reducible refine (m_point s.u _).mono ?_); rintro e y2 ⟨rfl, hy2⟩)
  have J2 := J1.ext hy2
  refine hK.out _ _ ?_ fun _ => ?_
  ·(try dsimp only); exact J2.st
  clear hK K hHeld
  rename_i hHeld
  try simp only [sx_]
  refine rb (i := 13) rfl fun K hK => ?_
  rw [if_pos (by rfl)]
  refine wp_store_at 26 (.tmp 23) (.tmp 17) rfl (w.heap.size + 1 + 1 + 1) 0 #[.int .i64 s.x, .int .i64 s.x] rfl rfl (J2.p.mid 0 2 (Nat.le_of_ble_eq_true rfl)) tyI26 c_44 (fun W1 hW1 => ?_)
  have J3 := J2.sp (m := [s.x, s.x]) hW1 (Nat.le_refl _) (Nat.le_of_ble_eq_true rfl)
  try simp only [sx_]
  refine hK.out _ _ ?_ fun _ => ?_
  ·(try dsimp only); exact J3.st
  clear hK K hHeld
  rename_i hHeld
  try simp only [sx_]
  refine tp 14 rfl c_0 ?_
  try simp only [sx_]
  refine rb (i := 15) rfl fun K hK => ?_
  rw [if_pos (by rfl)]
  refine wp_store_at 26 (.tmp 24) (.tmp 22) rfl (w.heap.size + 1 + 1 + 1 + 1) 0 #[.int .i64 s.u, .int .i64 s.u] rfl rfl (J3.v.mid 0 2 (Nat.le_of_ble_eq_true rfl)) tyI26 c_44 (fun W2 hW2 => ?_)
  have J4 := J3.sv (m := [s.u, s.u]) hW2 (Nat.le_refl _) (Nat.le_of_ble_eq_true rfl)
  try simp only [sx_]
  exact T_ALN_1
 have I1 := hcut
 clear hcut I0
 go_wp2_with fail
 rw [rounds_succ]
 go_upto_block 1 with fail
 go_cut [] from 11 to 24 (fun wx => AlI w w.heap.size s [s.x, s.x, s.y, s.y, 0, 0] [s.u, s.u, s.v, s.v, 0, 0] wx)
 case first =>
  go_upto_region 5 with fail
  have J0 := I1.ext (Ext.refl _).drew
  refine wp_region_till (S := (fun w0 => VB w0 w.heap.size (stL s))) (fun _ => false) c_16 ?_ (fun hHeld => ?_)
  ·exact J0.st
  try simp only [sx_]
  refine tp 0 rfl c_0 ?_
  try simp only [sx_]
  refine tp 1 rfl c_0 ?_
  try simp only [sx_]
  refine tp 2 rfl c_0 ?_
  try simp only [sx_]
  refine tp 3 rfl c_0 ?_
  try simp only [sx_]
  refine tp 4 rfl c_0 ?_
  try simp only [sx_]
  refine tb 5 rfl c_32 ?_
  try simp only [sx_]
  refine tp 7 rfl c_0 ?_
  try simp only [sx_]
  refine tp 8 rfl c_0 ?_
  try simp only [sx_]
  refine tp 9 rfl c_0 ?_
  try simp only [sx_]
  refine tb 10 rfl c_32 ?_
  try simp only [sx_]
  refine rb (i := 6) rfl fun K hK => ?_
  go_simp
  (go_at_call 35; (with_reducible refine (m_point s.y _).mono ?_); rintro e y1 ⟨rfl, hy⟩)
  have J1 := J0.ext hy
  refine hK.out _ _ ?_ fun _ => ?_
  ·(try dsimp only); exact J1.st
  clear hK K hHeld
  rename_i hHeld
  try simp only [sx_]
  refine tp 12 rfl c_0 ?_
  try simp only [sx_]
  refine rb (i := 11) rfl fun K hK => ?_
  go_simp
  (go_at_call 35; (with_reducible refine (m_point s.v _).mono ?_); rintro e y2 ⟨rfl, hy2⟩)
  have J2 := J1.ext hy2
  refine hK.out _ _ ?_ fun _ => ?_
  ·(try dsimp only); exact J2.st
  clear hK K hHeld
  rename_i hHeld
  try simp only [sx_]
  refine rb (i := 13) rfl fun K hK => ?_
  rw [if_pos (by rfl)]
  refine wp_store_at 26 (.tmp 23) (.tmp 17) rfl (w.heap.size + 1 + 1 + 1) 2 #[.int .i64 s.y, .int .i64 s.y] rfl rfl (J2.p.mid 2 2 (Nat.le_of_ble_eq_true rfl)) tyI26 c_44 (fun W1 hW1 => ?_)
  have J3 := J2.sp (m := [s.y, s.y]) hW1 (Nat.le_refl _) (Nat.le_of_ble_eq_true rfl)
  try simp only [sx_]
  refine hK.out _ _ ?_ fun _ => ?_
  ·(try dsimp only); exact J3.st
  clear hK K hHeld
  rename_i hHeld
  try simp only [sx_]
  refine tp 14 rfl c_0 ?_
  try simp only [sx_]
  refine rb (i := 15) rfl fun K hK => ?_
  rw [if_pos (by rfl)]
  refine wp_store_at 26 (.tmp 24) (.tmp 22) rfl (w.heap.size + 1 + 1 + 1 + 1) 2 #[.int .i64 s.v, .int .i64 s.v] rfl rfl (J3.v.mid 2 2 (Nat.le_of_ble_eq_true rfl)) tyI26 c_44 (fun W2 hW2 => ?_)
  have J4 := J3.sv (m := [s.v, s.v]) hW2 (Nat.le_refl _) (Nat.le_of_ble_eq_true rfl)
  try simp only [sx_]
  exact T_ALN_1
 have I2 := hcut
 clear hcut I1
 go_wp2_with fail
 rw [rounds_succ]
 go_upto_block 1 with fail
 go_cut [] from 11 to 24 (fun wx => AlI w w.heap.size s [s.x, s.x, s.y, s.y, s.z, s.z] [s.u, s.u, s.v, s.v, s.r, s.r] wx)
 case first =>
  go_upto_region 5 with fail
  have J0 := I2.ext (Ext.refl _).drew
  refine wp_region_till (S := (fun w0 => VB w0 w.heap.size (stL s))) (fun _ => false) c_16 ?_ (fun hHeld => ?_)
  ·exact J0.st
  try simp only [sx_]
  refine tp 0 rfl c_0 ?_
  try simp only [sx_]
  refine tp 1 rfl c_0 ?_
  try simp only [sx_]
  refine tp 2 rfl c_0 ?_
  try simp only [sx_]
  refine tp 3 rfl c_0 ?_
  try simp only [sx_]
  refine tp 4 rfl c_0 ?_
  try simp only [sx_]
  refine tb 5 rfl c_33 ?_
  try simp only [sx_]
  refine tp 7 rfl c_0 ?_
  try simp only [sx_]
  refine tp 8 rfl c_0 ?_
  try simp only [sx_]
  refine tp 9 rfl c_0 ?_
  try simp only [sx_]
  refine tb 10 rfl c_33 ?_
  try simp only [sx_]
  refine rb (i := 6) rfl fun K hK => ?_
  go_simp
  (go_at_call 35; (with_reducible refine (m_point s.z _).mono ?_); rintro e y1 ⟨rfl, hy⟩)
  have J1 := J0.ext hy
  refine hK.out _ _ ?_ fun _ => ?_
  ·(try dsimp only); exact J1.st
  clear hK K hHeld
  rename_i hHeld
  try simp only [sx_]
  refine tp 12 rfl c_0 ?_
  try simp only [sx_]
  refine rb (i := 11) rfl fun K hK => ?_
  go_simp
  (go_at_call 35; (with_reducible refine (m_point s.r _).mono ?_); rintro e y2 ⟨rfl, hy2⟩)
  have J2 := J1.ext hy2
  refine hK.out _ _ ?_ fun _ => ?_
  ·(try dsimp only); exact J2.st
  clear hK K hHeld
  rename_i hHeld
  try simp only [sx_]
  refine rb (i := 13) rfl fun K hK => ?_
  rw [if_pos (by rfl)]
  refine wp_store_at 26 (.tmp 23) (.tmp 17) rfl (w.heap.size + 1 + 1 + 1) 4 #[.int .i64 s.z, .int .i64 s.z] rfl rfl (J2.p.mid 4 2 (Nat.le_of_ble_eq_true rfl)) tyI26 c_44 (fun W1 hW1 => ?_)
  have J3 := J2.sp (m := [s.z, s.z]) hW1 (Nat.le_refl _) (Nat.le_of_ble_eq_true rfl)
  try simp only [sx_]
  refine hK.out _ _ ?_ fun _ => ?_
  ·(try dsimp only); exact J3.st
  clear hK K hHeld
  rename_i hHeld
  try simp only [sx_]
  refine tp 14 rfl c_0 ?_
  try simp only [sx_]
  refine rb (i := 15) rfl fun K hK => ?_
  rw [if_pos (by rfl)]
  refine wp_store_at 26 (.tmp 24) (.tmp 22) rfl (w.heap.size + 1 + 1 + 1 + 1) 4 #[.int .i64 s.r, .int .i64 s.r] rfl rfl (J3.v.mid 4 2 (Nat.le_of_ble_eq_true rfl)) tyI26 c_44 (fun W2 hW2 => ?_)
  have J4 := J3.sv (m := [s.r, s.r]) hW2 (Nat.le_refl _) (Nat.le_of_ble_eq_true rfl)
  try simp only [sx_]
  exact T_ALN_1
 have I3 := hcut
 clear hcut I2
 go_wp2_with fail
 rw [rounds_succ]
 go_upto_region 6 with fail
 have K := I3.ext (Ext.refl _).drew
 have r2 := K.r2
 have r3 := K.r3
 have K0 := K.own
 refine wp_region_till (S := (fun w0 => VB w0 (w.heap.size + 1 + 1 + 1) [s.x, s.x, s.y, s.y, s.z, s.z] ∧ VB w0 (w.heap.size + 1 + 1 + 1 + 1) [s.u, s.u, s.v, s.v, s.r, s.r])) (fun _ => false) c_16 ?_ (fun hHeld => ?_)
 ·exact ⟨K.p, K.v⟩
 try simp only [sx_]
 refine tb 0 rfl c_41 ?_
 try simp only [sx_]
 refine tb 1 rfl c_41 ?_
 try simp only [sx_]
 refine rb (i := 2) rfl fun K hK => ?_
 rw [if_pos (by rfl)]
 refine wp_store_at 28 (.tmp 2) (.tmp 25) rfl (w.heap.size + 1) 0 #[.int .i64 s.x, .int .i64 s.x, .int .i64 s.y, .int .i64 s.y, .int .i64 s.z, .int .i64 s.z] rfl rfl (r2.there 6 rfl) tyI28 c_44 (fun W1 hW1 => ?_)
 try simp only [sx_]
 refine hK.out _ _ ?_ fun _ => ?_
 ·(try dsimp only); exact ⟨hW1.other hHeld.1 (by omega), hW1.other hHeld.2 (by omega)⟩
 clear hK K hHeld
 rename_i hHeld
 try simp only [sx_]
 refine rb (i := 3) rfl fun K hK => ?_
 rw [if_pos (by rfl)]
 refine wp_store_at 28 (.tmp 3) (.tmp 26) rfl (w.heap.size + 1 + 1) 0 #[.int .i64 s.u, .int .i64 s.u, .int .i64 s.v, .int .i64 s.v, .int .i64 s.r, .int .i64 s.r] rfl rfl ((hW1.other r3 (by omega)).there 6 rfl) tyI28 c_44 (fun W2 hW2 => ?_)
 try simp only [sx_]
 refine hK.out _ _ ?_ fun _ => ?_
 ·(try dsimp only); exact ⟨hW2.other hHeld.1 (by omega), hW2.other hHeld.2 (by omega)⟩
 clear hK K hHeld
 rename_i hHeld
 try simp only [sx_]
 refine wpAnyB_done c_16 ?_ _
 have f2 : VB W2 (w.heap.size + 1) [s.x, s.x, s.y, s.y, s.z, s.z] := hW2.other (hW1.vb (m := [s.x, s.x, s.y, s.y, s.z, s.z]) r2 (Nat.le_of_ble_eq_true rfl)) (by omega)
 have f3 : VB W2 (w.heap.size + 1 + 1) [s.u, s.u, s.v, s.v, s.r, s.r] := hW2.vb (m := [s.u, s.u, s.v, s.v, s.r, s.r]) (hW1.other r3 (by omega)) (Nat.le_of_ble_eq_true rfl)
 have xx : Ext w W2 := hW2.own (hW1.own K0 (by omega)) (by omega)
 have p0 := f2.1 0 _ rfl
 have q0 := f3.1 0 _ rfl
 have p1 := f2.1 1 _ rfl
 have q1 := f3.1 1 _ rfl
 have p2 := f2.1 2 _ rfl
 have q2 := f3.1 2 _ rfl
 have p3 := f2.1 3 _ rfl
 have q3 := f3.1 3 _ rfl
 have p4 := f2.1 4 _ rfl
 have q4 := f3.1 4 _ rfl
 have p5 := f2.1 5 _ rfl
 have q5 := f3.1 5 _ rfl
 clear hW1 hW2 f2 f3 r2 r3 hHeld K0
 go_wp2_with fail
 refine bodyPost_ret ?_ rfl ⟨rfl, xx⟩
 simp [results, Tryz.results38, go_sem, ↓IntWalk.iteOmega, *]
def outB (a b c M : Int) : Bool := decide (M < a ∨ M < b ∨ M < c ∨ a < -M ∨ b < -M ∨ c < -M)
theorem k_out1 (a b c : Int) (w : World) : Calls Tryz.prog 126 #[.agg #[.int .i64 a, .int .i64 b, .int .i64 c], .int .i64 8796093022208] w fun e w' => e = .returned (.bool (outB a b c 8796093022208)) ∧ Ext w w' := by
 have l0 : IntKind.i64.wrap 0 = 0 := rfl
 have l1 : IntKind.i64.wrap 1 = 1 := rfl
 have l2 : IntKind.i64.wrap 2 = 2 := rfl
 go_enter Tryz.func126, Tryz.ntmps126
 go_wp2
 all_goals (
  refine bodyPost_ret (v := .bool (outB a b c 8796093022208)) ?_ rfl ⟨rfl, ?_⟩
  ·simp [results, Tryz.results126, go_sem, outB]
   (try rw [Bool.eq_iff_iff])
   (try simp only [Bool.or_eq_true, decide_eq_true_eq])
   have hmm : (if b < a then b else a) ≤ a ∧ (if b < a then b else a) ≤ b ∧ ((if b < a then b else a) = a ∨ (if b < a then b else a) = b) := by split <;> omega
   generalize (if b < a then b else a) = mm at *
   (try omega)
  ·repeat (first | with_reducible exact Ext.refl _ | with_reducible assumption | with_reducible refine Ext.alloc ?_ _ | with_reducible refine Ext.setCell ?_ c_19 _ | with_reducible refine Ext.drewN ?_ _ | with_reducible refine Ext.drew ?_ | with_reducible refine Ext.trans ?_ c_9))
theorem k_out2 (a b c : Int) (w : World) : Calls Tryz.prog 126 #[.agg #[.int .i64 a, .int .i64 b, .int .i64 c], .int .i64 1099511627776] w fun e w' => e = .returned (.bool (outB a b c 1099511627776)) ∧ Ext w w' := by
 have l0 : IntKind.i64.wrap 0 = 0 := rfl
 have l1 : IntKind.i64.wrap 1 = 1 := rfl
 have l2 : IntKind.i64.wrap 2 = 2 := rfl
 go_enter Tryz.func126, Tryz.ntmps126
 go_wp2
 all_goals (
  refine bodyPost_ret (v := .bool (outB a b c 1099511627776)) ?_ rfl ⟨rfl, ?_⟩
  ·simp [results, Tryz.results126, go_sem, outB]
   (try rw [Bool.eq_iff_iff])
   (try simp only [Bool.or_eq_true, decide_eq_true_eq])
   have hmm : (if b < a then b else a) ≤ a ∧ (if b < a then b else a) ≤ b ∧ ((if b < a then b else a) = a ∨ (if b < a then b else a) = b) := by split <;> omega
   generalize (if b < a then b else a) = mm at *
   (try omega)
  ·repeat (first | with_reducible exact Ext.refl _ | with_reducible assumption | with_reducible refine Ext.alloc ?_ _ | with_reducible refine Ext.setCell ?_ c_19 _ | with_reducible refine Ext.drewN ?_ _ | with_reducible refine Ext.drew ?_ | with_reducible refine Ext.trans ?_ c_9))
theorem eqA (d : Nat) (a b c : Int) (w : World) : (Op.equalIn (d + 1 + 1) 58 (.agg #[.int .i64 a, .int .i64 b, .int .i64 c]) (.agg #[.int .i64 0, .int .i64 0, .int .i64 0])).run Tryz.prog w = .ok (a == 0 && (b == 0 && c == 0)) w := by
 have h38 : Tryz.prog.underlying 58 = some (.array 3 2) := by kernel_rfl
 have h2 : Tryz.prog.underlying 2 = some (.int .i64) := by kernel_rfl
 rw [Op.equalIn]
 have hs : ∀ w, (sizeOf 2).run Tryz.prog w = .ok 1 w := fun w => by kernel_rfl
 have hp0 : ∀ (a b c : Int) w, (part 2 #[.int .i64 a, .int .i64 b, .int .i64 c] 0).run Tryz.prog w = .ok (.int .i64 a) w := fun a b c w => by kernel_rfl
 have hp1 : ∀ (a b c : Int) w, (part 2 #[.int .i64 a, .int .i64 b, .int .i64 c] 1).run Tryz.prog w = .ok (.int .i64 b) w := fun a b c w => by kernel_rfl
 have hp2 : ∀ (a b c : Int) w, (part 2 #[.int .i64 a, .int .i64 b, .int .i64 c] 2).run Tryz.prog w = .ok (.int .i64 c) w := fun a b c w => by kernel_rfl
 have he : ∀ (a b : Int) w, (Op.equalIn (d + 1) 2 (.int .i64 a) (.int .i64 b)).run Tryz.prog w = .ok (a == b) w := fun a b w => run_equalIn_int w d 2 .i64 .i64 a b h2
 simp only [Sem.run_bind, run_underlying h38, Result.andThen_ok, hs, Nat.mul_one]
 simp only [Std.Legacy.Range.forIn_eq_forIn_range', Std.Legacy.Range.size]
 have hr : List.range' 0 3 = [0, 1, 2] := rfl
 simp [List.range', hp0, hp1, hp2, he]
 by_cases h0 : a = 0 <;> by_cases h1 : b = 0 <;> by_cases h3 : c = 0 <;> (try simp [h0, h1, h3, he, hp1, hp2])
theorem eqA4 (a b c : Int) (w : World) : (Op.equalIn 10000 58 (.agg #[.int .i64 a, .int .i64 b, .int .i64 c]) (.agg #[.int .i64 0, .int .i64 0, .int .i64 0])).run Tryz.prog w = .ok (decide (a = 0 ∧ b = 0 ∧ c = 0)) w := (eqA 9998 a b c w).trans (by congr 1; by_cases h0 : a = 0 <;> by_cases h1 : b = 0 <;> by_cases h3 : c = 0 <;> simp [h0, h1, h3])
theorem T_KE_1 {p : Prop} (h : p := by
 go_enter Tryz.func82, Tryz.ntmps82
 go_wp2_with (first | (go_at_call 126; (with_reducible refine (hs1 _).mono ?_); rintro e w1 ⟨rfl, hb⟩; obtain ⟨_, _, ⟨hc, hf⟩, hz⟩ := hb.c3; (try simp only [wsz] at hz hc hf)) | (go_at_call 126; (with_reducible refine (hs2 _).mono ?_); rintro e w1 ⟨rfl, hb⟩; obtain ⟨_, _, ⟨hc, hf⟩, hz⟩ := hb.c3; (try simp only [wsz] at hz hc hf)))
 all_goals (
  refine bodyPost_ret (v := .int .i64 8) ?_ rfl ⟨by simp [*], ?_⟩
  ·simp [results, Tryz.results82, go_sem, ↓IntWalk.iteOmega, *]
  ·repeat (first | with_reducible exact Ext.refl _ | with_reducible assumption | with_reducible refine Ext.alloc ?_ _ | with_reducible refine Ext.setCell ?_ c_19 _ | with_reducible refine Ext.drewN ?_ _ | with_reducible refine Ext.drew ?_ | with_reducible refine Ext.trans ?_ c_9))) : p := h
def stB (t p1 p2 p3 v1 v2 v3 : Int) : Bool := decide (t < -5000000000000000) || decide (5000000000000000 < t) || decide (p1 = 0 ∧ p2 = 0 ∧ p3 = 0) || outB p1 p2 p3 8796093022208 || outB v1 v2 v3 1099511627776
def stE (t p1 p2 p3 v1 v2 v3 : Int) : Int := if stB t p1 p2 p3 v1 v2 v3 then 8 else 0
theorem k_Check (t p1 p2 p3 v1 v2 v3 : Int) (w : World) : Calls Tryz.prog 82 #[.agg #[.int .i64 t, .int .i64 p1, .int .i64 p2, .int .i64 p3, .int .i64 v1, .int .i64 v2, .int .i64 v3]] w fun e w' => e = .returned (.int .i64 (stE t p1 p2 p3 v1 v2 v3)) ∧ Ext w w' := by
 have l0 : IntKind.i64.wrap 0 = 0 := rfl
 have l1 : IntKind.i64.wrap 1 = 1 := rfl
 have l2 : IntKind.i64.wrap 2 = 2 := rfl
 have hs1 := fun w1 => k_out1 p1 p2 p3 w1
 have hs2 := fun w1 => k_out2 v1 v2 v3 w1
 unfold stE stB
 have hq := eqA4 p1 p2 p3
 generalize decide (p1 = 0 ∧ p2 = 0 ∧ p3 = 0) = o3 at hq ⊢
 generalize outB p1 p2 p3 8796093022208 = o1 at hs1 ⊢
 generalize outB v1 v2 v3 1099511627776 = o2 at hs2 ⊢
 by_cases h1 : t < -5000000000000000
 ·exact T_KE_1
 by_cases h2 : 5000000000000000 < t
 ·exact T_KE_1
 cases o3
 rotate_left
 ·exact T_KE_1
 cases o1
 ·cases o2
  ·go_enter Tryz.func82, Tryz.ntmps82
   go_wp2_with (first | (go_at_call 126; (with_reducible refine (hs1 _).mono ?_); rintro e w1 ⟨rfl, hb⟩; obtain ⟨_, _, ⟨hc, hf⟩, hz⟩ := hb.c3; (try simp only [wsz] at hz hc hf)) | (go_at_call 126; (with_reducible refine (hs2 _).mono ?_); rintro e w1 ⟨rfl, hb⟩; obtain ⟨_, _, ⟨hc, hf⟩, hz⟩ := hb.c3; (try simp only [wsz] at hz hc hf)))
   all_goals (
    refine bodyPost_ret (v := .int .i64 0) ?_ rfl ⟨by simp [*], ?_⟩
    ·simp [results, Tryz.results82, go_sem, ↓IntWalk.iteOmega, *]
    ·repeat (first | with_reducible exact Ext.refl _ | with_reducible assumption | with_reducible refine Ext.alloc ?_ _ | with_reducible refine Ext.setCell ?_ c_19 _ | with_reducible refine Ext.drewN ?_ _ | with_reducible refine Ext.drew ?_ | with_reducible refine Ext.trans ?_ c_9))
  ·exact T_KE_1
 ·exact T_KE_1
def rnT (t0 te n : Int) (k : Nat) : Int := t0 + (k : Int) * (te - t0) / n
def rnU (St : Int → Int → V3 → V3 → Tu × Int) (t0 te n : Int) (p v : V3) : Nat → Tu × Int
 | 0 => (⟨t0, t0, V3.O, V3.O, p, v⟩, 0)
 | k + 1 => if (rnU St t0 te n p v k).2 ≠ 0 then rnU St t0 te n p v k else St (rnT t0 te n k) (rnT t0 te n (k + 1)) (rnU St t0 te n p v k).1.p (rnU St t0 te n p v k).1.v
def rnL (St : Int → Int → V3 → V3 → Tu × Int) (t0 te n : Int) (p v : V3) : Nat → List Tu
 | 0 => []
 | k + 1 => rnL St t0 te n p v k ++ [(rnU St t0 te n p v (k + 1)).1]
def stC8 (s : StD) : Int := stE s.t s.x s.y s.z s.u s.v s.r
def rnR (St : Int → Int → V3 → V3 → Tu × Int) (s : StD) (te n : Int) : List Tu × Int :=
 if stC8 s ≠ 0 then ([], stC8 s) else if te < -5000000000000000 ∨ 5000000000000000 < te then ([], 16) else if n < 1 ∨ 200 < n ∨ te - s.t < n then ([], 2)
 else if (rnU St s.t te n (alP s) (alV s) n.toNat).2 ≠ 0 then ([], (rnU St s.t te n (alP s) (alV s) n.toNat).2) else (rnL St s.t te n (alP s) (alV s) n.toNat, 0)
theorem st_val {s : StD} (h : stC8 s = 0) : ckV (alP s) = 0 ∧ ckV (alV s) = 0 ∧ -5000000000000000 ≤ s.t ∧ s.t ≤ 5000000000000000 := by
 unfold stC8 stE at h
 by_cases c : stB s.t s.x s.y s.z s.u s.v s.r = true
 ·rw [if_pos c] at h; exact absurd h (by decide)
 ·have hb := Bool.eq_false_iff.2 c
  unfold stB outB at hb
  simp only [Bool.or_eq_false_iff, decide_eq_false_iff_not] at hb
  have one : ∀ x : Int, -8796093022208 ≤ x → x ≤ 8796093022208 → ckI x x = 0 := fun x h1 h2 => ckI_of ⟨Int.le_refl _, by omega, by omega⟩
  have e : ckV (alP s) = 0 := ckV_of (one s.x (by omega) (by omega)) (one s.y (by omega) (by omega)) (one s.z (by omega) (by omega))
  have f : ckV (alV s) = 0 := ckV_of (one s.u (by omega) (by omega)) (one s.v (by omega) (by omega)) (one s.r (by omega) (by omega))
  exact ⟨e, f, by omega, by omega⟩
variable {St : Int → Int → V3 → V3 → Tu × Int} {t0 te n : Int} {p v : V3}
theorem rnU_up {k : Nat} (h : (rnU St t0 te n p v k).2 ≠ 0) : ∀ j, rnU St t0 te n p v (k + j) = rnU St t0 te n p v k
 | 0 => rfl
 | j + 1 => by
  have ih := rnU_up h j
  show rnU St t0 te n p v ((k + j) + 1) = _
  rw [rnU, if_pos (by rw [ih]; exact h), ih]
theorem rnU_ok {m k : Nat} (h : (rnU St t0 te n p v m).2 = 0) (hk : k ≤ m) : (rnU St t0 te n p v k).2 = 0 := by
 by_cases c : (rnU St t0 te n p v k).2 = 0
 ·exact c
 ·have := rnU_up c (m - k)
  rw [show k + (m - k) = m by omega] at this
  rw [this] at h; exact h
theorem rnU_st {m k : Nat} (h : (rnU St t0 te n p v m).2 = 0) (hk : k < m) : St (rnT t0 te n k) (rnT t0 te n (k + 1)) (rnU St t0 te n p v k).1.p (rnU St t0 te n p v k).1.v = ((rnU St t0 te n p v (k + 1)).1, 0) := by
 have a := rnU_ok h (show k ≤ m by omega)
 have b := rnU_ok h (show k + 1 ≤ m by omega)
 have e : rnU St t0 te n p v (k + 1) = St (rnT t0 te n k) (rnT t0 te n (k + 1)) (rnU St t0 te n p v k).1.p (rnU St t0 te n p v k).1.v := by
  rw [rnU, if_neg (fun c => c a)]
 rw [← e]
 exact Prod.ext rfl b
theorem rnL_len : ∀ k, (rnL St t0 te n p v k).length = k
 | 0 => rfl
 | k + 1 => by rw [rnL, List.length_append, rnL_len k]; rfl
theorem rnL_at {j : Nat} : ∀ k, j < k → (rnL St t0 te n p v k).getD j Tu.O = (rnU St t0 te n p v (j + 1)).1
 | 0, h => absurd h (by omega)
 | k + 1, h => by
  rw [rnL, List.getD_eq_getElem?_getD]
  by_cases c : j < k
  ·rw [List.getElem?_append_left (by rw [rnL_len]; exact c), ← List.getD_eq_getElem?_getD]
   exact rnL_at k c
  ·have : j = k := by omega
   subst this
   rw [List.getElem?_append_right (by rw [rnL_len]; omega), rnL_len]
   simp
theorem rnT_zero : rnT t0 te n 0 = t0 := by
 unfold rnT
 rw [show ((0 : Nat) : Int) * (te - t0) = 0 by simp, Int.zero_ediv]; omega
theorem rnT_end (hn : 0 < n) : rnT t0 te n n.toNat = te := by
 unfold rnT
 rw [show ((n.toNat : Nat) : Int) = n by omega, Int.mul_ediv_cancel_left _ (by omega)]; omega
theorem rnT_two (hn : 0 < n) (k : Nat) : rnT t0 te (2 * n) (2 * k) = rnT t0 te n k := by
 unfold rnT
 rw [show ((2 * k : Nat) : Int) * (te - t0) = 2 * ((k : Int) * (te - t0)) by rw [Int.natCast_mul, Int.mul_assoc]; rfl, Int.mul_ediv_mul_of_pos _ _ (by decide)]
theorem rnR_ok {s : StD} {L : List Tu} (h : rnR St s te n = (L, 0)) : stC8 s = 0 ∧ -5000000000000000 ≤ te ∧ te ≤ 5000000000000000 ∧ 1 ≤ n ∧ n ≤ 200 ∧ n ≤ te - s.t ∧ (rnU St s.t te n (alP s) (alV s) n.toNat).2 = 0 ∧ L = rnL St s.t te n (alP s) (alV s) n.toNat := by
 unfold rnR at h
 by_cases c1 : stC8 s = 0
 ·rw [if_neg (fun c => c c1)] at h
  by_cases c2 : te < -5000000000000000 ∨ 5000000000000000 < te
  ·rw [if_pos c2] at h; exact absurd (congrArg Prod.snd h) (by simp)
  ·rw [if_neg c2] at h
   by_cases c3 : n < 1 ∨ 200 < n ∨ te - s.t < n
   ·rw [if_pos c3] at h; exact absurd (congrArg Prod.snd h) (by simp)
   ·rw [if_neg c3] at h
    by_cases c4 : (rnU St s.t te n (alP s) (alV s) n.toNat).2 = 0
    ·rw [if_neg (fun c => c c4)] at h
     exact ⟨c1, by omega, by omega, by omega, by omega, by omega, c4, (congrArg Prod.fst h).symm⟩
    ·rw [if_pos c4] at h; exact absurd (congrArg Prod.snd h) c4
 ·rw [if_pos c1] at h; exact absurd (congrArg Prod.snd h) c1
theorem zb65 (w : World) : VB (w.alloc (.cells #[.int .i64 0, .int .i64 0, .int .i64 0, .int .i64 0, .int .i64 0, .int .i64 0, .int .i64 0, .int .i64 0, .int .i64 0, .int .i64 0, .int .i64 0, .int .i64 0, .int .i64 0, .int .i64 0, .int .i64 0, .int .i64 0, .int .i64 0, .int .i64 0, .int .i64 0, .int .i64 0, .int .i64 0, .int .i64 0, .int .i64 0, .int .i64 0, .int .i64 0, .int .i64 0] 65)) w.heap.size (tuL Tu.O) := VB.lit w (tuL Tu.O) 65
def TuS (w : World) (v : Value) (l : List Tu) : Prop :=
 ∃ ao b o cap, v = .slice ao l.length cap ∧ (0 < l.length → ao = some ⟨b, o, none⟩) ∧ l.length ≤ 200 ∧ (0 < l.length → b < w.heap.size) ∧ ∀ i, i < l.length → w.rangeAt b (o + i * 26) (tvs (l.getD i Tu.O))
theorem TuS.ext {a w : World} {v : Value} {l : List Tu} (h : TuS a v l) (k : Ext a w) : TuS w v l := by
 obtain ⟨ao, b, o, cap, e, h1, h2, h3, h4⟩ := h
 exact ⟨ao, b, o, cap, e, h1, h2, fun h => Nat.lt_of_lt_of_le (h3 h) k.size, fun i hi => Ext.rg k (h3 (by omega)) (h4 i hi)⟩
theorem TuS.nil (w : World) : TuS w (.slice none 0 0) [] := ⟨none, 0, 0, 0, rfl, fun h => absurd h (Nat.lt_irrefl 0), by decide, fun h => absurd h (Nat.lt_irrefl 0), fun i hi => absurd hi (Nat.not_lt_zero _)⟩
end Go.Proofs.YtbkgakgdbmjmjaaGreat
