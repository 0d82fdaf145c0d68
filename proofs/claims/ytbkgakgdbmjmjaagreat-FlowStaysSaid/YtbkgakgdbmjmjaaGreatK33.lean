/- law35.point, rest; ref35.Sound. -/
import Derived.Test.YtbkgakgdbmjmjaaGreatK32
set_option linter.unusedSimpArgs false
set_option linter.unusedVariables false
set_option maxRecDepth 100000
set_option maxHeartbeats 8000000
namespace Go.Proofs.YtbkgakgdbmjmjaaGreat
open Go.RowKit
theorem m_point (x : Int) (w : World) : Calls Tryz.prog 35 #[.int .i64 x] w fun e w' => e = .returned (.agg #[.int .i64 x, .int .i64 x]) ∧ Ext w w' := by
 go_enter Tryz.func35, Tryz.ntmps35
 go_wp2_with fail
 all_goals
  refine bodyPost_ret (v := .agg #[.int .i64 x, .int .i64 x]) ?_ rfl ⟨rfl, ?_⟩
  ·(try simp only [bn_, bm_] at *)
   simp [results, Tryz.results35, go_sem, ↓IntWalk.iteOmega, *]
  ·exact b_6
theorem m_rest (w : World) : Calls Tryz.prog 43 #[] w fun e w' => e = .returned (.agg #[.int .i64 0, .int .i64 1099511627776, .int .i64 0, .int .i64 0, .int .i64 0, .int .i64 0, .int .i64 0]) ∧ Ext w w' := by
 go_enter Tryz.func43, Tryz.ntmps43
 go_wp2_with fail
 all_goals
  refine bodyPost_ret (v := .agg #[.int .i64 0, .int .i64 1099511627776, .int .i64 0, .int .i64 0, .int .i64 0, .int .i64 0, .int .i64 0]) ?_ rfl ⟨rfl, ?_⟩
  ·(try simp only [bn_, bm_] at *)
   simp [results, Tryz.results43, go_sem, ↓IntWalk.iteOmega, *]
  ·exact b_6
def sdB (t : Tu) : Bool := decide (ckV t.h = 0) && (decide (ckV t.f = 0) && (decide (ckV t.p = 0) && decide (ckV t.v = 0)))
theorem m_Sound (t : Tu) (w : World) : Calls Tryz.prog 33 #[tv t] w fun e w' => e = .returned (.bool (sdB t)) ∧ Ext w w' := by
 have k0 := fun w1 => c_check t.h w1
 have k1 := fun w1 => c_check t.f w1
 have k2 := fun w1 => c_check t.p w1
 have k3 := fun w1 => c_check t.v w1
 obtain ⟨R, hR⟩ : ∃ R, sdB t = R := ⟨_, rfl⟩
 rw [hR]
 unfold sdB at hR
 generalize ckV t.h = C0 at *
 generalize ckV t.f = C1 at *
 generalize ckV t.p = C2 at *
 generalize ckV t.v = C3 at *
 unfold tv
 by_cases e0 : C0 = 0
 ·subst e0
  by_cases e1 : C1 = 0
  ·subst e1
   by_cases e2 : C2 = 0
   ·subst e2
    by_cases e3 : C3 = 0
    ·subst e3
     have E : R = true := by rw [← hR]; rfl
     subst E
     clear hR
     go_enter Tryz.func33, Tryz.ntmps33
     go_upto_region 1 with fail
     refine wp_name fun U0 hN => ?_
     have x : Ext w U0 := Ext.same hN ((Ext.refl _).alloc _)
     have bt : VB U0 w.heap.size (tuL t) := by have e : U0 = _ := hN; rw [e]; exact VB.lit w (tuL t) 65
     have lt := bt.2.2
     clear hN
     have t2 : U0.cell? ⟨w.heap.size, 2, none⟩ = some (.int .i64 t.h.a) := bt.1 2 _ rfl
     have t3 : U0.cell? ⟨w.heap.size, 3, none⟩ = some (.int .i64 t.h.b) := bt.1 3 _ rfl
     have t4 : U0.cell? ⟨w.heap.size, 4, none⟩ = some (.int .i64 t.h.c) := bt.1 4 _ rfl
     have t5 : U0.cell? ⟨w.heap.size, 5, none⟩ = some (.int .i64 t.h.d) := bt.1 5 _ rfl
     have t6 : U0.cell? ⟨w.heap.size, 6, none⟩ = some (.int .i64 t.h.e) := bt.1 6 _ rfl
     have t7 : U0.cell? ⟨w.heap.size, 7, none⟩ = some (.int .i64 t.h.f) := bt.1 7 _ rfl
     have t8 : U0.cell? ⟨w.heap.size, 8, none⟩ = some (.int .i64 t.f.a) := bt.1 8 _ rfl
     have t9 : U0.cell? ⟨w.heap.size, 9, none⟩ = some (.int .i64 t.f.b) := bt.1 9 _ rfl
     have t10 : U0.cell? ⟨w.heap.size, 10, none⟩ = some (.int .i64 t.f.c) := bt.1 10 _ rfl
     have t11 : U0.cell? ⟨w.heap.size, 11, none⟩ = some (.int .i64 t.f.d) := bt.1 11 _ rfl
     have t12 : U0.cell? ⟨w.heap.size, 12, none⟩ = some (.int .i64 t.f.e) := bt.1 12 _ rfl
     have t13 : U0.cell? ⟨w.heap.size, 13, none⟩ = some (.int .i64 t.f.f) := bt.1 13 _ rfl
     have t14 : U0.cell? ⟨w.heap.size, 14, none⟩ = some (.int .i64 t.p.a) := bt.1 14 _ rfl
     have t15 : U0.cell? ⟨w.heap.size, 15, none⟩ = some (.int .i64 t.p.b) := bt.1 15 _ rfl
     have t16 : U0.cell? ⟨w.heap.size, 16, none⟩ = some (.int .i64 t.p.c) := bt.1 16 _ rfl
     have t17 : U0.cell? ⟨w.heap.size, 17, none⟩ = some (.int .i64 t.p.d) := bt.1 17 _ rfl
     have t18 : U0.cell? ⟨w.heap.size, 18, none⟩ = some (.int .i64 t.p.e) := bt.1 18 _ rfl
     have t19 : U0.cell? ⟨w.heap.size, 19, none⟩ = some (.int .i64 t.p.f) := bt.1 19 _ rfl
     have t20 : U0.cell? ⟨w.heap.size, 20, none⟩ = some (.int .i64 t.v.a) := bt.1 20 _ rfl
     have t21 : U0.cell? ⟨w.heap.size, 21, none⟩ = some (.int .i64 t.v.b) := bt.1 21 _ rfl
     have t22 : U0.cell? ⟨w.heap.size, 22, none⟩ = some (.int .i64 t.v.c) := bt.1 22 _ rfl
     have t23 : U0.cell? ⟨w.heap.size, 23, none⟩ = some (.int .i64 t.v.d) := bt.1 23 _ rfl
     have t24 : U0.cell? ⟨w.heap.size, 24, none⟩ = some (.int .i64 t.v.e) := bt.1 24 _ rfl
     have t25 : U0.cell? ⟨w.heap.size, 25, none⟩ = some (.int .i64 t.v.f) := bt.1 25 _ rfl
     go_wp2_with (first
      | (go_at_call 22; (with_reducible refine (k0 _).mono ?_); rintro e y0 ⟨rfl, hb0⟩; obtain ⟨_, _, ⟨hc0, hf0⟩, hz0⟩ := hb0.c3; (try simp only [wsz] at hz0 hc0 hf0))
      | (go_at_call 22; (with_reducible refine (k1 _).mono ?_); rintro e y1 ⟨rfl, hb1⟩; obtain ⟨_, _, ⟨hc1, hf1⟩, hz1⟩ := hb1.c3; (try simp only [wsz] at hz1 hc1 hf1))
      | (go_at_call 22; (with_reducible refine (k2 _).mono ?_); rintro e y2 ⟨rfl, hb2⟩; obtain ⟨_, _, ⟨hc2, hf2⟩, hz2⟩ := hb2.c3; (try simp only [wsz] at hz2 hc2 hf2))
      | (go_at_call 22; (with_reducible refine (k3 _).mono ?_); rintro e y3 ⟨rfl, hb3⟩; obtain ⟨_, _, ⟨hc3, hf3⟩, hz3⟩ := hb3.c3; (try simp only [wsz] at hz3 hc3 hf3)))
     refine bodyPost_ret (v := .bool true) ?_ rfl ⟨rfl, ((((x.trans hb0).trans hb1).trans hb2).trans hb3)⟩
     simp [results, Tryz.results33, go_sem, ↓IntWalk.iteOmega, *]
    ·have E : R = false := by rw [← hR, decide_eq_false e3]; simp only [Bool.false_and, Bool.and_false]
     subst E
     clear hR
     go_enter Tryz.func33, Tryz.ntmps33
     go_upto_region 1 with fail
     refine wp_name fun U0 hN => ?_
     have x : Ext w U0 := Ext.same hN ((Ext.refl _).alloc _)
     have bt : VB U0 w.heap.size (tuL t) := by have e : U0 = _ := hN; rw [e]; exact VB.lit w (tuL t) 65
     have lt := bt.2.2
     clear hN
     have t2 : U0.cell? ⟨w.heap.size, 2, none⟩ = some (.int .i64 t.h.a) := bt.1 2 _ rfl
     have t3 : U0.cell? ⟨w.heap.size, 3, none⟩ = some (.int .i64 t.h.b) := bt.1 3 _ rfl
     have t4 : U0.cell? ⟨w.heap.size, 4, none⟩ = some (.int .i64 t.h.c) := bt.1 4 _ rfl
     have t5 : U0.cell? ⟨w.heap.size, 5, none⟩ = some (.int .i64 t.h.d) := bt.1 5 _ rfl
     have t6 : U0.cell? ⟨w.heap.size, 6, none⟩ = some (.int .i64 t.h.e) := bt.1 6 _ rfl
     have t7 : U0.cell? ⟨w.heap.size, 7, none⟩ = some (.int .i64 t.h.f) := bt.1 7 _ rfl
     have t8 : U0.cell? ⟨w.heap.size, 8, none⟩ = some (.int .i64 t.f.a) := bt.1 8 _ rfl
     have t9 : U0.cell? ⟨w.heap.size, 9, none⟩ = some (.int .i64 t.f.b) := bt.1 9 _ rfl
     have t10 : U0.cell? ⟨w.heap.size, 10, none⟩ = some (.int .i64 t.f.c) := bt.1 10 _ rfl
     have t11 : U0.cell? ⟨w.heap.size, 11, none⟩ = some (.int .i64 t.f.d) := bt.1 11 _ rfl
     have t12 : U0.cell? ⟨w.heap.size, 12, none⟩ = some (.int .i64 t.f.e) := bt.1 12 _ rfl
     have t13 : U0.cell? ⟨w.heap.size, 13, none⟩ = some (.int .i64 t.f.f) := bt.1 13 _ rfl
     have t14 : U0.cell? ⟨w.heap.size, 14, none⟩ = some (.int .i64 t.p.a) := bt.1 14 _ rfl
     have t15 : U0.cell? ⟨w.heap.size, 15, none⟩ = some (.int .i64 t.p.b) := bt.1 15 _ rfl
     have t16 : U0.cell? ⟨w.heap.size, 16, none⟩ = some (.int .i64 t.p.c) := bt.1 16 _ rfl
     have t17 : U0.cell? ⟨w.heap.size, 17, none⟩ = some (.int .i64 t.p.d) := bt.1 17 _ rfl
     have t18 : U0.cell? ⟨w.heap.size, 18, none⟩ = some (.int .i64 t.p.e) := bt.1 18 _ rfl
     have t19 : U0.cell? ⟨w.heap.size, 19, none⟩ = some (.int .i64 t.p.f) := bt.1 19 _ rfl
     have t20 : U0.cell? ⟨w.heap.size, 20, none⟩ = some (.int .i64 t.v.a) := bt.1 20 _ rfl
     have t21 : U0.cell? ⟨w.heap.size, 21, none⟩ = some (.int .i64 t.v.b) := bt.1 21 _ rfl
     have t22 : U0.cell? ⟨w.heap.size, 22, none⟩ = some (.int .i64 t.v.c) := bt.1 22 _ rfl
     have t23 : U0.cell? ⟨w.heap.size, 23, none⟩ = some (.int .i64 t.v.d) := bt.1 23 _ rfl
     have t24 : U0.cell? ⟨w.heap.size, 24, none⟩ = some (.int .i64 t.v.e) := bt.1 24 _ rfl
     have t25 : U0.cell? ⟨w.heap.size, 25, none⟩ = some (.int .i64 t.v.f) := bt.1 25 _ rfl
     go_wp2_with (first
      | (go_at_call 22; (with_reducible refine (k0 _).mono ?_); rintro e y0 ⟨rfl, hb0⟩; obtain ⟨_, _, ⟨hc0, hf0⟩, hz0⟩ := hb0.c3; (try simp only [wsz] at hz0 hc0 hf0))
      | (go_at_call 22; (with_reducible refine (k1 _).mono ?_); rintro e y1 ⟨rfl, hb1⟩; obtain ⟨_, _, ⟨hc1, hf1⟩, hz1⟩ := hb1.c3; (try simp only [wsz] at hz1 hc1 hf1))
      | (go_at_call 22; (with_reducible refine (k2 _).mono ?_); rintro e y2 ⟨rfl, hb2⟩; obtain ⟨_, _, ⟨hc2, hf2⟩, hz2⟩ := hb2.c3; (try simp only [wsz] at hz2 hc2 hf2))
      | (go_at_call 22; (with_reducible refine (k3 _).mono ?_); rintro e y3 ⟨rfl, hb3⟩; obtain ⟨_, _, ⟨hc3, hf3⟩, hz3⟩ := hb3.c3; (try simp only [wsz] at hz3 hc3 hf3)))
     refine bodyPost_ret (v := .bool false) ?_ rfl ⟨rfl, ((((x.trans hb0).trans hb1).trans hb2).trans hb3)⟩
     simp [results, Tryz.results33, go_sem, ↓IntWalk.iteOmega, *]
   ·have E : R = false := by rw [← hR, decide_eq_false e2]; simp only [Bool.false_and, Bool.and_false]
    subst E
    clear hR
    go_enter Tryz.func33, Tryz.ntmps33
    go_upto_region 1 with fail
    refine wp_name fun U0 hN => ?_
    have x : Ext w U0 := Ext.same hN ((Ext.refl _).alloc _)
    have bt : VB U0 w.heap.size (tuL t) := by have e : U0 = _ := hN; rw [e]; exact VB.lit w (tuL t) 65
    have lt := bt.2.2
    clear hN
    have t2 : U0.cell? ⟨w.heap.size, 2, none⟩ = some (.int .i64 t.h.a) := bt.1 2 _ rfl
    have t3 : U0.cell? ⟨w.heap.size, 3, none⟩ = some (.int .i64 t.h.b) := bt.1 3 _ rfl
    have t4 : U0.cell? ⟨w.heap.size, 4, none⟩ = some (.int .i64 t.h.c) := bt.1 4 _ rfl
    have t5 : U0.cell? ⟨w.heap.size, 5, none⟩ = some (.int .i64 t.h.d) := bt.1 5 _ rfl
    have t6 : U0.cell? ⟨w.heap.size, 6, none⟩ = some (.int .i64 t.h.e) := bt.1 6 _ rfl
    have t7 : U0.cell? ⟨w.heap.size, 7, none⟩ = some (.int .i64 t.h.f) := bt.1 7 _ rfl
    have t8 : U0.cell? ⟨w.heap.size, 8, none⟩ = some (.int .i64 t.f.a) := bt.1 8 _ rfl
    have t9 : U0.cell? ⟨w.heap.size, 9, none⟩ = some (.int .i64 t.f.b) := bt.1 9 _ rfl
    have t10 : U0.cell? ⟨w.heap.size, 10, none⟩ = some (.int .i64 t.f.c) := bt.1 10 _ rfl
    have t11 : U0.cell? ⟨w.heap.size, 11, none⟩ = some (.int .i64 t.f.d) := bt.1 11 _ rfl
    have t12 : U0.cell? ⟨w.heap.size, 12, none⟩ = some (.int .i64 t.f.e) := bt.1 12 _ rfl
    have t13 : U0.cell? ⟨w.heap.size, 13, none⟩ = some (.int .i64 t.f.f) := bt.1 13 _ rfl
    have t14 : U0.cell? ⟨w.heap.size, 14, none⟩ = some (.int .i64 t.p.a) := bt.1 14 _ rfl
    have t15 : U0.cell? ⟨w.heap.size, 15, none⟩ = some (.int .i64 t.p.b) := bt.1 15 _ rfl
    have t16 : U0.cell? ⟨w.heap.size, 16, none⟩ = some (.int .i64 t.p.c) := bt.1 16 _ rfl
    have t17 : U0.cell? ⟨w.heap.size, 17, none⟩ = some (.int .i64 t.p.d) := bt.1 17 _ rfl
    have t18 : U0.cell? ⟨w.heap.size, 18, none⟩ = some (.int .i64 t.p.e) := bt.1 18 _ rfl
    have t19 : U0.cell? ⟨w.heap.size, 19, none⟩ = some (.int .i64 t.p.f) := bt.1 19 _ rfl
    have t20 : U0.cell? ⟨w.heap.size, 20, none⟩ = some (.int .i64 t.v.a) := bt.1 20 _ rfl
    have t21 : U0.cell? ⟨w.heap.size, 21, none⟩ = some (.int .i64 t.v.b) := bt.1 21 _ rfl
    have t22 : U0.cell? ⟨w.heap.size, 22, none⟩ = some (.int .i64 t.v.c) := bt.1 22 _ rfl
    have t23 : U0.cell? ⟨w.heap.size, 23, none⟩ = some (.int .i64 t.v.d) := bt.1 23 _ rfl
    have t24 : U0.cell? ⟨w.heap.size, 24, none⟩ = some (.int .i64 t.v.e) := bt.1 24 _ rfl
    have t25 : U0.cell? ⟨w.heap.size, 25, none⟩ = some (.int .i64 t.v.f) := bt.1 25 _ rfl
    go_wp2_with (first
     | (go_at_call 22; (with_reducible refine (k0 _).mono ?_); rintro e y0 ⟨rfl, hb0⟩; obtain ⟨_, _, ⟨hc0, hf0⟩, hz0⟩ := hb0.c3; (try simp only [wsz] at hz0 hc0 hf0))
     | (go_at_call 22; (with_reducible refine (k1 _).mono ?_); rintro e y1 ⟨rfl, hb1⟩; obtain ⟨_, _, ⟨hc1, hf1⟩, hz1⟩ := hb1.c3; (try simp only [wsz] at hz1 hc1 hf1))
     | (go_at_call 22; (with_reducible refine (k2 _).mono ?_); rintro e y2 ⟨rfl, hb2⟩; obtain ⟨_, _, ⟨hc2, hf2⟩, hz2⟩ := hb2.c3; (try simp only [wsz] at hz2 hc2 hf2)))
    refine bodyPost_ret (v := .bool false) ?_ rfl ⟨rfl, (((x.trans hb0).trans hb1).trans hb2)⟩
    simp [results, Tryz.results33, go_sem, ↓IntWalk.iteOmega, *]
  ·have E : R = false := by rw [← hR, decide_eq_false e1]; simp only [Bool.false_and, Bool.and_false]
   subst E
   clear hR
   go_enter Tryz.func33, Tryz.ntmps33
   go_upto_region 1 with fail
   refine wp_name fun U0 hN => ?_
   have x : Ext w U0 := Ext.same hN ((Ext.refl _).alloc _)
   have bt : VB U0 w.heap.size (tuL t) := by have e : U0 = _ := hN; rw [e]; exact VB.lit w (tuL t) 65
   have lt := bt.2.2
   clear hN
   have t2 : U0.cell? ⟨w.heap.size, 2, none⟩ = some (.int .i64 t.h.a) := bt.1 2 _ rfl
   have t3 : U0.cell? ⟨w.heap.size, 3, none⟩ = some (.int .i64 t.h.b) := bt.1 3 _ rfl
   have t4 : U0.cell? ⟨w.heap.size, 4, none⟩ = some (.int .i64 t.h.c) := bt.1 4 _ rfl
   have t5 : U0.cell? ⟨w.heap.size, 5, none⟩ = some (.int .i64 t.h.d) := bt.1 5 _ rfl
   have t6 : U0.cell? ⟨w.heap.size, 6, none⟩ = some (.int .i64 t.h.e) := bt.1 6 _ rfl
   have t7 : U0.cell? ⟨w.heap.size, 7, none⟩ = some (.int .i64 t.h.f) := bt.1 7 _ rfl
   have t8 : U0.cell? ⟨w.heap.size, 8, none⟩ = some (.int .i64 t.f.a) := bt.1 8 _ rfl
   have t9 : U0.cell? ⟨w.heap.size, 9, none⟩ = some (.int .i64 t.f.b) := bt.1 9 _ rfl
   have t10 : U0.cell? ⟨w.heap.size, 10, none⟩ = some (.int .i64 t.f.c) := bt.1 10 _ rfl
   have t11 : U0.cell? ⟨w.heap.size, 11, none⟩ = some (.int .i64 t.f.d) := bt.1 11 _ rfl
   have t12 : U0.cell? ⟨w.heap.size, 12, none⟩ = some (.int .i64 t.f.e) := bt.1 12 _ rfl
   have t13 : U0.cell? ⟨w.heap.size, 13, none⟩ = some (.int .i64 t.f.f) := bt.1 13 _ rfl
   have t14 : U0.cell? ⟨w.heap.size, 14, none⟩ = some (.int .i64 t.p.a) := bt.1 14 _ rfl
   have t15 : U0.cell? ⟨w.heap.size, 15, none⟩ = some (.int .i64 t.p.b) := bt.1 15 _ rfl
   have t16 : U0.cell? ⟨w.heap.size, 16, none⟩ = some (.int .i64 t.p.c) := bt.1 16 _ rfl
   have t17 : U0.cell? ⟨w.heap.size, 17, none⟩ = some (.int .i64 t.p.d) := bt.1 17 _ rfl
   have t18 : U0.cell? ⟨w.heap.size, 18, none⟩ = some (.int .i64 t.p.e) := bt.1 18 _ rfl
   have t19 : U0.cell? ⟨w.heap.size, 19, none⟩ = some (.int .i64 t.p.f) := bt.1 19 _ rfl
   have t20 : U0.cell? ⟨w.heap.size, 20, none⟩ = some (.int .i64 t.v.a) := bt.1 20 _ rfl
   have t21 : U0.cell? ⟨w.heap.size, 21, none⟩ = some (.int .i64 t.v.b) := bt.1 21 _ rfl
   have t22 : U0.cell? ⟨w.heap.size, 22, none⟩ = some (.int .i64 t.v.c) := bt.1 22 _ rfl
   have t23 : U0.cell? ⟨w.heap.size, 23, none⟩ = some (.int .i64 t.v.d) := bt.1 23 _ rfl
   have t24 : U0.cell? ⟨w.heap.size, 24, none⟩ = some (.int .i64 t.v.e) := bt.1 24 _ rfl
   have t25 : U0.cell? ⟨w.heap.size, 25, none⟩ = some (.int .i64 t.v.f) := bt.1 25 _ rfl
   go_wp2_with (first
    | (go_at_call 22; (with_reducible refine (k0 _).mono ?_); rintro e y0 ⟨rfl, hb0⟩; obtain ⟨_, _, ⟨hc0, hf0⟩, hz0⟩ := hb0.c3; (try simp only [wsz] at hz0 hc0 hf0))
    | (go_at_call 22; (with_reducible refine (k1 _).mono ?_); rintro e y1 ⟨rfl, hb1⟩; obtain ⟨_, _, ⟨hc1, hf1⟩, hz1⟩ := hb1.c3; (try simp only [wsz] at hz1 hc1 hf1)))
   refine bodyPost_ret (v := .bool false) ?_ rfl ⟨rfl, ((x.trans hb0).trans hb1)⟩
   simp [results, Tryz.results33, go_sem, ↓IntWalk.iteOmega, *]
 ·have E : R = false := by rw [← hR, decide_eq_false e0]; simp only [Bool.false_and, Bool.and_false]
  subst E
  clear hR
  go_enter Tryz.func33, Tryz.ntmps33
  go_upto_region 1 with fail
  refine wp_name fun U0 hN => ?_
  have x : Ext w U0 := Ext.same hN ((Ext.refl _).alloc _)
  have bt : VB U0 w.heap.size (tuL t) := by have e : U0 = _ := hN; rw [e]; exact VB.lit w (tuL t) 65
  have lt := bt.2.2
  clear hN
  have t2 : U0.cell? ⟨w.heap.size, 2, none⟩ = some (.int .i64 t.h.a) := bt.1 2 _ rfl
  have t3 : U0.cell? ⟨w.heap.size, 3, none⟩ = some (.int .i64 t.h.b) := bt.1 3 _ rfl
  have t4 : U0.cell? ⟨w.heap.size, 4, none⟩ = some (.int .i64 t.h.c) := bt.1 4 _ rfl
  have t5 : U0.cell? ⟨w.heap.size, 5, none⟩ = some (.int .i64 t.h.d) := bt.1 5 _ rfl
  have t6 : U0.cell? ⟨w.heap.size, 6, none⟩ = some (.int .i64 t.h.e) := bt.1 6 _ rfl
  have t7 : U0.cell? ⟨w.heap.size, 7, none⟩ = some (.int .i64 t.h.f) := bt.1 7 _ rfl
  have t8 : U0.cell? ⟨w.heap.size, 8, none⟩ = some (.int .i64 t.f.a) := bt.1 8 _ rfl
  have t9 : U0.cell? ⟨w.heap.size, 9, none⟩ = some (.int .i64 t.f.b) := bt.1 9 _ rfl
  have t10 : U0.cell? ⟨w.heap.size, 10, none⟩ = some (.int .i64 t.f.c) := bt.1 10 _ rfl
  have t11 : U0.cell? ⟨w.heap.size, 11, none⟩ = some (.int .i64 t.f.d) := bt.1 11 _ rfl
  have t12 : U0.cell? ⟨w.heap.size, 12, none⟩ = some (.int .i64 t.f.e) := bt.1 12 _ rfl
  have t13 : U0.cell? ⟨w.heap.size, 13, none⟩ = some (.int .i64 t.f.f) := bt.1 13 _ rfl
  have t14 : U0.cell? ⟨w.heap.size, 14, none⟩ = some (.int .i64 t.p.a) := bt.1 14 _ rfl
  have t15 : U0.cell? ⟨w.heap.size, 15, none⟩ = some (.int .i64 t.p.b) := bt.1 15 _ rfl
  have t16 : U0.cell? ⟨w.heap.size, 16, none⟩ = some (.int .i64 t.p.c) := bt.1 16 _ rfl
  have t17 : U0.cell? ⟨w.heap.size, 17, none⟩ = some (.int .i64 t.p.d) := bt.1 17 _ rfl
  have t18 : U0.cell? ⟨w.heap.size, 18, none⟩ = some (.int .i64 t.p.e) := bt.1 18 _ rfl
  have t19 : U0.cell? ⟨w.heap.size, 19, none⟩ = some (.int .i64 t.p.f) := bt.1 19 _ rfl
  have t20 : U0.cell? ⟨w.heap.size, 20, none⟩ = some (.int .i64 t.v.a) := bt.1 20 _ rfl
  have t21 : U0.cell? ⟨w.heap.size, 21, none⟩ = some (.int .i64 t.v.b) := bt.1 21 _ rfl
  have t22 : U0.cell? ⟨w.heap.size, 22, none⟩ = some (.int .i64 t.v.c) := bt.1 22 _ rfl
  have t23 : U0.cell? ⟨w.heap.size, 23, none⟩ = some (.int .i64 t.v.d) := bt.1 23 _ rfl
  have t24 : U0.cell? ⟨w.heap.size, 24, none⟩ = some (.int .i64 t.v.e) := bt.1 24 _ rfl
  have t25 : U0.cell? ⟨w.heap.size, 25, none⟩ = some (.int .i64 t.v.f) := bt.1 25 _ rfl
  go_wp2_with (first
   | (go_at_call 22; (with_reducible refine (k0 _).mono ?_); rintro e y0 ⟨rfl, hb0⟩; obtain ⟨_, _, ⟨hc0, hf0⟩, hz0⟩ := hb0.c3; (try simp only [wsz] at hz0 hc0 hf0)))
  refine bodyPost_ret (v := .bool false) ?_ rfl ⟨rfl, (x.trans hb0)⟩
  simp [results, Tryz.results33, go_sem, ↓IntWalk.iteOmega, *]
theorem T_ALN_1 {p : Prop} (h : p := by
 refine hK.out _ _ ?_ fun _ => ?_
 ·(try dsimp only); exact J4.st
 clear hK K hHeld
 rename_i hHeld
 try simp only [sx_]
 refine wpAnyB_done c_18 ?_ _
 go_wp2_with fail
 go_meet
 exact J4) : p := h
structure StD where
 (t x y z u v r : Int)
def stL (s : StD) : List Int := [s.t, s.x, s.y, s.z, s.u, s.v, s.r]
def alP (s : StD) : V3 := ⟨s.x, s.x, s.y, s.y, s.z, s.z⟩
def alV (s : StD) : V3 := ⟨s.u, s.u, s.v, s.v, s.r, s.r⟩
theorem tyI26 : (Tryz.prog.info? 26).map (·.size) = some 2 := by kernel_rfl
theorem wp_store_at {P : Program} {op : Oper} {a : Act} {w : World} {K : Act → World → Prop} {Q : Exit → Act → World → Prop} (ty : TypeId) (x y : Operand) (ho : op.op = .store ty x y)
    (b o : Nat) (cells : Array Value) (hx : a.eval x = .pointer (some ⟨b, o, none⟩)) (hy : a.eval y = .agg cells)
    (ht : w.there b o cells.size) (hi : (P.info? ty).map (·.size) = some cells.size) (h1 : cells.all (·.oneCell') = true)
    (h : ∀ W, RowAt W w b o cells.toList → K (a.put op.dst undef) W) : op.wp P a w K Q :=
  wp_store_mid ty x y ho b o cells hx hy ht hi h1 (h _ rfl)
theorem RowAt.own {a W w : World} {b o : Nat} {vs : List Value} (k : RowAt W w b o vs) (h : Ext a w) (hb : a.heap.size ≤ b) : Ext a W := by
 rw [show W = _ from k]; exact Ext.setCells hb vs o w h
structure AlI (w : World) (n : Nat) (s : StD) (P V : List Int) (U : World) : Prop where
 own : Ext w U
 st : VB U n (stL s)
 r2 : VB U (n + 1) [0, 0, 0, 0, 0, 0]
 r3 : VB U (n + 1 + 1) [0, 0, 0, 0, 0, 0]
 p : VB U (n + 1 + 1 + 1) P
 v : VB U (n + 1 + 1 + 1 + 1) V
theorem AlI.ext {w U W : World} {n : Nat} {s : StD} {P V : List Int} (h : AlI w n s P V U) (k : Ext U W) : AlI w n s P V W := ⟨h.own.trans k, h.st.ext k, h.r2.ext k, h.r3.ext k, h.p.ext k, h.v.ext k⟩
theorem AlI.sp {w U W : World} {n o : Nat} {s : StD} {P V m : List Int} (h : AlI w n s P V U) (k : RowAt W U (n + 1 + 1 + 1) o (m.map (Value.int .i64))) (hn : w.heap.size ≤ n) (hl : o + m.length ≤ P.length) : AlI w n s (setsL P o m) V W :=
 ⟨k.own h.own (by omega), k.other h.st (by omega), k.other h.r2 (by omega), k.other h.r3 (by omega), k.vb h.p hl, k.other h.v (by omega)⟩
theorem AlI.sv {w U W : World} {n o : Nat} {s : StD} {P V m : List Int} (h : AlI w n s P V U) (k : RowAt W U (n + 1 + 1 + 1 + 1) o (m.map (Value.int .i64))) (hn : w.heap.size ≤ n) (hl : o + m.length ≤ V.length) : AlI w n s P (setsL V o m) W :=
 ⟨k.own h.own (by omega), k.other h.st (by omega), k.other h.r2 (by omega), k.other h.r3 (by omega), k.other h.p (by omega), k.vb h.v hl⟩
theorem m_alone (s : StD) (w : World) : Calls Tryz.prog 38 #[.agg #[.int .i64 s.t, .int .i64 s.x, .int .i64 s.y, .int .i64 s.z, .int .i64 s.u, .int .i64 s.v, .int .i64 s.r]] w fun e w' => e = .returned (.tuple #[.agg #[.int .i64 s.x, .int .i64 s.x, .int .i64 s.y, .int .i64 s.y, .int .i64 s.z, .int .i64 s.z], .agg #[.int .i64 s.u, .int .i64 s.u, .int .i64 s.v, .int .i64 s.v, .int .i64 s.r, .int .i64 s.r]]) ∧ Ext w w' := by
 go_enter Tryz.func38, Tryz.ntmps38
 go_upto_region 2 with fail
 refine wp_name fun U hN => ?_
 have I0 : AlI w w.heap.size s [0, 0, 0, 0, 0, 0] [0, 0, 0, 0, 0, 0] U := by
  have e : U = _ := hN
  have b0 := VB.lit w (stL s) 79
  have e1 := (Ext.refl (w.alloc (.cells #[.int .i64 s.t, .int .i64 s.x, .int .i64 s.y, .int .i64 s.z, .int .i64 s.u, .int .i64 s.v, .int .i64 s.r] 79))).alloc (.cells #[.int .i64 0, .int .i64 0, .int .i64 0, .int .i64 0, .int .i64 0, .int .i64 0] 28)
  have e2 := (Ext.refl (((w.alloc (.cells #[.int .i64 s.t, .int .i64 s.x, .int .i64 s.y, .int .i64 s.z, .int .i64 s.u, .int .i64 s.v, .int .i64 s.r] 79)).alloc (.cells #[.int .i64 0, .int .i64 0, .int .i64 0, .int .i64 0, .int .i64 0, .int .i64 0] 28)))).alloc (.cells #[.int .i64 0, .int .i64 0, .int .i64 0, .int .i64 0, .int .i64 0, .int .i64 0] 28)
  have e3 := (Ext.refl ((((w.alloc (.cells #[.int .i64 s.t, .int .i64 s.x, .int .i64 s.y, .int .i64 s.z, .int .i64 s.u, .int .i64 s.v, .int .i64 s.r] 79)).alloc (.cells #[.int .i64 0, .int .i64 0, .int .i64 0, .int .i64 0, .int .i64 0, .int .i64 0] 28))).alloc (.cells #[.int .i64 0, .int .i64 0, .int .i64 0, .int .i64 0, .int .i64 0, .int .i64 0] 28))).alloc (.cells #[.int .i64 0, .int .i64 0, .int .i64 0, .int .i64 0, .int .i64 0, .int .i64 0] 28)
  have e4 := (Ext.refl (((((w.alloc (.cells #[.int .i64 s.t, .int .i64 s.x, .int .i64 s.y, .int .i64 s.z, .int .i64 s.u, .int .i64 s.v, .int .i64 s.r] 79)).alloc (.cells #[.int .i64 0, .int .i64 0, .int .i64 0, .int .i64 0, .int .i64 0, .int .i64 0] 28))).alloc (.cells #[.int .i64 0, .int .i64 0, .int .i64 0, .int .i64 0, .int .i64 0, .int .i64 0] 28)).alloc (.cells #[.int .i64 0, .int .i64 0, .int .i64 0, .int .i64 0, .int .i64 0, .int .i64 0] 28))).alloc (.cells #[.int .i64 0, .int .i64 0, .int .i64 0, .int .i64 0, .int .i64 0, .int .i64 0] 28)
  have b1 := VB.lit (w.alloc (.cells #[.int .i64 s.t, .int .i64 s.x, .int .i64 s.y, .int .i64 s.z, .int .i64 s.u, .int .i64 s.v, .int .i64 s.r] 79)) [0, 0, 0, 0, 0, 0] 28
  have b2 := VB.lit ((w.alloc (.cells #[.int .i64 s.t, .int .i64 s.x, .int .i64 s.y, .int .i64 s.z, .int .i64 s.u, .int .i64 s.v, .int .i64 s.r] 79)).alloc (.cells #[.int .i64 0, .int .i64 0, .int .i64 0, .int .i64 0, .int .i64 0, .int .i64 0] 28)) [0, 0, 0, 0, 0, 0] 28
  have b3 := VB.lit (((w.alloc (.cells #[.int .i64 s.t, .int .i64 s.x, .int .i64 s.y, .int .i64 s.z, .int .i64 s.u, .int .i64 s.v, .int .i64 s.r] 79)).alloc (.cells #[.int .i64 0, .int .i64 0, .int .i64 0, .int .i64 0, .int .i64 0, .int .i64 0] 28)).alloc (.cells #[.int .i64 0, .int .i64 0, .int .i64 0, .int .i64 0, .int .i64 0, .int .i64 0] 28)) [0, 0, 0, 0, 0, 0] 28
  have b4 := VB.lit ((((w.alloc (.cells #[.int .i64 s.t, .int .i64 s.x, .int .i64 s.y, .int .i64 s.z, .int .i64 s.u, .int .i64 s.v, .int .i64 s.r] 79)).alloc (.cells #[.int .i64 0, .int .i64 0, .int .i64 0, .int .i64 0, .int .i64 0, .int .i64 0] 28)).alloc (.cells #[.int .i64 0, .int .i64 0, .int .i64 0, .int .i64 0, .int .i64 0, .int .i64 0] 28)).alloc (.cells #[.int .i64 0, .int .i64 0, .int .i64 0, .int .i64 0, .int .i64 0, .int .i64 0] 28)) [0, 0, 0, 0, 0, 0] 28
  simp only [World.size_alloc] at b1 b2 b3 b4
  rw [e]
  exact ⟨(((((Ext.refl w).alloc _).alloc _).alloc _).alloc _).alloc _, (((b0.ext e1).ext e2).ext e3).ext e4, ((b1.ext e2).ext e3).ext e4, (b2.ext e3).ext e4, b3.ext e4, b4⟩
 clear hN
 go_wp2_with fail
 refine wp_loop_rounds 4 ?_
 rw [rounds_succ]
 go_upto_block 1 with fail
 go_cut [] from 11 to 24 (fun wx => AlI w w.heap.size s [s.x, s.x, 0, 0, 0, 0] [s.u, s.u, 0, 0, 0, 0] wx)
 case first =>
  go_upto_region 5 with fail
  have J0 := I0.ext (Ext.refl _).drew
  refine wp_region_till (S := (fun w0 => VB w0 w.heap.size (stL s))) (fun _ => false) c_18 ?_ (fun hHeld => ?_)
  ·exact J0.st
  try simp only [sx_]
  refine tp 0 rfl c_1 ?_
  try simp only [sx_]
  refine tp 1 rfl c_1 ?_
  try simp only [sx_]
  refine tp 2 rfl c_1 ?_
  try simp only [sx_]
  refine tp 3 rfl c_1 ?_
  try simp only [sx_]
  refine tp 4 rfl c_1 ?_
  try simp only [sx_]
  refine tb 5 rfl (by intro w0 hSw; have g0 := hSw.1 1 _ rfl; have g1 := hSw.1 4 _ rfl; go_simp; try with_reducible rfl) ?_
  try simp only [sx_]
  refine tp 7 rfl c_1 ?_
  try simp only [sx_]
  refine tp 8 rfl c_1 ?_
  try simp only [sx_]
  refine tp 9 rfl c_1 ?_
  try simp only [sx_]
  refine tb 10 rfl (by intro w0 hSw; have g0 := hSw.1 1 _ rfl; have g1 := hSw.1 4 _ rfl; go_simp; try with_reducible rfl) ?_
  try simp only [sx_]
  refine rb (i := 6) rfl fun K hK => ?_
  go_simp
  (go_at_call 35; (with_reducible refine (m_point s.x _).mono ?_); rintro e y1 ⟨rfl, hy⟩)
  have J1 := J0.ext hy
  refine hK.out _ _ ?_ fun _ => ?_
  ·(try dsimp only); exact J1.st
  clear hK K hHeld
  rename_i hHeld
  try simp only [sx_]
  refine tp 12 rfl c_1 ?_
  try simp only [sx_]
  refine rb (i := 11) rfl fun K hK => ?_
  go_simp
  (go_at_call 35; (with_reducible refine (m_point s.u _).mono ?_); rintro e y2 ⟨rfl, hy2⟩)
  have J2 := J1.ext hy2
  refine hK.out _ _ ?_ fun _ => ?_
  ·(try dsimp only); exact J2.st
  clear hK K hHeld
  rename_i hHeld
  try simp only [sx_]
  refine rb (i := 13) rfl fun K hK => ?_
  rw [if_pos (by rfl)]
  refine wp_store_at 26 (.tmp 23) (.tmp 17) rfl (w.heap.size + 1 + 1 + 1) 0 #[.int .i64 s.x, .int .i64 s.x] rfl rfl (J2.p.mid 0 2 (Nat.le_of_ble_eq_true rfl)) tyI26 c_43 (fun W1 hW1 => ?_)
  have J3 := J2.sp (m := [s.x, s.x]) hW1 (Nat.le_refl _) (Nat.le_of_ble_eq_true rfl)
  try simp only [sx_]
  refine hK.out _ _ ?_ fun _ => ?_
  ·(try dsimp only); exact J3.st
  clear hK K hHeld
  rename_i hHeld
  try simp only [sx_]
  refine tp 14 rfl c_1 ?_
  try simp only [sx_]
  refine rb (i := 15) rfl fun K hK => ?_
  rw [if_pos (by rfl)]
  refine wp_store_at 26 (.tmp 24) (.tmp 22) rfl (w.heap.size + 1 + 1 + 1 + 1) 0 #[.int .i64 s.u, .int .i64 s.u] rfl rfl (J3.v.mid 0 2 (Nat.le_of_ble_eq_true rfl)) tyI26 c_43 (fun W2 hW2 => ?_)
  have J4 := J3.sv (m := [s.u, s.u]) hW2 (Nat.le_refl _) (Nat.le_of_ble_eq_true rfl)
  try simp only [sx_]
  exact T_ALN_1
 have I1 := hcut
 clear hcut I0
 go_wp2_with fail
 rw [rounds_succ]
 go_upto_block 1 with fail
 go_cut [] from 11 to 24 (fun wx => AlI w w.heap.size s [s.x, s.x, s.y, s.y, 0, 0] [s.u, s.u, s.v, s.v, 0, 0] wx)
 case first =>
  go_upto_region 5 with fail
  have J0 := I1.ext (Ext.refl _).drew
  refine wp_region_till (S := (fun w0 => VB w0 w.heap.size (stL s))) (fun _ => false) c_18 ?_ (fun hHeld => ?_)
  ·exact J0.st
  try simp only [sx_]
  refine tp 0 rfl c_1 ?_
  try simp only [sx_]
  refine tp 1 rfl c_1 ?_
  try simp only [sx_]
  refine tp 2 rfl c_1 ?_
  try simp only [sx_]
  refine tp 3 rfl c_1 ?_
  try simp only [sx_]
  refine tp 4 rfl c_1 ?_
  try simp only [sx_]
  refine tb 5 rfl (by intro w0 hSw; have g0 := hSw.1 2 _ rfl; have g1 := hSw.1 5 _ rfl; go_simp; try with_reducible rfl) ?_
  try simp only [sx_]
  refine tp 7 rfl c_1 ?_
  try simp only [sx_]
  refine tp 8 rfl c_1 ?_
  try simp only [sx_]
  refine tp 9 rfl c_1 ?_
  try simp only [sx_]
  refine tb 10 rfl (by intro w0 hSw; have g0 := hSw.1 2 _ rfl; have g1 := hSw.1 5 _ rfl; go_simp; try with_reducible rfl) ?_
  try simp only [sx_]
  refine rb (i := 6) rfl fun K hK => ?_
  go_simp
  (go_at_call 35; (with_reducible refine (m_point s.y _).mono ?_); rintro e y1 ⟨rfl, hy⟩)
  have J1 := J0.ext hy
  refine hK.out _ _ ?_ fun _ => ?_
  ·(try dsimp only); exact J1.st
  clear hK K hHeld
  rename_i hHeld
  try simp only [sx_]
  refine tp 12 rfl c_1 ?_
  try simp only [sx_]
  refine rb (i := 11) rfl fun K hK => ?_
  go_simp
  (go_at_call 35; (with_reducible refine (m_point s.v _).mono ?_); rintro e y2 ⟨rfl, hy2⟩)
  have J2 := J1.ext hy2
  refine hK.out _ _ ?_ fun _ => ?_
  ·(try dsimp only); exact J2.st
  clear hK K hHeld
  rename_i hHeld
  try simp only [sx_]
  refine rb (i := 13) rfl fun K hK => ?_
  rw [if_pos (by rfl)]
  refine wp_store_at 26 (.tmp 23) (.tmp 17) rfl (w.heap.size + 1 + 1 + 1) 2 #[.int .i64 s.y, .int .i64 s.y] rfl rfl (J2.p.mid 2 2 (Nat.le_of_ble_eq_true rfl)) tyI26 c_43 (fun W1 hW1 => ?_)
  have J3 := J2.sp (m := [s.y, s.y]) hW1 (Nat.le_refl _) (Nat.le_of_ble_eq_true rfl)
  try simp only [sx_]
  refine hK.out _ _ ?_ fun _ => ?_
  ·(try dsimp only); exact J3.st
  clear hK K hHeld
  rename_i hHeld
  try simp only [sx_]
  refine tp 14 rfl c_1 ?_
  try simp only [sx_]
  refine rb (i := 15) rfl fun K hK => ?_
  rw [if_pos (by rfl)]
  refine wp_store_at 26 (.tmp 24) (.tmp 22) rfl (w.heap.size + 1 + 1 + 1 + 1) 2 #[.int .i64 s.v, .int .i64 s.v] rfl rfl (J3.v.mid 2 2 (Nat.le_of_ble_eq_true rfl)) tyI26 c_43 (fun W2 hW2 => ?_)
  have J4 := J3.sv (m := [s.v, s.v]) hW2 (Nat.le_refl _) (Nat.le_of_ble_eq_true rfl)
  try simp only [sx_]
  exact T_ALN_1
 have I2 := hcut
 clear hcut I1
 go_wp2_with fail
 rw [rounds_succ]
 go_upto_block 1 with fail
 go_cut [] from 11 to 24 (fun wx => AlI w w.heap.size s [s.x, s.x, s.y, s.y, s.z, s.z] [s.u, s.u, s.v, s.v, s.r, s.r] wx)
 case first =>
  go_upto_region 5 with fail
  have J0 := I2.ext (Ext.refl _).drew
  refine wp_region_till (S := (fun w0 => VB w0 w.heap.size (stL s))) (fun _ => false) c_18 ?_ (fun hHeld => ?_)
  ·exact J0.st
  try simp only [sx_]
  refine tp 0 rfl c_1 ?_
  try simp only [sx_]
  refine tp 1 rfl c_1 ?_
  try simp only [sx_]
  refine tp 2 rfl c_1 ?_
  try simp only [sx_]
  refine tp 3 rfl c_1 ?_
  try simp only [sx_]
  refine tp 4 rfl c_1 ?_
  try simp only [sx_]
  refine tb 5 rfl (by intro w0 hSw; have g0 := hSw.1 3 _ rfl; have g1 := hSw.1 6 _ rfl; go_simp; try with_reducible rfl) ?_
  try simp only [sx_]
  refine tp 7 rfl c_1 ?_
  try simp only [sx_]
  refine tp 8 rfl c_1 ?_
  try simp only [sx_]
  refine tp 9 rfl c_1 ?_
  try simp only [sx_]
  refine tb 10 rfl (by intro w0 hSw; have g0 := hSw.1 3 _ rfl; have g1 := hSw.1 6 _ rfl; go_simp; try with_reducible rfl) ?_
  try simp only [sx_]
  refine rb (i := 6) rfl fun K hK => ?_
  go_simp
  (go_at_call 35; (with_reducible refine (m_point s.z _).mono ?_); rintro e y1 ⟨rfl, hy⟩)
  have J1 := J0.ext hy
  refine hK.out _ _ ?_ fun _ => ?_
  ·(try dsimp only); exact J1.st
  clear hK K hHeld
  rename_i hHeld
  try simp only [sx_]
  refine tp 12 rfl c_1 ?_
  try simp only [sx_]
  refine rb (i := 11) rfl fun K hK => ?_
  go_simp
  (go_at_call 35; (with_reducible refine (m_point s.r _).mono ?_); rintro e y2 ⟨rfl, hy2⟩)
  have J2 := J1.ext hy2
  refine hK.out _ _ ?_ fun _ => ?_
  ·(try dsimp only); exact J2.st
  clear hK K hHeld
  rename_i hHeld
  try simp only [sx_]
  refine rb (i := 13) rfl fun K hK => ?_
  rw [if_pos (by rfl)]
  refine wp_store_at 26 (.tmp 23) (.tmp 17) rfl (w.heap.size + 1 + 1 + 1) 4 #[.int .i64 s.z, .int .i64 s.z] rfl rfl (J2.p.mid 4 2 (Nat.le_of_ble_eq_true rfl)) tyI26 c_43 (fun W1 hW1 => ?_)
  have J3 := J2.sp (m := [s.z, s.z]) hW1 (Nat.le_refl _) (Nat.le_of_ble_eq_true rfl)
  try simp only [sx_]
  refine hK.out _ _ ?_ fun _ => ?_
  ·(try dsimp only); exact J3.st
  clear hK K hHeld
  rename_i hHeld
  try simp only [sx_]
  refine tp 14 rfl c_1 ?_
  try simp only [sx_]
  refine rb (i := 15) rfl fun K hK => ?_
  rw [if_pos (by rfl)]
  refine wp_store_at 26 (.tmp 24) (.tmp 22) rfl (w.heap.size + 1 + 1 + 1 + 1) 4 #[.int .i64 s.r, .int .i64 s.r] rfl rfl (J3.v.mid 4 2 (Nat.le_of_ble_eq_true rfl)) tyI26 c_43 (fun W2 hW2 => ?_)
  have J4 := J3.sv (m := [s.r, s.r]) hW2 (Nat.le_refl _) (Nat.le_of_ble_eq_true rfl)
  try simp only [sx_]
  exact T_ALN_1
 have I3 := hcut
 clear hcut I2
 go_wp2_with fail
 rw [rounds_succ]
 go_upto_region 6 with fail
 have K := I3.ext (Ext.refl _).drew
 have r2 := K.r2
 have r3 := K.r3
 have K0 := K.own
 refine wp_region_till (S := (fun w0 => VB w0 (w.heap.size + 1 + 1 + 1) [s.x, s.x, s.y, s.y, s.z, s.z] ∧ VB w0 (w.heap.size + 1 + 1 + 1 + 1) [s.u, s.u, s.v, s.v, s.r, s.r])) (fun _ => false) c_18 ?_ (fun hHeld => ?_)
 ·exact ⟨K.p, K.v⟩
 try simp only [sx_]
 refine tb 0 rfl c_38 ?_
 try simp only [sx_]
 refine tb 1 rfl c_38 ?_
 try simp only [sx_]
 refine rb (i := 2) rfl fun K hK => ?_
 rw [if_pos (by rfl)]
 refine wp_store_at 28 (.tmp 2) (.tmp 25) rfl (w.heap.size + 1) 0 #[.int .i64 s.x, .int .i64 s.x, .int .i64 s.y, .int .i64 s.y, .int .i64 s.z, .int .i64 s.z] rfl rfl (r2.there 6 rfl) tyI28 c_43 (fun W1 hW1 => ?_)
 try simp only [sx_]
 refine hK.out _ _ ?_ fun _ => ?_
 ·(try dsimp only); exact ⟨hW1.other hHeld.1 (by omega), hW1.other hHeld.2 (by omega)⟩
 clear hK K hHeld
 rename_i hHeld
 try simp only [sx_]
 refine rb (i := 3) rfl fun K hK => ?_
 rw [if_pos (by rfl)]
 refine wp_store_at 28 (.tmp 3) (.tmp 26) rfl (w.heap.size + 1 + 1) 0 #[.int .i64 s.u, .int .i64 s.u, .int .i64 s.v, .int .i64 s.v, .int .i64 s.r, .int .i64 s.r] rfl rfl ((hW1.other r3 (by omega)).there 6 rfl) tyI28 c_43 (fun W2 hW2 => ?_)
 try simp only [sx_]
 refine hK.out _ _ ?_ fun _ => ?_
 ·(try dsimp only); exact ⟨hW2.other hHeld.1 (by omega), hW2.other hHeld.2 (by omega)⟩
 clear hK K hHeld
 rename_i hHeld
 try simp only [sx_]
 refine wpAnyB_done c_18 ?_ _
 have f2 : VB W2 (w.heap.size + 1) [s.x, s.x, s.y, s.y, s.z, s.z] := hW2.other (hW1.vb (m := [s.x, s.x, s.y, s.y, s.z, s.z]) r2 (Nat.le_of_ble_eq_true rfl)) (by omega)
 have f3 : VB W2 (w.heap.size + 1 + 1) [s.u, s.u, s.v, s.v, s.r, s.r] := hW2.vb (m := [s.u, s.u, s.v, s.v, s.r, s.r]) (hW1.other r3 (by omega)) (Nat.le_of_ble_eq_true rfl)
 have xx : Ext w W2 := hW2.own (hW1.own K0 (by omega)) (by omega)
 have p0 := f2.1 0 _ rfl
 have q0 := f3.1 0 _ rfl
 have p1 := f2.1 1 _ rfl
 have q1 := f3.1 1 _ rfl
 have p2 := f2.1 2 _ rfl
 have q2 := f3.1 2 _ rfl
 have p3 := f2.1 3 _ rfl
 have q3 := f3.1 3 _ rfl
 have p4 := f2.1 4 _ rfl
 have q4 := f3.1 4 _ rfl
 have p5 := f2.1 5 _ rfl
 have q5 := f3.1 5 _ rfl
 clear hW1 hW2 f2 f3 r2 r3 hHeld K0
 go_wp2_with fail
 refine bodyPost_ret ?_ rfl ⟨rfl, xx⟩
 simp [results, Tryz.results38, go_sem, ↓IntWalk.iteOmega, *]
theorem zb65 (w : World) : VB (w.alloc (.cells #[.int .i64 0, .int .i64 0, .int .i64 0, .int .i64 0, .int .i64 0, .int .i64 0, .int .i64 0, .int .i64 0, .int .i64 0, .int .i64 0, .int .i64 0, .int .i64 0, .int .i64 0, .int .i64 0, .int .i64 0, .int .i64 0, .int .i64 0, .int .i64 0, .int .i64 0, .int .i64 0, .int .i64 0, .int .i64 0, .int .i64 0, .int .i64 0, .int .i64 0, .int .i64 0] 65)) w.heap.size (tuL Tu.O) := VB.lit w (tuL Tu.O) 65
theorem g_alive5 (w : World) : Calls Tryz.prog 32 #[] w fun e w' => e = .returned (.bool true) ∧ Ext w w' := by
 have hal := fun w1 => m_alone ⟨0, 1099511627776, 0, 0, 0, 0, 0⟩ w1
 dsimp only at hal
 obtain ⟨tt, htt⟩ : ∃ tt, lvT = tt := ⟨_, rfl⟩
 have hst : ∀ w1, Calls Tryz.prog 30 #[.agg #[.slice none 0 0], .int .i64 0, .int .i64 86400000000, .agg #[.int .i64 1099511627776, .int .i64 1099511627776, .int .i64 0, .int .i64 0, .int .i64 0, .int .i64 0], .agg #[.int .i64 0, .int .i64 0, .int .i64 0, .int .i64 0, .int .i64 0, .int .i64 0]] w1 fun e w' => e = .returned (.tuple #[.agg (tvs tt).toArray, .int .i64 0]) ∧ Ext w1 w' := fun w1 => by
  have h := p_Step (.slice none 0 0) [] 0 0 86400000000 lvP V3.O w1 (lv_nil w1) lv_ck (fun _ => lv_sml) V3.O_I
  rw [lv_st, htt] at h
  exact h
 have hz := zb65
 replace hz : Hid _ := hz
 go_enter Tryz.func32, Tryz.ntmps32
 go_upto_region 2 with (first
  | (go_at_call 43; (with_reducible refine (m_rest _).mono ?_); rintro e w1 ⟨rfl, hb1⟩)
  | (go_at_call 38; (with_reducible refine (hal _).mono ?_); rintro e w2 ⟨rfl, hb2⟩))
 refine wp_name fun U2 hN => ?_
 obtain ⟨n2, h2⟩ : ∃ n, w2.heap.size = n := ⟨_, rfl⟩
 have x2 : Ext w U2 := Ext.same hN (((hb1.trans hb2).alloc _).alloc _)
 have b1 : VB U2 n2 (six lvP) := by have e : U2 = _ := hN; rw [e, ← h2]; exact (VB.lit w2 (six lvP) 28).ext ((Ext.refl _).alloc _)
 have b2 : VB U2 (n2 + 1) (six V3.O) := by
  have h := VB.lit (w2.alloc (.cells #[.int .i64 1099511627776, .int .i64 1099511627776, .int .i64 0, .int .i64 0, .int .i64 0, .int .i64 0] 28)) (six V3.O) 28
  rw [World.size_alloc] at h
  have e : U2 = _ := hN
  rw [e, ← h2]; exact h
 try rw [h2]
 clear hN h2 hb1 hb2 hal
 have p0 : U2.cell? ⟨n2, 0, none⟩ = some (.int .i64 1099511627776) := b1.1 0 _ rfl
 have q0 : U2.cell? ⟨n2 + 1, 0, none⟩ = some (.int .i64 0) := b2.1 0 _ rfl
 have p1 : U2.cell? ⟨n2, 1, none⟩ = some (.int .i64 1099511627776) := b1.1 1 _ rfl
 have q1 : U2.cell? ⟨n2 + 1, 1, none⟩ = some (.int .i64 0) := b2.1 1 _ rfl
 have p2 : U2.cell? ⟨n2, 2, none⟩ = some (.int .i64 0) := b1.1 2 _ rfl
 have q2 : U2.cell? ⟨n2 + 1, 2, none⟩ = some (.int .i64 0) := b2.1 2 _ rfl
 have p3 : U2.cell? ⟨n2, 3, none⟩ = some (.int .i64 0) := b1.1 3 _ rfl
 have q3 : U2.cell? ⟨n2 + 1, 3, none⟩ = some (.int .i64 0) := b2.1 3 _ rfl
 have p4 : U2.cell? ⟨n2, 4, none⟩ = some (.int .i64 0) := b1.1 4 _ rfl
 have q4 : U2.cell? ⟨n2 + 1, 4, none⟩ = some (.int .i64 0) := b2.1 4 _ rfl
 have p5 : U2.cell? ⟨n2, 5, none⟩ = some (.int .i64 0) := b1.1 5 _ rfl
 have q5 : U2.cell? ⟨n2 + 1, 5, none⟩ = some (.int .i64 0) := b2.1 5 _ rfl
 go_upto_region 3 with (first
  | (go_at_call 30; (with_reducible refine (hst _).mono ?_); rintro e w3 ⟨rfl, hb3⟩; have hth := (hz.out w3).there 26 rfl)
  | ((with_reducible show wpList _ _ _ _ _ _); refine store_row rfl 65 (.tmp 3) (.tmp 15) rfl w3.heap.size (tvs tt).toArray rfl rfl hth tyI65 c_47 (fun W hW => ?_)))
 have bT : VB W w3.heap.size (tuL tt) := VB.row (m := tuL tt) (hz.out w3) hW
 have xW : Ext w W := hW.ext ((x2.trans hb3).alloc _) (by have := x2.size; have := hb3.size; omega)
 obtain ⟨n3, h3⟩ : ∃ n, w3.heap.size = n := ⟨_, rfl⟩
 rw [h3] at bT
 try rw [h3]
 rw [← htt] at bT
 have c0 : W.cell? ⟨n3, 0, none⟩ = some (.int .i64 0) := bT.1 0 _ rfl
 have c1 : W.cell? ⟨n3, 1, none⟩ = some (.int .i64 86400000000) := bT.1 1 _ rfl
 have c2 : W.cell? ⟨n3, 2, none⟩ = some (.int .i64 1099185931659) := bT.1 2 _ rfl
 have c3 : W.cell? ⟨n3, 3, none⟩ = some (.int .i64 1099511627776) := bT.1 3 _ rfl
 have c21 : W.cell? ⟨n3, 21, none⟩ = some (.int .i64 (-325214509)) := bT.1 21 _ rfl
 clear p0 q0 p1 q1 p2 q2 p3 q3 p4 q4 p5 q5 hW bT hth hb3 hst hz htt h3 b1 b2 x2
 go_wp2_with fail
 refine bodyPost_ret (v := .bool true) ?_ rfl ⟨rfl, xW⟩
 simp [results, Tryz.results32, go_sem, ↓IntWalk.iteOmega, *]
end Go.Proofs.YtbkgakgdbmjmjaaGreat
