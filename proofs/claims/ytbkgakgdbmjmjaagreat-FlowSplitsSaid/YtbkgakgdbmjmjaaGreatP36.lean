/- law35.meets. -/
import Derived.Test.YtbkgakgdbmjmjaaGreatP35
set_option linter.unusedSimpArgs false
set_option linter.unusedVariables false
set_option maxRecDepth 100000
set_option maxHeartbeats 8000000
namespace Go.Proofs.YtbkgakgdbmjmjaaGreat
open Go.RowKit
theorem T_MEE_5 {p : Prop} (h : p := by
 have h := VB.lit (w.alloc (.cells #[.int .i64 a.a, .int .i64 a.b, .int .i64 a.c, .int .i64 a.d, .int .i64 a.e, .int .i64 a.f] 28)) (six b) 28
 rw [World.size_alloc] at h
 have e : U0 = _ := hN
 rw [e]; exact h) : p := h
theorem T_MEE_4 {p : Prop} (h : p := by
 go_quiet (fail)
 go_wp2_with fail
 refine bodyPost_ret (v := .bool false) ?_ rfl ⟨by rw [E], ex_⟩
 simp [results, Tryz.results34, go_sem, ↓IntWalk.iteOmega, *]) : p := h
theorem T_MEE_3 {p : Prop} (h : p := by
 go_enter Tryz.func34, Tryz.ntmps34
 go_upto_region 1 with fail
 refine wp_name fun U0 hN => ?_
 have x : Ext w U0 := Ext.same hN (((Ext.refl _).alloc _).alloc _)
 have ba : VB U0 w.heap.size (six a) := by have e : U0 = _ := hN; rw [e]; exact (VB.lit w (six a) 28).ext ((Ext.refl _).alloc _)
 have bb : VB U0 (w.heap.size + 1) (six b) := by
  exact T_MEE_5
 clear hN
 go_wp2_with fail
 refine wp_loop_rounds 4 ?_
 rw [rounds_succ]
 go_upto_region 4 with fail
 have p0 : U0.cell? ⟨w.heap.size, 0, none⟩ = some (.int .i64 a.a) := ba.1 0 _ rfl
 have p1 : U0.cell? ⟨w.heap.size, 1, none⟩ = some (.int .i64 a.b) := ba.1 1 _ rfl
 have p2 : U0.cell? ⟨w.heap.size, 2, none⟩ = some (.int .i64 a.c) := ba.1 2 _ rfl
 have p3 : U0.cell? ⟨w.heap.size, 3, none⟩ = some (.int .i64 a.d) := ba.1 3 _ rfl
 have p4 : U0.cell? ⟨w.heap.size, 4, none⟩ = some (.int .i64 a.e) := ba.1 4 _ rfl
 have p5 : U0.cell? ⟨w.heap.size, 5, none⟩ = some (.int .i64 a.f) := ba.1 5 _ rfl
 have q0 : U0.cell? ⟨w.heap.size + 1, 0, none⟩ = some (.int .i64 b.a) := bb.1 0 _ rfl
 have q1 : U0.cell? ⟨w.heap.size + 1, 1, none⟩ = some (.int .i64 b.b) := bb.1 1 _ rfl
 have q2 : U0.cell? ⟨w.heap.size + 1, 2, none⟩ = some (.int .i64 b.c) := bb.1 2 _ rfl
 have q3 : U0.cell? ⟨w.heap.size + 1, 3, none⟩ = some (.int .i64 b.d) := bb.1 3 _ rfl
 have q4 : U0.cell? ⟨w.heap.size + 1, 4, none⟩ = some (.int .i64 b.e) := bb.1 4 _ rfl
 have q5 : U0.cell? ⟨w.heap.size + 1, 5, none⟩ = some (.int .i64 b.f) := bb.1 5 _ rfl
 exact T_MEE_4) : p := h
theorem T_MEE_2 {p : Prop} (h : p := by
 go_enter Tryz.func34, Tryz.ntmps34
 go_upto_region 1 with fail
 refine wp_name fun U0 hN => ?_
 have x : Ext w U0 := Ext.same hN (((Ext.refl _).alloc _).alloc _)
 have ba : VB U0 w.heap.size (six a) := by have e : U0 = _ := hN; rw [e]; exact (VB.lit w (six a) 28).ext ((Ext.refl _).alloc _)
 have bb : VB U0 (w.heap.size + 1) (six b) := by
  exact T_MEE_5
 clear hN
 go_wp2_with fail
 refine wp_loop_rounds 4 ?_
 rw [rounds_succ]
 go_upto_region 4 with fail
 have p0 : U0.cell? ⟨w.heap.size, 0, none⟩ = some (.int .i64 a.a) := ba.1 0 _ rfl
 have p1 : U0.cell? ⟨w.heap.size, 1, none⟩ = some (.int .i64 a.b) := ba.1 1 _ rfl
 have p2 : U0.cell? ⟨w.heap.size, 2, none⟩ = some (.int .i64 a.c) := ba.1 2 _ rfl
 have p3 : U0.cell? ⟨w.heap.size, 3, none⟩ = some (.int .i64 a.d) := ba.1 3 _ rfl
 have p4 : U0.cell? ⟨w.heap.size, 4, none⟩ = some (.int .i64 a.e) := ba.1 4 _ rfl
 have p5 : U0.cell? ⟨w.heap.size, 5, none⟩ = some (.int .i64 a.f) := ba.1 5 _ rfl
 have q0 : U0.cell? ⟨w.heap.size + 1, 0, none⟩ = some (.int .i64 b.a) := bb.1 0 _ rfl
 have q1 : U0.cell? ⟨w.heap.size + 1, 1, none⟩ = some (.int .i64 b.b) := bb.1 1 _ rfl
 have q2 : U0.cell? ⟨w.heap.size + 1, 2, none⟩ = some (.int .i64 b.c) := bb.1 2 _ rfl
 have q3 : U0.cell? ⟨w.heap.size + 1, 3, none⟩ = some (.int .i64 b.d) := bb.1 3 _ rfl
 have q4 : U0.cell? ⟨w.heap.size + 1, 4, none⟩ = some (.int .i64 b.e) := bb.1 4 _ rfl
 have q5 : U0.cell? ⟨w.heap.size + 1, 5, none⟩ = some (.int .i64 b.f) := bb.1 5 _ rfl
 go_quiet (fail)
 go_wp2_with fail
 rw [rounds_succ]
 go_upto_region 4 with fail
 refine wp_name fun U1 hN => ?_
 have eN : Ext U0 U1 := Ext.same hN ex_
 replace x := x.trans eN
 replace ba := ba.ext eN
 replace bb := bb.ext eN
 clear p0 q0 p1 q1 p2 q2 p3 q3 p4 q4 p5 q5
 clear hN eN
 have p0 : U1.cell? ⟨w.heap.size, 0, none⟩ = some (.int .i64 a.a) := ba.1 0 _ rfl
 have p1 : U1.cell? ⟨w.heap.size, 1, none⟩ = some (.int .i64 a.b) := ba.1 1 _ rfl
 have p2 : U1.cell? ⟨w.heap.size, 2, none⟩ = some (.int .i64 a.c) := ba.1 2 _ rfl
 have p3 : U1.cell? ⟨w.heap.size, 3, none⟩ = some (.int .i64 a.d) := ba.1 3 _ rfl
 have p4 : U1.cell? ⟨w.heap.size, 4, none⟩ = some (.int .i64 a.e) := ba.1 4 _ rfl
 have p5 : U1.cell? ⟨w.heap.size, 5, none⟩ = some (.int .i64 a.f) := ba.1 5 _ rfl
 have q0 : U1.cell? ⟨w.heap.size + 1, 0, none⟩ = some (.int .i64 b.a) := bb.1 0 _ rfl
 have q1 : U1.cell? ⟨w.heap.size + 1, 1, none⟩ = some (.int .i64 b.b) := bb.1 1 _ rfl
 have q2 : U1.cell? ⟨w.heap.size + 1, 2, none⟩ = some (.int .i64 b.c) := bb.1 2 _ rfl
 have q3 : U1.cell? ⟨w.heap.size + 1, 3, none⟩ = some (.int .i64 b.d) := bb.1 3 _ rfl
 have q4 : U1.cell? ⟨w.heap.size + 1, 4, none⟩ = some (.int .i64 b.e) := bb.1 4 _ rfl
 have q5 : U1.cell? ⟨w.heap.size + 1, 5, none⟩ = some (.int .i64 b.f) := bb.1 5 _ rfl
 exact T_MEE_4) : p := h
theorem T_MEE_1 {p : Prop} (h : p := by
 go_enter Tryz.func34, Tryz.ntmps34
 go_upto_region 1 with fail
 refine wp_name fun U0 hN => ?_
 have x : Ext w U0 := Ext.same hN (((Ext.refl _).alloc _).alloc _)
 have ba : VB U0 w.heap.size (six a) := by have e : U0 = _ := hN; rw [e]; exact (VB.lit w (six a) 28).ext ((Ext.refl _).alloc _)
 have bb : VB U0 (w.heap.size + 1) (six b) := by
  exact T_MEE_5
 clear hN
 go_wp2_with fail
 refine wp_loop_rounds 4 ?_
 rw [rounds_succ]
 go_upto_region 4 with fail
 have p0 : U0.cell? ⟨w.heap.size, 0, none⟩ = some (.int .i64 a.a) := ba.1 0 _ rfl
 have p1 : U0.cell? ⟨w.heap.size, 1, none⟩ = some (.int .i64 a.b) := ba.1 1 _ rfl
 have p2 : U0.cell? ⟨w.heap.size, 2, none⟩ = some (.int .i64 a.c) := ba.1 2 _ rfl
 have p3 : U0.cell? ⟨w.heap.size, 3, none⟩ = some (.int .i64 a.d) := ba.1 3 _ rfl
 have p4 : U0.cell? ⟨w.heap.size, 4, none⟩ = some (.int .i64 a.e) := ba.1 4 _ rfl
 have p5 : U0.cell? ⟨w.heap.size, 5, none⟩ = some (.int .i64 a.f) := ba.1 5 _ rfl
 have q0 : U0.cell? ⟨w.heap.size + 1, 0, none⟩ = some (.int .i64 b.a) := bb.1 0 _ rfl
 have q1 : U0.cell? ⟨w.heap.size + 1, 1, none⟩ = some (.int .i64 b.b) := bb.1 1 _ rfl
 have q2 : U0.cell? ⟨w.heap.size + 1, 2, none⟩ = some (.int .i64 b.c) := bb.1 2 _ rfl
 have q3 : U0.cell? ⟨w.heap.size + 1, 3, none⟩ = some (.int .i64 b.d) := bb.1 3 _ rfl
 have q4 : U0.cell? ⟨w.heap.size + 1, 4, none⟩ = some (.int .i64 b.e) := bb.1 4 _ rfl
 have q5 : U0.cell? ⟨w.heap.size + 1, 5, none⟩ = some (.int .i64 b.f) := bb.1 5 _ rfl
 go_quiet (fail)
 go_wp2_with fail
 rw [rounds_succ]
 go_upto_region 4 with fail
 refine wp_name fun U1 hN => ?_
 have eN : Ext U0 U1 := Ext.same hN ex_
 replace x := x.trans eN
 replace ba := ba.ext eN
 replace bb := bb.ext eN
 clear p0 q0 p1 q1 p2 q2 p3 q3 p4 q4 p5 q5
 clear hN eN
 have p0 : U1.cell? ⟨w.heap.size, 0, none⟩ = some (.int .i64 a.a) := ba.1 0 _ rfl
 have p1 : U1.cell? ⟨w.heap.size, 1, none⟩ = some (.int .i64 a.b) := ba.1 1 _ rfl
 have p2 : U1.cell? ⟨w.heap.size, 2, none⟩ = some (.int .i64 a.c) := ba.1 2 _ rfl
 have p3 : U1.cell? ⟨w.heap.size, 3, none⟩ = some (.int .i64 a.d) := ba.1 3 _ rfl
 have p4 : U1.cell? ⟨w.heap.size, 4, none⟩ = some (.int .i64 a.e) := ba.1 4 _ rfl
 have p5 : U1.cell? ⟨w.heap.size, 5, none⟩ = some (.int .i64 a.f) := ba.1 5 _ rfl
 have q0 : U1.cell? ⟨w.heap.size + 1, 0, none⟩ = some (.int .i64 b.a) := bb.1 0 _ rfl
 have q1 : U1.cell? ⟨w.heap.size + 1, 1, none⟩ = some (.int .i64 b.b) := bb.1 1 _ rfl
 have q2 : U1.cell? ⟨w.heap.size + 1, 2, none⟩ = some (.int .i64 b.c) := bb.1 2 _ rfl
 have q3 : U1.cell? ⟨w.heap.size + 1, 3, none⟩ = some (.int .i64 b.d) := bb.1 3 _ rfl
 have q4 : U1.cell? ⟨w.heap.size + 1, 4, none⟩ = some (.int .i64 b.e) := bb.1 4 _ rfl
 have q5 : U1.cell? ⟨w.heap.size + 1, 5, none⟩ = some (.int .i64 b.f) := bb.1 5 _ rfl
 go_quiet (fail)
 go_wp2_with fail
 rw [rounds_succ]
 go_upto_region 4 with fail
 refine wp_name fun U2 hN => ?_
 have eN : Ext U1 U2 := Ext.same hN ex_
 replace x := x.trans eN
 replace ba := ba.ext eN
 replace bb := bb.ext eN
 clear p0 q0 p1 q1 p2 q2 p3 q3 p4 q4 p5 q5
 clear hN eN
 have p0 : U2.cell? ⟨w.heap.size, 0, none⟩ = some (.int .i64 a.a) := ba.1 0 _ rfl
 have p1 : U2.cell? ⟨w.heap.size, 1, none⟩ = some (.int .i64 a.b) := ba.1 1 _ rfl
 have p2 : U2.cell? ⟨w.heap.size, 2, none⟩ = some (.int .i64 a.c) := ba.1 2 _ rfl
 have p3 : U2.cell? ⟨w.heap.size, 3, none⟩ = some (.int .i64 a.d) := ba.1 3 _ rfl
 have p4 : U2.cell? ⟨w.heap.size, 4, none⟩ = some (.int .i64 a.e) := ba.1 4 _ rfl
 have p5 : U2.cell? ⟨w.heap.size, 5, none⟩ = some (.int .i64 a.f) := ba.1 5 _ rfl
 have q0 : U2.cell? ⟨w.heap.size + 1, 0, none⟩ = some (.int .i64 b.a) := bb.1 0 _ rfl
 have q1 : U2.cell? ⟨w.heap.size + 1, 1, none⟩ = some (.int .i64 b.b) := bb.1 1 _ rfl
 have q2 : U2.cell? ⟨w.heap.size + 1, 2, none⟩ = some (.int .i64 b.c) := bb.1 2 _ rfl
 have q3 : U2.cell? ⟨w.heap.size + 1, 3, none⟩ = some (.int .i64 b.d) := bb.1 3 _ rfl
 have q4 : U2.cell? ⟨w.heap.size + 1, 4, none⟩ = some (.int .i64 b.e) := bb.1 4 _ rfl
 have q5 : U2.cell? ⟨w.heap.size + 1, 5, none⟩ = some (.int .i64 b.f) := bb.1 5 _ rfl
 exact T_MEE_4) : p := h
theorem m_meets (a b : V3) (w : World) : Calls Tryz.prog 34 #[.agg #[.int .i64 a.a, .int .i64 a.b, .int .i64 a.c, .int .i64 a.d, .int .i64 a.e, .int .i64 a.f], .agg #[.int .i64 b.a, .int .i64 b.b, .int .i64 b.c, .int .i64 b.d, .int .i64 b.e, .int .i64 b.f]] w fun e w' => e = .returned (.bool (mtV a b)) ∧ Ext w w' := by
 by_cases x0 : a.a ≤ b.b
 ·by_cases y0 : b.a ≤ a.b
  ·by_cases x1 : a.c ≤ b.d
   ·by_cases y1 : b.c ≤ a.d
    ·by_cases x2 : a.e ≤ b.f
     ·by_cases y2 : b.e ≤ a.f
      ·have E : mtV a b = true := by unfold mtV mt1; simp only [decide_eq_true x0, decide_eq_true y0, decide_eq_true x1, decide_eq_true y1, decide_eq_true x2, decide_eq_true y2, Bool.and_self]
       go_enter Tryz.func34, Tryz.ntmps34
       go_upto_region 1 with fail
       refine wp_name fun U0 hN => ?_
       have x : Ext w U0 := Ext.same hN (((Ext.refl _).alloc _).alloc _)
       have ba : VB U0 w.heap.size (six a) := by have e : U0 = _ := hN; rw [e]; exact (VB.lit w (six a) 28).ext ((Ext.refl _).alloc _)
       have bb : VB U0 (w.heap.size + 1) (six b) := by
        exact T_MEE_5
       clear hN
       go_wp2_with fail
       refine wp_loop_rounds 4 ?_
       rw [rounds_succ]
       go_upto_region 4 with fail
       have p0 : U0.cell? ⟨w.heap.size, 0, none⟩ = some (.int .i64 a.a) := ba.1 0 _ rfl
       have p1 : U0.cell? ⟨w.heap.size, 1, none⟩ = some (.int .i64 a.b) := ba.1 1 _ rfl
       have p2 : U0.cell? ⟨w.heap.size, 2, none⟩ = some (.int .i64 a.c) := ba.1 2 _ rfl
       have p3 : U0.cell? ⟨w.heap.size, 3, none⟩ = some (.int .i64 a.d) := ba.1 3 _ rfl
       have p4 : U0.cell? ⟨w.heap.size, 4, none⟩ = some (.int .i64 a.e) := ba.1 4 _ rfl
       have p5 : U0.cell? ⟨w.heap.size, 5, none⟩ = some (.int .i64 a.f) := ba.1 5 _ rfl
       have q0 : U0.cell? ⟨w.heap.size + 1, 0, none⟩ = some (.int .i64 b.a) := bb.1 0 _ rfl
       have q1 : U0.cell? ⟨w.heap.size + 1, 1, none⟩ = some (.int .i64 b.b) := bb.1 1 _ rfl
       have q2 : U0.cell? ⟨w.heap.size + 1, 2, none⟩ = some (.int .i64 b.c) := bb.1 2 _ rfl
       have q3 : U0.cell? ⟨w.heap.size + 1, 3, none⟩ = some (.int .i64 b.d) := bb.1 3 _ rfl
       have q4 : U0.cell? ⟨w.heap.size + 1, 4, none⟩ = some (.int .i64 b.e) := bb.1 4 _ rfl
       have q5 : U0.cell? ⟨w.heap.size + 1, 5, none⟩ = some (.int .i64 b.f) := bb.1 5 _ rfl
       go_quiet (fail)
       go_wp2_with fail
       rw [rounds_succ]
       go_upto_region 4 with fail
       refine wp_name fun U1 hN => ?_
       have eN : Ext U0 U1 := Ext.same hN ex_
       replace x := x.trans eN
       replace ba := ba.ext eN
       replace bb := bb.ext eN
       clear p0 q0 p1 q1 p2 q2 p3 q3 p4 q4 p5 q5
       clear hN eN
       have p0 : U1.cell? ⟨w.heap.size, 0, none⟩ = some (.int .i64 a.a) := ba.1 0 _ rfl
       have p1 : U1.cell? ⟨w.heap.size, 1, none⟩ = some (.int .i64 a.b) := ba.1 1 _ rfl
       have p2 : U1.cell? ⟨w.heap.size, 2, none⟩ = some (.int .i64 a.c) := ba.1 2 _ rfl
       have p3 : U1.cell? ⟨w.heap.size, 3, none⟩ = some (.int .i64 a.d) := ba.1 3 _ rfl
       have p4 : U1.cell? ⟨w.heap.size, 4, none⟩ = some (.int .i64 a.e) := ba.1 4 _ rfl
       have p5 : U1.cell? ⟨w.heap.size, 5, none⟩ = some (.int .i64 a.f) := ba.1 5 _ rfl
       have q0 : U1.cell? ⟨w.heap.size + 1, 0, none⟩ = some (.int .i64 b.a) := bb.1 0 _ rfl
       have q1 : U1.cell? ⟨w.heap.size + 1, 1, none⟩ = some (.int .i64 b.b) := bb.1 1 _ rfl
       have q2 : U1.cell? ⟨w.heap.size + 1, 2, none⟩ = some (.int .i64 b.c) := bb.1 2 _ rfl
       have q3 : U1.cell? ⟨w.heap.size + 1, 3, none⟩ = some (.int .i64 b.d) := bb.1 3 _ rfl
       have q4 : U1.cell? ⟨w.heap.size + 1, 4, none⟩ = some (.int .i64 b.e) := bb.1 4 _ rfl
       have q5 : U1.cell? ⟨w.heap.size + 1, 5, none⟩ = some (.int .i64 b.f) := bb.1 5 _ rfl
       go_quiet (fail)
       go_wp2_with fail
       rw [rounds_succ]
       go_upto_region 4 with fail
       refine wp_name fun U2 hN => ?_
       have eN : Ext U1 U2 := Ext.same hN ex_
       replace x := x.trans eN
       replace ba := ba.ext eN
       replace bb := bb.ext eN
       clear p0 q0 p1 q1 p2 q2 p3 q3 p4 q4 p5 q5
       clear hN eN
       have p0 : U2.cell? ⟨w.heap.size, 0, none⟩ = some (.int .i64 a.a) := ba.1 0 _ rfl
       have p1 : U2.cell? ⟨w.heap.size, 1, none⟩ = some (.int .i64 a.b) := ba.1 1 _ rfl
       have p2 : U2.cell? ⟨w.heap.size, 2, none⟩ = some (.int .i64 a.c) := ba.1 2 _ rfl
       have p3 : U2.cell? ⟨w.heap.size, 3, none⟩ = some (.int .i64 a.d) := ba.1 3 _ rfl
       have p4 : U2.cell? ⟨w.heap.size, 4, none⟩ = some (.int .i64 a.e) := ba.1 4 _ rfl
       have p5 : U2.cell? ⟨w.heap.size, 5, none⟩ = some (.int .i64 a.f) := ba.1 5 _ rfl
       have q0 : U2.cell? ⟨w.heap.size + 1, 0, none⟩ = some (.int .i64 b.a) := bb.1 0 _ rfl
       have q1 : U2.cell? ⟨w.heap.size + 1, 1, none⟩ = some (.int .i64 b.b) := bb.1 1 _ rfl
       have q2 : U2.cell? ⟨w.heap.size + 1, 2, none⟩ = some (.int .i64 b.c) := bb.1 2 _ rfl
       have q3 : U2.cell? ⟨w.heap.size + 1, 3, none⟩ = some (.int .i64 b.d) := bb.1 3 _ rfl
       have q4 : U2.cell? ⟨w.heap.size + 1, 4, none⟩ = some (.int .i64 b.e) := bb.1 4 _ rfl
       have q5 : U2.cell? ⟨w.heap.size + 1, 5, none⟩ = some (.int .i64 b.f) := bb.1 5 _ rfl
       go_quiet (fail)
       go_wp2_with fail
       rw [rounds_succ]
       go_wp2_with fail
       refine bodyPost_ret (v := .bool true) ?_ rfl ⟨by rw [E], ex_⟩
       simp [results, Tryz.results34, go_sem, ↓IntWalk.iteOmega, *]
      ·have E : mtV a b = false := by unfold mtV mt1; rw [decide_eq_false y2]; simp only [Bool.false_and, Bool.and_false]
       exact T_MEE_1
     ·have E : mtV a b = false := by unfold mtV mt1; rw [decide_eq_false x2]; simp only [Bool.false_and, Bool.and_false]
      exact T_MEE_1
    ·have E : mtV a b = false := by unfold mtV mt1; rw [decide_eq_false y1]; simp only [Bool.false_and, Bool.and_false]
     exact T_MEE_2
   ·have E : mtV a b = false := by unfold mtV mt1; rw [decide_eq_false x1]; simp only [Bool.false_and, Bool.and_false]
    exact T_MEE_2
  ·have E : mtV a b = false := by unfold mtV mt1; rw [decide_eq_false y0]; simp only [Bool.false_and, Bool.and_false]
   exact T_MEE_3
 ·have E : mtV a b = false := by unfold mtV mt1; rw [decide_eq_false x0]; simp only [Bool.false_and, Bool.and_false]
  exact T_MEE_3
def rtG (N : Nat) : Nat → Nat → Nat
 | 0, r => r
 | k + 1, r => if (r + 2 ^ k) * (r + 2 ^ k) ≤ N then rtG N k (r + 2 ^ k) else rtG N k r
theorem rtG_is (N : Nat) : ∀ (k r : Nat), r * r ≤ N → N < (r + 2 ^ k) * (r + 2 ^ k) → rtG N k r * rtG N k r ≤ N ∧ N < (rtG N k r + 1) * (rtG N k r + 1)
 | 0, r, h1, h2 => ⟨h1, by simpa [rtG] using h2⟩
 | k + 1, r, h1, h2 => by
  unfold rtG
  split
  ·rename_i h
   refine rtG_is N k _ h ?_
   rw [Nat.add_assoc, ← Nat.two_mul, ← Nat.pow_succ']
   exact h2
  ·rename_i h
   exact rtG_is N k r h1 (by omega)
def rootC (x : Int) : Int := (rtG (x.toNat * 1099511627776) 52 0 : Nat)
theorem rootC_eq {x : Int} (h0 : 0 ≤ x) (h1 : x ≤ 2305843009213693952) : rootI x = rootC x := by
 obtain ⟨n, rfl⟩ := Int.eq_ofNat_of_zero_le h0
 have hn : n ≤ 2305843009213693952 := by omega
 have h := rtG_is (n * 1099511627776) 52 0 (Nat.zero_le _) (by
  have : n * 1099511627776 ≤ 2305843009213693952 * 1099511627776 := Nat.mul_le_mul_right _ hn
  refine Nat.lt_of_le_of_lt this (by decide))
 refine (IsRoot.eq ?_).symm
 unfold rootC
 rw [Int.toNat_natCast]
 generalize rtG (n * 1099511627776) 52 0 = r at *
 refine ⟨by omega, ?_, ?_⟩
 ·have := Int.ofNat_le.2 h.1; simpa using this
 ·have := Int.ofNat_lt.2 h.2; simpa using this
def sqrtC (a b : Int) : R3 := if ckI a b ≠ 0 then ⟨0, 0, ckI a b⟩ else if a < 0 then ⟨0, 0, 2⟩ else ⟨rootC a, if rootC b * rootC b = b * 1099511627776 then rootC b else rootC b + 1, 0⟩
theorem sqrtI_c : sqrtI = sqrtC := by
 funext a b
 unfold sqrtI sqrtC
 split
 ·rfl
 ·rename_i h
  split
  ·rfl
  ·rename_i h2
   obtain ⟨k1, k2, k3⟩ := ckI_ok (Classical.not_not.1 h)
   rw [rootC_eq (by omega) (by omega), rootC_eq (by omega) (by omega)]
def sz1C (q : R3) : R3 := doI q.e (sqrtC q.lo q.hi)
def sz2C (q : R3) : R3 := doI (sz1C q).e (mulI q.lo q.hi (sz1C q).lo (sz1C q).hi)
theorem sz2_c (q : R3) : sz2 q = sz2C q := by unfold sz2 sz1; rw [sqrtI_c]; rfl
def plRC (E x y : Int) (d : V3) : V7 := ⟨plV (sz2C (doI E (nrmV d))) x y d, (pl2 (sz2C (doI E (nrmV d))) x y d).e⟩
theorem plR_c : plR = plRC := by
 funext E x y d
 unfold plR
 rw [sz2_c]
 rfl
def acC (b : V3) : V7 := if ckV b ≠ 0 then ⟨V3.O, ckV b⟩ else if (plRC 0 325358913 325358914 b).e ≠ 0 then ⟨V3.O, 24⟩ else ⟨(plRC 0 325358913 325358914 b).v, 0⟩
theorem acR_nil {fr ti : Int} (h : fr ≤ ti) (b : V3) : acR 0 [] fr ti b = acC b := by
 have hg : gaR 0 [] fr ti b = ([], ckV b) := by
  unfold gaR
  rw [if_neg (by simp)]
  by_cases e : ckV b = 0
  ·rw [if_neg (by simpa using e), if_neg (by omega)]
   simp [srN, e]
  ·rw [if_pos e]
 unfold acR acC
 rw [hg]
 dsimp only
 by_cases e : ckV b = 0
 ·have h1 : ¬ (ckV b ≠ 0) := by simpa using e
  rw [if_neg h1, if_neg h1]
  show (if (ac0 b).e ≠ 0 then _ else _) = _
  rw [show acN b [] (ac0 b) = ac0 b from rfl]
  unfold ac0
  rw [plR_c]
 ·rw [if_pos e, if_pos e]
def fiC (dl dh fr ti : Int) (h f p v a : V3) : Tu × Int :=
 if (sqI dl dh).e ≠ 0 then (Tu.O, 24) else if (goR p v dl dh).e ≠ 0 ∨ (goR (goR p v dl dh).v a (hfI dl dh).lo (hfI dl dh).hi).e ≠ 0 ∨ (goR v a dl dh).e ≠ 0 then (Tu.O, 24)
 else (⟨fr, ti, h, f, (goR (goR p v dl dh).v a (hfI dl dh).lo (hfI dl dh).hi).v, (goR v a dl dh).v⟩, 0)
def stC (dl dh fr ti : Int) (p v : V3) : Nat → V3 → Tu × Int
 | 0, _ => (Tu.O, 24)
 | k + 1, b => if trE (acC b) p v dh ≠ 0 then (Tu.O, trE (acC b) p v dh) else if inV (goR p (goR v (acC b).v 0 dh).v 0 dh).v b then fiC dl dh fr ti (goR p (goR v (acC b).v 0 dh).v 0 dh).v (goR v (acC b).v 0 dh).v p v (acC b).v
  else if ckV (wdV (goR p (goR v (acC b).v 0 dh).v 0 dh).v b) ≠ 0 then (Tu.O, 24) else stC dl dh fr ti p v k (wdV (goR p (goR v (acC b).v 0 dh).v 0 dh).v b)
theorem stT_c {dl dh fr ti : Int} {p v : V3} : ∀ (k : Nat) (b : V3), stT acC dl dh fr ti p v k b = stC dl dh fr ti p v k b
 | 0, _ => rfl
 | k + 1, b => by
  unfold stT stC
  rw [stT_c k]
  rfl
def lvP : V3 := ⟨1099511627776, 1099511627776, 0, 0, 0, 0⟩
def lvT : Tu := ⟨0, 86400000000, ⟨1099185931659, 1099511627776, -2, 2, -2, 2⟩, ⟨-325696117, 0, -2, 2, -2, 2⟩, ⟨1099348779717, 1099349020522, -1, 1, -1, 1⟩, ⟨-325696117, -325214509, -2, 2, -2, 2⟩⟩
theorem lv_st : stR 0 [] 0 86400000000 lvP V3.O = (lvT, 0) := by
 have hc : ckF 0 [lvP, V3.O] 0 86400000000 = 0 := by kernel_rfl
 unfold stR
 rw [hc, if_neg (by simp)]
 have ha : (fun b => acR 0 [] 0 86400000000 b) = acC := funext fun b => acR_nil (by decide) b
 rw [ha, stT_c]
 have e : stC (paL 0 0 86400000000) (paH 0 0 86400000000) 0 86400000000 lvP V3.O 20 lvP = (lvT, 0) := by kernel_rfl
 exact e
theorem lv_ck : CkE [] 0 := ⟨fun h => by rcases h with h | ⟨k, hk, _⟩; exact absurd h (by decide); exact absurd hk (Nat.not_lt_zero _), fun _ _ => rfl, fun _ h => absurd ⟨fun k hk => absurd hk (Nat.not_lt_zero _), fun i k _ hk => absurd hk (Nat.not_lt_zero _)⟩ h⟩
theorem lv_sml : Sml [] := ⟨by decide, fun i hi => absurd hi (Nat.not_lt_zero _)⟩
theorem lv_nil (w : World) : Bds w (.slice none 0 0) [] := ⟨none, 0, 0, 0, rfl, fun h => absurd h (Nat.lt_irrefl 0), Nat.le_refl _, by omega, fun h => absurd h (Nat.lt_irrefl 0), fun i hi => absurd hi (Nat.not_lt_zero _)⟩
theorem g_alive5 (w : World) : Calls Tryz.prog 32 #[] w fun e w' => e = .returned (.bool true) ∧ Ext w w' := by
 have hal := fun w1 => m_alone ⟨0, 1099511627776, 0, 0, 0, 0, 0⟩ w1
 dsimp only at hal
 obtain ⟨tt, htt⟩ : ∃ tt, lvT = tt := ⟨_, rfl⟩
 have hst : ∀ w1, Calls Tryz.prog 30 #[.agg #[.slice none 0 0], .int .i64 0, .int .i64 86400000000, .agg #[.int .i64 1099511627776, .int .i64 1099511627776, .int .i64 0, .int .i64 0, .int .i64 0, .int .i64 0], .agg #[.int .i64 0, .int .i64 0, .int .i64 0, .int .i64 0, .int .i64 0, .int .i64 0]] w1 fun e w' => e = .returned (.tuple #[.agg (tvs tt).toArray, .int .i64 0]) ∧ Ext w1 w' := fun w1 => by
  have h := p_Step (.slice none 0 0) [] 0 0 86400000000 lvP V3.O w1 (lv_nil w1) lv_ck (fun _ => lv_sml) V3.O_I
  rw [lv_st, htt] at h
  exact h
 have hz := zb65
 replace hz : Hid _ := hz
 go_enter Tryz.func32, Tryz.ntmps32
 go_upto_region 2 with (first
  | (go_at_call 43; (with_reducible refine (m_rest _).mono ?_); rintro e w1 ⟨rfl, hb1⟩)
  | (go_at_call 38; (with_reducible refine (hal _).mono ?_); rintro e w2 ⟨rfl, hb2⟩))
 refine wp_name fun U2 hN => ?_
 obtain ⟨n2, h2⟩ : ∃ n, w2.heap.size = n := ⟨_, rfl⟩
 have x2 : Ext w U2 := Ext.same hN (((hb1.trans hb2).alloc _).alloc _)
 have b1 : VB U2 n2 (six lvP) := by have e : U2 = _ := hN; rw [e, ← h2]; exact (VB.lit w2 (six lvP) 28).ext ((Ext.refl _).alloc _)
 have b2 : VB U2 (n2 + 1) (six V3.O) := by
  have h := VB.lit (w2.alloc (.cells #[.int .i64 1099511627776, .int .i64 1099511627776, .int .i64 0, .int .i64 0, .int .i64 0, .int .i64 0] 28)) (six V3.O) 28
  rw [World.size_alloc] at h
  have e : U2 = _ := hN
  rw [e, ← h2]; exact h
 try rw [h2]
 clear hN h2 hb1 hb2 hal
 have p0 : U2.cell? ⟨n2, 0, none⟩ = some (.int .i64 1099511627776) := b1.1 0 _ rfl
 have q0 : U2.cell? ⟨n2 + 1, 0, none⟩ = some (.int .i64 0) := b2.1 0 _ rfl
 have p1 : U2.cell? ⟨n2, 1, none⟩ = some (.int .i64 1099511627776) := b1.1 1 _ rfl
 have q1 : U2.cell? ⟨n2 + 1, 1, none⟩ = some (.int .i64 0) := b2.1 1 _ rfl
 have p2 : U2.cell? ⟨n2, 2, none⟩ = some (.int .i64 0) := b1.1 2 _ rfl
 have q2 : U2.cell? ⟨n2 + 1, 2, none⟩ = some (.int .i64 0) := b2.1 2 _ rfl
 have p3 : U2.cell? ⟨n2, 3, none⟩ = some (.int .i64 0) := b1.1 3 _ rfl
 have q3 : U2.cell? ⟨n2 + 1, 3, none⟩ = some (.int .i64 0) := b2.1 3 _ rfl
 have p4 : U2.cell? ⟨n2, 4, none⟩ = some (.int .i64 0) := b1.1 4 _ rfl
 have q4 : U2.cell? ⟨n2 + 1, 4, none⟩ = some (.int .i64 0) := b2.1 4 _ rfl
 have p5 : U2.cell? ⟨n2, 5, none⟩ = some (.int .i64 0) := b1.1 5 _ rfl
 have q5 : U2.cell? ⟨n2 + 1, 5, none⟩ = some (.int .i64 0) := b2.1 5 _ rfl
 go_upto_region 3 with (first
  | (go_at_call 30; (with_reducible refine (hst _).mono ?_); rintro e w3 ⟨rfl, hb3⟩; have hth := (hz.out w3).there 26 rfl)
  | ((with_reducible show wpList _ _ _ _ _ _); refine store_row rfl 65 (.tmp 3) (.tmp 15) rfl w3.heap.size (tvs tt).toArray rfl rfl hth tyI65 c_50 (fun W hW => ?_)))
 have bT : VB W w3.heap.size (tuL tt) := VB.row (m := tuL tt) (hz.out w3) hW
 have xW : Ext w W := hW.ext ((x2.trans hb3).alloc _) (by have := x2.size; have := hb3.size; omega)
 obtain ⟨n3, h3⟩ : ∃ n, w3.heap.size = n := ⟨_, rfl⟩
 rw [h3] at bT
 try rw [h3]
 rw [← htt] at bT
 have c0 : W.cell? ⟨n3, 0, none⟩ = some (.int .i64 0) := bT.1 0 _ rfl
 have c1 : W.cell? ⟨n3, 1, none⟩ = some (.int .i64 86400000000) := bT.1 1 _ rfl
 have c2 : W.cell? ⟨n3, 2, none⟩ = some (.int .i64 1099185931659) := bT.1 2 _ rfl
 have c3 : W.cell? ⟨n3, 3, none⟩ = some (.int .i64 1099511627776) := bT.1 3 _ rfl
 have c21 : W.cell? ⟨n3, 21, none⟩ = some (.int .i64 (-325214509)) := bT.1 21 _ rfl
 clear p0 q0 p1 q1 p2 q2 p3 q3 p4 q4 p5 q5 hW bT hth hb3 hst hz htt h3 b1 b2 x2
 go_wp2_with fail
 refine bodyPost_ret (v := .bool true) ?_ rfl ⟨rfl, xW⟩
 simp [results, Tryz.results32, go_sem, ↓IntWalk.iteOmega, *]
end Go.Proofs.YtbkgakgdbmjmjaaGreat
