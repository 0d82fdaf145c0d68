/- law35.meets. -/
import Derived.Test.YtbkgakgdbmjmjaaGreatK27
set_option linter.unusedSimpArgs false
set_option linter.unusedVariables false
set_option maxRecDepth 100000
set_option maxHeartbeats 4000000
namespace Go.Proofs.YtbkgakgdbmjmjaaGreat
open Go.RowKit
theorem T_MEE_5 {p : Prop} (h : p := by
 have h := VB.lit (w.alloc (.cells #[.int .i64 a.a, .int .i64 a.b, .int .i64 a.c, .int .i64 a.d, .int .i64 a.e, .int .i64 a.f] 28)) (six b) 28
 rw [World.size_alloc] at h
 have e : U0 = _ := hN
 rw [e]; exact h) : p := h
theorem T_MEE_4 {p : Prop} (h : p := by
 go_quiet (fail)
 go_wp2_with fail
 refine bodyPost_ret (v := .bool false) ?_ rfl ⟨by rw [E], ex_⟩
 simp [results, Tryz.results34, go_sem, ↓IntWalk.iteOmega, *]) : p := h
theorem T_MEE_3 {p : Prop} (h : p := by
 go_enter Tryz.func34, Tryz.ntmps34
 go_upto_region 1 with fail
 refine wp_name fun U0 hN => ?_
 have x : Ext w U0 := Ext.same hN (((Ext.refl _).alloc _).alloc _)
 have ba : VB U0 w.heap.size (six a) := by have e : U0 = _ := hN; rw [e]; exact (VB.lit w (six a) 28).ext ((Ext.refl _).alloc _)
 have bb : VB U0 (w.heap.size + 1) (six b) := by
  exact T_MEE_5
 clear hN
 go_wp2_with fail
 refine wp_loop_rounds 4 ?_
 rw [rounds_succ]
 go_upto_region 4 with fail
 have p0 : U0.cell? ⟨w.heap.size, 0, none⟩ = some (.int .i64 a.a) := ba.1 0 _ rfl
 have p1 : U0.cell? ⟨w.heap.size, 1, none⟩ = some (.int .i64 a.b) := ba.1 1 _ rfl
 have p2 : U0.cell? ⟨w.heap.size, 2, none⟩ = some (.int .i64 a.c) := ba.1 2 _ rfl
 have p3 : U0.cell? ⟨w.heap.size, 3, none⟩ = some (.int .i64 a.d) := ba.1 3 _ rfl
 have p4 : U0.cell? ⟨w.heap.size, 4, none⟩ = some (.int .i64 a.e) := ba.1 4 _ rfl
 have p5 : U0.cell? ⟨w.heap.size, 5, none⟩ = some (.int .i64 a.f) := ba.1 5 _ rfl
 have q0 : U0.cell? ⟨w.heap.size + 1, 0, none⟩ = some (.int .i64 b.a) := bb.1 0 _ rfl
 have q1 : U0.cell? ⟨w.heap.size + 1, 1, none⟩ = some (.int .i64 b.b) := bb.1 1 _ rfl
 have q2 : U0.cell? ⟨w.heap.size + 1, 2, none⟩ = some (.int .i64 b.c) := bb.1 2 _ rfl
 have q3 : U0.cell? ⟨w.heap.size + 1, 3, none⟩ = some (.int .i64 b.d) := bb.1 3 _ rfl
 have q4 : U0.cell? ⟨w.heap.size + 1, 4, none⟩ = some (.int .i64 b.e) := bb.1 4 _ rfl
 have q5 : U0.cell? ⟨w.heap.size + 1, 5, none⟩ = some (.int .i64 b.f) := bb.1 5 _ rfl
 exact T_MEE_4) : p := h
theorem T_MEE_2 {p : Prop} (h : p := by
 go_enter Tryz.func34, Tryz.ntmps34
 go_upto_region 1 with fail
 refine wp_name fun U0 hN => ?_
 have x : Ext w U0 := Ext.same hN (((Ext.refl _).alloc _).alloc _)
 have ba : VB U0 w.heap.size (six a) := by have e : U0 = _ := hN; rw [e]; exact (VB.lit w (six a) 28).ext ((Ext.refl _).alloc _)
 have bb : VB U0 (w.heap.size + 1) (six b) := by
  exact T_MEE_5
 clear hN
 go_wp2_with fail
 refine wp_loop_rounds 4 ?_
 rw [rounds_succ]
 go_upto_region 4 with fail
 have p0 : U0.cell? ⟨w.heap.size, 0, none⟩ = some (.int .i64 a.a) := ba.1 0 _ rfl
 have p1 : U0.cell? ⟨w.heap.size, 1, none⟩ = some (.int .i64 a.b) := ba.1 1 _ rfl
 have p2 : U0.cell? ⟨w.heap.size, 2, none⟩ = some (.int .i64 a.c) := ba.1 2 _ rfl
 have p3 : U0.cell? ⟨w.heap.size, 3, none⟩ = some (.int .i64 a.d) := ba.1 3 _ rfl
 have p4 : U0.cell? ⟨w.heap.size, 4, none⟩ = some (.int .i64 a.e) := ba.1 4 _ rfl
 have p5 : U0.cell? ⟨w.heap.size, 5, none⟩ = some (.int .i64 a.f) := ba.1 5 _ rfl
 have q0 : U0.cell? ⟨w.heap.size + 1, 0, none⟩ = some (.int .i64 b.a) := bb.1 0 _ rfl
 have q1 : U0.cell? ⟨w.heap.size + 1, 1, none⟩ = some (.int .i64 b.b) := bb.1 1 _ rfl
 have q2 : U0.cell? ⟨w.heap.size + 1, 2, none⟩ = some (.int .i64 b.c) := bb.1 2 _ rfl
 have q3 : U0.cell? ⟨w.heap.size + 1, 3, none⟩ = some (.int .i64 b.d) := bb.1 3 _ rfl
 have q4 : U0.cell? ⟨w.heap.size + 1, 4, none⟩ = some (.int .i64 b.e) := bb.1 4 _ rfl
 have q5 : U0.cell? ⟨w.heap.size + 1, 5, none⟩ = some (.int .i64 b.f) := bb.1 5 _ rfl
 go_quiet (fail)
 go_wp2_with fail
 rw [rounds_succ]
 go_upto_region 4 with fail
 refine wp_name fun U1 hN => ?_
 have eN : Ext U0 U1 := Ext.same hN ex_
 replace x := x.trans eN
 replace ba := ba.ext eN
 replace bb := bb.ext eN
 clear p0 q0 p1 q1 p2 q2 p3 q3 p4 q4 p5 q5
 clear hN eN
 have p0 : U1.cell? ⟨w.heap.size, 0, none⟩ = some (.int .i64 a.a) := ba.1 0 _ rfl
 have p1 : U1.cell? ⟨w.heap.size, 1, none⟩ = some (.int .i64 a.b) := ba.1 1 _ rfl
 have p2 : U1.cell? ⟨w.heap.size, 2, none⟩ = some (.int .i64 a.c) := ba.1 2 _ rfl
 have p3 : U1.cell? ⟨w.heap.size, 3, none⟩ = some (.int .i64 a.d) := ba.1 3 _ rfl
 have p4 : U1.cell? ⟨w.heap.size, 4, none⟩ = some (.int .i64 a.e) := ba.1 4 _ rfl
 have p5 : U1.cell? ⟨w.heap.size, 5, none⟩ = some (.int .i64 a.f) := ba.1 5 _ rfl
 have q0 : U1.cell? ⟨w.heap.size + 1, 0, none⟩ = some (.int .i64 b.a) := bb.1 0 _ rfl
 have q1 : U1.cell? ⟨w.heap.size + 1, 1, none⟩ = some (.int .i64 b.b) := bb.1 1 _ rfl
 have q2 : U1.cell? ⟨w.heap.size + 1, 2, none⟩ = some (.int .i64 b.c) := bb.1 2 _ rfl
 have q3 : U1.cell? ⟨w.heap.size + 1, 3, none⟩ = some (.int .i64 b.d) := bb.1 3 _ rfl
 have q4 : U1.cell? ⟨w.heap.size + 1, 4, none⟩ = some (.int .i64 b.e) := bb.1 4 _ rfl
 have q5 : U1.cell? ⟨w.heap.size + 1, 5, none⟩ = some (.int .i64 b.f) := bb.1 5 _ rfl
 exact T_MEE_4) : p := h
theorem T_MEE_1 {p : Prop} (h : p := by
 go_enter Tryz.func34, Tryz.ntmps34
 go_upto_region 1 with fail
 refine wp_name fun U0 hN => ?_
 have x : Ext w U0 := Ext.same hN (((Ext.refl _).alloc _).alloc _)
 have ba : VB U0 w.heap.size (six a) := by have e : U0 = _ := hN; rw [e]; exact (VB.lit w (six a) 28).ext ((Ext.refl _).alloc _)
 have bb : VB U0 (w.heap.size + 1) (six b) := by
  exact T_MEE_5
 clear hN
 go_wp2_with fail
 refine wp_loop_rounds 4 ?_
 rw [rounds_succ]
 go_upto_region 4 with fail
 have p0 : U0.cell? ⟨w.heap.size, 0, none⟩ = some (.int .i64 a.a) := ba.1 0 _ rfl
 have p1 : U0.cell? ⟨w.heap.size, 1, none⟩ = some (.int .i64 a.b) := ba.1 1 _ rfl
 have p2 : U0.cell? ⟨w.heap.size, 2, none⟩ = some (.int .i64 a.c) := ba.1 2 _ rfl
 have p3 : U0.cell? ⟨w.heap.size, 3, none⟩ = some (.int .i64 a.d) := ba.1 3 _ rfl
 have p4 : U0.cell? ⟨w.heap.size, 4, none⟩ = some (.int .i64 a.e) := ba.1 4 _ rfl
 have p5 : U0.cell? ⟨w.heap.size, 5, none⟩ = some (.int .i64 a.f) := ba.1 5 _ rfl
 have q0 : U0.cell? ⟨w.heap.size + 1, 0, none⟩ = some (.int .i64 b.a) := bb.1 0 _ rfl
 have q1 : U0.cell? ⟨w.heap.size + 1, 1, none⟩ = some (.int .i64 b.b) := bb.1 1 _ rfl
 have q2 : U0.cell? ⟨w.heap.size + 1, 2, none⟩ = some (.int .i64 b.c) := bb.1 2 _ rfl
 have q3 : U0.cell? ⟨w.heap.size + 1, 3, none⟩ = some (.int .i64 b.d) := bb.1 3 _ rfl
 have q4 : U0.cell? ⟨w.heap.size + 1, 4, none⟩ = some (.int .i64 b.e) := bb.1 4 _ rfl
 have q5 : U0.cell? ⟨w.heap.size + 1, 5, none⟩ = some (.int .i64 b.f) := bb.1 5 _ rfl
 go_quiet (fail)
 go_wp2_with fail
 rw [rounds_succ]
 go_upto_region 4 with fail
 refine wp_name fun U1 hN => ?_
 have eN : Ext U0 U1 := Ext.same hN ex_
 replace x := x.trans eN
 replace ba := ba.ext eN
 replace bb := bb.ext eN
 clear p0 q0 p1 q1 p2 q2 p3 q3 p4 q4 p5 q5
 clear hN eN
 have p0 : U1.cell? ⟨w.heap.size, 0, none⟩ = some (.int .i64 a.a) := ba.1 0 _ rfl
 have p1 : U1.cell? ⟨w.heap.size, 1, none⟩ = some (.int .i64 a.b) := ba.1 1 _ rfl
 have p2 : U1.cell? ⟨w.heap.size, 2, none⟩ = some (.int .i64 a.c) := ba.1 2 _ rfl
 have p3 : U1.cell? ⟨w.heap.size, 3, none⟩ = some (.int .i64 a.d) := ba.1 3 _ rfl
 have p4 : U1.cell? ⟨w.heap.size, 4, none⟩ = some (.int .i64 a.e) := ba.1 4 _ rfl
 have p5 : U1.cell? ⟨w.heap.size, 5, none⟩ = some (.int .i64 a.f) := ba.1 5 _ rfl
 have q0 : U1.cell? ⟨w.heap.size + 1, 0, none⟩ = some (.int .i64 b.a) := bb.1 0 _ rfl
 have q1 : U1.cell? ⟨w.heap.size + 1, 1, none⟩ = some (.int .i64 b.b) := bb.1 1 _ rfl
 have q2 : U1.cell? ⟨w.heap.size + 1, 2, none⟩ = some (.int .i64 b.c) := bb.1 2 _ rfl
 have q3 : U1.cell? ⟨w.heap.size + 1, 3, none⟩ = some (.int .i64 b.d) := bb.1 3 _ rfl
 have q4 : U1.cell? ⟨w.heap.size + 1, 4, none⟩ = some (.int .i64 b.e) := bb.1 4 _ rfl
 have q5 : U1.cell? ⟨w.heap.size + 1, 5, none⟩ = some (.int .i64 b.f) := bb.1 5 _ rfl
 go_quiet (fail)
 go_wp2_with fail
 rw [rounds_succ]
 go_upto_region 4 with fail
 refine wp_name fun U2 hN => ?_
 have eN : Ext U1 U2 := Ext.same hN ex_
 replace x := x.trans eN
 replace ba := ba.ext eN
 replace bb := bb.ext eN
 clear p0 q0 p1 q1 p2 q2 p3 q3 p4 q4 p5 q5
 clear hN eN
 have p0 : U2.cell? ⟨w.heap.size, 0, none⟩ = some (.int .i64 a.a) := ba.1 0 _ rfl
 have p1 : U2.cell? ⟨w.heap.size, 1, none⟩ = some (.int .i64 a.b) := ba.1 1 _ rfl
 have p2 : U2.cell? ⟨w.heap.size, 2, none⟩ = some (.int .i64 a.c) := ba.1 2 _ rfl
 have p3 : U2.cell? ⟨w.heap.size, 3, none⟩ = some (.int .i64 a.d) := ba.1 3 _ rfl
 have p4 : U2.cell? ⟨w.heap.size, 4, none⟩ = some (.int .i64 a.e) := ba.1 4 _ rfl
 have p5 : U2.cell? ⟨w.heap.size, 5, none⟩ = some (.int .i64 a.f) := ba.1 5 _ rfl
 have q0 : U2.cell? ⟨w.heap.size + 1, 0, none⟩ = some (.int .i64 b.a) := bb.1 0 _ rfl
 have q1 : U2.cell? ⟨w.heap.size + 1, 1, none⟩ = some (.int .i64 b.b) := bb.1 1 _ rfl
 have q2 : U2.cell? ⟨w.heap.size + 1, 2, none⟩ = some (.int .i64 b.c) := bb.1 2 _ rfl
 have q3 : U2.cell? ⟨w.heap.size + 1, 3, none⟩ = some (.int .i64 b.d) := bb.1 3 _ rfl
 have q4 : U2.cell? ⟨w.heap.size + 1, 4, none⟩ = some (.int .i64 b.e) := bb.1 4 _ rfl
 have q5 : U2.cell? ⟨w.heap.size + 1, 5, none⟩ = some (.int .i64 b.f) := bb.1 5 _ rfl
 exact T_MEE_4) : p := h
theorem m_meets (a b : V3) (w : World) : Calls Tryz.prog 34 #[.agg #[.int .i64 a.a, .int .i64 a.b, .int .i64 a.c, .int .i64 a.d, .int .i64 a.e, .int .i64 a.f], .agg #[.int .i64 b.a, .int .i64 b.b, .int .i64 b.c, .int .i64 b.d, .int .i64 b.e, .int .i64 b.f]] w fun e w' => e = .returned (.bool (mtV a b)) ∧ Ext w w' := by
 by_cases x0 : a.a ≤ b.b
 ·by_cases y0 : b.a ≤ a.b
  ·by_cases x1 : a.c ≤ b.d
   ·by_cases y1 : b.c ≤ a.d
    ·by_cases x2 : a.e ≤ b.f
     ·by_cases y2 : b.e ≤ a.f
      ·have E : mtV a b = true := by unfold mtV mt1; simp only [decide_eq_true x0, decide_eq_true y0, decide_eq_true x1, decide_eq_true y1, decide_eq_true x2, decide_eq_true y2, Bool.and_self]
       go_enter Tryz.func34, Tryz.ntmps34
       go_upto_region 1 with fail
       refine wp_name fun U0 hN => ?_
       have x : Ext w U0 := Ext.same hN (((Ext.refl _).alloc _).alloc _)
       have ba : VB U0 w.heap.size (six a) := by have e : U0 = _ := hN; rw [e]; exact (VB.lit w (six a) 28).ext ((Ext.refl _).alloc _)
       have bb : VB U0 (w.heap.size + 1) (six b) := by
        exact T_MEE_5
       clear hN
       go_wp2_with fail
       refine wp_loop_rounds 4 ?_
       rw [rounds_succ]
       go_upto_region 4 with fail
       have p0 : U0.cell? ⟨w.heap.size, 0, none⟩ = some (.int .i64 a.a) := ba.1 0 _ rfl
       have p1 : U0.cell? ⟨w.heap.size, 1, none⟩ = some (.int .i64 a.b) := ba.1 1 _ rfl
       have p2 : U0.cell? ⟨w.heap.size, 2, none⟩ = some (.int .i64 a.c) := ba.1 2 _ rfl
       have p3 : U0.cell? ⟨w.heap.size, 3, none⟩ = some (.int .i64 a.d) := ba.1 3 _ rfl
       have p4 : U0.cell? ⟨w.heap.size, 4, none⟩ = some (.int .i64 a.e) := ba.1 4 _ rfl
       have p5 : U0.cell? ⟨w.heap.size, 5, none⟩ = some (.int .i64 a.f) := ba.1 5 _ rfl
       have q0 : U0.cell? ⟨w.heap.size + 1, 0, none⟩ = some (.int .i64 b.a) := bb.1 0 _ rfl
       have q1 : U0.cell? ⟨w.heap.size + 1, 1, none⟩ = some (.int .i64 b.b) := bb.1 1 _ rfl
       have q2 : U0.cell? ⟨w.heap.size + 1, 2, none⟩ = some (.int .i64 b.c) := bb.1 2 _ rfl
       have q3 : U0.cell? ⟨w.heap.size + 1, 3, none⟩ = some (.int .i64 b.d) := bb.1 3 _ rfl
       have q4 : U0.cell? ⟨w.heap.size + 1, 4, none⟩ = some (.int .i64 b.e) := bb.1 4 _ rfl
       have q5 : U0.cell? ⟨w.heap.size + 1, 5, none⟩ = some (.int .i64 b.f) := bb.1 5 _ rfl
       go_quiet (fail)
       go_wp2_with fail
       rw [rounds_succ]
       go_upto_region 4 with fail
       refine wp_name fun U1 hN => ?_
       have eN : Ext U0 U1 := Ext.same hN ex_
       replace x := x.trans eN
       replace ba := ba.ext eN
       replace bb := bb.ext eN
       clear p0 q0 p1 q1 p2 q2 p3 q3 p4 q4 p5 q5
       clear hN eN
       have p0 : U1.cell? ⟨w.heap.size, 0, none⟩ = some (.int .i64 a.a) := ba.1 0 _ rfl
       have p1 : U1.cell? ⟨w.heap.size, 1, none⟩ = some (.int .i64 a.b) := ba.1 1 _ rfl
       have p2 : U1.cell? ⟨w.heap.size, 2, none⟩ = some (.int .i64 a.c) := ba.1 2 _ rfl
       have p3 : U1.cell? ⟨w.heap.size, 3, none⟩ = some (.int .i64 a.d) := ba.1 3 _ rfl
       have p4 : U1.cell? ⟨w.heap.size, 4, none⟩ = some (.int .i64 a.e) := ba.1 4 _ rfl
       have p5 : U1.cell? ⟨w.heap.size, 5, none⟩ = some (.int .i64 a.f) := ba.1 5 _ rfl
       have q0 : U1.cell? ⟨w.heap.size + 1, 0, none⟩ = some (.int .i64 b.a) := bb.1 0 _ rfl
       have q1 : U1.cell? ⟨w.heap.size + 1, 1, none⟩ = some (.int .i64 b.b) := bb.1 1 _ rfl
       have q2 : U1.cell? ⟨w.heap.size + 1, 2, none⟩ = some (.int .i64 b.c) := bb.1 2 _ rfl
       have q3 : U1.cell? ⟨w.heap.size + 1, 3, none⟩ = some (.int .i64 b.d) := bb.1 3 _ rfl
       have q4 : U1.cell? ⟨w.heap.size + 1, 4, none⟩ = some (.int .i64 b.e) := bb.1 4 _ rfl
       have q5 : U1.cell? ⟨w.heap.size + 1, 5, none⟩ = some (.int .i64 b.f) := bb.1 5 _ rfl
       go_quiet (fail)
       go_wp2_with fail
       rw [rounds_succ]
       go_upto_region 4 with fail
       refine wp_name fun U2 hN => ?_
       have eN : Ext U1 U2 := Ext.same hN ex_
       replace x := x.trans eN
       replace ba := ba.ext eN
       replace bb := bb.ext eN
       clear p0 q0 p1 q1 p2 q2 p3 q3 p4 q4 p5 q5
       clear hN eN
       have p0 : U2.cell? ⟨w.heap.size, 0, none⟩ = some (.int .i64 a.a) := ba.1 0 _ rfl
       have p1 : U2.cell? ⟨w.heap.size, 1, none⟩ = some (.int .i64 a.b) := ba.1 1 _ rfl
       have p2 : U2.cell? ⟨w.heap.size, 2, none⟩ = some (.int .i64 a.c) := ba.1 2 _ rfl
       have p3 : U2.cell? ⟨w.heap.size, 3, none⟩ = some (.int .i64 a.d) := ba.1 3 _ rfl
       have p4 : U2.cell? ⟨w.heap.size, 4, none⟩ = some (.int .i64 a.e) := ba.1 4 _ rfl
       have p5 : U2.cell? ⟨w.heap.size, 5, none⟩ = some (.int .i64 a.f) := ba.1 5 _ rfl
       have q0 : U2.cell? ⟨w.heap.size + 1, 0, none⟩ = some (.int .i64 b.a) := bb.1 0 _ rfl
       have q1 : U2.cell? ⟨w.heap.size + 1, 1, none⟩ = some (.int .i64 b.b) := bb.1 1 _ rfl
       have q2 : U2.cell? ⟨w.heap.size + 1, 2, none⟩ = some (.int .i64 b.c) := bb.1 2 _ rfl
       have q3 : U2.cell? ⟨w.heap.size + 1, 3, none⟩ = some (.int .i64 b.d) := bb.1 3 _ rfl
       have q4 : U2.cell? ⟨w.heap.size + 1, 4, none⟩ = some (.int .i64 b.e) := bb.1 4 _ rfl
       have q5 : U2.cell? ⟨w.heap.size + 1, 5, none⟩ = some (.int .i64 b.f) := bb.1 5 _ rfl
       go_quiet (fail)
       go_wp2_with fail
       rw [rounds_succ]
       go_wp2_with fail
       refine bodyPost_ret (v := .bool true) ?_ rfl ⟨by rw [E], ex_⟩
       simp [results, Tryz.results34, go_sem, ↓IntWalk.iteOmega, *]
      ·have E : mtV a b = false := by unfold mtV mt1; rw [decide_eq_false y2]; simp only [Bool.false_and, Bool.and_false]
       exact T_MEE_1
     ·have E : mtV a b = false := by unfold mtV mt1; rw [decide_eq_false x2]; simp only [Bool.false_and, Bool.and_false]
      exact T_MEE_1
    ·have E : mtV a b = false := by unfold mtV mt1; rw [decide_eq_false y1]; simp only [Bool.false_and, Bool.and_false]
     exact T_MEE_2
   ·have E : mtV a b = false := by unfold mtV mt1; rw [decide_eq_false x1]; simp only [Bool.false_and, Bool.and_false]
    exact T_MEE_2
  ·have E : mtV a b = false := by unfold mtV mt1; rw [decide_eq_false y0]; simp only [Bool.false_and, Bool.and_false]
   exact T_MEE_3
 ·have E : mtV a b = false := by unfold mtV mt1; rw [decide_eq_false x0]; simp only [Bool.false_and, Bool.and_false]
  exact T_MEE_3
end Go.Proofs.YtbkgakgdbmjmjaaGreat
