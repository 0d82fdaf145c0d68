/- flow.Stays: the walk. -/
import Derived.Test.YtbkgakgdbmjmjaaGreatN31
set_option linter.unusedSimpArgs false
set_option linter.unusedVariables false
set_option maxRecDepth 100000
set_option maxHeartbeats 8000000
namespace Go.Proofs.YtbkgakgdbmjmjaaGreat
open Go.RowKit
theorem T_STY_1 {p : Prop} (h : p := by
 go_wp2_with fail
 refine bodyPost_ret (v := .tuple #[.bool false, .int .i64 24]) ?_ rfl ⟨rfl, x10⟩
 simp [results, Tryz.results28, go_sem, ↓IntWalk.iteOmega, *]) : p := h
theorem vs_six (w : World) (p v : V3) (t : Tu) (ty : TypeId) : Vs (w.alloc (.cells #[.int .i64 p.a, .int .i64 p.b, .int .i64 p.c, .int .i64 p.d, .int .i64 p.e, .int .i64 p.f, .int .i64 v.a, .int .i64 v.b, .int .i64 v.c, .int .i64 v.d, .int .i64 v.e, .int .i64 v.f, .int .i64 t.h.a, .int .i64 t.h.b, .int .i64 t.h.c, .int .i64 t.h.d, .int .i64 t.h.e, .int .i64 t.h.f, .int .i64 t.f.a, .int .i64 t.f.b, .int .i64 t.f.c, .int .i64 t.f.d, .int .i64 t.f.e, .int .i64 t.f.f, .int .i64 t.p.a, .int .i64 t.p.b, .int .i64 t.p.c, .int .i64 t.p.d, .int .i64 t.p.e, .int .i64 t.p.f, .int .i64 t.v.a, .int .i64 t.v.b, .int .i64 t.v.c, .int .i64 t.v.d, .int .i64 t.v.e, .int .i64 t.v.f] ty)) (.slice (some ⟨w.heap.size, 0, none⟩) 6 6) [p, v, t.h, t.f, t.p, t.v] := by
 refine ⟨w.heap.size, 0, 6, rfl, by show 6 ≤ 200; omega, by simp, fun i hi => ?_⟩
 match i, hi with
 | 0, _ => simp [go_sem]
 | 1, _ => simp [go_sem]
 | 2, _ => simp [go_sem]
 | 3, _ => simp [go_sem]
 | 4, _ => simp [go_sem]
 | 5, _ => simp [go_sem]
theorem sy_boxes (w : World) (ao : Option Addr) (m cap : Nat) (t : Tu) (p v : V3) (U : World) (hU : U = ((((w.alloc (.cells #[.slice ao m cap] 24)).alloc (.cells (tvs t).toArray 65)).alloc (.cells #[.int .i64 p.a, .int .i64 p.b, .int .i64 p.c, .int .i64 p.d, .int .i64 p.e, .int .i64 p.f] 28)).alloc (.cells #[.int .i64 v.a, .int .i64 v.b, .int .i64 v.c, .int .i64 v.d, .int .i64 v.e, .int .i64 v.f] 28))) :
    Ext w U ∧ U.cell? ⟨w.heap.size, 0, none⟩ = some (.slice ao m cap) ∧ VB U (w.heap.size + 1) (tuL t) ∧ VB U (w.heap.size + 1 + 1) (six p) ∧ VB U (w.heap.size + 1 + 1 + 1) (six v) := by
 subst hU
 refine ⟨((((Ext.refl w).alloc _).alloc _).alloc _).alloc _, ?_, ?_, ?_, ?_⟩
 ·have h : (w.alloc (.cells #[.slice ao m cap] 24)).cell? ⟨w.heap.size, 0, none⟩ = some (.slice ao m cap) := by simp [go_sem]
  have k : Ext (w.alloc (.cells #[.slice ao m cap] 24)) _ := (((Ext.refl _).alloc (.cells (tvs t).toArray 65)).alloc (.cells #[.int .i64 p.a, .int .i64 p.b, .int .i64 p.c, .int .i64 p.d, .int .i64 p.e, .int .i64 p.f] 28)).alloc (.cells #[.int .i64 v.a, .int .i64 v.b, .int .i64 v.c, .int .i64 v.d, .int .i64 v.e, .int .i64 v.f] 28)
  exact (k.cells.1 _ _ (by simp)).trans h
 ·have h := (VB.lit (w.alloc (.cells #[.slice ao m cap] 24)) (tuL t) 65).ext (((Ext.refl _).alloc (.cells #[.int .i64 p.a, .int .i64 p.b, .int .i64 p.c, .int .i64 p.d, .int .i64 p.e, .int .i64 p.f] 28)).alloc (.cells #[.int .i64 v.a, .int .i64 v.b, .int .i64 v.c, .int .i64 v.d, .int .i64 v.e, .int .i64 v.f] 28))
  rw [World.size_alloc] at h; exact h
 ·have h := (VB.lit ((w.alloc (.cells #[.slice ao m cap] 24)).alloc (.cells (tvs t).toArray 65)) (six p) 28).ext ((Ext.refl _).alloc (.cells #[.int .i64 v.a, .int .i64 v.b, .int .i64 v.c, .int .i64 v.d, .int .i64 v.e, .int .i64 v.f] 28))
  rw [World.size_alloc, World.size_alloc] at h; exact h
 ·have h := VB.lit (((w.alloc (.cells #[.slice ao m cap] 24)).alloc (.cells (tvs t).toArray 65)).alloc (.cells #[.int .i64 p.a, .int .i64 p.b, .int .i64 p.c, .int .i64 p.d, .int .i64 p.e, .int .i64 p.f] 28)) (six v) 28
  rw [World.size_alloc, World.size_alloc, World.size_alloc] at h; exact h
def syR (C : Int) (A W N : V7) (t : Tu) : Bool × Int :=
 if C ≠ 0 then (false, C) else if A.e ≠ 0 then (false, A.e) else if W.e ≠ 0 ∨ N.e ≠ 0 then (false, 24) else (inV W.v t.f && inV N.v t.h, 0)
theorem sy_walk (C : Int) (A : V7) (ao : Option Addr) (m cap : Nat) (dl dh : Int) (t : Tu) (p v : V3) (w : World)
    (hA : ∀ w1, Ext w w1 → Calls Tryz.prog 14 #[.agg #[.slice ao m cap], .int .i64 t.fr, .int .i64 t.ti, .agg #[.int .i64 t.h.a, .int .i64 t.h.b, .int .i64 t.h.c, .int .i64 t.h.d, .int .i64 t.h.e, .int .i64 t.h.f]] w1 fun e w' => e = .returned (.tuple #[.agg #[.int .i64 A.v.a, .int .i64 A.v.b, .int .i64 A.v.c, .int .i64 A.v.d, .int .i64 A.v.e, .int .i64 A.v.f], .int .i64 A.e]) ∧ Ext w1 w')
    (hAI : A.v.I) (hf : t.f.I) (kd : I64 dl ∧ I64 dh)
    (hC : ∀ u w1, Vs w1 u [p, v, t.h, t.f, t.p, t.v] → Ext w w1 → Calls Tryz.prog 67 #[.agg #[.slice ao m cap], .int .i64 t.fr, .int .i64 t.ti, u] w1 fun e w' => e = .returned (.int .i64 C) ∧ Ext w1 w')
    (hP : C = 0 → ∀ w1, Calls Tryz.prog 68 #[.int .i64 t.fr, .int .i64 t.ti] w1 fun e w' => e = .returned (.tuple #[.agg #[.int .i64 dl, .int .i64 dh], .agg #[.int .i64 0, .int .i64 dh]]) ∧ Ext w1 w') :
    Calls Tryz.prog 28 #[.agg #[.slice ao m cap], tv t, .agg #[.int .i64 p.a, .int .i64 p.b, .int .i64 p.c, .int .i64 p.d, .int .i64 p.e, .int .i64 p.f], .agg #[.int .i64 v.a, .int .i64 v.b, .int .i64 v.c, .int .i64 v.d, .int .i64 v.e, .int .i64 v.f]] w fun e w' => e = .returned (.tuple #[.bool (syR C A (goR v A.v 0 dh) (goR p t.f 0 dh) t).1, .int .i64 (syR C A (goR v A.v 0 dh) (goR p t.f 0 dh) t).2]) ∧ Ext w w' := by
 have hg0 := fun w1 => fl_goes v A.v 0 dh w1 hAI ⟨I64_0, kd.2⟩
 have hg1 := fun w1 => fl_goes p t.f 0 dh w1 hf ⟨I64_0, kd.2⟩
 have hR : syR C A (goR v A.v 0 dh) (goR p t.f 0 dh) t = if C ≠ 0 then (false, C) else if A.e ≠ 0 then (false, A.e) else if (goR v A.v 0 dh).e ≠ 0 ∨ (goR p t.f 0 dh).e ≠ 0 then (false, 24) else (inV (goR v A.v 0 dh).v t.f && inV (goR p t.f 0 dh).v t.h, 0) := rfl
 generalize syR C A (goR v A.v 0 dh) (goR p t.f 0 dh) t = R at *
 generalize goR v A.v 0 dh = W at *
 generalize goR p t.f 0 dh = N at *
 have hi0 := fun w1 => fl_inside W.v t.f w1
 have hi1 := fun w1 => fl_inside N.v t.h w1
 generalize inV W.v t.f = x0 at *
 generalize inV N.v t.h = x1 at *
 generalize h0 : decide (W.e = 0) = q0 at *
 generalize h1 : decide (N.e = 0) = q1 at *
 have hbx := fun U hU => sy_boxes w ao m cap t p v U hU
 unfold tv
 go_enter Tryz.func28, Tryz.ntmps28
 go_upto_region 1 with fail
 refine wp_name fun U1 hN => ?_
 obtain ⟨x1w, be, bt, bp, bv⟩ := hbx U1 hN
 clear hN hbx
 have t0 : U1.cell? ⟨w.heap.size + 1, 0, none⟩ = some (.int .i64 t.fr) := bt.1 0 _ rfl
 have t1 : U1.cell? ⟨w.heap.size + 1, 1, none⟩ = some (.int .i64 t.ti) := bt.1 1 _ rfl
 have t2 : U1.cell? ⟨w.heap.size + 1, 2, none⟩ = some (.int .i64 t.h.a) := bt.1 2 _ rfl
 have t3 : U1.cell? ⟨w.heap.size + 1, 3, none⟩ = some (.int .i64 t.h.b) := bt.1 3 _ rfl
 have t4 : U1.cell? ⟨w.heap.size + 1, 4, none⟩ = some (.int .i64 t.h.c) := bt.1 4 _ rfl
 have t5 : U1.cell? ⟨w.heap.size + 1, 5, none⟩ = some (.int .i64 t.h.d) := bt.1 5 _ rfl
 have t6 : U1.cell? ⟨w.heap.size + 1, 6, none⟩ = some (.int .i64 t.h.e) := bt.1 6 _ rfl
 have t7 : U1.cell? ⟨w.heap.size + 1, 7, none⟩ = some (.int .i64 t.h.f) := bt.1 7 _ rfl
 have t8 : U1.cell? ⟨w.heap.size + 1, 8, none⟩ = some (.int .i64 t.f.a) := bt.1 8 _ rfl
 have t9 : U1.cell? ⟨w.heap.size + 1, 9, none⟩ = some (.int .i64 t.f.b) := bt.1 9 _ rfl
 have t10 : U1.cell? ⟨w.heap.size + 1, 10, none⟩ = some (.int .i64 t.f.c) := bt.1 10 _ rfl
 have t11 : U1.cell? ⟨w.heap.size + 1, 11, none⟩ = some (.int .i64 t.f.d) := bt.1 11 _ rfl
 have t12 : U1.cell? ⟨w.heap.size + 1, 12, none⟩ = some (.int .i64 t.f.e) := bt.1 12 _ rfl
 have t13 : U1.cell? ⟨w.heap.size + 1, 13, none⟩ = some (.int .i64 t.f.f) := bt.1 13 _ rfl
 have t14 : U1.cell? ⟨w.heap.size + 1, 14, none⟩ = some (.int .i64 t.p.a) := bt.1 14 _ rfl
 have t15 : U1.cell? ⟨w.heap.size + 1, 15, none⟩ = some (.int .i64 t.p.b) := bt.1 15 _ rfl
 have t16 : U1.cell? ⟨w.heap.size + 1, 16, none⟩ = some (.int .i64 t.p.c) := bt.1 16 _ rfl
 have t17 : U1.cell? ⟨w.heap.size + 1, 17, none⟩ = some (.int .i64 t.p.d) := bt.1 17 _ rfl
 have t18 : U1.cell? ⟨w.heap.size + 1, 18, none⟩ = some (.int .i64 t.p.e) := bt.1 18 _ rfl
 have t19 : U1.cell? ⟨w.heap.size + 1, 19, none⟩ = some (.int .i64 t.p.f) := bt.1 19 _ rfl
 have t20 : U1.cell? ⟨w.heap.size + 1, 20, none⟩ = some (.int .i64 t.v.a) := bt.1 20 _ rfl
 have t21 : U1.cell? ⟨w.heap.size + 1, 21, none⟩ = some (.int .i64 t.v.b) := bt.1 21 _ rfl
 have t22 : U1.cell? ⟨w.heap.size + 1, 22, none⟩ = some (.int .i64 t.v.c) := bt.1 22 _ rfl
 have t23 : U1.cell? ⟨w.heap.size + 1, 23, none⟩ = some (.int .i64 t.v.d) := bt.1 23 _ rfl
 have t24 : U1.cell? ⟨w.heap.size + 1, 24, none⟩ = some (.int .i64 t.v.e) := bt.1 24 _ rfl
 have t25 : U1.cell? ⟨w.heap.size + 1, 25, none⟩ = some (.int .i64 t.v.f) := bt.1 25 _ rfl
 have p0 : U1.cell? ⟨w.heap.size + 1 + 1, 0, none⟩ = some (.int .i64 p.a) := bp.1 0 _ rfl
 have p1 : U1.cell? ⟨w.heap.size + 1 + 1, 1, none⟩ = some (.int .i64 p.b) := bp.1 1 _ rfl
 have p2 : U1.cell? ⟨w.heap.size + 1 + 1, 2, none⟩ = some (.int .i64 p.c) := bp.1 2 _ rfl
 have p3 : U1.cell? ⟨w.heap.size + 1 + 1, 3, none⟩ = some (.int .i64 p.d) := bp.1 3 _ rfl
 have p4 : U1.cell? ⟨w.heap.size + 1 + 1, 4, none⟩ = some (.int .i64 p.e) := bp.1 4 _ rfl
 have p5 : U1.cell? ⟨w.heap.size + 1 + 1, 5, none⟩ = some (.int .i64 p.f) := bp.1 5 _ rfl
 have v0 : U1.cell? ⟨w.heap.size + 1 + 1 + 1, 0, none⟩ = some (.int .i64 v.a) := bv.1 0 _ rfl
 have v1 : U1.cell? ⟨w.heap.size + 1 + 1 + 1, 1, none⟩ = some (.int .i64 v.b) := bv.1 1 _ rfl
 have v2 : U1.cell? ⟨w.heap.size + 1 + 1 + 1, 2, none⟩ = some (.int .i64 v.c) := bv.1 2 _ rfl
 have v3 : U1.cell? ⟨w.heap.size + 1 + 1 + 1, 3, none⟩ = some (.int .i64 v.d) := bv.1 3 _ rfl
 have v4 : U1.cell? ⟨w.heap.size + 1 + 1 + 1, 4, none⟩ = some (.int .i64 v.e) := bv.1 4 _ rfl
 have v5 : U1.cell? ⟨w.heap.size + 1 + 1 + 1, 5, none⟩ = some (.int .i64 v.f) := bv.1 5 _ rfl
 by_cases e0 : C = 0
 ·rw [if_neg (fun h => h e0)] at hR
  subst e0
  replace hP := hP rfl
  go_upto_region 4 with (go_at_call 67; (with_reducible refine (hC _ _ (vs_six _ _ _ _ _) ex_).mono ?_); rintro e w3 ⟨rfl, hb⟩)
  refine wp_name fun U4 hN => ?_
  have eN : Ext U1 U4 := Ext.same hN (((Ext.refl _).alloc _).trans hb)
  have x4 := x1w.trans eN
  replace be := (eN.cells.1 _ 0 (by have := bt.2.2; omega)).trans be
  replace bt := bt.ext eN
  replace bp := bp.ext eN
  replace bv := bv.ext eN
  clear t0 t1 t2 t3 t4 t5 t6 t7 t8 t9 t10 t11 t12 t13 t14 t15 t16 t17 t18 t19 t20 t21 t22 t23 t24 t25
  clear p0 v0 p1 v1 p2 v2 p3 v3 p4 v4 p5 v5
  clear hN eN hb x1w hC
  have t0 : U4.cell? ⟨w.heap.size + 1, 0, none⟩ = some (.int .i64 t.fr) := bt.1 0 _ rfl
  have t1 : U4.cell? ⟨w.heap.size + 1, 1, none⟩ = some (.int .i64 t.ti) := bt.1 1 _ rfl
  have t2 : U4.cell? ⟨w.heap.size + 1, 2, none⟩ = some (.int .i64 t.h.a) := bt.1 2 _ rfl
  have t3 : U4.cell? ⟨w.heap.size + 1, 3, none⟩ = some (.int .i64 t.h.b) := bt.1 3 _ rfl
  have t4 : U4.cell? ⟨w.heap.size + 1, 4, none⟩ = some (.int .i64 t.h.c) := bt.1 4 _ rfl
  have t5 : U4.cell? ⟨w.heap.size + 1, 5, none⟩ = some (.int .i64 t.h.d) := bt.1 5 _ rfl
  have t6 : U4.cell? ⟨w.heap.size + 1, 6, none⟩ = some (.int .i64 t.h.e) := bt.1 6 _ rfl
  have t7 : U4.cell? ⟨w.heap.size + 1, 7, none⟩ = some (.int .i64 t.h.f) := bt.1 7 _ rfl
  have t8 : U4.cell? ⟨w.heap.size + 1, 8, none⟩ = some (.int .i64 t.f.a) := bt.1 8 _ rfl
  have t9 : U4.cell? ⟨w.heap.size + 1, 9, none⟩ = some (.int .i64 t.f.b) := bt.1 9 _ rfl
  have t10 : U4.cell? ⟨w.heap.size + 1, 10, none⟩ = some (.int .i64 t.f.c) := bt.1 10 _ rfl
  have t11 : U4.cell? ⟨w.heap.size + 1, 11, none⟩ = some (.int .i64 t.f.d) := bt.1 11 _ rfl
  have t12 : U4.cell? ⟨w.heap.size + 1, 12, none⟩ = some (.int .i64 t.f.e) := bt.1 12 _ rfl
  have t13 : U4.cell? ⟨w.heap.size + 1, 13, none⟩ = some (.int .i64 t.f.f) := bt.1 13 _ rfl
  have t14 : U4.cell? ⟨w.heap.size + 1, 14, none⟩ = some (.int .i64 t.p.a) := bt.1 14 _ rfl
  have t15 : U4.cell? ⟨w.heap.size + 1, 15, none⟩ = some (.int .i64 t.p.b) := bt.1 15 _ rfl
  have t16 : U4.cell? ⟨w.heap.size + 1, 16, none⟩ = some (.int .i64 t.p.c) := bt.1 16 _ rfl
  have t17 : U4.cell? ⟨w.heap.size + 1, 17, none⟩ = some (.int .i64 t.p.d) := bt.1 17 _ rfl
  have t18 : U4.cell? ⟨w.heap.size + 1, 18, none⟩ = some (.int .i64 t.p.e) := bt.1 18 _ rfl
  have t19 : U4.cell? ⟨w.heap.size + 1, 19, none⟩ = some (.int .i64 t.p.f) := bt.1 19 _ rfl
  have t20 : U4.cell? ⟨w.heap.size + 1, 20, none⟩ = some (.int .i64 t.v.a) := bt.1 20 _ rfl
  have t21 : U4.cell? ⟨w.heap.size + 1, 21, none⟩ = some (.int .i64 t.v.b) := bt.1 21 _ rfl
  have t22 : U4.cell? ⟨w.heap.size + 1, 22, none⟩ = some (.int .i64 t.v.c) := bt.1 22 _ rfl
  have t23 : U4.cell? ⟨w.heap.size + 1, 23, none⟩ = some (.int .i64 t.v.d) := bt.1 23 _ rfl
  have t24 : U4.cell? ⟨w.heap.size + 1, 24, none⟩ = some (.int .i64 t.v.e) := bt.1 24 _ rfl
  have t25 : U4.cell? ⟨w.heap.size + 1, 25, none⟩ = some (.int .i64 t.v.f) := bt.1 25 _ rfl
  replace hA := hA _ x4
  by_cases a0 : A.e = 0
  ·rw [if_neg (fun h => h a0)] at hR
   rw [a0] at hA
   go_upto_region 7 with (go_at_call 14; (with_reducible refine hA.mono ?_); rintro e w5 ⟨rfl, hb⟩)
   refine wp_name fun U7 hN => ?_
   have eN : Ext U4 U7 := Ext.same hN (hb.alloc _)
   obtain ⟨B11, hB⟩ : ∃ B, w5.heap.size = B := ⟨_, rfl⟩
   have b11 : VB U7 B11 (six A.v) := by have e : U7 = _ := hN; rw [e, ← hB]; exact VB.lit _ (six A.v) 28
   try rw [hB]
   clear hB
   have x7 := x4.trans eN
   replace bt := bt.ext eN
   replace bp := bp.ext eN
   replace bv := bv.ext eN
   clear t0 t1 t2 t3 t4 t5 t6 t7 t8 t9 t10 t11 t12 t13 t14 t15 t16 t17 t18 t19 t20 t21 t22 t23 t24 t25
   clear hN eN hb x4 be hA
   have t0 : U7.cell? ⟨w.heap.size + 1, 0, none⟩ = some (.int .i64 t.fr) := bt.1 0 _ rfl
   have t1 : U7.cell? ⟨w.heap.size + 1, 1, none⟩ = some (.int .i64 t.ti) := bt.1 1 _ rfl
   have t2 : U7.cell? ⟨w.heap.size + 1, 2, none⟩ = some (.int .i64 t.h.a) := bt.1 2 _ rfl
   have t3 : U7.cell? ⟨w.heap.size + 1, 3, none⟩ = some (.int .i64 t.h.b) := bt.1 3 _ rfl
   have t4 : U7.cell? ⟨w.heap.size + 1, 4, none⟩ = some (.int .i64 t.h.c) := bt.1 4 _ rfl
   have t5 : U7.cell? ⟨w.heap.size + 1, 5, none⟩ = some (.int .i64 t.h.d) := bt.1 5 _ rfl
   have t6 : U7.cell? ⟨w.heap.size + 1, 6, none⟩ = some (.int .i64 t.h.e) := bt.1 6 _ rfl
   have t7 : U7.cell? ⟨w.heap.size + 1, 7, none⟩ = some (.int .i64 t.h.f) := bt.1 7 _ rfl
   have t8 : U7.cell? ⟨w.heap.size + 1, 8, none⟩ = some (.int .i64 t.f.a) := bt.1 8 _ rfl
   have t9 : U7.cell? ⟨w.heap.size + 1, 9, none⟩ = some (.int .i64 t.f.b) := bt.1 9 _ rfl
   have t10 : U7.cell? ⟨w.heap.size + 1, 10, none⟩ = some (.int .i64 t.f.c) := bt.1 10 _ rfl
   have t11 : U7.cell? ⟨w.heap.size + 1, 11, none⟩ = some (.int .i64 t.f.d) := bt.1 11 _ rfl
   have t12 : U7.cell? ⟨w.heap.size + 1, 12, none⟩ = some (.int .i64 t.f.e) := bt.1 12 _ rfl
   have t13 : U7.cell? ⟨w.heap.size + 1, 13, none⟩ = some (.int .i64 t.f.f) := bt.1 13 _ rfl
   have t14 : U7.cell? ⟨w.heap.size + 1, 14, none⟩ = some (.int .i64 t.p.a) := bt.1 14 _ rfl
   have t15 : U7.cell? ⟨w.heap.size + 1, 15, none⟩ = some (.int .i64 t.p.b) := bt.1 15 _ rfl
   have t16 : U7.cell? ⟨w.heap.size + 1, 16, none⟩ = some (.int .i64 t.p.c) := bt.1 16 _ rfl
   have t17 : U7.cell? ⟨w.heap.size + 1, 17, none⟩ = some (.int .i64 t.p.d) := bt.1 17 _ rfl
   have t18 : U7.cell? ⟨w.heap.size + 1, 18, none⟩ = some (.int .i64 t.p.e) := bt.1 18 _ rfl
   have t19 : U7.cell? ⟨w.heap.size + 1, 19, none⟩ = some (.int .i64 t.p.f) := bt.1 19 _ rfl
   have t20 : U7.cell? ⟨w.heap.size + 1, 20, none⟩ = some (.int .i64 t.v.a) := bt.1 20 _ rfl
   have t21 : U7.cell? ⟨w.heap.size + 1, 21, none⟩ = some (.int .i64 t.v.b) := bt.1 21 _ rfl
   have t22 : U7.cell? ⟨w.heap.size + 1, 22, none⟩ = some (.int .i64 t.v.c) := bt.1 22 _ rfl
   have t23 : U7.cell? ⟨w.heap.size + 1, 23, none⟩ = some (.int .i64 t.v.d) := bt.1 23 _ rfl
   have t24 : U7.cell? ⟨w.heap.size + 1, 24, none⟩ = some (.int .i64 t.v.e) := bt.1 24 _ rfl
   have t25 : U7.cell? ⟨w.heap.size + 1, 25, none⟩ = some (.int .i64 t.v.f) := bt.1 25 _ rfl
   go_upto_region 8 with (go_at_call 68; (with_reducible refine (hP _).mono ?_); rintro e w8 ⟨rfl, hb⟩)
   refine wp_name fun U8 hN => ?_
   have eN : Ext U7 U8 := Ext.same hN ((hb.alloc _).alloc _)
   obtain ⟨n8, h8⟩ : ∃ n8, w8.heap.size = n8 := ⟨_, rfl⟩
   have ba : VB U8 (n8 + 1) [0, dh] := by
    have h := VB.lit (w8.alloc (.cells #[.int .i64 dl, .int .i64 dh] 26)) [0, dh] 26
    rw [World.size_alloc] at h
    have e : U8 = _ := hN
    rw [e, ← h8]; exact h
   try rw [h8]
   have x8 := x7.trans eN
   replace bt := bt.ext eN
   replace bp := bp.ext eN
   replace bv := bv.ext eN
   replace b11 := b11.ext eN
   clear t0 t1 t2 t3 t4 t5 t6 t7 t8 t9 t10 t11 t12 t13 t14 t15 t16 t17 t18 t19 t20 t21 t22 t23 t24 t25
   clear hN eN hb h8 x7 hP
   have t0 : U8.cell? ⟨w.heap.size + 1, 0, none⟩ = some (.int .i64 t.fr) := bt.1 0 _ rfl
   have t1 : U8.cell? ⟨w.heap.size + 1, 1, none⟩ = some (.int .i64 t.ti) := bt.1 1 _ rfl
   have t2 : U8.cell? ⟨w.heap.size + 1, 2, none⟩ = some (.int .i64 t.h.a) := bt.1 2 _ rfl
   have t3 : U8.cell? ⟨w.heap.size + 1, 3, none⟩ = some (.int .i64 t.h.b) := bt.1 3 _ rfl
   have t4 : U8.cell? ⟨w.heap.size + 1, 4, none⟩ = some (.int .i64 t.h.c) := bt.1 4 _ rfl
   have t5 : U8.cell? ⟨w.heap.size + 1, 5, none⟩ = some (.int .i64 t.h.d) := bt.1 5 _ rfl
   have t6 : U8.cell? ⟨w.heap.size + 1, 6, none⟩ = some (.int .i64 t.h.e) := bt.1 6 _ rfl
   have t7 : U8.cell? ⟨w.heap.size + 1, 7, none⟩ = some (.int .i64 t.h.f) := bt.1 7 _ rfl
   have t8 : U8.cell? ⟨w.heap.size + 1, 8, none⟩ = some (.int .i64 t.f.a) := bt.1 8 _ rfl
   have t9 : U8.cell? ⟨w.heap.size + 1, 9, none⟩ = some (.int .i64 t.f.b) := bt.1 9 _ rfl
   have t10 : U8.cell? ⟨w.heap.size + 1, 10, none⟩ = some (.int .i64 t.f.c) := bt.1 10 _ rfl
   have t11 : U8.cell? ⟨w.heap.size + 1, 11, none⟩ = some (.int .i64 t.f.d) := bt.1 11 _ rfl
   have t12 : U8.cell? ⟨w.heap.size + 1, 12, none⟩ = some (.int .i64 t.f.e) := bt.1 12 _ rfl
   have t13 : U8.cell? ⟨w.heap.size + 1, 13, none⟩ = some (.int .i64 t.f.f) := bt.1 13 _ rfl
   have t14 : U8.cell? ⟨w.heap.size + 1, 14, none⟩ = some (.int .i64 t.p.a) := bt.1 14 _ rfl
   have t15 : U8.cell? ⟨w.heap.size + 1, 15, none⟩ = some (.int .i64 t.p.b) := bt.1 15 _ rfl
   have t16 : U8.cell? ⟨w.heap.size + 1, 16, none⟩ = some (.int .i64 t.p.c) := bt.1 16 _ rfl
   have t17 : U8.cell? ⟨w.heap.size + 1, 17, none⟩ = some (.int .i64 t.p.d) := bt.1 17 _ rfl
   have t18 : U8.cell? ⟨w.heap.size + 1, 18, none⟩ = some (.int .i64 t.p.e) := bt.1 18 _ rfl
   have t19 : U8.cell? ⟨w.heap.size + 1, 19, none⟩ = some (.int .i64 t.p.f) := bt.1 19 _ rfl
   have t20 : U8.cell? ⟨w.heap.size + 1, 20, none⟩ = some (.int .i64 t.v.a) := bt.1 20 _ rfl
   have t21 : U8.cell? ⟨w.heap.size + 1, 21, none⟩ = some (.int .i64 t.v.b) := bt.1 21 _ rfl
   have t22 : U8.cell? ⟨w.heap.size + 1, 22, none⟩ = some (.int .i64 t.v.c) := bt.1 22 _ rfl
   have t23 : U8.cell? ⟨w.heap.size + 1, 23, none⟩ = some (.int .i64 t.v.d) := bt.1 23 _ rfl
   have t24 : U8.cell? ⟨w.heap.size + 1, 24, none⟩ = some (.int .i64 t.v.e) := bt.1 24 _ rfl
   have t25 : U8.cell? ⟨w.heap.size + 1, 25, none⟩ = some (.int .i64 t.v.f) := bt.1 25 _ rfl
   have v0 : U8.cell? ⟨w.heap.size + 1 + 1 + 1, 0, none⟩ = some (.int .i64 v.a) := bv.1 0 _ rfl
   have v1 : U8.cell? ⟨w.heap.size + 1 + 1 + 1, 1, none⟩ = some (.int .i64 v.b) := bv.1 1 _ rfl
   have v2 : U8.cell? ⟨w.heap.size + 1 + 1 + 1, 2, none⟩ = some (.int .i64 v.c) := bv.1 2 _ rfl
   have v3 : U8.cell? ⟨w.heap.size + 1 + 1 + 1, 3, none⟩ = some (.int .i64 v.d) := bv.1 3 _ rfl
   have v4 : U8.cell? ⟨w.heap.size + 1 + 1 + 1, 4, none⟩ = some (.int .i64 v.e) := bv.1 4 _ rfl
   have v5 : U8.cell? ⟨w.heap.size + 1 + 1 + 1, 5, none⟩ = some (.int .i64 v.f) := bv.1 5 _ rfl
   have a0 : U8.cell? ⟨B11, 0, none⟩ = some (.int .i64 A.v.a) := b11.1 0 _ rfl
   have a1 : U8.cell? ⟨B11, 1, none⟩ = some (.int .i64 A.v.b) := b11.1 1 _ rfl
   have a2 : U8.cell? ⟨B11, 2, none⟩ = some (.int .i64 A.v.c) := b11.1 2 _ rfl
   have a3 : U8.cell? ⟨B11, 3, none⟩ = some (.int .i64 A.v.d) := b11.1 3 _ rfl
   have a4 : U8.cell? ⟨B11, 4, none⟩ = some (.int .i64 A.v.e) := b11.1 4 _ rfl
   have a5 : U8.cell? ⟨B11, 5, none⟩ = some (.int .i64 A.v.f) := b11.1 5 _ rfl
   have d0 : U8.cell? ⟨n8 + 1, 0, none⟩ = some (.int .i64 0) := ba.1 0 _ rfl
   have d1 : U8.cell? ⟨n8 + 1, 1, none⟩ = some (.int .i64 dh) := ba.1 1 _ rfl
   go_upto_region 9 with (go_at_call 69; (with_reducible refine (hg0 _).mono ?_); rintro e w9 ⟨rfl, hb⟩)
   refine wp_name fun U9 hN => ?_
   have eN : Ext U8 U9 := Ext.same hN (hb.alloc _)
   obtain ⟨B15, hB⟩ : ∃ B, w9.heap.size = B := ⟨_, rfl⟩
   have b15 : VB U9 B15 (six W.v) := by have e : U9 = _ := hN; rw [e, ← hB]; exact VB.lit _ (six W.v) 28
   try rw [hB]
   clear hB
   have x9 := x8.trans eN
   replace bt := bt.ext eN
   replace bp := bp.ext eN
   replace ba := ba.ext eN
   clear t0 t1 t2 t3 t4 t5 t6 t7 t8 t9 t10 t11 t12 t13 t14 t15 t16 t17 t18 t19 t20 t21 t22 t23 t24 t25
   clear v0 a0 v1 a1 v2 a2 v3 a3 v4 a4 v5 a5 d0 d1 hN eN hb x8 b11 bv hg0
   have t0 : U9.cell? ⟨w.heap.size + 1, 0, none⟩ = some (.int .i64 t.fr) := bt.1 0 _ rfl
   have t1 : U9.cell? ⟨w.heap.size + 1, 1, none⟩ = some (.int .i64 t.ti) := bt.1 1 _ rfl
   have t2 : U9.cell? ⟨w.heap.size + 1, 2, none⟩ = some (.int .i64 t.h.a) := bt.1 2 _ rfl
   have t3 : U9.cell? ⟨w.heap.size + 1, 3, none⟩ = some (.int .i64 t.h.b) := bt.1 3 _ rfl
   have t4 : U9.cell? ⟨w.heap.size + 1, 4, none⟩ = some (.int .i64 t.h.c) := bt.1 4 _ rfl
   have t5 : U9.cell? ⟨w.heap.size + 1, 5, none⟩ = some (.int .i64 t.h.d) := bt.1 5 _ rfl
   have t6 : U9.cell? ⟨w.heap.size + 1, 6, none⟩ = some (.int .i64 t.h.e) := bt.1 6 _ rfl
   have t7 : U9.cell? ⟨w.heap.size + 1, 7, none⟩ = some (.int .i64 t.h.f) := bt.1 7 _ rfl
   have t8 : U9.cell? ⟨w.heap.size + 1, 8, none⟩ = some (.int .i64 t.f.a) := bt.1 8 _ rfl
   have t9 : U9.cell? ⟨w.heap.size + 1, 9, none⟩ = some (.int .i64 t.f.b) := bt.1 9 _ rfl
   have t10 : U9.cell? ⟨w.heap.size + 1, 10, none⟩ = some (.int .i64 t.f.c) := bt.1 10 _ rfl
   have t11 : U9.cell? ⟨w.heap.size + 1, 11, none⟩ = some (.int .i64 t.f.d) := bt.1 11 _ rfl
   have t12 : U9.cell? ⟨w.heap.size + 1, 12, none⟩ = some (.int .i64 t.f.e) := bt.1 12 _ rfl
   have t13 : U9.cell? ⟨w.heap.size + 1, 13, none⟩ = some (.int .i64 t.f.f) := bt.1 13 _ rfl
   have t14 : U9.cell? ⟨w.heap.size + 1, 14, none⟩ = some (.int .i64 t.p.a) := bt.1 14 _ rfl
   have t15 : U9.cell? ⟨w.heap.size + 1, 15, none⟩ = some (.int .i64 t.p.b) := bt.1 15 _ rfl
   have t16 : U9.cell? ⟨w.heap.size + 1, 16, none⟩ = some (.int .i64 t.p.c) := bt.1 16 _ rfl
   have t17 : U9.cell? ⟨w.heap.size + 1, 17, none⟩ = some (.int .i64 t.p.d) := bt.1 17 _ rfl
   have t18 : U9.cell? ⟨w.heap.size + 1, 18, none⟩ = some (.int .i64 t.p.e) := bt.1 18 _ rfl
   have t19 : U9.cell? ⟨w.heap.size + 1, 19, none⟩ = some (.int .i64 t.p.f) := bt.1 19 _ rfl
   have t20 : U9.cell? ⟨w.heap.size + 1, 20, none⟩ = some (.int .i64 t.v.a) := bt.1 20 _ rfl
   have t21 : U9.cell? ⟨w.heap.size + 1, 21, none⟩ = some (.int .i64 t.v.b) := bt.1 21 _ rfl
   have t22 : U9.cell? ⟨w.heap.size + 1, 22, none⟩ = some (.int .i64 t.v.c) := bt.1 22 _ rfl
   have t23 : U9.cell? ⟨w.heap.size + 1, 23, none⟩ = some (.int .i64 t.v.d) := bt.1 23 _ rfl
   have t24 : U9.cell? ⟨w.heap.size + 1, 24, none⟩ = some (.int .i64 t.v.e) := bt.1 24 _ rfl
   have t25 : U9.cell? ⟨w.heap.size + 1, 25, none⟩ = some (.int .i64 t.v.f) := bt.1 25 _ rfl
   have p0 : U9.cell? ⟨w.heap.size + 1 + 1, 0, none⟩ = some (.int .i64 p.a) := bp.1 0 _ rfl
   have p1 : U9.cell? ⟨w.heap.size + 1 + 1, 1, none⟩ = some (.int .i64 p.b) := bp.1 1 _ rfl
   have p2 : U9.cell? ⟨w.heap.size + 1 + 1, 2, none⟩ = some (.int .i64 p.c) := bp.1 2 _ rfl
   have p3 : U9.cell? ⟨w.heap.size + 1 + 1, 3, none⟩ = some (.int .i64 p.d) := bp.1 3 _ rfl
   have p4 : U9.cell? ⟨w.heap.size + 1 + 1, 4, none⟩ = some (.int .i64 p.e) := bp.1 4 _ rfl
   have p5 : U9.cell? ⟨w.heap.size + 1 + 1, 5, none⟩ = some (.int .i64 p.f) := bp.1 5 _ rfl
   have d0 : U9.cell? ⟨n8 + 1, 0, none⟩ = some (.int .i64 0) := ba.1 0 _ rfl
   have d1 : U9.cell? ⟨n8 + 1, 1, none⟩ = some (.int .i64 dh) := ba.1 1 _ rfl
   go_upto_region 10 with (go_at_call 69; (with_reducible refine (hg1 _).mono ?_); rintro e w10 ⟨rfl, hb⟩)
   refine wp_name fun U10 hN => ?_
   have eN : Ext U9 U10 := Ext.same hN (hb.alloc _)
   obtain ⟨B17, hB⟩ : ∃ B, w10.heap.size = B := ⟨_, rfl⟩
   have b17 : VB U10 B17 (six N.v) := by have e : U10 = _ := hN; rw [e, ← hB]; exact VB.lit _ (six N.v) 28
   try rw [hB]
   clear hB
   have x10 := x9.trans eN
   replace bt := bt.ext eN
   replace b15 := b15.ext eN
   clear t0 t1 t2 t3 t4 t5 t6 t7 t8 t9 t10 t11 t12 t13 t14 t15 t16 t17 t18 t19 t20 t21 t22 t23 t24 t25
   clear p0 p1 p2 p3 p4 p5 d0 d1 hN eN hb x9 bp ba hg1
   have t0 : U10.cell? ⟨w.heap.size + 1, 0, none⟩ = some (.int .i64 t.fr) := bt.1 0 _ rfl
   have t1 : U10.cell? ⟨w.heap.size + 1, 1, none⟩ = some (.int .i64 t.ti) := bt.1 1 _ rfl
   have t2 : U10.cell? ⟨w.heap.size + 1, 2, none⟩ = some (.int .i64 t.h.a) := bt.1 2 _ rfl
   have t3 : U10.cell? ⟨w.heap.size + 1, 3, none⟩ = some (.int .i64 t.h.b) := bt.1 3 _ rfl
   have t4 : U10.cell? ⟨w.heap.size + 1, 4, none⟩ = some (.int .i64 t.h.c) := bt.1 4 _ rfl
   have t5 : U10.cell? ⟨w.heap.size + 1, 5, none⟩ = some (.int .i64 t.h.d) := bt.1 5 _ rfl
   have t6 : U10.cell? ⟨w.heap.size + 1, 6, none⟩ = some (.int .i64 t.h.e) := bt.1 6 _ rfl
   have t7 : U10.cell? ⟨w.heap.size + 1, 7, none⟩ = some (.int .i64 t.h.f) := bt.1 7 _ rfl
   have t8 : U10.cell? ⟨w.heap.size + 1, 8, none⟩ = some (.int .i64 t.f.a) := bt.1 8 _ rfl
   have t9 : U10.cell? ⟨w.heap.size + 1, 9, none⟩ = some (.int .i64 t.f.b) := bt.1 9 _ rfl
   have t10 : U10.cell? ⟨w.heap.size + 1, 10, none⟩ = some (.int .i64 t.f.c) := bt.1 10 _ rfl
   have t11 : U10.cell? ⟨w.heap.size + 1, 11, none⟩ = some (.int .i64 t.f.d) := bt.1 11 _ rfl
   have t12 : U10.cell? ⟨w.heap.size + 1, 12, none⟩ = some (.int .i64 t.f.e) := bt.1 12 _ rfl
   have t13 : U10.cell? ⟨w.heap.size + 1, 13, none⟩ = some (.int .i64 t.f.f) := bt.1 13 _ rfl
   have t14 : U10.cell? ⟨w.heap.size + 1, 14, none⟩ = some (.int .i64 t.p.a) := bt.1 14 _ rfl
   have t15 : U10.cell? ⟨w.heap.size + 1, 15, none⟩ = some (.int .i64 t.p.b) := bt.1 15 _ rfl
   have t16 : U10.cell? ⟨w.heap.size + 1, 16, none⟩ = some (.int .i64 t.p.c) := bt.1 16 _ rfl
   have t17 : U10.cell? ⟨w.heap.size + 1, 17, none⟩ = some (.int .i64 t.p.d) := bt.1 17 _ rfl
   have t18 : U10.cell? ⟨w.heap.size + 1, 18, none⟩ = some (.int .i64 t.p.e) := bt.1 18 _ rfl
   have t19 : U10.cell? ⟨w.heap.size + 1, 19, none⟩ = some (.int .i64 t.p.f) := bt.1 19 _ rfl
   have t20 : U10.cell? ⟨w.heap.size + 1, 20, none⟩ = some (.int .i64 t.v.a) := bt.1 20 _ rfl
   have t21 : U10.cell? ⟨w.heap.size + 1, 21, none⟩ = some (.int .i64 t.v.b) := bt.1 21 _ rfl
   have t22 : U10.cell? ⟨w.heap.size + 1, 22, none⟩ = some (.int .i64 t.v.c) := bt.1 22 _ rfl
   have t23 : U10.cell? ⟨w.heap.size + 1, 23, none⟩ = some (.int .i64 t.v.d) := bt.1 23 _ rfl
   have t24 : U10.cell? ⟨w.heap.size + 1, 24, none⟩ = some (.int .i64 t.v.e) := bt.1 24 _ rfl
   have t25 : U10.cell? ⟨w.heap.size + 1, 25, none⟩ = some (.int .i64 t.v.f) := bt.1 25 _ rfl
   have a0 : U10.cell? ⟨B15, 0, none⟩ = some (.int .i64 W.v.a) := b15.1 0 _ rfl
   have a1 : U10.cell? ⟨B15, 1, none⟩ = some (.int .i64 W.v.b) := b15.1 1 _ rfl
   have a2 : U10.cell? ⟨B15, 2, none⟩ = some (.int .i64 W.v.c) := b15.1 2 _ rfl
   have a3 : U10.cell? ⟨B15, 3, none⟩ = some (.int .i64 W.v.d) := b15.1 3 _ rfl
   have a4 : U10.cell? ⟨B15, 4, none⟩ = some (.int .i64 W.v.e) := b15.1 4 _ rfl
   have a5 : U10.cell? ⟨B15, 5, none⟩ = some (.int .i64 W.v.f) := b15.1 5 _ rfl
   have b0 : U10.cell? ⟨B17, 0, none⟩ = some (.int .i64 N.v.a) := b17.1 0 _ rfl
   have b1 : U10.cell? ⟨B17, 1, none⟩ = some (.int .i64 N.v.b) := b17.1 1 _ rfl
   have b2 : U10.cell? ⟨B17, 2, none⟩ = some (.int .i64 N.v.c) := b17.1 2 _ rfl
   have b3 : U10.cell? ⟨B17, 3, none⟩ = some (.int .i64 N.v.d) := b17.1 3 _ rfl
   have b4 : U10.cell? ⟨B17, 4, none⟩ = some (.int .i64 N.v.e) := b17.1 4 _ rfl
   have b5 : U10.cell? ⟨B17, 5, none⟩ = some (.int .i64 N.v.f) := b17.1 5 _ rfl
   have lt1 := bt.2.2
   have lt2 := b15.2.2
   have lt3 := b17.2.2
   by_cases g : q0 = true ∧ q1 = true
   ·obtain ⟨rfl, rfl⟩ := g
    rw [if_neg (by rintro (h | h); exact h (of_decide_eq_true h0); exact h (of_decide_eq_true h1))] at hR
    subst hR
    clear h0 h1
    cases x0
    ·go_wp2_with (go_at_call 70; (with_reducible refine (hi0 _).mono ?_); rintro e w11 ⟨rfl, hb11⟩; obtain ⟨_, _, ⟨hc11, hf11⟩, hz11⟩ := hb11.c3; (try simp only [wsz] at hz11 hc11 hf11))
     refine bodyPost_ret (v := .tuple #[.bool false, .int .i64 0]) ?_ rfl ⟨rfl, x10.trans hb11⟩
     simp [results, Tryz.results28, go_sem, ↓IntWalk.iteOmega, *]
    ·go_wp2_with (first
      | (go_at_call 70; (with_reducible refine (hi0 _).mono ?_); rintro e w11 ⟨rfl, hb11⟩; obtain ⟨_, _, ⟨hc11, hf11⟩, hz11⟩ := hb11.c3; (try simp only [wsz] at hz11 hc11 hf11))
      | (go_at_call 70; (with_reducible refine (hi1 _).mono ?_); rintro e w12 ⟨rfl, hb12⟩; obtain ⟨_, _, ⟨hc12, hf12⟩, hz12⟩ := hb12.c3; (try simp only [wsz] at hz12 hc12 hf12)))
     refine bodyPost_ret (v := .tuple #[.bool x1, .int .i64 0]) ?_ rfl ⟨rfl, (x10.trans hb11).trans hb12⟩
     simp [results, Tryz.results28, go_sem, ↓IntWalk.iteOmega, *]
   ·have g2 : W.e ≠ 0 ∨ N.e ≠ 0 := by
     by_cases y : W.e = 0
     ·refine .inr fun z => g ⟨h0 ▸ decide_eq_true y, h1 ▸ decide_eq_true z⟩
     ·exact .inl y
    rw [if_pos g2] at hR
    subst hR
    clear h0 h1
    cases q0
    ·exact T_STY_1
    ·cases q1
     ·exact T_STY_1
     ·exact absurd ⟨rfl, rfl⟩ g
  ·rw [if_pos a0] at hR
   subst hR
   go_upto_region 6 with (go_at_call 14; (with_reducible refine hA.mono ?_); rintro e w5 ⟨rfl, hb⟩)
   have xx : Ext w _ := (x4.trans hb).alloc (.cells #[.int .i64 A.v.a, .int .i64 A.v.b, .int .i64 A.v.c, .int .i64 A.v.d, .int .i64 A.v.e, .int .i64 A.v.f] 28)
   go_wp2_with fail
   refine bodyPost_ret (v := .tuple #[.bool false, .int .i64 A.e]) ?_ rfl ⟨rfl, xx⟩
   simp [results, Tryz.results28, go_sem, ↓IntWalk.iteOmega, *]
 ·rw [if_pos e0] at hR
  subst hR
  go_upto_region 3 with (go_at_call 67; (with_reducible refine (hC _ _ (vs_six _ _ _ _ _) ex_).mono ?_); rintro e w3 ⟨rfl, hb⟩)
  have xx : Ext w w3 := (x1w.alloc _).trans hb
  go_wp2_with fail
  refine bodyPost_ret (v := .tuple #[.bool false, .int .i64 C]) ?_ rfl ⟨rfl, xx⟩
  simp [results, Tryz.results28, go_sem, ↓IntWalk.iteOmega, *]
theorem ckF_ok {E fr ti : Int} {l : List V3} (h : ckF E l fr ti = 0) : E = 0 ∧ ckL l = 0 ∧ fr < ti ∧ -5000000000000000 ≤ fr ∧ ti ≤ 5000000000000000 := by
 unfold ckF at h
 split at h
 ·rename_i h1; exact absurd h h1
 ·rename_i h1
  split at h
  ·rename_i h2; exact absurd h h2
  ·rename_i h2
   split at h
   ·exact absurd h (by decide)
   ·split at h
    ·exact absurd h (by decide)
    ·exact ⟨Classical.not_not.1 h1, Classical.not_not.1 h2, by omega, by omega, by omega⟩
theorem pa_I {fr ti : Int} (h1 : fr < ti) (h2 : -5000000000000000 ≤ fr) (h3 : ti ≤ 5000000000000000) : (I64 (ofLo (paX fr ti)) ∧ I64 (ofHi (paX fr ti))) ∧ 0 ≤ ofLo (paX fr ti) ∧ ofLo (paX fr ti) ≤ ofHi (paX fr ti) := by
 have hfl : 0 ≤ (paX fr ti).num / ((paX fr ti).den : Int) ∧ (paX fr ti).num / ((paX fr ti).den : Int) ≤ 200000 := pace_fl (n := ti - fr) (d := 86400000000) (by decide) (a := 0) (b := 200000) (by omega) (by omega)
 obtain ⟨k1, k2, k3, k4⟩ := ofLo_le hfl.1 hfl.2
 unfold I64
 omega
def paL (C fr ti : Int) : Int := if C = 0 then ofLo (paX fr ti) else 0
def paH (C fr ti : Int) : Int := if C = 0 then ofHi (paX fr ti) else 0
theorem pa_IC {E fr ti : Int} {l : List V3} : I64 (paL (ckF E l fr ti) fr ti) ∧ I64 (paH (ckF E l fr ti) fr ti) := by
 unfold paL paH
 by_cases h : ckF E l fr ti = 0
 ·obtain ⟨_, _, k1, k2, k3⟩ := ckF_ok h
  rw [if_pos h, if_pos h]
  exact (pa_I k1 k2 k3).1
 ·rw [if_neg h, if_neg h]
  exact ⟨I64_0, I64_0⟩
theorem pa_call {E fr ti : Int} {l : List V3} (h : ckF E l fr ti = 0) (w1 : World) : Calls Tryz.prog 68 #[.int .i64 fr, .int .i64 ti] w1 fun e w' => e = .returned (.tuple #[.agg #[.int .i64 (paL (ckF E l fr ti) fr ti), .int .i64 (paH (ckF E l fr ti) fr ti)], .agg #[.int .i64 0, .int .i64 (paH (ckF E l fr ti) fr ti)]]) ∧ Ext w1 w' := by
 obtain ⟨_, _, k1, k2, k3⟩ := ckF_ok h
 unfold paL paH
 rw [if_pos h, if_pos h]
 exact fl_pace fr ti w1 k1 k2 k3
noncomputable def syV (E : Int) (l : List BodyD) (t : Tu) (p v : V3) : Bool × Int :=
 syR (ckF E [p, v, t.h, t.f, t.p, t.v] t.fr t.ti) (acR E l t.fr t.ti t.h) (goR v (acR E l t.fr t.ti t.h).v 0 (paH (ckF E [p, v, t.h, t.f, t.p, t.v] t.fr t.ti) t.fr t.ti)) (goR p t.f 0 (paH (ckF E [p, v, t.h, t.f, t.p, t.v] t.fr t.ti) t.fr t.ti)) t
theorem p_Stays (u : Value) (l : List BodyD) (E : Int) (t : Tu) (p v : V3) (w : World) (hB : Bds w u l) (hE : CkE l E) (hS : E = 0 → Sml l) (hh : t.h.I) (hf : t.f.I) :
    Calls Tryz.prog 28 #[.agg #[u], tv t, .agg #[.int .i64 p.a, .int .i64 p.b, .int .i64 p.c, .int .i64 p.d, .int .i64 p.e, .int .i64 p.f], .agg #[.int .i64 v.a, .int .i64 v.b, .int .i64 v.c, .int .i64 v.d, .int .i64 v.e, .int .i64 v.f]] w fun e w' => e = .returned (.tuple #[.bool (syV E l t p v).1, .int .i64 (syV E l t p v).2]) ∧ Ext w w' := by
 obtain ⟨ao, b, o, cap, rfl, _, _, _⟩ := hB.len
 exact sy_walk (ckF E [p, v, t.h, t.f, t.p, t.v] t.fr t.ti) (acR E l t.fr t.ti t.h) ao l.length cap (paL (ckF E [p, v, t.h, t.f, t.p, t.v] t.fr t.ti) t.fr t.ti) (paH (ckF E [p, v, t.h, t.f, t.p, t.v] t.fr t.ti) t.fr t.ti) t p v w
  (fun w1 k => p_Accel _ l E t.fr t.ti t.h w1 (hB.ext k) hE hS hh) (acR_I ..) hf pa_IC
  (fun u w1 hv k => fl_check E ao l.length cap u [p, v, t.h, t.f, t.p, t.v] t.fr t.ti w1 hv (fun w2 k2 => p_eCheck _ l E w2 (hB.ext (k.trans k2)) hE))
  (fun h w1 => pa_call h w1)
noncomputable def stR (E : Int) (l : List BodyD) (fr ti : Int) (p v : V3) : Tu × Int :=
 if ckF E [p, v] fr ti ≠ 0 then (Tu.O, ckF E [p, v] fr ti) else stT (fun b => acR E l fr ti b) (paL (ckF E [p, v] fr ti) fr ti) (paH (ckF E [p, v] fr ti) fr ti) fr ti p v 20 p
theorem p_Step (u : Value) (l : List BodyD) (E : Int) (fr ti : Int) (p v : V3) (w : World) (hB : Bds w u l) (hE : CkE l E) (hS : E = 0 → Sml l) (hv : v.I) :
    Calls Tryz.prog 30 #[.agg #[u], .int .i64 fr, .int .i64 ti, .agg #[.int .i64 p.a, .int .i64 p.b, .int .i64 p.c, .int .i64 p.d, .int .i64 p.e, .int .i64 p.f], .agg #[.int .i64 v.a, .int .i64 v.b, .int .i64 v.c, .int .i64 v.d, .int .i64 v.e, .int .i64 v.f]] w fun e w' => e = .returned (.tuple #[tv (stR E l fr ti p v).1, .int .i64 (stR E l fr ti p v).2]) ∧ Ext w w' := by
 obtain ⟨ao, b, o, cap, rfl, _, _, _⟩ := hB.len
 exact st_walk (fun b => acR E l fr ti b) (ckF E [p, v] fr ti) (stR E l fr ti p v) ao l.length cap fr ti (paL (ckF E [p, v] fr ti) fr ti) (paH (ckF E [p, v] fr ti) fr ti) p v w
  (fun b w1 hb k => p_Accel _ l E fr ti b w1 (hB.ext k) hE hS (ckV_I hb)) (fun b => acR_I ..) hv pa_IC
  (fun u w1 hv k => fl_check E ao l.length cap u [p, v] fr ti w1 hv (fun w2 k2 => p_eCheck _ l E w2 (hB.ext (k.trans k2)) hE))
  (fun h w1 => pa_call h w1)
  (fun h => by
   have h2 := (ckF_ok h).2.1
   unfold ckL at h2
   split at h2
   ·rename_i h3; exact absurd h2 h3
   ·rename_i h3; exact Classical.not_not.1 h3) rfl
def rtG (N : Nat) : Nat → Nat → Nat
 | 0, r => r
 | k + 1, r => if (r + 2 ^ k) * (r + 2 ^ k) ≤ N then rtG N k (r + 2 ^ k) else rtG N k r
theorem rtG_is (N : Nat) : ∀ (k r : Nat), r * r ≤ N → N < (r + 2 ^ k) * (r + 2 ^ k) → rtG N k r * rtG N k r ≤ N ∧ N < (rtG N k r + 1) * (rtG N k r + 1)
 | 0, r, h1, h2 => ⟨h1, by simpa [rtG] using h2⟩
 | k + 1, r, h1, h2 => by
  unfold rtG
  split
  ·rename_i h
   refine rtG_is N k _ h ?_
   rw [Nat.add_assoc, ← Nat.two_mul, ← Nat.pow_succ']
   exact h2
  ·rename_i h
   exact rtG_is N k r h1 (by omega)
def rootC (x : Int) : Int := (rtG (x.toNat * 1099511627776) 52 0 : Nat)
theorem rootC_eq {x : Int} (h0 : 0 ≤ x) (h1 : x ≤ 2305843009213693952) : rootI x = rootC x := by
 obtain ⟨n, rfl⟩ := Int.eq_ofNat_of_zero_le h0
 have hn : n ≤ 2305843009213693952 := by omega
 have h := rtG_is (n * 1099511627776) 52 0 (Nat.zero_le _) (by
  have : n * 1099511627776 ≤ 2305843009213693952 * 1099511627776 := Nat.mul_le_mul_right _ hn
  refine Nat.lt_of_le_of_lt this (by decide))
 refine (IsRoot.eq ?_).symm
 unfold rootC
 rw [Int.toNat_natCast]
 generalize rtG (n * 1099511627776) 52 0 = r at *
 refine ⟨by omega, ?_, ?_⟩
 ·have := Int.ofNat_le.2 h.1; simpa using this
 ·have := Int.ofNat_lt.2 h.2; simpa using this
def sqrtC (a b : Int) : R3 := if ckI a b ≠ 0 then ⟨0, 0, ckI a b⟩ else if a < 0 then ⟨0, 0, 2⟩ else ⟨rootC a, if rootC b * rootC b = b * 1099511627776 then rootC b else rootC b + 1, 0⟩
theorem sqrtI_c : sqrtI = sqrtC := by
 funext a b
 unfold sqrtI sqrtC
 split
 ·rfl
 ·rename_i h
  split
  ·rfl
  ·rename_i h2
   obtain ⟨k1, k2, k3⟩ := ckI_ok (Classical.not_not.1 h)
   rw [rootC_eq (by omega) (by omega), rootC_eq (by omega) (by omega)]
def sz1C (q : R3) : R3 := doI q.e (sqrtC q.lo q.hi)
def sz2C (q : R3) : R3 := doI (sz1C q).e (mulI q.lo q.hi (sz1C q).lo (sz1C q).hi)
theorem sz2_c (q : R3) : sz2 q = sz2C q := by unfold sz2 sz1; rw [sqrtI_c]; rfl
def plRC (E x y : Int) (d : V3) : V7 := ⟨plV (sz2C (doI E (nrmV d))) x y d, (pl2 (sz2C (doI E (nrmV d))) x y d).e⟩
theorem plR_c : plR = plRC := by
 funext E x y d
 unfold plR
 rw [sz2_c]
 rfl
def acC (b : V3) : V7 := if ckV b ≠ 0 then ⟨V3.O, ckV b⟩ else if (plRC 0 325358913 325358914 b).e ≠ 0 then ⟨V3.O, 24⟩ else ⟨(plRC 0 325358913 325358914 b).v, 0⟩
theorem acR_nil {fr ti : Int} (h : fr ≤ ti) (b : V3) : acR 0 [] fr ti b = acC b := by
 have hg : gaR 0 [] fr ti b = ([], ckV b) := by
  unfold gaR
  rw [if_neg (by simp)]
  by_cases e : ckV b = 0
  ·rw [if_neg (by simpa using e), if_neg (by omega)]
   simp [srN, e]
  ·rw [if_pos e]
 unfold acR acC
 rw [hg]
 dsimp only
 by_cases e : ckV b = 0
 ·have h1 : ¬ (ckV b ≠ 0) := by simpa using e
  rw [if_neg h1, if_neg h1]
  show (if (ac0 b).e ≠ 0 then _ else _) = _
  rw [show acN b [] (ac0 b) = ac0 b from rfl]
  unfold ac0
  rw [plR_c]
 ·rw [if_pos e, if_pos e]
def fiC (dl dh fr ti : Int) (h f p v a : V3) : Tu × Int :=
 if (sqI dl dh).e ≠ 0 then (Tu.O, 24) else if (goR p v dl dh).e ≠ 0 ∨ (goR (goR p v dl dh).v a (hfI dl dh).lo (hfI dl dh).hi).e ≠ 0 ∨ (goR v a dl dh).e ≠ 0 then (Tu.O, 24)
 else (⟨fr, ti, h, f, (goR (goR p v dl dh).v a (hfI dl dh).lo (hfI dl dh).hi).v, (goR v a dl dh).v⟩, 0)
def stC (dl dh fr ti : Int) (p v : V3) : Nat → V3 → Tu × Int
 | 0, _ => (Tu.O, 24)
 | k + 1, b => if trE (acC b) p v dh ≠ 0 then (Tu.O, trE (acC b) p v dh) else if inV (goR p (goR v (acC b).v 0 dh).v 0 dh).v b then fiC dl dh fr ti (goR p (goR v (acC b).v 0 dh).v 0 dh).v (goR v (acC b).v 0 dh).v p v (acC b).v
  else if ckV (wdV (goR p (goR v (acC b).v 0 dh).v 0 dh).v b) ≠ 0 then (Tu.O, 24) else stC dl dh fr ti p v k (wdV (goR p (goR v (acC b).v 0 dh).v 0 dh).v b)
theorem stT_c {dl dh fr ti : Int} {p v : V3} : ∀ (k : Nat) (b : V3), stT acC dl dh fr ti p v k b = stC dl dh fr ti p v k b
 | 0, _ => rfl
 | k + 1, b => by
  unfold stT stC
  rw [stT_c k]
  rfl
def lvP : V3 := ⟨1099511627776, 1099511627776, 0, 0, 0, 0⟩
def lvT : Tu := ⟨0, 86400000000, ⟨1099185931659, 1099511627776, -2, 2, -2, 2⟩, ⟨-325696117, 0, -2, 2, -2, 2⟩, ⟨1099348779717, 1099349020522, -1, 1, -1, 1⟩, ⟨-325696117, -325214509, -2, 2, -2, 2⟩⟩
theorem lv_st : stR 0 [] 0 86400000000 lvP V3.O = (lvT, 0) := by
 have hc : ckF 0 [lvP, V3.O] 0 86400000000 = 0 := by kernel_rfl
 unfold stR
 rw [hc, if_neg (by simp)]
 have ha : (fun b => acR 0 [] 0 86400000000 b) = acC := funext fun b => acR_nil (by decide) b
 rw [ha, stT_c]
 have e : stC (paL 0 0 86400000000) (paH 0 0 86400000000) 0 86400000000 lvP V3.O 20 lvP = (lvT, 0) := by kernel_rfl
 exact e
theorem lv_ck : CkE [] 0 := ⟨fun h => by rcases h with h | ⟨k, hk, _⟩; exact absurd h (by decide); exact absurd hk (Nat.not_lt_zero _), fun _ _ => rfl, fun _ h => absurd ⟨fun k hk => absurd hk (Nat.not_lt_zero _), fun i k _ hk => absurd hk (Nat.not_lt_zero _)⟩ h⟩
theorem lv_sml : Sml [] := ⟨by decide, fun i hi => absurd hi (Nat.not_lt_zero _)⟩
theorem lv_nil (w : World) : Bds w (.slice none 0 0) [] := ⟨none, 0, 0, 0, rfl, fun h => absurd h (Nat.lt_irrefl 0), Nat.le_refl _, by omega, fun h => absurd h (Nat.lt_irrefl 0), fun i hi => absurd hi (Nat.not_lt_zero _)⟩
theorem m_point (x : Int) (w : World) : Calls Tryz.prog 35 #[.int .i64 x] w fun e w' => e = .returned (.agg #[.int .i64 x, .int .i64 x]) ∧ Ext w w' := by
 go_enter Tryz.func35, Tryz.ntmps35
 go_wp2_with fail
 all_goals
  refine bodyPost_ret (v := .agg #[.int .i64 x, .int .i64 x]) ?_ rfl ⟨rfl, ?_⟩
  ·(try simp only [bn_, bm_] at *)
   simp [results, Tryz.results35, go_sem, ↓IntWalk.iteOmega, *]
  ·exact b_6
theorem m_rest (w : World) : Calls Tryz.prog 43 #[] w fun e w' => e = .returned (.agg #[.int .i64 0, .int .i64 1099511627776, .int .i64 0, .int .i64 0, .int .i64 0, .int .i64 0, .int .i64 0]) ∧ Ext w w' := by
 go_enter Tryz.func43, Tryz.ntmps43
 go_wp2_with fail
 all_goals
  refine bodyPost_ret (v := .agg #[.int .i64 0, .int .i64 1099511627776, .int .i64 0, .int .i64 0, .int .i64 0, .int .i64 0, .int .i64 0]) ?_ rfl ⟨rfl, ?_⟩
  ·(try simp only [bn_, bm_] at *)
   simp [results, Tryz.results43, go_sem, ↓IntWalk.iteOmega, *]
  ·exact b_6
def sdB (t : Tu) : Bool := decide (ckV t.h = 0) && (decide (ckV t.f = 0) && (decide (ckV t.p = 0) && decide (ckV t.v = 0)))
end Go.Proofs.YtbkgakgdbmjmjaaGreat
