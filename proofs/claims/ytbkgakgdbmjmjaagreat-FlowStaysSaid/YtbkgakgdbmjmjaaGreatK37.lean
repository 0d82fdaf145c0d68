/- law35.FlowStays: the walk. -/
import Derived.Test.YtbkgakgdbmjmjaaGreatK34
import Derived.Test.YtbkgakgdbmjmjaaGreatK35
import Derived.Test.YtbkgakgdbmjmjaaGreatK36
set_option linter.unusedSimpArgs false
set_option linter.unusedVariables false
set_option maxRecDepth 100000
set_option maxHeartbeats 8000000
namespace Go.Proofs.YtbkgakgdbmjmjaaGreat
open Go.RowKit
theorem T_FSW_2 {p : Prop} (h : p := by
 refine bodyPost_ret (v := .bool true) ?_ rfl ⟨rfl, xx⟩
 simp [results, Tryz.results9, go_sem, ↓IntWalk.iteOmega, *]) : p := h
theorem T_FSW_1 {p : Prop} (h : p := by
 refine hK.out _ _ ?_ fun _ => ?_
 ·(try dsimp only); exact ⟨bp.ext J4.1, bv.ext J4.1⟩
 clear hK K hHeld
 rename_i hHeld
 try simp only [sx_]
 refine wpAnyB_done c_18 ?_ _
 go_wp2_with fail
 go_meet
 exact J4) : p := h
theorem fs_walk (T1 T2 : Tu) (e1 e2 : Int) (G : Prop) (ao : Option Addr) (m cap : Nat) (fr ti : Int) (p v : V3) (w : World)
    (hgr : ∀ w1, Ext w w1 → Calls Tryz.prog 13 #[.agg #[.slice ao m cap]] w1 fun e w' => ∃ b, e = .returned (.bool b) ∧ Ext w1 w' ∧ (b = false → G))
    (hst : G → ∀ w1, Ext w w1 → Calls Tryz.prog 30 #[.agg #[.slice ao m cap], .int .i64 fr, .int .i64 ti, .agg #[.int .i64 p.a, .int .i64 p.b, .int .i64 p.c, .int .i64 p.d, .int .i64 p.e, .int .i64 p.f], .agg #[.int .i64 v.a, .int .i64 v.b, .int .i64 v.c, .int .i64 v.d, .int .i64 v.e, .int .i64 v.f]] w1 fun e w' => e = .returned (.tuple #[.agg (tvs T1).toArray, .int .i64 e1]) ∧ Ext w1 w')
    (hst2 : G → e1 = 0 → ∀ w1, Ext w w1 → Calls Tryz.prog 30 #[.agg #[.slice ao m cap], .int .i64 fr, .int .i64 ti, .agg #[.int .i64 (mdV p).a, .int .i64 (mdV p).b, .int .i64 (mdV p).c, .int .i64 (mdV p).d, .int .i64 (mdV p).e, .int .i64 (mdV p).f], .agg #[.int .i64 (mdV v).a, .int .i64 (mdV v).b, .int .i64 (mdV v).c, .int .i64 (mdV v).d, .int .i64 (mdV v).e, .int .i64 (mdV v).f]] w1 fun e w' => e = .returned (.tuple #[.agg (tvs T2).toArray, .int .i64 e2]) ∧ Ext w1 w')
    (hsy : G → e1 = 0 → ∀ w1, Ext w w1 → Calls Tryz.prog 28 #[.agg #[.slice ao m cap], .agg (tvs T1).toArray, .agg #[.int .i64 p.a, .int .i64 p.b, .int .i64 p.c, .int .i64 p.d, .int .i64 p.e, .int .i64 p.f], .agg #[.int .i64 v.a, .int .i64 v.b, .int .i64 v.c, .int .i64 v.d, .int .i64 v.e, .int .i64 v.f]] w1 fun e w' => e = .returned (.tuple #[.bool true, .int .i64 0]) ∧ Ext w1 w')
    (h1 : G → e1 = 0 → (ckV p = 0 ∧ ckV v = 0) ∧ (T1.fr = fr ∧ T1.ti = ti) ∧ sdB T1 = true ∧ mtV T1.h p = true ∧ mtV T1.f v = true ∧ mtV T1.h T1.p = true ∧ mtV T1.f T1.v = true)
    (h2 : G → e1 = 0 → e2 = 0 → sdB T2 = true ∧ mtV T1.h T2.h = true ∧ mtV T1.p T2.p = true ∧ mtV T1.v T2.v = true) :
    Calls Tryz.prog 9 #[.agg #[.slice ao m cap], .int .i64 fr, .int .i64 ti, .agg #[.int .i64 p.a, .int .i64 p.b, .int .i64 p.c, .int .i64 p.d, .int .i64 p.e, .int .i64 p.f], .agg #[.int .i64 v.a, .int .i64 v.b, .int .i64 v.c, .int .i64 v.d, .int .i64 v.e, .int .i64 v.f]] w fun e w' => e = .returned (.bool true) ∧ Ext w w' := by
 go_enter Tryz.func9, Tryz.ntmps9
 go_upto_region 1 with fail
 refine wp_name fun U1 hN => ?_
 have hU : U1 = ((w.alloc (.cells #[.slice ao m cap] 24)).alloc (.cells #[.int .i64 p.a, .int .i64 p.b, .int .i64 p.c, .int .i64 p.d, .int .i64 p.e, .int .i64 p.f] 28)).alloc (.cells #[.int .i64 v.a, .int .i64 v.b, .int .i64 v.c, .int .i64 v.d, .int .i64 v.e, .int .i64 v.f] 28) := hN
 have x1 : Ext w U1 := by rw [hU]; exact (((Ext.refl w).alloc _).alloc _).alloc _
 have be : U1.cell? ⟨w.heap.size, 0, none⟩ = some (.slice ao m cap) := by rw [hU]; simp [go_sem, ↓IntWalk.iteOmega]
 have bp : VB U1 (w.heap.size + 1) (six p) := by
  have h := (VB.lit (w.alloc (.cells #[.slice ao m cap] 24)) (six p) 28).ext ((Ext.refl _).alloc (.cells #[.int .i64 v.a, .int .i64 v.b, .int .i64 v.c, .int .i64 v.d, .int .i64 v.e, .int .i64 v.f] 28))
  rw [World.size_alloc] at h
  rw [hU]; exact h
 have bv : VB U1 (w.heap.size + 1 + 1) (six v) := by
  have h := VB.lit ((w.alloc (.cells #[.slice ao m cap] 24)).alloc (.cells #[.int .i64 p.a, .int .i64 p.b, .int .i64 p.c, .int .i64 p.d, .int .i64 p.e, .int .i64 p.f] 28)) (six v) 28
  rw [World.size_alloc, World.size_alloc] at h
  rw [hU]; exact h
 clear hN hU
 have l0 := World.block_lt_of_cell? _ _ be
 go_upto_region 2 with (go_at_call 32; (with_reducible refine (g_alive5 _).mono ?_); rintro e w2 ⟨rfl, hb⟩)
 replace be := (hb.cells.1 _ 0 l0).trans be
 replace bp := bp.ext hb
 replace bv := bv.ext hb
 have x2 := x1.trans hb
 replace l0 := World.block_lt_of_cell? _ _ be
 clear x1 hb
 replace hgr := hgr _ x2
 go_upto_region 4 with (go_at_call 13; (with_reducible refine hgr.mono ?_); rintro e w3 ⟨bb, rfl, hb, hG⟩)
 ·skip
  have xx := x2.trans hb
  exact T_FSW_2
 ·have hg : G := hG (by first | assumption | exact Bool.eq_false_iff.2 c_55 | rfl)
  clear hG
  replace hst := hst hg
  replace be := (hb.cells.1 _ 0 l0).trans be
  replace bp := bp.ext hb
  replace bv := bv.ext hb
  have x3 := x2.trans hb
  replace l0 := World.block_lt_of_cell? _ _ be
  clear x2 hb hgr
  have p0 : w3.cell? ⟨w.heap.size + 1, 0, none⟩ = some (.int .i64 p.a) := bp.1 0 _ rfl
  have p1 : w3.cell? ⟨w.heap.size + 1, 1, none⟩ = some (.int .i64 p.b) := bp.1 1 _ rfl
  have p2 : w3.cell? ⟨w.heap.size + 1, 2, none⟩ = some (.int .i64 p.c) := bp.1 2 _ rfl
  have p3 : w3.cell? ⟨w.heap.size + 1, 3, none⟩ = some (.int .i64 p.d) := bp.1 3 _ rfl
  have p4 : w3.cell? ⟨w.heap.size + 1, 4, none⟩ = some (.int .i64 p.e) := bp.1 4 _ rfl
  have p5 : w3.cell? ⟨w.heap.size + 1, 5, none⟩ = some (.int .i64 p.f) := bp.1 5 _ rfl
  have q0 : w3.cell? ⟨w.heap.size + 1 + 1, 0, none⟩ = some (.int .i64 v.a) := bv.1 0 _ rfl
  have q1 : w3.cell? ⟨w.heap.size + 1 + 1, 1, none⟩ = some (.int .i64 v.b) := bv.1 1 _ rfl
  have q2 : w3.cell? ⟨w.heap.size + 1 + 1, 2, none⟩ = some (.int .i64 v.c) := bv.1 2 _ rfl
  have q3 : w3.cell? ⟨w.heap.size + 1 + 1, 3, none⟩ = some (.int .i64 v.d) := bv.1 3 _ rfl
  have q4 : w3.cell? ⟨w.heap.size + 1 + 1, 4, none⟩ = some (.int .i64 v.e) := bv.1 4 _ rfl
  have q5 : w3.cell? ⟨w.heap.size + 1 + 1, 5, none⟩ = some (.int .i64 v.f) := bv.1 5 _ rfl
  replace hst := hst _ x3
  have hz : ∀ w1 : World, (w1.alloc (.cells #[.int .i64 0, .int .i64 0, .int .i64 0, .int .i64 0, .int .i64 0, .int .i64 0, .int .i64 0, .int .i64 0, .int .i64 0, .int .i64 0, .int .i64 0, .int .i64 0, .int .i64 0, .int .i64 0, .int .i64 0, .int .i64 0, .int .i64 0, .int .i64 0, .int .i64 0, .int .i64 0, .int .i64 0, .int .i64 0, .int .i64 0, .int .i64 0, .int .i64 0, .int .i64 0] 65)).there w1.heap.size 0 26 := fun w1 => (zb65 w1).there 26 rfl
  replace hz : Hid _ := hz
  go_upto_region 5 with (first
   | (go_at_call 30; (with_reducible refine hst.mono ?_); rintro e w5 ⟨rfl, hb⟩; have hth := hz.out w5)
   | ((with_reducible show wpList _ _ _ _ _ _); refine store_row rfl 65 (.tmp 12) (.tmp 36) rfl w5.heap.size (tvs T1).toArray rfl rfl hth tyI65 c_47 (fun W5 hW => ?_)))
  obtain ⟨B1, hB⟩ : ∃ B, w5.heap.size = B := ⟨_, rfl⟩
  have s5 := hb.size
  have lB : w.heap.size + 1 + 1 < B1 := by have := bv.2.2; omega
  have kx : Ext w3 W5 := hW.ext (hb.alloc _) s5
  have t1 : VB W5 B1 (tuL T1) := by rw [← hB]; exact VB.row (m := tuL T1) (zb65 w5) hW
  try rw [hB]
  have x5 := x3.trans kx
  replace be := (kx.cells.1 _ 0 l0).trans be
  replace bp := bp.ext kx
  replace bv := bv.ext kx
  replace l0 := World.block_lt_of_cell? _ _ be
  clear hB hW hb kx hth hst x3 s5
  clear p0 p1 p2 p3 p4 p5
  clear q0 q1 q2 q3 q4 q5
  by_cases e0 : e1 = 0
  ·subst e0
   obtain ⟨⟨kp, kv⟩, ⟨k1, k2⟩, k3, k4, k5, k6, k7⟩ := h1 hg rfl
   replace hsy := hsy hg rfl
   replace hst2 := hst2 hg rfl
   replace h2 := h2 hg rfl
   have m0 := fun w1 => m_meets T1.h p w1
   have m1 := fun w1 => m_meets T1.f v w1
   have m2 := fun w1 => m_meets T1.h T1.p w1
   have m3 := fun w1 => m_meets T1.f T1.v w1
   rw [k4] at m0
   rw [k5] at m1
   rw [k6] at m2
   rw [k7] at m3
   have sd := fun w1 => m_Sound T1 w1
   rw [k3] at sd
   unfold tv at sd
   clear h1 k3 k4 k5 k6 k7
   have hr := t1.range
   obtain ⟨dd, hu65, hrow⟩ := tyU65
   have c0 : W5.cell? ⟨B1, 0, none⟩ = some (.int .i64 fr) := (t1.1 0 _ rfl).trans (by rw [k1])
   have c1 : W5.cell? ⟨B1, 1, none⟩ = some (.int .i64 ti) := (t1.1 1 _ rfl).trans (by rw [k2])
   have lt1 := t1.2.2
   go_upto_region 9 with (first
    | ((with_reducible show wpList _ _ _ _ _ _); refine wpList_load_mid rfl 65 (.tmp 12) rfl B1 0 rfl (tvs T1) dd hr hu65 hrow tyI65 ?_)
    | (go_at_call 33; (with_reducible refine (sd _).mono ?_); rintro e w7 ⟨rfl, hb7⟩; obtain ⟨_, _, ⟨hc7, hf7⟩, hz7⟩ := hb7.c3; (try simp only [wsz] at hz7 hc7 hf7)))
   clear c0 c1 hr hc7 hf7 hz7
   replace be := (hb7.cells.1 _ 0 l0).trans be
   replace bp := bp.ext hb7
   replace bv := bv.ext hb7
   replace t1 := t1.ext hb7
   have x7 := x5.trans hb7
   replace l0 := World.block_lt_of_cell? _ _ be
   clear hb7 x5 lt1 sd
   replace hsy := hsy _ x7
   have hr := t1.range
   have p0 : w7.cell? ⟨w.heap.size + 1, 0, none⟩ = some (.int .i64 p.a) := bp.1 0 _ rfl
   have p1 : w7.cell? ⟨w.heap.size + 1, 1, none⟩ = some (.int .i64 p.b) := bp.1 1 _ rfl
   have p2 : w7.cell? ⟨w.heap.size + 1, 2, none⟩ = some (.int .i64 p.c) := bp.1 2 _ rfl
   have p3 : w7.cell? ⟨w.heap.size + 1, 3, none⟩ = some (.int .i64 p.d) := bp.1 3 _ rfl
   have p4 : w7.cell? ⟨w.heap.size + 1, 4, none⟩ = some (.int .i64 p.e) := bp.1 4 _ rfl
   have p5 : w7.cell? ⟨w.heap.size + 1, 5, none⟩ = some (.int .i64 p.f) := bp.1 5 _ rfl
   have q0 : w7.cell? ⟨w.heap.size + 1 + 1, 0, none⟩ = some (.int .i64 v.a) := bv.1 0 _ rfl
   have q1 : w7.cell? ⟨w.heap.size + 1 + 1, 1, none⟩ = some (.int .i64 v.b) := bv.1 1 _ rfl
   have q2 : w7.cell? ⟨w.heap.size + 1 + 1, 2, none⟩ = some (.int .i64 v.c) := bv.1 2 _ rfl
   have q3 : w7.cell? ⟨w.heap.size + 1 + 1, 3, none⟩ = some (.int .i64 v.d) := bv.1 3 _ rfl
   have q4 : w7.cell? ⟨w.heap.size + 1 + 1, 4, none⟩ = some (.int .i64 v.e) := bv.1 4 _ rfl
   have q5 : w7.cell? ⟨w.heap.size + 1 + 1, 5, none⟩ = some (.int .i64 v.f) := bv.1 5 _ rfl
   go_upto_region 10 with (first
    | ((with_reducible show wpList _ _ _ _ _ _); refine wpList_load_mid rfl 65 (.tmp 12) rfl B1 0 rfl (tvs T1) dd hr hu65 hrow tyI65 ?_)
    | (go_at_call 28; (with_reducible refine hsy.mono ?_); rintro e w9 ⟨rfl, hb⟩))
   clear p0 p1 p2 p3 p4 p5
   clear q0 q1 q2 q3 q4 q5
   clear hr
   replace be := (hb.cells.1 _ 0 l0).trans be
   replace bp := bp.ext hb
   replace bv := bv.ext hb
   replace t1 := t1.ext hb
   have x9 := x7.trans hb
   replace l0 := World.block_lt_of_cell? _ _ be
   clear hb x7 hsy
   have lp := bp.2.2
   have lv := bv.2.2
   have lt1 := t1.2.2
   have p0 : w9.cell? ⟨w.heap.size + 1, 0, none⟩ = some (.int .i64 p.a) := bp.1 0 _ rfl
   have p1 : w9.cell? ⟨w.heap.size + 1, 1, none⟩ = some (.int .i64 p.b) := bp.1 1 _ rfl
   have p2 : w9.cell? ⟨w.heap.size + 1, 2, none⟩ = some (.int .i64 p.c) := bp.1 2 _ rfl
   have p3 : w9.cell? ⟨w.heap.size + 1, 3, none⟩ = some (.int .i64 p.d) := bp.1 3 _ rfl
   have p4 : w9.cell? ⟨w.heap.size + 1, 4, none⟩ = some (.int .i64 p.e) := bp.1 4 _ rfl
   have p5 : w9.cell? ⟨w.heap.size + 1, 5, none⟩ = some (.int .i64 p.f) := bp.1 5 _ rfl
   have q0 : w9.cell? ⟨w.heap.size + 1 + 1, 0, none⟩ = some (.int .i64 v.a) := bv.1 0 _ rfl
   have q1 : w9.cell? ⟨w.heap.size + 1 + 1, 1, none⟩ = some (.int .i64 v.b) := bv.1 1 _ rfl
   have q2 : w9.cell? ⟨w.heap.size + 1 + 1, 2, none⟩ = some (.int .i64 v.c) := bv.1 2 _ rfl
   have q3 : w9.cell? ⟨w.heap.size + 1 + 1, 3, none⟩ = some (.int .i64 v.d) := bv.1 3 _ rfl
   have q4 : w9.cell? ⟨w.heap.size + 1 + 1, 4, none⟩ = some (.int .i64 v.e) := bv.1 4 _ rfl
   have q5 : w9.cell? ⟨w.heap.size + 1 + 1, 5, none⟩ = some (.int .i64 v.f) := bv.1 5 _ rfl
   have c2 : w9.cell? ⟨B1, 2, none⟩ = some (.int .i64 T1.h.a) := t1.1 2 _ rfl
   have c3 : w9.cell? ⟨B1, 3, none⟩ = some (.int .i64 T1.h.b) := t1.1 3 _ rfl
   have c4 : w9.cell? ⟨B1, 4, none⟩ = some (.int .i64 T1.h.c) := t1.1 4 _ rfl
   have c5 : w9.cell? ⟨B1, 5, none⟩ = some (.int .i64 T1.h.d) := t1.1 5 _ rfl
   have c6 : w9.cell? ⟨B1, 6, none⟩ = some (.int .i64 T1.h.e) := t1.1 6 _ rfl
   have c7 : w9.cell? ⟨B1, 7, none⟩ = some (.int .i64 T1.h.f) := t1.1 7 _ rfl
   have c8 : w9.cell? ⟨B1, 8, none⟩ = some (.int .i64 T1.f.a) := t1.1 8 _ rfl
   have c9 : w9.cell? ⟨B1, 9, none⟩ = some (.int .i64 T1.f.b) := t1.1 9 _ rfl
   have c10 : w9.cell? ⟨B1, 10, none⟩ = some (.int .i64 T1.f.c) := t1.1 10 _ rfl
   have c11 : w9.cell? ⟨B1, 11, none⟩ = some (.int .i64 T1.f.d) := t1.1 11 _ rfl
   have c12 : w9.cell? ⟨B1, 12, none⟩ = some (.int .i64 T1.f.e) := t1.1 12 _ rfl
   have c13 : w9.cell? ⟨B1, 13, none⟩ = some (.int .i64 T1.f.f) := t1.1 13 _ rfl
   have c14 : w9.cell? ⟨B1, 14, none⟩ = some (.int .i64 T1.p.a) := t1.1 14 _ rfl
   have c15 : w9.cell? ⟨B1, 15, none⟩ = some (.int .i64 T1.p.b) := t1.1 15 _ rfl
   have c16 : w9.cell? ⟨B1, 16, none⟩ = some (.int .i64 T1.p.c) := t1.1 16 _ rfl
   have c17 : w9.cell? ⟨B1, 17, none⟩ = some (.int .i64 T1.p.d) := t1.1 17 _ rfl
   have c18 : w9.cell? ⟨B1, 18, none⟩ = some (.int .i64 T1.p.e) := t1.1 18 _ rfl
   have c19 : w9.cell? ⟨B1, 19, none⟩ = some (.int .i64 T1.p.f) := t1.1 19 _ rfl
   have c20 : w9.cell? ⟨B1, 20, none⟩ = some (.int .i64 T1.v.a) := t1.1 20 _ rfl
   have c21 : w9.cell? ⟨B1, 21, none⟩ = some (.int .i64 T1.v.b) := t1.1 21 _ rfl
   have c22 : w9.cell? ⟨B1, 22, none⟩ = some (.int .i64 T1.v.c) := t1.1 22 _ rfl
   have c23 : w9.cell? ⟨B1, 23, none⟩ = some (.int .i64 T1.v.d) := t1.1 23 _ rfl
   have c24 : w9.cell? ⟨B1, 24, none⟩ = some (.int .i64 T1.v.e) := t1.1 24 _ rfl
   have c25 : w9.cell? ⟨B1, 25, none⟩ = some (.int .i64 T1.v.f) := t1.1 25 _ rfl
   go_upto_region 12 with (first
    | (go_at_call 34; (with_reducible refine (m0 _).mono ?_); rintro e w10 ⟨rfl, hb10⟩; obtain ⟨_, _, ⟨hc10, hf10⟩, hz10⟩ := hb10.c3; (try simp only [wsz] at hz10 hc10 hf10))
    | (go_at_call 34; (with_reducible refine (m1 _).mono ?_); rintro e w11 ⟨rfl, hb11⟩; obtain ⟨_, _, ⟨hc11, hf11⟩, hz11⟩ := hb11.c3; (try simp only [wsz] at hz11 hc11 hf11))
    | (go_at_call 34; (with_reducible refine (m2 _).mono ?_); rintro e w12 ⟨rfl, hb12⟩; obtain ⟨_, _, ⟨hc12, hf12⟩, hz12⟩ := hb12.c3; (try simp only [wsz] at hz12 hc12 hf12))
    | (go_at_call 34; (with_reducible refine (m3 _).mono ?_); rintro e w13 ⟨rfl, hb13⟩; obtain ⟨_, _, ⟨hc13, hf13⟩, hz13⟩ := hb13.c3; (try simp only [wsz] at hz13 hc13 hf13)))
   have k13 : Ext w9 w13 := ((hb10.trans hb11).trans hb12).trans hb13
   clear p0 p1 p2 p3 p4 p5
   clear q0 q1 q2 q3 q4 q5
   clear c2 c3 c4 c5 c6 c7 c8 c9 c10 c11 c12 c13 c14 c15 c16 c17 c18 c19 c20 c21 c22 c23 c24 c25
   clear hc10 hf10 hz10 hc11 hf11 hz11 hc12 hf12 hz12 hc13 hf13 hz13 hb10 hb11 hb12 hb13 m0 m1 m2 m3 lp lv lt1
   replace be := (k13.cells.1 _ 0 l0).trans be
   replace bp := bp.ext k13
   replace bv := bv.ext k13
   replace t1 := t1.ext k13
   have x13 := x9.trans k13
   replace l0 := World.block_lt_of_cell? _ _ be
   clear k13 x9
   go_upto_region 13 with fail
   refine wp_name fun U hN => ?_
   obtain ⟨n12, h12⟩ : ∃ n, w13.heap.size = n := ⟨_, rfl⟩
   have I0 : Ext w13 U ∧ VB U n12 [0, 0, 0, 0, 0, 0] ∧ VB U (n12 + 1) [0, 0, 0, 0, 0, 0] := by
    have e : U = (w13.alloc (.cells #[.int .i64 0, .int .i64 0, .int .i64 0, .int .i64 0, .int .i64 0, .int .i64 0] 28)).alloc (.cells #[.int .i64 0, .int .i64 0, .int .i64 0, .int .i64 0, .int .i64 0, .int .i64 0] 28) := hN
    have h := VB.lit (w13.alloc (.cells #[.int .i64 0, .int .i64 0, .int .i64 0, .int .i64 0, .int .i64 0, .int .i64 0] 28)) [0, 0, 0, 0, 0, 0] 28
    rw [World.size_alloc] at h
    rw [e, ← h12]
    exact ⟨((Ext.refl _).alloc _).alloc _, (VB.lit w13 [0, 0, 0, 0, 0, 0] 28).ext ((Ext.refl _).alloc (.cells #[.int .i64 0, .int .i64 0, .int .i64 0, .int .i64 0, .int .i64 0, .int .i64 0] 28)), h⟩
   try rw [h12]
   clear hN
   have lp := bp.2.2
   have lv := bv.2.2
   obtain ⟨kp0, kp1, kp2⟩ := ckV_ok kp
   obtain ⟨kv0, kv1, kv2⟩ := ckV_ok kv
   go_wp2_with fail
   refine wp_loop_rounds 4 ?_
   rw [rounds_succ]
   go_upto_block 1 with fail
   go_cut [] from 104 to 139 (fun wx => Ext w13 wx ∧ VB wx n12 [p.a + (p.b - p.a) / 2, p.a + (p.b - p.a) / 2, 0, 0, 0, 0] ∧ VB wx (n12 + 1) [v.a + (v.b - v.a) / 2, v.a + (v.b - v.a) / 2, 0, 0, 0, 0])
   case first =>
    go_upto_region 16 with fail
    have ap1 : wrap64 (p.b - p.a) = p.b - p.a := w64_in (by obtain ⟨h1, h2, h3⟩ := ckI_ok kp0; omega)
    have ap2 : wrap64 ((p.b - p.a).tdiv 2) = (p.b - p.a) / 2 := by
     obtain ⟨h1, h2, h3⟩ := ckI_ok kp0
     rw [Int.tdiv_eq_ediv_of_nonneg (by omega)]
     exact w64_in (by omega)
    have ap3 : wrap64 (p.a + (p.b - p.a) / 2) = p.a + (p.b - p.a) / 2 := w64_in (by obtain ⟨h1, h2, h3⟩ := ckI_ok kp0; omega)
    have ep : IntKind.i64.wrap (p.a + IntKind.i64.wrap ((IntKind.i64.wrap (p.b - p.a)).tdiv 2)) = p.a + (p.b - p.a) / 2 := by
     simp only [IntWalk.i64_left]
     show wrap64 (p.a + wrap64 ((wrap64 (p.b - p.a)).tdiv 2)) = _
     rw [ap1, ap2, ap3]
    clear ap1 ap2 ap3
    have av1 : wrap64 (v.b - v.a) = v.b - v.a := w64_in (by obtain ⟨h1, h2, h3⟩ := ckI_ok kv0; omega)
    have av2 : wrap64 ((v.b - v.a).tdiv 2) = (v.b - v.a) / 2 := by
     obtain ⟨h1, h2, h3⟩ := ckI_ok kv0
     rw [Int.tdiv_eq_ediv_of_nonneg (by omega)]
     exact w64_in (by omega)
    have av3 : wrap64 (v.a + (v.b - v.a) / 2) = v.a + (v.b - v.a) / 2 := w64_in (by obtain ⟨h1, h2, h3⟩ := ckI_ok kv0; omega)
    have ev : IntKind.i64.wrap (v.a + IntKind.i64.wrap ((IntKind.i64.wrap (v.b - v.a)).tdiv 2)) = v.a + (v.b - v.a) / 2 := by
     simp only [IntWalk.i64_left]
     show wrap64 (v.a + wrap64 ((wrap64 (v.b - v.a)).tdiv 2)) = _
     rw [av1, av2, av3]
    clear av1 av2 av3
    have J0 : _ ∧ _ ∧ _ := ⟨I0.1.trans (Ext.refl _).drew, I0.2.1.ext (Ext.refl _).drew, I0.2.2.ext (Ext.refl _).drew⟩
    refine wp_region_till (S := (fun w0 => VB w0 (w.heap.size + 1) (six p) ∧ VB w0 (w.heap.size + 1 + 1) (six v))) (fun _ => false) c_18 ?_ (fun hHeld => ?_)
    ·exact ⟨bp.ext J0.1, bv.ext J0.1⟩
    try simp only [sx_]
    refine tp 0 rfl c_1 ?_
    try simp only [sx_]
    refine tp 1 rfl c_1 ?_
    try simp only [sx_]
    refine tp 2 rfl c_1 ?_
    try simp only [sx_]
    refine tp 3 rfl c_1 ?_
    try simp only [sx_]
    refine tp 4 rfl c_1 ?_
    try simp only [sx_]
    refine tb 5 rfl c_16 ?_
    try simp only [sx_]
    refine tp 6 rfl c_1 ?_
    try simp only [sx_]
    refine tp 7 rfl c_1 ?_
    try simp only [sx_]
    refine tp 8 rfl c_1 ?_
    try simp only [sx_]
    refine tb 9 rfl c_16 ?_
    try simp only [sx_]
    refine tp 10 rfl c_1 ?_
    try simp only [sx_]
    refine tp 11 rfl c_1 ?_
    try simp only [sx_]
    refine tp 12 rfl c_1 ?_
    try simp only [sx_]
    refine tb 13 rfl c_16 ?_
    try simp only [sx_]
    refine tp 14 rfl c_1 ?_
    try simp only [sx_]
    refine tp 15 rfl c_1 ?_
    try simp only [sx_]
    refine tp 16 rfl c_1 ?_
    try simp only [sx_]
    refine tp 18 rfl c_1 ?_
    try simp only [sx_]
    refine tp 19 rfl c_1 ?_
    try simp only [sx_]
    refine tp 20 rfl c_1 ?_
    try simp only [sx_]
    refine tb 21 rfl c_16 ?_
    try simp only [sx_]
    refine tp 22 rfl c_1 ?_
    try simp only [sx_]
    refine tp 23 rfl c_1 ?_
    try simp only [sx_]
    refine tp 24 rfl c_1 ?_
    try simp only [sx_]
    refine tb 25 rfl c_16 ?_
    try simp only [sx_]
    refine tp 26 rfl c_1 ?_
    try simp only [sx_]
    refine tp 27 rfl c_1 ?_
    try simp only [sx_]
    refine tp 28 rfl c_1 ?_
    try simp only [sx_]
    refine tb 29 rfl c_16 ?_
    try simp only [sx_]
    refine tp 30 rfl c_1 ?_
    try simp only [sx_]
    refine tp 31 rfl c_1 ?_
    try simp only [sx_]
    refine tp 32 rfl c_1 ?_
    try simp only [sx_]
    refine rb (i := 17) rfl fun K hK => ?_
    go_simp
    (try rw [ep])
    (go_at_call 35; (with_reducible refine (m_point (p.a + (p.b - p.a) / 2) _).mono ?_); rintro e y1 ⟨rfl, hy⟩)
    have J1 : _ ∧ _ ∧ _ := ⟨J0.1.trans hy, J0.2.1.ext hy, J0.2.2.ext hy⟩
    refine hK.out _ _ ?_ fun _ => ?_
    ·(try dsimp only); exact ⟨bp.ext J1.1, bv.ext J1.1⟩
    clear hK K hHeld
    rename_i hHeld
    try simp only [sx_]
    refine tp 34 rfl c_1 ?_
    try simp only [sx_]
    refine rb (i := 33) rfl fun K hK => ?_
    go_simp
    (try rw [ev])
    (go_at_call 35; (with_reducible refine (m_point (v.a + (v.b - v.a) / 2) _).mono ?_); rintro e y2 ⟨rfl, hy2⟩)
    have J2 : _ ∧ _ ∧ _ := ⟨J1.1.trans hy2, J1.2.1.ext hy2, J1.2.2.ext hy2⟩
    refine hK.out _ _ ?_ fun _ => ?_
    ·(try dsimp only); exact ⟨bp.ext J2.1, bv.ext J2.1⟩
    clear hK K hHeld
    rename_i hHeld
    try simp only [sx_]
    refine rb (i := 35) rfl fun K hK => ?_
    rw [if_pos (by rfl)]
    refine wp_store_at 26 (.tmp 138) (.tmp 121) rfl n12 0 #[.int .i64 (p.a + (p.b - p.a) / 2), .int .i64 (p.a + (p.b - p.a) / 2)] rfl rfl (J2.2.1.mid 0 2 (Nat.le_of_ble_eq_true rfl)) tyI26 c_43 (fun W1 hW1 => ?_)
    have J3 : _ ∧ _ ∧ _ := ⟨hW1.own J2.1 (by omega), hW1.vb (m := [p.a + (p.b - p.a) / 2, p.a + (p.b - p.a) / 2]) J2.2.1 (Nat.le_of_ble_eq_true rfl), hW1.other J2.2.2 (by omega)⟩
    try simp only [sx_]
    refine hK.out _ _ ?_ fun _ => ?_
    ·(try dsimp only); exact ⟨bp.ext J3.1, bv.ext J3.1⟩
    clear hK K hHeld
    rename_i hHeld
    try simp only [sx_]
    refine tp 36 rfl c_1 ?_
    try simp only [sx_]
    refine rb (i := 37) rfl fun K hK => ?_
    rw [if_pos (by rfl)]
    refine wp_store_at 26 (.tmp 139) (.tmp 137) rfl (n12 + 1) 0 #[.int .i64 (v.a + (v.b - v.a) / 2), .int .i64 (v.a + (v.b - v.a) / 2)] rfl rfl (J3.2.2.mid 0 2 (Nat.le_of_ble_eq_true rfl)) tyI26 c_43 (fun W2 hW2 => ?_)
    have J4 : _ ∧ _ ∧ _ := ⟨hW2.own J3.1 (by omega), hW2.other J3.2.1 (by omega), hW2.vb (m := [v.a + (v.b - v.a) / 2, v.a + (v.b - v.a) / 2]) J3.2.2 (Nat.le_of_ble_eq_true rfl)⟩
    try simp only [sx_]
    exact T_FSW_1
   have I1 := hcut
   clear hcut I0
   go_wp2_with fail
   rw [rounds_succ]
   go_upto_block 1 with fail
   go_cut [] from 104 to 139 (fun wx => Ext w13 wx ∧ VB wx n12 [p.a + (p.b - p.a) / 2, p.a + (p.b - p.a) / 2, p.c + (p.d - p.c) / 2, p.c + (p.d - p.c) / 2, 0, 0] ∧ VB wx (n12 + 1) [v.a + (v.b - v.a) / 2, v.a + (v.b - v.a) / 2, v.c + (v.d - v.c) / 2, v.c + (v.d - v.c) / 2, 0, 0])
   case first =>
    go_upto_region 16 with fail
    have ap1 : wrap64 (p.d - p.c) = p.d - p.c := w64_in (by obtain ⟨h1, h2, h3⟩ := ckI_ok kp1; omega)
    have ap2 : wrap64 ((p.d - p.c).tdiv 2) = (p.d - p.c) / 2 := by
     obtain ⟨h1, h2, h3⟩ := ckI_ok kp1
     rw [Int.tdiv_eq_ediv_of_nonneg (by omega)]
     exact w64_in (by omega)
    have ap3 : wrap64 (p.c + (p.d - p.c) / 2) = p.c + (p.d - p.c) / 2 := w64_in (by obtain ⟨h1, h2, h3⟩ := ckI_ok kp1; omega)
    have ep : IntKind.i64.wrap (p.c + IntKind.i64.wrap ((IntKind.i64.wrap (p.d - p.c)).tdiv 2)) = p.c + (p.d - p.c) / 2 := by
     simp only [IntWalk.i64_left]
     show wrap64 (p.c + wrap64 ((wrap64 (p.d - p.c)).tdiv 2)) = _
     rw [ap1, ap2, ap3]
    clear ap1 ap2 ap3
    have av1 : wrap64 (v.d - v.c) = v.d - v.c := w64_in (by obtain ⟨h1, h2, h3⟩ := ckI_ok kv1; omega)
    have av2 : wrap64 ((v.d - v.c).tdiv 2) = (v.d - v.c) / 2 := by
     obtain ⟨h1, h2, h3⟩ := ckI_ok kv1
     rw [Int.tdiv_eq_ediv_of_nonneg (by omega)]
     exact w64_in (by omega)
    have av3 : wrap64 (v.c + (v.d - v.c) / 2) = v.c + (v.d - v.c) / 2 := w64_in (by obtain ⟨h1, h2, h3⟩ := ckI_ok kv1; omega)
    have ev : IntKind.i64.wrap (v.c + IntKind.i64.wrap ((IntKind.i64.wrap (v.d - v.c)).tdiv 2)) = v.c + (v.d - v.c) / 2 := by
     simp only [IntWalk.i64_left]
     show wrap64 (v.c + wrap64 ((wrap64 (v.d - v.c)).tdiv 2)) = _
     rw [av1, av2, av3]
    clear av1 av2 av3
    have J0 : _ ∧ _ ∧ _ := ⟨I1.1.trans (Ext.refl _).drew, I1.2.1.ext (Ext.refl _).drew, I1.2.2.ext (Ext.refl _).drew⟩
    refine wp_region_till (S := (fun w0 => VB w0 (w.heap.size + 1) (six p) ∧ VB w0 (w.heap.size + 1 + 1) (six v))) (fun _ => false) c_18 ?_ (fun hHeld => ?_)
    ·exact ⟨bp.ext J0.1, bv.ext J0.1⟩
    try simp only [sx_]
    refine tp 0 rfl c_1 ?_
    try simp only [sx_]
    refine tp 1 rfl c_1 ?_
    try simp only [sx_]
    refine tp 2 rfl c_1 ?_
    try simp only [sx_]
    refine tp 3 rfl c_1 ?_
    try simp only [sx_]
    refine tp 4 rfl c_1 ?_
    try simp only [sx_]
    refine tb 5 rfl c_24 ?_
    try simp only [sx_]
    refine tp 6 rfl c_1 ?_
    try simp only [sx_]
    refine tp 7 rfl c_1 ?_
    try simp only [sx_]
    refine tp 8 rfl c_1 ?_
    try simp only [sx_]
    refine tb 9 rfl c_24 ?_
    try simp only [sx_]
    refine tp 10 rfl c_1 ?_
    try simp only [sx_]
    refine tp 11 rfl c_1 ?_
    try simp only [sx_]
    refine tp 12 rfl c_1 ?_
    try simp only [sx_]
    refine tb 13 rfl c_24 ?_
    try simp only [sx_]
    refine tp 14 rfl c_1 ?_
    try simp only [sx_]
    refine tp 15 rfl c_1 ?_
    try simp only [sx_]
    refine tp 16 rfl c_1 ?_
    try simp only [sx_]
    refine tp 18 rfl c_1 ?_
    try simp only [sx_]
    refine tp 19 rfl c_1 ?_
    try simp only [sx_]
    refine tp 20 rfl c_1 ?_
    try simp only [sx_]
    refine tb 21 rfl c_24 ?_
    try simp only [sx_]
    refine tp 22 rfl c_1 ?_
    try simp only [sx_]
    refine tp 23 rfl c_1 ?_
    try simp only [sx_]
    refine tp 24 rfl c_1 ?_
    try simp only [sx_]
    refine tb 25 rfl c_24 ?_
    try simp only [sx_]
    refine tp 26 rfl c_1 ?_
    try simp only [sx_]
    refine tp 27 rfl c_1 ?_
    try simp only [sx_]
    refine tp 28 rfl c_1 ?_
    try simp only [sx_]
    refine tb 29 rfl c_24 ?_
    try simp only [sx_]
    refine tp 30 rfl c_1 ?_
    try simp only [sx_]
    refine tp 31 rfl c_1 ?_
    try simp only [sx_]
    refine tp 32 rfl c_1 ?_
    try simp only [sx_]
    refine rb (i := 17) rfl fun K hK => ?_
    go_simp
    (try rw [ep])
    (go_at_call 35; (with_reducible refine (m_point (p.c + (p.d - p.c) / 2) _).mono ?_); rintro e y1 ⟨rfl, hy⟩)
    have J1 : _ ∧ _ ∧ _ := ⟨J0.1.trans hy, J0.2.1.ext hy, J0.2.2.ext hy⟩
    refine hK.out _ _ ?_ fun _ => ?_
    ·(try dsimp only); exact ⟨bp.ext J1.1, bv.ext J1.1⟩
    clear hK K hHeld
    rename_i hHeld
    try simp only [sx_]
    refine tp 34 rfl c_1 ?_
    try simp only [sx_]
    refine rb (i := 33) rfl fun K hK => ?_
    go_simp
    (try rw [ev])
    (go_at_call 35; (with_reducible refine (m_point (v.c + (v.d - v.c) / 2) _).mono ?_); rintro e y2 ⟨rfl, hy2⟩)
    have J2 : _ ∧ _ ∧ _ := ⟨J1.1.trans hy2, J1.2.1.ext hy2, J1.2.2.ext hy2⟩
    refine hK.out _ _ ?_ fun _ => ?_
    ·(try dsimp only); exact ⟨bp.ext J2.1, bv.ext J2.1⟩
    clear hK K hHeld
    rename_i hHeld
    try simp only [sx_]
    refine rb (i := 35) rfl fun K hK => ?_
    rw [if_pos (by rfl)]
    refine wp_store_at 26 (.tmp 138) (.tmp 121) rfl n12 2 #[.int .i64 (p.c + (p.d - p.c) / 2), .int .i64 (p.c + (p.d - p.c) / 2)] rfl rfl (J2.2.1.mid 2 2 (Nat.le_of_ble_eq_true rfl)) tyI26 c_43 (fun W1 hW1 => ?_)
    have J3 : _ ∧ _ ∧ _ := ⟨hW1.own J2.1 (by omega), hW1.vb (m := [p.c + (p.d - p.c) / 2, p.c + (p.d - p.c) / 2]) J2.2.1 (Nat.le_of_ble_eq_true rfl), hW1.other J2.2.2 (by omega)⟩
    try simp only [sx_]
    refine hK.out _ _ ?_ fun _ => ?_
    ·(try dsimp only); exact ⟨bp.ext J3.1, bv.ext J3.1⟩
    clear hK K hHeld
    rename_i hHeld
    try simp only [sx_]
    refine tp 36 rfl c_1 ?_
    try simp only [sx_]
    refine rb (i := 37) rfl fun K hK => ?_
    rw [if_pos (by rfl)]
    refine wp_store_at 26 (.tmp 139) (.tmp 137) rfl (n12 + 1) 2 #[.int .i64 (v.c + (v.d - v.c) / 2), .int .i64 (v.c + (v.d - v.c) / 2)] rfl rfl (J3.2.2.mid 2 2 (Nat.le_of_ble_eq_true rfl)) tyI26 c_43 (fun W2 hW2 => ?_)
    have J4 : _ ∧ _ ∧ _ := ⟨hW2.own J3.1 (by omega), hW2.other J3.2.1 (by omega), hW2.vb (m := [v.c + (v.d - v.c) / 2, v.c + (v.d - v.c) / 2]) J3.2.2 (Nat.le_of_ble_eq_true rfl)⟩
    try simp only [sx_]
    exact T_FSW_1
   have I2 := hcut
   clear hcut I1
   go_wp2_with fail
   rw [rounds_succ]
   go_upto_block 1 with fail
   go_cut [] from 104 to 139 (fun wx => Ext w13 wx ∧ VB wx n12 [p.a + (p.b - p.a) / 2, p.a + (p.b - p.a) / 2, p.c + (p.d - p.c) / 2, p.c + (p.d - p.c) / 2, p.e + (p.f - p.e) / 2, p.e + (p.f - p.e) / 2] ∧ VB wx (n12 + 1) [v.a + (v.b - v.a) / 2, v.a + (v.b - v.a) / 2, v.c + (v.d - v.c) / 2, v.c + (v.d - v.c) / 2, v.e + (v.f - v.e) / 2, v.e + (v.f - v.e) / 2])
   case first =>
    go_upto_region 16 with fail
    have ap1 : wrap64 (p.f - p.e) = p.f - p.e := w64_in (by obtain ⟨h1, h2, h3⟩ := ckI_ok kp2; omega)
    have ap2 : wrap64 ((p.f - p.e).tdiv 2) = (p.f - p.e) / 2 := by
     obtain ⟨h1, h2, h3⟩ := ckI_ok kp2
     rw [Int.tdiv_eq_ediv_of_nonneg (by omega)]
     exact w64_in (by omega)
    have ap3 : wrap64 (p.e + (p.f - p.e) / 2) = p.e + (p.f - p.e) / 2 := w64_in (by obtain ⟨h1, h2, h3⟩ := ckI_ok kp2; omega)
    have ep : IntKind.i64.wrap (p.e + IntKind.i64.wrap ((IntKind.i64.wrap (p.f - p.e)).tdiv 2)) = p.e + (p.f - p.e) / 2 := by
     simp only [IntWalk.i64_left]
     show wrap64 (p.e + wrap64 ((wrap64 (p.f - p.e)).tdiv 2)) = _
     rw [ap1, ap2, ap3]
    clear ap1 ap2 ap3
    have av1 : wrap64 (v.f - v.e) = v.f - v.e := w64_in (by obtain ⟨h1, h2, h3⟩ := ckI_ok kv2; omega)
    have av2 : wrap64 ((v.f - v.e).tdiv 2) = (v.f - v.e) / 2 := by
     obtain ⟨h1, h2, h3⟩ := ckI_ok kv2
     rw [Int.tdiv_eq_ediv_of_nonneg (by omega)]
     exact w64_in (by omega)
    have av3 : wrap64 (v.e + (v.f - v.e) / 2) = v.e + (v.f - v.e) / 2 := w64_in (by obtain ⟨h1, h2, h3⟩ := ckI_ok kv2; omega)
    have ev : IntKind.i64.wrap (v.e + IntKind.i64.wrap ((IntKind.i64.wrap (v.f - v.e)).tdiv 2)) = v.e + (v.f - v.e) / 2 := by
     simp only [IntWalk.i64_left]
     show wrap64 (v.e + wrap64 ((wrap64 (v.f - v.e)).tdiv 2)) = _
     rw [av1, av2, av3]
    clear av1 av2 av3
    have J0 : _ ∧ _ ∧ _ := ⟨I2.1.trans (Ext.refl _).drew, I2.2.1.ext (Ext.refl _).drew, I2.2.2.ext (Ext.refl _).drew⟩
    refine wp_region_till (S := (fun w0 => VB w0 (w.heap.size + 1) (six p) ∧ VB w0 (w.heap.size + 1 + 1) (six v))) (fun _ => false) c_18 ?_ (fun hHeld => ?_)
    ·exact ⟨bp.ext J0.1, bv.ext J0.1⟩
    try simp only [sx_]
    refine tp 0 rfl c_1 ?_
    try simp only [sx_]
    refine tp 1 rfl c_1 ?_
    try simp only [sx_]
    refine tp 2 rfl c_1 ?_
    try simp only [sx_]
    refine tp 3 rfl c_1 ?_
    try simp only [sx_]
    refine tp 4 rfl c_1 ?_
    try simp only [sx_]
    refine tb 5 rfl c_25 ?_
    try simp only [sx_]
    refine tp 6 rfl c_1 ?_
    try simp only [sx_]
    refine tp 7 rfl c_1 ?_
    try simp only [sx_]
    refine tp 8 rfl c_1 ?_
    try simp only [sx_]
    refine tb 9 rfl c_25 ?_
    try simp only [sx_]
    refine tp 10 rfl c_1 ?_
    try simp only [sx_]
    refine tp 11 rfl c_1 ?_
    try simp only [sx_]
    refine tp 12 rfl c_1 ?_
    try simp only [sx_]
    refine tb 13 rfl c_25 ?_
    try simp only [sx_]
    refine tp 14 rfl c_1 ?_
    try simp only [sx_]
    refine tp 15 rfl c_1 ?_
    try simp only [sx_]
    refine tp 16 rfl c_1 ?_
    try simp only [sx_]
    refine tp 18 rfl c_1 ?_
    try simp only [sx_]
    refine tp 19 rfl c_1 ?_
    try simp only [sx_]
    refine tp 20 rfl c_1 ?_
    try simp only [sx_]
    refine tb 21 rfl c_25 ?_
    try simp only [sx_]
    refine tp 22 rfl c_1 ?_
    try simp only [sx_]
    refine tp 23 rfl c_1 ?_
    try simp only [sx_]
    refine tp 24 rfl c_1 ?_
    try simp only [sx_]
    refine tb 25 rfl c_25 ?_
    try simp only [sx_]
    refine tp 26 rfl c_1 ?_
    try simp only [sx_]
    refine tp 27 rfl c_1 ?_
    try simp only [sx_]
    refine tp 28 rfl c_1 ?_
    try simp only [sx_]
    refine tb 29 rfl c_25 ?_
    try simp only [sx_]
    refine tp 30 rfl c_1 ?_
    try simp only [sx_]
    refine tp 31 rfl c_1 ?_
    try simp only [sx_]
    refine tp 32 rfl c_1 ?_
    try simp only [sx_]
    refine rb (i := 17) rfl fun K hK => ?_
    go_simp
    (try rw [ep])
    (go_at_call 35; (with_reducible refine (m_point (p.e + (p.f - p.e) / 2) _).mono ?_); rintro e y1 ⟨rfl, hy⟩)
    have J1 : _ ∧ _ ∧ _ := ⟨J0.1.trans hy, J0.2.1.ext hy, J0.2.2.ext hy⟩
    refine hK.out _ _ ?_ fun _ => ?_
    ·(try dsimp only); exact ⟨bp.ext J1.1, bv.ext J1.1⟩
    clear hK K hHeld
    rename_i hHeld
    try simp only [sx_]
    refine tp 34 rfl c_1 ?_
    try simp only [sx_]
    refine rb (i := 33) rfl fun K hK => ?_
    go_simp
    (try rw [ev])
    (go_at_call 35; (with_reducible refine (m_point (v.e + (v.f - v.e) / 2) _).mono ?_); rintro e y2 ⟨rfl, hy2⟩)
    have J2 : _ ∧ _ ∧ _ := ⟨J1.1.trans hy2, J1.2.1.ext hy2, J1.2.2.ext hy2⟩
    refine hK.out _ _ ?_ fun _ => ?_
    ·(try dsimp only); exact ⟨bp.ext J2.1, bv.ext J2.1⟩
    clear hK K hHeld
    rename_i hHeld
    try simp only [sx_]
    refine rb (i := 35) rfl fun K hK => ?_
    rw [if_pos (by rfl)]
    refine wp_store_at 26 (.tmp 138) (.tmp 121) rfl n12 4 #[.int .i64 (p.e + (p.f - p.e) / 2), .int .i64 (p.e + (p.f - p.e) / 2)] rfl rfl (J2.2.1.mid 4 2 (Nat.le_of_ble_eq_true rfl)) tyI26 c_43 (fun W1 hW1 => ?_)
    have J3 : _ ∧ _ ∧ _ := ⟨hW1.own J2.1 (by omega), hW1.vb (m := [p.e + (p.f - p.e) / 2, p.e + (p.f - p.e) / 2]) J2.2.1 (Nat.le_of_ble_eq_true rfl), hW1.other J2.2.2 (by omega)⟩
    try simp only [sx_]
    refine hK.out _ _ ?_ fun _ => ?_
    ·(try dsimp only); exact ⟨bp.ext J3.1, bv.ext J3.1⟩
    clear hK K hHeld
    rename_i hHeld
    try simp only [sx_]
    refine tp 36 rfl c_1 ?_
    try simp only [sx_]
    refine rb (i := 37) rfl fun K hK => ?_
    rw [if_pos (by rfl)]
    refine wp_store_at 26 (.tmp 139) (.tmp 137) rfl (n12 + 1) 4 #[.int .i64 (v.e + (v.f - v.e) / 2), .int .i64 (v.e + (v.f - v.e) / 2)] rfl rfl (J3.2.2.mid 4 2 (Nat.le_of_ble_eq_true rfl)) tyI26 c_43 (fun W2 hW2 => ?_)
    have J4 : _ ∧ _ ∧ _ := ⟨hW2.own J3.1 (by omega), hW2.other J3.2.1 (by omega), hW2.vb (m := [v.e + (v.f - v.e) / 2, v.e + (v.f - v.e) / 2]) J3.2.2 (Nat.le_of_ble_eq_true rfl)⟩
    try simp only [sx_]
    exact T_FSW_1
   have I3 := hcut
   clear hcut I2
   go_wp2_with fail
   rw [rounds_succ]
   obtain ⟨i1, i2, i3⟩ := I3
   replace i2 : VB wc n12 (six (mdV p)) := i2
   replace i3 : VB wc (n12 + 1) (six (mdV v)) := i3
   have x16 := x13.trans i1
   generalize mdV p = Q at *
   generalize mdV v = Y at *
   replace be := (i1.cells.1 _ 0 l0).trans be
   replace t1 := t1.ext i1
   replace l0 := World.block_lt_of_cell? _ _ be
   clear i1 x13 bp bv lp lv kp0 kp1 kp2 kv0 kv1 kv2 kp kv
   replace hst2 := hst2 _ x16
   have p0 : wc.cell? ⟨n12, 0, none⟩ = some (.int .i64 Q.a) := i2.1 0 _ rfl
   have p1 : wc.cell? ⟨n12, 1, none⟩ = some (.int .i64 Q.b) := i2.1 1 _ rfl
   have p2 : wc.cell? ⟨n12, 2, none⟩ = some (.int .i64 Q.c) := i2.1 2 _ rfl
   have p3 : wc.cell? ⟨n12, 3, none⟩ = some (.int .i64 Q.d) := i2.1 3 _ rfl
   have p4 : wc.cell? ⟨n12, 4, none⟩ = some (.int .i64 Q.e) := i2.1 4 _ rfl
   have p5 : wc.cell? ⟨n12, 5, none⟩ = some (.int .i64 Q.f) := i2.1 5 _ rfl
   have q0 : wc.cell? ⟨n12 + 1, 0, none⟩ = some (.int .i64 Y.a) := i3.1 0 _ rfl
   have q1 : wc.cell? ⟨n12 + 1, 1, none⟩ = some (.int .i64 Y.b) := i3.1 1 _ rfl
   have q2 : wc.cell? ⟨n12 + 1, 2, none⟩ = some (.int .i64 Y.c) := i3.1 2 _ rfl
   have q3 : wc.cell? ⟨n12 + 1, 3, none⟩ = some (.int .i64 Y.d) := i3.1 3 _ rfl
   have q4 : wc.cell? ⟨n12 + 1, 4, none⟩ = some (.int .i64 Y.e) := i3.1 4 _ rfl
   have q5 : wc.cell? ⟨n12 + 1, 5, none⟩ = some (.int .i64 Y.f) := i3.1 5 _ rfl
   go_upto_region 18 with (first
    | (go_at_call 30; (with_reducible refine hst2.mono ?_); rintro e w17 ⟨rfl, hb⟩; have hth := hz.out w17)
    | ((with_reducible show wpList _ _ _ _ _ _); refine store_row rfl 65 (.tmp 19) (.tmp 147) rfl w17.heap.size (tvs T2).toArray rfl rfl hth tyI65 c_47 (fun W17 hW => ?_)))
   obtain ⟨B2, hB⟩ : ∃ B, w17.heap.size = B := ⟨_, rfl⟩
   have s17 := hb.size
   have kx : Ext wc W17 := hW.ext (hb.alloc _) s17
   have t2 : VB W17 B2 (tuL T2) := by rw [← hB]; exact VB.row (m := tuL T2) (zb65 w17) hW
   try rw [hB]
   have x17 := x16.trans kx
   replace t1 := t1.ext kx
   clear hB hW hb kx hth hst2 x16 s17 be l0 i2 i3 hz
   clear p0 p1 p2 p3 p4 p5
   clear q0 q1 q2 q3 q4 q5
   by_cases f0 : e2 = 0
   ·subst f0
    obtain ⟨k3, k4, k5, k6⟩ := h2 rfl
    have m0 := fun w1 => m_meets T1.h T2.h w1
    have m1 := fun w1 => m_meets T1.p T2.p w1
    have m2 := fun w1 => m_meets T1.v T2.v w1
    rw [k4] at m0
    rw [k5] at m1
    rw [k6] at m2
    have sd := fun w1 => m_Sound T2 w1
    rw [k3] at sd
    unfold tv at sd
    have hr := t2.range
    have lt1 := t1.2.2
    have lt2 := t2.2.2
    clear h2 k3 k4 k5 k6
    have c2 : W17.cell? ⟨B1, 2, none⟩ = some (.int .i64 T1.h.a) := t1.1 2 _ rfl
    have c3 : W17.cell? ⟨B1, 3, none⟩ = some (.int .i64 T1.h.b) := t1.1 3 _ rfl
    have c4 : W17.cell? ⟨B1, 4, none⟩ = some (.int .i64 T1.h.c) := t1.1 4 _ rfl
    have c5 : W17.cell? ⟨B1, 5, none⟩ = some (.int .i64 T1.h.d) := t1.1 5 _ rfl
    have c6 : W17.cell? ⟨B1, 6, none⟩ = some (.int .i64 T1.h.e) := t1.1 6 _ rfl
    have c7 : W17.cell? ⟨B1, 7, none⟩ = some (.int .i64 T1.h.f) := t1.1 7 _ rfl
    have c14 : W17.cell? ⟨B1, 14, none⟩ = some (.int .i64 T1.p.a) := t1.1 14 _ rfl
    have c15 : W17.cell? ⟨B1, 15, none⟩ = some (.int .i64 T1.p.b) := t1.1 15 _ rfl
    have c16 : W17.cell? ⟨B1, 16, none⟩ = some (.int .i64 T1.p.c) := t1.1 16 _ rfl
    have c17 : W17.cell? ⟨B1, 17, none⟩ = some (.int .i64 T1.p.d) := t1.1 17 _ rfl
    have c18 : W17.cell? ⟨B1, 18, none⟩ = some (.int .i64 T1.p.e) := t1.1 18 _ rfl
    have c19 : W17.cell? ⟨B1, 19, none⟩ = some (.int .i64 T1.p.f) := t1.1 19 _ rfl
    have c20 : W17.cell? ⟨B1, 20, none⟩ = some (.int .i64 T1.v.a) := t1.1 20 _ rfl
    have c21 : W17.cell? ⟨B1, 21, none⟩ = some (.int .i64 T1.v.b) := t1.1 21 _ rfl
    have c22 : W17.cell? ⟨B1, 22, none⟩ = some (.int .i64 T1.v.c) := t1.1 22 _ rfl
    have c23 : W17.cell? ⟨B1, 23, none⟩ = some (.int .i64 T1.v.d) := t1.1 23 _ rfl
    have c24 : W17.cell? ⟨B1, 24, none⟩ = some (.int .i64 T1.v.e) := t1.1 24 _ rfl
    have c25 : W17.cell? ⟨B1, 25, none⟩ = some (.int .i64 T1.v.f) := t1.1 25 _ rfl
    have d2 : W17.cell? ⟨B2, 2, none⟩ = some (.int .i64 T2.h.a) := t2.1 2 _ rfl
    have d3 : W17.cell? ⟨B2, 3, none⟩ = some (.int .i64 T2.h.b) := t2.1 3 _ rfl
    have d4 : W17.cell? ⟨B2, 4, none⟩ = some (.int .i64 T2.h.c) := t2.1 4 _ rfl
    have d5 : W17.cell? ⟨B2, 5, none⟩ = some (.int .i64 T2.h.d) := t2.1 5 _ rfl
    have d6 : W17.cell? ⟨B2, 6, none⟩ = some (.int .i64 T2.h.e) := t2.1 6 _ rfl
    have d7 : W17.cell? ⟨B2, 7, none⟩ = some (.int .i64 T2.h.f) := t2.1 7 _ rfl
    have d14 : W17.cell? ⟨B2, 14, none⟩ = some (.int .i64 T2.p.a) := t2.1 14 _ rfl
    have d15 : W17.cell? ⟨B2, 15, none⟩ = some (.int .i64 T2.p.b) := t2.1 15 _ rfl
    have d16 : W17.cell? ⟨B2, 16, none⟩ = some (.int .i64 T2.p.c) := t2.1 16 _ rfl
    have d17 : W17.cell? ⟨B2, 17, none⟩ = some (.int .i64 T2.p.d) := t2.1 17 _ rfl
    have d18 : W17.cell? ⟨B2, 18, none⟩ = some (.int .i64 T2.p.e) := t2.1 18 _ rfl
    have d19 : W17.cell? ⟨B2, 19, none⟩ = some (.int .i64 T2.p.f) := t2.1 19 _ rfl
    have d20 : W17.cell? ⟨B2, 20, none⟩ = some (.int .i64 T2.v.a) := t2.1 20 _ rfl
    have d21 : W17.cell? ⟨B2, 21, none⟩ = some (.int .i64 T2.v.b) := t2.1 21 _ rfl
    have d22 : W17.cell? ⟨B2, 22, none⟩ = some (.int .i64 T2.v.c) := t2.1 22 _ rfl
    have d23 : W17.cell? ⟨B2, 23, none⟩ = some (.int .i64 T2.v.d) := t2.1 23 _ rfl
    have d24 : W17.cell? ⟨B2, 24, none⟩ = some (.int .i64 T2.v.e) := t2.1 24 _ rfl
    have d25 : W17.cell? ⟨B2, 25, none⟩ = some (.int .i64 T2.v.f) := t2.1 25 _ rfl
    go_wp2_with (first
     | ((with_reducible show wpList _ _ _ _ _ _); refine load_guarded (by rfl) 65 (.tmp 19) rfl B2 rfl (tvs T2) dd hr hu65 hrow tyI65 ?_)
     | (go_at_call 33; (with_reducible refine (sd _).mono ?_); rintro e w20 ⟨rfl, hb20⟩; obtain ⟨_, _, ⟨hc20, hf20⟩, hz20⟩ := hb20.c3; (try simp only [wsz] at hz20 hc20 hf20))
     | (go_at_call 34; (with_reducible refine (m0 _).mono ?_); rintro e w21 ⟨rfl, hb21⟩; obtain ⟨_, _, ⟨hc21, hf21⟩, hz21⟩ := hb21.c3; (try simp only [wsz] at hz21 hc21 hf21))
     | (go_at_call 34; (with_reducible refine (m1 _).mono ?_); rintro e w22 ⟨rfl, hb22⟩; obtain ⟨_, _, ⟨hc22, hf22⟩, hz22⟩ := hb22.c3; (try simp only [wsz] at hz22 hc22 hf22))
     | (go_at_call 34; (with_reducible refine (m2 _).mono ?_); rintro e w23 ⟨rfl, hb23⟩; obtain ⟨_, _, ⟨hc23, hf23⟩, hz23⟩ := hb23.c3; (try simp only [wsz] at hz23 hc23 hf23)))
    have xx := (((x17.trans hb20).trans hb21).trans hb22).trans hb23
    exact T_FSW_2
   ·go_wp2_with fail
    refine bodyPost_ret (v := .bool true) ?_ rfl ⟨rfl, x17⟩
    simp [results, Tryz.results9, go_sem, ↓IntWalk.iteOmega, *]
  ·go_wp2_with fail
   refine bodyPost_ret (v := .bool true) ?_ rfl ⟨rfl, x5⟩
   simp [results, Tryz.results9, go_sem, ↓IntWalk.iteOmega, *]
end Go.Proofs.YtbkgakgdbmjmjaaGreat
