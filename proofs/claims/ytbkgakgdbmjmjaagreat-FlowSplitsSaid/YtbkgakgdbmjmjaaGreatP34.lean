/- flow.Step: the walk. -/
import Derived.Test.YtbkgakgdbmjmjaaGreatP33
set_option linter.unusedSimpArgs false
set_option linter.unusedVariables false
set_option maxRecDepth 100000
set_option maxHeartbeats 16000000
namespace Go.Proofs.YtbkgakgdbmjmjaaGreat
open Go.RowKit
theorem T_STP_1 {p : Prop} (h : p := by
 refine tp 13 rfl c_0 ?_
 try simp only [sx_]
 refine tp 14 rfl c_0 ?_
 try simp only [sx_]
 refine tp 15 rfl c_0 ?_
 try simp only [sx_]
 refine wpAnyB_done c_16 ?_ _
 go_wp2_with fail
 go_meet
 exact ⟨rfl, rfl, (Ext.refl _).drew⟩) : p := h
theorem st_walk (acc : V3 → V7) (C : Int) (R : Tu × Int) (ao : Option Addr) (m cap : Nat) (fr ti dl dh : Int) (p v : V3) (w : World)
    (hA : ∀ b w1, ckV b = 0 → Ext w w1 → Calls Tryz.prog 14 #[.agg #[.slice ao m cap], .int .i64 fr, .int .i64 ti, .agg #[.int .i64 b.a, .int .i64 b.b, .int .i64 b.c, .int .i64 b.d, .int .i64 b.e, .int .i64 b.f]] w1 fun e w' => e = .returned (.tuple #[.agg #[.int .i64 (acc b).v.a, .int .i64 (acc b).v.b, .int .i64 (acc b).v.c, .int .i64 (acc b).v.d, .int .i64 (acc b).v.e, .int .i64 (acc b).v.f], .int .i64 (acc b).e]) ∧ Ext w1 w')
    (hAI : ∀ b, (acc b).v.I) (kv : v.I) (kd : I64 dl ∧ I64 dh)
    (hC : ∀ u w1, Vs w1 u [p, v] → Ext w w1 → Calls Tryz.prog 67 #[.agg #[.slice ao m cap], .int .i64 fr, .int .i64 ti, u] w1 fun e w' => e = .returned (.int .i64 C) ∧ Ext w1 w')
    (hP : C = 0 → ∀ w1, Calls Tryz.prog 68 #[.int .i64 fr, .int .i64 ti] w1 fun e w' => e = .returned (.tuple #[.agg #[.int .i64 dl, .int .i64 dh], .agg #[.int .i64 0, .int .i64 dh]]) ∧ Ext w1 w')
    (hp0 : C = 0 → ckV p = 0)
    (hR : R = if C ≠ 0 then (Tu.O, C) else stT acc dl dh fr ti p v 20 p) :
    Calls Tryz.prog 30 #[.agg #[.slice ao m cap], .int .i64 fr, .int .i64 ti, .agg #[.int .i64 p.a, .int .i64 p.b, .int .i64 p.c, .int .i64 p.d, .int .i64 p.e, .int .i64 p.f], .agg #[.int .i64 v.a, .int .i64 v.b, .int .i64 v.c, .int .i64 v.d, .int .i64 v.e, .int .i64 v.f]] w fun e w' => e = .returned (.tuple #[tv R.1, .int .i64 R.2]) ∧ Ext w w' := by
 obtain ⟨dd, hu65, hrow⟩ := tyU65
 obtain ⟨O, hO⟩ : ∃ O, Tu.O = O := ⟨_, rfl⟩
 have hbx := fun U hU => st_boxes w ao m cap fr ti p v U hU
 have hz : Hid ((#[.int .i64 0, .int .i64 0, .int .i64 0, .int .i64 0, .int .i64 0, .int .i64 0, .int .i64 0, .int .i64 0, .int .i64 0, .int .i64 0, .int .i64 0, .int .i64 0, .int .i64 0, .int .i64 0, .int .i64 0, .int .i64 0, .int .i64 0, .int .i64 0, .int .i64 0, .int .i64 0, .int .i64 0, .int .i64 0, .int .i64 0, .int .i64 0, .int .i64 0, .int .i64 0] : Array Value) = (tvs O).toArray) := by rw [← hO]; rfl
 have hst0 : ∀ b, stT acc dl dh fr ti p v 0 b = (O, 24) := fun b => by rw [← hO]; rfl
 have hst1 : ∀ k b, stT acc dl dh fr ti p v (k + 1) b = if trE (acc b) p v dh ≠ 0 then (O, trE (acc b) p v dh) else if inV (huV acc p v b dh) b then fiR dl dh fr ti (huV acc p v b dh) (fsV acc v b dh) p v (acc b).v
  else if ckV (wdV (huV acc p v b dh) b) ≠ 0 then (O, 24) else stT acc dl dh fr ti p v k (wdV (huV acc p v b dh) b) := fun k b => by rw [← hO]; rfl
 rw [hO] at hR hbx
 clear hO
 replace hst0 : Hid _ := hst0
 replace hst1 : Hid _ := hst1
 unfold tv
 go_enter Tryz.func30, Tryz.ntmps30
 go_upto_region 1 with fail
 refine wp_name fun U1 hN => ?_
 obtain ⟨x1, be, bf, bt, bp, bv, bz⟩ := hbx U1 (Eq.trans hN (congrArg (fun c => World.alloc _ (Obj.cells c 65)) hz.out))
 clear hN hbx
 refine wp_scope_straight ?_
 have f0 : U1.cell? ⟨w.heap.size + 1, 0, none⟩ = some (.int .i64 fr) := bf.1 0 _ rfl
 have t0 : U1.cell? ⟨w.heap.size + 1 + 1, 0, none⟩ = some (.int .i64 ti) := bt.1 0 _ rfl
 have p0 : U1.cell? ⟨w.heap.size + 1 + 1 + 1, 0, none⟩ = some (.int .i64 p.a) := bp.1 0 _ rfl
 have p1 : U1.cell? ⟨w.heap.size + 1 + 1 + 1, 1, none⟩ = some (.int .i64 p.b) := bp.1 1 _ rfl
 have p2 : U1.cell? ⟨w.heap.size + 1 + 1 + 1, 2, none⟩ = some (.int .i64 p.c) := bp.1 2 _ rfl
 have p3 : U1.cell? ⟨w.heap.size + 1 + 1 + 1, 3, none⟩ = some (.int .i64 p.d) := bp.1 3 _ rfl
 have p4 : U1.cell? ⟨w.heap.size + 1 + 1 + 1, 4, none⟩ = some (.int .i64 p.e) := bp.1 4 _ rfl
 have p5 : U1.cell? ⟨w.heap.size + 1 + 1 + 1, 5, none⟩ = some (.int .i64 p.f) := bp.1 5 _ rfl
 have v0 : U1.cell? ⟨w.heap.size + 1 + 1 + 1 + 1, 0, none⟩ = some (.int .i64 v.a) := bv.1 0 _ rfl
 have v1 : U1.cell? ⟨w.heap.size + 1 + 1 + 1 + 1, 1, none⟩ = some (.int .i64 v.b) := bv.1 1 _ rfl
 have v2 : U1.cell? ⟨w.heap.size + 1 + 1 + 1 + 1, 2, none⟩ = some (.int .i64 v.c) := bv.1 2 _ rfl
 have v3 : U1.cell? ⟨w.heap.size + 1 + 1 + 1 + 1, 3, none⟩ = some (.int .i64 v.d) := bv.1 3 _ rfl
 have v4 : U1.cell? ⟨w.heap.size + 1 + 1 + 1 + 1, 4, none⟩ = some (.int .i64 v.e) := bv.1 4 _ rfl
 have v5 : U1.cell? ⟨w.heap.size + 1 + 1 + 1 + 1, 5, none⟩ = some (.int .i64 v.f) := bv.1 5 _ rfl
 by_cases e0 : C = 0
 ·rw [if_neg (fun h => h e0)] at hR
  subst e0
  replace hP := hP rfl
  replace hp0 := hp0 rfl
  go_upto_region 4 with (go_at_call 67; (with_reducible refine (hC _ _ (vs_two _ _ _ _) ex_).mono ?_); rintro e w3 ⟨rfl, hb⟩)
  refine wp_name fun U4 hN => ?_
  have e4 : Ext U1 U4 := Ext.same hN (((Ext.refl _).alloc _).trans hb)
  have x4 := x1.trans e4
  have lz := bz.2.2
  replace be := (e4.cells.1 _ 0 (by omega)).trans be
  replace bf := bf.ext e4
  replace bt := bt.ext e4
  replace bp := bp.ext e4
  replace bv := bv.ext e4
  replace bz := bz.ext e4
  have s4 := e4.size
  clear f0 t0 p0 v0 p1 v1 p2 v2 p3 v3 p4 v4 p5 v5
  clear hN hb x1 hC e4
  have f0 : U4.cell? ⟨w.heap.size + 1, 0, none⟩ = some (.int .i64 fr) := bf.1 0 _ rfl
  have t0 : U4.cell? ⟨w.heap.size + 1 + 1, 0, none⟩ = some (.int .i64 ti) := bt.1 0 _ rfl
  have p0 : U4.cell? ⟨w.heap.size + 1 + 1 + 1, 0, none⟩ = some (.int .i64 p.a) := bp.1 0 _ rfl
  have p1 : U4.cell? ⟨w.heap.size + 1 + 1 + 1, 1, none⟩ = some (.int .i64 p.b) := bp.1 1 _ rfl
  have p2 : U4.cell? ⟨w.heap.size + 1 + 1 + 1, 2, none⟩ = some (.int .i64 p.c) := bp.1 2 _ rfl
  have p3 : U4.cell? ⟨w.heap.size + 1 + 1 + 1, 3, none⟩ = some (.int .i64 p.d) := bp.1 3 _ rfl
  have p4 : U4.cell? ⟨w.heap.size + 1 + 1 + 1, 4, none⟩ = some (.int .i64 p.e) := bp.1 4 _ rfl
  have p5 : U4.cell? ⟨w.heap.size + 1 + 1 + 1, 5, none⟩ = some (.int .i64 p.f) := bp.1 5 _ rfl
  go_upto_region 7 with (go_at_call 68; (with_reducible refine (hP _).mono ?_); rintro e w8 ⟨rfl, hb8⟩; obtain ⟨_, _, ⟨hc8, hf8⟩, hz8⟩ := hb8.c3; (try simp only [wsz] at hz8 hc8 hf8))
  refine wp_name fun U7 hN => ?_
  obtain ⟨n8, h8⟩ : ∃ n8, w8.heap.size = n8 := ⟨_, rfl⟩
  have e7 : U7 = _ := hN
  have l8 : U4.heap.size ≤ n8 := by omega
  have eN : Ext U4 U7 := Ext.same hN (((hb8.alloc _).alloc _).alloc _)
  have bd : VB U7 n8 [dl, dh] := by rw [e7, ← h8]; exact (VB.lit w8 [dl, dh] 26).ext (((Ext.refl _).alloc _).alloc _)
  have ba : VB U7 (n8 + 1) [0, dh] := by
   have h := (VB.lit (w8.alloc (.cells #[.int .i64 dl, .int .i64 dh] 26)) [0, dh] 26).ext ((Ext.refl _).alloc (.cells #[.int .i64 p.a, .int .i64 p.b, .int .i64 p.c, .int .i64 p.d, .int .i64 p.e, .int .i64 p.f] 28))
   rw [World.size_alloc] at h
   rw [e7, ← h8]; exact h
  have bb : VB U7 (n8 + 1 + 1) (six p) := by
   have h := VB.lit ((w8.alloc (.cells #[.int .i64 dl, .int .i64 dh] 26)).alloc (.cells #[.int .i64 0, .int .i64 dh] 26)) (six p) 28
   rw [World.size_alloc, World.size_alloc] at h
   rw [e7, ← h8]; exact h
  try rw [h8]
  have lz4 := bz.2.2
  have hI : StI w w.heap.size ao m cap fr ti dl dh p v n8 (n8 + 1) U7 := ⟨x4.trans eN, (eN.cells.1 _ 0 (by omega)).trans be, bf.ext eN, bt.ext eN, bp.ext eN, bv.ext eN, bd, ba⟩
  have bz7 := bz.ext eN
  clear f0 t0 p0 p1 p2 p3 p4 p5
  clear hN h8 e7 hb8 hc8 hf8 hz8 eN be bf bt bp bv bz bd ba x4 hP
  have s7 := bb.2.2
  go_wp2_with fail
  refine wp_label ?_
  go_wp2_with fail
  go_loopw [43] (fun i wx => ∃ (k : Nat) (b : V3) (t : Tu), i = .int .i64 k ∧ k ≤ 20 ∧ Hid (ckV b = 0) ∧ Hid (Xb U7.heap.size (n8 + 1 + 1) (w.heap.size + 1 + 1 + 1 + 1 + 1) U7 wx) ∧ Hid (VB wx (n8 + 1 + 1) (six b)) ∧ Hid (VB wx (w.heap.size + 1 + 1 + 1 + 1 + 1) (tuL t)) ∧ Hid (stT acc dl dh fr ti p v 20 p = stT acc dl dh fr ti p v (20 - k) b)) (fun i _ => 20 - (intOf i).toNat)
  case atStart => exact ⟨0, p, O, rfl, by omega, hp0, Xb.refl _ _ _ _, bb, bz7, rfl⟩
  case round =>
   obtain ⟨k, b, t, rfl, hk, HB, HX, Hb, Ht, HS⟩ := hrel
   have hJ : StI w w.heap.size ao m cap fr ti dl dh p v n8 (n8 + 1) wr := hI.xb HX.out (Nat.le_refl _) (by omega) (by omega) (by omega) (by omega) (by omega) (by omega) (by omega) (by omega) (by omega)
   have sr := HX.out.size
   by_cases hk2 : k = 20
   ·subst hk2
    rw [HS.out, Nat.sub_self, hst0.out] at hR
    subst hR
    have x5 := hJ.own
    have hzz := Ht.out.there 26 rfl
    clear HB HX Hb HS hJ
    go_upto_region 23 with fail
    go_wp2_with ((with_reducible show wpList _ _ _ _ _ _); refine store_row rfl 65 (.tmp 10) (.tmp 109) rfl (w.heap.size + 1 + 1 + 1 + 1 + 1) (tvs O).toArray rfl (congrArg Value.agg hz.out) hzz tyI65 c_50 (fun W hW => ?_))
    refine bodyPost_ret (results_cell_tmp (a := ⟨w.heap.size + 1 + 1 + 1 + 1 + 1, 0, none⟩) rfl rfl rfl (run_load_row W _ 65 (tvs O) dd hW.range hu65 hrow tyI65)) rfl ⟨rfl, hW.ext x5 (by omega)⟩
   ·obtain ⟨j, hj⟩ : ∃ j, 20 - k = j + 1 := ⟨19 - k, by omega⟩
    have hS1 := HS.out.trans (by rw [hj, hst1.out])
    rw [hS1] at hR
    replace hR : Hid _ := hR
    have hT := fl_try w.heap.size (w.heap.size + 1) (w.heap.size + 1 + 1) (n8 + 1 + 1) (w.heap.size + 1 + 1 + 1 + 1) (n8 + 1) (w.heap.size + 1 + 1 + 1) (w.heap.size + 1 + 1 + 1 + 1 + 1) ao m cap fr ti dh (acc b) b p v t wr (fun w1 k1 => hA b w1 HB.out (hJ.own.trans k1)) (hAI b) kd.2 hJ.eph (hJ.bfr.1 0 _ rfl) (hJ.bti.1 0 _ rfl) Hb.out.fresh hJ.bv.fresh (hJ.ba.1 0 _ rfl) (hJ.ba.1 1 _ rfl) hJ.bp.fresh Ht.out.fresh ⟨by omega, by omega, by omega, by omega, by omega, by omega, by omega⟩
    obtain ⟨e1, he1⟩ : ∃ e1, trE (acc b) p v dh = e1 := ⟨_, rfl⟩
    rw [he1] at hT hR
    go_upto_region 10 with (go_at_call 75; (with_reducible refine hT.mono ?_); rintro e w9 ⟨u, t2, rfl, hg, hF, hok⟩)
    refine wp_name fun U10 hN => ?_
    have eN : Ext w9 U10 := Ext.same hN ((Ext.refl _).alloc _)
    obtain ⟨B17, h17⟩ : ∃ B, w9.heap.size = B := ⟨_, rfl⟩
    have u17 : VB U10 B17 (six u) := by have e : U10 = _ := hN; rw [e, ← h17]; exact VB.lit w9 (six u) 28
    try rw [h17]
    have X10 : Xb U7.heap.size (n8 + 1 + 1) (w.heap.size + 1 + 1 + 1 + 1 + 1) U7 U10 := (HX.out.gb hg (Nat.le_refl _)).ext eN (Nat.le_refl _)
    have T10 : VB U10 (w.heap.size + 1 + 1 + 1 + 1 + 1) (tuL t2) := (Fresh.vb (l := tuL t2) hF).ext eN
    have b10 : VB U10 (n8 + 1 + 1) (six b) := (Fresh.vb (l := six b) (Fresh.gb Hb.out.fresh hg (by omega))).ext eN
    have J10 := hI.xb X10 (Nat.le_refl _) (by omega) (by omega) (by omega) (by omega) (by omega) (by omega) (by omega) (by omega) (by omega)
    have s10 := X10.size
    have hvb := HB.out
    clear hN eN hg hF h17 HX Hb Ht HS hJ hT HB
    replace hok : Hid _ := hok
    by_cases h1 : e1 = 0
    ·subst h1
     obtain ⟨rfl, rfl⟩ := hok.out rfl
     obtain ⟨a1, a2, a3⟩ := trE_ok he1
     have hvH : ckV (huV acc p v b dh) = 0 := goR_val a3
     have hR2 : R = if inV (huV acc p v b dh) b then fiR dl dh fr ti (huV acc p v b dh) (fsV acc v b dh) p v (acc b).v else if ckV (wdV (huV acc p v b dh) b) ≠ 0 then (O, 24) else stT acc dl dh fr ti p v j (wdV (huV acc p v b dh) b) := by
      rw [hR.out, if_neg (fun h => h rfl)]
     have kA := hAI b
     replace T10 : VB U10 (w.heap.size + 1 + 1 + 1 + 1 + 1) (tuL ⟨t.fr, t.ti, huV acc p v b dh, fsV acc v b dh, t.p, t.v⟩) := T10
     have hS2 : stT acc dl dh fr ti p v 20 p = if inV (huV acc p v b dh) b then fiR dl dh fr ti (huV acc p v b dh) (fsV acc v b dh) p v (acc b).v else if ckV (wdV (huV acc p v b dh) b) ≠ 0 then (O, 24) else stT acc dl dh fr ti p v j (wdV (huV acc p v b dh) b) := by
      rw [hS1, he1, if_neg (fun h => h rfl)]
     clear hR hok a1 a2 a3 hS1 he1
     replace hR2 : Hid _ := hR2
     replace hS2 : Hid _ := hS2
     generalize huV acc p v b dh = Q at *
     generalize fsV acc v b dh = F at *
     generalize (acc b).v = A at *
     obtain ⟨tt, htt⟩ : ∃ tt : Tu, (⟨t.fr, t.ti, Q, F, t.p, t.v⟩ : Tu) = tt := ⟨_, rfl⟩
     have hF : ∀ w1, Calls Tryz.prog 76 #[.agg (tvs tt).toArray, .agg #[.int .i64 p.a, .int .i64 p.b, .int .i64 p.c, .int .i64 p.d, .int .i64 p.e, .int .i64 p.f], .agg #[.int .i64 v.a, .int .i64 v.b, .int .i64 v.c, .int .i64 v.d, .int .i64 v.e, .int .i64 v.f], .agg #[.int .i64 A.a, .int .i64 A.b, .int .i64 A.c, .int .i64 A.d, .int .i64 A.e, .int .i64 A.f], .agg #[.int .i64 dl, .int .i64 dh], .int .i64 fr, .int .i64 ti] w1 fun e w' => e = .returned (.tuple #[.agg (tvs (fiR dl dh fr ti Q F p v A).1).toArray, .int .i64 (fiR dl dh fr ti Q F p v A).2]) ∧ Ext w1 w' := fun w1 => by
      rw [← htt]; exact fl_finish ⟨t.fr, t.ti, Q, F, t.p, t.v⟩ p v A dl dh fr ti w1 kv kA kd
     have hin := fun w1 => fl_inside Q b w1
     have h10 : U10.cell? ⟨w.heap.size + 1 + 1 + 1 + 1 + 1, 2, none⟩ = some (.int .i64 Q.a) := T10.1 2 _ rfl
     have h11 : U10.cell? ⟨w.heap.size + 1 + 1 + 1 + 1 + 1, 3, none⟩ = some (.int .i64 Q.b) := T10.1 3 _ rfl
     have h12 : U10.cell? ⟨w.heap.size + 1 + 1 + 1 + 1 + 1, 4, none⟩ = some (.int .i64 Q.c) := T10.1 4 _ rfl
     have h13 : U10.cell? ⟨w.heap.size + 1 + 1 + 1 + 1 + 1, 5, none⟩ = some (.int .i64 Q.d) := T10.1 5 _ rfl
     have h14 : U10.cell? ⟨w.heap.size + 1 + 1 + 1 + 1 + 1, 6, none⟩ = some (.int .i64 Q.e) := T10.1 6 _ rfl
     have h15 : U10.cell? ⟨w.heap.size + 1 + 1 + 1 + 1 + 1, 7, none⟩ = some (.int .i64 Q.f) := T10.1 7 _ rfl
     have b0 : U10.cell? ⟨n8 + 1 + 1, 0, none⟩ = some (.int .i64 b.a) := b10.1 0 _ rfl
     have b1 : U10.cell? ⟨n8 + 1 + 1, 1, none⟩ = some (.int .i64 b.b) := b10.1 1 _ rfl
     have b2 : U10.cell? ⟨n8 + 1 + 1, 2, none⟩ = some (.int .i64 b.c) := b10.1 2 _ rfl
     have b3 : U10.cell? ⟨n8 + 1 + 1, 3, none⟩ = some (.int .i64 b.d) := b10.1 3 _ rfl
     have b4 : U10.cell? ⟨n8 + 1 + 1, 4, none⟩ = some (.int .i64 b.e) := b10.1 4 _ rfl
     have b5 : U10.cell? ⟨n8 + 1 + 1, 5, none⟩ = some (.int .i64 b.f) := b10.1 5 _ rfl
     by_cases h2 : inV Q b = true
     ·rw [h2] at hin
      have hR3 := hR2.out
      rw [if_pos h2] at hR3
      generalize fiR dl dh fr ti Q F p v A = Fi at *
      subst hR3
      rw [htt] at T10
      go_upto_region 13 with (go_at_call 70; (with_reducible refine (hin _).mono ?_); rintro e w12 ⟨rfl, hb12⟩)
      clear h10 h11 h12 h13 h14 h15 b0 b1 b2 b3 b4 b5
      clear hR2 hS2 hin
      have J12 := J10.xb (Xb.of (n := U7.heap.size) (p := n8 + 1 + 1) (q := w.heap.size + 1 + 1 + 1 + 1 + 1) hb12 (by omega)) (Nat.le_refl _) (by omega) (by omega) (by omega) (by omega) (by omega) (by omega) (by omega) (by omega) (by omega)
      have T12 := T10.ext hb12
      have u12 := u17.ext hb12
      have hr := T12.range
      have x12 := J12.own
      have f0 := J12.bfr.1 0 _ rfl
      have t0 := J12.bti.1 0 _ rfl
      have d0 := J12.bd.1 0 _ rfl
      have d1 := J12.bd.1 1 _ rfl
      have p0 : w12.cell? ⟨w.heap.size + 1 + 1 + 1, 0, none⟩ = some (.int .i64 p.a) := J12.bp.1 0 _ rfl
      have p1 : w12.cell? ⟨w.heap.size + 1 + 1 + 1, 1, none⟩ = some (.int .i64 p.b) := J12.bp.1 1 _ rfl
      have p2 : w12.cell? ⟨w.heap.size + 1 + 1 + 1, 2, none⟩ = some (.int .i64 p.c) := J12.bp.1 2 _ rfl
      have p3 : w12.cell? ⟨w.heap.size + 1 + 1 + 1, 3, none⟩ = some (.int .i64 p.d) := J12.bp.1 3 _ rfl
      have p4 : w12.cell? ⟨w.heap.size + 1 + 1 + 1, 4, none⟩ = some (.int .i64 p.e) := J12.bp.1 4 _ rfl
      have p5 : w12.cell? ⟨w.heap.size + 1 + 1 + 1, 5, none⟩ = some (.int .i64 p.f) := J12.bp.1 5 _ rfl
      have v0 : w12.cell? ⟨w.heap.size + 1 + 1 + 1 + 1, 0, none⟩ = some (.int .i64 v.a) := J12.bv.1 0 _ rfl
      have v1 : w12.cell? ⟨w.heap.size + 1 + 1 + 1 + 1, 1, none⟩ = some (.int .i64 v.b) := J12.bv.1 1 _ rfl
      have v2 : w12.cell? ⟨w.heap.size + 1 + 1 + 1 + 1, 2, none⟩ = some (.int .i64 v.c) := J12.bv.1 2 _ rfl
      have v3 : w12.cell? ⟨w.heap.size + 1 + 1 + 1 + 1, 3, none⟩ = some (.int .i64 v.d) := J12.bv.1 3 _ rfl
      have v4 : w12.cell? ⟨w.heap.size + 1 + 1 + 1 + 1, 4, none⟩ = some (.int .i64 v.e) := J12.bv.1 4 _ rfl
      have v5 : w12.cell? ⟨w.heap.size + 1 + 1 + 1 + 1, 5, none⟩ = some (.int .i64 v.f) := J12.bv.1 5 _ rfl
      have u0 : w12.cell? ⟨B17, 0, none⟩ = some (.int .i64 A.a) := u12.1 0 _ rfl
      have u1 : w12.cell? ⟨B17, 1, none⟩ = some (.int .i64 A.b) := u12.1 1 _ rfl
      have u2 : w12.cell? ⟨B17, 2, none⟩ = some (.int .i64 A.c) := u12.1 2 _ rfl
      have u3 : w12.cell? ⟨B17, 3, none⟩ = some (.int .i64 A.d) := u12.1 3 _ rfl
      have u4 : w12.cell? ⟨B17, 4, none⟩ = some (.int .i64 A.e) := u12.1 4 _ rfl
      have u5 : w12.cell? ⟨B17, 5, none⟩ = some (.int .i64 A.f) := u12.1 5 _ rfl
      clear T10 b10 u17 J10 X10 J12 hI hA
      go_wp2_with (first
       | ((with_reducible show wpList _ _ _ _ _ _); refine wpList_load_mid rfl 65 (.tmp 10) rfl (w.heap.size + 1 + 1 + 1 + 1 + 1) 0 rfl (tvs tt) dd hr hu65 hrow tyI65 ?_)
       | (go_at_call 76; (with_reducible refine (hF _).mono ?_); rintro e w13 ⟨rfl, hb13⟩; have ht13 := (T12.ext hb13).there 26 rfl)
       | ((with_reducible show wpList _ _ _ _ _ _); refine store_row rfl 65 (.tmp 10) (.tmp 68) rfl (w.heap.size + 1 + 1 + 1 + 1 + 1) (tvs R.1).toArray rfl rfl ht13 tyI65 c_50 (fun W hW => ?_)))
      refine bodyPost_ret (results_cell_tmp (a := ⟨w.heap.size + 1 + 1 + 1 + 1 + 1, 0, none⟩) rfl rfl rfl (run_load_row W _ 65 (tvs R.1) dd hW.range hu65 hrow tyI65)) rfl ⟨rfl, hW.ext (x12.trans hb13) (by omega)⟩
     ·rw [Bool.not_eq_true] at h2
      rw [h2] at hin
      clear hF htt
      go_upto_region 14 with (go_at_call 70; (with_reducible refine (hin _).mono ?_); rintro e w12 ⟨rfl, hb12⟩)
      clear h10 h11 h12 h13 h14 h15 b0 b1 b2 b3 b4 b5
      clear hin
      have X12 := X10.ext hb12 (Nat.le_refl _)
      have T12 := T10.ext hb12
      have b12 := b10.ext hb12
      have s12 := X12.size
      have h10 : w12.cell? ⟨w.heap.size + 1 + 1 + 1 + 1 + 1, 2, none⟩ = some (.int .i64 Q.a) := T12.1 2 _ rfl
      have h11 : w12.cell? ⟨w.heap.size + 1 + 1 + 1 + 1 + 1, 3, none⟩ = some (.int .i64 Q.b) := T12.1 3 _ rfl
      have h12 : w12.cell? ⟨w.heap.size + 1 + 1 + 1 + 1 + 1, 4, none⟩ = some (.int .i64 Q.c) := T12.1 4 _ rfl
      have h13 : w12.cell? ⟨w.heap.size + 1 + 1 + 1 + 1 + 1, 5, none⟩ = some (.int .i64 Q.d) := T12.1 5 _ rfl
      have h14 : w12.cell? ⟨w.heap.size + 1 + 1 + 1 + 1 + 1, 6, none⟩ = some (.int .i64 Q.e) := T12.1 6 _ rfl
      have h15 : w12.cell? ⟨w.heap.size + 1 + 1 + 1 + 1 + 1, 7, none⟩ = some (.int .i64 Q.f) := T12.1 7 _ rfl
      clear T10 b10 u17 J10 X10 s10 kA
      go_wp2_with fail
      refine wp_loop_rounds 4 ?_
      clear h10 h11 h12 h13 h14 h15
      obtain ⟨k0, k1, k2⟩ := ckV_ok hvb
      obtain ⟨q0, q1, q2⟩ := ckV_ok hvH
      clear hb12
      obtain ⟨Y0, rfl⟩ : ∃ Y, Y = w12 := ⟨_, rfl⟩
      have ix0 : ∀ w, (Instr.index 28 (.agg #[.int .i64 Q.a, .int .i64 Q.b, .int .i64 Q.c, .int .i64 Q.d, .int .i64 Q.e, .int .i64 Q.f]) (.int .i64 0)).run Tryz.prog w = .ok (.agg #[.int .i64 Q.a, .int .i64 Q.b]) w := fun _ => by kernel_rfl
      have ix1 : ∀ w, (Instr.index 28 (.agg #[.int .i64 Q.a, .int .i64 Q.b, .int .i64 Q.c, .int .i64 Q.d, .int .i64 Q.e, .int .i64 Q.f]) (.int .i64 1)).run Tryz.prog w = .ok (.agg #[.int .i64 Q.c, .int .i64 Q.d]) w := fun _ => by kernel_rfl
      have ix2 : ∀ w, (Instr.index 28 (.agg #[.int .i64 Q.a, .int .i64 Q.b, .int .i64 Q.c, .int .i64 Q.d, .int .i64 Q.e, .int .i64 Q.f]) (.int .i64 2)).run Tryz.prog w = .ok (.agg #[.int .i64 Q.e, .int .i64 Q.f]) w := fun _ => by kernel_rfl
      have X := X12
      have TT := T12
      have BB := b12
      clear X12 T12 b12 s12
      rw [rounds_succ]
      go_upto_region 17 with fail
      refine wp_name fun V hN => ?_
      obtain ⟨B20, h20⟩ : ∃ B, Y0.heap.size = B := ⟨_, rfl⟩
      have eN : Ext Y0 V := Ext.same hN ((Ext.refl _).alloc _)
      have d20 : VB V B20 [Q.a, Q.b] := by have e : V = _ := hN; rw [e, ← h20]; exact VB.lit _ [Q.a, Q.b] 26
      try rw [h20]
      have XV := X.ext eN (Nat.le_refl _)
      have TV := TT.ext eN
      have BV : VB V (n8 + 1 + 1) [b.a, b.b, b.c, b.d, b.e, b.f] := BB.ext eN
      clear hN eN h20 X TT BB
      go_cut [21, 22] from 76 to 89 (fun s21 s22 wx => s21 = .int .i64 (min Q.a b.a) ∧ s22 = .int .i64 (max Q.b b.b) ∧ Ext V wx)
      case first =>
       refine wp_region_till (S := (fun w0 => VB w0 B20 [Q.a, Q.b] ∧ VB w0 (n8 + 1 + 1) [b.a, b.b, b.c, b.d, b.e, b.f])) (fun _ => false) c_16 ?_ (fun hHeld => ?_)
       ·exact ⟨d20.ext (Ext.refl _).drew, BV.ext (Ext.refl _).drew⟩
       try simp only [sx_]
       refine tp 0 rfl c_0 ?_
       try simp only [sx_]
       refine tb 1 rfl c_34 ?_
       try simp only [sx_]
       refine tp 2 rfl c_0 ?_
       try simp only [sx_]
       refine tp 3 rfl c_0 ?_
       try simp only [sx_]
       refine tp 4 rfl c_0 ?_
       try simp only [sx_]
       refine tb 5 rfl c_34 ?_
       try simp only [sx_]
       refine tp 6 rfl c_0 ?_
       try simp only [sx_]
       refine tp 7 rfl c_0 ?_
       try simp only [sx_]
       refine tb 8 rfl c_34 ?_
       try simp only [sx_]
       refine tp 9 rfl c_0 ?_
       try simp only [sx_]
       refine tp 10 rfl c_0 ?_
       try simp only [sx_]
       refine tp 11 rfl c_0 ?_
       try simp only [sx_]
       refine tb 12 rfl c_34 ?_
       try simp only [sx_]
       exact T_STP_1
      obtain ⟨rfl, rfl, ec⟩ := hcut
      obtain ⟨wa, wb, wc1, wd⟩ := wd_wrap q0 k0
      have XC := XV.ext ec (Nat.le_refl _)
      have TC := TV.ext ec
      have BC := BV.ext ec
      have r0 := BC.1 0 _ rfl
      have r1 := BC.1 1 _ rfl
      have rf := BC.2.1
      clear XV TV BV d20 ec
      go_upto_region 20 with fail
      refine wp_name fun Y1 hN => ?_
      have e : Y1 = _ := hN
      have X : Xb U7.heap.size (n8 + 1 + 1) (w.heap.size + 1 + 1 + 1 + 1 + 1) U7 Y1 := by rw [e]; exact (XC.set ⟨_, _, none⟩ (.inl rfl) _).set ⟨_, _, none⟩ (.inl rfl) _
      have TT : VB Y1 (w.heap.size + 1 + 1 + 1 + 1 + 1) (tuL ⟨t.fr, t.ti, Q, F, t.p, t.v⟩) := by rw [e]; exact (TC.other (by omega) _).other (by omega) _
      have BB : VB Y1 (n8 + 1 + 1) [wdL Q.a Q.b b.a b.b, wdH Q.a Q.b b.a b.b, b.c, b.d, b.e, b.f] := by rw [e]; exact (BC.set 0 _ (Nat.le_of_ble_eq_true rfl)).set 1 _ (Nat.le_of_ble_eq_true rfl)
      clear hN e XC TC BC r0 r1 rf wa wb wc1 wd
      go_wp2_with fail
      rw [rounds_succ]
      go_upto_region 17 with fail
      refine wp_name fun V hN => ?_
      obtain ⟨B20, h20⟩ : ∃ B, Y1.heap.size = B := ⟨_, rfl⟩
      have eN : Ext Y1 V := Ext.same hN ((Ext.refl _).alloc _)
      have d20 : VB V B20 [Q.c, Q.d] := by have e : V = _ := hN; rw [e, ← h20]; exact VB.lit _ [Q.c, Q.d] 26
      try rw [h20]
      have XV := X.ext eN (Nat.le_refl _)
      have TV := TT.ext eN
      have BV : VB V (n8 + 1 + 1) [wdL Q.a Q.b b.a b.b, wdH Q.a Q.b b.a b.b, b.c, b.d, b.e, b.f] := BB.ext eN
      clear hN eN h20 X TT BB
      go_cut [21, 22] from 76 to 89 (fun s21 s22 wx => s21 = .int .i64 (min Q.c b.c) ∧ s22 = .int .i64 (max Q.d b.d) ∧ Ext V wx)
      case first =>
       refine wp_region_till (S := (fun w0 => VB w0 B20 [Q.c, Q.d] ∧ VB w0 (n8 + 1 + 1) [wdL Q.a Q.b b.a b.b, wdH Q.a Q.b b.a b.b, b.c, b.d, b.e, b.f])) (fun _ => false) c_16 ?_ (fun hHeld => ?_)
       ·exact ⟨d20.ext (Ext.refl _).drew, BV.ext (Ext.refl _).drew⟩
       try simp only [sx_]
       refine tp 0 rfl c_0 ?_
       try simp only [sx_]
       refine tb 1 rfl c_35 ?_
       try simp only [sx_]
       refine tp 2 rfl c_0 ?_
       try simp only [sx_]
       refine tp 3 rfl c_0 ?_
       try simp only [sx_]
       refine tp 4 rfl c_0 ?_
       try simp only [sx_]
       refine tb 5 rfl c_35 ?_
       try simp only [sx_]
       refine tp 6 rfl c_0 ?_
       try simp only [sx_]
       refine tp 7 rfl c_0 ?_
       try simp only [sx_]
       refine tb 8 rfl c_35 ?_
       try simp only [sx_]
       refine tp 9 rfl c_0 ?_
       try simp only [sx_]
       refine tp 10 rfl c_0 ?_
       try simp only [sx_]
       refine tp 11 rfl c_0 ?_
       try simp only [sx_]
       refine tb 12 rfl c_35 ?_
       try simp only [sx_]
       exact T_STP_1
      obtain ⟨rfl, rfl, ec⟩ := hcut
      obtain ⟨wa, wb, wc1, wd⟩ := wd_wrap q1 k1
      have XC := XV.ext ec (Nat.le_refl _)
      have TC := TV.ext ec
      have BC := BV.ext ec
      have r0 := BC.1 2 _ rfl
      have r1 := BC.1 3 _ rfl
      have rf := BC.2.1
      clear XV TV BV d20 ec
      go_upto_region 20 with fail
      refine wp_name fun Y2 hN => ?_
      have e : Y2 = _ := hN
      have X : Xb U7.heap.size (n8 + 1 + 1) (w.heap.size + 1 + 1 + 1 + 1 + 1) U7 Y2 := by rw [e]; exact (XC.set ⟨_, _, none⟩ (.inl rfl) _).set ⟨_, _, none⟩ (.inl rfl) _
      have TT : VB Y2 (w.heap.size + 1 + 1 + 1 + 1 + 1) (tuL ⟨t.fr, t.ti, Q, F, t.p, t.v⟩) := by rw [e]; exact (TC.other (by omega) _).other (by omega) _
      have BB : VB Y2 (n8 + 1 + 1) [wdL Q.a Q.b b.a b.b, wdH Q.a Q.b b.a b.b, wdL Q.c Q.d b.c b.d, wdH Q.c Q.d b.c b.d, b.e, b.f] := by rw [e]; exact (BC.set 2 _ (Nat.le_of_ble_eq_true rfl)).set 3 _ (Nat.le_of_ble_eq_true rfl)
      clear hN e XC TC BC r0 r1 rf wa wb wc1 wd
      go_wp2_with fail
      rw [rounds_succ]
      go_upto_region 17 with fail
      refine wp_name fun V hN => ?_
      obtain ⟨B20, h20⟩ : ∃ B, Y2.heap.size = B := ⟨_, rfl⟩
      have eN : Ext Y2 V := Ext.same hN ((Ext.refl _).alloc _)
      have d20 : VB V B20 [Q.e, Q.f] := by have e : V = _ := hN; rw [e, ← h20]; exact VB.lit _ [Q.e, Q.f] 26
      try rw [h20]
      have XV := X.ext eN (Nat.le_refl _)
      have TV := TT.ext eN
      have BV : VB V (n8 + 1 + 1) [wdL Q.a Q.b b.a b.b, wdH Q.a Q.b b.a b.b, wdL Q.c Q.d b.c b.d, wdH Q.c Q.d b.c b.d, b.e, b.f] := BB.ext eN
      clear hN eN h20 X TT BB
      go_cut [21, 22] from 76 to 89 (fun s21 s22 wx => s21 = .int .i64 (min Q.e b.e) ∧ s22 = .int .i64 (max Q.f b.f) ∧ Ext V wx)
      case first =>
       refine wp_region_till (S := (fun w0 => VB w0 B20 [Q.e, Q.f] ∧ VB w0 (n8 + 1 + 1) [wdL Q.a Q.b b.a b.b, wdH Q.a Q.b b.a b.b, wdL Q.c Q.d b.c b.d, wdH Q.c Q.d b.c b.d, b.e, b.f])) (fun _ => false) c_16 ?_ (fun hHeld => ?_)
       ·exact ⟨d20.ext (Ext.refl _).drew, BV.ext (Ext.refl _).drew⟩
       try simp only [sx_]
       refine tp 0 rfl c_0 ?_
       try simp only [sx_]
       refine tb 1 rfl c_36 ?_
       try simp only [sx_]
       refine tp 2 rfl c_0 ?_
       try simp only [sx_]
       refine tp 3 rfl c_0 ?_
       try simp only [sx_]
       refine tp 4 rfl c_0 ?_
       try simp only [sx_]
       refine tb 5 rfl c_36 ?_
       try simp only [sx_]
       refine tp 6 rfl c_0 ?_
       try simp only [sx_]
       refine tp 7 rfl c_0 ?_
       try simp only [sx_]
       refine tb 8 rfl c_36 ?_
       try simp only [sx_]
       refine tp 9 rfl c_0 ?_
       try simp only [sx_]
       refine tp 10 rfl c_0 ?_
       try simp only [sx_]
       refine tp 11 rfl c_0 ?_
       try simp only [sx_]
       refine tb 12 rfl c_36 ?_
       try simp only [sx_]
       exact T_STP_1
      obtain ⟨rfl, rfl, ec⟩ := hcut
      obtain ⟨wa, wb, wc1, wd⟩ := wd_wrap q2 k2
      have XC := XV.ext ec (Nat.le_refl _)
      have TC := TV.ext ec
      have BC := BV.ext ec
      have r0 := BC.1 4 _ rfl
      have r1 := BC.1 5 _ rfl
      have rf := BC.2.1
      clear XV TV BV d20 ec
      go_upto_region 20 with fail
      refine wp_name fun Y3 hN => ?_
      have e : Y3 = _ := hN
      have X : Xb U7.heap.size (n8 + 1 + 1) (w.heap.size + 1 + 1 + 1 + 1 + 1) U7 Y3 := by rw [e]; exact (XC.set ⟨_, _, none⟩ (.inl rfl) _).set ⟨_, _, none⟩ (.inl rfl) _
      have TT : VB Y3 (w.heap.size + 1 + 1 + 1 + 1 + 1) (tuL ⟨t.fr, t.ti, Q, F, t.p, t.v⟩) := by rw [e]; exact (TC.other (by omega) _).other (by omega) _
      have BB : VB Y3 (n8 + 1 + 1) [wdL Q.a Q.b b.a b.b, wdH Q.a Q.b b.a b.b, wdL Q.c Q.d b.c b.d, wdH Q.c Q.d b.c b.d, wdL Q.e Q.f b.e b.f, wdH Q.e Q.f b.e b.f] := by rw [e]; exact (BC.set 4 _ (Nat.le_of_ble_eq_true rfl)).set 5 _ (Nat.le_of_ble_eq_true rfl)
      clear hN e XC TC BC r0 r1 rf wa wb wc1 wd
      go_wp2_with fail
      rw [rounds_succ]
      have BB2 : VB Y3 (n8 + 1 + 1) (six (wdV Q b)) := BB
      clear BB
      generalize wdV Q b = b2 at *
      have p0 : Y3.cell? ⟨n8 + 1 + 1, 0, none⟩ = some (.int .i64 b2.a) := BB2.1 0 _ rfl
      have p1 : Y3.cell? ⟨n8 + 1 + 1, 1, none⟩ = some (.int .i64 b2.b) := BB2.1 1 _ rfl
      have p2 : Y3.cell? ⟨n8 + 1 + 1, 2, none⟩ = some (.int .i64 b2.c) := BB2.1 2 _ rfl
      have p3 : Y3.cell? ⟨n8 + 1 + 1, 3, none⟩ = some (.int .i64 b2.d) := BB2.1 3 _ rfl
      have p4 : Y3.cell? ⟨n8 + 1 + 1, 4, none⟩ = some (.int .i64 b2.e) := BB2.1 4 _ rfl
      have p5 : Y3.cell? ⟨n8 + 1 + 1, 5, none⟩ = some (.int .i64 b2.f) := BB2.1 5 _ rfl
      have hck := fun w1 => s_check b2 w1
      have sY := X.size
      have JY := hI.xb X (Nat.le_refl _) (by omega) (by omega) (by omega) (by omega) (by omega) (by omega) (by omega) (by omega) (by omega)
      by_cases h3 : ckV b2 = 0
      ·rw [h3] at hck
       go_wp2_with (go_at_call 77; (with_reducible refine (hck _).mono ?_); rintro e w21 ⟨rfl, hb21⟩)
       go_roundw
       case rel =>
        refine ⟨k + 1, b2, _, by go_num, by omega, h3, X.ext hb21 (Nat.le_refl _), BB2.ext hb21, TT.ext hb21, ?_⟩
        have h4 := hS2.out
        rw [if_neg (by rw [h2]; decide), if_neg (fun h => h h3)] at h4
        rw [show 20 - (k + 1) = j from by omega]
        exact h4
       case measure => simp [intOf]; omega
      ·have hR3 := hR2.out
       rw [if_neg (by rw [h2]; decide), if_pos h3] at hR3
       subst hR3
       go_upto_region 23 with (go_at_call 77; (with_reducible refine (hck _).mono ?_); rintro e w21 ⟨rfl, hb21⟩)
       have hz21 := (TT.ext hb21).there 26 rfl
       have x21 := JY.own.trans hb21
       go_wp2_with ((with_reducible show wpList _ _ _ _ _ _); refine store_row rfl 65 (.tmp 10) (.tmp 109) rfl (w.heap.size + 1 + 1 + 1 + 1 + 1) (tvs O).toArray rfl (congrArg Value.agg hz.out) hz21 tyI65 c_50 (fun W hW => ?_))
       refine bodyPost_ret (results_cell_tmp (a := ⟨w.heap.size + 1 + 1 + 1 + 1 + 1, 0, none⟩) rfl rfl rfl (run_load_row W _ 65 (tvs O) dd hW.range hu65 hrow tyI65)) rfl ⟨rfl, hW.ext x21 (by omega)⟩
    ·have hR2 := hR.out
     rw [if_pos h1] at hR2
     subst hR2
     go_upto_region 11 with fail
     go_wp2_with ((with_reducible show wpList _ _ _ _ _ _); refine store_row rfl 65 (.tmp 10) (.tmp 53) rfl (w.heap.size + 1 + 1 + 1 + 1 + 1) (tvs O).toArray rfl (congrArg Value.agg hz.out) (T10.there 26 rfl) tyI65 c_50 (fun W hW => ?_))
     refine bodyPost_ret (results_cell_tmp (a := ⟨w.heap.size + 1 + 1 + 1 + 1 + 1, 0, none⟩) rfl rfl rfl (run_load_row W _ 65 (tvs O) dd hW.range hu65 hrow tyI65)) rfl ⟨rfl, hW.ext J10.own (by omega)⟩
 ·rw [if_pos e0] at hR
  subst hR
  go_upto_region 3 with (go_at_call 67; (with_reducible refine (hC _ _ (vs_two _ _ _ _) ex_).mono ?_); rintro e w3 ⟨rfl, hb⟩)
  refine wp_name fun U3 hN => ?_
  have eN : Ext U1 U3 := Ext.same hN (((Ext.refl _).alloc _).trans hb)
  have bz3 := bz.ext eN
  have x3 := x1.trans eN
  clear f0 t0 p0 v0 p1 v1 p2 v2 p3 v3 p4 v4 p5 v5
  clear hN hb eN be bf bt bp bv bz hC hP
  go_wp2_with ((with_reducible show wpList _ _ _ _ _ _); refine store_row rfl 65 (.tmp 10) (.tmp 33) rfl (w.heap.size + 1 + 1 + 1 + 1 + 1) (tvs O).toArray rfl (congrArg Value.agg hz.out) (bz3.there 26 rfl) tyI65 c_50 (fun W hW => ?_))
  refine bodyPost_ret (results_cell_tmp (a := ⟨w.heap.size + 1 + 1 + 1 + 1 + 1, 0, none⟩) rfl rfl rfl (run_load_row W _ 65 (tvs O) dd hW.range hu65 hrow tyI65)) rfl ⟨rfl, hW.ext x3 (by omega)⟩
end Go.Proofs.YtbkgakgdbmjmjaaGreat
