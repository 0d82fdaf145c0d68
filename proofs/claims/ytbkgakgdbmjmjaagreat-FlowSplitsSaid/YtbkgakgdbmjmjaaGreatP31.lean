/- flow.finish. -/
import Derived.Test.YtbkgakgdbmjmjaaGreatP27
set_option linter.unusedSimpArgs false
set_option linter.unusedVariables false
set_option maxRecDepth 100000
set_option maxHeartbeats 8000000
namespace Go.Proofs.YtbkgakgdbmjmjaaGreat
open Go.RowKit
theorem fl_finish (t : Tu) (p v a : V3) (dl dh fr ti : Int) (w : World) (kv : v.I) (ka : a.I) (hd : I64 dl ∧ I64 dh) :
    Calls Tryz.prog 76 #[tv t, .agg #[.int .i64 p.a, .int .i64 p.b, .int .i64 p.c, .int .i64 p.d, .int .i64 p.e, .int .i64 p.f], .agg #[.int .i64 v.a, .int .i64 v.b, .int .i64 v.c, .int .i64 v.d, .int .i64 v.e, .int .i64 v.f], .agg #[.int .i64 a.a, .int .i64 a.b, .int .i64 a.c, .int .i64 a.d, .int .i64 a.e, .int .i64 a.f], .agg #[.int .i64 dl, .int .i64 dh], .int .i64 fr, .int .i64 ti] w fun e w' => e = .returned (.tuple #[tv (fiR dl dh fr ti t.h t.f p v a).1, .int .i64 (fiR dl dh fr ti t.h t.f p v a).2]) ∧ Ext w w' := by
 have hsq := fun w1 => span_sq dl dh w1 hd.1 hd.2
 have hg0 := fun w1 => fl_goes p v dl dh w1 kv hd
 have hg1 := fun w1 => fl_goes (goR p v dl dh).v a (hfI dl dh).lo (hfI dl dh).hi w1 ka (scI_W _ _ _ _)
 have hg2 := fun w1 => fl_goes v a dl dh w1 ka hd
 have hsc : ∀ w1, Calls Tryz.prog 106 #[.agg #[.int .i64 (sqI dl dh).lo, .int .i64 (sqI dl dh).hi], .int .i64 1, .int .i64 2] w1 fun e w' => e = .returned (.tuple #[.agg #[.int .i64 (hfI dl dh).lo, .int .i64 (hfI dl dh).hi], .int .i64 (hfI dl dh).e]) ∧ Ext w1 w' := fun w1 => span_sc (sqI dl dh).lo (sqI dl dh).hi 1 2 w1 (by unfold I64; omega) (by decide) (by unfold I64; omega) (by decide)
 have hR : fiR dl dh fr ti t.h t.f p v a = if (sqI dl dh).e ≠ 0 then (Tu.O, 24) else if (goR p v dl dh).e ≠ 0 ∨ (goR (goR p v dl dh).v a (hfI dl dh).lo (hfI dl dh).hi).e ≠ 0 ∨ (goR v a dl dh).e ≠ 0 then (Tu.O, 24) else (⟨fr, ti, t.h, t.f, (goR (goR p v dl dh).v a (hfI dl dh).lo (hfI dl dh).hi).v, (goR v a dl dh).v⟩, 0) := rfl
 generalize fiR dl dh fr ti t.h t.f p v a = R at *
 generalize goR (goR p v dl dh).v a (hfI dl dh).lo (hfI dl dh).hi = G1 at *
 generalize goR p v dl dh = G0 at *
 generalize goR v a dl dh = G2 at *
 generalize hfI dl dh = H at *
 generalize sqI dl dh = S at *
 generalize h0 : decide (G0.e = 0) = q0 at *
 generalize h1 : decide (G1.e = 0) = q1 at *
 generalize h2 : decide (G2.e = 0) = q2 at *
 obtain ⟨O, hO⟩ : ∃ O, Tu.O = O := ⟨_, rfl⟩
 obtain ⟨dd, hu65, hrow⟩ := tyU65
 have hbx := fun U hU => fi_boxes w t p v a dl dh U hU
 rw [hO] at hbx
 have hz : Hid ((#[.int .i64 0, .int .i64 0, .int .i64 0, .int .i64 0, .int .i64 0, .int .i64 0, .int .i64 0, .int .i64 0, .int .i64 0, .int .i64 0, .int .i64 0, .int .i64 0, .int .i64 0, .int .i64 0, .int .i64 0, .int .i64 0, .int .i64 0, .int .i64 0, .int .i64 0, .int .i64 0, .int .i64 0, .int .i64 0, .int .i64 0, .int .i64 0, .int .i64 0, .int .i64 0] : Array Value) = (tvs O).toArray) := by rw [← hO]; rfl
 rw [hO] at hR
 clear hO
 unfold tv
 go_enter Tryz.func76, Tryz.ntmps76
 go_upto_region 1 with fail
 refine wp_name fun U1 hN => ?_
 obtain ⟨x1, bt, bp, bv, ba, bd, bz⟩ := hbx U1 (Eq.trans hN (congrArg (fun c => World.alloc _ (Obj.cells c 65)) hz.out))
 clear hN hbx
 have d0 := bd.1 0 _ rfl
 have d1 := bd.1 1 _ rfl
 by_cases e0 : S.e = 0
 ·rw [if_neg (fun h => h e0)] at hR
  go_upto_region 5 with (first
   | (go_at_call 107; (with_reducible refine (hsq _).mono ?_); rintro e w2 ⟨rfl, hb⟩)
   | (go_at_call 106; (with_reducible refine (hsc _).mono ?_); rintro e w3 ⟨rfl, hb3⟩))
  refine wp_name fun U5 hN => ?_
  obtain ⟨T18, h18⟩ : ∃ T, w3.heap.size = T := ⟨_, rfl⟩
  have eN : Ext U1 U5 := Ext.same hN ((hb.alloc _).trans (hb3.alloc _))
  have n18 : VB U5 T18 [H.lo, H.hi] := by have e : U5 = _ := hN; rw [e, ← h18]; exact VB.lit _ [H.lo, H.hi] 26
  have l18 : U1.heap.size ≤ T18 := by have := hb.size; have := hb3.size; simp only [World.size_alloc] at this; omega
  try rw [h18]
  clear hN hb hb3 h18 d0 d1
  replace bt := bt.ext eN
  replace bp := bp.ext eN
  replace bv := bv.ext eN
  replace ba := ba.ext eN
  replace bd := bd.ext eN
  have lz := bz.2.2
  replace bz := bz.ext eN
  have c0 := bt.1 0 _ rfl
  have c1 := bt.1 1 _ rfl
  have cf := bt.2.1
  have cl := bt.2.2
  go_upto_region 7 with fail
  refine wp_name fun U7 hN => ?_
  have e : U7 = _ := hN
  obtain ⟨T20, h20⟩ : ∃ T, U5.heap.size = T := ⟨_, rfl⟩
  have l20 : U1.heap.size ≤ T20 := by have := eN.size; omega
  have n20 : T20 ≠ T18 := by have := n18.2.2; omega
  have g7 : GB w.heap.size U1 U7 := by rw [e]; exact (((GB.ext eN).set _).set _).alloc _
  have bt7 : VB U7 w.heap.size (((tuL t).set 0 fr).set 1 ti) := by rw [e]; exact ((bt.set 0 fr (Nat.le_of_ble_eq_true rfl)).set 1 ti (Nat.le_of_ble_eq_true rfl)).ext ((Ext.refl _).alloc _)
  replace bp : VB U7 (w.heap.size + 1) (six p) := by rw [e]; exact ((bp.other (by omega) _).other (by omega) _).ext ((Ext.refl _).alloc _)
  replace bv : VB U7 (w.heap.size + 1 + 1) (six v) := by rw [e]; exact ((bv.other (by omega) _).other (by omega) _).ext ((Ext.refl _).alloc _)
  replace ba : VB U7 (w.heap.size + 1 + 1 + 1) (six a) := by rw [e]; exact ((ba.other (by omega) _).other (by omega) _).ext ((Ext.refl _).alloc _)
  replace bd : VB U7 (w.heap.size + 1 + 1 + 1 + 1) [dl, dh] := by rw [e]; exact ((bd.other (by omega) _).other (by omega) _).ext ((Ext.refl _).alloc _)
  replace bz : VB U7 (w.heap.size + 1 + 1 + 1 + 1 + 1) (tuL O) := by rw [e]; exact ((bz.other (by omega) _).other (by omega) _).ext ((Ext.refl _).alloc _)
  replace n18 : VB U7 T18 [H.lo, H.hi] := by rw [e]; exact ((n18.other (by omega) _).other (by omega) _).ext ((Ext.refl _).alloc _)
  have b20 : B3 U7 T20 false false false := by
   rw [e, ← h20]
   have h := B3.lit ((U5.setCell ⟨w.heap.size, 0, none⟩ (.int .i64 fr)).setCell ⟨w.heap.size, 1, none⟩ (.int .i64 ti)) false false false 180
   simpa only [World.size_setCell] using h
  try rw [h20]
  clear bt c0 c1 cf cl hN e h20 eN
  have bt : VB U7 w.heap.size (tuL ⟨fr, ti, t.h, t.f, t.p, t.v⟩) := bt7
  clear bt7
  have p0 : U7.cell? ⟨(w.heap.size + 1), 0, none⟩ = some (.int .i64 p.a) := bp.1 0 _ rfl
  have p1 : U7.cell? ⟨(w.heap.size + 1), 1, none⟩ = some (.int .i64 p.b) := bp.1 1 _ rfl
  have p2 : U7.cell? ⟨(w.heap.size + 1), 2, none⟩ = some (.int .i64 p.c) := bp.1 2 _ rfl
  have p3 : U7.cell? ⟨(w.heap.size + 1), 3, none⟩ = some (.int .i64 p.d) := bp.1 3 _ rfl
  have p4 : U7.cell? ⟨(w.heap.size + 1), 4, none⟩ = some (.int .i64 p.e) := bp.1 4 _ rfl
  have p5 : U7.cell? ⟨(w.heap.size + 1), 5, none⟩ = some (.int .i64 p.f) := bp.1 5 _ rfl
  have v0 : U7.cell? ⟨(w.heap.size + 1 + 1), 0, none⟩ = some (.int .i64 v.a) := bv.1 0 _ rfl
  have v1 : U7.cell? ⟨(w.heap.size + 1 + 1), 1, none⟩ = some (.int .i64 v.b) := bv.1 1 _ rfl
  have v2 : U7.cell? ⟨(w.heap.size + 1 + 1), 2, none⟩ = some (.int .i64 v.c) := bv.1 2 _ rfl
  have v3 : U7.cell? ⟨(w.heap.size + 1 + 1), 3, none⟩ = some (.int .i64 v.d) := bv.1 3 _ rfl
  have v4 : U7.cell? ⟨(w.heap.size + 1 + 1), 4, none⟩ = some (.int .i64 v.e) := bv.1 4 _ rfl
  have v5 : U7.cell? ⟨(w.heap.size + 1 + 1), 5, none⟩ = some (.int .i64 v.f) := bv.1 5 _ rfl
  have d0 : U7.cell? ⟨(w.heap.size + 1 + 1 + 1 + 1), 0, none⟩ = some (.int .i64 dl) := bd.1 0 _ rfl
  have d1 : U7.cell? ⟨(w.heap.size + 1 + 1 + 1 + 1), 1, none⟩ = some (.int .i64 dh) := bd.1 1 _ rfl
  obtain ⟨y0, y1, y2, yf, yl⟩ := id b20
  go_upto_region 8 with (first
   | (go_at_call 69; (with_reducible refine (hg0 _).mono ?_); rintro e x7 ⟨rfl, hb⟩; have bt7 := bt.ext hb; have ht7 := bt7.mid 14 6 (Nat.le_of_ble_eq_true rfl); have b27 := b20.ext hb)
   | ((with_reducible show wpList _ _ _ _ _ _); refine store_at rfl 28 (.tmp 45) (.tmp 43) rfl w.heap.size 14 #[.int .i64 G0.v.a, .int .i64 G0.v.b, .int .i64 G0.v.c, .int .i64 G0.v.d, .int .i64 G0.v.e, .int .i64 G0.v.f] rfl rfl ht7 tyI28 c_44 (fun W7 hW => ?_); obtain ⟨z0, z1, z2, zf, zl⟩ := id (hW.b3 b27 (by omega))))
  refine wp_name fun U8 hN => ?_
  have e : U8 = _ := hN
  have kb : GB w.heap.size U7 W7 := hW.gb (GB.ext hb)
  have g8 : GB w.heap.size U1 U8 := by rw [e]; exact (g7.trans kb).new (by omega) _
  have bt108 : VB U8 w.heap.size (setsL (tuL ⟨fr, ti, t.h, t.f, t.p, t.v⟩) 14 (six G0.v)) := by rw [e]; exact (hW.vb (m := six G0.v) bt7 (Nat.le_of_ble_eq_true rfl)).other (by omega) _
  replace bp : VB U8 (w.heap.size + 1) (six p) := by rw [e]; exact (hW.other (bp.ext hb) (by omega)).other (by omega) _
  replace bv : VB U8 (w.heap.size + 1 + 1) (six v) := by rw [e]; exact (hW.other (bv.ext hb) (by omega)).other (by omega) _
  replace ba : VB U8 (w.heap.size + 1 + 1 + 1) (six a) := by rw [e]; exact (hW.other (ba.ext hb) (by omega)).other (by omega) _
  replace bd : VB U8 (w.heap.size + 1 + 1 + 1 + 1) [dl, dh] := by rw [e]; exact (hW.other (bd.ext hb) (by omega)).other (by omega) _
  replace bz : VB U8 (w.heap.size + 1 + 1 + 1 + 1 + 1) (tuL O) := by rw [e]; exact (hW.other (bz.ext hb) (by omega)).other (by omega) _
  replace n18 : VB U8 T18 [H.lo, H.hi] := by rw [e]; exact (hW.other (n18.ext hb) (by omega)).other (by omega) _
  replace b20 : B3 U8 T20 q0 false false := by rw [e]; exact (hW.b3 b27 (by omega)).s0 _
  clear hN e kb hW hb z0 z1 z2 zf zl y0 y1 y2 yf yl bt7 ht7 b27 g7 p0 v0 p1 v1 p2 v2 p3 v3 p4 v4 p5 v5 d0 d1
  clear bt
  have bt : VB U8 w.heap.size (tuL ⟨fr, ti, t.h, t.f, G0.v, t.v⟩) := bt108
  clear bt108
  have p0 : U8.cell? ⟨w.heap.size, 14, none⟩ = some (.int .i64 G0.v.a) := bt.1 14 _ rfl
  have p1 : U8.cell? ⟨w.heap.size, 15, none⟩ = some (.int .i64 G0.v.b) := bt.1 15 _ rfl
  have p2 : U8.cell? ⟨w.heap.size, 16, none⟩ = some (.int .i64 G0.v.c) := bt.1 16 _ rfl
  have p3 : U8.cell? ⟨w.heap.size, 17, none⟩ = some (.int .i64 G0.v.d) := bt.1 17 _ rfl
  have p4 : U8.cell? ⟨w.heap.size, 18, none⟩ = some (.int .i64 G0.v.e) := bt.1 18 _ rfl
  have p5 : U8.cell? ⟨w.heap.size, 19, none⟩ = some (.int .i64 G0.v.f) := bt.1 19 _ rfl
  have v0 : U8.cell? ⟨(w.heap.size + 1 + 1 + 1), 0, none⟩ = some (.int .i64 a.a) := ba.1 0 _ rfl
  have v1 : U8.cell? ⟨(w.heap.size + 1 + 1 + 1), 1, none⟩ = some (.int .i64 a.b) := ba.1 1 _ rfl
  have v2 : U8.cell? ⟨(w.heap.size + 1 + 1 + 1), 2, none⟩ = some (.int .i64 a.c) := ba.1 2 _ rfl
  have v3 : U8.cell? ⟨(w.heap.size + 1 + 1 + 1), 3, none⟩ = some (.int .i64 a.d) := ba.1 3 _ rfl
  have v4 : U8.cell? ⟨(w.heap.size + 1 + 1 + 1), 4, none⟩ = some (.int .i64 a.e) := ba.1 4 _ rfl
  have v5 : U8.cell? ⟨(w.heap.size + 1 + 1 + 1), 5, none⟩ = some (.int .i64 a.f) := ba.1 5 _ rfl
  have d0 : U8.cell? ⟨T18, 0, none⟩ = some (.int .i64 H.lo) := n18.1 0 _ rfl
  have d1 : U8.cell? ⟨T18, 1, none⟩ = some (.int .i64 H.hi) := n18.1 1 _ rfl
  obtain ⟨y0, y1, y2, yf, yl⟩ := id b20
  go_upto_region 9 with (first
   | (go_at_call 69; (with_reducible refine (hg1 _).mono ?_); rintro e x8 ⟨rfl, hb⟩; have bt8 := bt.ext hb; have ht8 := bt8.mid 14 6 (Nat.le_of_ble_eq_true rfl); have b28 := b20.ext hb)
   | ((with_reducible show wpList _ _ _ _ _ _); refine store_at rfl 28 (.tmp 55) (.tmp 53) rfl w.heap.size 14 #[.int .i64 G1.v.a, .int .i64 G1.v.b, .int .i64 G1.v.c, .int .i64 G1.v.d, .int .i64 G1.v.e, .int .i64 G1.v.f] rfl rfl ht8 tyI28 c_44 (fun W8 hW => ?_); obtain ⟨z0, z1, z2, zf, zl⟩ := id (hW.b3 b28 (by omega))))
  refine wp_name fun U9 hN => ?_
  have e : U9 = _ := hN
  have kb : GB w.heap.size U8 W8 := hW.gb (GB.ext hb)
  have g9 : GB w.heap.size U1 U9 := by rw [e]; exact (g8.trans kb).new (by omega) _
  have bt109 : VB U9 w.heap.size (setsL (tuL ⟨fr, ti, t.h, t.f, G0.v, t.v⟩) 14 (six G1.v)) := by rw [e]; exact (hW.vb (m := six G1.v) bt8 (Nat.le_of_ble_eq_true rfl)).other (by omega) _
  replace bp : VB U9 (w.heap.size + 1) (six p) := by rw [e]; exact (hW.other (bp.ext hb) (by omega)).other (by omega) _
  replace bv : VB U9 (w.heap.size + 1 + 1) (six v) := by rw [e]; exact (hW.other (bv.ext hb) (by omega)).other (by omega) _
  replace ba : VB U9 (w.heap.size + 1 + 1 + 1) (six a) := by rw [e]; exact (hW.other (ba.ext hb) (by omega)).other (by omega) _
  replace bd : VB U9 (w.heap.size + 1 + 1 + 1 + 1) [dl, dh] := by rw [e]; exact (hW.other (bd.ext hb) (by omega)).other (by omega) _
  replace bz : VB U9 (w.heap.size + 1 + 1 + 1 + 1 + 1) (tuL O) := by rw [e]; exact (hW.other (bz.ext hb) (by omega)).other (by omega) _
  replace n18 : VB U9 T18 [H.lo, H.hi] := by rw [e]; exact (hW.other (n18.ext hb) (by omega)).other (by omega) _
  replace b20 : B3 U9 T20 q0 q1 false := by rw [e]; exact (hW.b3 b28 (by omega)).s1 _
  clear hN e kb hW hb z0 z1 z2 zf zl y0 y1 y2 yf yl bt8 ht8 b28 g8 p0 v0 p1 v1 p2 v2 p3 v3 p4 v4 p5 v5 d0 d1
  clear bt
  have bt : VB U9 w.heap.size (tuL ⟨fr, ti, t.h, t.f, G1.v, t.v⟩) := bt109
  clear bt109
  have p0 : U9.cell? ⟨(w.heap.size + 1 + 1), 0, none⟩ = some (.int .i64 v.a) := bv.1 0 _ rfl
  have p1 : U9.cell? ⟨(w.heap.size + 1 + 1), 1, none⟩ = some (.int .i64 v.b) := bv.1 1 _ rfl
  have p2 : U9.cell? ⟨(w.heap.size + 1 + 1), 2, none⟩ = some (.int .i64 v.c) := bv.1 2 _ rfl
  have p3 : U9.cell? ⟨(w.heap.size + 1 + 1), 3, none⟩ = some (.int .i64 v.d) := bv.1 3 _ rfl
  have p4 : U9.cell? ⟨(w.heap.size + 1 + 1), 4, none⟩ = some (.int .i64 v.e) := bv.1 4 _ rfl
  have p5 : U9.cell? ⟨(w.heap.size + 1 + 1), 5, none⟩ = some (.int .i64 v.f) := bv.1 5 _ rfl
  have v0 : U9.cell? ⟨(w.heap.size + 1 + 1 + 1), 0, none⟩ = some (.int .i64 a.a) := ba.1 0 _ rfl
  have v1 : U9.cell? ⟨(w.heap.size + 1 + 1 + 1), 1, none⟩ = some (.int .i64 a.b) := ba.1 1 _ rfl
  have v2 : U9.cell? ⟨(w.heap.size + 1 + 1 + 1), 2, none⟩ = some (.int .i64 a.c) := ba.1 2 _ rfl
  have v3 : U9.cell? ⟨(w.heap.size + 1 + 1 + 1), 3, none⟩ = some (.int .i64 a.d) := ba.1 3 _ rfl
  have v4 : U9.cell? ⟨(w.heap.size + 1 + 1 + 1), 4, none⟩ = some (.int .i64 a.e) := ba.1 4 _ rfl
  have v5 : U9.cell? ⟨(w.heap.size + 1 + 1 + 1), 5, none⟩ = some (.int .i64 a.f) := ba.1 5 _ rfl
  have d0 : U9.cell? ⟨(w.heap.size + 1 + 1 + 1 + 1), 0, none⟩ = some (.int .i64 dl) := bd.1 0 _ rfl
  have d1 : U9.cell? ⟨(w.heap.size + 1 + 1 + 1 + 1), 1, none⟩ = some (.int .i64 dh) := bd.1 1 _ rfl
  obtain ⟨y0, y1, y2, yf, yl⟩ := id b20
  go_upto_region 10 with (first
   | (go_at_call 69; (with_reducible refine (hg2 _).mono ?_); rintro e x9 ⟨rfl, hb⟩; have bt9 := bt.ext hb; have ht9 := bt9.mid 20 6 (Nat.le_of_ble_eq_true rfl); have b29 := b20.ext hb)
   | ((with_reducible show wpList _ _ _ _ _ _); refine store_at rfl 28 (.tmp 64) (.tmp 62) rfl w.heap.size 20 #[.int .i64 G2.v.a, .int .i64 G2.v.b, .int .i64 G2.v.c, .int .i64 G2.v.d, .int .i64 G2.v.e, .int .i64 G2.v.f] rfl rfl ht9 tyI28 c_44 (fun W9 hW => ?_); obtain ⟨z0, z1, z2, zf, zl⟩ := id (hW.b3 b29 (by omega))))
  refine wp_name fun U10 hN => ?_
  have e : U10 = _ := hN
  have kb : GB w.heap.size U9 W9 := hW.gb (GB.ext hb)
  have g10 : GB w.heap.size U1 U10 := by rw [e]; exact (g9.trans kb).new (by omega) _
  have bt110 : VB U10 w.heap.size (setsL (tuL ⟨fr, ti, t.h, t.f, G1.v, t.v⟩) 20 (six G2.v)) := by rw [e]; exact (hW.vb (m := six G2.v) bt9 (Nat.le_of_ble_eq_true rfl)).other (by omega) _
  replace bp : VB U10 (w.heap.size + 1) (six p) := by rw [e]; exact (hW.other (bp.ext hb) (by omega)).other (by omega) _
  replace bv : VB U10 (w.heap.size + 1 + 1) (six v) := by rw [e]; exact (hW.other (bv.ext hb) (by omega)).other (by omega) _
  replace ba : VB U10 (w.heap.size + 1 + 1 + 1) (six a) := by rw [e]; exact (hW.other (ba.ext hb) (by omega)).other (by omega) _
  replace bd : VB U10 (w.heap.size + 1 + 1 + 1 + 1) [dl, dh] := by rw [e]; exact (hW.other (bd.ext hb) (by omega)).other (by omega) _
  replace bz : VB U10 (w.heap.size + 1 + 1 + 1 + 1 + 1) (tuL O) := by rw [e]; exact (hW.other (bz.ext hb) (by omega)).other (by omega) _
  replace n18 : VB U10 T18 [H.lo, H.hi] := by rw [e]; exact (hW.other (n18.ext hb) (by omega)).other (by omega) _
  replace b20 : B3 U10 T20 q0 q1 q2 := by rw [e]; exact (hW.b3 b29 (by omega)).s2 _
  clear hN e kb hW hb z0 z1 z2 zf zl y0 y1 y2 yf yl bt9 ht9 b29 g9 p0 v0 p1 v1 p2 v2 p3 v3 p4 v4 p5 v5 d0 d1
  clear bt
  have bt : VB U10 w.heap.size (tuL ⟨fr, ti, t.h, t.f, G1.v, G2.v⟩) := bt110
  clear bt110
  have bt10 : VB U10 w.heap.size (tuL ⟨fr, ti, t.h, t.f, G1.v, G2.v⟩) := bt
  have x10 : Ext w U10 := GB.pre x1 g10 (Nat.le_refl _)
  clear bt bp bv ba bd n18 g10 hg0 hg1 hg2 hsq hsc
  have hr := bt10.range
  have e4 := eqB4
  have m180 : Tryz.prog.eqGuardType Tryz.prog.depth 180 = false := by kernel_rfl
  obtain ⟨y0, y1, y2, yf, yl⟩ := b20
  by_cases hx : (q0 && (q1 && q2)) = true
  ·have hx3 : G0.e = 0 ∧ G1.e = 0 ∧ G2.e = 0 := by
    rw [Bool.and_eq_true, Bool.and_eq_true, ← h0, ← h1, ← h2] at hx
    exact ⟨of_decide_eq_true hx.1, of_decide_eq_true hx.2.1, of_decide_eq_true hx.2.2⟩
   rw [if_neg (by rintro (h | h | h); exact h hx3.1; exact h hx3.2.1; exact h hx3.2.2)] at hR
   subst hR
   clear h0 h1 h2
   go_upto_region 12 with fail
   obtain ⟨tt, htt⟩ : ∃ tt : Tu, (⟨fr, ti, t.h, t.f, G1.v, G2.v⟩ : Tu) = tt := ⟨_, rfl⟩
   rw [htt] at hr
   go_wp2_with (first
    | ((with_reducible show wpList _ _ _ _ _ _); refine wpList_load_mid rfl 65 (.tmp 7) rfl w.heap.size 0 rfl (tvs tt) dd hr hu65 hrow tyI65 ?_)
    | ((with_reducible show wpList _ _ _ _ _ _); refine store_row rfl 65 (.tmp 14) (.tmp 70) rfl (w.heap.size + 1 + 1 + 1 + 1 + 1) (tvs tt).toArray rfl rfl (bz.there 26 rfl) tyI65 c_50 (fun W hW => ?_)))
   refine bodyPost_ret (results_cell_tmp (a := ⟨w.heap.size + 1 + 1 + 1 + 1 + 1, 0, none⟩) rfl rfl rfl (run_load_row W _ 65 (tvs tt) dd hW.range hu65 hrow tyI65)) rfl ⟨by rw [← htt]; rfl, hW.ext x10 (by omega)⟩
  ·have hx3 : G0.e ≠ 0 ∨ G1.e ≠ 0 ∨ G2.e ≠ 0 := by
    rw [← h0, ← h1, ← h2] at hx
    simp only [Bool.and_eq_true, decide_eq_true_eq, not_and] at hx
    by_cases a1 : G0.e = 0
    ·by_cases a2 : G1.e = 0
     ·exact .inr (.inr (hx a1 a2))
     ·exact .inr (.inl a2)
    ·exact .inl a1
   rw [if_pos hx3] at hR
   subst hR
   clear h0 h1 h2
   rw [Bool.not_eq_true] at hx
   go_upto_region 11 with fail
   go_wp2_with ((with_reducible show wpList _ _ _ _ _ _); refine store_row rfl 65 (.tmp 14) (.tmp 69) rfl (w.heap.size + 1 + 1 + 1 + 1 + 1) (tvs O).toArray rfl (congrArg Value.agg hz.out) (bz.there 26 rfl) tyI65 c_50 (fun W hW => ?_))
   refine bodyPost_ret (results_cell_tmp (a := ⟨w.heap.size + 1 + 1 + 1 + 1 + 1, 0, none⟩) rfl rfl rfl (run_load_row W _ 65 (tvs O) dd hW.range hu65 hrow tyI65)) rfl ⟨rfl, hW.ext x10 (by omega)⟩
 ·rw [if_pos e0] at hR
  subst hR
  go_upto_region 3 with (go_at_call 107; (with_reducible refine (hsq _).mono ?_); rintro e w2 ⟨rfl, hb⟩)
  refine wp_name fun U3 hN => ?_
  have eN : Ext U1 U3 := Ext.same hN (hb.alloc _)
  have bz3 := bz.ext eN
  have x3 := x1.trans eN
  clear hN hb eN bt bp bv ba bd bz d0 d1
  go_wp2_with ((with_reducible show wpList _ _ _ _ _ _); refine store_row rfl 65 (.tmp 14) (.tmp 28) rfl (w.heap.size + 1 + 1 + 1 + 1 + 1) (tvs O).toArray rfl (congrArg Value.agg hz.out) (bz3.there 26 rfl) tyI65 c_50 (fun W hW => ?_))
  refine bodyPost_ret (results_cell_tmp (a := ⟨w.heap.size + 1 + 1 + 1 + 1 + 1, 0, none⟩) rfl rfl rfl (run_load_row W _ 65 (tvs O) dd hW.range hu65 hrow tyI65)) rfl ⟨rfl, hW.ext x3 (by omega)⟩
end Go.Proofs.YtbkgakgdbmjmjaaGreat
