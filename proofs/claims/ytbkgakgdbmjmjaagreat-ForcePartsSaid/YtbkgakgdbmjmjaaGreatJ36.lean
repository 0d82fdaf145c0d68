/- law34.ForceParts: the walk. -/
import Derived.Test.YtbkgakgdbmjmjaaGreatJ31
import Derived.Test.YtbkgakgdbmjmjaaGreatJ34
import Derived.Test.YtbkgakgdbmjmjaaGreatJ35
import Derived.Test.YtbkgakgdbmjmjaaGreatJ32
set_option linter.unusedSimpArgs false
set_option linter.unusedVariables false
set_option maxRecDepth 100000
set_option maxHeartbeats 8000000
namespace Go.Proofs.YtbkgakgdbmjmjaaGreat
open Go.RowKit
theorem T_FPL_2 {p : Prop} (h : p := by
 refine hK.out _ _ trivial (fun _ => ?_)
 clear hK K
 try simp only [sx_]
 refine wpAnyH_done c_11 ?_ _
 go_wp2_with fail
 go_meet
 exact ⟨_, rfl, hPa, FpI.row hJ4 hPa hWs, VB.row (m := [x0, x1, x2, x3, x4, x5]) hA4 hWs⟩) : p := h
theorem T_FPL_1 {p : Prop} (h : p := by
 have d2 := c2.ext ((Ext.refl _).drew)
 have d3 := c3.ext ((Ext.refl _).drew)
 refine wp_region_till (S := (fun w0 => VB w0 B3 (mL S'.m) ∧ VB w0 B2 (mL S.m))) (fun _ => false) c_11 ?_ (fun hHeld => ?_)
 ·exact ⟨d3, d2⟩
 try simp only [sx_]
 refine tp 0 rfl c_1 ?_
 try simp only [sx_]
 refine tp 1 rfl c_1 ?_
 try simp only [sx_]
 refine tp 2 rfl c_1 ?_
 try simp only [sx_]
 refine tp 3 rfl c_1 ?_
 try simp only [sx_]
 refine tb 4 rfl c_68 ?_
 try simp only [sx_]
 refine tp 5 rfl c_1 ?_
 try simp only [sx_]
 refine tp 6 rfl c_1 ?_
 try simp only [sx_]
 refine tp 7 rfl c_1 ?_
 try simp only [sx_]
 refine tp 8 rfl c_1 ?_
 try simp only [sx_]
 refine tb 9 rfl c_68 ?_
 try simp only [sx_]
 refine rb (i := 10) rfl fun K hK => ?_
 go_simp
 (go_at_call 24; (with_reducible refine (hw _).mono ?_); rintro e z ⟨rfl, hz⟩)
 replace d2 := d2.ext hz
 replace d3 := d3.ext hz
 refine hK.out _ _ ?_ fun _ => ?_
 ·(try dsimp only); exact ⟨d3, d2⟩
 clear hK K hHeld
 rename_i hHeld
 try simp only [sx_]
 refine tp 11 rfl c_1 ?_
 try simp only [sx_]
 refine wpAnyB_done c_11 ?_ _
 go_wp2_with fail
 go_meet
 exact ⟨rfl, (f.drew).trans hz, d2, d3⟩) : p := h
def FpI (w : World) (ao : Option Addr) (n cap : Nat) (p : V3) (c : World) : Prop := Ext w c ∧ c.cell? ⟨w.heap.size, 0, none⟩ = some (.slice ao n cap) ∧ V6 c (w.heap.size + 1) p
theorem FpI.ext {w c d : World} {ao : Option Addr} {n cap : Nat} {p : V3} (h : FpI w ao n cap p c) (k : Ext c d) : FpI w ao n cap p d :=
 ⟨h.1.trans k, (k.cells.1 _ 0 (World.block_lt_of_cell? c _ h.2.1)).trans h.2.1, h.2.2.ext k⟩
theorem FpI.set {w c : World} {ao : Option Addr} {n cap D j : Nat} {p : V3} (h : FpI w ao n cap p c) (hD : w.heap.size + 1 < D) (x : Value) : FpI w ao n cap p (c.setCell ⟨D, j, none⟩ x) :=
 ⟨h.1.setCell (p := ⟨D, j, none⟩) c_34 x, by rw [cell_sc, if_neg (fun e => by have := congrArg Addr.block e; simp at this; omega)]; exact h.2.1, h.2.2.other (by omega) x⟩
theorem FpI.row {w c d : World} {ao : Option Addr} {n cap D : Nat} {p : V3} {vs : List Value} (h : FpI w ao n cap p c) (hD : w.heap.size + 1 < D) (k : Row d c D vs) : FpI w ao n cap p d := by
 have x := Xb.row (n := w.heap.size + 2) (p := D) k
 exact ⟨k.ext h.1 (by omega), (x.cell (by omega) (by omega) (by omega)).trans h.2.1, x.v6 h.2.2 (by omega) (by omega) (by omega)⟩
theorem pt_in {a b k n : Int} (h : a ≤ b) : Pt (min (inP a b k) (inP a b n)) (max (inP a b k) (inP a b n)) a b := by
 obtain ⟨h1, h2⟩ := inP_in (k := k) h
 obtain ⟨h3, h4⟩ := inP_in (k := n) h
 unfold Pt
 omega
theorem pt_in1 {a b c d : Int} (h : Pt a b c d) : in1 a b c d = true := by
 obtain ⟨h1, h2, h3⟩ := h
 simp [in1, h1, h3]
theorem law_parts (v : Value) (l : List BodyD) (fr ti : Int) (p : V3) (k n : Int) (w : World) (hB : Bds w v l) (hp : p.I) (k0 : 0 ≤ k) (n0 : 0 ≤ n) (k1 : k ≤ 18446744073709551615) (n1 : n ≤ 18446744073709551615)
    (hal : ∀ w1, Calls Tryz.prog 21 #[] w1 fun e w' => e = .returned (.bool true) ∧ Ext w1 w') :
    Calls Tryz.prog 5 #[.agg #[v], .int .i64 fr, .int .i64 ti, .agg #[.int .i64 p.a, .int .i64 p.b, .int .i64 p.c, .int .i64 p.d, .int .i64 p.e, .int .i64 p.f], .int .u64 k, .int .u64 n] w fun e w' => e = .returned (.bool true) ∧ Ext w w' := by
 obtain ⟨E, hE⟩ := CkE.ex l
 obtain ⟨ao, b, o, cap, rfl, ha, hl, hm⟩ := hB.len
 have hgr := fun w1 (k1 : Ext w w1) => g_Great _ l w1 (hB.ext k1)
 have hck := fun w1 => c_check p w1
 obtain ⟨C, hC⟩ : ∃ C, ckV p = C := ⟨_, rfl⟩
 rw [hC] at hck
 by_cases h0 : C = 0
 ·subst h0
  go_enter Tryz.func5, Tryz.ntmps5
  go_upto_region 4 with (first
   | (go_at_call 21; (with_reducible refine (hal _).mono ?_); rintro e w1 ⟨rfl, hb1⟩; obtain ⟨_, _, ⟨hc1, hf1⟩, hz1⟩ := hb1.c3; (try simp only [wsz] at hz1 hc1 hf1))
   | (go_at_call 13; (with_reducible refine (hgr _ ex_).mono ?_); rintro e w2 ⟨bb, rfl, hb2, hG⟩; obtain ⟨_, _, ⟨hc2, hf2⟩, hz2⟩ := hb2.c3; (try simp only [wsz] at hz2 hc2 hf2))
   | (go_at_call 22; (with_reducible refine (hck _).mono ?_); rintro e w3 ⟨rfl, hb3⟩; obtain ⟨_, _, ⟨hc3, hf3⟩, hz3⟩ := hb3.c3; (try simp only [wsz] at hz3 hc3 hf3)))
  ·skip
   refine bodyPost_ret (v := .bool true) ?_ rfl ⟨rfl, ?_⟩
   ·(try simp only [bn_, bm_] at *)
    simp [results, Tryz.results5, go_sem, ↓IntWalk.iteOmega, *]
   ·exact b_6
  ·have hS : E = 0 → Sml l := fun h => hG (by first | assumption | exact Bool.eq_false_iff.2 c_40) (hE.zero h).1
   have hI0 : FpI w ao l.length cap p w3 := by
    have e3 : Ext w w3 := ex_
    have v1 := (V6.lit (w.alloc (.cells #[.slice ao l.length cap] 24)) p.a p.b p.c p.d p.e p.f 28).ext ((hb1.trans hb2).trans hb3)
    simp only [World.size_alloc] at v1
    exact ⟨e3, by simp [go_sem, ↓IntWalk.iteOmega, *], v1⟩
   clear hgr hck hal hb1 hb2 hb3 hc1 hf1 hc2 hf2 hc3 hf3 hz1 hz2 hz3
   obtain ⟨V, rfl⟩ : ∃ V, V = w3 := ⟨_, rfl⟩
   obtain ⟨ck0, ck1, ck2⟩ := ckV_ok hC
   have hi0 := fun w1 => g_inner p.a p.b k n w1 ck0 k0 n0 k1 n1
   have hi1 := fun w1 => g_inner p.c p.d (k / 256) (n / 256) w1 ck1 (by omega) (by omega) (by omega) (by omega)
   have hi2 := fun w1 => g_inner p.e p.f (k / 65536) (n / 65536) w1 ck2 (by omega) (by omega) (by omega) (by omega)
   have hpt : PtV ⟨min (inP p.a p.b k) (inP p.a p.b n), max (inP p.a p.b k) (inP p.a p.b n), min (inP p.c p.d (k / 256)) (inP p.c p.d (n / 256)), max (inP p.c p.d (k / 256)) (inP p.c p.d (n / 256)), min (inP p.e p.f (k / 65536)) (inP p.e p.f (n / 65536)), max (inP p.e p.f (k / 65536)) (inP p.e p.f (n / 65536))⟩ p := ⟨pt_in (ckI_ok ck0).1, pt_in (ckI_ok ck1).1, pt_in (ckI_ok ck2).1⟩
   generalize min (inP p.a p.b k) (inP p.a p.b n) = x0 at *
   generalize max (inP p.a p.b k) (inP p.a p.b n) = x1 at *
   generalize min (inP p.c p.d (k / 256)) (inP p.c p.d (n / 256)) = x2 at *
   generalize max (inP p.c p.d (k / 256)) (inP p.c p.d (n / 256)) = x3 at *
   generalize min (inP p.e p.f (k / 65536)) (inP p.e p.f (n / 65536)) = x4 at *
   generalize max (inP p.e p.f (k / 65536)) (inP p.e p.f (n / 65536)) = x5 at *
   clear ck0 ck1 ck2
   have hxI : V3.I ⟨x0, x1, x2, x3, x4, x5⟩ := ckV_I (hpt.ck hC)
   go_cut [14] from 39 to 58 (fun sx wx => ∃ Q : Nat, sx = .pointer (some ⟨Q, 0, none⟩) ∧ w.heap.size + 1 < Q ∧ FpI w ao l.length cap p wx ∧ VB wx Q [x0, x1, x2, x3, x4, x5])
   case first =>
    have hJ0 := hI0.ext ((Ext.refl _).drew)
    have hVs : w.heap.size + 1 < V.heap.size := hI0.2.2.2.2.2.2.2.2.2
    refine wp_region_till (S := (fun w0 => V6 w0 (w.heap.size + 1) p)) (fun i => decide (i = 21)) c_11 ?_ (fun hHeld => ?_)
    ·exact hJ0.2.2
    try simp only [sx_]
    refine tp 0 rfl c_1 ?_
    try simp only [sx_]
    refine tb 1 rfl c_35 ?_
    try simp only [sx_]
    refine tp 2 rfl c_1 ?_
    try simp only [sx_]
    refine tp 3 rfl c_1 ?_
    try simp only [sx_]
    refine tp 5 rfl c_1 ?_
    try simp only [sx_]
    refine tb 6 rfl c_35 ?_
    try simp only [sx_]
    refine tp 7 rfl c_1 ?_
    try simp only [sx_]
    refine tp 8 rfl c_1 ?_
    try simp only [sx_]
    refine tp 9 rfl c_1 ?_
    try simp only [sx_]
    refine tp 10 rfl c_1 ?_
    try simp only [sx_]
    refine tp 12 rfl c_1 ?_
    try simp only [sx_]
    refine tb 13 rfl c_35 ?_
    try simp only [sx_]
    refine tp 14 rfl c_1 ?_
    try simp only [sx_]
    refine tp 15 rfl c_1 ?_
    try simp only [sx_]
    refine tp 16 rfl c_1 ?_
    try simp only [sx_]
    refine tp 17 rfl c_1 ?_
    try simp only [sx_]
    refine wpAnyB_ready (rs := [4, 20]) c_11 (by simp) ?_
    refine AllReadyB.cons (o := _) rfl rfl (fun K hK => ?_) (AllReadyB.cons (o := _) rfl rfl (fun K hK => ?_) AllReadyB.nil)
    ·go_simp
     (go_at_call 23; (with_reducible refine (hi0 _).mono ?_); rintro e y0 ⟨rfl, hy0⟩)
     have hJ1 := hJ0.ext hy0
     refine hK.out _ _ ?_ fun _ => ?_
     ·(try dsimp only); exact hJ1.2.2
     clear hK K hHeld
     rename_i hHeld
     try simp only [sx_]
     refine wpAnyB_ready (rs := [11, 20]) c_11 (by simp) ?_
     refine AllReadyB.cons (o := _) rfl rfl (fun K hK => ?_) (AllReadyB.cons (o := _) rfl rfl (fun K hK => ?_) AllReadyB.nil)
     ·go_simp
      (go_at_call 23; (with_reducible refine (hi1 _).mono ?_); rintro e y1 ⟨rfl, hy1⟩)
      have hJ2 := hJ1.ext hy1
      refine hK.out _ _ ?_ fun _ => ?_
      ·(try dsimp only); exact hJ2.2.2
      clear hK K hHeld
      rename_i hHeld
      try simp only [sx_]
      refine wpAnyB_ready (rs := [18, 20]) c_11 (by simp) ?_
      refine AllReadyB.cons (o := _) rfl rfl (fun K hK => ?_) (AllReadyB.cons (o := _) rfl rfl (fun K hK => ?_) AllReadyB.nil)
      ·go_simp
       (go_at_call 23; (with_reducible refine (hi2 _).mono ?_); rintro e y2 ⟨rfl, hy2⟩)
       have hJ3 := hJ2.ext hy2
       refine hK.out _ _ ?_ fun _ => ?_
       ·(try dsimp only); exact hJ3.2.2
       clear hK K hHeld
       rename_i hHeld
       try simp only [sx_]
       refine tp 19 rfl c_1 ?_
       try simp only [sx_]
       refine rb (i := 20) rfl fun K hK => ?_
       go_simp
       have hJ4 := hJ3.ext ((Ext.refl _).alloc (.cells #[.int .i64 0, .int .i64 0, .int .i64 0, .int .i64 0, .int .i64 0, .int .i64 0] 28))
       have hA4 : VB (y2.alloc (.cells #[.int .i64 0, .int .i64 0, .int .i64 0, .int .i64 0, .int .i64 0, .int .i64 0] 28)) y2.heap.size [0, 0, 0, 0, 0, 0] := VB.lit y2 [0, 0, 0, 0, 0, 0] 28
       have hPa : w.heap.size + 1 < y2.heap.size := hJ3.2.2.2.2.2.2.2.2.2
       refine hK.out _ _ ?_ fun _ => ?_
       ·(try dsimp only); exact hJ4.2.2
       clear hK K hHeld
       rename_i hHeld
       try simp only [sx_]
       refine rl (i := 21) rfl fun K hK => ?_
       rw [if_pos (by rfl)]
       refine Go.Proofs.YtbkgakgdbmjmjaaGreat.wp_store_row 28 (.tmp 14) (.tmp 58) rfl (y2.heap.size) #[.int .i64 x0, .int .i64 x1, .int .i64 x2, .int .i64 x3, .int .i64 x4, .int .i64 x5] rfl rfl (hA4.there 6 rfl) tyI28 c_11 (fun Ws hWs => ?_)
       try simp only [sx_]
       exact T_FPL_2
      ·go_simp
       have hJ3 := hJ2.ext ((Ext.refl _).alloc (.cells #[.int .i64 0, .int .i64 0, .int .i64 0, .int .i64 0, .int .i64 0, .int .i64 0] 28))
       have hA3 : VB (y1.alloc (.cells #[.int .i64 0, .int .i64 0, .int .i64 0, .int .i64 0, .int .i64 0, .int .i64 0] 28)) y1.heap.size [0, 0, 0, 0, 0, 0] := VB.lit y1 [0, 0, 0, 0, 0, 0] 28
       have hPa : w.heap.size + 1 < y1.heap.size := hJ2.2.2.2.2.2.2.2.2.2
       refine hK.out _ _ ?_ fun _ => ?_
       ·(try dsimp only); exact hJ3.2.2
       clear hK K hHeld
       rename_i hHeld
       try simp only [sx_]
       refine rb (i := 18) rfl fun K hK => ?_
       go_simp
       (go_at_call 23; (with_reducible refine (hi2 _).mono ?_); rintro e y2 ⟨rfl, hy2⟩)
       have hJ4 := hJ3.ext hy2
       have hA4 := hA3.ext hy2
       refine hK.out _ _ ?_ fun _ => ?_
       ·(try dsimp only); exact hJ4.2.2
       clear hK K hHeld
       rename_i hHeld
       try simp only [sx_]
       refine tp 19 rfl c_1 ?_
       try simp only [sx_]
       refine rl (i := 21) rfl fun K hK => ?_
       rw [if_pos (by rfl)]
       refine Go.Proofs.YtbkgakgdbmjmjaaGreat.wp_store_row 28 (.tmp 14) (.tmp 58) rfl (y1.heap.size) #[.int .i64 x0, .int .i64 x1, .int .i64 x2, .int .i64 x3, .int .i64 x4, .int .i64 x5] rfl rfl (hA4.there 6 rfl) tyI28 c_11 (fun Ws hWs => ?_)
       try simp only [sx_]
       exact T_FPL_2
     ·go_simp
      have hJ2 := hJ1.ext ((Ext.refl _).alloc (.cells #[.int .i64 0, .int .i64 0, .int .i64 0, .int .i64 0, .int .i64 0, .int .i64 0] 28))
      have hA2 : VB (y0.alloc (.cells #[.int .i64 0, .int .i64 0, .int .i64 0, .int .i64 0, .int .i64 0, .int .i64 0] 28)) y0.heap.size [0, 0, 0, 0, 0, 0] := VB.lit y0 [0, 0, 0, 0, 0, 0] 28
      have hPa : w.heap.size + 1 < y0.heap.size := hJ1.2.2.2.2.2.2.2.2.2
      refine hK.out _ _ ?_ fun _ => ?_
      ·(try dsimp only); exact hJ2.2.2
      clear hK K hHeld
      rename_i hHeld
      try simp only [sx_]
      refine rb (i := 11) rfl fun K hK => ?_
      go_simp
      (go_at_call 23; (with_reducible refine (hi1 _).mono ?_); rintro e y1 ⟨rfl, hy1⟩)
      have hJ3 := hJ2.ext hy1
      have hA3 := hA2.ext hy1
      refine hK.out _ _ ?_ fun _ => ?_
      ·(try dsimp only); exact hJ3.2.2
      clear hK K hHeld
      rename_i hHeld
      try simp only [sx_]
      refine rb (i := 18) rfl fun K hK => ?_
      go_simp
      (go_at_call 23; (with_reducible refine (hi2 _).mono ?_); rintro e y2 ⟨rfl, hy2⟩)
      have hJ4 := hJ3.ext hy2
      have hA4 := hA3.ext hy2
      refine hK.out _ _ ?_ fun _ => ?_
      ·(try dsimp only); exact hJ4.2.2
      clear hK K hHeld
      rename_i hHeld
      try simp only [sx_]
      refine tp 19 rfl c_1 ?_
      try simp only [sx_]
      refine rl (i := 21) rfl fun K hK => ?_
      rw [if_pos (by rfl)]
      refine Go.Proofs.YtbkgakgdbmjmjaaGreat.wp_store_row 28 (.tmp 14) (.tmp 58) rfl (y0.heap.size) #[.int .i64 x0, .int .i64 x1, .int .i64 x2, .int .i64 x3, .int .i64 x4, .int .i64 x5] rfl rfl (hA4.there 6 rfl) tyI28 c_11 (fun Ws hWs => ?_)
      try simp only [sx_]
      exact T_FPL_2
    ·go_simp
     have hJ1 := hJ0.ext ((Ext.refl _).alloc (.cells #[.int .i64 0, .int .i64 0, .int .i64 0, .int .i64 0, .int .i64 0, .int .i64 0] 28))
     have hA1 : VB (V.drew.alloc (.cells #[.int .i64 0, .int .i64 0, .int .i64 0, .int .i64 0, .int .i64 0, .int .i64 0] 28)) V.heap.size [0, 0, 0, 0, 0, 0] := VB.lit V.drew [0, 0, 0, 0, 0, 0] 28
     have hPa : w.heap.size + 1 < V.heap.size := hVs
     refine hK.out _ _ ?_ fun _ => ?_
     ·(try dsimp only); exact hJ1.2.2
     clear hK K hHeld
     rename_i hHeld
     try simp only [sx_]
     refine rb (i := 4) rfl fun K hK => ?_
     go_simp
     (go_at_call 23; (with_reducible refine (hi0 _).mono ?_); rintro e y0 ⟨rfl, hy0⟩)
     have hJ2 := hJ1.ext hy0
     have hA2 := hA1.ext hy0
     refine hK.out _ _ ?_ fun _ => ?_
     ·(try dsimp only); exact hJ2.2.2
     clear hK K hHeld
     rename_i hHeld
     try simp only [sx_]
     refine rb (i := 11) rfl fun K hK => ?_
     go_simp
     (go_at_call 23; (with_reducible refine (hi1 _).mono ?_); rintro e y1 ⟨rfl, hy1⟩)
     have hJ3 := hJ2.ext hy1
     have hA3 := hA2.ext hy1
     refine hK.out _ _ ?_ fun _ => ?_
     ·(try dsimp only); exact hJ3.2.2
     clear hK K hHeld
     rename_i hHeld
     try simp only [sx_]
     refine rb (i := 18) rfl fun K hK => ?_
     go_simp
     (go_at_call 23; (with_reducible refine (hi2 _).mono ?_); rintro e y2 ⟨rfl, hy2⟩)
     have hJ4 := hJ3.ext hy2
     have hA4 := hA3.ext hy2
     refine hK.out _ _ ?_ fun _ => ?_
     ·(try dsimp only); exact hJ4.2.2
     clear hK K hHeld
     rename_i hHeld
     try simp only [sx_]
     refine tp 19 rfl c_1 ?_
     try simp only [sx_]
     refine rl (i := 21) rfl fun K hK => ?_
     rw [if_pos (by rfl)]
     refine Go.Proofs.YtbkgakgdbmjmjaaGreat.wp_store_row 28 (.tmp 14) (.tmp 58) rfl (V.heap.size) #[.int .i64 x0, .int .i64 x1, .int .i64 x2, .int .i64 x3, .int .i64 x4, .int .i64 x5] rfl rfl (hA4.there 6 rfl) tyI28 c_11 (fun Ws hWs => ?_)
     try simp only [sx_]
     exact T_FPL_2
   obtain ⟨Q, rfl, hwQ, hIc, hQ⟩ := hcut
   clear hi0 hi1 hi2 hI0
   have hXw := hIc.1
   have hA1 := fun w1 (k1 : Ext wc w1) => p_Accel _ l E fr ti p w1 (hB.ext (hXw.trans k1)) hE hS hp
   have hA2 := fun w1 (k1 : Ext wc w1) => p_Accel _ l E fr ti ⟨x0, x1, x2, x3, x4, x5⟩ w1 (hB.ext (hXw.trans k1)) hE hS hxI
   have hS1 := fun w1 (k1 : Ext wc w1) => p_Shear _ l E fr ti p w1 (hB.ext (hXw.trans k1)) hE hS hp
   have hS2 := fun w1 (k1 : Ext wc w1) => p_Shear _ l E fr ti ⟨x0, x1, x2, x3, x4, x5⟩ w1 (hB.ext (hXw.trans k1)) hE hS hxI
   have hAP := acR_pt (fr := fr) (ti := ti) hE hpt
   have hSP := shR_pt (fr := fr) (ti := ti) hE hpt
   dsimp only at hA2 hS2
   generalize acR E l fr ti p = A at *
   generalize acR E l fr ti ⟨x0, x1, x2, x3, x4, x5⟩ = A' at *
   generalize shR E l fr ti p = S at *
   generalize shR E l fr ti ⟨x0, x1, x2, x3, x4, x5⟩ = S' at *
   obtain ⟨hce, p0c, p1c, p2c, p3c, p4c, p5c, pfc, plc⟩ := hIc.2
   have q0c : wc.cell? ⟨Q, 0, none⟩ = some (.int .i64 x0) := hQ.1 0 x0 rfl
   have q1c : wc.cell? ⟨Q, 1, none⟩ = some (.int .i64 x1) := hQ.1 1 x1 rfl
   have q2c : wc.cell? ⟨Q, 2, none⟩ = some (.int .i64 x2) := hQ.1 2 x2 rfl
   have q3c : wc.cell? ⟨Q, 3, none⟩ = some (.int .i64 x3) := hQ.1 3 x3 rfl
   have q4c : wc.cell? ⟨Q, 4, none⟩ = some (.int .i64 x4) := hQ.1 4 x4 rfl
   have q5c : wc.cell? ⟨Q, 5, none⟩ = some (.int .i64 x5) := hQ.1 5 x5 rfl
   go_upto_region 6 with (go_at_call 14; (with_reducible refine (hA1 _ (Ext.refl _)).mono ?_); rintro e w5 ⟨rfl, hb⟩)
   refine wp_name fun U5 hN => ?_
   obtain ⟨B0, hB0⟩ : ∃ B, w5.heap.size = B := ⟨_, rfl⟩
   have eN : Ext wc U5 := Ext.same hN (hb.alloc _)
   have b0 : V6 U5 B0 A.v := by have e : U5 = _ := hN; rw [e, ← hB0]; exact V6.lit _ _ _ _ _ _ _ 28
   try rw [hB0]
   clear hN hb hB0
   have e5 : Ext wc U5 := eN
   have i5 := hIc.ext eN
   have j5 := hQ.ext eN
   clear hce p0c p1c p2c p3c p4c p5c pfc plc q0c q1c q2c q3c q4c q5c
   clear eN
   obtain ⟨hce, p0c, p1c, p2c, p3c, p4c, p5c, pfc, plc⟩ := i5.2
   have q0c : U5.cell? ⟨Q, 0, none⟩ = some (.int .i64 x0) := j5.1 0 x0 rfl
   have q1c : U5.cell? ⟨Q, 1, none⟩ = some (.int .i64 x1) := j5.1 1 x1 rfl
   have q2c : U5.cell? ⟨Q, 2, none⟩ = some (.int .i64 x2) := j5.1 2 x2 rfl
   have q3c : U5.cell? ⟨Q, 3, none⟩ = some (.int .i64 x3) := j5.1 3 x3 rfl
   have q4c : U5.cell? ⟨Q, 4, none⟩ = some (.int .i64 x4) := j5.1 4 x4 rfl
   have q5c : U5.cell? ⟨Q, 5, none⟩ = some (.int .i64 x5) := j5.1 5 x5 rfl
   go_upto_region 7 with (go_at_call 14; (with_reducible refine (hA2 _ e5).mono ?_); rintro e w6 ⟨rfl, hb⟩)
   refine wp_name fun U6 hN => ?_
   obtain ⟨B1, hB1⟩ : ∃ B, w6.heap.size = B := ⟨_, rfl⟩
   have eN : Ext U5 U6 := Ext.same hN (hb.alloc _)
   have b1 : V6 U6 B1 A'.v := by have e : U6 = _ := hN; rw [e, ← hB1]; exact V6.lit _ _ _ _ _ _ _ 28
   try rw [hB1]
   clear hN hb hB1
   replace b0 := b0.ext eN
   have e6 : Ext wc U6 := e5.trans eN
   have i6 := i5.ext eN
   have j6 := j5.ext eN
   clear hce p0c p1c p2c p3c p4c p5c pfc plc q0c q1c q2c q3c q4c q5c
   clear eN
   obtain ⟨hce, p0c, p1c, p2c, p3c, p4c, p5c, pfc, plc⟩ := i6.2
   have q0c : U6.cell? ⟨Q, 0, none⟩ = some (.int .i64 x0) := j6.1 0 x0 rfl
   have q1c : U6.cell? ⟨Q, 1, none⟩ = some (.int .i64 x1) := j6.1 1 x1 rfl
   have q2c : U6.cell? ⟨Q, 2, none⟩ = some (.int .i64 x2) := j6.1 2 x2 rfl
   have q3c : U6.cell? ⟨Q, 3, none⟩ = some (.int .i64 x3) := j6.1 3 x3 rfl
   have q4c : U6.cell? ⟨Q, 4, none⟩ = some (.int .i64 x4) := j6.1 4 x4 rfl
   have q5c : U6.cell? ⟨Q, 5, none⟩ = some (.int .i64 x5) := j6.1 5 x5 rfl
   have hst := fun w => store35 w S.m
   go_upto_region 8 with (go_at_call 16; (with_reducible refine (hS1 _ e6).mono ?_); rintro e w7 ⟨rfl, hb⟩)
   refine wp_name fun U7 hN => ?_
   have eN : Ext U6 U7 := Ext.same hN (hb.alloc _)
   have b2 : VB U7 w7.heap.size (mL S.m) := by have e : U7 = _ := hN; rw [e]; exact VB.lit w7 (mL S.m) 35
   obtain ⟨B2, hB2⟩ : ∃ B, w7.heap.size = B := ⟨_, rfl⟩
   rw [hB2] at b2
   try rw [hB2]
   clear hN hb hst hB2
   replace b0 := b0.ext eN
   replace b1 := b1.ext eN
   have e7 : Ext wc U7 := e6.trans eN
   have i7 := i6.ext eN
   have j7 := j6.ext eN
   clear hce p0c p1c p2c p3c p4c p5c pfc plc q0c q1c q2c q3c q4c q5c
   clear eN
   obtain ⟨hce, p0c, p1c, p2c, p3c, p4c, p5c, pfc, plc⟩ := i7.2
   have q0c : U7.cell? ⟨Q, 0, none⟩ = some (.int .i64 x0) := j7.1 0 x0 rfl
   have q1c : U7.cell? ⟨Q, 1, none⟩ = some (.int .i64 x1) := j7.1 1 x1 rfl
   have q2c : U7.cell? ⟨Q, 2, none⟩ = some (.int .i64 x2) := j7.1 2 x2 rfl
   have q3c : U7.cell? ⟨Q, 3, none⟩ = some (.int .i64 x3) := j7.1 3 x3 rfl
   have q4c : U7.cell? ⟨Q, 4, none⟩ = some (.int .i64 x4) := j7.1 4 x4 rfl
   have q5c : U7.cell? ⟨Q, 5, none⟩ = some (.int .i64 x5) := j7.1 5 x5 rfl
   have hst := fun w => store35 w S'.m
   go_upto_region 9 with (go_at_call 16; (with_reducible refine (hS2 _ e7).mono ?_); rintro e w8 ⟨rfl, hb⟩)
   refine wp_name fun U8 hN => ?_
   have eN : Ext U7 U8 := Ext.same hN (hb.alloc _)
   have b3 : VB U8 w8.heap.size (mL S'.m) := by have e : U8 = _ := hN; rw [e]; exact VB.lit w8 (mL S'.m) 35
   obtain ⟨B3, hB3⟩ : ∃ B, w8.heap.size = B := ⟨_, rfl⟩
   rw [hB3] at b3
   try rw [hB3]
   clear hN hb hst hB3
   replace b0 := b0.ext eN
   replace b1 := b1.ext eN
   replace b2 := b2.ext eN
   have e8 : Ext wc U8 := e7.trans eN
   have i8 := i7.ext eN
   have j8 := j7.ext eN
   clear hce p0c p1c p2c p3c p4c p5c pfc plc q0c q1c q2c q3c q4c q5c
   clear eN
   go_upto_if 92 with fail
   go_cut [16, 18, 23] from 59 to 106 (fun s16 s18 sx wx => Ext U8 wx)
   case first =>
    by_cases hA0 : A.e = 0
    ·obtain ⟨hA3, hv0, hv1, hv2⟩ := hAP hA0
     have hw0 := fun w1 => g_within A'.v.a A'.v.b A.v.a A.v.b w1
     have hw1 := fun w1 => g_within A'.v.c A'.v.d A.v.c A.v.d w1
     have hw2 := fun w1 => g_within A'.v.e A'.v.f A.v.e A.v.f w1
     rw [pt_in1 hv0] at hw0
     rw [pt_in1 hv1] at hw1
     rw [pt_in1 hv2] at hw2
     go_wp2_with fail
     refine wp_loop_rounds 4 ?_
     rw [rounds_succ]
     have c0 := b0
     have c1 := b1
     have f0 : Ext U8 U8 := Ext.refl _
     go_upto_region 15 with fail
     have d0 := c0.ext ((Ext.refl U8).drew)
     have d1 := c1.ext ((Ext.refl U8).drew)
     refine wp_region_till (S := (fun w0 => V6 w0 B1 A'.v ∧ V6 w0 B0 A.v)) (fun _ => false) c_11 ?_ (fun hHeld => ?_)
     ·exact ⟨d1, d0⟩
     try simp only [sx_]
     refine tp 0 rfl c_1 ?_
     try simp only [sx_]
     refine tp 1 rfl c_1 ?_
     try simp only [sx_]
     refine tb 2 rfl c_27 ?_
     try simp only [sx_]
     refine tp 3 rfl c_1 ?_
     try simp only [sx_]
     refine tp 4 rfl c_1 ?_
     try simp only [sx_]
     refine tb 5 rfl c_27 ?_
     try simp only [sx_]
     refine rb (i := 6) rfl fun K hK => ?_
     go_simp
     (go_at_call 24; (with_reducible refine (hw0 _).mono ?_); rintro e z ⟨rfl, hz⟩)
     replace d0 := d0.ext hz
     replace d1 := d1.ext hz
     refine hK.out _ _ ?_ fun _ => ?_
     ·(try dsimp only); exact ⟨d1, d0⟩
     clear hK K hHeld
     rename_i hHeld
     try simp only [sx_]
     refine tp 7 rfl c_1 ?_
     try simp only [sx_]
     refine wpAnyB_done c_11 ?_ _
     go_wp2_with fail
     refine wp_name fun X1 hX => ?_
     have eX : Ext z X1 := Ext.same hX (Ext.refl _)
     have f1 : Ext U8 X1 := ((f0.drew).trans hz).trans eX
     replace c0 := d0.ext eX
     replace c1 := d1.ext eX
     clear hX hHeld d0 d1 eX hz
     go_upto_region 15 with fail
     have d0 := c0.ext ((Ext.refl X1).drew)
     have d1 := c1.ext ((Ext.refl X1).drew)
     refine wp_region_till (S := (fun w0 => V6 w0 B1 A'.v ∧ V6 w0 B0 A.v)) (fun _ => false) c_11 ?_ (fun hHeld => ?_)
     ·exact ⟨d1, d0⟩
     try simp only [sx_]
     refine tp 0 rfl c_1 ?_
     try simp only [sx_]
     refine tp 1 rfl c_1 ?_
     try simp only [sx_]
     refine tb 2 rfl c_27 ?_
     try simp only [sx_]
     refine tp 3 rfl c_1 ?_
     try simp only [sx_]
     refine tp 4 rfl c_1 ?_
     try simp only [sx_]
     refine tb 5 rfl c_27 ?_
     try simp only [sx_]
     refine rb (i := 6) rfl fun K hK => ?_
     go_simp
     (go_at_call 24; (with_reducible refine (hw1 _).mono ?_); rintro e z ⟨rfl, hz⟩)
     replace d0 := d0.ext hz
     replace d1 := d1.ext hz
     refine hK.out _ _ ?_ fun _ => ?_
     ·(try dsimp only); exact ⟨d1, d0⟩
     clear hK K hHeld
     rename_i hHeld
     try simp only [sx_]
     refine tp 7 rfl c_1 ?_
     try simp only [sx_]
     refine wpAnyB_done c_11 ?_ _
     go_wp2_with fail
     refine wp_name fun X2 hX => ?_
     have eX : Ext z X2 := Ext.same hX (Ext.refl _)
     have f2 : Ext U8 X2 := ((f1.drew).trans hz).trans eX
     replace c0 := d0.ext eX
     replace c1 := d1.ext eX
     clear hX hHeld d0 d1 eX hz
     go_upto_region 15 with fail
     have d0 := c0.ext ((Ext.refl X2).drew)
     have d1 := c1.ext ((Ext.refl X2).drew)
     refine wp_region_till (S := (fun w0 => V6 w0 B1 A'.v ∧ V6 w0 B0 A.v)) (fun _ => false) c_11 ?_ (fun hHeld => ?_)
     ·exact ⟨d1, d0⟩
     try simp only [sx_]
     refine tp 0 rfl c_1 ?_
     try simp only [sx_]
     refine tp 1 rfl c_1 ?_
     try simp only [sx_]
     refine tb 2 rfl c_27 ?_
     try simp only [sx_]
     refine tp 3 rfl c_1 ?_
     try simp only [sx_]
     refine tp 4 rfl c_1 ?_
     try simp only [sx_]
     refine tb 5 rfl c_27 ?_
     try simp only [sx_]
     refine rb (i := 6) rfl fun K hK => ?_
     go_simp
     (go_at_call 24; (with_reducible refine (hw2 _).mono ?_); rintro e z ⟨rfl, hz⟩)
     replace d0 := d0.ext hz
     replace d1 := d1.ext hz
     refine hK.out _ _ ?_ fun _ => ?_
     ·(try dsimp only); exact ⟨d1, d0⟩
     clear hK K hHeld
     rename_i hHeld
     try simp only [sx_]
     refine tp 7 rfl c_1 ?_
     try simp only [sx_]
     refine wpAnyB_done c_11 ?_ _
     go_wp2_with fail
     refine wp_name fun X3 hX => ?_
     have eX : Ext z X3 := Ext.same hX (Ext.refl _)
     have f3 : Ext U8 X3 := ((f2.drew).trans hz).trans eX
     replace c0 := d0.ext eX
     replace c1 := d1.ext eX
     clear hX hHeld d0 d1 eX hz
     go_wp2_with fail
     go_meet
     exact f3
    ·go_wp2_with fail
     go_meet
     exact Ext.refl _
   have eV9 : Ext w wc := hXw.trans (e8.trans hcut)
   replace b2 := b2.ext hcut
   replace b3 := b3.ext hcut
   clear b0 b1
   by_cases hS0 : S.e = 0
   ·obtain ⟨hS3, hm0, hm1, hm2⟩ := hSP hS0
    have hw00 := fun w1 => g_within S'.m.r0.a S'.m.r0.b S.m.r0.a S.m.r0.b w1
    rw [pt_in1 hm0.1] at hw00
    have hw01 := fun w1 => g_within S'.m.r0.c S'.m.r0.d S.m.r0.c S.m.r0.d w1
    rw [pt_in1 hm0.2.1] at hw01
    have hw02 := fun w1 => g_within S'.m.r0.e S'.m.r0.f S.m.r0.e S.m.r0.f w1
    rw [pt_in1 hm0.2.2] at hw02
    have hw10 := fun w1 => g_within S'.m.r1.a S'.m.r1.b S.m.r1.a S.m.r1.b w1
    rw [pt_in1 hm1.1] at hw10
    have hw11 := fun w1 => g_within S'.m.r1.c S'.m.r1.d S.m.r1.c S.m.r1.d w1
    rw [pt_in1 hm1.2.1] at hw11
    have hw12 := fun w1 => g_within S'.m.r1.e S'.m.r1.f S.m.r1.e S.m.r1.f w1
    rw [pt_in1 hm1.2.2] at hw12
    have hw20 := fun w1 => g_within S'.m.r2.a S'.m.r2.b S.m.r2.a S.m.r2.b w1
    rw [pt_in1 hm2.1] at hw20
    have hw21 := fun w1 => g_within S'.m.r2.c S'.m.r2.d S.m.r2.c S.m.r2.d w1
    rw [pt_in1 hm2.2.1] at hw21
    have hw22 := fun w1 => g_within S'.m.r2.e S'.m.r2.f S.m.r2.e S.m.r2.f w1
    rw [pt_in1 hm2.2.2] at hw22
    go_wp2_with fail
    try simp only [hS0, hS3]
    clear hS0 hS3
    refine wp_loop_rounds 4 ?_
    rw [rounds_succ]
    have c2 := b2
    have c3 := b3
    have f := eV9
    clear b2 b3 hcut eV9
    go_wp2_with fail
    refine wp_loop_rounds 4 ?_
    rw [rounds_succ]
    go_upto_region 26 with fail
    have hw := hw00
    have gA := fun w0 (h : VB w0 B3 (mL S'.m)) => h.1 0 _ rfl
    have gB := fun w0 (h : VB w0 B3 (mL S'.m)) => h.1 1 _ rfl
    have hA := fun w0 (h : VB w0 B2 (mL S.m)) => h.1 0 _ rfl
    have hB2 := fun w0 (h : VB w0 B2 (mL S.m)) => h.1 1 _ rfl
    go_cut [130] from 119 to 129 (fun sx wx => sx = .bool false ∧ Ext w wx ∧ VB wx B2 (mL S.m) ∧ VB wx B3 (mL S'.m))
    case first =>
     exact T_FPL_1
    obtain ⟨rfl, fn, cn2, cn3⟩ := hcut
    clear f c2 c3 hw gA gB hA hB2
    have f := fn
    have c2 := cn2
    have c3 := cn3
    clear fn cn2 cn3
    go_wp2_with fail
    rw [rounds_succ]
    go_upto_region 26 with fail
    have hw := hw01
    have gA := fun w0 (h : VB w0 B3 (mL S'.m)) => h.1 2 _ rfl
    have gB := fun w0 (h : VB w0 B3 (mL S'.m)) => h.1 3 _ rfl
    have hA := fun w0 (h : VB w0 B2 (mL S.m)) => h.1 2 _ rfl
    have hB2 := fun w0 (h : VB w0 B2 (mL S.m)) => h.1 3 _ rfl
    go_cut [130] from 119 to 129 (fun sx wx => sx = .bool false ∧ Ext w wx ∧ VB wx B2 (mL S.m) ∧ VB wx B3 (mL S'.m))
    case first =>
     exact T_FPL_1
    obtain ⟨rfl, fn, cn2, cn3⟩ := hcut
    clear f c2 c3 hw gA gB hA hB2
    have f := fn
    have c2 := cn2
    have c3 := cn3
    clear fn cn2 cn3
    go_wp2_with fail
    rw [rounds_succ]
    go_upto_region 26 with fail
    have hw := hw02
    have gA := fun w0 (h : VB w0 B3 (mL S'.m)) => h.1 4 _ rfl
    have gB := fun w0 (h : VB w0 B3 (mL S'.m)) => h.1 5 _ rfl
    have hA := fun w0 (h : VB w0 B2 (mL S.m)) => h.1 4 _ rfl
    have hB2 := fun w0 (h : VB w0 B2 (mL S.m)) => h.1 5 _ rfl
    go_cut [130] from 119 to 129 (fun sx wx => sx = .bool false ∧ Ext w wx ∧ VB wx B2 (mL S.m) ∧ VB wx B3 (mL S'.m))
    case first =>
     exact T_FPL_1
    obtain ⟨rfl, fn, cn2, cn3⟩ := hcut
    clear f c2 c3 hw gA gB hA hB2
    have f := fn
    have c2 := cn2
    have c3 := cn3
    clear fn cn2 cn3
    go_wp2_with fail
    rw [rounds_succ]
    go_wp2_with fail
    rw [rounds_succ]
    go_wp2_with fail
    refine wp_loop_rounds 4 ?_
    rw [rounds_succ]
    go_upto_region 26 with fail
    have hw := hw10
    have gA := fun w0 (h : VB w0 B3 (mL S'.m)) => h.1 6 _ rfl
    have gB := fun w0 (h : VB w0 B3 (mL S'.m)) => h.1 7 _ rfl
    have hA := fun w0 (h : VB w0 B2 (mL S.m)) => h.1 6 _ rfl
    have hB2 := fun w0 (h : VB w0 B2 (mL S.m)) => h.1 7 _ rfl
    go_cut [130] from 119 to 129 (fun sx wx => sx = .bool false ∧ Ext w wx ∧ VB wx B2 (mL S.m) ∧ VB wx B3 (mL S'.m))
    case first =>
     exact T_FPL_1
    obtain ⟨rfl, fn, cn2, cn3⟩ := hcut
    clear f c2 c3 hw gA gB hA hB2
    have f := fn
    have c2 := cn2
    have c3 := cn3
    clear fn cn2 cn3
    go_wp2_with fail
    rw [rounds_succ]
    go_upto_region 26 with fail
    have hw := hw11
    have gA := fun w0 (h : VB w0 B3 (mL S'.m)) => h.1 8 _ rfl
    have gB := fun w0 (h : VB w0 B3 (mL S'.m)) => h.1 9 _ rfl
    have hA := fun w0 (h : VB w0 B2 (mL S.m)) => h.1 8 _ rfl
    have hB2 := fun w0 (h : VB w0 B2 (mL S.m)) => h.1 9 _ rfl
    go_cut [130] from 119 to 129 (fun sx wx => sx = .bool false ∧ Ext w wx ∧ VB wx B2 (mL S.m) ∧ VB wx B3 (mL S'.m))
    case first =>
     exact T_FPL_1
    obtain ⟨rfl, fn, cn2, cn3⟩ := hcut
    clear f c2 c3 hw gA gB hA hB2
    have f := fn
    have c2 := cn2
    have c3 := cn3
    clear fn cn2 cn3
    go_wp2_with fail
    rw [rounds_succ]
    go_upto_region 26 with fail
    have hw := hw12
    have gA := fun w0 (h : VB w0 B3 (mL S'.m)) => h.1 10 _ rfl
    have gB := fun w0 (h : VB w0 B3 (mL S'.m)) => h.1 11 _ rfl
    have hA := fun w0 (h : VB w0 B2 (mL S.m)) => h.1 10 _ rfl
    have hB2 := fun w0 (h : VB w0 B2 (mL S.m)) => h.1 11 _ rfl
    go_cut [130] from 119 to 129 (fun sx wx => sx = .bool false ∧ Ext w wx ∧ VB wx B2 (mL S.m) ∧ VB wx B3 (mL S'.m))
    case first =>
     exact T_FPL_1
    obtain ⟨rfl, fn, cn2, cn3⟩ := hcut
    clear f c2 c3 hw gA gB hA hB2
    have f := fn
    have c2 := cn2
    have c3 := cn3
    clear fn cn2 cn3
    go_wp2_with fail
    rw [rounds_succ]
    go_wp2_with fail
    rw [rounds_succ]
    go_wp2_with fail
    refine wp_loop_rounds 4 ?_
    rw [rounds_succ]
    go_upto_region 26 with fail
    have hw := hw20
    have gA := fun w0 (h : VB w0 B3 (mL S'.m)) => h.1 12 _ rfl
    have gB := fun w0 (h : VB w0 B3 (mL S'.m)) => h.1 13 _ rfl
    have hA := fun w0 (h : VB w0 B2 (mL S.m)) => h.1 12 _ rfl
    have hB2 := fun w0 (h : VB w0 B2 (mL S.m)) => h.1 13 _ rfl
    go_cut [130] from 119 to 129 (fun sx wx => sx = .bool false ∧ Ext w wx ∧ VB wx B2 (mL S.m) ∧ VB wx B3 (mL S'.m))
    case first =>
     exact T_FPL_1
    obtain ⟨rfl, fn, cn2, cn3⟩ := hcut
    clear f c2 c3 hw gA gB hA hB2
    have f := fn
    have c2 := cn2
    have c3 := cn3
    clear fn cn2 cn3
    go_wp2_with fail
    rw [rounds_succ]
    go_upto_region 26 with fail
    have hw := hw21
    have gA := fun w0 (h : VB w0 B3 (mL S'.m)) => h.1 14 _ rfl
    have gB := fun w0 (h : VB w0 B3 (mL S'.m)) => h.1 15 _ rfl
    have hA := fun w0 (h : VB w0 B2 (mL S.m)) => h.1 14 _ rfl
    have hB2 := fun w0 (h : VB w0 B2 (mL S.m)) => h.1 15 _ rfl
    go_cut [130] from 119 to 129 (fun sx wx => sx = .bool false ∧ Ext w wx ∧ VB wx B2 (mL S.m) ∧ VB wx B3 (mL S'.m))
    case first =>
     exact T_FPL_1
    obtain ⟨rfl, fn, cn2, cn3⟩ := hcut
    clear f c2 c3 hw gA gB hA hB2
    have f := fn
    have c2 := cn2
    have c3 := cn3
    clear fn cn2 cn3
    go_wp2_with fail
    rw [rounds_succ]
    go_upto_region 26 with fail
    have hw := hw22
    have gA := fun w0 (h : VB w0 B3 (mL S'.m)) => h.1 16 _ rfl
    have gB := fun w0 (h : VB w0 B3 (mL S'.m)) => h.1 17 _ rfl
    have hA := fun w0 (h : VB w0 B2 (mL S.m)) => h.1 16 _ rfl
    have hB2 := fun w0 (h : VB w0 B2 (mL S.m)) => h.1 17 _ rfl
    go_cut [130] from 119 to 129 (fun sx wx => sx = .bool false ∧ Ext w wx ∧ VB wx B2 (mL S.m) ∧ VB wx B3 (mL S'.m))
    case first =>
     exact T_FPL_1
    obtain ⟨rfl, fn, cn2, cn3⟩ := hcut
    clear f c2 c3 hw gA gB hA hB2
    have f := fn
    have c2 := cn2
    have c3 := cn3
    clear fn cn2 cn3
    go_wp2_with fail
    rw [rounds_succ]
    go_wp2_with fail
    rw [rounds_succ]
    go_wp2_with fail
    refine bodyPost_ret (v := .bool true) ?_ rfl ⟨rfl, f⟩
    simp [results, Tryz.results5, go_sem, ↓IntWalk.iteOmega]
   ·go_wp2_with fail
    refine bodyPost_ret (v := .bool true) ?_ rfl ⟨rfl, eV9⟩
    simp [results, Tryz.results5, go_sem, ↓IntWalk.iteOmega]
 ·go_enter Tryz.func5, Tryz.ntmps5
  go_wp2_with (first
   | (go_at_call 21; (with_reducible refine (hal _).mono ?_); rintro e w1 ⟨rfl, hb1⟩; obtain ⟨_, _, ⟨hc1, hf1⟩, hz1⟩ := hb1.c3; (try simp only [wsz] at hz1 hc1 hf1))
   | (go_at_call 13; (with_reducible refine (hgr _ ex_).mono ?_); rintro e w2 ⟨bb, rfl, hb2, hG⟩; obtain ⟨_, _, ⟨hc2, hf2⟩, hz2⟩ := hb2.c3; (try simp only [wsz] at hz2 hc2 hf2))
   | (go_at_call 22; (with_reducible refine (hck _).mono ?_); rintro e w3 ⟨rfl, hb3⟩; obtain ⟨_, _, ⟨hc3, hf3⟩, hz3⟩ := hb3.c3; (try simp only [wsz] at hz3 hc3 hf3)))
  all_goals
   refine bodyPost_ret (v := .bool true) ?_ rfl ⟨rfl, ?_⟩
   ·(try simp only [bn_, bm_] at *)
    simp [results, Tryz.results5, go_sem, ↓IntWalk.iteOmega, *]
   ·exact b_6
end Go.Proofs.YtbkgakgdbmjmjaaGreat
