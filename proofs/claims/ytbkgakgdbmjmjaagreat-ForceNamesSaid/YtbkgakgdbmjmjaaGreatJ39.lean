/- law34.ForceNames: the walk. -/
import Derived.Test.YtbkgakgdbmjmjaaGreatJ38
set_option linter.unusedSimpArgs false
set_option linter.unusedVariables false
set_option maxRecDepth 100000
set_option maxHeartbeats 8000000
namespace Go.Proofs.YtbkgakgdbmjmjaaGreat
open Go.RowKit
theorem T_FNW_2 {p : Prop} (h : p := by
 refine hK.out _ _ trivial (fun _ => ?_)
 clear hK K
 try simp only [sx_]
 refine rh1 9 rfl fun K hK => ?_
 go_simp
 refine hK.out _ _ trivial (fun _ => ?_)
 clear hK K
 try simp only [sx_]
 refine wpAnyH_done c_11 ?_ _
 go_wp2_with fail
 go_meet
 exact ⟨rfl, hWs.ext hJ3 hPa⟩) : p := h
theorem T_FNW_1 {p : Prop} (h : p := by
 refine hK.out _ _ trivial (fun _ => ?_)
 clear hK K
 try simp only [sx_]
 refine rh1 9 rfl fun K hK => ?_
 go_simp
 refine hK.out _ _ trivial (fun _ => ?_)
 clear hK K
 try simp only [sx_]
 refine wpAnyH_done c_11 ?_ _
 go_wp2_with fail
 go_meet
 exact ⟨rfl, hJ3.row hPa hWs⟩) : p := h
theorem law_names (w : World) (ms mu : M3)
    (hal : ∀ w1, Calls Tryz.prog 21 #[] w1 fun e w' => e = .returned (.bool true) ∧ Ext w1 w')
    (h1 : ∀ w1, Calls Tryz.prog 19 #[.agg #[.int .i64 1, .int .i64 1], .agg #[.int .i64 0, .int .i64 0, .int .i64 0, .int .i64 0, .int .i64 0, .int .i64 0]] w1 fun e w' => e = .returned (.tuple #[.agg #[.int .i64 0, .int .i64 0, .int .i64 0, .int .i64 0, .int .i64 0, .int .i64 0], .int .i64 24]) ∧ Ext w1 w')
    (h2 : ∀ w1, Calls Tryz.prog 19 #[.agg #[.int .i64 1, .int .i64 0], .agg #[.int .i64 1099511627776, .int .i64 1099511627776, .int .i64 0, .int .i64 0, .int .i64 0, .int .i64 0]] w1 fun e w' => e = .returned (.tuple #[.agg #[.int .i64 0, .int .i64 0, .int .i64 0, .int .i64 0, .int .i64 0, .int .i64 0], .int .i64 8]) ∧ Ext w1 w')
    (h3 : ∀ w1, Calls Tryz.prog 20 #[.agg #[.int .i64 1, .int .i64 1], .agg #[.int .i64 1, .int .i64 0, .int .i64 0, .int .i64 0, .int .i64 0, .int .i64 0]] w1 fun e w' => e = .returned (.tuple #[.agg (mvs mu), .int .i64 8]) ∧ Ext w1 w')
    (h4 : ∀ w1, Calls Tryz.prog 14 #[.agg #[.slice none 0 0], .int .i64 1, .int .i64 0, .agg #[.int .i64 1099511627776, .int .i64 1099511627776, .int .i64 0, .int .i64 0, .int .i64 0, .int .i64 0]] w1 fun e w' => e = .returned (.tuple #[.agg #[.int .i64 0, .int .i64 0, .int .i64 0, .int .i64 0, .int .i64 0, .int .i64 0], .int .i64 2]) ∧ Ext w1 w')
    (h5 : ∀ v w1, Bds w1 v [body0] → Calls Tryz.prog 14 #[.agg #[v], .int .i64 0, .int .i64 0, .agg #[.int .i64 1099511627776, .int .i64 1099511627776, .int .i64 0, .int .i64 0, .int .i64 0, .int .i64 0]] w1 fun e w' => e = .returned (.tuple #[.agg #[.int .i64 0, .int .i64 0, .int .i64 0, .int .i64 0, .int .i64 0, .int .i64 0], .int .i64 8]) ∧ Ext w1 w')
    (h6 : ∀ v w1, Bds w1 v (fnB 1) → Calls Tryz.prog 14 #[.agg #[v], .int .i64 0, .int .i64 2, .agg #[.int .i64 1099511627776, .int .i64 1099511627776, .int .i64 0, .int .i64 0, .int .i64 0, .int .i64 0]] w1 fun e w' => e = .returned (.tuple #[.agg #[.int .i64 0, .int .i64 0, .int .i64 0, .int .i64 0, .int .i64 0, .int .i64 0], .int .i64 16]) ∧ Ext w1 w')
    (h7 : ∀ v w1, Bds w1 v (fnB 1) → Calls Tryz.prog 16 #[.agg #[v], .int .i64 0, .int .i64 1, .agg #[.int .i64 5497558138880, .int .i64 5497558138880, .int .i64 0, .int .i64 0, .int .i64 0, .int .i64 0]] w1 fun e w' => e = .returned (.tuple #[.agg (mvs ms), .int .i64 24]) ∧ Ext w1 w')
    (h8 : ∀ v w1, Bds w1 v (fnB 0) → Calls Tryz.prog 14 #[.agg #[v], .int .i64 0, .int .i64 2, .agg #[.int .i64 1099511627776, .int .i64 1099511627776, .int .i64 0, .int .i64 0, .int .i64 0, .int .i64 0]] w1 fun e w' => e = .returned (.tuple #[.agg #[.int .i64 (-325358914), .int .i64 (-325358913), .int .i64 0, .int .i64 0, .int .i64 0, .int .i64 0], .int .i64 0]) ∧ Ext w1 w')
    (h9 : ∀ w1, Calls Tryz.prog 14 #[.agg #[.slice none 0 0], .int .i64 0, .int .i64 0, .agg #[.int .i64 1099511627776, .int .i64 1099511627776, .int .i64 0, .int .i64 0, .int .i64 0, .int .i64 0]] w1 fun e w' => e = .returned (.tuple #[.agg #[.int .i64 (-325358914), .int .i64 (-325358913), .int .i64 0, .int .i64 0, .int .i64 0, .int .i64 0], .int .i64 0]) ∧ Ext w1 w') :
    Calls Tryz.prog 4 #[] w fun e w' => e = .returned (.bool true) ∧ Ext w w' := by
 go_enter Tryz.func4, Tryz.ntmps4
 go_upto_region 2 with (go_at_call 18; (with_reducible refine (p_point 1099511627776 _).mono ?_); rintro e w1 ⟨rfl, hb⟩)
 refine wp_name fun U1 hN => ?_
 obtain ⟨B, hB⟩ : ∃ B, w1.heap.size = B := ⟨_, rfl⟩
 have i1 : NI w B U1 := ⟨Ext.same hN (hb.alloc _), by have := hb.size; omega, by have e : U1 = _ := hN; rw [e, ← hB]; exact N6.lit _ _ _ 28⟩
 try rw [hB]
 clear hN hb hB
 obtain ⟨c0, c1, c2, c3, c4, c5, cf, cl⟩ := i1.2.2
 go_upto_region 3 with (first
  | (go_at_call 18; (with_reducible refine (p_point 1 _).mono ?_); rintro e x2 ⟨rfl, hb⟩)
  | (go_at_call 19; (with_reducible refine (h1 _).mono ?_); rintro e w2 ⟨rfl, hx⟩))
 refine wp_name fun U2 hN => ?_
 obtain ⟨B2, hB⟩ : ∃ B, w2.heap.size = B := ⟨_, rfl⟩
 have eN : Ext U1 U2 := Ext.same hN ((hb.trans hx).alloc _)
 have i2 := i1.ext eN
 try rw [hB]
 clear c0 c1 c2 c3 c4 c5 cf cl
 clear hN hb hx hB eN i1
 obtain ⟨c0, c1, c2, c3, c4, c5, cf, cl⟩ := i2.2.2
 go_upto_region 4 with (go_at_call 19; (with_reducible refine (h2 _).mono ?_); rintro e w3 ⟨rfl, hx⟩)
 refine wp_name fun U3 hN => ?_
 obtain ⟨B3, hB⟩ : ∃ B, w3.heap.size = B := ⟨_, rfl⟩
 have eN : Ext U2 U3 := Ext.same hN (hx.alloc _)
 have i3 := i2.ext eN
 try rw [hB]
 clear c0 c1 c2 c3 c4 c5 cf cl
 clear hN hx hB eN i2
 obtain ⟨c0, c1, c2, c3, c4, c5, cf, cl⟩ := i3.2.2
 have hst := fun w => store35 w mu
 go_upto_region 5 with (first
  | (go_at_call 18; (with_reducible refine (p_point 1 _).mono ?_); rintro e x4 ⟨rfl, hb⟩)
  | (go_at_call 20; (with_reducible refine (h3 _).mono ?_); rintro e w4 ⟨rfl, hx⟩))
 refine wp_name fun U4 hN => ?_
 obtain ⟨B4, hB⟩ : ∃ B, w4.heap.size = B := ⟨_, rfl⟩
 have eN : Ext U3 U4 := Ext.same hN ((hb.trans hx).alloc _)
 have i4 := i3.ext eN
 try rw [hB]
 clear c0 c1 c2 c3 c4 c5 cf cl
 clear hN hb hx hB eN i3 hst
 obtain ⟨c0, c1, c2, c3, c4, c5, cf, cl⟩ := i4.2.2
 go_upto_region 6 with (go_at_call 14; (with_reducible refine (h4 _).mono ?_); rintro e w5 ⟨rfl, hx⟩)
 refine wp_name fun U5 hN => ?_
 obtain ⟨B5, hB⟩ : ∃ B, w5.heap.size = B := ⟨_, rfl⟩
 have eN : Ext U4 U5 := Ext.same hN (hx.alloc _)
 have i5 := i4.ext eN
 try rw [hB]
 clear c0 c1 c2 c3 c4 c5 cf cl
 clear hN hx hB eN i4
 go_cut [10, 11] from 49 to 55 (fun s10 s11 wx => s11 = .int .i64 8 ∧ NI w B wx)
 case first =>
  have hJ0 := i5.ext ((Ext.refl _).drew)
  refine wp_region_till (S := (fun w0 => N6 w0 B 1099511627776 1099511627776)) (fun i => decide (i = 8)) c_11 ?_ (fun hHeld => ?_)
  ·exact hJ0.2.2
  refine wpAnyB_nm fun V hV => ?_
  rw [hV] at hJ0 hHeld
  clear hV
  try simp only [sx_]
  refine tb 2 rfl c_35 ?_
  try simp only [sx_]
  refine wpAnyB_ready (rs := [0, 7]) c_11 (by simp) ?_
  refine AllReadyB.cons (o := _) rfl rfl (fun K hK => ?_) (AllReadyB.cons (o := _) rfl rfl (fun K hK => ?_) AllReadyB.nil)
  ·rw [if_pos (by rfl)]
   refine wp_make 22 _ _ rfl _ _ _ rfl rfl (fn_make _) ?_
   have hJ1 := hJ0.ext ((Ext.refl _).alloc (.cells #[.string ⟨#[]⟩, .int .i64 0, .int .i64 0, .slice none 0 0] 50))
   have hD1 : Bds (V.alloc (.cells #[.string ⟨#[]⟩, .int .i64 0, .int .i64 0, .slice none 0 0] 50)) (.slice (some ⟨V.heap.size, 0, none⟩) 1 1) [body0] := bds_one (d := body0) (vs := .slice none 0 0) (by simp [go_sem]; rfl) (by simp [go_sem]; rfl) (by simp [go_sem]; rfl) c_71 (by decide) (by unfold I64; decide) (by unfold I64; decide) (sgs_nil _) (by decide) (by decide)
   refine hK.out _ _ ?_ fun _ => ?_
   ·(try dsimp only); exact hJ1.2.2
   clear hK K hHeld
   rename_i hHeld
   try simp only [sx_]
   refine tp 1 rfl c_1 ?_
   try simp only [sx_]
   refine wpAnyB_ready (rs := [3, 7]) c_11 (by simp) ?_
   refine AllReadyB.cons (o := _) rfl rfl (fun K hK => ?_) (AllReadyB.cons (o := _) rfl rfl (fun K hK => ?_) AllReadyB.nil)
   ·have hDx := hD1
    (try simp only [size_drew, World.size_alloc] at hDx)
    go_simp
    (go_at_call 14; (with_reducible refine (h5 _ _ hDx).mono ?_); rintro e y ⟨rfl, hy⟩)
    clear hDx
    have hJ2 := hJ1.ext hy
    refine hK.out _ _ ?_ fun _ => ?_
    ·(try dsimp only); exact hJ2.2.2
    clear hK K hHeld
    rename_i hHeld
    try simp only [sx_]
    refine tp 4 rfl c_1 ?_
    try simp only [sx_]
    refine tp 5 rfl c_1 ?_
    try simp only [sx_]
    refine tp 6 rfl c_1 ?_
    try simp only [sx_]
    refine rb (i := 7) rfl fun K hK => ?_
    go_simp
    have hJ3 := hJ2.ext ((Ext.refl _).alloc (.cells #[.int .i64 0, .int .i64 0, .int .i64 0, .int .i64 0, .int .i64 0, .int .i64 0] 28))
    have hA3 : N6 (y.alloc (.cells #[.int .i64 0, .int .i64 0, .int .i64 0, .int .i64 0, .int .i64 0, .int .i64 0] 28)) y.heap.size 0 0 := N6.lit y 0 0 28
    have hPa : B < y.heap.size := hJ2.2.2.2.2.2.2.2.2.2
    (try simp only [World.size_alloc] at hA3 hPa)
    refine hK.out _ _ ?_ fun _ => ?_
    ·(try dsimp only); exact hJ3.2.2
    clear hK K hHeld
    rename_i hHeld
    try simp only [sx_]
    refine rl (i := 8) rfl fun K hK => ?_
    rw [if_pos (by rfl)]
    refine Go.Proofs.YtbkgakgdbmjmjaaGreat.wp_store_row 28 (.tmp 10) (.tmp 54) rfl (y.heap.size) #[.int .i64 0, .int .i64 0, .int .i64 0, .int .i64 0, .int .i64 0, .int .i64 0] rfl rfl hA3.there tyI28 c_11 (fun Ws hWs => ?_)
    try simp only [sx_]
    exact T_FNW_1
   ·go_simp
    have hJ2 := hJ1.ext ((Ext.refl _).alloc (.cells #[.int .i64 0, .int .i64 0, .int .i64 0, .int .i64 0, .int .i64 0, .int .i64 0] 28))
    have hA2 : N6 ((V.alloc (.cells #[.string ⟨#[]⟩, .int .i64 0, .int .i64 0, .slice none 0 0] 50)).alloc (.cells #[.int .i64 0, .int .i64 0, .int .i64 0, .int .i64 0, .int .i64 0, .int .i64 0] 28)) (V.alloc (.cells #[.string ⟨#[]⟩, .int .i64 0, .int .i64 0, .slice none 0 0] 50)).heap.size 0 0 := N6.lit (V.alloc (.cells #[.string ⟨#[]⟩, .int .i64 0, .int .i64 0, .slice none 0 0] 50)) 0 0 28
    have hPa : B < (V.alloc (.cells #[.string ⟨#[]⟩, .int .i64 0, .int .i64 0, .slice none 0 0] 50)).heap.size := hJ1.2.2.2.2.2.2.2.2.2
    (try simp only [World.size_alloc] at hA2 hPa)
    have hD2 := hD1.ext ((Ext.refl _).alloc (.cells #[.int .i64 0, .int .i64 0, .int .i64 0, .int .i64 0, .int .i64 0, .int .i64 0] 28))
    refine hK.out _ _ ?_ fun _ => ?_
    ·(try dsimp only); exact hJ2.2.2
    clear hK K hHeld
    rename_i hHeld
    try simp only [sx_]
    refine rb (i := 3) rfl fun K hK => ?_
    have hDx := hD2
    (try simp only [size_drew, World.size_alloc] at hDx)
    go_simp
    (go_at_call 14; (with_reducible refine (h5 _ _ hDx).mono ?_); rintro e y ⟨rfl, hy⟩)
    clear hDx
    have hJ3 := hJ2.ext hy
    have hA3 := hA2.ext hy
    refine hK.out _ _ ?_ fun _ => ?_
    ·(try dsimp only); exact hJ3.2.2
    clear hK K hHeld
    rename_i hHeld
    try simp only [sx_]
    refine tp 4 rfl c_1 ?_
    try simp only [sx_]
    refine tp 5 rfl c_1 ?_
    try simp only [sx_]
    refine tp 6 rfl c_1 ?_
    try simp only [sx_]
    refine rl (i := 8) rfl fun K hK => ?_
    rw [if_pos (by rfl)]
    refine Go.Proofs.YtbkgakgdbmjmjaaGreat.wp_store_row 28 (.tmp 10) (.tmp 54) rfl (V.heap.size + 1) #[.int .i64 0, .int .i64 0, .int .i64 0, .int .i64 0, .int .i64 0, .int .i64 0] rfl rfl hA3.there tyI28 c_11 (fun Ws hWs => ?_)
    try simp only [sx_]
    exact T_FNW_1
  ·go_simp
   have hJ1 := hJ0.ext ((Ext.refl _).alloc (.cells #[.int .i64 0, .int .i64 0, .int .i64 0, .int .i64 0, .int .i64 0, .int .i64 0] 28))
   have hA1 : N6 (V.alloc (.cells #[.int .i64 0, .int .i64 0, .int .i64 0, .int .i64 0, .int .i64 0, .int .i64 0] 28)) V.heap.size 0 0 := N6.lit V 0 0 28
   have hPa : B < V.heap.size := hJ0.2.2.2.2.2.2.2.2.2
   (try simp only [World.size_alloc] at hA1 hPa)
   refine hK.out _ _ ?_ fun _ => ?_
   ·(try dsimp only); exact hJ1.2.2
   clear hK K hHeld
   rename_i hHeld
   try simp only [sx_]
   refine rb (i := 0) rfl fun K hK => ?_
   rw [if_pos (by rfl)]
   refine wp_make 22 _ _ rfl _ _ _ rfl rfl (fn_make _) ?_
   have hJ2 := hJ1.ext ((Ext.refl _).alloc (.cells #[.string ⟨#[]⟩, .int .i64 0, .int .i64 0, .slice none 0 0] 50))
   have hD2 : Bds ((V.alloc (.cells #[.int .i64 0, .int .i64 0, .int .i64 0, .int .i64 0, .int .i64 0, .int .i64 0] 28)).alloc (.cells #[.string ⟨#[]⟩, .int .i64 0, .int .i64 0, .slice none 0 0] 50)) (.slice (some ⟨(V.alloc (.cells #[.int .i64 0, .int .i64 0, .int .i64 0, .int .i64 0, .int .i64 0, .int .i64 0] 28)).heap.size, 0, none⟩) 1 1) [body0] := bds_one (d := body0) (vs := .slice none 0 0) (by simp [go_sem]; rfl) (by simp [go_sem]; rfl) (by simp [go_sem]; rfl) c_71 (by decide) (by unfold I64; decide) (by unfold I64; decide) (sgs_nil _) (by decide) (by decide)
   have hA2 := hA1.ext ((Ext.refl _).alloc (.cells #[.string ⟨#[]⟩, .int .i64 0, .int .i64 0, .slice none 0 0] 50))
   refine hK.out _ _ ?_ fun _ => ?_
   ·(try dsimp only); exact hJ2.2.2
   clear hK K hHeld
   rename_i hHeld
   try simp only [sx_]
   refine tp 1 rfl c_1 ?_
   try simp only [sx_]
   refine rb (i := 3) rfl fun K hK => ?_
   have hDx := hD2
   (try simp only [size_drew, World.size_alloc] at hDx)
   go_simp
   (go_at_call 14; (with_reducible refine (h5 _ _ hDx).mono ?_); rintro e y ⟨rfl, hy⟩)
   clear hDx
   have hJ3 := hJ2.ext hy
   have hA3 := hA2.ext hy
   refine hK.out _ _ ?_ fun _ => ?_
   ·(try dsimp only); exact hJ3.2.2
   clear hK K hHeld
   rename_i hHeld
   try simp only [sx_]
   refine tp 4 rfl c_1 ?_
   try simp only [sx_]
   refine tp 5 rfl c_1 ?_
   try simp only [sx_]
   refine tp 6 rfl c_1 ?_
   try simp only [sx_]
   refine rl (i := 8) rfl fun K hK => ?_
   rw [if_pos (by rfl)]
   refine Go.Proofs.YtbkgakgdbmjmjaaGreat.wp_store_row 28 (.tmp 10) (.tmp 54) rfl (V.heap.size) #[.int .i64 0, .int .i64 0, .int .i64 0, .int .i64 0, .int .i64 0, .int .i64 0] rfl rfl hA3.there tyI28 c_11 (fun Ws hWs => ?_)
   try simp only [sx_]
   exact T_FNW_1
 obtain ⟨rfl, i6⟩ := hcut
 clear i5
 obtain ⟨U6, rfl⟩ : ∃ U, U = wc := ⟨_, rfl⟩
 obtain ⟨c0, c1, c2, c3, c4, c5, cf, cl⟩ := i6.2.2
 go_upto_region 7 with fail
 go_cut [12] from 56 to 64 (fun s12 wx => ∃ D b : Nat, s12 = .pointer (some ⟨D, 0, none⟩) ∧ NI w B wx ∧ wx.cell? ⟨D, 0, none⟩ = some (.slice (some ⟨b, 0, none⟩) 1 1) ∧ D < wx.heap.size ∧ Bds wx (.slice (some ⟨b, 0, none⟩) 1 1) (fnB 1))
 case first =>
  go_wp2_with fail
  go_meet
  exact ⟨_, _, rfl, i6.ext ex_, (fn_eph U6).2.1, (fn_eph U6).2.2, (fn_eph U6).1⟩
 clear c0 c1 c2 c3 c4 c5 cf cl
 obtain ⟨D, b, rfl, i7, d7, l7, b7⟩ := hcut
 clear i6
 obtain ⟨U7, rfl⟩ : ∃ U, U = wc := ⟨_, rfl⟩
 obtain ⟨c0, c1, c2, c3, c4, c5, cf, cl⟩ := i7.2.2
 go_upto_region 9 with (go_at_call 14; (with_reducible refine (h6 _ _ b7).mono ?_); rintro e w8 ⟨rfl, hx⟩)
 refine wp_name fun U8 hN => ?_
 obtain ⟨B8, hB⟩ : ∃ B, w8.heap.size = B := ⟨_, rfl⟩
 have eN : Ext U7 U8 := Ext.same hN (hx.alloc _)
 have i8 := i7.ext eN
 have d8 := (eN.cells.1 D 0 l7).trans d7
 have l8 : D < U8.heap.size := Nat.lt_of_lt_of_le l7 eN.size
 have b8 := b7.ext eN
 try rw [hB]
 clear c0 c1 c2 c3 c4 c5 cf cl
 clear hN hx hB eN i7 d7 l7 b7
 go_cut [15, 16] from 71 to 77 (fun s15 s16 wx => s16 = .int .i64 24 ∧ Ext U8 wx)
 case first =>
  have hJ0 : Ext U8 U8.drew := (Ext.refl _).drew
  refine wp_region_till (S := (fun w0 => w0.cell? ⟨D, 0, none⟩ = some (.slice (some ⟨b, 0, none⟩) 1 1))) (fun i => decide (i = 8)) c_11 ?_ (fun hHeld => ?_)
  ·exact (hJ0.cells.1 D 0 l8).trans d8
  refine wpAnyB_nm fun V hV => ?_
  rw [hV] at hJ0 hHeld
  clear hV
  try simp only [sx_]
  refine tb 0 rfl c_4 ?_
  try simp only [sx_]
  refine wpAnyB_ready (rs := [1, 7]) c_11 (by simp) ?_
  refine AllReadyB.cons (o := _) rfl rfl (fun K hK => ?_) (AllReadyB.cons (o := _) rfl rfl (fun K hK => ?_) AllReadyB.nil)
  ·go_simp
   (go_at_call 18; (with_reducible refine (p_point 5497558138880 _).mono ?_); rintro e y1 ⟨rfl, hy⟩)
   have hJ1 := hJ0.trans hy
   refine hK.out _ _ ?_ fun _ => ?_
   ·(try dsimp only); exact (hJ1.cells.1 D 0 l8).trans d8
   clear hK K hHeld
   rename_i hHeld
   try simp only [sx_]
   refine tp 2 rfl c_1 ?_
   try simp only [sx_]
   refine wpAnyB_ready (rs := [3, 7]) c_11 (by simp) ?_
   refine AllReadyB.cons (o := _) rfl rfl (fun K hK => ?_) (AllReadyB.cons (o := _) rfl rfl (fun K hK => ?_) AllReadyB.nil)
   ·have hDx := b8.ext hJ1
    go_simp
    (go_at_call 16; (with_reducible refine (h7 _ _ hDx).mono ?_); rintro e y3 ⟨rfl, hy⟩)
    have hJ2 := hJ1.trans hy
    refine hK.out _ _ ?_ fun _ => ?_
    ·(try dsimp only); exact (hJ2.cells.1 D 0 l8).trans d8
    clear hK K hHeld
    rename_i hHeld
    try simp only [sx_]
    refine tp 4 rfl c_1 ?_
    try simp only [sx_]
    refine tp 5 rfl c_1 ?_
    try simp only [sx_]
    refine tp 6 rfl c_1 ?_
    try simp only [sx_]
    refine rb (i := 7) rfl fun K hK => ?_
    go_simp
    have hJ3 := hJ2.trans ((Ext.refl _).alloc (.cells #[.int .i64 0, .int .i64 0, .int .i64 0, .int .i64 0, .int .i64 0, .int .i64 0, .int .i64 0, .int .i64 0, .int .i64 0, .int .i64 0, .int .i64 0, .int .i64 0, .int .i64 0, .int .i64 0, .int .i64 0, .int .i64 0, .int .i64 0, .int .i64 0] 35))
    have hA3 : ZB (y3.alloc (.cells #[.int .i64 0, .int .i64 0, .int .i64 0, .int .i64 0, .int .i64 0, .int .i64 0, .int .i64 0, .int .i64 0, .int .i64 0, .int .i64 0, .int .i64 0, .int .i64 0, .int .i64 0, .int .i64 0, .int .i64 0, .int .i64 0, .int .i64 0, .int .i64 0] 35)) y3.heap.size := ZB.lit y3
    have hPa : U8.heap.size ≤ y3.heap.size := hJ2.size
    refine hK.out _ _ ?_ fun _ => ?_
    ·(try dsimp only); exact (hJ3.cells.1 D 0 l8).trans d8
    clear hK K hHeld
    rename_i hHeld
    try simp only [sx_]
    refine rl (i := 8) rfl fun K hK => ?_
    rw [if_pos (by rfl)]
    refine Go.Proofs.YtbkgakgdbmjmjaaGreat.wp_store_row 35 (.tmp 15) (.tmp 76) rfl (y3.heap.size) (mvs ms) rfl rfl hA3.there tyI35 c_73 (fun Ws hWs => ?_)
    try simp only [sx_]
    exact T_FNW_2
   ·go_simp
    have hJ2 := hJ1.trans ((Ext.refl _).alloc (.cells #[.int .i64 0, .int .i64 0, .int .i64 0, .int .i64 0, .int .i64 0, .int .i64 0, .int .i64 0, .int .i64 0, .int .i64 0, .int .i64 0, .int .i64 0, .int .i64 0, .int .i64 0, .int .i64 0, .int .i64 0, .int .i64 0, .int .i64 0, .int .i64 0] 35))
    have hA2 : ZB (y1.alloc (.cells #[.int .i64 0, .int .i64 0, .int .i64 0, .int .i64 0, .int .i64 0, .int .i64 0, .int .i64 0, .int .i64 0, .int .i64 0, .int .i64 0, .int .i64 0, .int .i64 0, .int .i64 0, .int .i64 0, .int .i64 0, .int .i64 0, .int .i64 0, .int .i64 0] 35)) y1.heap.size := ZB.lit y1
    have hPa : U8.heap.size ≤ y1.heap.size := hJ1.size
    refine hK.out _ _ ?_ fun _ => ?_
    ·(try dsimp only); exact (hJ2.cells.1 D 0 l8).trans d8
    clear hK K hHeld
    rename_i hHeld
    try simp only [sx_]
    refine rb (i := 3) rfl fun K hK => ?_
    have hDx := b8.ext hJ2
    go_simp
    (go_at_call 16; (with_reducible refine (h7 _ _ hDx).mono ?_); rintro e y3 ⟨rfl, hy⟩)
    have hJ3 := hJ2.trans hy
    have hA3 := hA2.ext hy
    refine hK.out _ _ ?_ fun _ => ?_
    ·(try dsimp only); exact (hJ3.cells.1 D 0 l8).trans d8
    clear hK K hHeld
    rename_i hHeld
    try simp only [sx_]
    refine tp 4 rfl c_1 ?_
    try simp only [sx_]
    refine tp 5 rfl c_1 ?_
    try simp only [sx_]
    refine tp 6 rfl c_1 ?_
    try simp only [sx_]
    refine rl (i := 8) rfl fun K hK => ?_
    rw [if_pos (by rfl)]
    refine Go.Proofs.YtbkgakgdbmjmjaaGreat.wp_store_row 35 (.tmp 15) (.tmp 76) rfl (y1.heap.size) (mvs ms) rfl rfl hA3.there tyI35 c_73 (fun Ws hWs => ?_)
    try simp only [sx_]
    exact T_FNW_2
  ·go_simp
   have hJ1 := hJ0.trans ((Ext.refl _).alloc (.cells #[.int .i64 0, .int .i64 0, .int .i64 0, .int .i64 0, .int .i64 0, .int .i64 0, .int .i64 0, .int .i64 0, .int .i64 0, .int .i64 0, .int .i64 0, .int .i64 0, .int .i64 0, .int .i64 0, .int .i64 0, .int .i64 0, .int .i64 0, .int .i64 0] 35))
   have hA1 : ZB (V.alloc (.cells #[.int .i64 0, .int .i64 0, .int .i64 0, .int .i64 0, .int .i64 0, .int .i64 0, .int .i64 0, .int .i64 0, .int .i64 0, .int .i64 0, .int .i64 0, .int .i64 0, .int .i64 0, .int .i64 0, .int .i64 0, .int .i64 0, .int .i64 0, .int .i64 0] 35)) V.heap.size := ZB.lit V
   have hPa : U8.heap.size ≤ V.heap.size := hJ0.size
   refine hK.out _ _ ?_ fun _ => ?_
   ·(try dsimp only); exact (hJ1.cells.1 D 0 l8).trans d8
   clear hK K hHeld
   rename_i hHeld
   try simp only [sx_]
   refine rb (i := 1) rfl fun K hK => ?_
   go_simp
   (go_at_call 18; (with_reducible refine (p_point 5497558138880 _).mono ?_); rintro e y1 ⟨rfl, hy⟩)
   have hJ2 := hJ1.trans hy
   have hA2 := hA1.ext hy
   refine hK.out _ _ ?_ fun _ => ?_
   ·(try dsimp only); exact (hJ2.cells.1 D 0 l8).trans d8
   clear hK K hHeld
   rename_i hHeld
   try simp only [sx_]
   refine tp 2 rfl c_1 ?_
   try simp only [sx_]
   refine rb (i := 3) rfl fun K hK => ?_
   have hDx := b8.ext hJ2
   go_simp
   (go_at_call 16; (with_reducible refine (h7 _ _ hDx).mono ?_); rintro e y3 ⟨rfl, hy⟩)
   have hJ3 := hJ2.trans hy
   have hA3 := hA2.ext hy
   refine hK.out _ _ ?_ fun _ => ?_
   ·(try dsimp only); exact (hJ3.cells.1 D 0 l8).trans d8
   clear hK K hHeld
   rename_i hHeld
   try simp only [sx_]
   refine tp 4 rfl c_1 ?_
   try simp only [sx_]
   refine tp 5 rfl c_1 ?_
   try simp only [sx_]
   refine tp 6 rfl c_1 ?_
   try simp only [sx_]
   refine rl (i := 8) rfl fun K hK => ?_
   rw [if_pos (by rfl)]
   refine Go.Proofs.YtbkgakgdbmjmjaaGreat.wp_store_row 35 (.tmp 15) (.tmp 76) rfl (V.heap.size) (mvs ms) rfl rfl hA3.there tyI35 c_73 (fun Ws hWs => ?_)
   try simp only [sx_]
   exact T_FNW_2
 obtain ⟨rfl, eN⟩ := hcut
 obtain ⟨U9, rfl⟩ : ∃ U, U = wc := ⟨_, rfl⟩
 have i9 := i8.ext eN
 have d9 := (eN.cells.1 D 0 l8).trans d8
 have l9 : D < U9.heap.size := Nat.lt_of_lt_of_le l8 eN.size
 have b9 := b8.ext eN
 clear eN i8 d8 l8 b8
 obtain ⟨vs, hs9, hvo, hcs⟩ := fn_cells b9
 go_upto_region 10 with fail
 go_cut [17] from 78 to 87 (fun s17 wx => ∃ T : Nat, s17 = .pointer (some ⟨T, 0, none⟩) ∧ Ext U9 wx ∧ U9.heap.size ≤ T ∧ wx.cell? ⟨T, 0, none⟩ = some (.slice (some ⟨b, 0, none⟩) 1 1) ∧ wx.frozen? ⟨T, 0, none⟩ = false ∧ T < wx.heap.size)
 case first =>
  go_wp2_with fail
  go_meet
  exact ⟨_, rfl, ex_, Nat.le_refl _, by simp [go_sem, ↓IntWalk.iteOmega], by simp [go_sem], by simp [go_sem]⟩
 obtain ⟨T, rfl, eT, gT, cT, fT, lT⟩ := hcut
 obtain ⟨U10, rfl⟩ : ∃ U, U = wc := ⟨_, rfl⟩
 have dT := (eT.cells.1 D 0 l9).trans d9
 obtain ⟨i0, hi, hz, hsz, hby, hu⟩ := fn_type
 go_upto_region 12 with (at_builtin; refine wpList_append_grows _ rfl _ _ 22 rfl 50 i0 (.agg #[.string ⟨#[]⟩, .int .i64 0, .int .i64 0, .slice none 0 0]) 4 56 hu hi hz hsz hby rfl (by decide) _ 0 0 [] rfl (fun _ => ⟨rfl, rfl⟩) rfl (fun _ _ j u h => by simp at h) ⟨b, 0, none⟩ 1 1 [.string ⟨#[97]⟩, .int .i64 1, .int .i64 0, vs] rfl rfl (hcs _ ex_) (by simp [Value.oneCell', hvo]; exact hvo) (by decide) c_57 (by decide) ?_; rintro v' w' hown hgr; obtain ⟨g, cp, rfl⟩ := ownsRow_succ hown; have hgE : Ext U10 w' := Ext.grow ((Ext.refl _).alloc _) hgr; have cT2 := (hgE.cells.1 T 0 lT).trans cT; have fT2 := (hgE.cells.2 T 0 lT).trans fT)
 obtain ⟨hbg, hgl, q1, f1, hbd⟩ := fn_still hown hs9 (by have := eT.size; simp only [World.size_alloc]; omega)
 refine wp_name fun U11 hN => ?_
 have hgT : g ≠ T := by simp only [World.size_alloc] at hbg; omega
 have e : U11 = _ := hN
 have e11 : Ext U9 U11 := by rw [e]; exact (eT.trans hgE).setCell (p := ⟨T, 0, none⟩) gT _
 have ct : U11.cell? ⟨T, 0, none⟩ = some (.slice (some ⟨g, 0, none⟩) 1 cp) := by rw [e, cell_sc, if_pos rfl, cT2]; rfl
 have ft : U11.frozen? ⟨T, 0, none⟩ = false := by rw [e, World.frozen?_setCell]; exact fT2
 have cg : ∀ j, U11.cell? ⟨g, j, none⟩ = _ := fun j => by rw [e, cell_sc, if_neg (fun h => hgT c_18)]
 have cg1 := (cg 1).trans q1
 have fg1 : U11.frozen? ⟨g, 1, none⟩ = false := by rw [e, World.frozen?_setCell]; exact f1
 have lg : g < U11.heap.size := by rw [e]; simpa using hgl
 have lT11 : T < U11.heap.size := World.block_lt_of_cell? _ _ ct
 have hB := hbd U11 e11 cg
 have hg9 : U9.heap.size ≤ g := by have := eT.size; simp only [World.size_alloc] at hbg; omega
 clear hN e hbd hown hgr cT2 fT2 hgE cg q1 f1 hbg hgl hcs hs9 hvo
 go_upto_region 13 with fail
 refine wp_name fun U12 hN => ?_
 have e : U12 = _ := hN
 have e12 : Ext U9 U12 := by rw [e]; exact e11.setCell (p := ⟨g, 1, none⟩) hg9 _
 have i12 := i9.ext e12
 have b12 : Bds U12 (.slice (some ⟨g, 0, none⟩) 1 cp) (fnB 0) := by rw [e]; exact hB
 have ct12 : U12.cell? ⟨T, 0, none⟩ = some (.slice (some ⟨g, 0, none⟩) 1 cp) := by rw [e, cell_sc, if_neg (fun h => hgT (by have := congrArg Addr.block h; simpa using this.symm))]; exact ct
 clear hN e e12 e11 hB hg9 ct ft cg1 fg1 lg lT11 hgT i9 d9 l9 b9 eT gT cT fT lT dT hi hz hsz hby hu
 obtain ⟨c0, c1, c2, c3, c4, c5, cf, cl⟩ := i12.2.2
 go_upto_region 14 with (go_at_call 14; (with_reducible refine (h8 _ _ b12).mono ?_); rintro e w13 ⟨rfl, hx⟩)
 refine wp_name fun U13 hN => ?_
 obtain ⟨B13, hB⟩ : ∃ B, w13.heap.size = B := ⟨_, rfl⟩
 have eN : Ext U12 U13 := Ext.same hN (hx.alloc _)
 have i13 := i12.ext eN
 have n13 : N6 U13 B13 (-325358914) (-325358913) := by have e : U13 = _ := hN; rw [e, ← hB]; exact N6.lit _ _ _ 28
 try rw [hB]
 clear c0 c1 c2 c3 c4 c5 cf cl
 clear hN hx hB eN i12 b12 ct12 h1 h2 h3 h4 h5 h6 h7 h8
 obtain ⟨c0, c1, c2, c3, c4, c5, cf, cl⟩ := i13.2.2
 go_upto_region 15 with (go_at_call 14; (with_reducible refine (h9 _).mono ?_); rintro e w14 ⟨rfl, hx⟩)
 refine wp_name fun U14 hN => ?_
 obtain ⟨B14, hB⟩ : ∃ B, w14.heap.size = B := ⟨_, rfl⟩
 have eN : Ext U13 U14 := Ext.same hN (hx.alloc _)
 have x14 := (i13.ext eN).1
 have m13 := n13.ext eN
 have m14 : N6 U14 B14 (-325358914) (-325358913) := by have e : U14 = _ := hN; rw [e, ← hB]; exact N6.lit _ _ _ 28
 try rw [hB]
 clear c0 c1 c2 c3 c4 c5 cf cl
 clear hN hx hB eN i13 n13 h9
 have n25 : ∀ (a b c d e f : Int) (w : World), (Op.equalIn 10000 28 (.agg #[.int .i64 a, .int .i64 b, .int .i64 c, .int .i64 d, .int .i64 e, .int .i64 f]) (.agg #[.int .i64 a, .int .i64 b, .int .i64 c, .int .i64 d, .int .i64 e, .int .i64 f])).run Tryz.prog w = .ok true w := fun a b c d e f w => eq_vec a b c d e f 9997 w
 have m25 : Tryz.prog.eqGuardType Tryz.prog.depth 28 = false := by kernel_rfl
 obtain ⟨a0, a1, a2, a3, a4, a5, af, al⟩ := m13
 obtain ⟨p0, p1, p2, p3, p4, p5, pf, pl⟩ := m14
 go_wp2_with (go_at_call 21; (with_reducible refine (hal _).mono ?_); rintro e w15 ⟨rfl, hb⟩; obtain ⟨_, _, hc, hf⟩ := hb.cells2; have hz := hb.size)
 refine bodyPost_ret (v := .bool true) ?_ rfl ⟨rfl, ?_⟩
 ·(try simp only [bn_, bm_] at *)
  simp [results, Tryz.results4, go_sem, ↓IntWalk.iteOmega, *]
 ·exact b_6
end Go.Proofs.YtbkgakgdbmjmjaaGreat
