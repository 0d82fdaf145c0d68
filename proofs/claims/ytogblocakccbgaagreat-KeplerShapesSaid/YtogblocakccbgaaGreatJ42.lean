/- trig: floor.; trig: Pi.; planisphereref03.Scale. -/
import Derived.Test.YtogblocakccbgaaGreatJ00
import Derived.Test.YtogblocakccbgaaGreatJ41
import Derived.Test.YtogblocakccbgaaGreatJ11
import Derived.Test.YtogblocakccbgaaGreatJ15
import Derived.Test.YtogblocakccbgaaGreatJ19
import Derived.Test.YtogblocakccbgaaGreatJ16
import Derived.Test.YtogblocakccbgaaGreatJ18
set_option linter.unusedSimpArgs false
set_option linter.unusedVariables false
set_option maxRecDepth 100000
set_option maxHeartbeats 4000000
namespace Go.Proofs.YtogblocakccbgaaGreat
open Go.RowKit
def BxO (w : World) (g o : Nat) : Prop := (∃ a, w.cell? ⟨g, o, none⟩ = some a) ∧ (∃ a, w.cell? ⟨g, o + 1, none⟩ = some a) ∧ (∀ o, w.frozen? ⟨g, o, none⟩ = false) ∧ NoU w g ∧ g < w.heap.size
theorem BxO.ext {g o : Nat} {a b : World} (h : BxO a g o) (k : Ext a b) : BxO b g o := by
 obtain ⟨⟨x, h1⟩, ⟨y, h2⟩, h4, h5, h6⟩ := h
 exact ⟨⟨x, (k.cells.1 g o h6).trans h1⟩, ⟨y, (k.cells.1 g (o + 1) h6).trans h2⟩, fun o => (k.cells.2 g o h6).trans (h4 o), h5.ext h6 k, Nat.lt_of_lt_of_le h6 k.size⟩
theorem BxO.set {w : World} {g o j : Nat} {v : Value} (h : BxO w g o) (hx : ∀ z, v ≠ .int .u32 z) : BxO (w.setCell ⟨g, j, none⟩ v) g o := by
 obtain ⟨⟨x, h1⟩, ⟨y, h2⟩, h4, h5, h6⟩ := h
 have some' : ∀ o a, w.cell? ⟨g, o, none⟩ = some a → ∃ c, (w.setCell ⟨g, j, none⟩ v).cell? ⟨g, o, none⟩ = some c := fun o a ha => by
  rw [cell_sc]
  split
  ·rename_i e
   have : o = j := by have := congrArg Addr.off e; simpa using this
   subst this
   rw [ha]; exact ⟨v, rfl⟩
  ·exact ⟨a, ha⟩
 exact ⟨some' o x h1, some' (o + 1) y h2, fun o => by rw [World.frozen?_setCell]; exact h4 o, h5.set hx, by simpa using h6⟩
def C2 (w : World) (g : Nat) (a b : Value) : Prop := w.cell? ⟨g, 0, none⟩ = some a ∧ w.cell? ⟨g, 1, none⟩ = some b ∧ g < w.heap.size
theorem C2.ext {g : Nat} {a b : World} {x y : Value} (h : C2 a g x y) (k : Ext a b) : C2 b g x y :=
 ⟨(k.cells.1 g 0 h.2.2).trans h.1, (k.cells.1 g 1 h.2.2).trans h.2.1, Nat.lt_of_lt_of_le h.2.2 k.size⟩
theorem t_floor120 (vb : Value) (x r q : Int) (w : World) (hb0 : Ball w vb x r) (hr0 : 0 ≤ r) (hr1 : r ≤ 1000000000000) (hk0 : okN x = true) (hk1 : okN (x + -r) = true) (hk2 : okN (x + r) = true) (hq1 : (x + -r) / 2 ^ 80 = q) (hq2 : (x + r) / 2 ^ 80 = q) (hq3 : 0 ≤ q ∧ q ≤ 9000000000000000000) :
    Calls Tryz.prog 66 #[vb, .int .i64 120] w fun e w' => e = .returned (.tuple #[.int .i64 q, .bool true]) ∧ Ext w w' := by
 obtain ⟨sb, aob, nb, capb, rfl, hWx⟩ := hb0.open
 have hsz0 : Sz (-r) := dig_bits (k := 64) (L := 4096) (by omega) (by decide)
 have hsz1 : Sz r := dig_bits (k := 64) (L := 4096) (by omega) (by decide)
 have hszq : Sz q := dig_bits (k := 64) (L := 4096) (by omega) (by decide)
 have hsh0 : ∀ v w2, Wid w2 v (x + -r) → Calls Tryz.prog 118 #[v, .int .i64 (-80)] w2 fun e w' => ∃ u, e = .returned u ∧ Wid w' u q ∧ Ext w2 w' := fun v w2 hv => by
  have := t_shiftD v (x + -r) 80 w2 hv (okN.sz hk1) (by decide) (by decide)
  rw [hq1] at this; exact this
 have hsh1 : ∀ v w2, Wid w2 v (x + r) → Calls Tryz.prog 118 #[v, .int .i64 (-80)] w2 fun e w' => ∃ u, e = .returned u ∧ Wid w' u q ∧ Ext w2 w' := fun v w2 hv => by
  have := t_shiftD v (x + r) 80 w2 hv (okN.sz hk2) (by decide) (by decide)
  rw [hq2] at this; exact this
 clear hq1 hq2
 have hwk : Hid (IntKind.i64.wrap (-80) = -80) := by show _ = _; rw [IntKind.wrap_i64]; rfl
 have i0 : ∀ w, (Instr.index 168 (.agg #[.int .i64 (-r), .int .i64 r]) (.int .i64 0)).run Tryz.prog w = .ok (.int .i64 (-r)) w := fun _ => by kernel_rfl
 have i1 : ∀ w, (Instr.index 168 (.agg #[.int .i64 (-r), .int .i64 r]) (.int .i64 1)).run Tryz.prog w = .ok (.int .i64 r) w := fun _ => by kernel_rfl
 go_enter Tryz.func66, Tryz.ntmps66
 go_wp2_with fail
 refine wp_loop_rounds 3 ?_
 rw [rounds_succ]
 go_upto_region 5 with fail
 obtain ⟨U, hU⟩ : ∃ U, (w.alloc (.cells #[.bool sb, .slice aob nb capb, .int .i64 r] 57)).alloc (.cells #[.bool false, .slice none 0 0, .bool false, .slice none 0 0] 49) = U := ⟨_, rfl⟩
 rw [hU]
 have hGU : GB (w.heap.size + 1) w U := GB.ext (by rw [← hU]; exact ((Ext.refl w).alloc _).alloc _)
 have b0 : U.cell? ⟨w.heap.size, 0, none⟩ = some (.bool sb) := by rw [← hU]; simp [go_sem, ↓IntWalk.iteOmega]
 have b1 : U.cell? ⟨w.heap.size, 1, none⟩ = some (.slice aob nb capb) := by rw [← hU]; simp [go_sem, ↓IntWalk.iteOmega]
 have hl0 : U.cell? ⟨w.heap.size + 1, 0, none⟩ = some (.bool false) := by rw [← hU]; simp [go_sem, ↓IntWalk.iteOmega]
 have hl1 : U.cell? ⟨w.heap.size + 1, 1, none⟩ = some (.slice none 0 0) := by rw [← hU]; simp [go_sem, ↓IntWalk.iteOmega]
 have hl2 : U.cell? ⟨w.heap.size + 1, 2, none⟩ = some (.bool false) := by rw [← hU]; simp [go_sem, ↓IntWalk.iteOmega]
 have hl3 : U.cell? ⟨w.heap.size + 1, 3, none⟩ = some (.slice none 0 0) := by rw [← hU]; simp [go_sem, ↓IntWalk.iteOmega]
 have hUs : U.heap.size = w.heap.size + 1 + 1 := by rw [← hU]; simp
 have hbl : w.heap.size < U.heap.size := by omega
 have hUn : NoU U (w.heap.size + 1) := by
  have := NoU.new (w.alloc (.cells #[.bool sb, .slice aob nb capb, .int .i64 r] 57)) #[.bool false, .slice none 0 0, .bool false, .slice none 0 0] 49 (noU4 (by simp) (by simp) (by simp) (by simp))
  rw [← hU]; simpa using this
 have hUf : ∀ o, U.frozen? ⟨w.heap.size + 1, o, none⟩ = false := fun o => by rw [← hU]; simp [go_sem, ↓IntWalk.iteOmega]
 replace hWx := hWx.ext (show Ext w U by rw [← hU]; exact ((Ext.refl w).alloc _).alloc _)
 have hL : Bx2 U (w.heap.size + 1) := ⟨⟨_, hl0⟩, ⟨_, hl1⟩, hUf, hUn, by omega⟩
 have hL2 : BxO U (w.heap.size + 1) 2 := ⟨⟨_, hl2⟩, ⟨_, hl3⟩, hUf, hUn, by omega⟩
 clear hU hUn hUf hl0 hl1 hl2 hl3
 replace hL2 := hL2.ext ((Ext.refl U).drew)
 replace hL := hL.ext ((Ext.refl U).drew)
 replace hWx := hWx.ext ((Ext.refl U).drew)
 refine wp_region_held_drew (S := (fun w0 => GB (w.heap.size + 1) U w0)) c_4 ?_ (fun hH => ?_)
 ·exact (GB.refl _ _).drew
 try simp only [sx_]
 refine tk 0 rfl c_0 ?_
 try simp only [sx_]
 refine tk 1 rfl c_0 ?_
 try simp only [sx_]
 refine tk (v := ?_) 2 rfl ?_ ?_
 rotate_left
 ·intro w0 hSw; have q0 := (GB.cell (o := 0) hSw hbl (by omega)).trans b0; have q1 := (GB.cell (o := 1) hSw hbl (by omega)).trans b1; go_simp; try with_reducible rfl
 try simp only [sx_]
 refine tk 3 rfl c_0 ?_
 try simp only [sx_]
 refine tk 6 rfl c_0 ?_
 try simp only [sx_]
 refine tk 7 rfl c_0 ?_
 try simp only [sx_]
 refine wpAnyH_ready (rs := [4]) c_4 (by simp) ?_
 refine rd1 rfl fun K hK => ?_
 go_simp
 (go_at_call 28; (with_reducible refine (t_numZ (-r) _ (by omega) (by omega)).mono ?_); rintro e w1 ⟨y1, rfl, hf1, hx⟩)
 replace hWx := hWx.ext hx
 replace hL := hL.ext hx
 replace hL2 := hL2.ext hx
 refine hK.out _ _ ?_ (fun hN => ?_)
 ·(try dsimp only); exact GB.trans hH (GB.ext hx)
 clear hK K hH
 have hH := hN
 clear hN
 try simp only [sx_]
 refine wpAnyH_ready (rs := [5]) c_4 (by simp) ?_
 refine rd1 rfl fun K hK => ?_
 go_simp
 (go_at_call 58; (with_reducible refine (t_addZ _ _ x (-r) _ hWx hf1 (okN.sz hk0) hsz0 (okN.sz hk1)).mono ?_); rintro e w2 ⟨y2, rfl, hf2, hx⟩)
 replace hWx := hWx.ext hx
 replace hL := hL.ext hx
 replace hL2 := hL2.ext hx
 replace hf1 := hf1.ext hx
 refine hK.out _ _ ?_ (fun hN => ?_)
 ·(try dsimp only); exact GB.trans hH (GB.ext hx)
 clear hK K hH
 have hH := hN
 clear hN
 try simp only [sx_]
 refine wpAnyH_ready (rs := [8]) c_4 (by simp) ?_
 refine rd1 rfl fun K hK => ?_
 go_simp
 rw [hwk.out]
 (go_at_call 118; (with_reducible refine (hsh0 _ _ hf2).mono ?_); rintro e w3 ⟨y3, rfl, hf3, hx⟩)
 replace hWx := hWx.ext hx
 replace hL := hL.ext hx
 replace hL2 := hL2.ext hx
 replace hf1 := hf1.ext hx
 replace hf2 := hf2.ext hx
 obtain ⟨y9, rfl, hf9⟩ := hf3
 obtain ⟨ao5, _, _, cap5, rfl, -⟩ := hf9.view
 have hf4 : Wid w3 (.agg #[.bool (decide (q < 0)), .slice ao5 (dig q.natAbs).length cap5]) q := ⟨_, rfl, hf9⟩
 clear hf9
 refine hK.out _ _ ?_ (fun hN => ?_)
 ·(try dsimp only); exact GB.trans hH (GB.ext hx)
 clear hK K hH
 have hH := hN
 clear hN
 try simp only [sx_]
 refine tk 9 rfl c_0 ?_
 try simp only [sx_]
 refine wpAnyH_ready (rs := [10]) c_4 (by simp) ?_
 refine rd1 rfl fun K hK => ?_
 obtain ⟨⟨xa, h3a⟩, ⟨xb, h3b⟩, h3f, hnu, hsl⟩ := hL
 go_simp
 refine hK.out _ _ ?_ (fun hN => ?_)
 ·(try dsimp only); exact (GB.set hH _).set _
 clear hK K hH
 have hH := hN
 clear hN
 try simp only [sx_]
 refine wpAnyH_done c_4 ?_ _
 have hLn0 := NoU.set (j := 0) (B' := w.heap.size + 1) (x := .bool (decide (q < 0))) hnu (fun z e => by cases e)
 have hLn := NoU.set (j := 1) (B' := w.heap.size + 1) (x := .slice ao5 (dig q.natAbs).length cap5) hLn0 (fun z e => by cases e)
 have hV0 := (Wid.box (j := 0) (x := .bool (decide (q < 0))) hf4 hnu).box (j := 1) (x := .slice ao5 (dig q.natAbs).length cap5) hLn0
 have hWx2 := (Wid.box (j := 0) (x := .bool (decide (q < 0))) hWx hnu).box (j := 1) (x := .slice ao5 (dig q.natAbs).length cap5) hLn0
 obtain ⟨U1, hU1⟩ : ∃ U1, (w3.setCell ⟨w.heap.size + 1, 0, none⟩ (.bool (decide (q < 0)))).setCell ⟨w.heap.size + 1, 1, none⟩ (.slice ao5 (dig q.natAbs).length cap5) = U1 := ⟨_, rfl⟩
 have e0 : U1.cell? ⟨w.heap.size + 1, 0, none⟩ = some (.bool (decide (q < 0))) := by rw [← hU1]; simp [go_sem, ↓IntWalk.iteOmega, h3a]
 have e1 : U1.cell? ⟨w.heap.size + 1, 1, none⟩ = some (.slice ao5 (dig q.natAbs).length cap5) := by rw [← hU1]; simp [go_sem, ↓IntWalk.iteOmega, h3b]
 have hL2 := BxO.set (BxO.set (j := 0) (v := .bool (decide (q < 0))) hL2 (fun z e => by cases e)) (j := 1) (v := .slice ao5 (dig q.natAbs).length cap5) (fun z e => by cases e)
 have hs1 : U1.heap.size = w3.heap.size := by rw [← hU1]; simp
 rw [hU1] at hLn hV0 hWx2 hH hL2 ⊢
 have b0' := (GB.cell (o := 0) hH hbl (by omega)).trans b0
 have b1' := (GB.cell (o := 1) hH hbl (by omega)).trans b1
 have hUU : GB (w.heap.size + 1) w U1 := hGU.trans hH
 have hsU : w.heap.size + 1 + 1 ≤ U1.heap.size := by have := hH.size; omega
 clear hU1 hH hWx hLn0 h3a h3b h3f hnu hsl b0 b1 hGU
 go_wp2_with fail
 rw [rounds_succ]
 go_upto_region 5 with fail
 have hbl1 : w.heap.size < U1.heap.size := by omega
 have hL1 : C2 U1 (w.heap.size + 1) (.bool (decide (q < 0))) (.slice ao5 (dig q.natAbs).length cap5) := ⟨e0, e1, by omega⟩
 replace hL2 := hL2.ext ((Ext.refl U1).drew)
 replace hL1 := hL1.ext ((Ext.refl U1).drew)
 replace hWx2 := hWx2.ext ((Ext.refl U1).drew)
 replace hV0 := hV0.ext ((Ext.refl U1).drew)
 refine wp_region_held_drew (S := (fun w0 => GB (w.heap.size + 1) U1 w0)) c_4 ?_ (fun hH => ?_)
 ·exact (GB.refl _ _).drew
 try simp only [sx_]
 refine tk 0 rfl c_0 ?_
 try simp only [sx_]
 refine tk 1 rfl c_0 ?_
 try simp only [sx_]
 refine tk (v := ?_) 2 rfl ?_ ?_
 rotate_left
 ·intro w0 hSw; have q0 := (GB.cell (o := 0) hSw hbl1 (by omega)).trans b0'; have q1 := (GB.cell (o := 1) hSw hbl1 (by omega)).trans b1'; go_simp; try with_reducible rfl
 try simp only [sx_]
 refine tk 3 rfl c_0 ?_
 try simp only [sx_]
 refine tk 6 rfl c_0 ?_
 try simp only [sx_]
 refine tk 7 rfl c_0 ?_
 try simp only [sx_]
 refine wpAnyH_ready (rs := [4]) c_4 (by simp) ?_
 refine rd1 rfl fun K hK => ?_
 go_simp
 (go_at_call 28; (with_reducible refine (t_numZ r _ (by omega) (by omega)).mono ?_); rintro e w1 ⟨y1, rfl, hf1, hx⟩)
 replace hWx2 := hWx2.ext hx
 replace hL2 := hL2.ext hx
 replace hV0 := hV0.ext hx
 replace hL1 := hL1.ext hx
 refine hK.out _ _ ?_ (fun hN => ?_)
 ·(try dsimp only); exact GB.trans hH (GB.ext hx)
 clear hK K hH
 have hH := hN
 clear hN
 try simp only [sx_]
 refine wpAnyH_ready (rs := [5]) c_4 (by simp) ?_
 refine rd1 rfl fun K hK => ?_
 go_simp
 (go_at_call 58; (with_reducible refine (t_addZ _ _ x r _ hWx2 hf1 (okN.sz hk0) hsz1 (okN.sz hk2)).mono ?_); rintro e w2 ⟨y2, rfl, hf2, hx⟩)
 replace hWx2 := hWx2.ext hx
 replace hL2 := hL2.ext hx
 replace hV0 := hV0.ext hx
 replace hL1 := hL1.ext hx
 replace hf1 := hf1.ext hx
 refine hK.out _ _ ?_ (fun hN => ?_)
 ·(try dsimp only); exact GB.trans hH (GB.ext hx)
 clear hK K hH
 have hH := hN
 clear hN
 try simp only [sx_]
 refine wpAnyH_ready (rs := [8]) c_4 (by simp) ?_
 refine rd1 rfl fun K hK => ?_
 go_simp
 rw [hwk.out]
 (go_at_call 118; (with_reducible refine (hsh1 _ _ hf2).mono ?_); rintro e w3 ⟨y3, rfl, hf3, hx⟩)
 replace hWx2 := hWx2.ext hx
 replace hL2 := hL2.ext hx
 replace hV0 := hV0.ext hx
 replace hL1 := hL1.ext hx
 replace hf1 := hf1.ext hx
 replace hf2 := hf2.ext hx
 obtain ⟨y9, rfl, hf9⟩ := hf3
 obtain ⟨ao6, _, _, cap6, rfl, -⟩ := hf9.view
 have hf4 : Wid w3 (.agg #[.bool (decide (q < 0)), .slice ao6 (dig q.natAbs).length cap6]) q := ⟨_, rfl, hf9⟩
 clear hf9
 refine hK.out _ _ ?_ (fun hN => ?_)
 ·(try dsimp only); exact GB.trans hH (GB.ext hx)
 clear hK K hH
 have hH := hN
 clear hN
 try simp only [sx_]
 refine tk 9 rfl c_0 ?_
 try simp only [sx_]
 refine wpAnyH_ready (rs := [10]) c_4 (by simp) ?_
 refine rd1 rfl fun K hK => ?_
 obtain ⟨⟨xa, h3a⟩, ⟨xb, h3b⟩, h3f, hnu, hsl⟩ := hL2
 go_simp
 refine hK.out _ _ ?_ (fun hN => ?_)
 ·(try dsimp only); exact (GB.set hH _).set _
 clear hK K hH
 have hH := hN
 clear hN
 try simp only [sx_]
 refine wpAnyH_done c_4 ?_ _
 have hLn0 := NoU.set (j := 2) (B' := w.heap.size + 1) (x := .bool (decide (q < 0))) hnu (fun z e => by cases e)
 have hV1 := (Wid.box (j := 2) (x := .bool (decide (q < 0))) hf4 hnu).box (j := 3) (x := .slice ao6 (dig q.natAbs).length cap6) hLn0
 have hV2 := (Wid.box (j := 2) (x := .bool (decide (q < 0))) hV0 hnu).box (j := 3) (x := .slice ao6 (dig q.natAbs).length cap6) hLn0
 obtain ⟨X2, hX2⟩ : ∃ X2, (w3.setCell ⟨w.heap.size + 1, 2, none⟩ (.bool (decide (q < 0)))).setCell ⟨w.heap.size + 1, 3, none⟩ (.slice ao6 (dig q.natAbs).length cap6) = X2 := ⟨_, rfl⟩
 have f0 : X2.cell? ⟨w.heap.size + 1, 0, none⟩ = some (.bool (decide (q < 0))) := by rw [← hX2]; simp [go_sem, ↓IntWalk.iteOmega, hL1.1]
 have f1 : X2.cell? ⟨w.heap.size + 1, 1, none⟩ = some (.slice ao5 (dig q.natAbs).length cap5) := by rw [← hX2]; simp [go_sem, ↓IntWalk.iteOmega, hL1.2.1]
 have f2 : X2.cell? ⟨w.heap.size + 1, 2, none⟩ = some (.bool (decide (q < 0))) := by rw [← hX2]; simp [go_sem, ↓IntWalk.iteOmega, h3a]
 have f3 : X2.cell? ⟨w.heap.size + 1, 3, none⟩ = some (.slice ao6 (dig q.natAbs).length cap6) := by rw [← hX2]; simp [go_sem, ↓IntWalk.iteOmega, h3b]
 rw [hX2] at hV1 hV2 hH ⊢
 have hE2 : Ext w X2 := (hUU.trans hH).out (by omega)
 have hsX : w.heap.size + 1 + 1 ≤ X2.heap.size := by have := hH.size; omega
 have hcm := z_Cmp _ _ q q X2 hV2 hV1 hszq hszq
 rw [cmp_eq rfl] at hcm
 have hin := fun w1 (k1 : Ext X2 w1) => z_Int _ q w1 (hV2.ext k1) (by omega) (by omega)
 clear hX2 hH hWx2 hLn0 h3a h3b h3f hnu hsl hV1 hV2
 go_wp2_with fail
 rw [rounds_succ]
 go_wp2_with (first
  | (go_at_call 56; (with_reducible refine hcm.mono ?_); rintro e w7 ⟨rfl, hb7⟩; obtain ⟨_, _, hc7, hf7⟩ := hb7.cells2; have hz7 := hb7.size; (try simp only [wsz] at hz7 hc7 hf7))
  | (go_at_call 119; (with_reducible refine (hin _ ex_).mono ?_); rintro e w8 ⟨rfl, hb8⟩))
 go_ret2
 exact ⟨rfl, ex_⟩
theorem t_unit120 (vb : Value) (x r q : Int) (w : World) (hb0 : Ball w vb x r) (hr0 : 0 ≤ r) (hr1 : r ≤ 1000000000000) (hk0 : okN x = true) (hk1 : okN (x + -r) = true) (hk2 : okN (x + r) = true) (hq1 : (x + -r) / 2 ^ 80 = q) (hq2 : (x + r) / 2 ^ 80 = q) (hq3 : 0 ≤ q ∧ q ≤ 9000000000000000000) :
    Calls Tryz.prog 29 #[vb, .int .i64 120] w fun e w' => e = .returned (.tuple #[.agg #[.int .i64 q, .int .i64 (q + 1)], .bool true]) ∧ Ext w w' := by
 obtain ⟨sb, aob, nb, capb, rfl, hWx⟩ := hb0.open
 have hfl := fun w1 (k1 : Ext w w1) => t_floor120 _ x r q w1 (hb0.ext k1) hr0 hr1 hk0 hk1 hk2 hq1 hq2 hq3
 clear hq1 hq2 hWx hb0
 go_enter Tryz.func29, Tryz.ntmps29
 go_wp2_with (go_at_call 66; (with_reducible refine (hfl _ ex_).mono ?_); rintro e w1 ⟨rfl, hb⟩; obtain ⟨_, _, hc, hf⟩ := hb.cells2; have hz := hb.size; (try simp only [wsz] at hz hc hf))
 refine bodyPost_ret (v := .tuple #[.agg #[.int .i64 q, .int .i64 (q + 1)], .bool true]) ?_ rfl ⟨rfl, ?_⟩
 ·simp [results, Tryz.results29, go_sem, ↓IntWalk.iteOmega, *]
 ·exact ex_
theorem t_Pi (w : World) : Calls Tryz.prog 30 #[] w fun e w' => e = .returned (.agg #[.int .i64 3454217652357, .int .i64 3454217652358]) ∧ Ext w w' := by
 have hpi : ∀ w, Calls Tryz.prog 25 #[.int .i64 120] w fun e w' => ∃ u, e = .returned u ∧ Ball w' u 4175892906503776358826876457663557616 2664 ∧ Ext w w' := fun w =>
  t_pi 120 60 73770166896822829355237547328900946 23317397332039735124298028429839709 (5561590958449548710103136193927924) 14 10 7 w (by decide) (by decide) (by decide) (by decide) (by decide) c_4 c_4 c_4 c_4 c_4 c_4 c_4 c_4
 have hun := fun v w1 (hb : Ball w1 v 4175892906503776358826876457663557616 2664) => t_unit120 v 4175892906503776358826876457663557616 2664 3454217652357 w1 hb (by decide) (by decide) c_4 c_4 c_4 c_4 c_4 (by decide)
 obtain ⟨X, hX⟩ : ∃ X : Int, X = 4175892906503776358826876457663557616 := ⟨_, rfl⟩
 rw [← hX] at hpi hun
 clear hX
 go_enter Tryz.func30, Tryz.ntmps30
 go_wp2_with (first
  | (go_at_call 25; (with_reducible refine (hpi _).mono ?_); rintro e w1 ⟨y1, rfl, hy1, hb⟩; obtain ⟨_, _, hc, hf⟩ := hb.cells2; have hz := hb.size; (try simp only [wsz] at hz hc hf))
  | (go_at_call 29; (with_reducible refine (hun _ _ hy1).mono ?_); rintro e w2 ⟨rfl, hb2⟩; obtain ⟨_, _, hc2, hf2⟩ := hb2.cells2; have hz2 := hb2.size; (try simp only [wsz] at hz2 hc2 hf2)))
 refine bodyPost_ret (v := .agg #[.int .i64 3454217652357, .int .i64 3454217652358]) ?_ rfl ⟨rfl, ?_⟩
 ·simp [results, Tryz.results30, go_sem, ↓IntWalk.iteOmega, *]
 ·exact ex_
def scI (a b n d : Int) : R3 := if ckI a b ≠ 0 then ⟨0, 0, ckI a b⟩ else madeI (dnT (a * n) d) (upT (b * n) d)
theorem rsc_p (a b n d : Int) (w : World) (hk : ckI a b = 0) (kn : I64 n) (kn0 : 0 ≤ n) (kd : I64 d) (kd0 : 0 < d) :
    Calls Tryz.prog 50 #[.agg #[.int .i64 a, .int .i64 b], .int .i64 n, .int .i64 d] w fun e w' => e = .returned (.tuple #[.agg #[.int .i64 (madeI (dnT (a * n) d) (upT (b * n) d)).lo, .int .i64 (madeI (dnT (a * n) d) (upT (b * n) d)).hi], .int .i64 (madeI (dnT (a * n) d) (upT (b * n) d)).e]) ∧ Ext w w' := by
 obtain ⟨ka1, ka2, ka3⟩ := ckI_ok hk
 have hA : I64 a := by unfold I64; omega
 have hB : I64 b := by unfold I64; omega
 have hle : a * n ≤ b * n := Int.mul_le_mul_of_nonneg_right ka1 kn0
 have d63 : d < 9223372036854775808 := kd.2
 have d64 : d < 18446744073709551616 := by omega
 have hlt : decide (b * n < a * n) = false := by simp; omega
 have e1 : absv d = d := by unfold absv; split <;> omega
 have dn0 : decide (d < 0) = false := by simp; omega
 have dz : ¬ d = 0 := by omega
 go_enter Tryz.func50, Tryz.ntmps50
 go_upto_region 5 with (first | (go_at_call 106; (with_reducible refine (ref_check _ _ _).mono ?_); rintro e w1 ⟨rfl, hb⟩; obtain ⟨_, _, hc, hf⟩ := hb.cells2; have hz := hb.size; (try simp only [wsz] at hz hc hf)))
 refine wp_name fun V hV => ?_
 obtain ⟨hVc, hVf, hVz⟩ := hV.cells
 have hVe : Ext w V := Ext.same hV ex_
 (try simp only [wsz] at hVz)
 replace hVz := And.intro (Nat.le_of_eq hVz) (Nat.le_of_eq hVz.symm)
 have hlv : w.heap.size < V.heap.size ∧ w.heap.size + 1 < V.heap.size := c_52
 have hd : ¬ w.heap.size = w.heap.size + 1 ∧ ¬ w.heap.size + 1 = w.heap.size := c_52
 have hnv : ¬ w.heap.size = V.heap.size ∧ ¬ w.heap.size + 1 = V.heap.size := (by omega)
 go_cut [8, 9] (fun sx0 sx1 wx => ∃ g h : Nat, sx0 = .pointer (some ⟨g, 0, none⟩) ∧ sx1 = .pointer (some ⟨h, 0, none⟩) ∧ Ext V wx ∧ V.heap.size ≤ g ∧ g < wx.heap.size ∧ (∀ o, wx.frozen? ⟨g, o, none⟩ = false) ∧ V.heap.size ≤ h ∧ h < wx.heap.size ∧ (∀ o, wx.frozen? ⟨h, o, none⟩ = false) ∧ g ≠ h ∧ wx.cell? ⟨g, 0, none⟩ = some (.bool (decide (a * n < 0))) ∧ wx.cell? ⟨g, 1, none⟩ = some (.int .u64 (absv (a * n) / 18446744073709551616)) ∧ wx.cell? ⟨g, 2, none⟩ = some (.int .u64 (absv (a * n) % 18446744073709551616)) ∧ wx.cell? ⟨h, 0, none⟩ = some (.bool (decide (b * n < 0))) ∧ wx.cell? ⟨h, 1, none⟩ = some (.int .u64 (absv (b * n) / 18446744073709551616)) ∧ wx.cell? ⟨h, 2, none⟩ = some (.int .u64 (absv (b * n) % 18446744073709551616)))
 case first =>
  have hWe : Ext V V := Ext.refl V
  go_region_held3 (fun w' => (∀ b o, b < V.heap.size → w'.cell? ⟨b, o, none⟩ = if b = V.heap.size ∧ 0 ≤ o ∧ o < 0 then (V.cell? ⟨b, o, none⟩).map (obx w' b o) else V.cell? ⟨b, o, none⟩) ∧ (∀ b o, b < V.heap.size → w'.frozen? ⟨b, o, none⟩ = V.frozen? ⟨b, o, none⟩) ∧ V.heap.size ≤ w'.heap.size ∧ Ext V w') (first | ((with_reducible refine held5 c_1 ?_ ?_) <;> ((try simp only [size_drew]); omega)) | ((with_reducible refine held4 c_1 ?_ ?_) <;> ((try simp only [World.size_alloc, World.size_setCell, size_drew]); omega)) | (with_reducible exact held3d c_1) | (with_reducible exact held0 hWe) | (with_reducible exact held1 c_1 c_1) | (with_reducible exact held3 c_1) | ((with_reducible refine held4 c_1 ?_ ?_) <;> omega) | ((with_reducible refine held3 ?_); (repeat (with_reducible refine held2 ?_ c_2 c_10)); ((with_reducible refine heldDrop c_1 ?_ ?_) <;> ((try simp only [size_drew]); omega))) | (repeat (first | (with_reducible assumption) | (with_reducible refine held2 ?_ c_2 c_10)))) ((first | (go_at_call 107; (with_reducible refine (ref_times a n _ hA kn).mono ?_); rintro e w2 ⟨rfl, hb0⟩; obtain ⟨hq0, hr0⟩ := hb0.cells; have hz0 := hb0.size; (try simp only [size_drew, World.size_alloc, World.size_setCell] at hz0 hq0 hr0); (try have hly0 : V.heap.size < w2.heap.size := by omega); (try have hly1 : V.heap.size + 1 < w2.heap.size := by omega)) | (go_at_call 107; (with_reducible refine (ref_times b n _ hB kn).mono ?_); rintro e w3 ⟨rfl, hb1⟩; obtain ⟨hq1, hr1⟩ := hb1.cells; have hz1 := hb1.size; (try simp only [size_drew, World.size_alloc, World.size_setCell] at hz1 hq1 hr1); (try have hly0 : V.heap.size < w3.heap.size := by omega); (try have hly1 : V.heap.size + 1 < w3.heap.size := by omega); (try have hly2 : w2.heap.size < w3.heap.size := by omega); (try have hly3 : w2.heap.size + 1 < w3.heap.size := by omega))))
  all_goals
   rename_i hOld
   clear hOld
   go_wp2_with fail
   go_meet
   refine ⟨_, _, rfl, rfl, ?_, ?_, ?_, ?_, ?_, ?_, ?_, ?_, ?_, ?_, ?_, ?_, ?_, ?_⟩
   ·(repeat (first | with_reducible exact Ext.refl _ | with_reducible exact Ext.same hV (Ext.refl _) | with_reducible assumption | with_reducible refine Ext.alloc ?_ _ | (with_reducible refine Ext.setCell ?_ ?_ _; rotate_left; (focus ((try simp only [wsz]); omega))) | with_reducible refine Ext.drew ?_ | with_reducible refine Ext.trans ?_ c_1))
   all_goals first | ((try simp only [wsz]); omega) | (intro o; simp [go_sem, ↓IntWalk.iteOmega, *]; done) | (simp [go_sem, ↓IntWalk.iteOmega, *]; done)
 case rest =>
  obtain ⟨g, h, rfl, rfl, hx, hg01, hg02, hgf0, hg11, hg12, hgf1, hgh, hv00, hv01, hv02, hv10, hv11, hv12⟩ := hcut
  obtain ⟨_, _, hcc, hcf⟩ := hx.cells2
  have hcz := hx.size
  replace hVe := hVe.trans hx
  have hlv2 : w.heap.size < wc.heap.size ∧ w.heap.size + 1 < wc.heap.size := (by omega)
  have hlg : w.heap.size < g ∧ ¬ w.heap.size = g ∧ ¬ g = w.heap.size ∧ w.heap.size < h ∧ ¬ w.heap.size = h ∧ ¬ h = w.heap.size ∧ w.heap.size + 1 < g ∧ ¬ w.heap.size + 1 = g ∧ ¬ g = w.heap.size + 1 ∧ w.heap.size + 1 < h ∧ ¬ w.heap.size + 1 = h ∧ ¬ h = w.heap.size + 1 := (by omega)
  clear hx
  go_wp2_with (first | (go_at_call 108; (with_reducible refine (ref_less _ _ _).mono ?_); simp only [hlt]; rintro e w1 ⟨rfl, hb⟩; obtain ⟨_, _, hc, hf⟩ := hb.cells2; have hz := hb.size; (try simp only [wsz] at hz hc hf); (try have zz : w.heap.size < w1.heap.size ∧ (∀ j, w.heap.size < w1.heap.size + j) ∧ (¬ w.heap.size = w1.heap.size) ∧ (∀ j, ¬ w.heap.size = w1.heap.size + j) ∧ (¬ w1.heap.size = w.heap.size) ∧ (∀ j, ¬ w1.heap.size + j = w.heap.size) := c_6); (try have zz : w.heap.size + 1 < w1.heap.size ∧ (∀ j, w.heap.size + 1 < w1.heap.size + j) ∧ (¬ w.heap.size + 1 = w1.heap.size) ∧ (∀ j, ¬ w.heap.size + 1 = w1.heap.size + j) ∧ (¬ w1.heap.size = w.heap.size + 1) ∧ (∀ j, ¬ w1.heap.size + j = w.heap.size + 1) := c_6)))
  refine wp_name fun W hW => ?_
  obtain ⟨hWc, hWf, hWz⟩ := hW.cells
  have hWe : Ext w W := Ext.same hW ex_
  (try simp only [wsz] at hWz)
  (try simp only [size_drew, size_drewN, World.size_alloc, World.size_setCell] at hWz)
  replace hWz := And.intro (Nat.le_of_eq hWz) (Nat.le_of_eq hWz.symm)
  have hlt : w.heap.size < W.heap.size ∧ w.heap.size + 1 < W.heap.size ∧ g < W.heap.size ∧ h < W.heap.size := c_43
  have hd : ¬ w.heap.size = w.heap.size + 1 ∧ ¬ w.heap.size = g ∧ ¬ w.heap.size = h ∧ ¬ w.heap.size + 1 = w.heap.size ∧ ¬ w.heap.size + 1 = g ∧ ¬ w.heap.size + 1 = h ∧ ¬ g = w.heap.size ∧ ¬ g = w.heap.size + 1 ∧ ¬ g = h ∧ ¬ h = w.heap.size ∧ ¬ h = w.heap.size + 1 ∧ ¬ h = g := c_36
  go_region_held3 (fun w' => (∀ b o, b < W.heap.size → w'.cell? ⟨b, o, none⟩ = if b = w.heap.size + 1 ∧ 0 ≤ o ∧ o < 2 then (W.cell? ⟨b, o, none⟩).map (obx w' b o) else W.cell? ⟨b, o, none⟩) ∧ (∀ b o, b < W.heap.size → w'.frozen? ⟨b, o, none⟩ = W.frozen? ⟨b, o, none⟩) ∧ W.heap.size ≤ w'.heap.size ∧ Ext w w') (first | (with_reducible exact held0 hWe) | (with_reducible exact held1 c_1 c_1) | (with_reducible exact held3 c_1) | ((with_reducible refine held4 c_1 ?_ ?_) <;> omega) | (repeat (first | (with_reducible assumption) | (with_reducible refine held2 ?_ c_2 c_10)))) ((first | (go_at_call 112; (with_reducible refine (ref_size d _ kd).mono ?_); simp only [e1]; rintro e w2 ⟨rfl, hb2⟩; have hz2 := hb2.size; (try rw [size_drew] at hz2)) | (go_at_call 111; (with_reducible refine (ref_over _ _ _ _ (abs_mul_bound hA kn).1 (abs_mul_bound hA kn).2 kd0 d64).mono ?_); rintro e w2 ⟨rfl, hb2⟩; have hz2 := hb2.size; (try rw [size_drew] at hz2)) | (go_at_call 111; (with_reducible refine (ref_over _ _ _ _ (abs_mul_bound hB kn).1 (abs_mul_bound hB kn).2 kd0 d64).mono ?_); rintro e w2 ⟨rfl, hb2⟩; have hz2 := hb2.size; (try rw [size_drew] at hz2)) | (go_at_call 110; (with_reducible refine (ref_made _ _ _).mono ?_); rintro e w2 ⟨rfl, hb2⟩; have hz2 := hb2.size; (try rw [size_drew] at hz2))))
  all_goals
   rename_i hOld
   have hE := hOld.2.2.2
   have hO := And.intro hOld.1 (And.intro hOld.2.1 hOld.2.2.1)
   clear hOld
   replace hO := heldBack hO c_2
   replace hO := heldBack hO c_2
   obtain ⟨hOc, hOf, hOz⟩ := heldEnd hO
   clear hO
   go_wp2_with fail
   refine bodyPost_ret (v := .tuple #[.agg #[.int .i64 (madeI (dnT (a * n) d) (upT (b * n) d)).lo, .int .i64 (madeI (dnT (a * n) d) (upT (b * n) d)).hi], .int .i64 (madeI (dnT (a * n) d) (upT (b * n) d)).e]) ?_ rfl ⟨rfl, ?_⟩
   ·(try simp only [bne_iff_ne, ne_eq, bne_eq_false_iff_eq, beq_iff_eq, beq_eq_false_iff_ne] at *)
    simp [results, Tryz.results50, go_sem, ↓IntWalk.iteOmega, ovS, *]
   ·exact ex_
theorem rsc_e (a b n d : Int) (w : World) (hk : ¬ ckI a b = 0) :
    Calls Tryz.prog 50 #[.agg #[.int .i64 a, .int .i64 b], .int .i64 n, .int .i64 d] w fun e w' => e = .returned (.tuple #[.agg #[.int .i64 (R3.mk 0 0 (ckI a b)).lo, .int .i64 (R3.mk 0 0 (ckI a b)).hi], .int .i64 (R3.mk 0 0 (ckI a b)).e]) ∧ Ext w w' := by
 go_enter Tryz.func50, Tryz.ntmps50
 go_wp2_with (first | (go_at_call 106; (with_reducible refine (ref_check _ _ _).mono ?_); rintro e w1 ⟨rfl, hb⟩; obtain ⟨_, _, hc, hf⟩ := hb.cells2; have hz := hb.size; (try simp only [wsz] at hz hc hf)))
 all_goals
  refine bodyPost_ret (v := .tuple #[.agg #[.int .i64 (R3.mk 0 0 (ckI a b)).lo, .int .i64 (R3.mk 0 0 (ckI a b)).hi], .int .i64 (R3.mk 0 0 (ckI a b)).e]) ?_ rfl ⟨rfl, ?_⟩
  ·(try simp only [bne_iff_ne, ne_eq, bne_eq_false_iff_eq, beq_iff_eq, beq_eq_false_iff_ne] at *)
   simp [results, Tryz.results50, go_sem, ↓IntWalk.iteOmega, ne_eq, *]
  ·exact ex_
theorem ref_sc (a b n d : Int) (w : World) (kn : I64 n) (kn0 : 0 ≤ n) (kd : I64 d) (kd0 : 0 < d) :
    Calls Tryz.prog 50 #[.agg #[.int .i64 a, .int .i64 b], .int .i64 n, .int .i64 d] w fun e w' => e = .returned (.tuple #[.agg #[.int .i64 (scI a b n d).lo, .int .i64 (scI a b n d).hi], .int .i64 (scI a b n d).e]) ∧ Ext w w' := by
 by_cases hk : ckI a b = 0
 ·have e : scI a b n d = madeI (dnT (a * n) d) (upT (b * n) d) := by unfold scI; rw [if_neg c_46]
  rw [e]; exact rsc_p a b n d w hk kn kn0 kd kd0
 ·have e : scI a b n d = ⟨0, 0, ckI a b⟩ := by unfold scI; rw [if_pos c_46]
  rw [e]; exact rsc_e a b n d w hk
end Go.Proofs.YtogblocakccbgaaGreat
