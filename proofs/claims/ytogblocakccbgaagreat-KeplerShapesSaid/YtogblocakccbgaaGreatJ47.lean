/- The reference of kepler: the vectors of a state.; planisphereref33: the chain of a shape. -/
import Derived.Test.YtogblocakccbgaaGreatJ00
import Derived.Test.YtogblocakccbgaaGreatJ34
import Derived.Test.YtogblocakccbgaaGreatJ45
import Derived.Test.YtogblocakccbgaaGreatJ46
import Derived.Test.YtogblocakccbgaaGreatJ33
import Derived.Test.YtogblocakccbgaaGreatJ38
set_option linter.unusedSimpArgs false
set_option linter.unusedVariables false
set_option maxRecDepth 100000
set_option maxHeartbeats 4000000
namespace Go.Proofs.YtogblocakccbgaaGreat
open Go.RowKit
theorem T_RAL_6 {p : Prop} (h : p := by
 (try dsimp only); exact ⟨Ext.setCell (Ext.setCell hX c_22 _) c_22 _, hsb⟩) : p := h
theorem T_RAL_5 {p : Prop} (h : p := by
 intro w0 hSw; have q1 : _ = some (Value.int .i64 p3) := (hSw.2 3 (by decide) (by decide)).1; have q2 : _ = some (Value.int .i64 v3) := (hSw.2 6 (by decide) (by decide)).1; go_simp; try with_reducible rfl) : p := h
theorem T_RAL_4 {p : Prop} (h : p := by
 intro w0 hSw; have q1 : _ = some (Value.int .i64 p2) := (hSw.2 2 (by decide) (by decide)).1; have q2 : _ = some (Value.int .i64 v2) := (hSw.2 5 (by decide) (by decide)).1; go_simp; try with_reducible rfl) : p := h
theorem T_RAL_3 {p : Prop} (h : p := by
 intro w0 hSw; have q1 : _ = some (Value.int .i64 p1) := (hSw.2 1 (by decide) (by decide)).1; have q2 : _ = some (Value.int .i64 v1) := (hSw.2 4 (by decide) (by decide)).1; go_simp; try with_reducible rfl) : p := h
theorem T_RAL_2 {p : Prop} (h : p := by
 rw [← hU]
 refine ⟨fun o ho => ?_, fun o => by simp [go_sem, ↓IntWalk.iteOmega], by simp⟩
 have : o = 0 ∨ o = 1 ∨ o = 2 ∨ o = 3 ∨ o = 4 ∨ o = 5 := by omega
 rcases this with rfl | rfl | rfl | rfl | rfl | rfl <;> simp [go_sem, ↓IntWalk.iteOmega]) : p := h
theorem T_RAL_1 {p : Prop} (h : p := by
 intro w0 hSw; have qa0 : _ = some (Value.int .i64 p1) := hSw.1.1 0 (by decide); have qa1 : _ = some (Value.int .i64 p1) := hSw.1.1 1 (by decide); have qa2 : _ = some (Value.int .i64 p2) := hSw.1.1 2 (by decide); have qa3 : _ = some (Value.int .i64 p2) := hSw.1.1 3 (by decide); have qa4 : _ = some (Value.int .i64 p3) := hSw.1.1 4 (by decide); have qa5 : _ = some (Value.int .i64 p3) := hSw.1.1 5 (by decide); have qb0 : _ = some (Value.int .i64 v1) := hSw.2.1.1 0 (by decide); have qb1 : _ = some (Value.int .i64 v1) := hSw.2.1.1 1 (by decide); have qb2 : _ = some (Value.int .i64 v2) := hSw.2.1.1 2 (by decide); have qb3 : _ = some (Value.int .i64 v2) := hSw.2.1.1 3 (by decide); have qb4 : _ = some (Value.int .i64 v3) := hSw.2.1.1 4 (by decide); have qb5 : _ = some (Value.int .i64 v3) := hSw.2.1.1 5 (by decide); go_simp; try with_reducible rfl) : p := h
theorem Bv.gb2 {w : World} {g : Nat} {f : Nat → Int} (h : Bv w g f) (i j : Nat) (x : Int) : GB g w ((w.setCell ⟨g, i, none⟩ (.int .i64 x)).setCell ⟨g, j, none⟩ (.int .i64 x)) := ((GB.refl g w).set _).set _
theorem Bv.gb6 {w : World} {g : Nat} {f : Nat → Int} (h : Bv w g f) (a b c : Int) : GB g w ((((((w.setCell ⟨g, 0, none⟩ (.int .i64 a)).setCell ⟨g, 1, none⟩ (.int .i64 a)).setCell ⟨g, 2, none⟩ (.int .i64 b)).setCell ⟨g, 3, none⟩ (.int .i64 b)).setCell ⟨g, 4, none⟩ (.int .i64 c)).setCell ⟨g, 5, none⟩ (.int .i64 c)) := ((((((GB.refl g w).set _).set _).set _).set _).set _).set _
def StB (w : World) (g : Nat) (f : Nat → Int) : Prop := ∀ o, 0 < o → o < 7 → w.cell? ⟨g, o, none⟩ = some (.int .i64 (f o)) ∧ g < w.heap.size
theorem StB.ext {a w : World} {g : Nat} {f : Nat → Int} (h : StB a g f) (k : Ext a w) : StB w g f := fun o h0 h7 =>
 ⟨(k.cells.1 g o (h o h0 h7).2).trans (h o h0 h7).1, Nat.lt_of_lt_of_le (h o h0 h7).2 k.size⟩
theorem StB.grown {a w : World} {g T : Nat} {f : Nat → Int} (h : StB a g f) (k : GB T a w) (hne : g ≠ T) : StB w g f := fun o h0 h7 =>
 ⟨(k.cell (h o h0 h7).2 hne).trans (h o h0 h7).1, Nat.lt_of_lt_of_le (h o h0 h7).2 k.size⟩
def sf (p1 p2 p3 v1 v2 v3 : Int) (o : Nat) : Int := if o = 1 then p1 else if o = 2 then p2 else if o = 3 then p3 else if o = 4 then v1 else if o = 5 then v2 else v3
theorem r_alone (t p1 p2 p3 v1 v2 v3 : Int) (w : World) :
    Calls Tryz.prog 87 #[.agg #[.int .i64 t, .int .i64 p1, .int .i64 p2, .int .i64 p3, .int .i64 v1, .int .i64 v2, .int .i64 v3]] w fun e w' => e = .returned (.tuple #[.agg #[.int .i64 p1, .int .i64 p1, .int .i64 p2, .int .i64 p2, .int .i64 p3, .int .i64 p3], .agg #[.int .i64 v1, .int .i64 v1, .int .i64 v2, .int .i64 v2, .int .i64 v3, .int .i64 v3]]) ∧ Ext w w' := by
 have l0 : IntKind.i64.wrap 0 = 0 := rfl
 have l1 : IntKind.i64.wrap 1 = 1 := rfl
 have l2 : IntKind.i64.wrap 2 = 2 := rfl
 have l3 : IntKind.i64.wrap 3 = 3 := rfl
 go_enter Tryz.func87, Tryz.ntmps87
 go_wp2_with fail
 obtain ⟨U0, hU⟩ : ∃ U0, (((((w.alloc (.cells #[.int .i64 t, .int .i64 p1, .int .i64 p2, .int .i64 p3, .int .i64 v1, .int .i64 v2, .int .i64 v3] 40)).alloc (.cells #[.int .i64 0, .int .i64 0, .int .i64 0, .int .i64 0, .int .i64 0, .int .i64 0] 121)).alloc (.cells #[.int .i64 0, .int .i64 0, .int .i64 0, .int .i64 0, .int .i64 0, .int .i64 0] 121)).alloc (.cells #[.int .i64 0, .int .i64 0, .int .i64 0, .int .i64 0, .int .i64 0, .int .i64 0] 121)).alloc (.cells #[.int .i64 0, .int .i64 0, .int .i64 0, .int .i64 0, .int .i64 0, .int .i64 0] 121)) = U0 := ⟨_, rfl⟩
 have hE : Ext w U0 := by rw [← hU]; exact (((((Ext.refl w).alloc _).alloc _).alloc _).alloc _).alloc _
 have hSt : StB U0 w.heap.size (sf p1 p2 p3 v1 v2 v3) := by
  rw [← hU]
  intro o h0 h7
  have : o = 1 ∨ o = 2 ∨ o = 3 ∨ o = 4 ∨ o = 5 ∨ o = 6 := by omega
  rcases this with rfl | rfl | rfl | rfl | rfl | rfl <;> (refine ⟨?_, by simp; omega⟩; simp [go_sem, ↓IntWalk.iteOmega, sf])
 have hC : Bv U0 (w.heap.size + 1) (fun _ => 0) := by
  exact T_RAL_2
 have hD : Bv U0 (w.heap.size + 1 + 1) (fun _ => 0) := by
  exact T_RAL_2
 have hT0 : Bv U0 (w.heap.size + 1 + 1 + 1) (fun _ => 0) := by
  exact T_RAL_2
 have hT1 : Bv U0 (w.heap.size + 1 + 1 + 1 + 1) (fun _ => 0) := by
  exact T_RAL_2
 rw [hU]
 clear hU
 refine wp_loop_rounds 4 ?_
 rw [rounds_succ]
 go_upto_region 5 with fail
 replace hT0 := hT0.ext ((Ext.refl _).drew)
 replace hT1 := hT1.ext ((Ext.refl _).drew)
 replace hC := hC.ext ((Ext.refl _).drew)
 replace hD := hD.ext ((Ext.refl _).drew)
 refine wp_region_held_drew (S := (fun w0 => Ext w w0 ∧ StB w0 w.heap.size (sf p1 p2 p3 v1 v2 v3))) c_4 ?_ (fun hH => ?_)
 ·exact ⟨hE.drew, hSt.ext ((Ext.refl _).drew)⟩
 try simp only [sx_]
 refine wpAnyH_name fun Ys0 hY => ?_
 rw [hY] at hH hT0 hT1 hC hD
 clear hY
 clear hE hSt
 refine tk 0 rfl c_0 ?_
 try simp only [sx_]
 refine tk 1 rfl c_0 ?_
 try simp only [sx_]
 refine tk 2 rfl c_0 ?_
 try simp only [sx_]
 refine tk 3 rfl c_0 ?_
 try simp only [sx_]
 refine tk 4 rfl c_0 ?_
 try simp only [sx_]
 refine tk (v := ?_) 5 rfl ?_ ?_
 rotate_left
 ·exact T_RAL_3
 try simp only [sx_]
 refine tk 6 rfl c_0 ?_
 try simp only [sx_]
 refine tk 7 rfl c_0 ?_
 try simp only [sx_]
 refine tk 8 rfl c_0 ?_
 try simp only [sx_]
 refine tk (v := ?_) 9 rfl ?_ ?_
 rotate_left
 ·exact T_RAL_3
 try simp only [sx_]
 refine tk 10 rfl c_0 ?_
 try simp only [sx_]
 refine tk 11 rfl c_0 ?_
 try simp only [sx_]
 refine tk 12 rfl c_0 ?_
 try simp only [sx_]
 refine tk 13 rfl c_0 ?_
 try simp only [sx_]
 refine tk (v := ?_) 14 rfl ?_ ?_
 rotate_left
 ·exact T_RAL_3
 try simp only [sx_]
 refine tk 15 rfl c_0 ?_
 try simp only [sx_]
 refine tk 16 rfl c_0 ?_
 try simp only [sx_]
 refine tk 17 rfl c_0 ?_
 try simp only [sx_]
 refine tk (v := ?_) 18 rfl ?_ ?_
 rotate_left
 ·exact T_RAL_3
 try simp only [sx_]
 refine tk 19 rfl c_0 ?_
 try simp only [sx_]
 refine tk 20 rfl c_0 ?_
 try simp only [sx_]
 refine wpAnyH_ready (rs := [21]) c_4 (by simp) ?_
 refine rd1 rfl fun K hK => ?_
 have hX := hH.1
 have hS := hH.2
 have h3f := hT0.2.1
 have h3a := hT0.1 0 (by decide)
 have h3b := hT0.1 1 (by decide)
 have hl3 := hT0.2.2
 have hn := (hT0.set 0 p1).set 1 p1
 have hgb := hT0.gb2 0 1 p1
 have ho := hT1.grown hgb (by omega)
 have hsb := hS.grown hgb (by omega)
 have hcc := hC.grown hgb (by omega)
 have hdd := hD.grown hgb (by omega)
 go_simp
 refine hK.out _ _ ?_ (fun hN => ?_)
 ·exact T_RAL_6
 clear hK K hH
 have hH := hN
 clear hN
 try simp only [sx_]
 refine wpAnyH_name fun Y00 hY => ?_
 rw [hY] at hH hn ho hcc hdd
 clear hY
 clear hT0 hT1 hX hS h3f h3a h3b hl3 hgb hsb hC hD
 have hT0 := hn
 have hT1 := ho
 have hC := hcc
 have hD := hdd
 clear hn ho hcc hdd
 refine tk 22 rfl c_0 ?_
 try simp only [sx_]
 refine wpAnyH_ready (rs := [23]) c_4 (by simp) ?_
 refine rd1 rfl fun K hK => ?_
 have hX := hH.1
 have hS := hH.2
 have h3f := hT1.2.1
 have h3a := hT1.1 0 (by decide)
 have h3b := hT1.1 1 (by decide)
 have hl3 := hT1.2.2
 have hn := (hT1.set 0 v1).set 1 v1
 have hgb := hT1.gb2 0 1 v1
 have ho := hT0.grown hgb (by omega)
 have hsb := hS.grown hgb (by omega)
 have hcc := hC.grown hgb (by omega)
 have hdd := hD.grown hgb (by omega)
 go_simp
 refine hK.out _ _ ?_ (fun hN => ?_)
 ·exact T_RAL_6
 clear hK K hH
 have hH := hN
 clear hN
 try simp only [sx_]
 refine wpAnyH_name fun Y01 hY => ?_
 rw [hY] at hH hn ho hcc hdd
 clear hY
 clear hT1 hT0 hX hS h3f h3a h3b hl3 hgb hsb hC hD
 have hT1 := hn
 have hT0 := ho
 have hC := hcc
 have hD := hdd
 clear hn ho hcc hdd
 refine wpAnyH_done c_4 ?_ _
 have hE := hH.1
 have hSt := hH.2
 clear hH
 go_wp2_with fail
 rw [rounds_succ]
 go_upto_region 5 with fail
 replace hT0 := hT0.ext ((Ext.refl _).drew)
 replace hT1 := hT1.ext ((Ext.refl _).drew)
 replace hC := hC.ext ((Ext.refl _).drew)
 replace hD := hD.ext ((Ext.refl _).drew)
 refine wp_region_held_drew (S := (fun w0 => Ext w w0 ∧ StB w0 w.heap.size (sf p1 p2 p3 v1 v2 v3))) c_4 ?_ (fun hH => ?_)
 ·exact ⟨hE.drew, hSt.ext ((Ext.refl _).drew)⟩
 try simp only [sx_]
 refine wpAnyH_name fun Ys1 hY => ?_
 rw [hY] at hH hT0 hT1 hC hD
 clear hY
 clear hE hSt
 refine tk 0 rfl c_0 ?_
 try simp only [sx_]
 refine tk 1 rfl c_0 ?_
 try simp only [sx_]
 refine tk 2 rfl c_0 ?_
 try simp only [sx_]
 refine tk 3 rfl c_0 ?_
 try simp only [sx_]
 refine tk 4 rfl c_0 ?_
 try simp only [sx_]
 refine tk (v := ?_) 5 rfl ?_ ?_
 rotate_left
 ·exact T_RAL_4
 try simp only [sx_]
 refine tk 6 rfl c_0 ?_
 try simp only [sx_]
 refine tk 7 rfl c_0 ?_
 try simp only [sx_]
 refine tk 8 rfl c_0 ?_
 try simp only [sx_]
 refine tk (v := ?_) 9 rfl ?_ ?_
 rotate_left
 ·exact T_RAL_4
 try simp only [sx_]
 refine tk 10 rfl c_0 ?_
 try simp only [sx_]
 refine tk 11 rfl c_0 ?_
 try simp only [sx_]
 refine tk 12 rfl c_0 ?_
 try simp only [sx_]
 refine tk 13 rfl c_0 ?_
 try simp only [sx_]
 refine tk (v := ?_) 14 rfl ?_ ?_
 rotate_left
 ·exact T_RAL_4
 try simp only [sx_]
 refine tk 15 rfl c_0 ?_
 try simp only [sx_]
 refine tk 16 rfl c_0 ?_
 try simp only [sx_]
 refine tk 17 rfl c_0 ?_
 try simp only [sx_]
 refine tk (v := ?_) 18 rfl ?_ ?_
 rotate_left
 ·exact T_RAL_4
 try simp only [sx_]
 refine tk 19 rfl c_0 ?_
 try simp only [sx_]
 refine tk 20 rfl c_0 ?_
 try simp only [sx_]
 refine wpAnyH_ready (rs := [21]) c_4 (by simp) ?_
 refine rd1 rfl fun K hK => ?_
 have hX := hH.1
 have hS := hH.2
 have h3f := hT0.2.1
 have h3a := hT0.1 2 (by decide)
 have h3b := hT0.1 3 (by decide)
 have hl3 := hT0.2.2
 have hn := (hT0.set 2 p2).set 3 p2
 have hgb := hT0.gb2 2 3 p2
 have ho := hT1.grown hgb (by omega)
 have hsb := hS.grown hgb (by omega)
 have hcc := hC.grown hgb (by omega)
 have hdd := hD.grown hgb (by omega)
 go_simp
 refine hK.out _ _ ?_ (fun hN => ?_)
 ·exact T_RAL_6
 clear hK K hH
 have hH := hN
 clear hN
 try simp only [sx_]
 refine wpAnyH_name fun Y10 hY => ?_
 rw [hY] at hH hn ho hcc hdd
 clear hY
 clear hT0 hT1 hX hS h3f h3a h3b hl3 hgb hsb hC hD
 have hT0 := hn
 have hT1 := ho
 have hC := hcc
 have hD := hdd
 clear hn ho hcc hdd
 refine tk 22 rfl c_0 ?_
 try simp only [sx_]
 refine wpAnyH_ready (rs := [23]) c_4 (by simp) ?_
 refine rd1 rfl fun K hK => ?_
 have hX := hH.1
 have hS := hH.2
 have h3f := hT1.2.1
 have h3a := hT1.1 2 (by decide)
 have h3b := hT1.1 3 (by decide)
 have hl3 := hT1.2.2
 have hn := (hT1.set 2 v2).set 3 v2
 have hgb := hT1.gb2 2 3 v2
 have ho := hT0.grown hgb (by omega)
 have hsb := hS.grown hgb (by omega)
 have hcc := hC.grown hgb (by omega)
 have hdd := hD.grown hgb (by omega)
 go_simp
 refine hK.out _ _ ?_ (fun hN => ?_)
 ·exact T_RAL_6
 clear hK K hH
 have hH := hN
 clear hN
 try simp only [sx_]
 refine wpAnyH_name fun Y11 hY => ?_
 rw [hY] at hH hn ho hcc hdd
 clear hY
 clear hT1 hT0 hX hS h3f h3a h3b hl3 hgb hsb hC hD
 have hT1 := hn
 have hT0 := ho
 have hC := hcc
 have hD := hdd
 clear hn ho hcc hdd
 refine wpAnyH_done c_4 ?_ _
 have hE := hH.1
 have hSt := hH.2
 clear hH
 go_wp2_with fail
 rw [rounds_succ]
 go_upto_region 5 with fail
 replace hT0 := hT0.ext ((Ext.refl _).drew)
 replace hT1 := hT1.ext ((Ext.refl _).drew)
 replace hC := hC.ext ((Ext.refl _).drew)
 replace hD := hD.ext ((Ext.refl _).drew)
 refine wp_region_held_drew (S := (fun w0 => Ext w w0 ∧ StB w0 w.heap.size (sf p1 p2 p3 v1 v2 v3))) c_4 ?_ (fun hH => ?_)
 ·exact ⟨hE.drew, hSt.ext ((Ext.refl _).drew)⟩
 try simp only [sx_]
 refine wpAnyH_name fun Ys2 hY => ?_
 rw [hY] at hH hT0 hT1 hC hD
 clear hY
 clear hE hSt
 refine tk 0 rfl c_0 ?_
 try simp only [sx_]
 refine tk 1 rfl c_0 ?_
 try simp only [sx_]
 refine tk 2 rfl c_0 ?_
 try simp only [sx_]
 refine tk 3 rfl c_0 ?_
 try simp only [sx_]
 refine tk 4 rfl c_0 ?_
 try simp only [sx_]
 refine tk (v := ?_) 5 rfl ?_ ?_
 rotate_left
 ·exact T_RAL_5
 try simp only [sx_]
 refine tk 6 rfl c_0 ?_
 try simp only [sx_]
 refine tk 7 rfl c_0 ?_
 try simp only [sx_]
 refine tk 8 rfl c_0 ?_
 try simp only [sx_]
 refine tk (v := ?_) 9 rfl ?_ ?_
 rotate_left
 ·exact T_RAL_5
 try simp only [sx_]
 refine tk 10 rfl c_0 ?_
 try simp only [sx_]
 refine tk 11 rfl c_0 ?_
 try simp only [sx_]
 refine tk 12 rfl c_0 ?_
 try simp only [sx_]
 refine tk 13 rfl c_0 ?_
 try simp only [sx_]
 refine tk (v := ?_) 14 rfl ?_ ?_
 rotate_left
 ·exact T_RAL_5
 try simp only [sx_]
 refine tk 15 rfl c_0 ?_
 try simp only [sx_]
 refine tk 16 rfl c_0 ?_
 try simp only [sx_]
 refine tk 17 rfl c_0 ?_
 try simp only [sx_]
 refine tk (v := ?_) 18 rfl ?_ ?_
 rotate_left
 ·exact T_RAL_5
 try simp only [sx_]
 refine tk 19 rfl c_0 ?_
 try simp only [sx_]
 refine tk 20 rfl c_0 ?_
 try simp only [sx_]
 refine wpAnyH_ready (rs := [21]) c_4 (by simp) ?_
 refine rd1 rfl fun K hK => ?_
 have hX := hH.1
 have hS := hH.2
 have h3f := hT0.2.1
 have h3a := hT0.1 4 (by decide)
 have h3b := hT0.1 5 (by decide)
 have hl3 := hT0.2.2
 have hn := (hT0.set 4 p3).set 5 p3
 have hgb := hT0.gb2 4 5 p3
 have ho := hT1.grown hgb (by omega)
 have hsb := hS.grown hgb (by omega)
 have hcc := hC.grown hgb (by omega)
 have hdd := hD.grown hgb (by omega)
 go_simp
 refine hK.out _ _ ?_ (fun hN => ?_)
 ·exact T_RAL_6
 clear hK K hH
 have hH := hN
 clear hN
 try simp only [sx_]
 refine wpAnyH_name fun Y20 hY => ?_
 rw [hY] at hH hn ho hcc hdd
 clear hY
 clear hT0 hT1 hX hS h3f h3a h3b hl3 hgb hsb hC hD
 have hT0 := hn
 have hT1 := ho
 have hC := hcc
 have hD := hdd
 clear hn ho hcc hdd
 refine tk 22 rfl c_0 ?_
 try simp only [sx_]
 refine wpAnyH_ready (rs := [23]) c_4 (by simp) ?_
 refine rd1 rfl fun K hK => ?_
 have hX := hH.1
 have hS := hH.2
 have h3f := hT1.2.1
 have h3a := hT1.1 4 (by decide)
 have h3b := hT1.1 5 (by decide)
 have hl3 := hT1.2.2
 have hn := (hT1.set 4 v3).set 5 v3
 have hgb := hT1.gb2 4 5 v3
 have ho := hT0.grown hgb (by omega)
 have hsb := hS.grown hgb (by omega)
 have hcc := hC.grown hgb (by omega)
 have hdd := hD.grown hgb (by omega)
 go_simp
 refine hK.out _ _ ?_ (fun hN => ?_)
 ·exact T_RAL_6
 clear hK K hH
 have hH := hN
 clear hN
 try simp only [sx_]
 refine wpAnyH_name fun Y21 hY => ?_
 rw [hY] at hH hn ho hcc hdd
 clear hY
 clear hT1 hT0 hX hS h3f h3a h3b hl3 hgb hsb hC hD
 have hT1 := hn
 have hT0 := ho
 have hC := hcc
 have hD := hdd
 clear hn ho hcc hdd
 refine wpAnyH_done c_4 ?_ _
 have hE := hH.1
 have hSt := hH.2
 clear hH
 go_wp2_with fail
 rw [rounds_succ]
 go_upto_region 6 with fail
 have hP := hT0.congr (f' := pf p1 p2 p3) (by
  intro o ho
  have hoo : o = 0 ∨ o = 1 ∨ o = 2 ∨ o = 3 ∨ o = 4 ∨ o = 5 := by omega
  rcases hoo with rfl | rfl | rfl | rfl | rfl | rfl <;> rfl)
 have hV := hT1.congr (f' := pf v1 v2 v3) (by
  intro o ho
  have hoo : o = 0 ∨ o = 1 ∨ o = 2 ∨ o = 3 ∨ o = 4 ∨ o = 5 := by omega
  rcases hoo with rfl | rfl | rfl | rfl | rfl | rfl <;> rfl)
 clear hT0 hT1 hSt
 replace hC := hC.ext ((Ext.refl _).drew)
 replace hD := hD.ext ((Ext.refl _).drew)
 refine wp_region_held_drew (S := (fun w0 => Bv w0 (w.heap.size + 1 + 1 + 1) (pf p1 p2 p3) ∧ Bv w0 (w.heap.size + 1 + 1 + 1 + 1) (pf v1 v2 v3) ∧ Ext w w0)) c_4 ?_ (fun hH => ?_)
 ·exact ⟨hP.ext ((Ext.refl _).drew), hV.ext ((Ext.refl _).drew), hE.drew⟩
 try simp only [sx_]
 refine wpAnyH_name fun Yz hY => ?_
 rw [hY] at hH hC hD
 clear hY
 refine tk (v := ?_) 0 rfl ?_ ?_
 rotate_left
 ·exact T_RAL_1
 try simp only [sx_]
 refine tk (v := ?_) 1 rfl ?_ ?_
 rotate_left
 ·exact T_RAL_1
 try simp only [sx_]
 refine wpAnyH_ready (rs := [2]) c_4 (by simp) ?_
 refine rd1 rfl fun K hK => ?_
 obtain ⟨hA, hB, hX⟩ := id hH
 have h3f := hC.2.1
 have h30 := hC.1 0 (by decide)
 have h31 := hC.1 1 (by decide)
 have h32 := hC.1 2 (by decide)
 have h33 := hC.1 3 (by decide)
 have h34 := hC.1 4 (by decide)
 have h35 := hC.1 5 (by decide)
 have hgb := hC.gb6 p1 p2 p3
 have hcn := hC.set6 p1 p2 p3
 have hA' := hA.grown hgb (by omega)
 have hB' := hB.grown hgb (by omega)
 have hon := hD.grown hgb (by omega)
 go_simp
 refine hK.out _ _ ?_ (fun hN => ?_)
 ·(try dsimp only); exact ⟨hA', hB', (Ext.setCell (p := ⟨w.heap.size + 1, 5, none⟩) (Ext.setCell (p := ⟨w.heap.size + 1, 4, none⟩) (Ext.setCell (p := ⟨w.heap.size + 1, 3, none⟩) (Ext.setCell (p := ⟨w.heap.size + 1, 2, none⟩) (Ext.setCell (p := ⟨w.heap.size + 1, 1, none⟩) (Ext.setCell (p := ⟨w.heap.size + 1, 0, none⟩) hX c_22 (.int .i64 p1)) c_22 (.int .i64 p1)) c_22 (.int .i64 p2)) c_22 (.int .i64 p2)) c_22 (.int .i64 p3)) c_22 (.int .i64 p3))⟩
 clear hK K hH
 have hH := hN
 clear hN
 try simp only [sx_]
 refine wpAnyH_name fun Yc0 hY => ?_
 rw [hY] at hH hcn hon
 clear hY
 clear hC hD hA hB hX hA' hB' hgb h3f h30 h31 h32 h33 h34 h35
 have hC := hcn
 have hD := hon
 clear hcn hon
 refine wpAnyH_ready (rs := [3]) c_4 (by simp) ?_
 refine rd1 rfl fun K hK => ?_
 obtain ⟨hA, hB, hX⟩ := id hH
 have h3f := hD.2.1
 have h30 := hD.1 0 (by decide)
 have h31 := hD.1 1 (by decide)
 have h32 := hD.1 2 (by decide)
 have h33 := hD.1 3 (by decide)
 have h34 := hD.1 4 (by decide)
 have h35 := hD.1 5 (by decide)
 have hgb := hD.gb6 v1 v2 v3
 have hcn := hD.set6 v1 v2 v3
 have hA' := hA.grown hgb (by omega)
 have hB' := hB.grown hgb (by omega)
 have hon := hC.grown hgb (by omega)
 go_simp
 refine hK.out _ _ ?_ (fun hN => ?_)
 ·(try dsimp only); exact ⟨hA', hB', (Ext.setCell (p := ⟨w.heap.size + 1 + 1, 5, none⟩) (Ext.setCell (p := ⟨w.heap.size + 1 + 1, 4, none⟩) (Ext.setCell (p := ⟨w.heap.size + 1 + 1, 3, none⟩) (Ext.setCell (p := ⟨w.heap.size + 1 + 1, 2, none⟩) (Ext.setCell (p := ⟨w.heap.size + 1 + 1, 1, none⟩) (Ext.setCell (p := ⟨w.heap.size + 1 + 1, 0, none⟩) hX c_22 (.int .i64 v1)) c_22 (.int .i64 v1)) c_22 (.int .i64 v2)) c_22 (.int .i64 v2)) c_22 (.int .i64 v3)) c_22 (.int .i64 v3))⟩
 clear hK K hH
 have hH := hN
 clear hN
 try simp only [sx_]
 refine wpAnyH_name fun Yc1 hY => ?_
 rw [hY] at hH hcn hon
 clear hY
 clear hC hD hA hB hX hA' hB' hgb h3f h30 h31 h32 h33 h34 h35
 have hD := hcn
 have hC := hon
 clear hcn hon
 refine wpAnyH_done c_4 ?_ _
 obtain ⟨hA, hB, hX⟩ := hH
 have ra0 : _ = some (Value.int .i64 p1) := hC.1 0 (by decide)
 have ra1 : _ = some (Value.int .i64 p1) := hC.1 1 (by decide)
 have ra2 : _ = some (Value.int .i64 p2) := hC.1 2 (by decide)
 have ra3 : _ = some (Value.int .i64 p2) := hC.1 3 (by decide)
 have ra4 : _ = some (Value.int .i64 p3) := hC.1 4 (by decide)
 have ra5 : _ = some (Value.int .i64 p3) := hC.1 5 (by decide)
 have rb0 : _ = some (Value.int .i64 v1) := hD.1 0 (by decide)
 have rb1 : _ = some (Value.int .i64 v1) := hD.1 1 (by decide)
 have rb2 : _ = some (Value.int .i64 v2) := hD.1 2 (by decide)
 have rb3 : _ = some (Value.int .i64 v2) := hD.1 3 (by decide)
 have rb4 : _ = some (Value.int .i64 v3) := hD.1 4 (by decide)
 have rb5 : _ = some (Value.int .i64 v3) := hD.1 5 (by decide)
 
 go_wp2_with fail
 refine bodyPost_ret (v := .tuple #[.agg #[.int .i64 p1, .int .i64 p1, .int .i64 p2, .int .i64 p2, .int .i64 p3, .int .i64 p3], .agg #[.int .i64 v1, .int .i64 v1, .int .i64 v2, .int .i64 v2, .int .i64 v3, .int .i64 v3]]) ?_ rfl ⟨rfl, hX⟩
 simp [results, Tryz.results87, go_sem, ↓IntWalk.iteOmega, *]
def rq1 (P : V3) : R3 := nrmI 0 P
noncomputable def rq2 (P : V3) : R3 := doI (rq1 P).e (sqrtI (rq1 P).lo (rq1 P).hi)
noncomputable def rq3 (P : V3) : R3 := doI (rq2 P).e (divI 2199023255552 2199023255552 (rq2 P).lo (rq2 P).hi)
noncomputable def rq4 (P V : V3) : R3 := nrmI (rq3 P).e V
noncomputable def rq5 (P V : V3) : R3 := doI (rq4 P V).e (divI (rq4 P V).lo (rq4 P V).hi 325358913 325358914)
noncomputable def rq6 (P V : V3) : R3 := doI (rq5 P V).e (subI (rq3 P).lo (rq3 P).hi (rq5 P V).lo (rq5 P V).hi)
noncomputable def rq7 (P V : V3) : R3 := kpI (rq6 P V).e 0 0 (crsV P V).e
noncomputable def rq8 (P V : V3) : R3 := nrmI (rq7 P V).e (crsV P V).v
noncomputable def rq9 (P V : V3) : R3 := doI (rq8 P V).e (mulI (rq8 P V).lo (rq8 P V).hi (rq6 P V).lo (rq6 P V).hi)
noncomputable def rq10 (P V : V3) : R3 := doI (rq9 P V).e (divI (rq9 P V).lo (rq9 P V).hi 325358913 325358914)
theorem Bn.new2 {n T : Nat} {a b : World} {g : Nat} {f : Nat → Int} (hs : Bn n b g f) (h : GB T a b) (hB : a.heap.size ≤ g) (x y : Int) : GB T a ((b.setCell ⟨g, 0, none⟩ (.int .i64 x)).setCell ⟨g, 1, none⟩ (.int .i64 y)) := (h.new hB _).new hB _
theorem nrmI_W (E : Int) (a : V3) : (nrmI E a).W := doI_W (addI_W _ _ _ _)
noncomputable def rq11 (P V : V3) : R3 := doI (rq10 P V).e (subI 1099511627776 1099511627776 (rq10 P V).lo (rq10 P V).hi)
end Go.Proofs.YtogblocakccbgaaGreat
