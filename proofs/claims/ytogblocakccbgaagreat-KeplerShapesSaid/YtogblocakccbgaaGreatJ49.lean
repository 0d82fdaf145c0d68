/- planisphereref33: Shape (over the contract of shape).; The reference of trig: Pi.; planisphereref33: the chain of a period. -/
import Derived.Test.YtogblocakccbgaaGreatJ00
import Derived.Test.YtogblocakccbgaaGreatJ47
import Derived.Test.YtogblocakccbgaaGreatJ33
import Derived.Test.YtogblocakccbgaaGreatJ43
import Derived.Test.YtogblocakccbgaaGreatJ42
set_option linter.unusedSimpArgs false
set_option linter.unusedVariables false
set_option maxRecDepth 100000
set_option maxHeartbeats 4000000
namespace Go.Proofs.YtogblocakccbgaaGreat
open Go.RowKit
theorem T_RSP_3 {p : Prop} (h : p := by
 intro w0 hSw; have qa0 := hSw.1.at 0 l6 (by decide) rfl; have qa1 := hSw.1.at 1 u6 (by decide) rfl; have qk0 := hSw.2.1.at 0 l11 (by decide) rfl; have qk1 := hSw.2.1.at 1 u11 (by decide) rfl; go_simp; try with_reducible rfl) : p := h
theorem T_RSP_2 {p : Prop} (h : p := by
 rw [← hU]
 refine ⟨fun o ho => ?_, fun o => by simp [go_sem, ↓IntWalk.iteOmega], by simp <;> omega⟩
 have hoo : o = 0 ∨ o = 1 := by omega
 rcases hoo with rfl | rfl <;> simp [go_sem, ↓IntWalk.iteOmega]) : p := h
theorem T_RSP_1 {p : Prop} (h : p := by
 rw [← hU]
 repeat (first | with_reducible exact Ext.refl _ | with_reducible assumption | with_reducible refine Ext.alloc ?_ _ | with_reducible refine Ext.setCell ?_ c_14 _ | with_reducible refine Ext.drewN ?_ _ | with_reducible refine Ext.drew ?_ | with_reducible refine Ext.trans ?_ c_1)) : p := h
theorem rf_Shape0 (t p1 p2 p3 v1 v2 v3 : Int) (hsh0 : ∀ (p : Nat) w1, Bn 1 w1 p (fun _ => 0) → Calls Tryz.prog 40 #[.pointer (some ⟨p, 0, none⟩), .agg #[.int .i64 t, .int .i64 p1, .int .i64 p2, .int .i64 p3, .int .i64 v1, .int .i64 v2, .int .i64 v3]] w1 fun e w2 => e = .returned (.tuple #[.agg #[.int .i64 (rq2 (dia p1 p2 p3)).lo, .int .i64 (rq2 (dia p1 p2 p3)).hi], .agg #[.int .i64 (rq6 (dia p1 p2 p3) (dia v1 v2 v3)).lo, .int .i64 (rq6 (dia p1 p2 p3) (dia v1 v2 v3)).hi], .agg #[.int .i64 (rq11 (dia p1 p2 p3) (dia v1 v2 v3)).lo, .int .i64 (rq11 (dia p1 p2 p3) (dia v1 v2 v3)).hi]]) ∧ GB p w1 w2 ∧ Bn 1 w2 p (fun _ => (rq11 (dia p1 p2 p3) (dia v1 v2 v3)).e)) (w : World) : Calls Tryz.prog 16 #[.agg #[.int .i64 t, .int .i64 p1, .int .i64 p2, .int .i64 p3, .int .i64 v1, .int .i64 v2, .int .i64 v3]] w fun e w' => ((¬ stE t p1 p2 p3 v1 v2 v3 = 0 ∧ e = .returned (.tuple #[.agg #[.int .i64 0, .int .i64 0], .agg #[.int .i64 0, .int .i64 0], .int .i64 (stE t p1 p2 p3 v1 v2 v3)])) ∨ (stE t p1 p2 p3 v1 v2 v3 = 0 ∧ (rq11 (dia p1 p2 p3) (dia v1 v2 v3)).e = 0 ∧ e = .returned (.tuple #[.agg #[.int .i64 (rq6 (dia p1 p2 p3) (dia v1 v2 v3)).lo, .int .i64 (rq6 (dia p1 p2 p3) (dia v1 v2 v3)).hi], .agg #[.int .i64 (rq11 (dia p1 p2 p3) (dia v1 v2 v3)).lo, .int .i64 (rq11 (dia p1 p2 p3) (dia v1 v2 v3)).hi], .int .i64 0])) ∨ (stE t p1 p2 p3 v1 v2 v3 = 0 ∧ ¬ (rq11 (dia p1 p2 p3) (dia v1 v2 v3)).e = 0 ∧ e = .returned (.tuple #[.agg #[.int .i64 0, .int .i64 0], .agg #[.int .i64 0, .int .i64 0], .int .i64 24]))) ∧ Ext w w' := by
 obtain ⟨⟨l2, u2, e2⟩, hn2⟩ : ∃ x, rq2 (dia p1 p2 p3) = x := ⟨_, rfl⟩
 obtain ⟨⟨l6, u6, e6⟩, hn6⟩ : ∃ x, rq6 (dia p1 p2 p3) (dia v1 v2 v3) = x := ⟨_, rfl⟩
 obtain ⟨⟨l11, u11, e11⟩, hn11⟩ : ∃ x, rq11 (dia p1 p2 p3) (dia v1 v2 v3) = x := ⟨_, rfl⟩
 have hck0 := fun w1 => r_CheckS t p1 p2 p3 v1 v2 v3 w1
 obtain ⟨E, hEe⟩ : ∃ x, stE t p1 p2 p3 v1 v2 v3 = x := ⟨_, rfl⟩
 rw [hEe] at hck0
 have hck : Hid (∀ w1, Calls Tryz.prog 39 #[.agg #[.int .i64 t, .int .i64 p1, .int .i64 p2, .int .i64 p3, .int .i64 v1, .int .i64 v2, .int .i64 v3]] w1 fun e w2 => e = .returned (.int .i64 E) ∧ Ext w1 w2) := hck0
 rw [hn2, hn6, hn11] at hsh0
 dsimp only at hsh0
 have hsh : Hid (∀ (p : Nat) w1, Bn 1 w1 p (fun _ => 0) → Calls Tryz.prog 40 #[.pointer (some ⟨p, 0, none⟩), .agg #[.int .i64 t, .int .i64 p1, .int .i64 p2, .int .i64 p3, .int .i64 v1, .int .i64 v2, .int .i64 v3]] w1 fun e w2 => e = .returned (.tuple #[.agg #[.int .i64 l2, .int .i64 u2], .agg #[.int .i64 l6, .int .i64 u6], .agg #[.int .i64 l11, .int .i64 u11]]) ∧ GB p w1 w2 ∧ Bn 1 w2 p (fun _ => e11)) := hsh0
 rw [hn6, hn11, hEe]
 dsimp only
 clear hn2 hn6 hn11 hsh0 hEe hck0
 have q0 : IntKind.i64.wrap 0 = 0 := rfl
 have q1 : IntKind.i64.wrap 1 = 1 := rfl
 go_enter Tryz.func16, Tryz.ntmps16
 go_upto_region 1 with fail
 refine wp_nameE fun U0 hU => ?_
 have hE : Ext w U0 := by
  exact T_RSP_1
 have h7 : Bn 7 U0 (w.heap.size) (fun o => if o = 0 then t else if o = 1 then p1 else if o = 2 then p2 else if o = 3 then p3 else if o = 4 then v1 else if o = 5 then v2 else v3) := by
  rw [← hU]
  refine ⟨fun o ho => ?_, fun o => by simp [go_sem, ↓IntWalk.iteOmega], by simp <;> omega⟩
  have hoo : o = 0 ∨ o = 1 ∨ o = 2 ∨ o = 3 ∨ o = 4 ∨ o = 5 ∨ o = 6 := by omega
  rcases hoo with rfl | rfl | rfl | rfl | rfl | rfl | rfl <;> simp [go_sem, ↓IntWalk.iteOmega]
 have hT2 : Bn 2 U0 (w.heap.size + 1) (fun _ => 0) := by
  exact T_RSP_2
 have hT3 : Bn 2 U0 (w.heap.size + 1 + 1) (fun _ => 0) := by
  exact T_RSP_2
 clear hU
 have h7q0 := h7.at 0 (t) (by decide) rfl
 have h7q1 := h7.at 1 (p1) (by decide) rfl
 have h7q2 := h7.at 2 (p2) (by decide) rfl
 have h7q3 := h7.at 3 (p3) (by decide) rfl
 have h7q4 := h7.at 4 (v1) (by decide) rfl
 have h7q5 := h7.at 5 (v2) (by decide) rfl
 have h7q6 := h7.at 6 (v3) (by decide) rfl
 by_cases h0 : E = 0
 ·subst h0
  go_upto_region 3 with (go_at_call 39; (with_reducible refine (hck.out _).mono ?_); rintro e w1 ⟨rfl, hb⟩; replace h7 := h7.ext hb; replace hT2 := hT2.ext hb; replace hT3 := hT3.ext hb; replace hE := hE.trans hb)
  go_upto_region 4 with fail
  refine wp_nameE fun U1 hU => ?_
  have hx : Ext w1 U1 := by
   exact T_RSP_1
  have hC : Bn 1 U1 (w1.heap.size) (fun _ => 0) := by
   rw [← hU]
   refine ⟨fun o ho => ?_, fun o => by simp [go_sem, ↓IntWalk.iteOmega], by simp <;> omega⟩
   have hoo : o = 0 := by omega
   subst hoo
   simp [go_sem, ↓IntWalk.iteOmega]
  have hl3 := hT3.2.2
  replace h7 := h7.ext hx
  replace hT2 := hT2.ext hx
  replace hT3 := hT3.ext hx
  replace hE := hE.trans hx
  clear hU hx hb h7q0 h7q1 h7q2 h7q3 h7q4 h7q5 h7q6
  obtain ⟨gC, hgC⟩ : ∃ x, w1.heap.size = x := ⟨_, rfl⟩
  rw [hgC] at hC hl3 ⊢
  clear hgC
  have h7q0 := h7.at 0 (t) (by decide) rfl
  have h7q1 := h7.at 1 (p1) (by decide) rfl
  have h7q2 := h7.at 2 (p2) (by decide) rfl
  have h7q3 := h7.at 3 (p3) (by decide) rfl
  have h7q4 := h7.at 4 (v1) (by decide) rfl
  have h7q5 := h7.at 5 (v2) (by decide) rfl
  have h7q6 := h7.at 6 (v3) (by decide) rfl
  go_upto_region 5 with (go_at_call 40; (with_reducible refine (hsh.out _ _ hC).mono ?_); rintro e w1 ⟨rfl, hg, hC2⟩; replace hT2 := hT2.grown hg (by omega); replace hT3 := hT3.grown hg (by omega); replace hE := GB.pre hE hg (by omega))
  clear hC
  have hC := hC2
  clear hC2
  refine wp_nameE fun U2 hU => ?_
  have hx : Ext w1 U2 := by
   exact T_RSP_1
  have hA : Bn 2 U2 (w1.heap.size + 1) (fun o => if o = 0 then l6 else u6) := by
   exact T_RSP_2
  have hK9 : Bn 2 U2 (w1.heap.size + 1 + 1) (fun o => if o = 0 then l11 else u11) := by
   exact T_RSP_2
  have hlC := hC.2.2
  replace hT2 := hT2.ext hx
  replace hT3 := hT3.ext hx
  replace hC := hC.ext hx
  replace hE := hE.trans hx
  clear hU hx hg h7 h7q0 h7q1 h7q2 h7q3 h7q4 h7q5 h7q6
  obtain ⟨gA, hgA⟩ : ∃ x, w1.heap.size + 1 = x := ⟨_, rfl⟩
  obtain ⟨gK, hgK⟩ : ∃ x, w1.heap.size + 1 + 1 = x := ⟨_, rfl⟩
  rw [hgK] at hK9
  rw [hgA] at hA
  have hlA : gC < gA := by omega
  have hlK : gA < gK := by omega
  rw [hgK]
  rw [hgA]
  clear hgA hgK hlC
  have ce := hC.at 0 e11 (by decide) rfl
  by_cases hz : e11 = 0
  ·subst hz
   go_upto_region 7 with fail
   replace hT2 := hT2.ext ((Ext.refl _).drew)
   replace hT3 := hT3.ext ((Ext.refl _).drew)
   refine wp_region_held_drew (S := (fun w0 => Bn 2 w0 gA (fun o => if o = 0 then l6 else u6) ∧ Bn 2 w0 gK (fun o => if o = 0 then l11 else u11) ∧ Ext w w0)) c_4 ?_ (fun hH => ?_)
   ·exact ⟨hA.ext ((Ext.refl _).drew), hK9.ext ((Ext.refl _).drew), hE.drew⟩
   try simp only [sx_]
   refine wpAnyH_name fun Y7 hY => ?_
   rw [hY] at hH hT2 hT3
   clear hY
   clear hA hK9 hE
   refine tk (v := ?_) 0 rfl ?_ ?_
   rotate_left
   ·exact T_RSP_3
   try simp only [sx_]
   refine tk (v := ?_) 1 rfl ?_ ?_
   rotate_left
   ·exact T_RSP_3
   try simp only [sx_]
   refine wpAnyH_ready (rs := [2]) c_4 (by simp) ?_
   refine rd1 rfl fun K hK => ?_
   obtain ⟨hA, hK9, hE⟩ := id hH
   have c0 := hT2.at 0 0 (by decide) rfl
   have d1 := hT2.at 1 0 (by decide) rfl
   have cf := hT2.2.1
   have hgb := hT2.gb2 0 1 l6 u6
   replace hT2 := (hT2.set 0 l6).set 1 u6
   replace hT3 := hT3.grown hgb (by omega)
   replace hA := hA.grown hgb (by omega)
   replace hK9 := hK9.grown hgb (by omega)
   replace hE := GB.pre hE hgb (by omega)
   clear hgb
   go_simp
   refine hK.out _ _ ?_ (fun hN => ?_)
   ·(try dsimp only); exact ⟨hA, hK9, hE⟩
   clear hK K hH
   have hH := hN
   clear hN
   try simp only [sx_]
   refine wpAnyH_name fun Z0 hY => ?_
   rw [hY] at hH hT2 hT3
   clear hY
   clear c0 d1 cf hA hK9 hE
   refine wpAnyH_ready (rs := [3]) c_4 (by simp) ?_
   refine rd1 rfl fun K hK => ?_
   obtain ⟨hA, hK9, hE⟩ := id hH
   have c0 := hT3.at 0 0 (by decide) rfl
   have d1 := hT3.at 1 0 (by decide) rfl
   have cf := hT3.2.1
   have hgb := hT3.gb2 0 1 l11 u11
   replace hT3 := (hT3.set 0 l11).set 1 u11
   replace hT2 := hT2.grown hgb (by omega)
   replace hA := hA.grown hgb (by omega)
   replace hK9 := hK9.grown hgb (by omega)
   replace hE := GB.pre hE hgb (by omega)
   clear hgb
   go_simp
   refine hK.out _ _ ?_ (fun hN => ?_)
   ·(try dsimp only); exact ⟨hA, hK9, hE⟩
   clear hK K hH
   have hH := hN
   clear hN
   try simp only [sx_]
   refine wpAnyH_name fun Z1 hY => ?_
   rw [hY] at hH hT2 hT3
   clear hY
   clear c0 d1 cf hA hK9 hE
   refine tk 4 rfl c_0 ?_
   try simp only [sx_]
   refine wpAnyH_done c_4 ?_ _
   obtain ⟨hA, hK9, hE⟩ := hH
   have rhT20 := hT2.at 0 l6 (by decide) rfl
   have fhT20 := hT2.2.1 0
   have rhT21 := hT2.at 1 u6 (by decide) rfl
   have fhT21 := hT2.2.1 1
   have rhT30 := hT3.at 0 l11 (by decide) rfl
   have fhT30 := hT3.2.1 0
   have rhT31 := hT3.at 1 u11 (by decide) rfl
   have fhT31 := hT3.2.1 1
   have zT2 := hT2.2.2
   have zT3 := hT3.2.2
   go_wp2_with fail
   refine bodyPost_ret (v := .tuple #[.agg #[.int .i64 l6, .int .i64 u6], .agg #[.int .i64 l11, .int .i64 u11], .int .i64 0]) ?_ rfl ⟨by simp, hE⟩
   simp [results, Tryz.results16, go_sem, ↓IntWalk.iteOmega, *]
  ·have rhT20 := hT2.at 0 0 (by decide) rfl
   have fhT20 := hT2.2.1 0
   have rhT21 := hT2.at 1 0 (by decide) rfl
   have fhT21 := hT2.2.1 1
   have rhT30 := hT3.at 0 0 (by decide) rfl
   have fhT30 := hT3.2.1 0
   have rhT31 := hT3.at 1 0 (by decide) rfl
   have fhT31 := hT3.2.1 1
   have zT2 := hT2.2.2
   have zT3 := hT3.2.2
   have d23 : ¬ w.heap.size + 1 = w.heap.size + 1 + 1 := by omega
   go_wp2_with fail
   refine bodyPost_ret (v := .tuple #[.agg #[.int .i64 0, .int .i64 0], .agg #[.int .i64 0, .int .i64 0], .int .i64 24]) ?_ rfl ⟨by simp [hz], ?_⟩
   ·simp [results, Tryz.results16, go_sem, ↓IntWalk.iteOmega, *]
   ·exact ex_
 ·go_wp2_with (go_at_call 39; (with_reducible refine (hck.out _).mono ?_); rintro e w1 ⟨rfl, hb⟩; replace h7 := h7.ext hb; replace hT2 := hT2.ext hb; replace hT3 := hT3.ext hb; replace hE := hE.trans hb; (have rhT20 := hT2.at 0 0 (by decide) rfl); (have fhT20 := hT2.2.1 0); (have rhT21 := hT2.at 1 0 (by decide) rfl); (have fhT21 := hT2.2.1 1); (have rhT30 := hT3.at 0 0 (by decide) rfl); (have fhT30 := hT3.2.1 0); (have rhT31 := hT3.at 1 0 (by decide) rfl); (have fhT31 := hT3.2.1 1); (have zT2 := hT2.2.2); (have zT3 := hT3.2.2); (have g0 := h7.at 0 t (by decide) rfl); (have g1 := h7.at 1 p1 (by decide) rfl); (have g2 := h7.at 2 p2 (by decide) rfl); (have g3 := h7.at 3 p3 (by decide) rfl); (have g4 := h7.at 4 v1 (by decide) rfl); (have g5 := h7.at 5 v2 (by decide) rfl); (have g6 := h7.at 6 v3 (by decide) rfl))
  have d23 : ¬ w.heap.size + 1 = w.heap.size + 1 + 1 := by omega
  refine bodyPost_ret (v := .tuple #[.agg #[.int .i64 0, .int .i64 0], .agg #[.int .i64 0, .int .i64 0], .int .i64 E]) ?_ rfl ⟨by simp [h0], ?_⟩
  ·simp [results, Tryz.results16, go_sem, ↓IntWalk.iteOmega, *]
  ·exact ex_
theorem q_Pi (w : World) : Calls Tryz.prog 51 #[] w fun e w' => e = .returned (.agg #[.int .i64 3454217652357, .int .i64 3454217652358]) ∧ Ext w w' := by
 have hci : ∀ w, Calls Tryz.prog 71 #[.int .i64 100] w fun e w' => ∃ u, e = .returned u ∧ PairV w' u 3982441812995697363688351113952 3982441812995697363688351113953 ∧ Ext w w' := fun w =>
  q_Circle 262383704396098409604205562652454342 5561590958449548710103136193927924 100 3982441812995697363688351113952 3982441812995697363688351113953 w (by decide) c_4 c_4 c_4 c_4 (by decide) (by decide) c_4 c_4 c_4 c_4
 have hro := fun v w1 (hb : PairV w1 v 3982441812995697363688351113952 3982441812995697363688351113953) => q_rounded v 3982441812995697363688351113952 3982441812995697363688351113953 3454217652357 w1 hb (okN.sz c_4) (okN.sz c_4) c_4 c_4 (by decide)
 have hro' : ∀ v w1, PairV w1 v 3982441812995697363688351113952 3982441812995697363688351113953 → Calls Tryz.prog 34 #[v, .int .i64 100] w1 fun e w' => e = .returned (.tuple #[.agg #[.int .i64 3454217652357, .int .i64 3454217652358], .bool true]) ∧ Ext w1 w' := hro
 clear hro
 obtain ⟨X, hX⟩ : ∃ X : Int, X = 3982441812995697363688351113952 := ⟨_, rfl⟩
 obtain ⟨Y, hY⟩ : ∃ Y : Int, Y = 3982441812995697363688351113953 := ⟨_, rfl⟩
 rw [← hX, ← hY] at hci hro'
 clear hX hY
 go_enter Tryz.func51, Tryz.ntmps51
 go_wp2_with (first
  | (go_at_call 71; (with_reducible refine (hci _).mono ?_); rintro e w1 ⟨y1, rfl, hy1, hb⟩; obtain ⟨_, _, hc, hf⟩ := hb.cells2; have hz := hb.size; (try simp only [wsz] at hz hc hf))
  | (go_at_call 34; (with_reducible refine (hro' _ _ hy1).mono ?_); rintro e w2 ⟨rfl, hb2⟩; obtain ⟨_, _, hc2, hf2⟩ := hb2.cells2; have hz2 := hb2.size; (try simp only [wsz] at hz2 hc2 hf2)))
 refine bodyPost_ret (v := .agg #[.int .i64 3454217652357, .int .i64 3454217652358]) ?_ rfl ⟨rfl, ?_⟩
 ·simp [results, Tryz.results51, go_sem, ↓IntWalk.iteOmega, *]
 ·exact ex_
noncomputable def rp1 : R3 := doI 0 (sqrtI 325358913 325358914)
noncomputable def rp2 (P V : V3) : R3 := doI rp1.e (mulI rp1.lo rp1.hi (rq6 P V).lo (rq6 P V).hi)
noncomputable def rp3 (P V : V3) : R3 := doI (rp2 P V).e (sqrtI (rq6 P V).lo (rq6 P V).hi)
noncomputable def rp4 (P V : V3) : R3 := doI (rp3 P V).e (mulI (rp2 P V).lo (rp2 P V).hi (rp3 P V).lo (rp3 P V).hi)
noncomputable def rp5 (P V : V3) : R3 := kpI (rp4 P V).e shT.lo shT.hi shT.e
noncomputable def rp6 (P V : V3) : R3 := doI (rp5 P V).e (divI (rp5 P V).lo (rp5 P V).hi (rp4 P V).lo (rp4 P V).hi)
def RpOk (P V : V3) : Prop := (rq11 P V).e = 0 ∧ 0 < (rq6 P V).lo ∧ (rp6 P V).e = 0
end Go.Proofs.YtogblocakccbgaaGreat
