/- kepler.Shape (over the contract of shape).; trig: add, sub, with signs.; Numbers with signs: multiplied.; trig: num, mul, sign, shift, with signs. -/
import Derived.Test.YtogblocakccbgaaGreatJ00
import Derived.Test.YtogblocakccbgaaGreatJ38
import Derived.Test.YtogblocakccbgaaGreatJ34
import Derived.Test.YtogblocakccbgaaGreatJ13
import Derived.Test.YtogblocakccbgaaGreatJ12
import Derived.Test.YtogblocakccbgaaGreatJ10
import Derived.Test.YtogblocakccbgaaGreatJ28
set_option linter.unusedSimpArgs false
set_option linter.unusedVariables false
set_option maxRecDepth 100000
set_option maxHeartbeats 4000000
namespace Go.Proofs.YtogblocakccbgaaGreat
open Go.RowKit
theorem T_KPS_3 {p : Prop} (h : p := by
 intro w0 hSw; have qa2 := hSw.1.at 2 l6 (by decide) rfl; have qa3 := hSw.1.at 3 u6 (by decide) rfl; have qa4 := hSw.1.at 4 l11 (by decide) rfl; have qa5 := hSw.1.at 5 u11 (by decide) rfl; go_simp; try with_reducible rfl) : p := h
theorem T_KPS_2 {p : Prop} (h : p := by
 rw [← hU]
 refine ⟨fun o ho => ?_, fun o => by simp [go_sem, ↓IntWalk.iteOmega], by simp <;> omega⟩
 have hoo : o = 0 ∨ o = 1 := by omega
 rcases hoo with rfl | rfl <;> simp [go_sem, ↓IntWalk.iteOmega]) : p := h
theorem T_KPS_1 {p : Prop} (h : p := by
 rw [← hU]
 repeat (first | with_reducible exact Ext.refl _ | with_reducible assumption | with_reducible refine Ext.alloc ?_ _ | with_reducible refine Ext.setCell ?_ c_14 _ | with_reducible refine Ext.drewN ?_ _ | with_reducible refine Ext.drew ?_ | with_reducible refine Ext.trans ?_ c_1)) : p := h
theorem k_Shape0 (t p1 p2 p3 v1 v2 v3 : Int) (hsh0 : ∀ w1, Calls Tryz.prog 38 #[.agg #[.int .i64 t, .int .i64 p1, .int .i64 p2, .int .i64 p3, .int .i64 v1, .int .i64 v2, .int .i64 v3]] w1 fun e w2 => ((ShOk (dia p1 p2 p3) (dia v1 v2 v3) ∧ e = .returned (.agg #[.int .i64 (shR (dia p1 p2 p3)).lo, .int .i64 (shR (dia p1 p2 p3)).hi, .int .i64 (shA (dia p1 p2 p3) (dia v1 v2 v3)).lo, .int .i64 (shA (dia p1 p2 p3) (dia v1 v2 v3)).hi, .int .i64 (shK (dia p1 p2 p3) (dia v1 v2 v3)).lo, .int .i64 (shK (dia p1 p2 p3) (dia v1 v2 v3)).hi, .int .i64 (shZ).lo, .int .i64 (shZ).hi, .int .i64 0, .int .i64 0, .int .i64 0, .int .i64 0, .int .i64 0, .int .i64 0, .int .i64 0, .int .i64 0])) ∨ (¬ ShOk (dia p1 p2 p3) (dia v1 v2 v3) ∧ e = .panicked FALL)) ∧ Ext w1 w2) (w : World) : Calls Tryz.prog 15 #[.agg #[.int .i64 t, .int .i64 p1, .int .i64 p2, .int .i64 p3, .int .i64 v1, .int .i64 v2, .int .i64 v3]] w fun e w' => ((¬ stE t p1 p2 p3 v1 v2 v3 = 0 ∧ e = .returned (.tuple #[.agg #[.int .i64 0, .int .i64 0], .agg #[.int .i64 0, .int .i64 0], .int .i64 (stE t p1 p2 p3 v1 v2 v3)])) ∨ (stE t p1 p2 p3 v1 v2 v3 = 0 ∧ ShOk (dia p1 p2 p3) (dia v1 v2 v3) ∧ e = .returned (.tuple #[.agg #[.int .i64 (shA (dia p1 p2 p3) (dia v1 v2 v3)).lo, .int .i64 (shA (dia p1 p2 p3) (dia v1 v2 v3)).hi], .agg #[.int .i64 (shK (dia p1 p2 p3) (dia v1 v2 v3)).lo, .int .i64 (shK (dia p1 p2 p3) (dia v1 v2 v3)).hi], .int .i64 0])) ∨ (stE t p1 p2 p3 v1 v2 v3 = 0 ∧ ¬ ShOk (dia p1 p2 p3) (dia v1 v2 v3) ∧ e = .returned (.tuple #[.agg #[.int .i64 0, .int .i64 0], .agg #[.int .i64 0, .int .i64 0], .int .i64 24]))) ∧ Ext w w' := by
 obtain ⟨⟨l2, u2, e2⟩, hn2⟩ : ∃ x, shR (dia p1 p2 p3) = x := ⟨_, rfl⟩
 obtain ⟨⟨l6, u6, e6⟩, hn6⟩ : ∃ x, shA (dia p1 p2 p3) (dia v1 v2 v3) = x := ⟨_, rfl⟩
 obtain ⟨⟨l11, u11, e11⟩, hn11⟩ : ∃ x, shK (dia p1 p2 p3) (dia v1 v2 v3) = x := ⟨_, rfl⟩
 obtain ⟨⟨l12, u12, e12⟩, hn12⟩ : ∃ x, shZ = x := ⟨_, rfl⟩
 obtain ⟨Sk, hSk⟩ : ∃ Ok : Prop, ShOk (dia p1 p2 p3) (dia v1 v2 v3) = Ok := ⟨_, rfl⟩
 have hck0 := fun w1 => k_Check t p1 p2 p3 v1 v2 v3 w1
 obtain ⟨E, hEe⟩ : ∃ x, stE t p1 p2 p3 v1 v2 v3 = x := ⟨_, rfl⟩
 rw [hEe] at hck0
 have hck : Hid (∀ w1, Calls Tryz.prog 36 #[.agg #[.int .i64 t, .int .i64 p1, .int .i64 p2, .int .i64 p3, .int .i64 v1, .int .i64 v2, .int .i64 v3]] w1 fun e w2 => e = .returned (.int .i64 E) ∧ Ext w1 w2) := hck0
 rw [hSk, hn2, hn6, hn11, hn12] at hsh0
 dsimp only at hsh0
 have hsh : Hid (∀ w1, Calls Tryz.prog 38 #[.agg #[.int .i64 t, .int .i64 p1, .int .i64 p2, .int .i64 p3, .int .i64 v1, .int .i64 v2, .int .i64 v3]] w1 fun e w2 => ((Sk ∧ e = .returned (.agg #[.int .i64 l2, .int .i64 u2, .int .i64 l6, .int .i64 u6, .int .i64 l11, .int .i64 u11, .int .i64 l12, .int .i64 u12, .int .i64 0, .int .i64 0, .int .i64 0, .int .i64 0, .int .i64 0, .int .i64 0, .int .i64 0, .int .i64 0])) ∨ (¬ Sk ∧ e = .panicked FALL)) ∧ Ext w1 w2) := hsh0
 rw [hn6, hn11, hSk, hEe]
 dsimp only
 clear hSk hn2 hn6 hn11 hn12 hsh0 hEe hck0
 have q0 : IntKind.i64.wrap 0 = 0 := rfl
 have q1 : IntKind.i64.wrap 1 = 1 := rfl
 go_enter_defers Tryz.func15, Tryz.ntmps15
 go_upto_region 1 with fail
 refine wp_nameE fun U0 hU => ?_
 have hE : Ext w U0 := by
  exact T_KPS_1
 have h7 : Bn 7 U0 (w.heap.size) (fun o => if o = 0 then t else if o = 1 then p1 else if o = 2 then p2 else if o = 3 then p3 else if o = 4 then v1 else if o = 5 then v2 else v3) := by
  rw [← hU]
  refine ⟨fun o ho => ?_, fun o => by simp [go_sem, ↓IntWalk.iteOmega], by simp <;> omega⟩
  have hoo : o = 0 ∨ o = 1 ∨ o = 2 ∨ o = 3 ∨ o = 4 ∨ o = 5 ∨ o = 6 := by omega
  rcases hoo with rfl | rfl | rfl | rfl | rfl | rfl | rfl <;> simp [go_sem, ↓IntWalk.iteOmega]
 have hT2 : Bn 2 U0 (w.heap.size + 1) (fun _ => 0) := by
  exact T_KPS_2
 have hT3 : Bn 2 U0 (w.heap.size + 1 + 1) (fun _ => 0) := by
  exact T_KPS_2
 have hT4 : Bn 1 U0 (w.heap.size + 1 + 1 + 1) (fun _ => 0) := by
  rw [← hU]
  refine ⟨fun o ho => ?_, fun o => by simp [go_sem, ↓IntWalk.iteOmega], by simp <;> omega⟩
  have hoo : o = 0 := by omega
  subst hoo
  simp [go_sem, ↓IntWalk.iteOmega]
 clear hU
 have h7q0 := h7.at 0 (t) (by decide) rfl
 have h7q1 := h7.at 1 (p1) (by decide) rfl
 have h7q2 := h7.at 2 (p2) (by decide) rfl
 have h7q3 := h7.at 3 (p3) (by decide) rfl
 have h7q4 := h7.at 4 (v1) (by decide) rfl
 have h7q5 := h7.at 5 (v2) (by decide) rfl
 have h7q6 := h7.at 6 (v3) (by decide) rfl
 by_cases h0 : E = 0
 ·subst h0
  go_upto_region 5 with (go_at_call 36; (with_reducible refine (hck.out _).mono ?_); rintro e w1 ⟨rfl, hb⟩; replace h7 := h7.ext hb; replace hT2 := hT2.ext hb; replace hT3 := hT3.ext hb; replace hT4 := hT4.ext hb; replace hE := hE.trans hb)
  clear h7q0 h7q1 h7q2 h7q3 h7q4 h7q5 h7q6
  have h7q0 := h7.at 0 (t) (by decide) rfl
  have h7q1 := h7.at 1 (p1) (by decide) rfl
  have h7q2 := h7.at 2 (p2) (by decide) rfl
  have h7q3 := h7.at 3 (p3) (by decide) rfl
  have h7q4 := h7.at 4 (v1) (by decide) rfl
  have h7q5 := h7.at 5 (v2) (by decide) rfl
  have h7q6 := h7.at 6 (v3) (by decide) rfl
  go_upto_region 6 with (go_at_call 38; (with_reducible refine (hsh.out _).mono ?_); rintro e w1 ⟨⟨hzS, rfl⟩ | ⟨hzS, rfl⟩, hb⟩; rotate_left; (focus (replace h7 := h7.ext hb; replace hT2 := hT2.ext hb; replace hT3 := hT3.ext hb; replace hT4 := hT4.ext hb; replace hE := hE.trans hb; (try go_wp2_with fail); refine leaves_cons (f := 37) (args := #[.pointer (some ⟨w.heap.size + 1 + 1 + 1, 0, none⟩)]) (by simp) c_47 ?_; refine (k_caught _ _ (hT4.at 0 0 (by decide) rfl) (hT4.2.1 0)).mono ?_; rintro e u' w'' ⟨rfl, rfl, rfl⟩; (have rhT20 := hT2.at 0 (0) (by decide) rfl); (have fhT20 := hT2.2.1 0); (have rhT21 := hT2.at 1 (0) (by decide) rfl); (have fhT21 := hT2.2.1 1); (have rhT30 := hT3.at 0 (0) (by decide) rfl); (have fhT30 := hT3.2.1 0); (have rhT31 := hT3.at 1 (0) (by decide) rfl); (have fhT31 := hT3.2.1 1); (have rhT40 := hT4.at 0 (0) (by decide) rfl); (have fhT40 := hT4.2.1 0); (have zT2 := hT2.2.2); (have zT3 := hT3.2.2); (have zT4 := hT4.2.2); (have d23 : ¬ w.heap.size + 1 = w.heap.size + 1 + 1 := by omega); (have d34 : ¬ w.heap.size + 1 + 1 = w.heap.size + 1 + 1 + 1 := by omega); (have d24 : ¬ w.heap.size + 1 = w.heap.size + 1 + 1 + 1 := by omega); refine ⟨.tuple #[.agg #[.int .i64 0, .int .i64 0], .agg #[.int .i64 0, .int .i64 0], .int .i64 24], ?_, rfl, ?_⟩; (simp [results, Tryz.results15, go_sem, ↓IntWalk.iteOmega, *]); (have hgg := (GB.refl (w.heap.size + 1 + 1 + 1) w1).set (j := 0) (.int .i64 24)); exact GB.pre hE (hgg.alloc _) (by omega))); replace h7 := h7.ext hb; replace hT2 := hT2.ext hb; replace hT3 := hT3.ext hb; replace hT4 := hT4.ext hb; replace hE := hE.trans hb)
  refine wp_nameE fun U1 hU => ?_
  have hx : Ext w1 U1 := by
   exact T_KPS_1
  have hA : Bn 16 U1 (w1.heap.size) (fun o => if o = 0 then l2 else if o = 1 then u2 else if o = 2 then l6 else if o = 3 then u6 else if o = 4 then l11 else if o = 5 then u11 else if o = 6 then l12 else if o = 7 then u12 else if o = 8 then 0 else if o = 9 then 0 else if o = 10 then 0 else if o = 11 then 0 else if o = 12 then 0 else if o = 13 then 0 else if o = 14 then 0 else 0) := by
   rw [← hU]
   refine ⟨fun o ho => ?_, fun o => by simp [go_sem, ↓IntWalk.iteOmega], by simp <;> omega⟩
   have hoo : o = 0 ∨ o = 1 ∨ o = 2 ∨ o = 3 ∨ o = 4 ∨ o = 5 ∨ o = 6 ∨ o = 7 ∨ o = 8 ∨ o = 9 ∨ o = 10 ∨ o = 11 ∨ o = 12 ∨ o = 13 ∨ o = 14 ∨ o = 15 := by omega
   rcases hoo with rfl | rfl | rfl | rfl | rfl | rfl | rfl | rfl | rfl | rfl | rfl | rfl | rfl | rfl | rfl | rfl <;> simp [go_sem, ↓IntWalk.iteOmega]
  have hOl := hT4.2.2
  replace hT2 := hT2.ext hx
  replace hT3 := hT3.ext hx
  replace hT4 := hT4.ext hx
  replace hE := hE.trans hx
  clear hU hx hb h7 h7q0 h7q1 h7q2 h7q3 h7q4 h7q5 h7q6
  obtain ⟨gA, hgA⟩ : ∃ x, w1.heap.size = x := ⟨_, rfl⟩
  rw [hgA] at hA hOl ⊢
  clear hgA
  replace hT2 := hT2.ext ((Ext.refl _).drew)
  replace hT3 := hT3.ext ((Ext.refl _).drew)
  replace hT4 := hT4.ext ((Ext.refl _).drew)
  refine wp_region_held_drew (S := (fun w0 => Bn 16 w0 gA (fun o => if o = 0 then l2 else if o = 1 then u2 else if o = 2 then l6 else if o = 3 then u6 else if o = 4 then l11 else if o = 5 then u11 else if o = 6 then l12 else if o = 7 then u12 else if o = 8 then 0 else if o = 9 then 0 else if o = 10 then 0 else if o = 11 then 0 else if o = 12 then 0 else if o = 13 then 0 else if o = 14 then 0 else 0) ∧ Ext w w0)) c_4 ?_ (fun hH => ?_)
  ·exact ⟨hA.ext ((Ext.refl _).drew), hE.drew⟩
  try simp only [sx_]
  refine wpAnyH_name fun Y0 hY => ?_
  rw [hY] at hH hT2 hT3 hT4
  clear hY
  clear hA hE
  refine wpAnyH_take (i := 0) (oi := _) (v := ?_) rfl c_4 c_4 c_4 (fun _ _ _ h => leaves_congr (res15 _ 16 _ (by decide) (by decide) (by decide)) _ _ _ h) (Or.inl ⟨by rfl, ?_⟩) c_32 ?_
  rotate_left
  ·intro w0 hSw; go_simp; try with_reducible rfl
  try simp only [sx_]
  refine wpAnyH_take (i := 1) (oi := _) (v := ?_) rfl c_4 c_4 c_4 (fun _ _ _ h => leaves_congr (res15 _ 17 _ (by decide) (by decide) (by decide)) _ _ _ h) (Or.inl ⟨by rfl, ?_⟩) c_32 ?_
  rotate_left
  ·intro w0 hSw; go_simp; try with_reducible rfl
  try simp only [sx_]
  refine wpAnyH_take (i := 2) (oi := _) (v := ?_) rfl c_4 c_4 c_4 (fun _ _ _ h => leaves_congr (res15 _ 18 _ (by decide) (by decide) (by decide)) _ _ _ h) (Or.inl ⟨by rfl, ?_⟩) c_32 ?_
  rotate_left
  ·exact T_KPS_3
  try simp only [sx_]
  refine wpAnyH_take (i := 3) (oi := _) (v := ?_) rfl c_4 c_4 c_4 (fun _ _ _ h => leaves_congr (res15 _ 19 _ (by decide) (by decide) (by decide)) _ _ _ h) (Or.inl ⟨by rfl, ?_⟩) c_32 ?_
  rotate_left
  ·intro w0 hSw; go_simp; try with_reducible rfl
  try simp only [sx_]
  refine wpAnyH_take (i := 4) (oi := _) (v := ?_) rfl c_4 c_4 c_4 (fun _ _ _ h => leaves_congr (res15 _ 20 _ (by decide) (by decide) (by decide)) _ _ _ h) (Or.inl ⟨by rfl, ?_⟩) c_32 ?_
  rotate_left
  ·intro w0 hSw; go_simp; try with_reducible rfl
  try simp only [sx_]
  refine wpAnyH_take (i := 5) (oi := _) (v := ?_) rfl c_4 c_4 c_4 (fun _ _ _ h => leaves_congr (res15 _ 21 _ (by decide) (by decide) (by decide)) _ _ _ h) (Or.inl ⟨by rfl, ?_⟩) c_32 ?_
  rotate_left
  ·exact T_KPS_3
  try simp only [sx_]
  refine wpAnyH_ready (rs := [6]) c_4 (by simp) ?_
  refine rd1 rfl fun K hK => ?_
  obtain ⟨kA, hE⟩ := id hH
  have c0 := hT2.at 0 0 (by decide) rfl
  have c1 := hT2.at 1 0 (by decide) rfl
  have cf := hT2.2.1
  have hgb := hT2.gb2 0 1 l6 u6
  replace hT2 := (hT2.set 0 l6).set 1 u6
  replace hT3 := hT3.grown hgb (by omega)
  replace hT4 := hT4.grown hgb (by omega)
  replace kA := kA.grown hgb (by omega)
  replace hE := GB.pre hE hgb (by omega)
  clear hgb
  go_simp
  refine hK.out _ _ ?_ (fun hN => ?_)
  ·(try dsimp only); exact ⟨kA, hE⟩
  clear hK K hH
  have hH := hN
  clear hN
  try simp only [sx_]
  refine wpAnyH_name fun Y1 hY => ?_
  rw [hY] at hH hT2 hT3 hT4
  clear hY
  clear c0 c1 cf kA hE
  refine wpAnyH_ready (rs := [7]) c_4 (by simp) ?_
  refine rd1 rfl fun K hK => ?_
  obtain ⟨kA, hE⟩ := id hH
  have c0 := hT3.at 0 0 (by decide) rfl
  have c1 := hT3.at 1 0 (by decide) rfl
  have cf := hT3.2.1
  have hgb := hT3.gb2 0 1 l11 u11
  replace hT3 := (hT3.set 0 l11).set 1 u11
  replace hT2 := hT2.grown hgb (by omega)
  replace hT4 := hT4.grown hgb (by omega)
  replace kA := kA.grown hgb (by omega)
  replace hE := GB.pre hE hgb (by omega)
  clear hgb
  go_simp
  refine hK.out _ _ ?_ (fun hN => ?_)
  ·(try dsimp only); exact ⟨kA, hE⟩
  clear hK K hH
  have hH := hN
  clear hN
  try simp only [sx_]
  refine wpAnyH_name fun Y2 hY => ?_
  rw [hY] at hH hT2 hT3 hT4
  clear hY
  clear c0 c1 cf kA hE
  refine wpAnyH_ready (rs := [8]) c_4 (by simp) ?_
  refine rd1 rfl fun K hK => ?_
  obtain ⟨kA, hE⟩ := id hH
  have c0 := hT4.at 0 0 (by decide) rfl
  have cf := hT4.2.1
  have hgb := (GB.refl (w.heap.size + 1 + 1 + 1) _).set (a := Y2) (j := 0) (.int .i64 0)
  replace hT4 := hT4.set 0 0
  replace hT2 := hT2.grown hgb (by omega)
  replace hT3 := hT3.grown hgb (by omega)
  replace kA := kA.grown hgb (by omega)
  replace hE := GB.pre hE hgb (by omega)
  clear hgb
  go_simp
  refine hK.out _ _ ?_ (fun hN => ?_)
  ·(try dsimp only); exact ⟨kA, hE⟩
  clear hK K hH
  have hH := hN
  clear hN
  try simp only [sx_]
  refine wpAnyH_name fun Y3 hY => ?_
  rw [hY] at hH hT2 hT3 hT4
  clear hY
  clear c0 cf kA hE
  refine wpAnyH_done c_4 ?_ _
  obtain ⟨kA, hE⟩ := hH
  have rhT20 := hT2.at 0 (l6) (by decide) rfl
  have fhT20 := hT2.2.1 0
  have rhT21 := hT2.at 1 (u6) (by decide) rfl
  have fhT21 := hT2.2.1 1
  have rhT30 := hT3.at 0 (l11) (by decide) rfl
  have fhT30 := hT3.2.1 0
  have rhT31 := hT3.at 1 (u11) (by decide) rfl
  have fhT31 := hT3.2.1 1
  have rhT40 := hT4.at 0 (0) (by decide) rfl
  have fhT40 := hT4.2.1 0
  have zT2 := hT2.2.2
  have zT3 := hT3.2.2
  have zT4 := hT4.2.2
  go_wp2_with fail
  refine leaves_cons (f := 37) (args := #[.pointer (some ⟨w.heap.size + 1 + 1 + 1, 0, none⟩)]) (by simp) c_47 ?_
  refine (k_catch _ _).mono ?_
  rintro e u' w'' ⟨rfl, rfl, rfl⟩
  refine ⟨.tuple #[.agg #[.int .i64 l6, .int .i64 u6], .agg #[.int .i64 l11, .int .i64 u11], .int .i64 0], ?_, ?_, hE⟩
  ·simp [results, Tryz.results15, go_sem, ↓IntWalk.iteOmega, *]
  ·simp [hzS]
 ·go_wp2_with (go_at_call 36; (with_reducible refine (hck.out _).mono ?_); rintro e w1 ⟨rfl, hb⟩; replace h7 := h7.ext hb; replace hT2 := hT2.ext hb; replace hT3 := hT3.ext hb; replace hT4 := hT4.ext hb; replace hE := hE.trans hb; (have rhT20 := hT2.at 0 (0) (by decide) rfl); (have fhT20 := hT2.2.1 0); (have rhT21 := hT2.at 1 (0) (by decide) rfl); (have fhT21 := hT2.2.1 1); (have rhT30 := hT3.at 0 (0) (by decide) rfl); (have fhT30 := hT3.2.1 0); (have rhT31 := hT3.at 1 (0) (by decide) rfl); (have fhT31 := hT3.2.1 1); (have rhT40 := hT4.at 0 (0) (by decide) rfl); (have fhT40 := hT4.2.1 0); (have zT2 := hT2.2.2); (have zT3 := hT3.2.2); (have zT4 := hT4.2.2))
  have d23 : ¬ w.heap.size + 1 = w.heap.size + 1 + 1 := by omega
  have d34 : ¬ w.heap.size + 1 + 1 = w.heap.size + 1 + 1 + 1 := by omega
  have d24 : ¬ w.heap.size + 1 = w.heap.size + 1 + 1 + 1 := by omega
  refine ⟨.tuple #[.agg #[.int .i64 0, .int .i64 0], .agg #[.int .i64 0, .int .i64 0], .int .i64 E], ?_, Or.inl ⟨h0, rfl⟩, ?_⟩
  ·simp [results, Tryz.results15, go_sem, ↓IntWalk.iteOmega, *]
  ·exact ex_
theorem T_TZ_1 {p : Prop} (h : p := by
 have h0 := NoU.new ((w.alloc (.cells #[.bool sa, .slice ao la cap1] 24)).alloc (.cells #[.bool sb, .slice bo lb cap2] 24)) #[.bool false, .slice none 0 0] 24 (noU2 (by simp) (by simp))
 simp only [World.size_alloc] at h0
 exact h0.ext (by simp) hb1) : p := h
theorem t_addZ (va vb : Value) (m k : Int) (w : World) (ha : Wid w va m) (hb0 : Wid w vb k) (hs : Sz m) (hs2 : Sz k) (hs3 : Sz (m + k)) : Calls Tryz.prog 58 #[va, vb] w fun e w' => ∃ u, e = .returned u ∧ Wid w' u (m + k) ∧ Ext w w' := by
 obtain ⟨u, rfl, hu⟩ := ha
 obtain ⟨s, rfl, hv⟩ := hb0
 obtain ⟨ao, b1, o1, cap1, rfl, -⟩ := hu.view
 obtain ⟨bo, b2, o2, cap2, rfl, -⟩ := hv.view
 have hm := fun w1 (k1 : Ext w w1) => z_Add (.agg #[.bool (decide (m < 0)), .slice ao (dig m.natAbs).length cap1]) (.agg #[.bool (decide (k < 0)), .slice bo (dig k.natAbs).length cap2]) m k w1 ⟨_, rfl, hu.ext k1⟩ ⟨_, rfl, hv.ext k1⟩ hs hs2
 replace hm := fun w1 (k1 : Ext w w1) => hm w1 k1 hs3
 generalize m + k = R at hm ⊢
 generalize decide (m < 0) = sa at hm ⊢
 generalize decide (k < 0) = sb at hm ⊢
 generalize (dig m.natAbs).length = la at hm ⊢
 generalize (dig k.natAbs).length = lb at hm ⊢
 clear hu hv
 go_enter Tryz.func58, Tryz.ntmps58
 go_wp2_with (go_at_call 116; (with_reducible refine (hm _ ex_).mono ?_); rintro e w1 ⟨y1, rfl, ⟨y2, rfl, hx⟩, hb1⟩; obtain ⟨xo, _, _, xc, rfl, -⟩ := hx.view; obtain ⟨_, _, hc1, hf1⟩ := hb1.cells2; have hz1 := hb1.size; (try simp only [wsz] at hz1 hc1 hf1))
 have hnu : NoU w1 (w.heap.size + 1 + 1) := by
  exact T_TZ_1
 have hsz : w.heap.size + 1 + 1 < w1.heap.size := by omega
 refine bodyPost_ret (v := .agg #[.bool (decide (R < 0)), .slice xo (dig R.natAbs).length xc]) ?_ rfl ⟨_, rfl, ⟨_, rfl, ?_⟩, ?_⟩
 ·simp [results, Tryz.results58, go_sem, ↓IntWalk.iteOmega, *]
 ·repeat (first | with_reducible exact hx | with_reducible refine Lim.box ?_ ?_ | with_reducible refine NoU.set ?_ (fun z e => by cases e) | with_reducible exact hnu | with_reducible refine NoU.alloc ?_ c_37 _ _ | with_reducible refine Lim.alloc ?_ _)
 ·exact ex_
theorem t_subZ (va vb : Value) (m k : Int) (w : World) (ha : Wid w va m) (hb0 : Wid w vb k) (hs : Sz m) (hs2 : Sz k) (hs3 : Sz (m - k)) : Calls Tryz.prog 57 #[va, vb] w fun e w' => ∃ u, e = .returned u ∧ Wid w' u (m - k) ∧ Ext w w' := by
 obtain ⟨u, rfl, hu⟩ := ha
 obtain ⟨s, rfl, hv⟩ := hb0
 obtain ⟨ao, b1, o1, cap1, rfl, -⟩ := hu.view
 obtain ⟨bo, b2, o2, cap2, rfl, -⟩ := hv.view
 have hm := fun w1 (k1 : Ext w w1) => z_Sub (.agg #[.bool (decide (m < 0)), .slice ao (dig m.natAbs).length cap1]) (.agg #[.bool (decide (k < 0)), .slice bo (dig k.natAbs).length cap2]) m k w1 ⟨_, rfl, hu.ext k1⟩ ⟨_, rfl, hv.ext k1⟩ hs hs2
 replace hm := fun w1 (k1 : Ext w w1) => hm w1 k1 hs3
 generalize m - k = R at hm ⊢
 generalize decide (m < 0) = sa at hm ⊢
 generalize decide (k < 0) = sb at hm ⊢
 generalize (dig m.natAbs).length = la at hm ⊢
 generalize (dig k.natAbs).length = lb at hm ⊢
 clear hu hv
 go_enter Tryz.func57, Tryz.ntmps57
 go_wp2_with (go_at_call 115; (with_reducible refine (hm _ ex_).mono ?_); rintro e w1 ⟨y1, rfl, ⟨y2, rfl, hx⟩, hb1⟩; obtain ⟨xo, _, _, xc, rfl, -⟩ := hx.view; obtain ⟨_, _, hc1, hf1⟩ := hb1.cells2; have hz1 := hb1.size; (try simp only [wsz] at hz1 hc1 hf1))
 have hnu : NoU w1 (w.heap.size + 1 + 1) := by
  exact T_TZ_1
 have hsz : w.heap.size + 1 + 1 < w1.heap.size := by omega
 refine bodyPost_ret (v := .agg #[.bool (decide (R < 0)), .slice xo (dig R.natAbs).length xc]) ?_ rfl ⟨_, rfl, ⟨_, rfl, ?_⟩, ?_⟩
 ·simp [results, Tryz.results57, go_sem, ↓IntWalk.iteOmega, *]
 ·repeat (first | with_reducible exact hx | with_reducible refine Lim.box ?_ ?_ | with_reducible refine NoU.set ?_ (fun z e => by cases e) | with_reducible exact hnu | with_reducible refine NoU.alloc ?_ c_37 _ _ | with_reducible refine Lim.alloc ?_ _)
 ·exact ex_
theorem T_ZM_1 {p : Prop} (h : p := by
 intro w0 hSw; have q0 := BX.get hSw 0 rfl; have q1 := BX.get hSw 1 rfl; have q2 := BX.get hSw 2 rfl; have q3 := BX.get hSw 3 rfl; go_simp; try with_reducible rfl) : p := h
theorem z_MulS (va vb : Value) (sa sb : Bool) (m k : Nat) (w : World) (ha : Sm w va sa m) (hb0 : Sm w vb sb k) (hs : Small m) (hs2 : Small k) (hs3 : Small (m * k)) (hz : m = 0 → sa = false) (hz2 : k = 0 → sb = false) :
    Calls Tryz.prog 64 #[va, vb] w fun e w' => ∃ u, e = .returned (.tuple #[u, .int .i64 0]) ∧ Wid w' u (sg (!sa == sb) (m * k)) ∧ Ext w w' := by
 obtain ⟨u, rfl, hu⟩ := ha
 obtain ⟨s, rfl, hv⟩ := hb0
 obtain ⟨ao, b1, o1, cap1, rfl, v1, v2, v3, v4, v5, v6⟩ := hu.view
 obtain ⟨bo, b2, o2, cap2, rfl, y1, y2, y3, y4, y5, y6⟩ := hv.view
 have hlen : (dig m).length ≤ 100000 ∧ (dig k).length ≤ 100000 := by unfold Small at hs hs2; omega
 obtain ⟨W3, hW3⟩ : ∃ W3, ((w.alloc (.cells #[.bool sa, .slice ao (dig m).length cap1] 24)).alloc (.cells #[.bool sb, .slice bo (dig k).length cap2] 24)).alloc (.cells #[.bool false, .slice none 0 0] 24) = W3 := ⟨_, rfl⟩
 have hWs : W3.heap.size = w.heap.size + 1 + 1 + 1 := by rw [← hW3]; simp
 have hEW : Ext w W3 := by rw [← hW3]; exact (((Ext.refl w).alloc _).alloc _).alloc _
 have hS : BX w (w.heap.size + 1 + 1) [(w.heap.size, 0, .bool sa), (w.heap.size, 1, .slice ao (dig m).length cap1), (w.heap.size + 1, 0, .bool sb), (w.heap.size + 1, 1, .slice bo (dig k).length cap2)] W3 := by
  rw [← hW3]
  refine ⟨hW3 ▸ hEW, ?_, ?_, ?_, ?_, ?_, by simp⟩
  ·intro p hp
   simp only [List.mem_cons, List.mem_nil_iff, or_false] at hp
   rcases hp with rfl | rfl | rfl | rfl <;> simp [go_sem, ↓IntWalk.iteOmega]
  ·exact ⟨.bool false, by simp [go_sem, ↓IntWalk.iteOmega]⟩
  ·exact ⟨.slice none 0 0, by simp [go_sem, ↓IntWalk.iteOmega]⟩
  ·intro o; simp [go_sem, ↓IntWalk.iteOmega]
  ·have := NoU.new ((w.alloc (.cells #[.bool sa, .slice ao (dig m).length cap1] 24)).alloc (.cells #[.bool sb, .slice bo (dig k).length cap2] 24)) #[.bool false, .slice none 0 0] 24 (noU2 (by simp) (by simp))
   simpa using this
 have hLn : ∀ p ∈ ([(w.heap.size, 0, .bool sa), (w.heap.size, 1, .slice ao (dig m).length cap1), (w.heap.size + 1, 0, .bool sb), (w.heap.size + 1, 1, .slice bo (dig k).length cap2)] : List (Nat × Nat × Value)), p.1 ≠ w.heap.size + 1 + 1 := by
  intro p hp
  simp only [List.mem_cons, List.mem_nil_iff, or_false] at hp
  rcases hp with rfl | rfl | rfl | rfl <;> (dsimp only; omega)
 have hck := z_check_two W3 _ _ sa sb m k (hu.ext hEW) (hv.ext hEW) hs hs2 hz hz2
 rw [hWs] at hck
 subst hW3
 clear v1 v4 v5 y1 y4 y5 hWs hEW hz hz2
 go_enter Tryz.func64, Tryz.ntmps64
 go_upto_region 4 with (go_at_call 52; (with_reducible refine hck.mono ?_); rintro e w1 ⟨rfl, hb⟩)
 have hs4 : (dig (m * k)).length ≤ 4096 := hs3
 have hS0 := hS.ext (((Ext.refl _).alloc _).trans hb)
 clear hS hck hb
 refine wp_region_held_drew (S := (fun w0 => BX w (w.heap.size + 1 + 1) [(w.heap.size, 0, .bool sa), (w.heap.size, 1, .slice ao (dig m).length cap1), (w.heap.size + 1, 0, .bool sb), (w.heap.size + 1, 1, .slice bo (dig k).length cap2)] w0)) c_4 ?_ (fun hH => ?_)
 ·exact hS0.drew
 try simp only [sx_]
 refine tk 0 rfl c_0 ?_
 try simp only [sx_]
 refine tk (v := ?_) 1 rfl ?_ ?_
 rotate_left
 ·exact T_ZM_1
 try simp only [sx_]
 refine tk 2 rfl c_0 ?_
 try simp only [sx_]
 refine tk (v := ?_) 3 rfl ?_ ?_
 rotate_left
 ·exact T_ZM_1
 try simp only [sx_]
 refine tk 4 rfl c_0 ?_
 try simp only [sx_]
 refine tk 5 rfl c_0 ?_
 try simp only [sx_]
 refine tk (v := ?_) 6 rfl ?_ ?_
 rotate_left
 ·exact T_ZM_1
 try simp only [sx_]
 refine tk 7 rfl c_0 ?_
 try simp only [sx_]
 refine tk (v := ?_) 8 rfl ?_ ?_
 rotate_left
 ·exact T_ZM_1
 try simp only [sx_]
 refine wpAnyH_ready (rs := [9]) c_4 (by simp) ?_
 refine rd1 rfl fun K hK => ?_
 go_simp
 (go_at_call 125; (with_reducible refine (w_times _ _ _ _ _ (hu.ext hH.base) (hv.ext hH.base) hlen).mono ?_); rintro e t2 ⟨s2, zs, rfl, hz2, hval, hx2⟩; obtain ⟨ao2, bb2, oo2, cc2, rfl, _⟩ := hz2.view)
 have hv2 : val zs = ((m * k : Nat) : Int) := by rw [hval, dig_val, dig_val]; exact (Int.natCast_mul m k).symm
 refine hK.out _ _ ?_ (fun hN => ?_)
 ·(try dsimp only); exact hH.ext hx2
 clear hK K hH
 have hH := hN
 clear hN
 try simp only [sx_]
 refine wpAnyH_ready (rs := [10]) c_4 (by simp) ?_
 refine rd1 rfl fun K hK => ?_
 go_simp
 (go_at_call 54; (with_reducible refine (w_madeS (!sa == sb) _ _ (m * k) _ hz2 hv2 hs4).mono ?_); rintro e t3 ⟨s3, bo3, rfl, hz3, hbo3, hx3⟩; obtain ⟨ao3, bb3, oo3, cc3, rfl, _⟩ := hz3.view)
 refine hK.out _ _ ?_ (fun hN => ?_)
 ·(try dsimp only); exact hH.ext hx3
 clear hK K hH
 have hH := hN
 clear hN
 try simp only [sx_]
 refine tk 11 rfl c_0 ?_
 try simp only [sx_]
 refine tk 12 rfl c_0 ?_
 try simp only [sx_]
 refine wpAnyH_ready (rs := [13]) c_4 (by simp) ?_
 refine rd1 rfl fun K hK => ?_
 obtain ⟨⟨xa, h3a⟩, ⟨xb, h3b⟩, h3f, hnu, hsl⟩ := hH.box
 go_simp
 refine hK.out _ _ ?_ (fun hN => ?_)
 ·(try dsimp only); exact (hH.set (by omega) hLn (fun z e => by cases e)).set (by omega) hLn (fun z e => by cases e)
 clear hK K hH
 have hH := hN
 clear hN
 try simp only [sx_]
 refine tk 14 rfl c_0 ?_
 try simp only [sx_]
 refine wpAnyH_done c_4 ?_ _
 go_wp2_with fail
 refine bodyPost_ret (v := .tuple #[.agg #[.bool bo3, .slice ao3 (dig (m * k)).length cc3], .int .i64 0]) ?_ rfl ⟨_, rfl, Wid.mk' (Lim.box (Lim.box hz3 hnu) (NoU.set hnu (fun z e => by cases e))) hbo3, ?_⟩
 ·simp [results, Tryz.results64, go_sem, ↓IntWalk.iteOmega, h3a, h3b] <;> first | exact hbo3.symm | simp [hbo3]
 ·exact hH.base
theorem z_Mul (va vb : Value) (m k : Int) (w : World) (ha : Wid w va m) (hb0 : Wid w vb k) (hs : Sz m) (hs2 : Sz k) (hs3 : Sz (m * k)) :
    Calls Tryz.prog 64 #[va, vb] w fun e w' => ∃ u, e = .returned (.tuple #[u, .int .i64 0]) ∧ Wid w' u (m * k) ∧ Ext w w' := by
 unfold Sz at hs3
 rw [Int.natAbs_mul] at hs3
 have h := z_MulS va vb (decide (m < 0)) (decide (k < 0)) m.natAbs k.natAbs w ha hb0 hs hs2 hs3 (wid_s _ rfl) (wid_s _ rfl)
 have e : sg (!decide (m < 0) == decide (k < 0)) (m.natAbs * k.natAbs) = m * k := by
  have h0 : ∀ (s t : Bool) (a b : Nat), sg (!s == t) (a * b) = sg s a * sg t b := by
   intro s t a b; cases s <;> cases t <;> simp [sg, Int.neg_mul, Int.mul_neg]
  rw [h0, sg_wid, sg_wid]
 rw [e] at h
 exact h
theorem T_TZ2_1 {p : Prop} (h : p := by
 rw [hK] at hm ⊢
 clear hu
 go_enter Tryz.func118, Tryz.ntmps118
 go_wp2_with (go_at_call 169; (with_reducible refine (hm _ ex_).mono ?_); rintro e w1 ⟨y1, rfl, ⟨y2, rfl, hx⟩, hb1⟩; obtain ⟨xo, _, _, xc, rfl, -⟩ := hx.view; obtain ⟨_, _, hc1, hf1⟩ := hb1.cells2; have hz1 := hb1.size; (try simp only [wsz] at hz1 hc1 hf1))
 have hnu : NoU w1 (w.heap.size + 1) := by
  have h0 := NoU.new (w.alloc (.cells #[.bool sa, .slice ao la cap1] 24)) #[.bool false, .slice none 0 0] 24 (noU2 (by simp) (by simp))
  simp only [World.size_alloc] at h0
  exact h0.ext (by simp) hb1
 have hsz : w.heap.size + 1 < w1.heap.size := by omega
 refine bodyPost_ret (v := .agg #[.bool (decide (R < 0)), .slice xo (dig R.natAbs).length xc]) ?_ rfl ⟨_, rfl, ⟨_, rfl, ?_⟩, ?_⟩
 ·simp [results, Tryz.results118, go_sem, ↓IntWalk.iteOmega, *]
 ·repeat (first | with_reducible exact hx | with_reducible refine Lim.box ?_ ?_ | with_reducible refine NoU.set ?_ (fun z e => by cases e) | with_reducible exact hnu | with_reducible refine NoU.alloc ?_ c_37 _ _ | with_reducible refine Lim.alloc ?_ _)
 ·repeat (first | with_reducible exact Ext.refl _ | with_reducible assumption | with_reducible refine Ext.alloc ?_ _ | with_reducible refine Ext.setCell ?_ c_14 _ | with_reducible refine Ext.drewN ?_ _ | with_reducible refine Ext.drew ?_ | with_reducible refine Ext.trans ?_ c_1)) : p := h
theorem t_mulZ (va vb : Value) (m k : Int) (w : World) (ha : Wid w va m) (hb0 : Wid w vb k) (hs : Sz m) (hs2 : Sz k) (hs3 : Sz (m * k)) : Calls Tryz.prog 27 #[va, vb] w fun e w' => ∃ u, e = .returned u ∧ Wid w' u (m * k) ∧ Ext w w' := by
 obtain ⟨u, rfl, hu⟩ := ha
 obtain ⟨s, rfl, hv⟩ := hb0
 obtain ⟨ao, b1, o1, cap1, rfl, -⟩ := hu.view
 obtain ⟨bo, b2, o2, cap2, rfl, -⟩ := hv.view
 have hm := fun w1 (k1 : Ext w w1) => z_Mul (.agg #[.bool (decide (m < 0)), .slice ao (dig m.natAbs).length cap1]) (.agg #[.bool (decide (k < 0)), .slice bo (dig k.natAbs).length cap2]) m k w1 ⟨_, rfl, hu.ext k1⟩ ⟨_, rfl, hv.ext k1⟩ hs hs2
 replace hm := fun w1 (k1 : Ext w w1) => hm w1 k1 hs3
 generalize m * k = R at hm ⊢
 generalize decide (m < 0) = sa at hm ⊢
 generalize decide (k < 0) = sb at hm ⊢
 generalize (dig m.natAbs).length = la at hm ⊢
 generalize (dig k.natAbs).length = lb at hm ⊢
 clear hu hv
 go_enter Tryz.func27, Tryz.ntmps27
 go_wp2_with (go_at_call 64; (with_reducible refine (hm _ ex_).mono ?_); rintro e w1 ⟨y1, rfl, ⟨y2, rfl, hx⟩, hb1⟩; obtain ⟨xo, _, _, xc, rfl, -⟩ := hx.view; obtain ⟨_, _, hc1, hf1⟩ := hb1.cells2; have hz1 := hb1.size; (try simp only [wsz] at hz1 hc1 hf1))
 have hnu : NoU w1 (w.heap.size + 1 + 1) := by
  have h0 := NoU.new ((w.alloc (.cells #[.bool sa, .slice ao la cap1] 24)).alloc (.cells #[.bool sb, .slice bo lb cap2] 24)) #[.bool false, .slice none 0 0] 24 (noU2 (by simp) (by simp))
  simp only [World.size_alloc] at h0
  exact h0.ext (by simp) hb1
 have hsz : w.heap.size + 1 + 1 < w1.heap.size := by omega
 refine bodyPost_ret (v := .agg #[.bool (decide (R < 0)), .slice xo (dig R.natAbs).length xc]) ?_ rfl ⟨_, rfl, ⟨_, rfl, ?_⟩, ?_⟩
 ·simp [results, Tryz.results27, go_sem, ↓IntWalk.iteOmega, *]
 ·repeat (first | with_reducible exact hx | with_reducible refine Lim.box ?_ ?_ | with_reducible refine NoU.set ?_ (fun z e => by cases e) | with_reducible exact hnu | with_reducible refine NoU.alloc ?_ c_37 _ _ | with_reducible refine Lim.alloc ?_ _)
 ·exact ex_
theorem t_numZ (n : Int) (w : World) (h0 : -9223372036854775808 ≤ n) (h1 : n ≤ 9223372036854775807) : Calls Tryz.prog 28 #[.int .i64 n] w fun e w' => ∃ u, e = .returned u ∧ Wid w' u n ∧ Ext w w' := by
 have hf := fun w => z_From n w h0 h1
 clear h0 h1
 go_enter Tryz.func28, Tryz.ntmps28
 go_wp2_with (go_at_call 65; (with_reducible refine (hf _).mono ?_); rintro e w1 ⟨y1, rfl, ⟨y2, rfl, hu⟩, hb⟩; obtain ⟨ao, b1, o1, cap1, rfl, -⟩ := hu.view; obtain ⟨_, _, hc, hf⟩ := hb.cells2; have hz := hb.size; (try simp only [wsz] at hz hc hf))
 have hB : NoU w1 w.heap.size := (NoU.new w _ _ (noU2 (by simp) (by simp))).ext (by simp) hb
 refine bodyPost_ret (v := .agg #[.bool (decide (n < 0)), .slice ao (dig n.natAbs).length cap1]) ?_ rfl ⟨_, rfl, ⟨_, rfl, ?_⟩, ?_⟩
 ·simp [results, Tryz.results28, go_sem, ↓IntWalk.iteOmega, *]
 ·exact Lim.box (Lim.box hu hB) (NoU.set hB (fun z e => by cases e))
 ·exact ex_
theorem t_sign (va : Value) (m : Int) (w : World) (ha : Wid w va m) (hs : Sz m) :
    Calls Tryz.prog 20 #[va] w fun e w' => e = .returned (.int .i64 (cmpI m 0)) ∧ Ext w w' := by
 obtain ⟨u, rfl, hu⟩ := ha
 obtain ⟨ao, b1, o1, cap1, rfl, -⟩ := hu.view
 have hto := fun w1 (k1 : Ext w w1) => z_Sign (.agg #[.bool (decide (m < 0)), .slice ao (dig m.natAbs).length cap1]) m w1 ⟨_, rfl, hu.ext k1⟩ hs
 generalize cmpI m 0 = R at hto ⊢
 generalize decide (m < 0) = sa at hto ⊢
 generalize (dig m.natAbs).length = la at hto ⊢
 go_enter Tryz.func20, Tryz.ntmps20
 go_wp2_with (go_at_call 53; (with_reducible refine (hto _ ex_).mono ?_); rintro e w2 ⟨rfl, hb2⟩)
 go_ret
 exact ⟨rfl, ex_⟩
theorem t_shiftU (va : Value) (n : Int) (k : Nat) (w : World) (ha : Wid w va n) (hs : Sz n) (hk : k ≤ 131072) (hs3 : Sz (n * 2 ^ k)) :
    Calls Tryz.prog 118 #[va, .int .i64 (k : Int)] w fun e w' => ∃ u, e = .returned u ∧ Wid w' u (n * 2 ^ k) ∧ Ext w w' := by
 obtain ⟨u, rfl, hu⟩ := ha
 obtain ⟨ao, b1, o1, cap1, rfl, -⟩ := hu.view
 have hm := fun w1 (k1 : Ext w w1) => z_shiftU (.agg #[.bool (decide (n < 0)), .slice ao (dig n.natAbs).length cap1]) n k w1 ⟨_, rfl, hu.ext k1⟩ hs hk hs3
 generalize n * 2 ^ k = R at hm ⊢
 generalize decide (n < 0) = sa at hm ⊢
 generalize (dig n.natAbs).length = la at hm ⊢
 obtain ⟨K, hK⟩ : ∃ K : Int, (k : Int) = K := ⟨_, rfl⟩
 exact T_TZ2_1
theorem t_shiftD (va : Value) (n : Int) (k : Nat) (w : World) (ha : Wid w va n) (hs : Sz n) (hk0 : 0 < k) (hk : k ≤ 131072) :
    Calls Tryz.prog 118 #[va, .int .i64 (-(k : Int))] w fun e w' => ∃ u, e = .returned u ∧ Wid w' u (n / 2 ^ k) ∧ Ext w w' := by
 obtain ⟨u, rfl, hu⟩ := ha
 obtain ⟨ao, b1, o1, cap1, rfl, -⟩ := hu.view
 have hm := fun w1 (k1 : Ext w w1) => z_shiftD (.agg #[.bool (decide (n < 0)), .slice ao (dig n.natAbs).length cap1]) n k w1 ⟨_, rfl, hu.ext k1⟩ hs hk0 hk
 generalize n / 2 ^ k = R at hm ⊢
 generalize decide (n < 0) = sa at hm ⊢
 generalize (dig n.natAbs).length = la at hm ⊢
 obtain ⟨K, hK⟩ : ∃ K : Int, (-(k : Int)) = K := ⟨_, rfl⟩
 exact T_TZ2_1
end Go.Proofs.YtogblocakccbgaaGreat
