/- kepler: mul of two.; kepler.closed: its parts.; kepler.closed.; kepler: catch.; Leaving by the door: what the deferred calls see of the slots.; kepler: outside, Check.; kepler: Check. -/
import Derived.Test.YtogblocakccbgaaGreatJ00
import Derived.Test.YtogblocakccbgaaGreatJ34
import Derived.Test.YtogblocakccbgaaGreatJ20
import Derived.Tactics2
import Derived.Defers
import Derived.Recover
import Derived.Laws.StructEq
set_option linter.unusedSimpArgs false
set_option linter.unusedVariables false
set_option maxRecDepth 100000
set_option maxHeartbeats 4000000
namespace Go.Proofs.YtogblocakccbgaaGreat
open Go.RowKit
def mul2I (a b c d c2 d2 : Int) : R3 := doI (mulI a b c d).e (mulI (mulI a b c d).lo (mulI a b c d).hi c2 d2)
theorem k_mul2 (a b c d c2 d2 : Int) (g cap : Nat) (w : World) (ha : I64 a ∧ I64 b) (hc0 : I64 c ∧ I64 d) (hc2 : I64 c2 ∧ I64 d2) (hl0 : w.cell? ⟨g, 0, none⟩ = some (.int .i64 c)) (hl1 : w.cell? ⟨g, 1, none⟩ = some (.int .i64 d)) (hl2 : w.cell? ⟨g, 2, none⟩ = some (.int .i64 c2)) (hl3 : w.cell? ⟨g, 3, none⟩ = some (.int .i64 d2)) :
    Calls Tryz.prog 86 #[.agg #[.int .i64 a, .int .i64 b], .slice (some ⟨g, 0, none⟩) 2 cap] w fun e w' => KP (mul2I a b c d c2 d2) e ∧ Ext w w' := by
 have hgl : g < w.heap.size := World.block_lt_of_cell? w _ hl0
 unfold mul2I
 obtain ⟨⟨l1, u1, e1⟩, hn1⟩ : ∃ x, mulI a b c d = x := ⟨_, rfl⟩
 have hs1 : ∀ w1, Calls Tryz.prog 151 #[.agg #[.int .i64 a, .int .i64 b], .agg #[.int .i64 c, .int .i64 d]] w1 fun e w2 => e = .returned (.tuple #[.agg #[.int .i64 l1, .int .i64 u1], .int .i64 e1]) ∧ Ext w1 w2 := by
  intro w1
  have h := span_mul a b c d w1 ha hc0
  rw [hn1] at h
  exact h
 have i1 : I64 l1 ∧ I64 u1 := by have := mulI_W a b c d; rw [hn1] at this; exact this
 rw [hn1]
 dsimp only
 obtain ⟨⟨l2, u2, e2⟩, hn2⟩ : ∃ x, mulI l1 u1 c2 d2 = x := ⟨_, rfl⟩
 have hs2 : ∀ w1, Calls Tryz.prog 151 #[.agg #[.int .i64 l1, .int .i64 u1], .agg #[.int .i64 c2, .int .i64 d2]] w1 fun e w2 => e = .returned (.tuple #[.agg #[.int .i64 l2, .int .i64 u2], .int .i64 e2]) ∧ Ext w1 w2 := by
  intro w1
  have h := span_mul l1 u1 c2 d2 w1 i1 hc2
  rw [hn2] at h
  exact h
 rw [hn2]
 have hm1 : ∀ w1, Calls Tryz.prog 42 #[.agg #[.int .i64 l1, .int .i64 u1], .int .i64 e1] w1 fun e w2 => ((e1 = 0 ∧ e = .returned (.agg #[.int .i64 l1, .int .i64 u1])) ∨ (¬ e1 = 0 ∧ e = .panicked FALL)) ∧ Ext w1 w2 := fun w1 => k_must ⟨l1, u1, e1⟩ w1
 have hm2 : ∀ w1, Calls Tryz.prog 42 #[.agg #[.int .i64 l2, .int .i64 u2], .int .i64 e2] w1 fun e w2 => ((e2 = 0 ∧ e = .returned (.agg #[.int .i64 l2, .int .i64 u2])) ∨ (¬ e2 = 0 ∧ e = .panicked FALL)) ∧ Ext w1 w2 := fun w1 => k_must ⟨l2, u2, e2⟩ w1
 have hpost : ∀ e, ((e1 = 0 ∧ e2 = 0 ∧ e = .returned (.agg #[.int .i64 l2, .int .i64 u2])) ∨ (¬ (e1 = 0 ∧ e2 = 0) ∧ e = .panicked FALL)) → KP (doI e1 ⟨l2, u2, e2⟩) e := by
  intro e h
  unfold KP doI
  rcases h with ⟨rfl, rfl, rfl⟩ | ⟨h, rfl⟩
  ·left; simp
  ·right
   refine ⟨?_, rfl⟩
   by_cases h1 : e1 = 0
   ·simp [h1]; intro h2; exact h ⟨h1, h2⟩
   ·simp [h1]
 clear hn1 hn2 i1 ha hc0 hc2
 suffices hg : Calls Tryz.prog 86 #[.agg #[.int .i64 a, .int .i64 b], .slice (some ⟨g, 0, none⟩) 2 cap] w fun e w' => ((e1 = 0 ∧ e2 = 0 ∧ e = .returned (.agg #[.int .i64 l2, .int .i64 u2])) ∨ (¬ (e1 = 0 ∧ e2 = 0) ∧ e = .panicked FALL)) ∧ Ext w w' from hg.mono (fun e w' h => ⟨hpost e h.1, h.2⟩)
 clear hpost
 have hno1 : ¬ e1 = 0 → ¬ (e1 = 0 ∧ e2 = 0) := fun h k => h k.1
 have hno2 : ¬ e2 = 0 → ¬ (e1 = 0 ∧ e2 = 0) := fun h k => h k.2
 go_enter Tryz.func86, Tryz.ntmps86
 go_wp2_with fail
 refine wp_loop_rounds 3 ?_
 rw [rounds_succ]
 go_wp2_with (first | (go_at_call 151; (with_reducible refine (hs1 _).mono ?_); rintro e ws1 ⟨rfl, hbs1⟩; obtain ⟨_, _, hcs1, hfs1⟩ := hbs1.cells2; have hzs1 := hbs1.size; (try simp only [wsz] at hzs1 hcs1 hfs1)) | (go_at_call 42; (with_reducible refine (hm1 _).mono ?_); rintro e wm1 ⟨⟨hz01, rfl⟩ | ⟨hz01, rfl⟩, hbm1⟩; rotate_left; (focus ((try go_wp2_with fail); refine ⟨rfl, Or.inr ⟨?_, rfl⟩, ?_⟩; (exact hno1 hz01); (repeat (first | with_reducible exact Ext.refl _ | with_reducible assumption | with_reducible refine Ext.alloc ?_ _ | with_reducible refine Ext.setCell ?_ c_14 _ | with_reducible refine Ext.drewN ?_ _ | with_reducible refine Ext.drew ?_ | with_reducible refine Ext.trans ?_ c_1)))); obtain ⟨_, _, hcm1, hfm1⟩ := hbm1.cells2; have hzm1 := hbm1.size; (try simp only [wsz] at hzm1 hcm1 hfm1)))
 rw [rounds_succ]
 go_wp2_with (first | (go_at_call 151; (with_reducible refine (hs2 _).mono ?_); rintro e ws2 ⟨rfl, hbs2⟩; obtain ⟨_, _, hcs2, hfs2⟩ := hbs2.cells2; have hzs2 := hbs2.size; (try simp only [wsz] at hzs2 hcs2 hfs2)) | (go_at_call 42; (with_reducible refine (hm2 _).mono ?_); rintro e wm2 ⟨⟨hz02, rfl⟩ | ⟨hz02, rfl⟩, hbm2⟩; rotate_left; (focus ((try go_wp2_with fail); refine ⟨rfl, Or.inr ⟨?_, rfl⟩, ?_⟩; (exact hno2 hz02); (repeat (first | with_reducible exact Ext.refl _ | with_reducible assumption | with_reducible refine Ext.alloc ?_ _ | with_reducible refine Ext.setCell ?_ c_14 _ | with_reducible refine Ext.drewN ?_ _ | with_reducible refine Ext.drew ?_ | with_reducible refine Ext.trans ?_ c_1)))); obtain ⟨_, _, hcm2, hfm2⟩ := hbm2.cells2; have hzm2 := hbm2.size; (try simp only [wsz] at hzm2 hcm2 hfm2)))
 rw [rounds_succ]
 go_wp2_with fail
 refine bodyPost_ret (v := .agg #[.int .i64 l2, .int .i64 u2]) ?_ rfl ⟨Or.inl ⟨by assumption, by assumption, rfl⟩, ?_⟩
 ·simp [results, Tryz.results86, go_sem, ↓IntWalk.iteOmega, *]
 ·exact ex_
theorem Bn.four (Y : World) (a b c d : Int) (T : Nat) : Bn 4 (Y.alloc (.cells #[.int .i64 a, .int .i64 b, .int .i64 c, .int .i64 d] T)) Y.heap.size (fun o => if o = 0 then a else if o = 1 then b else if o = 2 then c else d) := by
 refine ⟨fun o ho => ?_, fun o => by simp [go_sem, ↓IntWalk.iteOmega], by simp⟩
 have hoo : o = 0 ∨ o = 1 ∨ o = 2 ∨ o = 3 := by omega
 rcases hoo with rfl | rfl | rfl | rfl <;> simp [go_sem, ↓IntWalk.iteOmega]
theorem sqrtI_W (a b : Int) : I64 (sqrtI a b).lo ∧ I64 (sqrtI a b).hi := by
 unfold sqrtI
 split
 ·exact ⟨I64_0, I64_0⟩
 ·split
  ·exact ⟨I64_0, I64_0⟩
  ·have hc : ckI a b = 0 := by simp_all
   unfold ckI at hc
   have hb : ¬ (b < a ∨ a < -2305843009213693952 ∨ 2305843009213693952 < b) := by intro h; rw [if_pos h] at hc; omega
   have ra := root_le (x := a) (by omega) (by omega)
   have rb := root_le (x := b) (by omega) (by omega)
   unfold I64
   dsimp only
   refine ⟨by omega, ?_⟩
   split <;> omega
noncomputable def shQ (P V : V3) : R3 := sqrtI (shA P V).lo (shA P V).hi
noncomputable def shU (P V : V3) : R3 := mul2I shZ.lo shZ.hi (shA P V).lo (shA P V).hi (shQ P V).lo (shQ P V).hi
def ClOk (P V : V3) : Prop := ShOk P V ∧ 0 < (shA P V).lo ∧ (shQ P V).e = 0 ∧ (shU P V).e = 0
theorem T_KL_2 {p : Prop} (h : p := by
 rw [← hU]
 repeat (first | with_reducible exact Ext.refl _ | with_reducible assumption | with_reducible refine Ext.alloc ?_ _ | with_reducible refine Ext.setCell ?_ c_14 _ | with_reducible refine Ext.drewN ?_ _ | with_reducible refine Ext.drew ?_ | with_reducible refine Ext.trans ?_ c_1)) : p := h
theorem T_KL_1 {p : Prop} (h : p := by
 rw [← hU]
 refine ⟨fun o ho => ?_, fun o => by simp [go_sem, ↓IntWalk.iteOmega], by simp <;> omega⟩
 have hoo : o = 0 ∨ o = 1 ∨ o = 2 ∨ o = 3 ∨ o = 4 ∨ o = 5 ∨ o = 6 ∨ o = 7 ∨ o = 8 ∨ o = 9 ∨ o = 10 ∨ o = 11 ∨ o = 12 ∨ o = 13 ∨ o = 14 ∨ o = 15 := by omega
 rcases hoo with rfl | rfl | rfl | rfl | rfl | rfl | rfl | rfl | rfl | rfl | rfl | rfl | rfl | rfl | rfl | rfl <;> simp [go_sem, ↓IntWalk.iteOmega]) : p := h
theorem k_closed0 (t p1 p2 p3 v1 v2 v3 : Int) (hsh0 : ∀ w1, Calls Tryz.prog 38 #[.agg #[.int .i64 t, .int .i64 p1, .int .i64 p2, .int .i64 p3, .int .i64 v1, .int .i64 v2, .int .i64 v3]] w1 fun e w2 => ((ShOk (dia p1 p2 p3) (dia v1 v2 v3) ∧ e = .returned (.agg #[.int .i64 (shR (dia p1 p2 p3)).lo, .int .i64 (shR (dia p1 p2 p3)).hi, .int .i64 (shA (dia p1 p2 p3) (dia v1 v2 v3)).lo, .int .i64 (shA (dia p1 p2 p3) (dia v1 v2 v3)).hi, .int .i64 (shK (dia p1 p2 p3) (dia v1 v2 v3)).lo, .int .i64 (shK (dia p1 p2 p3) (dia v1 v2 v3)).hi, .int .i64 (shZ).lo, .int .i64 (shZ).hi, .int .i64 0, .int .i64 0, .int .i64 0, .int .i64 0, .int .i64 0, .int .i64 0, .int .i64 0, .int .i64 0])) ∨ (¬ ShOk (dia p1 p2 p3) (dia v1 v2 v3) ∧ e = .panicked FALL)) ∧ Ext w1 w2) (w : World) : Calls Tryz.prog 41 #[.agg #[.int .i64 t, .int .i64 p1, .int .i64 p2, .int .i64 p3, .int .i64 v1, .int .i64 v2, .int .i64 v3]] w fun e w' => ((ClOk (dia p1 p2 p3) (dia v1 v2 v3) ∧ e = .returned (.agg #[.int .i64 (shR (dia p1 p2 p3)).lo, .int .i64 (shR (dia p1 p2 p3)).hi, .int .i64 (shA (dia p1 p2 p3) (dia v1 v2 v3)).lo, .int .i64 (shA (dia p1 p2 p3) (dia v1 v2 v3)).hi, .int .i64 (shK (dia p1 p2 p3) (dia v1 v2 v3)).lo, .int .i64 (shK (dia p1 p2 p3) (dia v1 v2 v3)).hi, .int .i64 (shZ).lo, .int .i64 (shZ).hi, .int .i64 (shQ (dia p1 p2 p3) (dia v1 v2 v3)).lo, .int .i64 (shQ (dia p1 p2 p3) (dia v1 v2 v3)).hi, .int .i64 (shU (dia p1 p2 p3) (dia v1 v2 v3)).lo, .int .i64 (shU (dia p1 p2 p3) (dia v1 v2 v3)).hi, .int .i64 0, .int .i64 0, .int .i64 0, .int .i64 0])) ∨ (¬ ClOk (dia p1 p2 p3) (dia v1 v2 v3) ∧ e = .panicked FALL)) ∧ Ext w w' := by
 obtain ⟨⟨l2, u2, e2⟩, hn2⟩ : ∃ x, shR (dia p1 p2 p3) = x := ⟨_, rfl⟩
 obtain ⟨⟨l6, u6, e6⟩, hn6⟩ : ∃ x, shA (dia p1 p2 p3) (dia v1 v2 v3) = x := ⟨_, rfl⟩
 obtain ⟨⟨l11, u11, e11⟩, hn11⟩ : ∃ x, shK (dia p1 p2 p3) (dia v1 v2 v3) = x := ⟨_, rfl⟩
 obtain ⟨⟨l12, u12, e12⟩, hn12⟩ : ∃ x, shZ = x := ⟨_, rfl⟩
 obtain ⟨⟨l13, u13, e13⟩, hn13⟩ : ∃ x, shQ (dia p1 p2 p3) (dia v1 v2 v3) = x := ⟨_, rfl⟩
 obtain ⟨⟨l14, u14, e14⟩, hn14⟩ : ∃ x, shU (dia p1 p2 p3) (dia v1 v2 v3) = x := ⟨_, rfl⟩
 have i12 : I64 l12 ∧ I64 u12 := by have h := sqrtI_W 325358913 325358914; have hh : sqrtI 325358913 325358914 = ⟨l12, u12, e12⟩ := hn12; rw [hh] at h; exact h
 have i6 : I64 l6 ∧ I64 u6 := by have h := subI_W (shI (dia p1 p2 p3)).lo (shI (dia p1 p2 p3)).hi (shB (dia v1 v2 v3)).lo (shB (dia v1 v2 v3)).hi; have hh : subI (shI (dia p1 p2 p3)).lo (shI (dia p1 p2 p3)).hi (shB (dia v1 v2 v3)).lo (shB (dia v1 v2 v3)).hi = ⟨l6, u6, e6⟩ := hn6; rw [hh] at h; exact h
 have i13 : I64 l13 ∧ I64 u13 := by have h := sqrtI_W (shA (dia p1 p2 p3) (dia v1 v2 v3)).lo (shA (dia p1 p2 p3) (dia v1 v2 v3)).hi; have hh : sqrtI (shA (dia p1 p2 p3) (dia v1 v2 v3)).lo (shA (dia p1 p2 p3) (dia v1 v2 v3)).hi = ⟨l13, u13, e13⟩ := hn13; rw [hh] at h; exact h
 have s13 : Hid (∀ w1, Calls Tryz.prog 82 #[.agg #[.int .i64 l6, .int .i64 u6]] w1 fun e w2 => ((e13 = 0 ∧ e = .returned (.agg #[.int .i64 l13, .int .i64 u13])) ∨ (¬ e13 = 0 ∧ e = .panicked FALL)) ∧ Ext w1 w2) := by
  unfold Hid
  intro w1
  have hh : sqrtI (shA (dia p1 p2 p3) (dia v1 v2 v3)).lo (shA (dia p1 p2 p3) (dia v1 v2 v3)).hi = ⟨l13, u13, e13⟩ := hn13
  rw [hn6] at hh
  have h := k_root l6 u6 w1
  rw [hh] at h
  exact h
 have s14 : Hid (∀ (g cap : Nat) w1, Bn 4 w1 g (fun o => if o = 0 then l6 else if o = 1 then u6 else if o = 2 then l13 else u13) → Calls Tryz.prog 86 #[.agg #[.int .i64 l12, .int .i64 u12], .slice (some ⟨g, 0, none⟩) 2 cap] w1 fun e w2 => ((e14 = 0 ∧ e = .returned (.agg #[.int .i64 l14, .int .i64 u14])) ∨ (¬ e14 = 0 ∧ e = .panicked FALL)) ∧ Ext w1 w2) := by
  unfold Hid
  intro g cap w1 hb
  have hh : mul2I shZ.lo shZ.hi (shA (dia p1 p2 p3) (dia v1 v2 v3)).lo (shA (dia p1 p2 p3) (dia v1 v2 v3)).hi (shQ (dia p1 p2 p3) (dia v1 v2 v3)).lo (shQ (dia p1 p2 p3) (dia v1 v2 v3)).hi = ⟨l14, u14, e14⟩ := hn14
  rw [hn12, hn6, hn13] at hh
  have h := k_mul2 l12 u12 l6 u6 l13 u13 g cap w1 i12 i6 i13 (hb.at 0 l6 (by decide) rfl) (hb.at 1 u6 (by decide) rfl) (hb.at 2 l13 (by decide) rfl) (hb.at 3 u13 (by decide) rfl)
  rw [hh] at h
  exact h
 have hOk1 : ClOk (dia p1 p2 p3) (dia v1 v2 v3) ↔ (ShOk (dia p1 p2 p3) (dia v1 v2 v3) ∧ 0 < l6 ∧ e13 = 0 ∧ e14 = 0) := by unfold ClOk; rw [hn6, hn13, hn14]
 obtain ⟨Ok, hOk⟩ : ∃ Ok : Prop, ClOk (dia p1 p2 p3) (dia v1 v2 v3) = Ok := ⟨_, rfl⟩
 obtain ⟨Sk, hSk⟩ : ∃ Ok : Prop, ShOk (dia p1 p2 p3) (dia v1 v2 v3) = Ok := ⟨_, rfl⟩
 rw [hOk, hSk] at hOk1
 rw [hSk, hn2, hn6, hn11, hn12] at hsh0
 dsimp only at hsh0
 have hsh : Hid (∀ w1, Calls Tryz.prog 38 #[.agg #[.int .i64 t, .int .i64 p1, .int .i64 p2, .int .i64 p3, .int .i64 v1, .int .i64 v2, .int .i64 v3]] w1 fun e w2 => ((Sk ∧ e = .returned (.agg #[.int .i64 l2, .int .i64 u2, .int .i64 l6, .int .i64 u6, .int .i64 l11, .int .i64 u11, .int .i64 l12, .int .i64 u12, .int .i64 0, .int .i64 0, .int .i64 0, .int .i64 0, .int .i64 0, .int .i64 0, .int .i64 0, .int .i64 0])) ∨ (¬ Sk ∧ e = .panicked FALL)) ∧ Ext w1 w2) := hsh0
 rw [hn2, hn6, hn11, hn12, hn13, hn14, hOk]
 dsimp only
 clear hOk hSk hn2 hn6 hn11 hn12 hn13 hn14 i12 i6 i13 hsh0
 have hno1 : ¬ Sk → ¬ Ok := fun h k => h (hOk1.mp k).1
 have hno13 : ¬ e13 = 0 → ¬ Ok := fun h k => h (hOk1.mp k).2.2.1
 have hno14 : ¬ e14 = 0 → ¬ Ok := fun h k => h (hOk1.mp k).2.2.2
 have hnoA : l6 ≤ 0 → ¬ Ok := fun h k => by have := (hOk1.mp k).2.1; omega
 have hyes : Sk → 0 < l6 → e13 = 0 → e14 = 0 → Ok := fun a b c d => hOk1.mpr ⟨a, b, c, d⟩
 clear hOk1
 have q0 : IntKind.i64.wrap 0 = 0 := rfl
 have q1 : IntKind.i64.wrap 1 = 1 := rfl
 go_enter Tryz.func41, Tryz.ntmps41
 go_upto_region 1 with fail
 refine wp_nameE fun U0 hU => ?_
 have hE : Ext w U0 := by
  exact T_KL_2
 have h7 : Bn 7 U0 (w.heap.size) (fun o => if o = 0 then t else if o = 1 then p1 else if o = 2 then p2 else if o = 3 then p3 else if o = 4 then v1 else if o = 5 then v2 else v3) := by
  rw [← hU]
  refine ⟨fun o ho => ?_, fun o => by simp [go_sem, ↓IntWalk.iteOmega], by simp <;> omega⟩
  have hoo : o = 0 ∨ o = 1 ∨ o = 2 ∨ o = 3 ∨ o = 4 ∨ o = 5 ∨ o = 6 := by omega
  rcases hoo with rfl | rfl | rfl | rfl | rfl | rfl | rfl <;> simp [go_sem, ↓IntWalk.iteOmega]
 have hO : Bn 16 U0 (w.heap.size + 1) (fun _ => 0) := by
  exact T_KL_1
 clear hU
 have h7q0 := h7.at 0 (t) (by decide) rfl
 have h7q1 := h7.at 1 (p1) (by decide) rfl
 have h7q2 := h7.at 2 (p2) (by decide) rfl
 have h7q3 := h7.at 3 (p3) (by decide) rfl
 have h7q4 := h7.at 4 (v1) (by decide) rfl
 have h7q5 := h7.at 5 (v2) (by decide) rfl
 have h7q6 := h7.at 6 (v3) (by decide) rfl
 go_upto_region 2 with (go_at_call 38; (with_reducible refine (hsh.out _).mono ?_); rintro e w1 ⟨⟨hzS, rfl⟩ | ⟨hzS, rfl⟩, hb⟩; (rotate_left; (focus ((try go_wp2_with fail); refine ⟨rfl, Or.inr ⟨?_, rfl⟩, ?_⟩; (exact hno1 hzS); (exact hE.trans hb)))); replace hO := hO.ext hb; replace hE := hE.trans hb)
 refine wp_nameE fun U1 hU => ?_
 have hx : Ext w1 U1 := by
  exact T_KL_2
 have hA : Bn 16 U1 (w1.heap.size) (fun o => if o = 0 then l2 else if o = 1 then u2 else if o = 2 then l6 else if o = 3 then u6 else if o = 4 then l11 else if o = 5 then u11 else if o = 6 then l12 else if o = 7 then u12 else if o = 8 then 0 else if o = 9 then 0 else if o = 10 then 0 else if o = 11 then 0 else if o = 12 then 0 else if o = 13 then 0 else if o = 14 then 0 else 0) := by
  exact T_KL_1
 have hOl := hO.2.2
 replace hO := hO.ext hx
 replace hE := hE.trans hx
 clear hU hx hb h7 h7q0 h7q1 h7q2 h7q3 h7q4 h7q5 h7q6
 obtain ⟨gA, hgA⟩ : ∃ x, w1.heap.size = x := ⟨_, rfl⟩
 rw [hgA] at hA hOl ⊢
 clear hgA
 have a2 := hA.at 2 l6 (by decide) rfl
 have hpos : 0 < l6 ∨ l6 ≤ 0 := by omega
 rcases hpos with hpos | hpos
 rotate_left
 ·go_wp2_with fail
  refine ⟨rfl, Or.inr ⟨hnoA hpos, rfl⟩, ?_⟩
  exact hE
 have a3 := hA.at 3 u6 (by decide) rfl
 go_upto_region 5 with (go_at_call 82; (with_reducible refine (s13.out _).mono ?_); rintro e w1 ⟨⟨hz13, rfl⟩ | ⟨hz13, rfl⟩, hb⟩; (rotate_left; (focus ((try go_wp2_with fail); refine ⟨rfl, Or.inr ⟨?_, rfl⟩, ?_⟩; (exact hno13 hz13); (exact hE.trans hb)))); replace hO := hO.ext hb; replace hA := hA.ext hb; replace hE := hE.trans hb; (have c0 := hA.at 8 0 (by decide) rfl); (have c1 := hA.at 9 0 (by decide) rfl); (have cf0 := hA.2.1 8); (have cf1 := hA.2.1 9))
 refine wp_nameE fun U2 hU => ?_
 have hgb := hA.gb2 8 9 l13 u13
 have hAn := (hA.set 8 l13).set 9 u13
 rw [hU] at hgb hAn
 replace hO := hO.grown hgb (by omega)
 replace hE := GB.pre hE hgb (by omega)
 replace hA := hAn
 clear hU hgb hAn c0 c1 cf0 cf1 a2 a3 hb
 have hAq0 := hA.at 0 (l2) (by decide) rfl
 have hAq1 := hA.at 1 (u2) (by decide) rfl
 have hAq2 := hA.at 2 (l6) (by decide) rfl
 have hAq3 := hA.at 3 (u6) (by decide) rfl
 have hAq4 := hA.at 4 (l11) (by decide) rfl
 have hAq5 := hA.at 5 (u11) (by decide) rfl
 have hAq6 := hA.at 6 (l12) (by decide) rfl
 have hAq7 := hA.at 7 (u12) (by decide) rfl
 have hAq8 := hA.at 8 (l13) (by decide) rfl
 have hAq9 := hA.at 9 (u13) (by decide) rfl
 go_upto_region 6 with (go_at_call 86; (have hq := s14.out _ 2 _ (Bn.four U2 l6 u6 l13 u13 74)); (with_reducible refine hq.mono ?_); rintro e w1 ⟨⟨hz14, rfl⟩ | ⟨hz14, rfl⟩, hb0⟩; (rotate_left; (focus ((try go_wp2_with fail); refine ⟨rfl, Or.inr ⟨?_, rfl⟩, ?_⟩; (exact hno14 hz14); (exact hE.trans (Ext.trans (Ext.alloc (Ext.refl U2) _) hb0))))); (have hb := Ext.trans (Ext.alloc (Ext.refl U2) _) hb0); replace hO := hO.ext hb; replace hA := hA.ext hb; replace hE := hE.trans hb; (have c0 := hA.at 10 0 (by decide) rfl); (have c1 := hA.at 11 0 (by decide) rfl); (have cf0 := hA.2.1 10); (have cf1 := hA.2.1 11))
 refine wp_nameE fun U3 hU => ?_
 have hgb := hA.gb2 10 11 l14 u14
 have hAn := (hA.set 10 l14).set 11 u14
 rw [hU] at hgb hAn
 replace hO := hO.grown hgb (by omega)
 replace hE := GB.pre hE hgb (by omega)
 replace hA := hAn
 clear hU hgb hAn c0 c1 cf0 cf1 hb hb0 hAq0 hAq1 hAq2 hAq3 hAq4 hAq5 hAq6 hAq7 hAq8 hAq9
 have hAq0 := hA.at 0 (l2) (by decide) rfl
 have hAq1 := hA.at 1 (u2) (by decide) rfl
 have hAq2 := hA.at 2 (l6) (by decide) rfl
 have hAq3 := hA.at 3 (u6) (by decide) rfl
 have hAq4 := hA.at 4 (l11) (by decide) rfl
 have hAq5 := hA.at 5 (u11) (by decide) rfl
 have hAq6 := hA.at 6 (l12) (by decide) rfl
 have hAq7 := hA.at 7 (u12) (by decide) rfl
 have hAq8 := hA.at 8 (l13) (by decide) rfl
 have hAq9 := hA.at 9 (u13) (by decide) rfl
 have hAq10 := hA.at 10 (l14) (by decide) rfl
 have hAq11 := hA.at 11 (u14) (by decide) rfl
 have hAq12 := hA.at 12 (0) (by decide) rfl
 have hAq13 := hA.at 13 (0) (by decide) rfl
 have hAq14 := hA.at 14 (0) (by decide) rfl
 have hAq15 := hA.at 15 (0) (by decide) rfl
 have o0 := hO.at 0 0 (by decide) rfl
 have of0 := hO.2.1 0
 have o1 := hO.at 1 0 (by decide) rfl
 have of1 := hO.2.1 1
 have o2 := hO.at 2 0 (by decide) rfl
 have of2 := hO.2.1 2
 have o3 := hO.at 3 0 (by decide) rfl
 have of3 := hO.2.1 3
 have o4 := hO.at 4 0 (by decide) rfl
 have of4 := hO.2.1 4
 have o5 := hO.at 5 0 (by decide) rfl
 have of5 := hO.2.1 5
 have o6 := hO.at 6 0 (by decide) rfl
 have of6 := hO.2.1 6
 have o7 := hO.at 7 0 (by decide) rfl
 have of7 := hO.2.1 7
 have o8 := hO.at 8 0 (by decide) rfl
 have of8 := hO.2.1 8
 have o9 := hO.at 9 0 (by decide) rfl
 have of9 := hO.2.1 9
 have o10 := hO.at 10 0 (by decide) rfl
 have of10 := hO.2.1 10
 have o11 := hO.at 11 0 (by decide) rfl
 have of11 := hO.2.1 11
 have o12 := hO.at 12 0 (by decide) rfl
 have of12 := hO.2.1 12
 have o13 := hO.at 13 0 (by decide) rfl
 have of13 := hO.2.1 13
 have o14 := hO.at 14 0 (by decide) rfl
 have of14 := hO.2.1 14
 have o15 := hO.at 15 0 (by decide) rfl
 have of15 := hO.2.1 15
 go_wp2_with fail
 refine bodyPost_ret (v := .agg #[.int .i64 l2, .int .i64 u2, .int .i64 l6, .int .i64 u6, .int .i64 l11, .int .i64 u11, .int .i64 l12, .int .i64 u12, .int .i64 l13, .int .i64 u13, .int .i64 l14, .int .i64 u14, .int .i64 0, .int .i64 0, .int .i64 0, .int .i64 0]) ?_ rfl ⟨Or.inl ⟨hyes hzS hpos hz13 hz14, rfl⟩, ?_⟩
 ·simp [results, Tryz.results41, go_sem, ↓IntWalk.iteOmega, *]
 ·exact GB.pre hE (((((((((((((((((GB.refl _ _).set (j := 0) _).set (j := 1) _).set (j := 2) _).set (j := 3) _).set (j := 4) _).set (j := 5) _).set (j := 6) _).set (j := 7) _).set (j := 8) _).set (j := 9) _).set (j := 10) _).set (j := 11) _).set (j := 12) _).set (j := 13) _).set (j := 14) _).set (j := 15) _) (by omega)
theorem T_KD_1 {p : Prop} (h : p := by
 refine callsD_of_wpS Tryz.func37 rfl fun c₀ cs hu => ?_
 apply wpS_seq
 apply wpS_region
 simp [wpOpsS, go_sem, recoverD, hu, Tryz.ntmps37, Exit.thenS]
 refine wpS_of_wp ?_
 go_wp2
 cases c₀
 simp_all [bodyPostS, results, Tryz.results37]) : p := h
@[go_sem] theorem as119 (v : Value) (w : World) : (Instr.typeAssert (.iface 119 v) 20 119 true).run Tryz.prog w = .ok (.tuple #[v, .bool true]) w := by kernel_rfl
theorem k_catch (p : Value) (w : World) :
    CallsD Tryz.prog 37 #[p] .returning w fun e u' w' => e = .returned (.tuple #[]) ∧ u' = .returning ∧ w' = w := by
 exact T_KD_1
theorem k_caught (g : Nat) (w : World) (hc : w.cell? ⟨g, 0, none⟩ = some (.int .i64 0)) (hz : w.frozen? ⟨g, 0, none⟩ = false) :
    CallsD Tryz.prog 37 #[.pointer (some ⟨g, 0, none⟩)] (.panicking [{ v := .iface 119 (.agg #[]), recovered := false }]) w fun e u' w' =>
      e = .returned (.tuple #[]) ∧ u' = .panicking [{ v := .iface 119 (.agg #[]), recovered := true }] ∧ w' = (w.setCell ⟨g, 0, none⟩ (.int .i64 24)).alloc (.cells #[] 119) := by
 have hgl : g < w.heap.size := World.block_lt_of_cell? w _ hc
 exact T_KD_1
end Go.Proofs.YtogblocakccbgaaGreat
set_option linter.unusedSimpArgs false
namespace Go.Proofs.YtogblocakccbgaaGreat
open Go.RowKit
theorem leaves_congr {P : Program} {fn : Func} {t1 t2 : Array Value} {R : Ending → World → Prop} (h : results fn t1 = results fn t2) (ds : List Deferred) (u : FrameMode) (w : World) (k : Leaves P fn t1 R ds u w) : Leaves P fn t2 R ds u w := by
 have he : ∀ ds u w, Leaves P fn t1 R ds u w = Leaves P fn t2 R ds u w := by
  intro ds
  induction ds with
  | nil => intro u w; cases u <;> simp [Leaves, h]
  | cons d ds ih => intro u w; simp only [Leaves, ih]
 rw [← he]; exact k
theorem res15 (t : Array Value) (i : Nat) (v : Value) (h2 : i ≠ 2) (h3 : i ≠ 3) (h4 : i ≠ 4) : results Tryz.f15 (t.setIfInBounds i v) = results Tryz.f15 t := by
 simp [results, Tryz.results15, Array.getElem?_setIfInBounds, h2, h3, h4]
theorem res17 (t : Array Value) (i : Nat) (v : Value) (h2 : i ≠ 2) (h3 : i ≠ 3) : results Tryz.f17 (t.setIfInBounds i v) = results Tryz.f17 t := by
 simp [results, Tryz.results17, Array.getElem?_setIfInBounds, h2, h3]
end Go.Proofs.YtogblocakccbgaaGreat
namespace Go.Proofs.YtogblocakccbgaaGreat
open Go.RowKit
def outB (a b c M : Int) : Bool := decide (M < a ∨ M < b ∨ M < c ∨ a < -M ∨ b < -M ∨ c < -M)
theorem k_out1 (a b c : Int) (w : World) : Calls Tryz.prog 78 #[.agg #[.int .i64 a, .int .i64 b, .int .i64 c], .int .i64 8796093022208] w fun e w' => e = .returned (.bool (outB a b c 8796093022208)) ∧ Ext w w' := by
 have l0 : IntKind.i64.wrap 0 = 0 := rfl
 have l1 : IntKind.i64.wrap 1 = 1 := rfl
 have l2 : IntKind.i64.wrap 2 = 2 := rfl
 go_enter Tryz.func78, Tryz.ntmps78
 go_wp2
 all_goals (
  refine bodyPost_ret (v := .bool (outB a b c 8796093022208)) ?_ rfl ⟨rfl, ?_⟩
  ·simp [results, Tryz.results78, go_sem, outB]
   (try rw [Bool.eq_iff_iff])
   (try simp only [Bool.or_eq_true, decide_eq_true_eq])
   have hmm : (if b < a then b else a) ≤ a ∧ (if b < a then b else a) ≤ b ∧ ((if b < a then b else a) = a ∨ (if b < a then b else a) = b) := by split <;> omega
   generalize (if b < a then b else a) = mm at *
   (try omega)
  ·repeat (first | with_reducible exact Ext.refl _ | with_reducible assumption | with_reducible refine Ext.alloc ?_ _ | with_reducible refine Ext.setCell ?_ c_14 _ | with_reducible refine Ext.drewN ?_ _ | with_reducible refine Ext.drew ?_ | with_reducible refine Ext.trans ?_ c_1))
theorem k_out2 (a b c : Int) (w : World) : Calls Tryz.prog 78 #[.agg #[.int .i64 a, .int .i64 b, .int .i64 c], .int .i64 1099511627776] w fun e w' => e = .returned (.bool (outB a b c 1099511627776)) ∧ Ext w w' := by
 have l0 : IntKind.i64.wrap 0 = 0 := rfl
 have l1 : IntKind.i64.wrap 1 = 1 := rfl
 have l2 : IntKind.i64.wrap 2 = 2 := rfl
 go_enter Tryz.func78, Tryz.ntmps78
 go_wp2
 all_goals (
  refine bodyPost_ret (v := .bool (outB a b c 1099511627776)) ?_ rfl ⟨rfl, ?_⟩
  ·simp [results, Tryz.results78, go_sem, outB]
   (try rw [Bool.eq_iff_iff])
   (try simp only [Bool.or_eq_true, decide_eq_true_eq])
   have hmm : (if b < a then b else a) ≤ a ∧ (if b < a then b else a) ≤ b ∧ ((if b < a then b else a) = a ∨ (if b < a then b else a) = b) := by split <;> omega
   generalize (if b < a then b else a) = mm at *
   (try omega)
  ·repeat (first | with_reducible exact Ext.refl _ | with_reducible assumption | with_reducible refine Ext.alloc ?_ _ | with_reducible refine Ext.setCell ?_ c_14 _ | with_reducible refine Ext.drewN ?_ _ | with_reducible refine Ext.drew ?_ | with_reducible refine Ext.trans ?_ c_1))
theorem eqA (d : Nat) (a b c : Int) (w : World) : (Op.equalIn (d + 1 + 1) 38 (.agg #[.int .i64 a, .int .i64 b, .int .i64 c]) (.agg #[.int .i64 0, .int .i64 0, .int .i64 0])).run Tryz.prog w = .ok (a == 0 && (b == 0 && c == 0)) w := by
 have h38 : Tryz.prog.underlying 38 = some (.array 3 2) := by kernel_rfl
 have h2 : Tryz.prog.underlying 2 = some (.int .i64) := by kernel_rfl
 rw [Op.equalIn]
 have hs : ∀ w, (sizeOf 2).run Tryz.prog w = .ok 1 w := fun w => by kernel_rfl
 have hp0 : ∀ (a b c : Int) w, (part 2 #[.int .i64 a, .int .i64 b, .int .i64 c] 0).run Tryz.prog w = .ok (.int .i64 a) w := fun a b c w => by kernel_rfl
 have hp1 : ∀ (a b c : Int) w, (part 2 #[.int .i64 a, .int .i64 b, .int .i64 c] 1).run Tryz.prog w = .ok (.int .i64 b) w := fun a b c w => by kernel_rfl
 have hp2 : ∀ (a b c : Int) w, (part 2 #[.int .i64 a, .int .i64 b, .int .i64 c] 2).run Tryz.prog w = .ok (.int .i64 c) w := fun a b c w => by kernel_rfl
 have he : ∀ (a b : Int) w, (Op.equalIn (d + 1) 2 (.int .i64 a) (.int .i64 b)).run Tryz.prog w = .ok (a == b) w := fun a b w => run_equalIn_int w d 2 .i64 .i64 a b h2
 simp only [Sem.run_bind, run_underlying h38, Result.andThen_ok, hs, Nat.mul_one]
 simp only [Std.Legacy.Range.forIn_eq_forIn_range', Std.Legacy.Range.size]
 have hr : List.range' 0 3 = [0, 1, 2] := rfl
 simp [List.range', hp0, hp1, hp2, he]
 by_cases h0 : a = 0 <;> by_cases h1 : b = 0 <;> by_cases h3 : c = 0 <;> (try simp [h0, h1, h3, he, hp1, hp2])
theorem eqA4 (a b c : Int) (w : World) : (Op.equalIn 10000 38 (.agg #[.int .i64 a, .int .i64 b, .int .i64 c]) (.agg #[.int .i64 0, .int .i64 0, .int .i64 0])).run Tryz.prog w = .ok (decide (a = 0 ∧ b = 0 ∧ c = 0)) w := (eqA 9998 a b c w).trans (by congr 1; by_cases h0 : a = 0 <;> by_cases h1 : b = 0 <;> by_cases h3 : c = 0 <;> simp [h0, h1, h3])
theorem T_KE_1 {p : Prop} (h : p := by
 go_enter Tryz.func36, Tryz.ntmps36
 go_wp2_with (first | (go_at_call 78; (with_reducible refine (hs1 _).mono ?_); rintro e w1 ⟨rfl, hb⟩; obtain ⟨_, _, hc, hf⟩ := hb.cells2; have hz := hb.size; (try simp only [wsz] at hz hc hf)) | (go_at_call 78; (with_reducible refine (hs2 _).mono ?_); rintro e w1 ⟨rfl, hb⟩; obtain ⟨_, _, hc, hf⟩ := hb.cells2; have hz := hb.size; (try simp only [wsz] at hz hc hf)))
 all_goals (
  refine bodyPost_ret (v := .int .i64 8) ?_ rfl ⟨by simp [*], ?_⟩
  ·simp [results, Tryz.results36, go_sem, ↓IntWalk.iteOmega, *]
  ·repeat (first | with_reducible exact Ext.refl _ | with_reducible assumption | with_reducible refine Ext.alloc ?_ _ | with_reducible refine Ext.setCell ?_ c_14 _ | with_reducible refine Ext.drewN ?_ _ | with_reducible refine Ext.drew ?_ | with_reducible refine Ext.trans ?_ c_1))) : p := h
def stB (t p1 p2 p3 v1 v2 v3 : Int) : Bool := decide (t < -5000000000000000) || decide (5000000000000000 < t) || decide (p1 = 0 ∧ p2 = 0 ∧ p3 = 0) || outB p1 p2 p3 8796093022208 || outB v1 v2 v3 1099511627776
def stE (t p1 p2 p3 v1 v2 v3 : Int) : Int := if stB t p1 p2 p3 v1 v2 v3 then 8 else 0
theorem k_Check (t p1 p2 p3 v1 v2 v3 : Int) (w : World) : Calls Tryz.prog 36 #[.agg #[.int .i64 t, .int .i64 p1, .int .i64 p2, .int .i64 p3, .int .i64 v1, .int .i64 v2, .int .i64 v3]] w fun e w' => e = .returned (.int .i64 (stE t p1 p2 p3 v1 v2 v3)) ∧ Ext w w' := by
 have l0 : IntKind.i64.wrap 0 = 0 := rfl
 have l1 : IntKind.i64.wrap 1 = 1 := rfl
 have l2 : IntKind.i64.wrap 2 = 2 := rfl
 have hs1 := fun w1 => k_out1 p1 p2 p3 w1
 have hs2 := fun w1 => k_out2 v1 v2 v3 w1
 unfold stE stB
 have hq := eqA4 p1 p2 p3
 generalize decide (p1 = 0 ∧ p2 = 0 ∧ p3 = 0) = o3 at hq ⊢
 generalize outB p1 p2 p3 8796093022208 = o1 at hs1 ⊢
 generalize outB v1 v2 v3 1099511627776 = o2 at hs2 ⊢
 by_cases h1 : t < -5000000000000000
 ·exact T_KE_1
 by_cases h2 : 5000000000000000 < t
 ·exact T_KE_1
 cases o3
 rotate_left
 ·exact T_KE_1
 cases o1
 ·cases o2
  ·go_enter Tryz.func36, Tryz.ntmps36
   go_wp2_with (first | (go_at_call 78; (with_reducible refine (hs1 _).mono ?_); rintro e w1 ⟨rfl, hb⟩; obtain ⟨_, _, hc, hf⟩ := hb.cells2; have hz := hb.size; (try simp only [wsz] at hz hc hf)) | (go_at_call 78; (with_reducible refine (hs2 _).mono ?_); rintro e w1 ⟨rfl, hb⟩; obtain ⟨_, _, hc, hf⟩ := hb.cells2; have hz := hb.size; (try simp only [wsz] at hz hc hf)))
   all_goals (
    refine bodyPost_ret (v := .int .i64 0) ?_ rfl ⟨by simp [*], ?_⟩
    ·simp [results, Tryz.results36, go_sem, ↓IntWalk.iteOmega, *]
    ·repeat (first | with_reducible exact Ext.refl _ | with_reducible assumption | with_reducible refine Ext.alloc ?_ _ | with_reducible refine Ext.setCell ?_ c_14 _ | with_reducible refine Ext.drewN ?_ _ | with_reducible refine Ext.drew ?_ | with_reducible refine Ext.trans ?_ c_1))
  ·exact T_KE_1
 ·exact T_KE_1
end Go.Proofs.YtogblocakccbgaaGreat
