/- planisphereref03: the order of numbers of two words; ends.; planisphereref03: ends. -/
import Derived.Test.YtogblocakccbgaaGreatJ00
import Derived.Test.YtogblocakccbgaaGreatJ15
import Derived.Deep.CutBlock
import Derived.Deep.DeepCutAuto
set_option linter.unusedSimpArgs false
set_option linter.unusedVariables false
set_option maxRecDepth 100000
set_option maxHeartbeats 4000000
namespace Go.Proofs.YtogblocakccbgaaGreat
open Go.RowKit
theorem T_RefB_1 {p : Prop} (h : p := by
 rw [eT, eU]
 go_enter Tryz.func108, Tryz.ntmps108
 go_wp2_with fail
 go_ret
 refine ⟨congrArg (fun n => Ending.returned (.bool n)) ?_, by repeat (first | exact Ext.refl _ | with_reducible assumption | refine Ext.alloc ?_ _ | refine Ext.setCell ?_ c_14 _ | refine Ext.drewN ?_ _ | refine Ext.drew ?_ | refine Ext.trans ?_ c_1)⟩
 simp; omega) : p := h
theorem ref_less (T U : Int) (w : World) :
    Calls Tryz.prog 108 #[.agg #[.bool (decide (T < 0)), .int .u64 (absv (T) / 18446744073709551616), .int .u64 (absv (T) % 18446744073709551616)], .agg #[.bool (decide (U < 0)), .int .u64 (absv (U) / 18446744073709551616), .int .u64 (absv (U) % 18446744073709551616)]] w fun e w' => e = .returned (.bool (decide (T < U))) ∧ Ext w w' := by
 have hn : (T < 0 → absv T = -T) ∧ (0 ≤ T → absv T = T) := by unfold absv; split <;> omega
 have hm : (U < 0 → absv U = -U) ∧ (0 ≤ U → absv U = U) := by unfold absv; split <;> omega
 obtain ⟨h, eh⟩ : ∃ h : Int, h = absv T / 18446744073709551616 := ⟨_, rfl⟩
 obtain ⟨l, el⟩ : ∃ h : Int, h = absv T % 18446744073709551616 := ⟨_, rfl⟩
 obtain ⟨h', eh'⟩ : ∃ h : Int, h = absv U / 18446744073709551616 := ⟨_, rfl⟩
 obtain ⟨l', el'⟩ : ∃ h : Int, h = absv U % 18446744073709551616 := ⟨_, rfl⟩
 rw [← eh, ← el, ← eh', ← el']
 have hH : (T < 0 → U < 0 → (T < U ↔ h' < h ∨ h' = h ∧ l' < l)) ∧ (0 ≤ T → 0 ≤ U → (T < U ↔ h < h' ∨ h = h' ∧ l < l')) := by omega
 clear eh el eh' el' hn hm
 have HH := Lib.hid hH; clear hH
 by_cases hT : T < 0 <;> by_cases hU : U < 0
 ·have eT : decide (T < 0) = true := by simp; omega
  have eU : decide (U < 0) = true := by simp; omega
  rw [eT, eU]
  go_enter Tryz.func108, Tryz.ntmps108
  go_wp2_with fail
  go_region
  all_goals go_wp2_with fail
  all_goals go_region
  all_goals go_wp2_with fail
  all_goals
   go_ret
   refine ⟨congrArg (fun n => Ending.returned (.bool n)) ?_, by repeat (first | exact Ext.refl _ | with_reducible assumption | refine Ext.alloc ?_ _ | refine Ext.setCell ?_ c_14 _ | refine Ext.drewN ?_ _ | refine Ext.drew ?_ | refine Ext.trans ?_ c_1)⟩
   have H := HH.out.1 hT hU
   show _ = decide (T < U)
   by_cases c : T < U <;> simp [c] <;> omega
 ·have eT : decide (T < 0) = true := by simp; omega
  have eU : decide (U < 0) = false := by simp; omega
  exact T_RefB_1
 ·have eT : decide (T < 0) = false := by simp; omega
  have eU : decide (U < 0) = true := by simp; omega
  exact T_RefB_1
 ·have eT : decide (T < 0) = false := by simp; omega
  have eU : decide (U < 0) = false := by simp; omega
  rw [eT, eU]
  go_enter Tryz.func108, Tryz.ntmps108
  go_wp2_with fail
  go_region
  all_goals go_wp2_with fail
  all_goals
   go_ret
   refine ⟨congrArg (fun n => Ending.returned (.bool n)) ?_, by repeat (first | exact Ext.refl _ | with_reducible assumption | refine Ext.alloc ?_ _ | refine Ext.setCell ?_ c_14 _ | refine Ext.drewN ?_ _ | refine Ext.drew ?_ | refine Ext.trans ?_ c_1)⟩
   have H := HH.out.2 (by omega) (by omega)
   show _ = decide (T < U)
   by_cases c : T < U <;> simp [c] <;> omega
theorem held3d {w W w' : World} {RB lo hi : Nat} {ob : Obj}
    (h : (∀ b o, b < W.heap.size → w'.drew.cell? ⟨b, o, none⟩ = if b = RB ∧ lo ≤ o ∧ o < hi then (W.cell? ⟨b, o, none⟩).map (obx w'.drew b o) else W.cell? ⟨b, o, none⟩) ∧ (∀ b o, b < W.heap.size → w'.drew.frozen? ⟨b, o, none⟩ = W.frozen? ⟨b, o, none⟩) ∧ W.heap.size ≤ w'.drew.heap.size ∧ Ext w w'.drew) :
    (∀ b o, b < W.heap.size → (w'.alloc ob).drew.cell? ⟨b, o, none⟩ = if b = RB ∧ lo ≤ o ∧ o < hi then (W.cell? ⟨b, o, none⟩).map (obx (w'.alloc ob).drew b o) else W.cell? ⟨b, o, none⟩) ∧ (∀ b o, b < W.heap.size → (w'.alloc ob).drew.frozen? ⟨b, o, none⟩ = W.frozen? ⟨b, o, none⟩) ∧ W.heap.size ≤ (w'.alloc ob).drew.heap.size ∧ Ext w (w'.alloc ob).drew :=
  held3 (w' := w'.drew) h
theorem ref_less2 (T U : Int) (w : World) :
    Calls Tryz.prog 108 #[.agg #[.bool (decide (T < 0)), .int .u64 (absv (T) / 18446744073709551616), .int .u64 (absv (T) % 18446744073709551616)], .agg #[.bool (decide (U < 0)), .int .u64 (absv (U) / 18446744073709551616), .int .u64 (absv (U) % 18446744073709551616)]] w fun e w' => (∃ B : Bool, Hid (B = true ↔ T < U) ∧ e = .returned (.bool B)) ∧ Ext w w' :=
  (ref_less T U w).mono (fun e w' h => ⟨⟨decide (T < U), Lib.hid (by simp), h.1⟩, h.2⟩)
theorem ref_ends (a b c d : Int) (w : World) (ha : I64 a ∧ I64 b) (hc0 : I64 c ∧ I64 d) :
    Calls Tryz.prog 166 #[.agg #[.int .i64 a, .int .i64 b], .agg #[.int .i64 c, .int .i64 d]] w fun e w' => e = .returned (.tuple #[.agg #[.bool (decide (min4 (a * c) (a * d) (b * c) (b * d) < 0)), .int .u64 (absv (min4 (a * c) (a * d) (b * c) (b * d)) / 18446744073709551616), .int .u64 (absv (min4 (a * c) (a * d) (b * c) (b * d)) % 18446744073709551616)], .agg #[.bool (decide (max4 (a * c) (a * d) (b * c) (b * d) < 0)), .int .u64 (absv (max4 (a * c) (a * d) (b * c) (b * d)) / 18446744073709551616), .int .u64 (absv (max4 (a * c) (a * d) (b * c) (b * d)) % 18446744073709551616)]]) ∧ Ext w w' := by
 obtain ⟨pa, pb⟩ := ha
 obtain ⟨pc, pd⟩ := hc0
 go_enter Tryz.func166, Tryz.ntmps166
 go_upto_region 1 with fail
 go_cut [6] (fun s6 wx => ∃ g, s6 = .pointer (some ⟨g, 0, none⟩) ∧ Ext ((((w.alloc (.cells #[.int .i64 a, .int .i64 b] 31)).alloc (.cells #[.int .i64 c, .int .i64 d] 31)).alloc (.cells #[.bool false, .int .u64 0, .int .u64 0] 152)).alloc (.cells #[.bool false, .int .u64 0, .int .u64 0] 152)) wx ∧ w.heap.size + 4 ≤ g ∧ g < wx.heap.size ∧ (∀ o, wx.frozen? ⟨g, o, none⟩ = false) ∧ wx.cell? ⟨g, 0, none⟩ = some (.bool (decide (a * c < 0))) ∧ wx.cell? ⟨g, 1, none⟩ = some (.int .u64 (absv (a * c) / 18446744073709551616)) ∧ wx.cell? ⟨g, 2, none⟩ = some (.int .u64 (absv (a * c) % 18446744073709551616)) ∧ wx.cell? ⟨g, 3, none⟩ = some (.bool (decide (a * d < 0))) ∧ wx.cell? ⟨g, 4, none⟩ = some (.int .u64 (absv (a * d) / 18446744073709551616)) ∧ wx.cell? ⟨g, 5, none⟩ = some (.int .u64 (absv (a * d) % 18446744073709551616)) ∧ wx.cell? ⟨g, 6, none⟩ = some (.bool (decide (b * c < 0))) ∧ wx.cell? ⟨g, 7, none⟩ = some (.int .u64 (absv (b * c) / 18446744073709551616)) ∧ wx.cell? ⟨g, 8, none⟩ = some (.int .u64 (absv (b * c) % 18446744073709551616)) ∧ wx.cell? ⟨g, 9, none⟩ = some (.bool (decide (b * d < 0))) ∧ wx.cell? ⟨g, 10, none⟩ = some (.int .u64 (absv (b * d) / 18446744073709551616)) ∧ wx.cell? ⟨g, 11, none⟩ = some (.int .u64 (absv (b * d) % 18446744073709551616)))
 case first =>
  refine wp_name fun W hW => ?_
  obtain ⟨hWc, hWf, hWz⟩ := hW.cells
  have hWe : Ext w W := Ext.same hW ex_
  (try simp only [World.size_alloc] at hWz)
  go_region_held3 (fun w' => (∀ b o, b < W.heap.size → w'.cell? ⟨b, o, none⟩ = if b = w.heap.size ∧ 0 ≤ o ∧ o < 0 then (W.cell? ⟨b, o, none⟩).map (obx w' b o) else W.cell? ⟨b, o, none⟩) ∧ (∀ b o, b < W.heap.size → w'.frozen? ⟨b, o, none⟩ = W.frozen? ⟨b, o, none⟩) ∧ W.heap.size ≤ w'.heap.size ∧ Ext w w') (first | (with_reducible exact held3d c_1) | (with_reducible exact held0 hWe) | (with_reducible exact held1 c_1 c_1) | (with_reducible exact held3 c_1) | ((with_reducible refine held4 c_1 ?_ ?_) <;> omega) | (repeat (first | (with_reducible assumption) | (with_reducible refine held2 ?_ c_2 c_10)))) ((first | (go_at_call 107; (with_reducible refine (ref_times (a) (c) _ c_32 c_32).mono ?_); rintro e w2 ⟨rfl, hb0⟩; obtain ⟨hq0, hr0⟩ := hb0.cells; have hz0 := hb0.size; (try simp only [size_drew, World.size_alloc] at hz0 hq0 hr0); (try have zz0 : w.heap.size + 1 + 1 + 1 + 1 < w2.heap.size := (by omega))) | (go_at_call 107; (with_reducible refine (ref_times (a) (d) _ c_32 c_32).mono ?_); rintro e w3 ⟨rfl, hb1⟩; obtain ⟨hq1, hr1⟩ := hb1.cells; have hz1 := hb1.size; (try simp only [World.size_alloc] at hz1 hq1 hr1); (try have zz0 : w.heap.size + 1 + 1 + 1 + 1 < w3.heap.size := (by omega)); (try have zz1 : w2.heap.size < w3.heap.size := (by omega))) | (go_at_call 107; (with_reducible refine (ref_times (b) (c) _ c_32 c_32).mono ?_); rintro e w4 ⟨rfl, hb2⟩; obtain ⟨hq2, hr2⟩ := hb2.cells; have hz2 := hb2.size; (try simp only [World.size_alloc] at hz2 hq2 hr2); (try have zz0 : w.heap.size + 1 + 1 + 1 + 1 < w4.heap.size := (by omega)); (try have zz1 : w2.heap.size < w4.heap.size := (by omega)); (try have zz2 : w3.heap.size < w4.heap.size := (by omega))) | (go_at_call 107; (with_reducible refine (ref_times (b) (d) _ c_32 c_32).mono ?_); rintro e w5 ⟨rfl, hb3⟩; obtain ⟨hq3, hr3⟩ := hb3.cells; have hz3 := hb3.size; (try simp only [World.size_alloc] at hz3 hq3 hr3); (try have zz0 : w.heap.size + 1 + 1 + 1 + 1 < w5.heap.size := (by omega)); (try have zz1 : w2.heap.size < w5.heap.size := (by omega)); (try have zz2 : w3.heap.size < w5.heap.size := (by omega)); (try have zz3 : w4.heap.size < w5.heap.size := (by omega)))))
  all_goals
   go_wp2_with fail
   go_meet
   refine ⟨_, rfl, ?_, ?_, ?_, ?_, ?_⟩
   ·repeat (first | with_reducible exact Ext.refl _ | with_reducible exact Ext.same hW (Ext.refl _) | with_reducible assumption | with_reducible refine Ext.alloc ?_ _ | with_reducible refine Ext.setCell ?_ (by (try simp only [World.size_alloc]); omega) _ | with_reducible refine Ext.drew ?_ | with_reducible refine Ext.trans ?_ c_1)
   ·(try simp only [wsz]); omega
   ·(try simp only [wsz]); omega
   ·intro o; simp [go_sem, *]
   ·simp [go_sem, *]
 case rest =>
  obtain ⟨g, rfl, hb, hg1, hg2, hgf, c0, c1, c2, c3, c4, c5, c6, c7, c8, c9, c10, c11⟩ := hcut
  obtain ⟨V, hV⟩ : ∃ V : World, V = wc := ⟨_, rfl⟩
  subst hV
  go_upto_region 2 with fail
  go_cut [7, 8] (fun s7 s8 wy => ∃ p q, s7 = .pointer (some ⟨p, 0, none⟩) ∧ s8 = .pointer (some ⟨q, 0, none⟩) ∧ p ≠ q ∧ V.heap.size ≤ p ∧ V.heap.size ≤ q ∧ Ext V wy ∧ p < wy.heap.size ∧ q < wy.heap.size ∧ (∀ o, wy.frozen? ⟨p, o, none⟩ = false) ∧ (∀ o, wy.frozen? ⟨q, o, none⟩ = false) ∧ (wy.cell? ⟨p, 0, none⟩ = some (.bool (decide (a * c < 0))) ∧ wy.cell? ⟨p, 1, none⟩ = some (.int .u64 (absv (a * c) / 18446744073709551616)) ∧ wy.cell? ⟨p, 2, none⟩ = some (.int .u64 (absv (a * c) % 18446744073709551616))) ∧ wy.cell? ⟨q, 0, none⟩ = some (.bool (decide (a * c < 0))) ∧ wy.cell? ⟨q, 1, none⟩ = some (.int .u64 (absv (a * c) / 18446744073709551616)) ∧ wy.cell? ⟨q, 2, none⟩ = some (.int .u64 (absv (a * c) % 18446744073709551616)))
  case first =>
   go_region
   all_goals
    go_wp2_with fail
    go_meet
    refine ⟨_, _, rfl, rfl, ?_, ?_, ?_, ?_, ?_, ?_, ?_, ?_, ⟨?_, ?_, ?_⟩, ?_, ?_, ?_⟩
    all_goals first | (with_reducible ((repeat (first | with_reducible exact Ext.refl _ | with_reducible assumption | with_reducible refine Ext.alloc ?_ _ | with_reducible refine Ext.setCell ?_ c_14 _ | with_reducible refine Ext.drewN ?_ _ | with_reducible refine Ext.drew ?_ | with_reducible refine Ext.trans ?_ c_1))); done) | (simp; done) | (simp; omega) | (intro o; simp [go_sem, ↓IntWalk.iteOmega, *]; done) | (simp [go_sem, ↓IntWalk.iteOmega, *]; done)
  case rest =>
   obtain ⟨p, q, rfl, rfl, hpq, hp1, hq1, hE, hp2, hq2, hfp, hfq, ⟨p0, p1, p2⟩, q0, q1, q2⟩ := hcut
   go_wp2_with fail
   go_loopw [9] (fun v9 wr => ∃ m M : Int, ((v9 = .int .i64 1 ∧ m = a * c ∧ M = a * c) ∨ (v9 = .int .i64 2 ∧ m = min (a * c) (a * d) ∧ M = max (a * c) (a * d)) ∨ (v9 = .int .i64 3 ∧ m = min (min (a * c) (a * d)) (b * c) ∧ M = max (max (a * c) (a * d)) (b * c)) ∨ (v9 = .int .i64 4 ∧ m = min (min (min (a * c) (a * d)) (b * c)) (b * d) ∧ M = max (max (max (a * c) (a * d)) (b * c)) (b * d))) ∧ Ext V wr ∧ p < wr.heap.size ∧ q < wr.heap.size ∧ (∀ o, wr.frozen? ⟨p, o, none⟩ = false) ∧ (∀ o, wr.frozen? ⟨q, o, none⟩ = false) ∧ (wr.cell? ⟨p, 0, none⟩ = some (.bool (decide (m < 0))) ∧ wr.cell? ⟨p, 1, none⟩ = some (.int .u64 (absv (m) / 18446744073709551616)) ∧ wr.cell? ⟨p, 2, none⟩ = some (.int .u64 (absv (m) % 18446744073709551616))) ∧ wr.cell? ⟨q, 0, none⟩ = some (.bool (decide (M < 0))) ∧ wr.cell? ⟨q, 1, none⟩ = some (.int .u64 (absv (M) / 18446744073709551616)) ∧ wr.cell? ⟨q, 2, none⟩ = some (.int .u64 (absv (M) % 18446744073709551616))) (fun v9 wr => (4 - intOf v9).toNat)
   case atStart => exact ⟨_, _, Or.inl ⟨rfl, rfl, rfl⟩, hE, hp2, hq2, hfp, hfq, ⟨p0, p1, p2⟩, q0, q1, q2⟩
   case round =>
    obtain ⟨m, M, hk, rE, rp2, rq2, rfp, rfq, ⟨rp0, rp1, rp2'⟩, rq0, rq1, rq2'⟩ := hrel
    clear p0 p1 p2 q0 q1 q2 hfp hfq hE hp2 hq2
    obtain ⟨rc, rf⟩ := rE.cells
    rcases hk with ⟨rfl, hm, hM⟩ | ⟨rfl, hm, hM⟩ | ⟨rfl, hm, hM⟩ | ⟨rfl, hm, hM⟩
    ·have hmm := Lib.hid hm
     have hMM := Lib.hid hM
     clear hm hM
     have g0 := (rc g 3 hg2).trans c3
     have g1 := (rc g 4 hg2).trans c4
     have g2 := (rc g 5 hg2).trans c5
     have rz := rE.size
     clear c0 c1 c2 c3 c4 c5 c6 c7 c8 c9 c10 c11 rc rf
     go_wp2_with fail
     refine wp_name fun W hW => ?_
     obtain ⟨hWc, hWf, hWz⟩ := hW.cells
     have hWe : Ext V W := Ext.same hW c_24
     try simp only [wsz] at hWz
     replace hWz := And.intro (Nat.le_of_eq hWz) (Nat.le_of_eq hWz.symm)
     have hgW : g < W.heap.size ∧ p < W.heap.size ∧ q < W.heap.size ∧ (¬ g = p) ∧ (¬ g = q) := by refine ⟨?_, ?_, ?_, ?_, ?_⟩ <;> omega
     obtain ⟨hgW1, hgW2, hgW3, hgp, hgq⟩ := hgW
     go_region_held3 (fun w' => (∀ b o, b < W.heap.size → w'.cell? ⟨b, o, none⟩ = if b = p ∧ 0 ≤ o ∧ o < 0 then (W.cell? ⟨b, o, none⟩).map (obx w' b o) else W.cell? ⟨b, o, none⟩) ∧ (∀ b o, b < W.heap.size → w'.frozen? ⟨b, o, none⟩ = W.frozen? ⟨b, o, none⟩) ∧ W.heap.size ≤ w'.heap.size ∧ Ext V w') (first | (with_reducible exact held3d c_1) | (with_reducible exact held0 hWe) | (with_reducible exact held1 c_1 c_1) | (with_reducible exact held3 c_1) | ((with_reducible refine held4 c_1 ?_ ?_) <;> omega) | (repeat (first | (with_reducible assumption) | (with_reducible refine held2 ?_ c_2 c_10)))) ((first | (go_at_call 108; (with_reducible refine (ref_less2 _ _ _).mono ?_); rintro e w2 ⟨⟨B, hB, rfl⟩, hb2⟩; have hz2 := hb2.size; (try rw [size_drew] at hz2))))
     all_goals (rename_i hOld; have hE := hOld.2.2.2; have hO := And.intro hOld.1 (And.intro hOld.2.1 hOld.2.2.1); clear hOld; obtain ⟨hOc, hOf, hOz⟩ := heldEnd hO; clear hO)
     all_goals (have hB1 := hB; clear hB)
     all_goals go_wp2_with fail
     all_goals
      refine wp_name fun W hW => ?_
      obtain ⟨hWc, hWf, hWz⟩ := hW.cells
      have hWe : Ext V W := Ext.same hW c_25
      try simp only [World.size_setCell] at hWz
      replace hWz := And.intro (Nat.le_of_eq hWz) (Nat.le_of_eq hWz.symm)
      have hgW : g < W.heap.size ∧ p < W.heap.size ∧ q < W.heap.size ∧ (¬ g = p) ∧ (¬ g = q) := by refine ⟨?_, ?_, ?_, ?_, ?_⟩ <;> omega
      obtain ⟨hgW1, hgW2, hgW3, hgp, hgq⟩ := hgW
      go_region_held3 (fun w' => (∀ b o, b < W.heap.size → w'.cell? ⟨b, o, none⟩ = if b = p ∧ 0 ≤ o ∧ o < 0 then (W.cell? ⟨b, o, none⟩).map (obx w' b o) else W.cell? ⟨b, o, none⟩) ∧ (∀ b o, b < W.heap.size → w'.frozen? ⟨b, o, none⟩ = W.frozen? ⟨b, o, none⟩) ∧ W.heap.size ≤ w'.heap.size ∧ Ext V w') (first | (with_reducible exact held3d c_1) | (with_reducible exact held0 hWe) | (with_reducible exact held1 c_1 c_1) | (with_reducible exact held3 c_1) | ((with_reducible refine held4 c_1 ?_ ?_) <;> omega) | (repeat (first | (with_reducible assumption) | (with_reducible refine held2 ?_ c_2 c_10)))) ((first | (go_at_call 108; (with_reducible refine (ref_less2 _ _ _).mono ?_); rintro e w2 ⟨⟨B, hB, rfl⟩, hb2⟩; have hz2 := hb2.size; (try rw [size_drew] at hz2))))
      all_goals (rename_i hOld; have hE := hOld.2.2.2; have hO := And.intro hOld.1 (And.intro hOld.2.1 hOld.2.2.1); clear hOld; obtain ⟨hOc, hOf, hOz⟩ := heldEnd hO; clear hO)
      go_wp2_with fail
     all_goals
      go_roundw
      case measure => simp [intOf]
      subst_vars
      have e1 := hB1.out
      have e2 := hB.out
      simp only [Bool.false_eq_true, false_iff, true_iff] at e1 e2
      first | (have k1 := Int.min_eq_right (Int.le_of_lt e1)) | (have k1 := Int.min_eq_left (Int.not_lt.1 e1))
      first | (have k2 := Int.max_eq_right (Int.le_of_lt e2)) | (have k2 := Int.max_eq_left (Int.not_lt.1 e2))
      refine ⟨min (a * c) (a * d), max (a * c) (a * d), Or.inr (Or.inl ⟨rfl, rfl, rfl⟩), ?_, ?_, ?_, ?_, ?_, ⟨?_, ?_, ?_⟩, ?_, ?_, ?_⟩
      all_goals clear hB1 hB
      all_goals first | (with_reducible ((repeat (first | with_reducible exact Ext.refl _ | with_reducible assumption | with_reducible refine Ext.alloc ?_ _ | with_reducible refine Ext.setCell ?_ c_19 _ | with_reducible refine Ext.drewN ?_ _ | with_reducible refine Ext.drew ?_ | with_reducible refine Ext.trans ?_ c_1))); done) | (rw [k1]; simp [go_sem, ↓IntWalk.iteOmega, *]; done) | (rw [k2]; simp [go_sem, ↓IntWalk.iteOmega, *]; done) | ((try simp only [World.size_setCell]); omega) | (intro o; simp [go_sem, ↓IntWalk.iteOmega, *]; done)
    ·have hmm := Lib.hid hm
     have hMM := Lib.hid hM
     clear hm hM
     have g0 := (rc g 6 hg2).trans c6
     have g1 := (rc g 7 hg2).trans c7
     have g2 := (rc g 8 hg2).trans c8
     have rz := rE.size
     clear c0 c1 c2 c3 c4 c5 c6 c7 c8 c9 c10 c11 rc rf
     go_wp2_with fail
     refine wp_name fun W hW => ?_
     obtain ⟨hWc, hWf, hWz⟩ := hW.cells
     have hWe : Ext V W := Ext.same hW c_24
     try simp only [wsz] at hWz
     replace hWz := And.intro (Nat.le_of_eq hWz) (Nat.le_of_eq hWz.symm)
     have hgW : g < W.heap.size ∧ p < W.heap.size ∧ q < W.heap.size ∧ (¬ g = p) ∧ (¬ g = q) := by refine ⟨?_, ?_, ?_, ?_, ?_⟩ <;> omega
     obtain ⟨hgW1, hgW2, hgW3, hgp, hgq⟩ := hgW
     go_region_held3 (fun w' => (∀ b o, b < W.heap.size → w'.cell? ⟨b, o, none⟩ = if b = p ∧ 0 ≤ o ∧ o < 0 then (W.cell? ⟨b, o, none⟩).map (obx w' b o) else W.cell? ⟨b, o, none⟩) ∧ (∀ b o, b < W.heap.size → w'.frozen? ⟨b, o, none⟩ = W.frozen? ⟨b, o, none⟩) ∧ W.heap.size ≤ w'.heap.size ∧ Ext V w') (first | (with_reducible exact held3d c_1) | (with_reducible exact held0 hWe) | (with_reducible exact held1 c_1 c_1) | (with_reducible exact held3 c_1) | ((with_reducible refine held4 c_1 ?_ ?_) <;> omega) | (repeat (first | (with_reducible assumption) | (with_reducible refine held2 ?_ c_2 c_10)))) ((first | (go_at_call 108; (with_reducible refine (ref_less2 _ _ _).mono ?_); rintro e w2 ⟨⟨B, hB, rfl⟩, hb2⟩; have hz2 := hb2.size; (try rw [size_drew] at hz2))))
     all_goals (rename_i hOld; have hE := hOld.2.2.2; have hO := And.intro hOld.1 (And.intro hOld.2.1 hOld.2.2.1); clear hOld; obtain ⟨hOc, hOf, hOz⟩ := heldEnd hO; clear hO)
     all_goals (have hB1 := hB; clear hB)
     all_goals go_wp2_with fail
     all_goals
      refine wp_name fun W hW => ?_
      obtain ⟨hWc, hWf, hWz⟩ := hW.cells
      have hWe : Ext V W := Ext.same hW c_25
      try simp only [World.size_setCell] at hWz
      replace hWz := And.intro (Nat.le_of_eq hWz) (Nat.le_of_eq hWz.symm)
      have hgW : g < W.heap.size ∧ p < W.heap.size ∧ q < W.heap.size ∧ (¬ g = p) ∧ (¬ g = q) := by refine ⟨?_, ?_, ?_, ?_, ?_⟩ <;> omega
      obtain ⟨hgW1, hgW2, hgW3, hgp, hgq⟩ := hgW
      go_region_held3 (fun w' => (∀ b o, b < W.heap.size → w'.cell? ⟨b, o, none⟩ = if b = p ∧ 0 ≤ o ∧ o < 0 then (W.cell? ⟨b, o, none⟩).map (obx w' b o) else W.cell? ⟨b, o, none⟩) ∧ (∀ b o, b < W.heap.size → w'.frozen? ⟨b, o, none⟩ = W.frozen? ⟨b, o, none⟩) ∧ W.heap.size ≤ w'.heap.size ∧ Ext V w') (first | (with_reducible exact held3d c_1) | (with_reducible exact held0 hWe) | (with_reducible exact held1 c_1 c_1) | (with_reducible exact held3 c_1) | ((with_reducible refine held4 c_1 ?_ ?_) <;> omega) | (repeat (first | (with_reducible assumption) | (with_reducible refine held2 ?_ c_2 c_10)))) ((first | (go_at_call 108; (with_reducible refine (ref_less2 _ _ _).mono ?_); rintro e w2 ⟨⟨B, hB, rfl⟩, hb2⟩; have hz2 := hb2.size; (try rw [size_drew] at hz2))))
      all_goals (rename_i hOld; have hE := hOld.2.2.2; have hO := And.intro hOld.1 (And.intro hOld.2.1 hOld.2.2.1); clear hOld; obtain ⟨hOc, hOf, hOz⟩ := heldEnd hO; clear hO)
      go_wp2_with fail
     all_goals
      go_roundw
      case measure => simp [intOf]
      subst_vars
      have e1 := hB1.out
      have e2 := hB.out
      simp only [Bool.false_eq_true, false_iff, true_iff] at e1 e2
      first | (have k1 := Int.min_eq_right (Int.le_of_lt e1)) | (have k1 := Int.min_eq_left (Int.not_lt.1 e1))
      first | (have k2 := Int.max_eq_right (Int.le_of_lt e2)) | (have k2 := Int.max_eq_left (Int.not_lt.1 e2))
      refine ⟨min (min (a * c) (a * d)) (b * c), max (max (a * c) (a * d)) (b * c), Or.inr (Or.inr (Or.inl ⟨rfl, rfl, rfl⟩)), ?_, ?_, ?_, ?_, ?_, ⟨?_, ?_, ?_⟩, ?_, ?_, ?_⟩
      all_goals clear hB1 hB
      all_goals first | (with_reducible ((repeat (first | with_reducible exact Ext.refl _ | with_reducible assumption | with_reducible refine Ext.alloc ?_ _ | with_reducible refine Ext.setCell ?_ c_19 _ | with_reducible refine Ext.drewN ?_ _ | with_reducible refine Ext.drew ?_ | with_reducible refine Ext.trans ?_ c_1))); done) | (rw [k1]; simp [go_sem, ↓IntWalk.iteOmega, *]; done) | (rw [k2]; simp [go_sem, ↓IntWalk.iteOmega, *]; done) | ((try simp only [World.size_setCell]); omega) | (intro o; simp [go_sem, ↓IntWalk.iteOmega, *]; done)
    ·have hmm := Lib.hid hm
     have hMM := Lib.hid hM
     clear hm hM
     have g0 := (rc g 9 hg2).trans c9
     have g1 := (rc g 10 hg2).trans c10
     have g2 := (rc g 11 hg2).trans c11
     have rz := rE.size
     clear c0 c1 c2 c3 c4 c5 c6 c7 c8 c9 c10 c11 rc rf
     go_wp2_with fail
     refine wp_name fun W hW => ?_
     obtain ⟨hWc, hWf, hWz⟩ := hW.cells
     have hWe : Ext V W := Ext.same hW c_24
     try simp only [wsz] at hWz
     replace hWz := And.intro (Nat.le_of_eq hWz) (Nat.le_of_eq hWz.symm)
     have hgW : g < W.heap.size ∧ p < W.heap.size ∧ q < W.heap.size ∧ (¬ g = p) ∧ (¬ g = q) := by refine ⟨?_, ?_, ?_, ?_, ?_⟩ <;> omega
     obtain ⟨hgW1, hgW2, hgW3, hgp, hgq⟩ := hgW
     go_region_held3 (fun w' => (∀ b o, b < W.heap.size → w'.cell? ⟨b, o, none⟩ = if b = p ∧ 0 ≤ o ∧ o < 0 then (W.cell? ⟨b, o, none⟩).map (obx w' b o) else W.cell? ⟨b, o, none⟩) ∧ (∀ b o, b < W.heap.size → w'.frozen? ⟨b, o, none⟩ = W.frozen? ⟨b, o, none⟩) ∧ W.heap.size ≤ w'.heap.size ∧ Ext V w') (first | (with_reducible exact held3d c_1) | (with_reducible exact held0 hWe) | (with_reducible exact held1 c_1 c_1) | (with_reducible exact held3 c_1) | ((with_reducible refine held4 c_1 ?_ ?_) <;> omega) | (repeat (first | (with_reducible assumption) | (with_reducible refine held2 ?_ c_2 c_10)))) ((first | (go_at_call 108; (with_reducible refine (ref_less2 _ _ _).mono ?_); rintro e w2 ⟨⟨B, hB, rfl⟩, hb2⟩; have hz2 := hb2.size; (try rw [size_drew] at hz2))))
     all_goals (rename_i hOld; have hE := hOld.2.2.2; have hO := And.intro hOld.1 (And.intro hOld.2.1 hOld.2.2.1); clear hOld; obtain ⟨hOc, hOf, hOz⟩ := heldEnd hO; clear hO)
     all_goals (have hB1 := hB; clear hB)
     all_goals go_wp2_with fail
     all_goals
      refine wp_name fun W hW => ?_
      obtain ⟨hWc, hWf, hWz⟩ := hW.cells
      have hWe : Ext V W := Ext.same hW c_25
      try simp only [World.size_setCell] at hWz
      replace hWz := And.intro (Nat.le_of_eq hWz) (Nat.le_of_eq hWz.symm)
      have hgW : g < W.heap.size ∧ p < W.heap.size ∧ q < W.heap.size ∧ (¬ g = p) ∧ (¬ g = q) := by refine ⟨?_, ?_, ?_, ?_, ?_⟩ <;> omega
      obtain ⟨hgW1, hgW2, hgW3, hgp, hgq⟩ := hgW
      go_region_held3 (fun w' => (∀ b o, b < W.heap.size → w'.cell? ⟨b, o, none⟩ = if b = p ∧ 0 ≤ o ∧ o < 0 then (W.cell? ⟨b, o, none⟩).map (obx w' b o) else W.cell? ⟨b, o, none⟩) ∧ (∀ b o, b < W.heap.size → w'.frozen? ⟨b, o, none⟩ = W.frozen? ⟨b, o, none⟩) ∧ W.heap.size ≤ w'.heap.size ∧ Ext V w') (first | (with_reducible exact held3d c_1) | (with_reducible exact held0 hWe) | (with_reducible exact held1 c_1 c_1) | (with_reducible exact held3 c_1) | ((with_reducible refine held4 c_1 ?_ ?_) <;> omega) | (repeat (first | (with_reducible assumption) | (with_reducible refine held2 ?_ c_2 c_10)))) ((first | (go_at_call 108; (with_reducible refine (ref_less2 _ _ _).mono ?_); rintro e w2 ⟨⟨B, hB, rfl⟩, hb2⟩; have hz2 := hb2.size; (try rw [size_drew] at hz2))))
      all_goals (rename_i hOld; have hE := hOld.2.2.2; have hO := And.intro hOld.1 (And.intro hOld.2.1 hOld.2.2.1); clear hOld; obtain ⟨hOc, hOf, hOz⟩ := heldEnd hO; clear hO)
      go_wp2_with fail
     all_goals
      go_roundw
      case measure => simp [intOf]
      subst_vars
      have e1 := hB1.out
      have e2 := hB.out
      simp only [Bool.false_eq_true, false_iff, true_iff] at e1 e2
      first | (have k1 := Int.min_eq_right (Int.le_of_lt e1)) | (have k1 := Int.min_eq_left (Int.not_lt.1 e1))
      first | (have k2 := Int.max_eq_right (Int.le_of_lt e2)) | (have k2 := Int.max_eq_left (Int.not_lt.1 e2))
      refine ⟨min (min (min (a * c) (a * d)) (b * c)) (b * d), max (max (max (a * c) (a * d)) (b * c)) (b * d), Or.inr (Or.inr (Or.inr (⟨rfl, rfl, rfl⟩))), ?_, ?_, ?_, ?_, ?_, ⟨?_, ?_, ?_⟩, ?_, ?_, ?_⟩
      all_goals clear hB1 hB
      all_goals first | (with_reducible ((repeat (first | with_reducible exact Ext.refl _ | with_reducible assumption | with_reducible refine Ext.alloc ?_ _ | with_reducible refine Ext.setCell ?_ c_19 _ | with_reducible refine Ext.drewN ?_ _ | with_reducible refine Ext.drew ?_ | with_reducible refine Ext.trans ?_ c_1))); done) | (rw [k1]; simp [go_sem, ↓IntWalk.iteOmega, *]; done) | (rw [k2]; simp [go_sem, ↓IntWalk.iteOmega, *]; done) | ((try simp only [World.size_setCell]); omega) | (intro o; simp [go_sem, ↓IntWalk.iteOmega, *]; done)
    ·have hmm := Lib.hid hm
     have hMM := Lib.hid hM
     clear hm hM
     have rz := rE.size
     clear c0 c1 c2 c3 c4 c5 c6 c7 c8 c9 c10 c11 rc rf
     have r4 : m = min4 (a * c) (a * d) (b * c) (b * d) := hmm.out
     have r5 : M = max4 (a * c) (a * d) (b * c) (b * d) := hMM.out
     have r6 := Lib.hid r4.symm
     have r7 := Lib.hid r5.symm
     clear r4 r5 hmm hMM
     have vz := hb.size
     simp only [World.size_alloc] at vz
     have rz := rE.size
     obtain ⟨vc, vf⟩ := hb.cells
     obtain ⟨rc, rf⟩ := rE.cells
     have x20 : wr.cell? ⟨w.heap.size + 1 + 1, 0, none⟩ = some (.bool false) := (rc _ _ (by omega)).trans ((vc _ _ c_40).trans c_47)
     have x21 : wr.cell? ⟨w.heap.size + 1 + 1, 1, none⟩ = some (.int .u64 0) := (rc _ _ (by omega)).trans ((vc _ _ c_40).trans c_47)
     have x22 : wr.cell? ⟨w.heap.size + 1 + 1, 2, none⟩ = some (.int .u64 0) := (rc _ _ (by omega)).trans ((vc _ _ c_40).trans c_47)
     have x30 : wr.cell? ⟨w.heap.size + 1 + 1 + 1, 0, none⟩ = some (.bool false) := (rc _ _ (by omega)).trans ((vc _ _ c_40).trans c_47)
     have x31 : wr.cell? ⟨w.heap.size + 1 + 1 + 1, 1, none⟩ = some (.int .u64 0) := (rc _ _ (by omega)).trans ((vc _ _ c_40).trans c_47)
     have x32 : wr.cell? ⟨w.heap.size + 1 + 1 + 1, 2, none⟩ = some (.int .u64 0) := (rc _ _ (by omega)).trans ((vc _ _ c_40).trans c_47)
     have y2 : ∀ o, wr.frozen? ⟨w.heap.size + 1 + 1, o, none⟩ = false := fun o => (rf _ _ (by omega)).trans ((vf _ _ c_40).trans c_47)
     have y3 : ∀ o, wr.frozen? ⟨w.heap.size + 1 + 1 + 1, o, none⟩ = false := fun o => (rf _ _ (by omega)).trans ((vf _ _ c_40).trans c_47)
     have z1 : ¬ w.heap.size + 1 + 1 = p ∧ ¬ w.heap.size + 1 + 1 = q ∧ ¬ w.heap.size + 1 + 1 + 1 = p ∧ ¬ w.heap.size + 1 + 1 + 1 = q ∧ ¬ p = w.heap.size + 1 + 1 ∧ ¬ q = w.heap.size + 1 + 1 ∧ ¬ p = w.heap.size + 1 + 1 + 1 ∧ ¬ q = w.heap.size + 1 + 1 + 1 := by refine ⟨?_, ?_, ?_, ?_, ?_, ?_, ?_, ?_⟩ <;> omega
     obtain ⟨z1, z2, z3, z4, z5, z6, z7, z8⟩ := z1
     clear vc vf rc rf
     go_wp2_with fail
     go_region
     all_goals go_wp2_with fail
     all_goals refine bodyPost_ret (v := .tuple #[.agg #[.bool (decide (m < 0)), .int .u64 (absv (m) / 18446744073709551616), .int .u64 (absv (m) % 18446744073709551616)], .agg #[.bool (decide (M < 0)), .int .u64 (absv (M) / 18446744073709551616), .int .u64 (absv (M) % 18446744073709551616)]]) ?_ rfl ⟨?_, ?_⟩
     ·simp [results, Tryz.results166, go_sem, *]
     ·rw [r6.out, r7.out]
     ·(repeat (first | with_reducible exact Ext.refl _ | with_reducible assumption | with_reducible refine Ext.alloc ?_ _ | with_reducible refine Ext.setCell ?_ c_19 _ | with_reducible refine Ext.drewN ?_ _ | with_reducible refine Ext.drew ?_ | with_reducible refine Ext.trans ?_ c_1))
end Go.Proofs.YtogblocakccbgaaGreat
