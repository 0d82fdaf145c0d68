/- span.Div.; span.root.; planisphereref03: checks, sums.; Values of arrays and structs of numbers are equal to themselves. -/
import Derived.Test.YtogblocakccbgaaGreatJ00
import Derived.Test.YtogblocakccbgaaGreatJ15
import Derived.Test.YtogblocakccbgaaGreatJ16
import Derived.Test.YtogblocakccbgaaGreatJ17
import Derived.Test.YtogblocakccbgaaGreatJ18
import Derived.Test.YtogblocakccbgaaGreatJ01
import Derived.Laws.StructEq
import Derived.ChangeKeysEq
import Derived.KernelRfl
set_option linter.unusedSimpArgs false
set_option linter.unusedVariables false
set_option maxRecDepth 100000
set_option maxHeartbeats 4000000
namespace Go.Proofs.YtogblocakccbgaaGreat
open Go.RowKit
theorem heldDrop {w W w' : World} {RB lo hi : Nat} {ob : Obj} (h : (∀ b o, b < W.heap.size → (w'.alloc ob).cell? ⟨b, o, none⟩ = if b = RB ∧ lo ≤ o ∧ o < hi then (W.cell? ⟨b, o, none⟩).map (obx (w'.alloc ob) b o) else W.cell? ⟨b, o, none⟩) ∧ (∀ b o, b < W.heap.size → (w'.alloc ob).frozen? ⟨b, o, none⟩ = W.frozen? ⟨b, o, none⟩) ∧ W.heap.size ≤ (w'.alloc ob).heap.size ∧ Ext w (w'.alloc ob)) (hz : W.heap.size ≤ w'.heap.size) (hz2 : w.heap.size ≤ w'.heap.size) :
    (∀ b o, b < W.heap.size → (w').cell? ⟨b, o, none⟩ = if b = RB ∧ lo ≤ o ∧ o < hi then (W.cell? ⟨b, o, none⟩).map (obx (w') b o) else W.cell? ⟨b, o, none⟩) ∧ (∀ b o, b < W.heap.size → (w').frozen? ⟨b, o, none⟩ = W.frozen? ⟨b, o, none⟩) ∧ W.heap.size ≤ (w').heap.size ∧ Ext w (w') := by
 have hE := h.2.2.2
 have h3 := heldBackA ⟨h.1, h.2.1, h.2.2.1⟩ hz
 have hE' : Ext w w' := ⟨hE.os, hE.tape, hE.output, hz2, fun k hk => by
  rw [← hE.block k hk]; exact (Below.heap_alloc w' ob k (Nat.lt_of_lt_of_le hk hz2)).symm⟩
 exact ⟨h3.1, h3.2.1, h3.2.2, hE'⟩
theorem held5 {w W w' : World} {RB lo hi : Nat} {o1 o1' o2 : Obj} (h : (∀ b o, b < W.heap.size → ((w'.alloc o1).alloc o2).cell? ⟨b, o, none⟩ = if b = RB ∧ lo ≤ o ∧ o < hi then (W.cell? ⟨b, o, none⟩).map (obx ((w'.alloc o1).alloc o2) b o) else W.cell? ⟨b, o, none⟩) ∧ (∀ b o, b < W.heap.size → ((w'.alloc o1).alloc o2).frozen? ⟨b, o, none⟩ = W.frozen? ⟨b, o, none⟩) ∧ W.heap.size ≤ ((w'.alloc o1).alloc o2).heap.size ∧ Ext w ((w'.alloc o1).alloc o2)) (hz : W.heap.size ≤ w'.heap.size) (hz2 : w.heap.size ≤ w'.heap.size) :
    (∀ b o, b < W.heap.size → ((w'.alloc o1').alloc o2).cell? ⟨b, o, none⟩ = if b = RB ∧ lo ≤ o ∧ o < hi then (W.cell? ⟨b, o, none⟩).map (obx ((w'.alloc o1').alloc o2) b o) else W.cell? ⟨b, o, none⟩) ∧ (∀ b o, b < W.heap.size → ((w'.alloc o1').alloc o2).frozen? ⟨b, o, none⟩ = W.frozen? ⟨b, o, none⟩) ∧ W.heap.size ≤ ((w'.alloc o1').alloc o2).heap.size ∧ Ext w ((w'.alloc o1').alloc o2) :=
  held3 (held4 (heldDrop h c_40 c_40) hz hz2)
theorem sdiv_p (a b c d : Int) (w : World) (hk : ck2 a b c d = 0) (h0 : 0 < c) :
    Calls Tryz.prog 100 #[.agg #[.int .i64 a, .int .i64 b], .agg #[.int .i64 c, .int .i64 d]] w fun e w' => e = .returned (.tuple #[.agg #[.int .i64 (divP a b c d).lo, .int .i64 (divP a b c d).hi], .int .i64 (divP a b c d).e]) ∧ Ext w w' := by
 obtain ⟨hk1, hk2⟩ := ck2_ok hk
 obtain ⟨ka1, ka2, ka3⟩ := ckI_ok hk1
 obtain ⟨kc1, kc2, kc3⟩ := ckI_ok hk2
 have hM : I64 1099511627776 := by unfold I64; omega
 have hA : I64 a := by unfold I64; omega
 have hB : I64 b := by unfold I64; omega
 have ec : IntKind.u64.wrap c = c := by rw [IntKind.wrap_u64]; omega
 have ed : IntKind.u64.wrap d = d := by rw [IntKind.wrap_u64]; omega
 have eV := divP_prog (a := a) (b := b) h0 kc1
 go_enter Tryz.func100, Tryz.ntmps100
 go_upto_region 9 with (first | (go_at_call 92; (with_reducible refine (check_2 _ _ _ _ _ _ c_48).mono ?_); rintro e w1 ⟨rfl, hb⟩; obtain ⟨_, _, hc, hf⟩ := hb.cells2; have hz := hb.size; (try simp only [wsz] at hz hc hf)))
 refine wp_name fun V hV => ?_
 obtain ⟨hVc, hVf, hVz⟩ := hV.cells
 have hVe : Ext w V := Ext.same hV ex_
 (try simp only [wsz] at hVz)
 replace hVz := And.intro (Nat.le_of_eq hVz) (Nat.le_of_eq hVz.symm)
 have hlv : w.heap.size < V.heap.size ∧ w.heap.size + 1 < V.heap.size ∧ w.heap.size + 1 + 1 < V.heap.size := c_51
 have hd : ¬ w.heap.size = w.heap.size + 1 ∧ ¬ w.heap.size = w.heap.size + 1 + 1 ∧ ¬ w.heap.size + 1 = w.heap.size ∧ ¬ w.heap.size + 1 = w.heap.size + 1 + 1 ∧ ¬ w.heap.size + 1 + 1 = w.heap.size ∧ ¬ w.heap.size + 1 + 1 = w.heap.size + 1 := c_26
 have hnv : ¬ w.heap.size = V.heap.size ∧ ¬ w.heap.size + 1 = V.heap.size ∧ ¬ w.heap.size + 1 + 1 = V.heap.size := (by omega)
 go_cut [7, 8] (fun sx0 sx1 wx => ∃ g h : Nat, sx0 = .pointer (some ⟨g, 0, none⟩) ∧ sx1 = .pointer (some ⟨h, 0, none⟩) ∧ Ext V wx ∧ V.heap.size ≤ g ∧ g < wx.heap.size ∧ (∀ o, wx.frozen? ⟨g, o, none⟩ = false) ∧ V.heap.size ≤ h ∧ h < wx.heap.size ∧ (∀ o, wx.frozen? ⟨h, o, none⟩ = false) ∧ g ≠ h ∧ wx.cell? ⟨g, 0, none⟩ = some (.int .i64 ((a * 1099511627776) / 18446744073709551616)) ∧ wx.cell? ⟨g, 1, none⟩ = some (.int .u64 ((a * 1099511627776) % 18446744073709551616)) ∧ wx.cell? ⟨h, 0, none⟩ = some (.int .i64 ((b * 1099511627776) / 18446744073709551616)) ∧ wx.cell? ⟨h, 1, none⟩ = some (.int .u64 ((b * 1099511627776) % 18446744073709551616)))
 case first =>
  have hWe : Ext V V := Ext.refl V
  go_region_held3 (fun w' => (∀ b o, b < V.heap.size → w'.cell? ⟨b, o, none⟩ = if b = V.heap.size ∧ 0 ≤ o ∧ o < 0 then (V.cell? ⟨b, o, none⟩).map (obx w' b o) else V.cell? ⟨b, o, none⟩) ∧ (∀ b o, b < V.heap.size → w'.frozen? ⟨b, o, none⟩ = V.frozen? ⟨b, o, none⟩) ∧ V.heap.size ≤ w'.heap.size ∧ Ext V w') (first | ((with_reducible refine held5 c_1 ?_ ?_) <;> ((try simp only [size_drew]); omega)) | ((with_reducible refine held4 c_1 ?_ ?_) <;> ((try simp only [World.size_alloc, World.size_setCell, size_drew]); omega)) | (with_reducible exact held3d c_1) | (with_reducible exact held0 hWe) | (with_reducible exact held1 c_1 c_1) | (with_reducible exact held3 c_1) | ((with_reducible refine held4 c_1 ?_ ?_) <;> omega) | ((with_reducible refine held3 ?_); (repeat (with_reducible refine held2 ?_ c_2 c_10)); ((with_reducible refine heldDrop c_1 ?_ ?_) <;> ((try simp only [size_drew]); omega))) | (repeat (first | (with_reducible assumption) | (with_reducible refine held2 ?_ c_2 c_10)))) ((first | (go_at_call 93; (with_reducible refine (times_any (a) 1099511627776 _ hA hM).mono ?_); rintro e w2 ⟨rfl, hb0⟩; obtain ⟨hq0, hr0⟩ := hb0.cells; have hz0 := hb0.size; (try simp only [size_drew, World.size_alloc, World.size_setCell] at hz0 hq0 hr0); (try have hly0 : V.heap.size < w2.heap.size := by omega); (try have hly1 : V.heap.size + 1 < w2.heap.size := by omega)) | (go_at_call 93; (with_reducible refine (times_any (b) 1099511627776 _ hB hM).mono ?_); rintro e w3 ⟨rfl, hb1⟩; obtain ⟨hq1, hr1⟩ := hb1.cells; have hz1 := hb1.size; (try simp only [size_drew, World.size_alloc, World.size_setCell] at hz1 hq1 hr1); (try have hly0 : V.heap.size < w3.heap.size := by omega); (try have hly1 : V.heap.size + 1 < w3.heap.size := by omega); (try have hly2 : w2.heap.size < w3.heap.size := by omega); (try have hly3 : w2.heap.size + 1 < w3.heap.size := by omega))))
  all_goals
   rename_i hOld
   clear hOld
   go_wp2_with fail
   go_meet
   refine ⟨_, _, rfl, rfl, ?_, ?_, ?_, ?_, ?_, ?_, ?_, ?_, ?_, ?_, ?_, ?_⟩
   ·(repeat (first | with_reducible exact Ext.refl _ | with_reducible exact Ext.same hV (Ext.refl _) | with_reducible assumption | with_reducible refine Ext.alloc ?_ _ | (with_reducible refine Ext.setCell ?_ ?_ _; rotate_left; (focus ((try simp only [wsz]); omega))) | with_reducible refine Ext.drew ?_ | with_reducible refine Ext.trans ?_ c_1))
   all_goals first | ((try simp only [wsz]); omega) | (intro o; simp [go_sem, ↓IntWalk.iteOmega, *]; done) | (simp [go_sem, ↓IntWalk.iteOmega, *]; done)
 case rest =>
  obtain ⟨g, h, rfl, rfl, hx, hg01, hg02, hgf0, hg11, hg12, hgf1, hgh, hv00, hv01, hv10, hv11⟩ := hcut
  obtain ⟨_, _, hcc, hcf⟩ := hx.cells2
  have hcz := hx.size
  replace hVe := hVe.trans hx
  have hlv2 : w.heap.size < wc.heap.size ∧ w.heap.size + 1 < wc.heap.size ∧ w.heap.size + 1 + 1 < wc.heap.size := (by omega)
  have hlg : w.heap.size < g ∧ ¬ w.heap.size = g ∧ ¬ g = w.heap.size ∧ w.heap.size < h ∧ ¬ w.heap.size = h ∧ ¬ h = w.heap.size ∧ w.heap.size + 1 < g ∧ ¬ w.heap.size + 1 = g ∧ ¬ g = w.heap.size + 1 ∧ w.heap.size + 1 < h ∧ ¬ w.heap.size + 1 = h ∧ ¬ h = w.heap.size + 1 ∧ w.heap.size + 1 + 1 < g ∧ ¬ w.heap.size + 1 + 1 = g ∧ ¬ g = w.heap.size + 1 + 1 ∧ w.heap.size + 1 + 1 < h ∧ ¬ w.heap.size + 1 + 1 = h ∧ ¬ h = w.heap.size + 1 + 1 := (by omega)
  clear hx
  go_wp2_with fail
  refine wp_name fun W hW => ?_
  obtain ⟨hWc, hWf, hWz⟩ := hW.cells
  have hlw : w.heap.size < wc.heap.size ∧ w.heap.size + 1 < wc.heap.size ∧ w.heap.size + 1 + 1 < wc.heap.size ∧ g < wc.heap.size ∧ h < wc.heap.size := (by omega)
  have hWe : Ext w W := Ext.same hW ex_
  (try simp only [wsz] at hWz)
  go_region_held3 (fun w' => (∀ b o, b < W.heap.size → w'.cell? ⟨b, o, none⟩ = if b = w.heap.size ∧ 0 ≤ o ∧ o < 0 then (W.cell? ⟨b, o, none⟩).map (obx w' b o) else W.cell? ⟨b, o, none⟩) ∧ (∀ b o, b < W.heap.size → w'.frozen? ⟨b, o, none⟩ = W.frozen? ⟨b, o, none⟩) ∧ W.heap.size ≤ w'.heap.size ∧ Ext w w') (first | (with_reducible exact held0 hWe) | (with_reducible exact held1 c_1 c_1) | (with_reducible exact held3 c_1) | ((with_reducible refine held4 c_1 ?_ ?_) <;> omega) | (repeat (first | (with_reducible assumption) | (with_reducible refine held2 ?_ c_2 c_10)))) (fail)
  rename_i hOld
  have hE := hOld.2.2.2
  have hO := And.intro hOld.1 (And.intro hOld.2.1 hOld.2.2.1)
  clear hOld
  obtain ⟨hOc, hOf, hOz⟩ := heldEnd hO
  clear hO
  go_wp2_with fail
  refine wp_name fun W hW => ?_
  obtain ⟨hWc, hWf, hWz⟩ := hW.cells
  have hlw : w.heap.size < wc.heap.size ∧ w.heap.size + 1 < wc.heap.size ∧ w.heap.size + 1 + 1 < wc.heap.size := (by omega)
  have hWe : Ext w W := Ext.same hW ex_
  (try simp only [wsz] at hWz)
  go_region_held3 (fun w' => (∀ b o, b < W.heap.size → w'.cell? ⟨b, o, none⟩ = if b = w.heap.size + 1 + 1 ∧ 0 ≤ o ∧ o < 2 then (W.cell? ⟨b, o, none⟩).map (obx w' b o) else W.cell? ⟨b, o, none⟩) ∧ (∀ b o, b < W.heap.size → w'.frozen? ⟨b, o, none⟩ = W.frozen? ⟨b, o, none⟩) ∧ W.heap.size ≤ w'.heap.size ∧ Ext w w') (first | (with_reducible exact held0 hWe) | (with_reducible exact held1 c_1 c_1) | (with_reducible exact held3 c_1) | ((with_reducible refine held4 c_1 ?_ ?_) <;> omega) | (repeat (first | (with_reducible assumption) | (with_reducible refine held2 ?_ c_2 c_10)))) ((first | (go_at_call 97; (with_reducible refine (down_any _ _ _ (abs_mul_bound hA hM).1 (abs_mul_bound hA hM).2 (by omega) (by omega)).mono ?_); rintro e w2 ⟨rfl, hb2⟩; have hz2 := hb2.size; (try rw [size_drew] at hz2)) | (go_at_call 99; (with_reducible refine (up_any _ _ _ (abs_mul_bound hB hM).1 (abs_mul_bound hB hM).2 (by omega) (by omega)).mono ?_); rintro e w2 ⟨rfl, hb2⟩; have hz2 := hb2.size; (try rw [size_drew] at hz2)) | (go_at_call 95; (with_reducible refine (span_made _ _ _).mono ?_); rintro e w2 ⟨rfl, hb2⟩; have hz2 := hb2.size; (try rw [size_drew] at hz2))))
  all_goals
   rename_i hOld
   have hE := hOld.2.2.2
   have hO := And.intro hOld.1 (And.intro hOld.2.1 hOld.2.2.1)
   clear hOld
   replace hO := heldBack hO c_2
   replace hO := heldBack hO c_2
   obtain ⟨hOc, hOf, hOz⟩ := heldEnd hO
   clear hO
   go_wp2_with fail
   refine bodyPost_ret (v := .tuple #[.agg #[.int .i64 (divP a b c d).lo, .int .i64 (divP a b c d).hi], .int .i64 (divP a b c d).e]) ?_ rfl ⟨rfl, ?_⟩
   ·(try simp only [bne_iff_ne, ne_eq, bne_eq_false_iff_eq, beq_iff_eq, beq_eq_false_iff_ne] at *)
    simp [results, Tryz.results100, go_sem, ↓IntWalk.iteOmega, eV, *]
   ·exact ex_
theorem sdiv_n (a b c d : Int) (w : World) (hk : ck2 a b c d = 0) (h0 : d < 0) :
    Calls Tryz.prog 100 #[.agg #[.int .i64 a, .int .i64 b], .agg #[.int .i64 c, .int .i64 d]] w fun e w' => e = .returned (.tuple #[.agg #[.int .i64 (divP (-b) (-a) (-d) (-c)).lo, .int .i64 (divP (-b) (-a) (-d) (-c)).hi], .int .i64 (divP (-b) (-a) (-d) (-c)).e]) ∧ Ext w w' := by
 obtain ⟨hk1, hk2⟩ := ck2_ok hk
 obtain ⟨ka1, ka2, ka3⟩ := ckI_ok hk1
 obtain ⟨kc1, kc2, kc3⟩ := ckI_ok hk2
 have hM : I64 1099511627776 := by unfold I64; omega
 have hA : I64 (-b) := by unfold I64; omega
 have hB : I64 (-a) := by unfold I64; omega
 have n1 : IntKind.i64.wrap (-b) = -b := by rw [IntKind.wrap_i64]; omega
 have n2 : IntKind.i64.wrap (-a) = -a := by rw [IntKind.wrap_i64]; omega
 have n3 : IntKind.i64.wrap (-d) = -d := by rw [IntKind.wrap_i64]; omega
 have n4 : IntKind.i64.wrap (-c) = -c := by rw [IntKind.wrap_i64]; omega
 have ec : IntKind.u64.wrap (-d) = -d := by rw [IntKind.wrap_u64]; omega
 have ed : IntKind.u64.wrap (-c) = -c := by rw [IntKind.wrap_u64]; omega
 have eV := divP_prog (a := -b) (b := -a) (c := -d) (d := -c) (by omega) (by omega)
 go_enter Tryz.func100, Tryz.ntmps100
 go_upto_region 9 with (first | (go_at_call 92; (with_reducible refine (check_2 _ _ _ _ _ _ c_48).mono ?_); rintro e w1 ⟨rfl, hb⟩; obtain ⟨_, _, hc, hf⟩ := hb.cells2; have hz := hb.size; (try simp only [wsz] at hz hc hf)))
 refine wp_name fun V hV => ?_
 obtain ⟨hVc, hVf, hVz⟩ := hV.cells
 have hVe : Ext w V := Ext.same hV ex_
 (try simp only [wsz] at hVz)
 replace hVz := And.intro (Nat.le_of_eq hVz) (Nat.le_of_eq hVz.symm)
 have hlv : w.heap.size < V.heap.size ∧ w.heap.size + 1 < V.heap.size ∧ w.heap.size + 1 + 1 < V.heap.size := c_51
 have hd : ¬ w.heap.size = w.heap.size + 1 ∧ ¬ w.heap.size = w.heap.size + 1 + 1 ∧ ¬ w.heap.size + 1 = w.heap.size ∧ ¬ w.heap.size + 1 = w.heap.size + 1 + 1 ∧ ¬ w.heap.size + 1 + 1 = w.heap.size ∧ ¬ w.heap.size + 1 + 1 = w.heap.size + 1 := c_26
 have hnv : ¬ w.heap.size = V.heap.size ∧ ¬ w.heap.size + 1 = V.heap.size ∧ ¬ w.heap.size + 1 + 1 = V.heap.size := (by omega)
 go_cut [7, 8] (fun sx0 sx1 wx => ∃ g h : Nat, sx0 = .pointer (some ⟨g, 0, none⟩) ∧ sx1 = .pointer (some ⟨h, 0, none⟩) ∧ Ext V wx ∧ V.heap.size ≤ g ∧ g < wx.heap.size ∧ (∀ o, wx.frozen? ⟨g, o, none⟩ = false) ∧ V.heap.size ≤ h ∧ h < wx.heap.size ∧ (∀ o, wx.frozen? ⟨h, o, none⟩ = false) ∧ g ≠ h ∧ wx.cell? ⟨g, 0, none⟩ = some (.int .i64 ((-b * 1099511627776) / 18446744073709551616)) ∧ wx.cell? ⟨g, 1, none⟩ = some (.int .u64 ((-b * 1099511627776) % 18446744073709551616)) ∧ wx.cell? ⟨h, 0, none⟩ = some (.int .i64 ((-a * 1099511627776) / 18446744073709551616)) ∧ wx.cell? ⟨h, 1, none⟩ = some (.int .u64 ((-a * 1099511627776) % 18446744073709551616)))
 case first =>
  have hWe : Ext V V := Ext.refl V
  go_region_held3 (fun w' => (∀ b o, b < V.heap.size → w'.cell? ⟨b, o, none⟩ = if b = V.heap.size ∧ 0 ≤ o ∧ o < 0 then (V.cell? ⟨b, o, none⟩).map (obx w' b o) else V.cell? ⟨b, o, none⟩) ∧ (∀ b o, b < V.heap.size → w'.frozen? ⟨b, o, none⟩ = V.frozen? ⟨b, o, none⟩) ∧ V.heap.size ≤ w'.heap.size ∧ Ext V w') (first | ((with_reducible refine held5 c_1 ?_ ?_) <;> ((try simp only [size_drew]); omega)) | ((with_reducible refine held4 c_1 ?_ ?_) <;> ((try simp only [World.size_alloc, World.size_setCell, size_drew]); omega)) | (with_reducible exact held3d c_1) | (with_reducible exact held0 hWe) | (with_reducible exact held1 c_1 c_1) | (with_reducible exact held3 c_1) | ((with_reducible refine held4 c_1 ?_ ?_) <;> omega) | ((with_reducible refine held3 ?_); (repeat (with_reducible refine held2 ?_ c_2 c_10)); ((with_reducible refine heldDrop c_1 ?_ ?_) <;> ((try simp only [size_drew]); omega))) | (repeat (first | (with_reducible assumption) | (with_reducible refine held2 ?_ c_2 c_10)))) ((first | (go_at_call 93; (with_reducible refine (times_any (-b) 1099511627776 _ hA hM).mono ?_); rintro e w2 ⟨rfl, hb0⟩; obtain ⟨hq0, hr0⟩ := hb0.cells; have hz0 := hb0.size; (try simp only [size_drew, World.size_alloc, World.size_setCell] at hz0 hq0 hr0); (try have hly0 : V.heap.size < w2.heap.size := by omega); (try have hly1 : V.heap.size + 1 < w2.heap.size := by omega)) | (go_at_call 93; (with_reducible refine (times_any (-a) 1099511627776 _ hB hM).mono ?_); rintro e w3 ⟨rfl, hb1⟩; obtain ⟨hq1, hr1⟩ := hb1.cells; have hz1 := hb1.size; (try simp only [size_drew, World.size_alloc, World.size_setCell] at hz1 hq1 hr1); (try have hly0 : V.heap.size < w3.heap.size := by omega); (try have hly1 : V.heap.size + 1 < w3.heap.size := by omega); (try have hly2 : w2.heap.size < w3.heap.size := by omega); (try have hly3 : w2.heap.size + 1 < w3.heap.size := by omega))))
  all_goals
   rename_i hOld
   clear hOld
   go_wp2_with fail
   go_meet
   refine ⟨_, _, rfl, rfl, ?_, ?_, ?_, ?_, ?_, ?_, ?_, ?_, ?_, ?_, ?_, ?_⟩
   ·(repeat (first | with_reducible exact Ext.refl _ | with_reducible exact Ext.same hV (Ext.refl _) | with_reducible assumption | with_reducible refine Ext.alloc ?_ _ | (with_reducible refine Ext.setCell ?_ ?_ _; rotate_left; (focus ((try simp only [wsz]); omega))) | with_reducible refine Ext.drew ?_ | with_reducible refine Ext.trans ?_ c_1))
   all_goals first | ((try simp only [wsz]); omega) | (intro o; simp [go_sem, ↓IntWalk.iteOmega, *]; done) | (simp [go_sem, ↓IntWalk.iteOmega, *]; done)
 case rest =>
  obtain ⟨g, h, rfl, rfl, hx, hg01, hg02, hgf0, hg11, hg12, hgf1, hgh, hv00, hv01, hv10, hv11⟩ := hcut
  obtain ⟨_, _, hcc, hcf⟩ := hx.cells2
  have hcz := hx.size
  replace hVe := hVe.trans hx
  have hlv2 : w.heap.size < wc.heap.size ∧ w.heap.size + 1 < wc.heap.size ∧ w.heap.size + 1 + 1 < wc.heap.size := (by omega)
  have hlg : w.heap.size < g ∧ ¬ w.heap.size = g ∧ ¬ g = w.heap.size ∧ w.heap.size < h ∧ ¬ w.heap.size = h ∧ ¬ h = w.heap.size ∧ w.heap.size + 1 < g ∧ ¬ w.heap.size + 1 = g ∧ ¬ g = w.heap.size + 1 ∧ w.heap.size + 1 < h ∧ ¬ w.heap.size + 1 = h ∧ ¬ h = w.heap.size + 1 ∧ w.heap.size + 1 + 1 < g ∧ ¬ w.heap.size + 1 + 1 = g ∧ ¬ g = w.heap.size + 1 + 1 ∧ w.heap.size + 1 + 1 < h ∧ ¬ w.heap.size + 1 + 1 = h ∧ ¬ h = w.heap.size + 1 + 1 := (by omega)
  clear hx
  go_wp2_with fail
  refine wp_name fun W hW => ?_
  obtain ⟨hWc, hWf, hWz⟩ := hW.cells
  have hlw : w.heap.size < wc.heap.size ∧ w.heap.size + 1 < wc.heap.size ∧ w.heap.size + 1 + 1 < wc.heap.size ∧ g < wc.heap.size ∧ h < wc.heap.size := (by omega)
  have hWe : Ext w W := Ext.same hW ex_
  (try simp only [wsz] at hWz)
  go_region_held3 (fun w' => (∀ b o, b < W.heap.size → w'.cell? ⟨b, o, none⟩ = if b = w.heap.size ∧ 0 ≤ o ∧ o < 0 then (W.cell? ⟨b, o, none⟩).map (obx w' b o) else W.cell? ⟨b, o, none⟩) ∧ (∀ b o, b < W.heap.size → w'.frozen? ⟨b, o, none⟩ = W.frozen? ⟨b, o, none⟩) ∧ W.heap.size ≤ w'.heap.size ∧ Ext w w') (first | (with_reducible exact held0 hWe) | (with_reducible exact held1 c_1 c_1) | (with_reducible exact held3 c_1) | ((with_reducible refine held4 c_1 ?_ ?_) <;> omega) | (repeat (first | (with_reducible assumption) | (with_reducible refine held2 ?_ c_2 c_10)))) (fail)
  rename_i hOld
  have hE := hOld.2.2.2
  have hO := And.intro hOld.1 (And.intro hOld.2.1 hOld.2.2.1)
  clear hOld
  obtain ⟨hOc, hOf, hOz⟩ := heldEnd hO
  clear hO
  go_wp2_with fail
  refine wp_name fun W hW => ?_
  obtain ⟨hWc, hWf, hWz⟩ := hW.cells
  have hlw : w.heap.size < wc.heap.size ∧ w.heap.size + 1 < wc.heap.size ∧ w.heap.size + 1 + 1 < wc.heap.size := (by omega)
  have hWe : Ext w W := Ext.same hW ex_
  (try simp only [wsz] at hWz)
  go_region_held3 (fun w' => (∀ b o, b < W.heap.size → w'.cell? ⟨b, o, none⟩ = if b = w.heap.size + 1 + 1 ∧ 0 ≤ o ∧ o < 2 then (W.cell? ⟨b, o, none⟩).map (obx w' b o) else W.cell? ⟨b, o, none⟩) ∧ (∀ b o, b < W.heap.size → w'.frozen? ⟨b, o, none⟩ = W.frozen? ⟨b, o, none⟩) ∧ W.heap.size ≤ w'.heap.size ∧ Ext w w') (first | (with_reducible exact held0 hWe) | (with_reducible exact held1 c_1 c_1) | (with_reducible exact held3 c_1) | ((with_reducible refine held4 c_1 ?_ ?_) <;> omega) | (repeat (first | (with_reducible assumption) | (with_reducible refine held2 ?_ c_2 c_10)))) ((first | (go_at_call 97; (with_reducible refine (down_any _ _ _ (abs_mul_bound hA hM).1 (abs_mul_bound hA hM).2 (by omega) (by omega)).mono ?_); rintro e w2 ⟨rfl, hb2⟩; have hz2 := hb2.size; (try rw [size_drew] at hz2)) | (go_at_call 99; (with_reducible refine (up_any _ _ _ (abs_mul_bound hB hM).1 (abs_mul_bound hB hM).2 (by omega) (by omega)).mono ?_); rintro e w2 ⟨rfl, hb2⟩; have hz2 := hb2.size; (try rw [size_drew] at hz2)) | (go_at_call 95; (with_reducible refine (span_made _ _ _).mono ?_); rintro e w2 ⟨rfl, hb2⟩; have hz2 := hb2.size; (try rw [size_drew] at hz2))))
  all_goals
   rename_i hOld
   have hE := hOld.2.2.2
   have hO := And.intro hOld.1 (And.intro hOld.2.1 hOld.2.2.1)
   clear hOld
   replace hO := heldBack hO c_2
   replace hO := heldBack hO c_2
   obtain ⟨hOc, hOf, hOz⟩ := heldEnd hO
   clear hO
   go_wp2_with fail
   refine bodyPost_ret (v := .tuple #[.agg #[.int .i64 (divP (-b) (-a) (-d) (-c)).lo, .int .i64 (divP (-b) (-a) (-d) (-c)).hi], .int .i64 (divP (-b) (-a) (-d) (-c)).e]) ?_ rfl ⟨rfl, ?_⟩
   ·(try simp only [bne_iff_ne, ne_eq, bne_eq_false_iff_eq, beq_iff_eq, beq_eq_false_iff_ne] at *)
    simp [results, Tryz.results100, go_sem, ↓IntWalk.iteOmega, eV, *]
   ·exact ex_
theorem sdiv_e (a b c d : Int) (w : World) (hk : ¬ ck2 a b c d = 0) :
    Calls Tryz.prog 100 #[.agg #[.int .i64 a, .int .i64 b], .agg #[.int .i64 c, .int .i64 d]] w fun e w' => e = .returned (.tuple #[.agg #[.int .i64 (R3.mk 0 0 (ck2 a b c d)).lo, .int .i64 (R3.mk 0 0 (ck2 a b c d)).hi], .int .i64 (R3.mk 0 0 (ck2 a b c d)).e]) ∧ Ext w w' := by
 go_enter Tryz.func100, Tryz.ntmps100
 go_wp2_with (first | (go_at_call 92; (with_reducible refine (check_2 _ _ _ _ _ _ c_48).mono ?_); rintro e w1 ⟨rfl, hb⟩; obtain ⟨_, _, hc, hf⟩ := hb.cells2; have hz := hb.size; (try simp only [wsz] at hz hc hf)))
 all_goals
  refine bodyPost_ret (v := .tuple #[.agg #[.int .i64 (R3.mk 0 0 (ck2 a b c d)).lo, .int .i64 (R3.mk 0 0 (ck2 a b c d)).hi], .int .i64 (R3.mk 0 0 (ck2 a b c d)).e]) ?_ rfl ⟨rfl, ?_⟩
  ·(try simp only [bne_iff_ne, ne_eq, bne_eq_false_iff_eq, beq_iff_eq, beq_eq_false_iff_ne] at *)
   simp [results, Tryz.results100, go_sem, ↓IntWalk.iteOmega, ne_eq, *]
  ·exact ex_
theorem sdiv_z (a b c d : Int) (w : World) (hk : ck2 a b c d = 0) (h0 : c ≤ 0) (h1 : 0 ≤ d) :
    Calls Tryz.prog 100 #[.agg #[.int .i64 a, .int .i64 b], .agg #[.int .i64 c, .int .i64 d]] w fun e w' => e = .returned (.tuple #[.agg #[.int .i64 (R3.mk 0 0 18).lo, .int .i64 (R3.mk 0 0 18).hi], .int .i64 (R3.mk 0 0 18).e]) ∧ Ext w w' := by
 go_enter Tryz.func100, Tryz.ntmps100
 go_wp2_with (first | (go_at_call 92; (with_reducible refine (check_2 _ _ _ _ _ _ c_48).mono ?_); rintro e w1 ⟨rfl, hb⟩; obtain ⟨_, _, hc, hf⟩ := hb.cells2; have hz := hb.size; (try simp only [wsz] at hz hc hf)))
 all_goals
  refine bodyPost_ret (v := .tuple #[.agg #[.int .i64 (R3.mk 0 0 18).lo, .int .i64 (R3.mk 0 0 18).hi], .int .i64 (R3.mk 0 0 18).e]) ?_ rfl ⟨rfl, ?_⟩
  ·(try simp only [bne_iff_ne, ne_eq, bne_eq_false_iff_eq, beq_iff_eq, beq_eq_false_iff_ne] at *)
   simp [results, Tryz.results100, go_sem, ↓IntWalk.iteOmega, ne_eq, *]
  ·exact ex_
theorem span_div (a b c d : Int) (w : World) :
    Calls Tryz.prog 100 #[.agg #[.int .i64 a, .int .i64 b], .agg #[.int .i64 c, .int .i64 d]] w fun e w' => e = .returned (.tuple #[.agg #[.int .i64 (divI a b c d).lo, .int .i64 (divI a b c d).hi], .int .i64 (divI a b c d).e]) ∧ Ext w w' := by
 by_cases hk : ck2 a b c d = 0
 ·by_cases h0 : c ≤ 0 ∧ 0 ≤ d
  ·have e : divI a b c d = ⟨0, 0, 18⟩ := by unfold divI; rw [if_neg c_46, if_pos h0]
   rw [e]; exact sdiv_z a b c d w hk h0.1 h0.2
  ·have hc := (ckI_ok (ck2_ok hk).2).1
   by_cases h1 : d < 0
   ·have e : divI a b c d = divP (-b) (-a) (-d) (-c) := by unfold divI; rw [if_neg c_46, if_neg h0, if_pos h1]
    rw [e]; exact sdiv_n a b c d w hk h1
   ·have e : divI a b c d = divP a b c d := by unfold divI; rw [if_neg c_46, if_neg h0, if_neg h1]
    rw [e]; exact sdiv_p a b c d w hk (by omega)
 ·have e : divI a b c d = ⟨0, 0, ck2 a b c d⟩ := by unfold divI; rw [if_pos c_46]
  rw [e]; exact sdiv_e a b c d w hk
theorem s_root (x : Int) (w : World) (x0 : 0 ≤ x) (x1 : x ≤ 2305843009213693952) :
    Calls Tryz.prog 190 #[.int .i64 x] w fun e w' => e = .returned (.int .i64 (rootI x)) ∧ Ext w w' := by
 have hx : I64 x := by unfold I64; omega
 have hM : I64 1099511627776 := by unfold I64; omega
 go_enter Tryz.func190, Tryz.ntmps190
 go_wp2_with (first | (go_at_call 93; (with_reducible refine (times_any x 1099511627776 _ hx hM).mono ?_); rintro e w1 ⟨rfl, hb⟩; obtain ⟨_, _, hc, hf⟩ := hb.cells2; have hz := hb.size; (try simp only [wsz] at hz hc hf)))
 go_loopw [4, 5] (fun v4 v5 wr => ∃ lo hi : Int, v4 = .int .i64 lo ∧ v5 = .int .i64 hi ∧ 0 ≤ lo ∧ lo < hi ∧ hi ≤ 4503599627370496 ∧ lo * lo ≤ x * 1099511627776 ∧ x * 1099511627776 < hi * hi ∧ Ext w wr ∧ w1.heap.size < wr.heap.size ∧ wr.cell? ⟨w1.heap.size, 0, none⟩ = some (.int .i64 (x * 1099511627776 / 18446744073709551616)) ∧ wr.cell? ⟨w1.heap.size, 1, none⟩ = some (.int .u64 (x * 1099511627776 % 18446744073709551616))) (fun v4 v5 wr => (intOf v5 - intOf v4).toNat)
 case atStart =>
  refine ⟨_, _, rfl, rfl, by omega, by omega, by omega, by omega, by omega, ?_, ?_, ?_, ?_⟩
  ·exact ex_
  all_goals first | ((try simp only [wsz]); omega) | (simp [go_sem, ↓IntWalk.iteOmega, *]; done)
 case round =>
  obtain ⟨lo, hi, rfl, rfl, k0, k1, k2, k3, k4, hE0, hg, hc0, hc1⟩ := hrel
  have s1 : IntKind.i64.wrap (hi - lo) = hi - lo := by rw [IntKind.wrap_i64]; omega
  have s2 : IntKind.i64.wrap (lo + hi) = lo + hi := by rw [IntKind.wrap_i64]; omega
  obtain ⟨m, em⟩ : ∃ m, m = (lo + hi) / 2 := ⟨_, rfl⟩
  have s3 : (lo + hi).tdiv 2 = m := by rw [Int.tdiv_eq_ediv_of_nonneg (by omega)]; exact em.symm
  have s4 : IntKind.i64.wrap m = m := by rw [IntKind.wrap_i64]; omega
  have hm : I64 m := by unfold I64; omega
  by_cases h1 : 1 < hi - lo
  ·have b1 : lo < m := by omega
   have b2 : m < hi := by omega
   have em' := Lib.hid em
   clear em
   have K3 := Lib.hid k3
   have K4 := Lib.hid k4
   clear k3 k4
   go_wp2_with fail
   refine wp_name fun W hW => ?_
   obtain ⟨hWc, hWf, hWz⟩ := hW.cells
   have hWe : Ext w W := Ext.same hW ex_
   (try simp only [wsz] at hWz)
   (try simp only [size_drew, size_drewN, World.size_alloc, World.size_setCell] at hWz)
   replace hWz := And.intro (Nat.le_of_eq hWz) (Nat.le_of_eq hWz.symm)
   have hlt : w1.heap.size < W.heap.size := by omega
   
   go_region_held3 (fun w' => (∀ b o, b < W.heap.size → w'.cell? ⟨b, o, none⟩ = if b = w1.heap.size ∧ 0 ≤ o ∧ o < 0 then (W.cell? ⟨b, o, none⟩).map (obx w' b o) else W.cell? ⟨b, o, none⟩) ∧ (∀ b o, b < W.heap.size → w'.frozen? ⟨b, o, none⟩ = W.frozen? ⟨b, o, none⟩) ∧ W.heap.size ≤ w'.heap.size ∧ Ext w w') (first | (with_reducible exact held0 hWe) | (with_reducible exact held1 c_1 c_1) | (with_reducible exact held3 c_1) | ((with_reducible refine held4 c_1 ?_ ?_) <;> omega) | (repeat (first | (with_reducible assumption) | (with_reducible refine held2 ?_ c_2 c_10)))) ((first | (go_at_call 93; (with_reducible refine (times_any m m _ hm hm).mono ?_); rintro e w2 ⟨rfl, hb2⟩; have hz2 := hb2.size; (try rw [size_drew] at hz2)) | (go_at_call 159; (with_reducible refine (cmp_any _ _ _).mono ?_); rintro e w2 ⟨rfl, hb2⟩; have hz2 := hb2.size; (try rw [size_drew] at hz2))))
   all_goals
    rename_i hOld
    have hE := hOld.2.2.2
    have hO := And.intro hOld.1 (And.intro hOld.2.1 hOld.2.2.1)
    clear hOld
    obtain ⟨hOc, hOf, hOz⟩ := heldEnd hO
    clear hO
    go_wp2_with fail
    all_goals
     go_roundw
     case measure => simp only [intOf]; omega
     simp only [cmp_np, cmp_pos] at *
     refine ⟨_, _, rfl, rfl, by omega, by omega, by omega, by first | (with_reducible assumption) | exact K3.out, by first | (with_reducible assumption) | exact K4.out, ?_, ?_, ?_, ?_⟩
     ·exact ex_
     all_goals first | ((try simp only [wsz]); omega) | (simp [go_sem, ↓IntWalk.iteOmega, *]; done)
  ·have h2 : hi = lo + 1 := by omega
   subst h2
   have hr : lo = rootI x := IsRoot.eq ⟨k0, k3, k4⟩
   have hr' := Lib.hid hr
   clear hr k3 k4
   go_wp2_with fail
   go_ret
   refine ⟨?_, hE0⟩
   rw [← hr'.out]
   rfl
theorem ref_check (a b : Int) (w : World) :
    Calls Tryz.prog 106 #[.agg #[.int .i64 a, .int .i64 b]] w fun e w' => e = .returned (.int .i64 (ckI a b)) ∧ Ext w w' := by
 go_enter Tryz.func106, Tryz.ntmps106
 go_wp2_with fail
 all_goals
  go_ret
  refine ⟨?_, ?_⟩
  ·(try simp only [] at *)
   first | (simp [ckI, *]; done) | (simp [ckI, *]; omega)
  ·repeat (first | exact Ext.refl _ | with_reducible assumption | refine Ext.alloc ?_ _ | refine Ext.setCell ?_ c_14 _ | refine Ext.drewN ?_ _ | refine Ext.drew ?_ | refine Ext.trans ?_ c_1)
theorem ref_both (a b c d : Int) (w : World) :
    Calls Tryz.prog 165 #[.agg #[.int .i64 a, .int .i64 b], .agg #[.int .i64 c, .int .i64 d]] w fun e w' => e = .returned (.int .i64 (ck2 a b c d)) ∧ Ext w w' := by
 go_enter Tryz.func165, Tryz.ntmps165
 go_wp2_with (first | (go_at_call 106; (with_reducible refine (ref_check _ _ _).mono ?_); rintro e w1 ⟨rfl, hb⟩; obtain ⟨_, _, hc, hf⟩ := hb.cells2; have hz := hb.size; (try simp only [World.size_alloc] at hz hc hf)))
 all_goals
  go_ret
  refine ⟨?_, ?_⟩
  ·(try simp only [bne_iff_ne, ne_eq, bne_eq_false_iff_eq] at *)
   first | (simp [ck2, *]; done) | (simp [ck2, *]; omega)
  ·repeat (first | exact Ext.refl _ | with_reducible assumption | refine Ext.alloc ?_ _ | refine Ext.setCell ?_ c_14 _ | refine Ext.drewN ?_ _ | refine Ext.drew ?_ | refine Ext.trans ?_ c_1)
theorem ref_made (lo hi : Int) (w : World) :
    Calls Tryz.prog 110 #[.int .i64 lo, .int .i64 hi] w fun e w' => e = .returned (.tuple #[.agg #[.int .i64 (madeI lo hi).lo, .int .i64 (madeI lo hi).hi], .int .i64 (madeI lo hi).e]) ∧ Ext w w' := by
 go_enter Tryz.func110, Tryz.ntmps110
 go_wp2
 all_goals
  refine bodyPost_ret (v := .tuple #[.agg #[.int .i64 (madeI lo hi).lo, .int .i64 (madeI lo hi).hi], .int .i64 (madeI lo hi).e]) ?_ rfl ⟨rfl, ?_⟩
  ·(try simp only [] at *)
   simp [results, Tryz.results110, go_sem, ↓IntWalk.iteOmega, madeI, *]
  ·repeat (first | exact Ext.refl _ | with_reducible assumption | refine Ext.alloc ?_ _ | refine Ext.setCell ?_ c_14 _ | refine Ext.drewN ?_ _ | refine Ext.drew ?_ | refine Ext.trans ?_ c_1)
theorem ref_add (a b c d : Int) (w : World) :
    Calls Tryz.prog 192 #[.agg #[.int .i64 a, .int .i64 b], .agg #[.int .i64 c, .int .i64 d]] w fun e w' => e = .returned (.tuple #[.agg #[.int .i64 (addI a b c d).lo, .int .i64 (addI a b c d).hi], .int .i64 (addI a b c d).e]) ∧ Ext w w' := by
 go_enter Tryz.func192, Tryz.ntmps192
 go_wp2_with (first | (go_at_call 165; (with_reducible refine (ref_both _ _ _ _ _).mono ?_); rintro e w1 ⟨rfl, hb⟩; obtain ⟨_, _, hc, hf⟩ := hb.cells2; have hz := hb.size; (try simp only [World.size_alloc] at hz hc hf)) | (go_at_call 110; (with_reducible refine (ref_made _ _ _).mono ?_); rintro e w1 ⟨rfl, hb⟩; obtain ⟨_, _, hc, hf⟩ := hb.cells2; have hz := hb.size; (try simp only [wsz] at hz hc hf)))
 all_goals
  refine bodyPost_ret (v := .tuple #[.agg #[.int .i64 (addI a b c d).lo, .int .i64 (addI a b c d).hi], .int .i64 (addI a b c d).e]) ?_ rfl ⟨rfl, ?_⟩
  ·(try simp only [bne_iff_ne, ne_eq, bne_eq_false_iff_eq] at *)
   simp [results, Tryz.results192, go_sem, ↓IntWalk.iteOmega, addI, *]
  ·repeat (first | exact Ext.refl _ | with_reducible assumption | refine Ext.alloc ?_ _ | refine Ext.setCell ?_ c_19 _ | refine Ext.drewN ?_ _ | refine Ext.drew ?_ | refine Ext.trans ?_ c_1)
theorem ref_sub (a b c d : Int) (w : World) :
    Calls Tryz.prog 154 #[.agg #[.int .i64 a, .int .i64 b], .agg #[.int .i64 c, .int .i64 d]] w fun e w' => e = .returned (.tuple #[.agg #[.int .i64 (subI a b c d).lo, .int .i64 (subI a b c d).hi], .int .i64 (subI a b c d).e]) ∧ Ext w w' := by
 go_enter Tryz.func154, Tryz.ntmps154
 go_wp2_with (first | (go_at_call 165; (with_reducible refine (ref_both _ _ _ _ _).mono ?_); rintro e w1 ⟨rfl, hb⟩; obtain ⟨_, _, hc, hf⟩ := hb.cells2; have hz := hb.size; (try simp only [World.size_alloc] at hz hc hf)) | (go_at_call 110; (with_reducible refine (ref_made _ _ _).mono ?_); rintro e w1 ⟨rfl, hb⟩; obtain ⟨_, _, hc, hf⟩ := hb.cells2; have hz := hb.size; (try simp only [wsz] at hz hc hf)))
 all_goals
  refine bodyPost_ret (v := .tuple #[.agg #[.int .i64 (subI a b c d).lo, .int .i64 (subI a b c d).hi], .int .i64 (subI a b c d).e]) ?_ rfl ⟨rfl, ?_⟩
  ·(try simp only [bne_iff_ne, ne_eq, bne_eq_false_iff_eq] at *)
   simp [results, Tryz.results154, go_sem, ↓IntWalk.iteOmega, subI, *]
  ·repeat (first | exact Ext.refl _ | with_reducible assumption | refine Ext.alloc ?_ _ | refine Ext.setCell ?_ c_19 _ | refine Ext.drewN ?_ _ | refine Ext.drew ?_ | refine Ext.trans ?_ c_1)
theorem eq_iv (a b : Int) (d : Nat) (w : World) : (Op.equalIn (d + 1 + 1) 31 (.agg #[.int .i64 a, .int .i64 b]) (.agg #[.int .i64 a, .int .i64 b])).run Tryz.prog w = .ok true w := by
 rw [run_equalIn_agg w (d + 1) 31 _ _ (by simp [Program.fieldsOf, Tryz.underlying31]) c_4]
 simp [Op.eqFields, Program.fieldsOf, Tryz.underlying31, go_sem, Tryz.underlying2]
theorem size23 : Tryz.prog.cellsOf 31 = 2 := by kernel_rfl
end Go.Proofs.YtogblocakccbgaaGreat
