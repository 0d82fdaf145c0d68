/- span.Div. -/
import Derived.Test.YtomgcjeahkmhiaaDivP
import Derived.Test.YtomgcjeahkmhiaaRefC
import Derived.Test.YtomgcjeahkmhiaaSpanD
import Derived.Test.YtomgcjeahkmhiaaPtr
set_option linter.unusedSimpArgs false
set_option linter.unusedVariables false
namespace Go.Proofs.Ytomgcjeahkmhiaa
open Go.RowKit

theorem heldDrop {w W w' : World} {RB lo hi : Nat} {ob : Obj} (h : (∀ b o, b < W.heap.size → (w'.alloc ob).cell? ⟨b, o, none⟩ = if b = RB ∧ lo ≤ o ∧ o < hi then (W.cell? ⟨b, o, none⟩).map (obx (w'.alloc ob) b o) else W.cell? ⟨b, o, none⟩) ∧ (∀ b o, b < W.heap.size → (w'.alloc ob).frozen? ⟨b, o, none⟩ = W.frozen? ⟨b, o, none⟩) ∧ W.heap.size ≤ (w'.alloc ob).heap.size ∧ Ext w (w'.alloc ob)) (hz : W.heap.size ≤ w'.heap.size) (hz2 : w.heap.size ≤ w'.heap.size) :
    (∀ b o, b < W.heap.size → (w').cell? ⟨b, o, none⟩ = if b = RB ∧ lo ≤ o ∧ o < hi then (W.cell? ⟨b, o, none⟩).map (obx (w') b o) else W.cell? ⟨b, o, none⟩) ∧ (∀ b o, b < W.heap.size → (w').frozen? ⟨b, o, none⟩ = W.frozen? ⟨b, o, none⟩) ∧ W.heap.size ≤ (w').heap.size ∧ Ext w (w') := by
  have hE := h.2.2.2
  have h3 := heldBackA ⟨h.1, h.2.1, h.2.2.1⟩ hz
  have hE' : Ext w w' := ⟨hE.os, hE.tape, hE.output, hz2, fun k hk => by
    rw [← hE.block k hk]; exact (Below.heap_alloc w' ob k (Nat.lt_of_lt_of_le hk hz2)).symm⟩
  exact ⟨h3.1, h3.2.1, h3.2.2, hE'⟩
theorem held5 {w W w' : World} {RB lo hi : Nat} {o1 o1' o2 : Obj} (h : (∀ b o, b < W.heap.size → ((w'.alloc o1).alloc o2).cell? ⟨b, o, none⟩ = if b = RB ∧ lo ≤ o ∧ o < hi then (W.cell? ⟨b, o, none⟩).map (obx ((w'.alloc o1).alloc o2) b o) else W.cell? ⟨b, o, none⟩) ∧ (∀ b o, b < W.heap.size → ((w'.alloc o1).alloc o2).frozen? ⟨b, o, none⟩ = W.frozen? ⟨b, o, none⟩) ∧ W.heap.size ≤ ((w'.alloc o1).alloc o2).heap.size ∧ Ext w ((w'.alloc o1).alloc o2)) (hz : W.heap.size ≤ w'.heap.size) (hz2 : w.heap.size ≤ w'.heap.size) :
    (∀ b o, b < W.heap.size → ((w'.alloc o1').alloc o2).cell? ⟨b, o, none⟩ = if b = RB ∧ lo ≤ o ∧ o < hi then (W.cell? ⟨b, o, none⟩).map (obx ((w'.alloc o1').alloc o2) b o) else W.cell? ⟨b, o, none⟩) ∧ (∀ b o, b < W.heap.size → ((w'.alloc o1').alloc o2).frozen? ⟨b, o, none⟩ = W.frozen? ⟨b, o, none⟩) ∧ W.heap.size ≤ ((w'.alloc o1').alloc o2).heap.size ∧ Ext w ((w'.alloc o1').alloc o2) :=
  held3 (held4 (heldDrop h (by simp only [World.size_alloc]; omega) (by simp only [World.size_alloc]; omega)) hz hz2)

set_option maxRecDepth 100000 in
set_option maxHeartbeats 4000000 in
theorem sdiv_p (a b c d : Int) (w : World) (hk : ck2 a b c d = 0) (h0 : 0 < c) :
    Calls Try.prog 81 #[.agg #[.int .i64 a, .int .i64 b], .agg #[.int .i64 c, .int .i64 d]] w fun e w' => e = .returned (.tuple #[.agg #[.int .i64 (divP a b c d).lo, .int .i64 (divP a b c d).hi], .int .i64 (divP a b c d).e]) ∧ Ext w w' := by
  obtain ⟨hk1, hk2⟩ := ck2_ok hk
  obtain ⟨ka1, ka2, ka3⟩ := ckI_ok hk1
  obtain ⟨kc1, kc2, kc3⟩ := ckI_ok hk2
  have hM : I64 1099511627776 := by unfold I64; omega
  have hA : I64 a := by unfold I64; omega
  have hB : I64 b := by unfold I64; omega
  have ec : IntKind.u64.wrap c = c := by rw [IntKind.wrap_u64]; omega
  have ed : IntKind.u64.wrap d = d := by rw [IntKind.wrap_u64]; omega
  have eV := divP_prog (a := a) (b := b) h0 kc1
  go_enter Try.func81, Try.ntmps81
  go_upto_region 9 with (first | (go_at_call 60; (with_reducible refine (check_2 _ _ _ _ _ _ (by first | rfl | simp)).mono ?_); rintro e w1 ⟨rfl, hb⟩; obtain ⟨_, _, hc, hf⟩ := hb.cells2; have hz := hb.size; (try simp only [World.size_alloc, World.size_setCell] at hz hc hf)))
  refine wp_name fun V hV => ?_
  obtain ⟨hVc, hVf, hVz⟩ := hV.cells
  have hVe : Ext w V := Ext.same hV (by repeat (first | with_reducible exact Ext.refl _ | with_reducible assumption | with_reducible refine Ext.alloc ?_ _ | with_reducible refine Ext.setCell ?_ (by (try simp only [World.size_alloc, World.size_setCell]); omega) _ | with_reducible refine Ext.drewN ?_ _ | with_reducible refine Ext.drew ?_ | with_reducible refine Ext.trans ?_ (by with_reducible assumption)))
  (try simp only [World.size_alloc, World.size_setCell] at hVz)
  replace hVz := And.intro (Nat.le_of_eq hVz) (Nat.le_of_eq hVz.symm)
  have hlv : w.heap.size < V.heap.size ∧ w.heap.size + 1 < V.heap.size ∧ w.heap.size + 1 + 1 < V.heap.size := (by refine ⟨?_, ?_, ?_⟩ <;> omega)
  have hd : ¬ w.heap.size = w.heap.size + 1 ∧ ¬ w.heap.size = w.heap.size + 1 + 1 ∧ ¬ w.heap.size + 1 = w.heap.size ∧ ¬ w.heap.size + 1 = w.heap.size + 1 + 1 ∧ ¬ w.heap.size + 1 + 1 = w.heap.size ∧ ¬ w.heap.size + 1 + 1 = w.heap.size + 1 := (by refine ⟨?_, ?_, ?_, ?_, ?_, ?_⟩ <;> omega)
  have hnv : ¬ w.heap.size = V.heap.size ∧ ¬ w.heap.size + 1 = V.heap.size ∧ ¬ w.heap.size + 1 + 1 = V.heap.size := (by omega)
  go_cut [7, 8] (fun sx0 sx1 wx => ∃ g h : Nat, sx0 = .pointer (some ⟨g, 0, none⟩) ∧ sx1 = .pointer (some ⟨h, 0, none⟩) ∧ Ext V wx ∧ V.heap.size ≤ g ∧ g < wx.heap.size ∧ (∀ o, wx.frozen? ⟨g, o, none⟩ = false) ∧ V.heap.size ≤ h ∧ h < wx.heap.size ∧ (∀ o, wx.frozen? ⟨h, o, none⟩ = false) ∧ g ≠ h ∧ wx.cell? ⟨g, 0, none⟩ = some (.int .i64 ((a * 1099511627776) / 18446744073709551616)) ∧ wx.cell? ⟨g, 1, none⟩ = some (.int .u64 ((a * 1099511627776) % 18446744073709551616)) ∧ wx.cell? ⟨h, 0, none⟩ = some (.int .i64 ((b * 1099511627776) / 18446744073709551616)) ∧ wx.cell? ⟨h, 1, none⟩ = some (.int .u64 ((b * 1099511627776) % 18446744073709551616)))
  case first =>
    have hWe : Ext V V := Ext.refl V
    go_region_held3 (fun w' => (∀ b o, b < V.heap.size → w'.cell? ⟨b, o, none⟩ = if b = V.heap.size ∧ 0 ≤ o ∧ o < 0 then (V.cell? ⟨b, o, none⟩).map (obx w' b o) else V.cell? ⟨b, o, none⟩) ∧ (∀ b o, b < V.heap.size → w'.frozen? ⟨b, o, none⟩ = V.frozen? ⟨b, o, none⟩) ∧ V.heap.size ≤ w'.heap.size ∧ Ext V w') (first | ((with_reducible refine held5 (by with_reducible assumption) ?_ ?_) <;> ((try simp only [size_drew]); omega)) | ((with_reducible refine held4 (by with_reducible assumption) ?_ ?_) <;> ((try simp only [World.size_alloc, World.size_setCell, size_drew]); omega)) | (with_reducible exact held3d (by with_reducible assumption)) | (with_reducible exact held0 hWe) | (with_reducible exact held1 (by with_reducible assumption) (by with_reducible assumption)) | (with_reducible exact held3 (by with_reducible assumption)) | ((with_reducible refine held4 (by with_reducible assumption) ?_ ?_) <;> omega) | ((with_reducible refine held3 ?_); (repeat (with_reducible refine held2 ?_ (by first | (refine Or.inl ⟨?_, ?_, ?_⟩ <;> (first | rfl | (dsimp only; omega))) | (refine Or.inr ?_; (try dsimp only); (try simp only [World.size_alloc, World.size_setCell]); omega)) (by (try dsimp only); (try simp only [World.size_alloc, World.size_setCell]); omega))); ((with_reducible refine heldDrop (by with_reducible assumption) ?_ ?_) <;> ((try simp only [size_drew]); omega))) | (repeat (first | (with_reducible assumption) | (with_reducible refine held2 ?_ (by first | (refine Or.inl ⟨?_, ?_, ?_⟩ <;> (first | rfl | (dsimp only; omega))) | (refine Or.inr ?_; (try dsimp only); (try simp only [World.size_alloc, World.size_setCell]); omega)) (by (try dsimp only); (try simp only [World.size_alloc, World.size_setCell]); omega))))) ((first | (go_at_call 75; (with_reducible refine (times_any (a) 1099511627776 _ hA hM).mono ?_); rintro e w2 ⟨rfl, hb0⟩; obtain ⟨hq0, hr0⟩ := hb0.cells; have hz0 := hb0.size; (try simp only [size_drew, World.size_alloc, World.size_setCell] at hz0 hq0 hr0); (try have hly0 : V.heap.size < w2.heap.size := by omega); (try have hly1 : V.heap.size + 1 < w2.heap.size := by omega)) | (go_at_call 75; (with_reducible refine (times_any (b) 1099511627776 _ hB hM).mono ?_); rintro e w3 ⟨rfl, hb1⟩; obtain ⟨hq1, hr1⟩ := hb1.cells; have hz1 := hb1.size; (try simp only [size_drew, World.size_alloc, World.size_setCell] at hz1 hq1 hr1); (try have hly0 : V.heap.size < w3.heap.size := by omega); (try have hly1 : V.heap.size + 1 < w3.heap.size := by omega); (try have hly2 : w2.heap.size < w3.heap.size := by omega); (try have hly3 : w2.heap.size + 1 < w3.heap.size := by omega))))
    all_goals
      rename_i hOld
      clear hOld
      go_wp2_with fail
      go_meet
      refine ⟨_, _, rfl, rfl, ?_, ?_, ?_, ?_, ?_, ?_, ?_, ?_, ?_, ?_, ?_, ?_⟩
      · (repeat (first | with_reducible exact Ext.refl _ | with_reducible exact Ext.same hV (Ext.refl _) | with_reducible assumption | with_reducible refine Ext.alloc ?_ _ | (with_reducible refine Ext.setCell ?_ ?_ _; rotate_left; (focus ((try simp only [World.size_alloc, World.size_setCell]); omega))) | with_reducible refine Ext.drew ?_ | with_reducible refine Ext.trans ?_ (by with_reducible assumption)))
      all_goals first | ((try simp only [World.size_alloc, World.size_setCell]); omega) | (intro o; simp [go_sem, ↓IntWalk.iteOmega, *]; done) | (simp [go_sem, ↓IntWalk.iteOmega, *]; done)
  case rest =>
    obtain ⟨g, h, rfl, rfl, hx, hg01, hg02, hgf0, hg11, hg12, hgf1, hgh, hv00, hv01, hv10, hv11⟩ := hcut
    obtain ⟨_, _, hcc, hcf⟩ := hx.cells2
    have hcz := hx.size
    replace hVe := hVe.trans hx
    have hlv2 : w.heap.size < wc.heap.size ∧ w.heap.size + 1 < wc.heap.size ∧ w.heap.size + 1 + 1 < wc.heap.size := (by omega)
    have hlg : w.heap.size < g ∧ ¬ w.heap.size = g ∧ ¬ g = w.heap.size ∧ w.heap.size < h ∧ ¬ w.heap.size = h ∧ ¬ h = w.heap.size ∧ w.heap.size + 1 < g ∧ ¬ w.heap.size + 1 = g ∧ ¬ g = w.heap.size + 1 ∧ w.heap.size + 1 < h ∧ ¬ w.heap.size + 1 = h ∧ ¬ h = w.heap.size + 1 ∧ w.heap.size + 1 + 1 < g ∧ ¬ w.heap.size + 1 + 1 = g ∧ ¬ g = w.heap.size + 1 + 1 ∧ w.heap.size + 1 + 1 < h ∧ ¬ w.heap.size + 1 + 1 = h ∧ ¬ h = w.heap.size + 1 + 1 := (by omega)
    clear hx
    go_wp2_with fail
    refine wp_name fun W hW => ?_
    obtain ⟨hWc, hWf, hWz⟩ := hW.cells
    have hlw : w.heap.size < wc.heap.size ∧ w.heap.size + 1 < wc.heap.size ∧ w.heap.size + 1 + 1 < wc.heap.size ∧ g < wc.heap.size ∧ h < wc.heap.size := (by omega)
    have hWe : Ext w W := Ext.same hW (by repeat (first | with_reducible exact Ext.refl _ | with_reducible assumption | with_reducible refine Ext.alloc ?_ _ | with_reducible refine Ext.setCell ?_ (by (try simp only [World.size_alloc, World.size_setCell]); omega) _ | with_reducible refine Ext.drewN ?_ _ | with_reducible refine Ext.drew ?_ | with_reducible refine Ext.trans ?_ (by with_reducible assumption)))
    (try simp only [World.size_alloc, World.size_setCell] at hWz)
    go_region_held3 (fun w' => (∀ b o, b < W.heap.size → w'.cell? ⟨b, o, none⟩ = if b = w.heap.size ∧ 0 ≤ o ∧ o < 0 then (W.cell? ⟨b, o, none⟩).map (obx w' b o) else W.cell? ⟨b, o, none⟩) ∧ (∀ b o, b < W.heap.size → w'.frozen? ⟨b, o, none⟩ = W.frozen? ⟨b, o, none⟩) ∧ W.heap.size ≤ w'.heap.size ∧ Ext w w') (first | (with_reducible exact held0 hWe) | (with_reducible exact held1 (by with_reducible assumption) (by with_reducible assumption)) | (with_reducible exact held3 (by with_reducible assumption)) | ((with_reducible refine held4 (by with_reducible assumption) ?_ ?_) <;> omega) | (repeat (first | (with_reducible assumption) | (with_reducible refine held2 ?_ (by first | (refine Or.inl ⟨?_, ?_, ?_⟩ <;> (first | rfl | (dsimp only; omega))) | (refine Or.inr ?_; (try dsimp only); (try simp only [World.size_alloc, World.size_setCell]); omega)) (by (try dsimp only); (try simp only [World.size_alloc, World.size_setCell]); omega))))) (fail)
    rename_i hOld
    have hE := hOld.2.2.2
    have hO := And.intro hOld.1 (And.intro hOld.2.1 hOld.2.2.1)
    clear hOld
    obtain ⟨hOc, hOf, hOz⟩ := heldEnd hO
    clear hO
    go_wp2_with fail
    refine wp_name fun W hW => ?_
    obtain ⟨hWc, hWf, hWz⟩ := hW.cells
    have hlw : w.heap.size < wc.heap.size ∧ w.heap.size + 1 < wc.heap.size ∧ w.heap.size + 1 + 1 < wc.heap.size := (by omega)
    have hWe : Ext w W := Ext.same hW (by repeat (first | with_reducible exact Ext.refl _ | with_reducible assumption | with_reducible refine Ext.alloc ?_ _ | with_reducible refine Ext.setCell ?_ (by (try simp only [World.size_alloc, World.size_setCell]); omega) _ | with_reducible refine Ext.drewN ?_ _ | with_reducible refine Ext.drew ?_ | with_reducible refine Ext.trans ?_ (by with_reducible assumption)))
    (try simp only [World.size_alloc, World.size_setCell] at hWz)
    go_region_held3 (fun w' => (∀ b o, b < W.heap.size → w'.cell? ⟨b, o, none⟩ = if b = w.heap.size + 1 + 1 ∧ 0 ≤ o ∧ o < 2 then (W.cell? ⟨b, o, none⟩).map (obx w' b o) else W.cell? ⟨b, o, none⟩) ∧ (∀ b o, b < W.heap.size → w'.frozen? ⟨b, o, none⟩ = W.frozen? ⟨b, o, none⟩) ∧ W.heap.size ≤ w'.heap.size ∧ Ext w w') (first | (with_reducible exact held0 hWe) | (with_reducible exact held1 (by with_reducible assumption) (by with_reducible assumption)) | (with_reducible exact held3 (by with_reducible assumption)) | ((with_reducible refine held4 (by with_reducible assumption) ?_ ?_) <;> omega) | (repeat (first | (with_reducible assumption) | (with_reducible refine held2 ?_ (by first | (refine Or.inl ⟨?_, ?_, ?_⟩ <;> (first | rfl | (dsimp only; omega))) | (refine Or.inr ?_; (try dsimp only); (try simp only [World.size_alloc, World.size_setCell]); omega)) (by (try dsimp only); (try simp only [World.size_alloc, World.size_setCell]); omega))))) ((first | (go_at_call 77; (with_reducible refine (down_any _ _ _ (abs_mul_bound hA hM).1 (abs_mul_bound hA hM).2 (by omega) (by omega)).mono ?_); rintro e w2 ⟨rfl, hb2⟩; have hz2 := hb2.size; (try rw [size_drew] at hz2)) | (go_at_call 79; (with_reducible refine (up_any _ _ _ (abs_mul_bound hB hM).1 (abs_mul_bound hB hM).2 (by omega) (by omega)).mono ?_); rintro e w2 ⟨rfl, hb2⟩; have hz2 := hb2.size; (try rw [size_drew] at hz2)) | (go_at_call 61; (with_reducible refine (span_made _ _ _).mono ?_); rintro e w2 ⟨rfl, hb2⟩; have hz2 := hb2.size; (try rw [size_drew] at hz2))))
    all_goals
      rename_i hOld
      have hE := hOld.2.2.2
      have hO := And.intro hOld.1 (And.intro hOld.2.1 hOld.2.2.1)
      clear hOld
      replace hO := heldBack hO (by first | (refine Or.inl ⟨?_, ?_, ?_⟩ <;> (first | rfl | (dsimp only; omega))) | (refine Or.inr ?_; (try dsimp only); (try simp only [World.size_alloc, World.size_setCell]); omega))
      replace hO := heldBack hO (by first | (refine Or.inl ⟨?_, ?_, ?_⟩ <;> (first | rfl | (dsimp only; omega))) | (refine Or.inr ?_; (try dsimp only); (try simp only [World.size_alloc, World.size_setCell]); omega))
      obtain ⟨hOc, hOf, hOz⟩ := heldEnd hO
      clear hO
      go_wp2_with fail
      refine bodyPost_ret (v := .tuple #[.agg #[.int .i64 (divP a b c d).lo, .int .i64 (divP a b c d).hi], .int .i64 (divP a b c d).e]) ?_ rfl ⟨rfl, ?_⟩
      · (try simp only [bne_iff_ne, ne_eq, bne_eq_false_iff_eq, beq_iff_eq, beq_eq_false_iff_ne] at *)
        simp [results, Try.results81, go_sem, ↓IntWalk.iteOmega, eV, *]
      · repeat (first | with_reducible exact Ext.refl _ | with_reducible assumption | with_reducible refine Ext.alloc ?_ _ | with_reducible refine Ext.setCell ?_ (by (try simp only [World.size_alloc, World.size_setCell]); omega) _ | with_reducible refine Ext.drewN ?_ _ | with_reducible refine Ext.drew ?_ | with_reducible refine Ext.trans ?_ (by with_reducible assumption))

set_option maxRecDepth 100000 in
set_option maxHeartbeats 4000000 in
theorem sdiv_n (a b c d : Int) (w : World) (hk : ck2 a b c d = 0) (h0 : d < 0) :
    Calls Try.prog 81 #[.agg #[.int .i64 a, .int .i64 b], .agg #[.int .i64 c, .int .i64 d]] w fun e w' => e = .returned (.tuple #[.agg #[.int .i64 (divP (-b) (-a) (-d) (-c)).lo, .int .i64 (divP (-b) (-a) (-d) (-c)).hi], .int .i64 (divP (-b) (-a) (-d) (-c)).e]) ∧ Ext w w' := by
  obtain ⟨hk1, hk2⟩ := ck2_ok hk
  obtain ⟨ka1, ka2, ka3⟩ := ckI_ok hk1
  obtain ⟨kc1, kc2, kc3⟩ := ckI_ok hk2
  have hM : I64 1099511627776 := by unfold I64; omega
  have hA : I64 (-b) := by unfold I64; omega
  have hB : I64 (-a) := by unfold I64; omega
  have n1 : IntKind.i64.wrap (-b) = -b := by rw [IntKind.wrap_i64]; omega
  have n2 : IntKind.i64.wrap (-a) = -a := by rw [IntKind.wrap_i64]; omega
  have n3 : IntKind.i64.wrap (-d) = -d := by rw [IntKind.wrap_i64]; omega
  have n4 : IntKind.i64.wrap (-c) = -c := by rw [IntKind.wrap_i64]; omega
  have ec : IntKind.u64.wrap (-d) = -d := by rw [IntKind.wrap_u64]; omega
  have ed : IntKind.u64.wrap (-c) = -c := by rw [IntKind.wrap_u64]; omega
  have eV := divP_prog (a := -b) (b := -a) (c := -d) (d := -c) (by omega) (by omega)
  go_enter Try.func81, Try.ntmps81
  go_upto_region 9 with (first | (go_at_call 60; (with_reducible refine (check_2 _ _ _ _ _ _ (by first | rfl | simp)).mono ?_); rintro e w1 ⟨rfl, hb⟩; obtain ⟨_, _, hc, hf⟩ := hb.cells2; have hz := hb.size; (try simp only [World.size_alloc, World.size_setCell] at hz hc hf)))
  refine wp_name fun V hV => ?_
  obtain ⟨hVc, hVf, hVz⟩ := hV.cells
  have hVe : Ext w V := Ext.same hV (by repeat (first | with_reducible exact Ext.refl _ | with_reducible assumption | with_reducible refine Ext.alloc ?_ _ | with_reducible refine Ext.setCell ?_ (by (try simp only [World.size_alloc, World.size_setCell]); omega) _ | with_reducible refine Ext.drewN ?_ _ | with_reducible refine Ext.drew ?_ | with_reducible refine Ext.trans ?_ (by with_reducible assumption)))
  (try simp only [World.size_alloc, World.size_setCell] at hVz)
  replace hVz := And.intro (Nat.le_of_eq hVz) (Nat.le_of_eq hVz.symm)
  have hlv : w.heap.size < V.heap.size ∧ w.heap.size + 1 < V.heap.size ∧ w.heap.size + 1 + 1 < V.heap.size := (by refine ⟨?_, ?_, ?_⟩ <;> omega)
  have hd : ¬ w.heap.size = w.heap.size + 1 ∧ ¬ w.heap.size = w.heap.size + 1 + 1 ∧ ¬ w.heap.size + 1 = w.heap.size ∧ ¬ w.heap.size + 1 = w.heap.size + 1 + 1 ∧ ¬ w.heap.size + 1 + 1 = w.heap.size ∧ ¬ w.heap.size + 1 + 1 = w.heap.size + 1 := (by refine ⟨?_, ?_, ?_, ?_, ?_, ?_⟩ <;> omega)
  have hnv : ¬ w.heap.size = V.heap.size ∧ ¬ w.heap.size + 1 = V.heap.size ∧ ¬ w.heap.size + 1 + 1 = V.heap.size := (by omega)
  go_cut [7, 8] (fun sx0 sx1 wx => ∃ g h : Nat, sx0 = .pointer (some ⟨g, 0, none⟩) ∧ sx1 = .pointer (some ⟨h, 0, none⟩) ∧ Ext V wx ∧ V.heap.size ≤ g ∧ g < wx.heap.size ∧ (∀ o, wx.frozen? ⟨g, o, none⟩ = false) ∧ V.heap.size ≤ h ∧ h < wx.heap.size ∧ (∀ o, wx.frozen? ⟨h, o, none⟩ = false) ∧ g ≠ h ∧ wx.cell? ⟨g, 0, none⟩ = some (.int .i64 ((-b * 1099511627776) / 18446744073709551616)) ∧ wx.cell? ⟨g, 1, none⟩ = some (.int .u64 ((-b * 1099511627776) % 18446744073709551616)) ∧ wx.cell? ⟨h, 0, none⟩ = some (.int .i64 ((-a * 1099511627776) / 18446744073709551616)) ∧ wx.cell? ⟨h, 1, none⟩ = some (.int .u64 ((-a * 1099511627776) % 18446744073709551616)))
  case first =>
    have hWe : Ext V V := Ext.refl V
    go_region_held3 (fun w' => (∀ b o, b < V.heap.size → w'.cell? ⟨b, o, none⟩ = if b = V.heap.size ∧ 0 ≤ o ∧ o < 0 then (V.cell? ⟨b, o, none⟩).map (obx w' b o) else V.cell? ⟨b, o, none⟩) ∧ (∀ b o, b < V.heap.size → w'.frozen? ⟨b, o, none⟩ = V.frozen? ⟨b, o, none⟩) ∧ V.heap.size ≤ w'.heap.size ∧ Ext V w') (first | ((with_reducible refine held5 (by with_reducible assumption) ?_ ?_) <;> ((try simp only [size_drew]); omega)) | ((with_reducible refine held4 (by with_reducible assumption) ?_ ?_) <;> ((try simp only [World.size_alloc, World.size_setCell, size_drew]); omega)) | (with_reducible exact held3d (by with_reducible assumption)) | (with_reducible exact held0 hWe) | (with_reducible exact held1 (by with_reducible assumption) (by with_reducible assumption)) | (with_reducible exact held3 (by with_reducible assumption)) | ((with_reducible refine held4 (by with_reducible assumption) ?_ ?_) <;> omega) | ((with_reducible refine held3 ?_); (repeat (with_reducible refine held2 ?_ (by first | (refine Or.inl ⟨?_, ?_, ?_⟩ <;> (first | rfl | (dsimp only; omega))) | (refine Or.inr ?_; (try dsimp only); (try simp only [World.size_alloc, World.size_setCell]); omega)) (by (try dsimp only); (try simp only [World.size_alloc, World.size_setCell]); omega))); ((with_reducible refine heldDrop (by with_reducible assumption) ?_ ?_) <;> ((try simp only [size_drew]); omega))) | (repeat (first | (with_reducible assumption) | (with_reducible refine held2 ?_ (by first | (refine Or.inl ⟨?_, ?_, ?_⟩ <;> (first | rfl | (dsimp only; omega))) | (refine Or.inr ?_; (try dsimp only); (try simp only [World.size_alloc, World.size_setCell]); omega)) (by (try dsimp only); (try simp only [World.size_alloc, World.size_setCell]); omega))))) ((first | (go_at_call 75; (with_reducible refine (times_any (-b) 1099511627776 _ hA hM).mono ?_); rintro e w2 ⟨rfl, hb0⟩; obtain ⟨hq0, hr0⟩ := hb0.cells; have hz0 := hb0.size; (try simp only [size_drew, World.size_alloc, World.size_setCell] at hz0 hq0 hr0); (try have hly0 : V.heap.size < w2.heap.size := by omega); (try have hly1 : V.heap.size + 1 < w2.heap.size := by omega)) | (go_at_call 75; (with_reducible refine (times_any (-a) 1099511627776 _ hB hM).mono ?_); rintro e w3 ⟨rfl, hb1⟩; obtain ⟨hq1, hr1⟩ := hb1.cells; have hz1 := hb1.size; (try simp only [size_drew, World.size_alloc, World.size_setCell] at hz1 hq1 hr1); (try have hly0 : V.heap.size < w3.heap.size := by omega); (try have hly1 : V.heap.size + 1 < w3.heap.size := by omega); (try have hly2 : w2.heap.size < w3.heap.size := by omega); (try have hly3 : w2.heap.size + 1 < w3.heap.size := by omega))))
    all_goals
      rename_i hOld
      clear hOld
      go_wp2_with fail
      go_meet
      refine ⟨_, _, rfl, rfl, ?_, ?_, ?_, ?_, ?_, ?_, ?_, ?_, ?_, ?_, ?_, ?_⟩
      · (repeat (first | with_reducible exact Ext.refl _ | with_reducible exact Ext.same hV (Ext.refl _) | with_reducible assumption | with_reducible refine Ext.alloc ?_ _ | (with_reducible refine Ext.setCell ?_ ?_ _; rotate_left; (focus ((try simp only [World.size_alloc, World.size_setCell]); omega))) | with_reducible refine Ext.drew ?_ | with_reducible refine Ext.trans ?_ (by with_reducible assumption)))
      all_goals first | ((try simp only [World.size_alloc, World.size_setCell]); omega) | (intro o; simp [go_sem, ↓IntWalk.iteOmega, *]; done) | (simp [go_sem, ↓IntWalk.iteOmega, *]; done)
  case rest =>
    obtain ⟨g, h, rfl, rfl, hx, hg01, hg02, hgf0, hg11, hg12, hgf1, hgh, hv00, hv01, hv10, hv11⟩ := hcut
    obtain ⟨_, _, hcc, hcf⟩ := hx.cells2
    have hcz := hx.size
    replace hVe := hVe.trans hx
    have hlv2 : w.heap.size < wc.heap.size ∧ w.heap.size + 1 < wc.heap.size ∧ w.heap.size + 1 + 1 < wc.heap.size := (by omega)
    have hlg : w.heap.size < g ∧ ¬ w.heap.size = g ∧ ¬ g = w.heap.size ∧ w.heap.size < h ∧ ¬ w.heap.size = h ∧ ¬ h = w.heap.size ∧ w.heap.size + 1 < g ∧ ¬ w.heap.size + 1 = g ∧ ¬ g = w.heap.size + 1 ∧ w.heap.size + 1 < h ∧ ¬ w.heap.size + 1 = h ∧ ¬ h = w.heap.size + 1 ∧ w.heap.size + 1 + 1 < g ∧ ¬ w.heap.size + 1 + 1 = g ∧ ¬ g = w.heap.size + 1 + 1 ∧ w.heap.size + 1 + 1 < h ∧ ¬ w.heap.size + 1 + 1 = h ∧ ¬ h = w.heap.size + 1 + 1 := (by omega)
    clear hx
    go_wp2_with fail
    refine wp_name fun W hW => ?_
    obtain ⟨hWc, hWf, hWz⟩ := hW.cells
    have hlw : w.heap.size < wc.heap.size ∧ w.heap.size + 1 < wc.heap.size ∧ w.heap.size + 1 + 1 < wc.heap.size ∧ g < wc.heap.size ∧ h < wc.heap.size := (by omega)
    have hWe : Ext w W := Ext.same hW (by repeat (first | with_reducible exact Ext.refl _ | with_reducible assumption | with_reducible refine Ext.alloc ?_ _ | with_reducible refine Ext.setCell ?_ (by (try simp only [World.size_alloc, World.size_setCell]); omega) _ | with_reducible refine Ext.drewN ?_ _ | with_reducible refine Ext.drew ?_ | with_reducible refine Ext.trans ?_ (by with_reducible assumption)))
    (try simp only [World.size_alloc, World.size_setCell] at hWz)
    go_region_held3 (fun w' => (∀ b o, b < W.heap.size → w'.cell? ⟨b, o, none⟩ = if b = w.heap.size ∧ 0 ≤ o ∧ o < 0 then (W.cell? ⟨b, o, none⟩).map (obx w' b o) else W.cell? ⟨b, o, none⟩) ∧ (∀ b o, b < W.heap.size → w'.frozen? ⟨b, o, none⟩ = W.frozen? ⟨b, o, none⟩) ∧ W.heap.size ≤ w'.heap.size ∧ Ext w w') (first | (with_reducible exact held0 hWe) | (with_reducible exact held1 (by with_reducible assumption) (by with_reducible assumption)) | (with_reducible exact held3 (by with_reducible assumption)) | ((with_reducible refine held4 (by with_reducible assumption) ?_ ?_) <;> omega) | (repeat (first | (with_reducible assumption) | (with_reducible refine held2 ?_ (by first | (refine Or.inl ⟨?_, ?_, ?_⟩ <;> (first | rfl | (dsimp only; omega))) | (refine Or.inr ?_; (try dsimp only); (try simp only [World.size_alloc, World.size_setCell]); omega)) (by (try dsimp only); (try simp only [World.size_alloc, World.size_setCell]); omega))))) (fail)
    rename_i hOld
    have hE := hOld.2.2.2
    have hO := And.intro hOld.1 (And.intro hOld.2.1 hOld.2.2.1)
    clear hOld
    obtain ⟨hOc, hOf, hOz⟩ := heldEnd hO
    clear hO
    go_wp2_with fail
    refine wp_name fun W hW => ?_
    obtain ⟨hWc, hWf, hWz⟩ := hW.cells
    have hlw : w.heap.size < wc.heap.size ∧ w.heap.size + 1 < wc.heap.size ∧ w.heap.size + 1 + 1 < wc.heap.size := (by omega)
    have hWe : Ext w W := Ext.same hW (by repeat (first | with_reducible exact Ext.refl _ | with_reducible assumption | with_reducible refine Ext.alloc ?_ _ | with_reducible refine Ext.setCell ?_ (by (try simp only [World.size_alloc, World.size_setCell]); omega) _ | with_reducible refine Ext.drewN ?_ _ | with_reducible refine Ext.drew ?_ | with_reducible refine Ext.trans ?_ (by with_reducible assumption)))
    (try simp only [World.size_alloc, World.size_setCell] at hWz)
    go_region_held3 (fun w' => (∀ b o, b < W.heap.size → w'.cell? ⟨b, o, none⟩ = if b = w.heap.size + 1 + 1 ∧ 0 ≤ o ∧ o < 2 then (W.cell? ⟨b, o, none⟩).map (obx w' b o) else W.cell? ⟨b, o, none⟩) ∧ (∀ b o, b < W.heap.size → w'.frozen? ⟨b, o, none⟩ = W.frozen? ⟨b, o, none⟩) ∧ W.heap.size ≤ w'.heap.size ∧ Ext w w') (first | (with_reducible exact held0 hWe) | (with_reducible exact held1 (by with_reducible assumption) (by with_reducible assumption)) | (with_reducible exact held3 (by with_reducible assumption)) | ((with_reducible refine held4 (by with_reducible assumption) ?_ ?_) <;> omega) | (repeat (first | (with_reducible assumption) | (with_reducible refine held2 ?_ (by first | (refine Or.inl ⟨?_, ?_, ?_⟩ <;> (first | rfl | (dsimp only; omega))) | (refine Or.inr ?_; (try dsimp only); (try simp only [World.size_alloc, World.size_setCell]); omega)) (by (try dsimp only); (try simp only [World.size_alloc, World.size_setCell]); omega))))) ((first | (go_at_call 77; (with_reducible refine (down_any _ _ _ (abs_mul_bound hA hM).1 (abs_mul_bound hA hM).2 (by omega) (by omega)).mono ?_); rintro e w2 ⟨rfl, hb2⟩; have hz2 := hb2.size; (try rw [size_drew] at hz2)) | (go_at_call 79; (with_reducible refine (up_any _ _ _ (abs_mul_bound hB hM).1 (abs_mul_bound hB hM).2 (by omega) (by omega)).mono ?_); rintro e w2 ⟨rfl, hb2⟩; have hz2 := hb2.size; (try rw [size_drew] at hz2)) | (go_at_call 61; (with_reducible refine (span_made _ _ _).mono ?_); rintro e w2 ⟨rfl, hb2⟩; have hz2 := hb2.size; (try rw [size_drew] at hz2))))
    all_goals
      rename_i hOld
      have hE := hOld.2.2.2
      have hO := And.intro hOld.1 (And.intro hOld.2.1 hOld.2.2.1)
      clear hOld
      replace hO := heldBack hO (by first | (refine Or.inl ⟨?_, ?_, ?_⟩ <;> (first | rfl | (dsimp only; omega))) | (refine Or.inr ?_; (try dsimp only); (try simp only [World.size_alloc, World.size_setCell]); omega))
      replace hO := heldBack hO (by first | (refine Or.inl ⟨?_, ?_, ?_⟩ <;> (first | rfl | (dsimp only; omega))) | (refine Or.inr ?_; (try dsimp only); (try simp only [World.size_alloc, World.size_setCell]); omega))
      obtain ⟨hOc, hOf, hOz⟩ := heldEnd hO
      clear hO
      go_wp2_with fail
      refine bodyPost_ret (v := .tuple #[.agg #[.int .i64 (divP (-b) (-a) (-d) (-c)).lo, .int .i64 (divP (-b) (-a) (-d) (-c)).hi], .int .i64 (divP (-b) (-a) (-d) (-c)).e]) ?_ rfl ⟨rfl, ?_⟩
      · (try simp only [bne_iff_ne, ne_eq, bne_eq_false_iff_eq, beq_iff_eq, beq_eq_false_iff_ne] at *)
        simp [results, Try.results81, go_sem, ↓IntWalk.iteOmega, eV, *]
      · repeat (first | with_reducible exact Ext.refl _ | with_reducible assumption | with_reducible refine Ext.alloc ?_ _ | with_reducible refine Ext.setCell ?_ (by (try simp only [World.size_alloc, World.size_setCell]); omega) _ | with_reducible refine Ext.drewN ?_ _ | with_reducible refine Ext.drew ?_ | with_reducible refine Ext.trans ?_ (by with_reducible assumption))

set_option maxRecDepth 100000 in
set_option maxHeartbeats 1000000 in
theorem sdiv_e (a b c d : Int) (w : World) (hk : ¬ ck2 a b c d = 0) :
    Calls Try.prog 81 #[.agg #[.int .i64 a, .int .i64 b], .agg #[.int .i64 c, .int .i64 d]] w fun e w' => e = .returned (.tuple #[.agg #[.int .i64 (R3.mk 0 0 (ck2 a b c d)).lo, .int .i64 (R3.mk 0 0 (ck2 a b c d)).hi], .int .i64 (R3.mk 0 0 (ck2 a b c d)).e]) ∧ Ext w w' := by
  go_enter Try.func81, Try.ntmps81
  go_wp2_with (first | (go_at_call 60; (with_reducible refine (check_2 _ _ _ _ _ _ (by first | rfl | simp)).mono ?_); rintro e w1 ⟨rfl, hb⟩; obtain ⟨_, _, hc, hf⟩ := hb.cells2; have hz := hb.size; (try simp only [World.size_alloc, World.size_setCell] at hz hc hf)))
  all_goals
    refine bodyPost_ret (v := .tuple #[.agg #[.int .i64 (R3.mk 0 0 (ck2 a b c d)).lo, .int .i64 (R3.mk 0 0 (ck2 a b c d)).hi], .int .i64 (R3.mk 0 0 (ck2 a b c d)).e]) ?_ rfl ⟨rfl, ?_⟩
    · (try simp only [bne_iff_ne, ne_eq, bne_eq_false_iff_eq, beq_iff_eq, beq_eq_false_iff_ne] at *)
      simp [results, Try.results81, go_sem, ↓IntWalk.iteOmega, ne_eq, *]
    · repeat (first | with_reducible exact Ext.refl _ | with_reducible assumption | with_reducible refine Ext.alloc ?_ _ | with_reducible refine Ext.setCell ?_ (by (try simp only [World.size_alloc, World.size_setCell]); omega) _ | with_reducible refine Ext.drewN ?_ _ | with_reducible refine Ext.drew ?_ | with_reducible refine Ext.trans ?_ (by with_reducible assumption))

set_option maxRecDepth 100000 in
set_option maxHeartbeats 1000000 in
theorem sdiv_z (a b c d : Int) (w : World) (hk : ck2 a b c d = 0) (h0 : c ≤ 0) (h1 : 0 ≤ d) :
    Calls Try.prog 81 #[.agg #[.int .i64 a, .int .i64 b], .agg #[.int .i64 c, .int .i64 d]] w fun e w' => e = .returned (.tuple #[.agg #[.int .i64 (R3.mk 0 0 18).lo, .int .i64 (R3.mk 0 0 18).hi], .int .i64 (R3.mk 0 0 18).e]) ∧ Ext w w' := by
  go_enter Try.func81, Try.ntmps81
  go_wp2_with (first | (go_at_call 60; (with_reducible refine (check_2 _ _ _ _ _ _ (by first | rfl | simp)).mono ?_); rintro e w1 ⟨rfl, hb⟩; obtain ⟨_, _, hc, hf⟩ := hb.cells2; have hz := hb.size; (try simp only [World.size_alloc, World.size_setCell] at hz hc hf)))
  all_goals
    refine bodyPost_ret (v := .tuple #[.agg #[.int .i64 (R3.mk 0 0 18).lo, .int .i64 (R3.mk 0 0 18).hi], .int .i64 (R3.mk 0 0 18).e]) ?_ rfl ⟨rfl, ?_⟩
    · (try simp only [bne_iff_ne, ne_eq, bne_eq_false_iff_eq, beq_iff_eq, beq_eq_false_iff_ne] at *)
      simp [results, Try.results81, go_sem, ↓IntWalk.iteOmega, ne_eq, *]
    · repeat (first | with_reducible exact Ext.refl _ | with_reducible assumption | with_reducible refine Ext.alloc ?_ _ | with_reducible refine Ext.setCell ?_ (by (try simp only [World.size_alloc, World.size_setCell]); omega) _ | with_reducible refine Ext.drewN ?_ _ | with_reducible refine Ext.drew ?_ | with_reducible refine Ext.trans ?_ (by with_reducible assumption))

theorem span_div (a b c d : Int) (w : World) :
    Calls Try.prog 81 #[.agg #[.int .i64 a, .int .i64 b], .agg #[.int .i64 c, .int .i64 d]] w fun e w' => e = .returned (.tuple #[.agg #[.int .i64 (divI a b c d).lo, .int .i64 (divI a b c d).hi], .int .i64 (divI a b c d).e]) ∧ Ext w w' := by
  by_cases hk : ck2 a b c d = 0
  · by_cases h0 : c ≤ 0 ∧ 0 ≤ d
    · have e : divI a b c d = ⟨0, 0, 18⟩ := by unfold divI; rw [if_neg (by simpa using hk), if_pos h0]
      rw [e]; exact sdiv_z a b c d w hk h0.1 h0.2
    · have hc := (ckI_ok (ck2_ok hk).2).1
      by_cases h1 : d < 0
      · have e : divI a b c d = divP (-b) (-a) (-d) (-c) := by unfold divI; rw [if_neg (by simpa using hk), if_neg h0, if_pos h1]
        rw [e]; exact sdiv_n a b c d w hk h1
      · have e : divI a b c d = divP a b c d := by unfold divI; rw [if_neg (by simpa using hk), if_neg h0, if_neg h1]
        rw [e]; exact sdiv_p a b c d w hk (by omega)
  · have e : divI a b c d = ⟨0, 0, ck2 a b c d⟩ := by unfold divI; rw [if_pos (by simpa using hk)]
    rw [e]; exact sdiv_e a b c d w hk

end Go.Proofs.Ytomgcjeahkmhiaa
