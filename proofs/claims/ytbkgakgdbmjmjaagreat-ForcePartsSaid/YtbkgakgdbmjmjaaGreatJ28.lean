/- force: the tide. -/
import Derived.Test.YtbkgakgdbmjmjaaGreatJ21
set_option linter.unusedSimpArgs false
set_option linter.unusedVariables false
set_option maxRecDepth 100000
set_option maxHeartbeats 8000000
namespace Go.Proofs.YtbkgakgdbmjmjaaGreat
open Go.RowKit
theorem T_For5_1 {p : Prop} (h : p := by
 refine ⟨?_, ?_, ?_, ?_, ?_, ?_, ?_, ?_⟩ <;> ((try simp only [World.size_alloc, World.size_setCell, size_drew]); omega)) : p := h
theorem f_tide (p : Nat) (E x y : Int) (d : V3) (w : World) (hc : w.cell? ⟨p, 0, none⟩ = some (.bool (nz (E)))) (hf : w.frozen? ⟨p, 0, none⟩ = false) (hx : I64 x ∧ I64 y) (kd : d.I) :
    Calls Tryz.prog 56 #[.pointer (some ⟨p, 0, none⟩), .agg #[.int .i64 x, .int .i64 y], .agg #[.int .i64 d.a, .int .i64 d.b, .int .i64 d.c, .int .i64 d.d, .int .i64 d.e, .int .i64 d.f]] w fun e w' => e = .returned (.agg #[.int .i64 (pg0 (tnI (sz2 (doI E (nrmV d))) x y) (tmI (doI E (nrmV d)) (tnI (sz2 (doI E (nrmV d))) x y)) d).lo, .int .i64 (pg0 (tnI (sz2 (doI E (nrmV d))) x y) (tmI (doI E (nrmV d)) (tnI (sz2 (doI E (nrmV d))) x y)) d).hi, .int .i64 (pz1 (tnI (sz2 (doI E (nrmV d))) x y) (tmI (doI E (nrmV d)) (tnI (sz2 (doI E (nrmV d))) x y)) d).lo, .int .i64 (pz1 (tnI (sz2 (doI E (nrmV d))) x y) (tmI (doI E (nrmV d)) (tnI (sz2 (doI E (nrmV d))) x y)) d).hi, .int .i64 (pz2 (tnI (sz2 (doI E (nrmV d))) x y) (tmI (doI E (nrmV d)) (tnI (sz2 (doI E (nrmV d))) x y)) d).lo, .int .i64 (pz2 (tnI (sz2 (doI E (nrmV d))) x y) (tmI (doI E (nrmV d)) (tnI (sz2 (doI E (nrmV d))) x y)) d).hi, .int .i64 (pz1 (tnI (sz2 (doI E (nrmV d))) x y) (tmI (doI E (nrmV d)) (tnI (sz2 (doI E (nrmV d))) x y)) d).lo, .int .i64 (pz1 (tnI (sz2 (doI E (nrmV d))) x y) (tmI (doI E (nrmV d)) (tnI (sz2 (doI E (nrmV d))) x y)) d).hi, .int .i64 (pg1 (tnI (sz2 (doI E (nrmV d))) x y) (tmI (doI E (nrmV d)) (tnI (sz2 (doI E (nrmV d))) x y)) d).lo, .int .i64 (pg1 (tnI (sz2 (doI E (nrmV d))) x y) (tmI (doI E (nrmV d)) (tnI (sz2 (doI E (nrmV d))) x y)) d).hi, .int .i64 (pz3 (tnI (sz2 (doI E (nrmV d))) x y) (tmI (doI E (nrmV d)) (tnI (sz2 (doI E (nrmV d))) x y)) d).lo, .int .i64 (pz3 (tnI (sz2 (doI E (nrmV d))) x y) (tmI (doI E (nrmV d)) (tnI (sz2 (doI E (nrmV d))) x y)) d).hi, .int .i64 (pz2 (tnI (sz2 (doI E (nrmV d))) x y) (tmI (doI E (nrmV d)) (tnI (sz2 (doI E (nrmV d))) x y)) d).lo, .int .i64 (pz2 (tnI (sz2 (doI E (nrmV d))) x y) (tmI (doI E (nrmV d)) (tnI (sz2 (doI E (nrmV d))) x y)) d).hi, .int .i64 (pz3 (tnI (sz2 (doI E (nrmV d))) x y) (tmI (doI E (nrmV d)) (tnI (sz2 (doI E (nrmV d))) x y)) d).lo, .int .i64 (pz3 (tnI (sz2 (doI E (nrmV d))) x y) (tmI (doI E (nrmV d)) (tnI (sz2 (doI E (nrmV d))) x y)) d).hi, .int .i64 (pg2 (tnI (sz2 (doI E (nrmV d))) x y) (tmI (doI E (nrmV d)) (tnI (sz2 (doI E (nrmV d))) x y)) d).lo, .int .i64 (pg2 (tnI (sz2 (doI E (nrmV d))) x y) (tmI (doI E (nrmV d)) (tnI (sz2 (doI E (nrmV d))) x y)) d).hi]) ∧ Ext (w.setCell ⟨p, 0, none⟩ (.bool (nz ((pz3 (tnI (sz2 (doI E (nrmV d))) x y) (tmI (doI E (nrmV d)) (tnI (sz2 (doI E (nrmV d))) x y)) d).e)))) w' := by
 have hp : p < w.heap.size := World.block_lt_of_cell? w _ hc
 obtain ⟨hd0, hd1, hd2⟩ := id kd
 have i3 : I64 3 := by unfold I64; omega
 have i1 : I64 1 := by unfold I64; omega
 have l0 : IntKind.i64.wrap 0 = 0 := rfl
 have l1 : IntKind.i64.wrap 1 = 1 := rfl
 have l2 : IntKind.i64.wrap 2 = 2 := rfl
 have l3 : IntKind.i64.wrap 3 = 3 := rfl
 go_enter Tryz.func56, Tryz.ntmps56
 go_upto_region 3 with (first | (go_at_call 88; (with_reducible refine (f_size p E d _ c_23 c_23 kd).mono ?_); (generalize hq : doI E (nrmV d) = q at *); (generalize hcu : sz2 q = c at *); rintro e w1 ⟨rfl, hb⟩; obtain ⟨_, _, ⟨hc, hf⟩, hz⟩ := hb.c3; (try simp only [wsz] at hz hc hf); (try have zz := q_7 w.heap.size w1.heap.size); (try have zz := q_7 (w.heap.size + 1) w1.heap.size); (try have zz := q_7 (w.heap.size + 1 + 1) w1.heap.size); (try have zz := q_7 p w1.heap.size)) | (go_at_call 91; (with_reducible refine (f_div p c.e x y c.lo c.hi _ c_23 c_23).mono ?_); (generalize hr0 : doI c.e (divI x y c.lo c.hi) = r0); rintro e wn ⟨rfl, hb⟩; obtain ⟨_, _, ⟨hc, hf⟩, hz⟩ := hb.c3; (try simp only [wsz] at hz hc hf); (try have zz := q_7 w.heap.size wn.heap.size); (try have zz := q_7 (w.heap.size + 1) wn.heap.size); (try have zz := q_7 (w.heap.size + 1 + 1) wn.heap.size); (try have zz := q_7 p wn.heap.size); (try have zz := q_7 w1.heap.size wn.heap.size); (try have zz := q_7 (w1.heap.size + 1) wn.heap.size)))
 refine wp_name fun V hV => ?_
 obtain ⟨hVc, hVf, hVz⟩ := hV.cells
 have hVe : ExtP w p 0 V := ExtP.same hV c_3
 (try simp only [wsd] at hVz)
 replace hVz := And.intro (Nat.le_of_eq hVz) (Nat.le_of_eq hVz.symm)
 have hlv := q_2 w.heap.size V.heap.size (w.heap.size + 1) (w.heap.size + 1 + 1) p w1.heap.size (w1.heap.size + 1) wn.heap.size
 have hd := q_15 w.heap.size (w.heap.size + 1) (w.heap.size + 1 + 1) p w1.heap.size (w1.heap.size + 1) wn.heap.size
 have hnv : ¬ w.heap.size = V.heap.size ∧ ¬ w.heap.size + 1 = V.heap.size ∧ ¬ w.heap.size + 1 + 1 = V.heap.size ∧ ¬ p = V.heap.size ∧ ¬ w1.heap.size = V.heap.size ∧ ¬ w1.heap.size + 1 = V.heap.size ∧ ¬ wn.heap.size = V.heap.size := (by omega)
 go_cut [10] (fun sx wx => ∃ (g : Nat) (r1 r2 : R3), sx = .pointer (some ⟨g, 0, none⟩) ∧ (doI r0.e (scI r0.lo r0.hi 3 1) = r1 ∧ doI r1.e (divI r1.lo r1.hi q.lo q.hi) = r2) ∧ ExtP V p 0 wx ∧ V.heap.size ≤ g ∧ g < wx.heap.size ∧ (∀ o, wx.frozen? ⟨g, o, none⟩ = false) ∧ wx.cell? ⟨p, 0, none⟩ = some (.bool (nz (r2.e))) ∧ wx.frozen? ⟨p, 0, none⟩ = false ∧ wx.cell? ⟨g, 0, none⟩ = some (.int .i64 r2.lo) ∧ wx.cell? ⟨g, 1, none⟩ = some (.int .i64 r2.hi))
 case first =>
  have hWe : ExtP V p 0 V := ExtP.of _ _ (Ext.refl V)
  go_region_held3 (fun w' => (∀ b o, b < V.heap.size → w'.cell? ⟨b, o, none⟩ = if b = p ∧ 0 ≤ o ∧ o < 0 ∨ b = p ∧ o = 0 then (V.cell? ⟨b, o, none⟩).map (obx w' b o) else V.cell? ⟨b, o, none⟩) ∧ (∀ b o, b < V.heap.size → w'.frozen? ⟨b, o, none⟩ = V.frozen? ⟨b, o, none⟩) ∧ V.heap.size ≤ w'.heap.size ∧ ExtP V p 0 w') (exact k_4) ((first | (go_at_call 106; (with_reducible refine (span_sc r0.lo r0.hi 3 1 _ i3 (by decide) i1 (by decide)).mono ?_); rintro e w82 ⟨rfl, hb80⟩; have hz80 := hb80.size; (try simp only [wsd] at hz80); have hg80 := (hb80.cells.1 p 0 c_63).trans (show _ = some (.bool (nz (r0.e))) from c_0); have hh80 := (hb80.cells.2 p 0 c_63).trans (show _ = false from c_0); obtain ⟨hq80, hv80⟩ := hb80.cells; (try simp only [wsd] at hz80 hq80 hv80); (try have hlx80 := q_8 w.heap.size w82.heap.size (w.heap.size + 1) (w.heap.size + 1 + 1) p w1.heap.size (w1.heap.size + 1) wn.heap.size); (try have hly0 : V.heap.size < w82.heap.size := by omega)) | (go_at_call 89; (with_reducible refine (f_keepr p r0.e (scI r0.lo r0.hi 3 1) _ c_0 c_0 (scI_Z _ _ _ _)).mono ?_); (generalize hr1 : doI r0.e (scI r0.lo r0.hi 3 1) = r1); rintro e w3 ⟨rfl, hb1⟩; have hz1 := hb1.size; obtain ⟨hg1, hh1⟩ := hb1.got (u := .bool (nz (r0.e))) c_0; have hob1 := obx_of hg1; (try simp only [frozen_drew] at hh1); obtain ⟨hq1, hv1⟩ := hb1.cells; (try simp only [wsd] at hz1 hq1 hv1); (try have hlx1 := q_8 w.heap.size w3.heap.size (w.heap.size + 1) (w.heap.size + 1 + 1) p w1.heap.size (w1.heap.size + 1) wn.heap.size); (try have hly0 : V.heap.size < w3.heap.size := by omega); (try have hly1 : w82.heap.size < w3.heap.size := by omega)) | (go_at_call 91; (with_reducible refine (f_div p r1.e r1.lo r1.hi q.lo q.hi _ c_0 c_0).mono ?_); (generalize hr2 : doI r1.e (divI r1.lo r1.hi q.lo q.hi) = r2); rintro e w4 ⟨rfl, hb2⟩; have hz2 := hb2.size; obtain ⟨hg2, hh2⟩ := hb2.got (u := .bool (nz (r1.e))) c_0; have hob2 := obx_of hg2; (try simp only [frozen_drew] at hh2); obtain ⟨hq2, hv2⟩ := hb2.cells; (try simp only [wsd] at hz2 hq2 hv2); (try have hlx2 := q_8 w.heap.size w4.heap.size (w.heap.size + 1) (w.heap.size + 1 + 1) p w1.heap.size (w1.heap.size + 1) wn.heap.size); (try have hly0 : V.heap.size < w4.heap.size := by omega); (try have hly1 : w82.heap.size < w4.heap.size := by omega); (try have hly2 : w3.heap.size < w4.heap.size := by omega))))
  all_goals
   rename_i hOld
   clear hOld
   go_wp2_with fail
   go_meet
   refine ⟨_, _, _, rfl, ⟨hr1, hr2⟩, ?_, ?_, ?_, ?_, ?_, ?_, ?_, ?_⟩
   ·exact b_18
   ·(try simp only [wsz]); omega
   ·(try simp only [wsz]); omega
   ·exact b_19
   ·exact b_20
   ·exact b_20
   all_goals simp [go_sem, ↓IntWalk.iteOmega, *]
 obtain ⟨g, r1, r2, rfl, ⟨hr1, hr2⟩, hx, hg1, hg2, hgf, hpc, hpf, hv0, hv1⟩ := hcut
 obtain ⟨hcc, hcf, hcz⟩ := ExtP.cells2 hx hpc
 replace hVe := hVe.trans hx
 have hlv2 : w.heap.size < wc.heap.size ∧ w.heap.size + 1 < wc.heap.size ∧ w.heap.size + 1 + 1 < wc.heap.size ∧ p < wc.heap.size ∧ w1.heap.size < wc.heap.size ∧ w1.heap.size + 1 < wc.heap.size ∧ wn.heap.size < wc.heap.size := (by omega)
 have hlg : w.heap.size < g ∧ ¬ w.heap.size = g ∧ ¬ g = w.heap.size ∧ w.heap.size + 1 < g ∧ ¬ w.heap.size + 1 = g ∧ ¬ g = w.heap.size + 1 ∧ w.heap.size + 1 + 1 < g ∧ ¬ w.heap.size + 1 + 1 = g ∧ ¬ g = w.heap.size + 1 + 1 ∧ p < g ∧ ¬ p = g ∧ ¬ g = p ∧ w1.heap.size < g ∧ ¬ w1.heap.size = g ∧ ¬ g = w1.heap.size ∧ w1.heap.size + 1 < g ∧ ¬ w1.heap.size + 1 = g ∧ ¬ g = w1.heap.size + 1 ∧ wn.heap.size < g ∧ ¬ wn.heap.size = g ∧ ¬ g = wn.heap.size := (by omega)
 clear hx
 have hW0 : r0.W := hr0 ▸ doI_W (divI_W _ _ _ _)
 have hW2 : r2.W := hr2 ▸ doI_W (divI_W _ _ _ _)
 go_wp2_with fail
 refine wp_loop_rounds 4 ?_
 rw [rounds_succ]
 go_upto_region 7 with fail
 go_cut [] from 36 to 53 (fun wx => ∃ (r3 r4 r5 : R3), doI (r2.e) (sqI d.a d.b) = r3 ∧ doI r3.e (mulI r2.lo r2.hi r3.lo r3.hi) = r4 ∧ doI r4.e (subI r4.lo r4.hi r0.lo r0.hi) = r5 ∧ ExtP w p 0 wx ∧ (w.heap.size < wx.heap.size ∧ w.heap.size + 1 < wx.heap.size ∧ w.heap.size + 1 + 1 < wx.heap.size ∧ p < wx.heap.size ∧ w1.heap.size < wx.heap.size ∧ w1.heap.size + 1 < wx.heap.size ∧ wn.heap.size < wx.heap.size ∧ g < wx.heap.size) ∧ (∀ o, wx.frozen? ⟨w.heap.size + 1 + 1, o, none⟩ = false) ∧ wx.frozen? ⟨p, 0, none⟩ = false ∧ wx.cell? ⟨p, 0, none⟩ = some (.bool (nz (r5.e))) ∧ wx.cell? ⟨w.heap.size + 1, 0, none⟩ = some (.int .i64 d.a) ∧ wx.cell? ⟨w.heap.size + 1, 1, none⟩ = some (.int .i64 d.b) ∧ wx.cell? ⟨w.heap.size + 1, 2, none⟩ = some (.int .i64 d.c) ∧ wx.cell? ⟨w.heap.size + 1, 3, none⟩ = some (.int .i64 d.d) ∧ wx.cell? ⟨w.heap.size + 1, 4, none⟩ = some (.int .i64 d.e) ∧ wx.cell? ⟨w.heap.size + 1, 5, none⟩ = some (.int .i64 d.f) ∧ wx.cell? ⟨wn.heap.size, 0, none⟩ = some (.int .i64 r0.lo) ∧ wx.cell? ⟨wn.heap.size, 1, none⟩ = some (.int .i64 r0.hi) ∧ wx.cell? ⟨g, 0, none⟩ = some (.int .i64 r2.lo) ∧ wx.cell? ⟨g, 1, none⟩ = some (.int .i64 r2.hi) ∧ wx.cell? ⟨w.heap.size + 1 + 1, 0, none⟩ = some (.int .i64 r5.lo) ∧ wx.cell? ⟨w.heap.size + 1 + 1, 1, none⟩ = some (.int .i64 r5.hi) ∧ wx.cell? ⟨w.heap.size + 1 + 1, 2, none⟩ = some (.int .i64 0) ∧ wx.cell? ⟨w.heap.size + 1 + 1, 3, none⟩ = some (.int .i64 0) ∧ wx.cell? ⟨w.heap.size + 1 + 1, 4, none⟩ = some (.int .i64 0) ∧ wx.cell? ⟨w.heap.size + 1 + 1, 5, none⟩ = some (.int .i64 0) ∧ wx.cell? ⟨w.heap.size + 1 + 1, 6, none⟩ = some (.int .i64 0) ∧ wx.cell? ⟨w.heap.size + 1 + 1, 7, none⟩ = some (.int .i64 0) ∧ wx.cell? ⟨w.heap.size + 1 + 1, 8, none⟩ = some (.int .i64 0) ∧ wx.cell? ⟨w.heap.size + 1 + 1, 9, none⟩ = some (.int .i64 0) ∧ wx.cell? ⟨w.heap.size + 1 + 1, 10, none⟩ = some (.int .i64 0) ∧ wx.cell? ⟨w.heap.size + 1 + 1, 11, none⟩ = some (.int .i64 0) ∧ wx.cell? ⟨w.heap.size + 1 + 1, 12, none⟩ = some (.int .i64 0) ∧ wx.cell? ⟨w.heap.size + 1 + 1, 13, none⟩ = some (.int .i64 0) ∧ wx.cell? ⟨w.heap.size + 1 + 1, 14, none⟩ = some (.int .i64 0) ∧ wx.cell? ⟨w.heap.size + 1 + 1, 15, none⟩ = some (.int .i64 0) ∧ wx.cell? ⟨w.heap.size + 1 + 1, 16, none⟩ = some (.int .i64 0) ∧ wx.cell? ⟨w.heap.size + 1 + 1, 17, none⟩ = some (.int .i64 0))
 case first =>
  refine wp_name fun W hW => ?_
  obtain ⟨hWc, hWf, hWz⟩ := hW.cells
  have hWe : ExtP w p 0 W := ExtP.same hW c_3
  (try simp only [wsd] at hWz)
  replace hWz := And.intro (Nat.le_of_eq hWz) (Nat.le_of_eq hWz.symm)
  have hlt := q_4 w.heap.size W.heap.size (w.heap.size + 1) (w.heap.size + 1 + 1) p w1.heap.size (w1.heap.size + 1) wn.heap.size g
  have hd := q_14 w.heap.size (w.heap.size + 1) (w.heap.size + 1 + 1) p w1.heap.size (w1.heap.size + 1) wn.heap.size g
  go_region_held3 (fun w' => (∀ b o, b < W.heap.size → w'.cell? ⟨b, o, none⟩ = if b = w.heap.size + 1 + 1 ∧ 0 ≤ o ∧ o < 2 ∨ b = p ∧ o = 0 then (W.cell? ⟨b, o, none⟩).map (obx w' b o) else W.cell? ⟨b, o, none⟩) ∧ (∀ b o, b < W.heap.size → w'.frozen? ⟨b, o, none⟩ = W.frozen? ⟨b, o, none⟩) ∧ W.heap.size ≤ w'.heap.size ∧ ExtP w p 0 w') (exact k_6) ((first | (go_at_call 107; (with_reducible refine (span_sq d.a d.b _ hd0.1 hd0.2).mono ?_); rintro e w82 ⟨rfl, hb80⟩; have hz80 := hb80.size; (try simp only [wsd] at hz80); have hg80 := (hb80.cells.1 p 0 c_63).trans (show _ = some (.bool (nz (r2.e))) from c_0); have hh80 := (hb80.cells.2 p 0 c_63).trans (show _ = false from c_0)) | (go_at_call 89; (with_reducible refine (f_keepr p (r2.e) (sqI d.a d.b) _ c_0 c_0 (sqI_Z _ _)).mono ?_); (generalize hr3 : doI (r2.e) (sqI d.a d.b) = r3); rintro e w5 ⟨rfl, hb3⟩; have hz3 := hb3.size; (try simp only [size_drew, World.size_setCell] at hz3); obtain ⟨hg3, hh3⟩ := hb3.got (u := .bool (nz (r2.e))) c_0; have hob3 := obx_of hg3; (try simp only [frozen_drew] at hh3)) | (go_at_call 92; (with_reducible refine (f_mul p r3.e r2.lo r2.hi r3.lo r3.hi _ c_0 c_0 (W2 hW2) (W2 (hr3 ▸ doI_W (sqI_W _ _)))).mono ?_); (generalize hr4 : doI r3.e (mulI r2.lo r2.hi r3.lo r3.hi) = r4); rintro e w6 ⟨rfl, hb4⟩; have hz4 := hb4.size; (try simp only [size_drew, World.size_setCell] at hz4); obtain ⟨hg4, hh4⟩ := hb4.got (u := .bool (nz (r3.e))) c_0; have hob4 := obx_of hg4; (try simp only [frozen_drew] at hh4)) | (go_at_call 49; (with_reducible refine (f_sub p r4.e r4.lo r4.hi r0.lo r0.hi _ c_0 c_0).mono ?_); (generalize hr5 : doI r4.e (subI r4.lo r4.hi r0.lo r0.hi) = r5); rintro e w7 ⟨rfl, hb5⟩; have hz5 := hb5.size; (try simp only [size_drew, World.size_setCell] at hz5); obtain ⟨hg5, hh5⟩ := hb5.got (u := .bool (nz (r4.e))) c_0; have hob5 := obx_of hg5; (try simp only [frozen_drew] at hh5))))
  rename_i hOld
  have hKP := Lib.hid hOld.1
  have hE := hOld.2.2.2
  have hO := And.intro hOld.1 (And.intro hOld.2.1 hOld.2.2.1)
  clear hOld
  replace hO := hewBack hO c_9
  replace hO := hewBack hO c_9
  obtain ⟨hOc, hOf, hOz⟩ := hewEnd hO
  clear hO
  have hlu := q_4 w.heap.size w7.heap.size (w.heap.size + 1) (w.heap.size + 1 + 1) p w1.heap.size (w1.heap.size + 1) wn.heap.size g
  go_wp2_with fail
  go_meet
  refine ⟨_, _, _, hr3, hr4, hr5, ?_, ?_, ?_, ?_, ?_, ?_, ?_, ?_, ?_, ?_, ?_, ?_, ?_, ?_, ?_, ?_, ?_, ?_, ?_, ?_, ?_, ?_, ?_, ?_, ?_, ?_, ?_, ?_, ?_, ?_, ?_, ?_, ?_⟩
  ·exact b_21
  ·exact T_For5_1
  ·exact b_19
  all_goals (simp [go_sem, ↓IntWalk.iteOmega, *]; done)
 obtain ⟨r3, r4, r5, hr3, hr4, hr5, xek1_, xsk1_, xfk1_0, xgk1_, xpk1_, xck1_0, xck1_1, xck1_2, xck1_3, xck1_4, xck1_5, xck1_6, xck1_7, xck1_8, xck1_9, xck1_10, xck1_11, xck1_12, xck1_13, xck1_14, xck1_15, xck1_16, xck1_17, xck1_18, xck1_19, xck1_20, xck1_21, xck1_22, xck1_23, xck1_24, xck1_25, xck1_26, xck1_27⟩ := hcut
 go_wp2_with fail
 refine wp_loop_rounds 1 ?_
 rw [rounds_succ]
 go_wp2_with fail
 rw [rounds_succ]
 go_upto_region 7 with fail
 go_cut [] from 36 to 53 (fun wx => ∃ (r6 r7 r8 : R3), doI (r5.e) (sqI d.c d.d) = r6 ∧ doI r6.e (mulI r2.lo r2.hi r6.lo r6.hi) = r7 ∧ doI r7.e (subI r7.lo r7.hi r0.lo r0.hi) = r8 ∧ ExtP w p 0 wx ∧ (w.heap.size < wx.heap.size ∧ w.heap.size + 1 < wx.heap.size ∧ w.heap.size + 1 + 1 < wx.heap.size ∧ p < wx.heap.size ∧ w1.heap.size < wx.heap.size ∧ w1.heap.size + 1 < wx.heap.size ∧ wn.heap.size < wx.heap.size ∧ g < wx.heap.size) ∧ (∀ o, wx.frozen? ⟨w.heap.size + 1 + 1, o, none⟩ = false) ∧ wx.frozen? ⟨p, 0, none⟩ = false ∧ wx.cell? ⟨p, 0, none⟩ = some (.bool (nz (r8.e))) ∧ wx.cell? ⟨w.heap.size + 1, 0, none⟩ = some (.int .i64 d.a) ∧ wx.cell? ⟨w.heap.size + 1, 1, none⟩ = some (.int .i64 d.b) ∧ wx.cell? ⟨w.heap.size + 1, 2, none⟩ = some (.int .i64 d.c) ∧ wx.cell? ⟨w.heap.size + 1, 3, none⟩ = some (.int .i64 d.d) ∧ wx.cell? ⟨w.heap.size + 1, 4, none⟩ = some (.int .i64 d.e) ∧ wx.cell? ⟨w.heap.size + 1, 5, none⟩ = some (.int .i64 d.f) ∧ wx.cell? ⟨wn.heap.size, 0, none⟩ = some (.int .i64 r0.lo) ∧ wx.cell? ⟨wn.heap.size, 1, none⟩ = some (.int .i64 r0.hi) ∧ wx.cell? ⟨g, 0, none⟩ = some (.int .i64 r2.lo) ∧ wx.cell? ⟨g, 1, none⟩ = some (.int .i64 r2.hi) ∧ wx.cell? ⟨w.heap.size + 1 + 1, 0, none⟩ = some (.int .i64 r5.lo) ∧ wx.cell? ⟨w.heap.size + 1 + 1, 1, none⟩ = some (.int .i64 r5.hi) ∧ wx.cell? ⟨w.heap.size + 1 + 1, 2, none⟩ = some (.int .i64 0) ∧ wx.cell? ⟨w.heap.size + 1 + 1, 3, none⟩ = some (.int .i64 0) ∧ wx.cell? ⟨w.heap.size + 1 + 1, 4, none⟩ = some (.int .i64 0) ∧ wx.cell? ⟨w.heap.size + 1 + 1, 5, none⟩ = some (.int .i64 0) ∧ wx.cell? ⟨w.heap.size + 1 + 1, 6, none⟩ = some (.int .i64 0) ∧ wx.cell? ⟨w.heap.size + 1 + 1, 7, none⟩ = some (.int .i64 0) ∧ wx.cell? ⟨w.heap.size + 1 + 1, 8, none⟩ = some (.int .i64 r8.lo) ∧ wx.cell? ⟨w.heap.size + 1 + 1, 9, none⟩ = some (.int .i64 r8.hi) ∧ wx.cell? ⟨w.heap.size + 1 + 1, 10, none⟩ = some (.int .i64 0) ∧ wx.cell? ⟨w.heap.size + 1 + 1, 11, none⟩ = some (.int .i64 0) ∧ wx.cell? ⟨w.heap.size + 1 + 1, 12, none⟩ = some (.int .i64 0) ∧ wx.cell? ⟨w.heap.size + 1 + 1, 13, none⟩ = some (.int .i64 0) ∧ wx.cell? ⟨w.heap.size + 1 + 1, 14, none⟩ = some (.int .i64 0) ∧ wx.cell? ⟨w.heap.size + 1 + 1, 15, none⟩ = some (.int .i64 0) ∧ wx.cell? ⟨w.heap.size + 1 + 1, 16, none⟩ = some (.int .i64 0) ∧ wx.cell? ⟨w.heap.size + 1 + 1, 17, none⟩ = some (.int .i64 0))
 case first =>
  refine wp_name fun W hW => ?_
  obtain ⟨hWc, hWf, hWz⟩ := hW.cells
  have hWe : ExtP w p 0 W := ExtP.same hW c_3
  (try simp only [wsd] at hWz)
  replace hWz := And.intro (Nat.le_of_eq hWz) (Nat.le_of_eq hWz.symm)
  have hlt := q_4 w.heap.size W.heap.size (w.heap.size + 1) (w.heap.size + 1 + 1) p w1.heap.size (w1.heap.size + 1) wn.heap.size g
  have hd := q_14 w.heap.size (w.heap.size + 1) (w.heap.size + 1 + 1) p w1.heap.size (w1.heap.size + 1) wn.heap.size g
  go_region_held3 (fun w' => (∀ b o, b < W.heap.size → w'.cell? ⟨b, o, none⟩ = if b = w.heap.size + 1 + 1 ∧ 8 ≤ o ∧ o < 10 ∨ b = p ∧ o = 0 then (W.cell? ⟨b, o, none⟩).map (obx w' b o) else W.cell? ⟨b, o, none⟩) ∧ (∀ b o, b < W.heap.size → w'.frozen? ⟨b, o, none⟩ = W.frozen? ⟨b, o, none⟩) ∧ W.heap.size ≤ w'.heap.size ∧ ExtP w p 0 w') (exact k_6) ((first | (go_at_call 107; (with_reducible refine (span_sq d.c d.d _ hd1.1 hd1.2).mono ?_); rintro e w83 ⟨rfl, hb81⟩; have hz81 := hb81.size; (try simp only [wsd] at hz81); have hg81 := (hb81.cells.1 p 0 c_63).trans (show _ = some (.bool (nz (r5.e))) from c_0); have hh81 := (hb81.cells.2 p 0 c_63).trans (show _ = false from c_0)) | (go_at_call 89; (with_reducible refine (f_keepr p (r5.e) (sqI d.c d.d) _ c_0 c_0 (sqI_Z _ _)).mono ?_); (generalize hr6 : doI (r5.e) (sqI d.c d.d) = r6); rintro e w8 ⟨rfl, hb6⟩; have hz6 := hb6.size; (try simp only [size_drew, World.size_setCell] at hz6); obtain ⟨hg6, hh6⟩ := hb6.got (u := .bool (nz (r5.e))) c_0; have hob6 := obx_of hg6; (try simp only [frozen_drew] at hh6)) | (go_at_call 92; (with_reducible refine (f_mul p r6.e r2.lo r2.hi r6.lo r6.hi _ c_0 c_0 (W2 hW2) (W2 (hr6 ▸ doI_W (sqI_W _ _)))).mono ?_); (generalize hr7 : doI r6.e (mulI r2.lo r2.hi r6.lo r6.hi) = r7); rintro e w9 ⟨rfl, hb7⟩; have hz7 := hb7.size; (try simp only [size_drew, World.size_setCell] at hz7); obtain ⟨hg7, hh7⟩ := hb7.got (u := .bool (nz (r6.e))) c_0; have hob7 := obx_of hg7; (try simp only [frozen_drew] at hh7)) | (go_at_call 49; (with_reducible refine (f_sub p r7.e r7.lo r7.hi r0.lo r0.hi _ c_0 c_0).mono ?_); (generalize hr8 : doI r7.e (subI r7.lo r7.hi r0.lo r0.hi) = r8); rintro e w10 ⟨rfl, hb8⟩; have hz8 := hb8.size; (try simp only [size_drew, World.size_setCell] at hz8); obtain ⟨hg8, hh8⟩ := hb8.got (u := .bool (nz (r7.e))) c_0; have hob8 := obx_of hg8; (try simp only [frozen_drew] at hh8))))
  rename_i hOld
  have hKP := Lib.hid hOld.1
  have hE := hOld.2.2.2
  have hO := And.intro hOld.1 (And.intro hOld.2.1 hOld.2.2.1)
  clear hOld
  replace hO := hewBack hO c_9
  replace hO := hewBack hO c_9
  obtain ⟨hOc, hOf, hOz⟩ := hewEnd hO
  clear hO
  have hlu := q_4 w.heap.size w10.heap.size (w.heap.size + 1) (w.heap.size + 1 + 1) p w1.heap.size (w1.heap.size + 1) wn.heap.size g
  go_wp2_with fail
  go_meet
  refine ⟨_, _, _, hr6, hr7, hr8, ?_, ?_, ?_, ?_, ?_, ?_, ?_, ?_, ?_, ?_, ?_, ?_, ?_, ?_, ?_, ?_, ?_, ?_, ?_, ?_, ?_, ?_, ?_, ?_, ?_, ?_, ?_, ?_, ?_, ?_, ?_, ?_, ?_⟩
  ·exact b_21
  ·exact T_For5_1
  ·exact b_19
  all_goals (simp [go_sem, ↓IntWalk.iteOmega, *]; done)
 obtain ⟨r6, r7, r8, hr6, hr7, hr8, xek2_, xsk2_, xfk2_0, xgk2_, xpk2_, xck2_0, xck2_1, xck2_2, xck2_3, xck2_4, xck2_5, xck2_6, xck2_7, xck2_8, xck2_9, xck2_10, xck2_11, xck2_12, xck2_13, xck2_14, xck2_15, xck2_16, xck2_17, xck2_18, xck2_19, xck2_20, xck2_21, xck2_22, xck2_23, xck2_24, xck2_25, xck2_26, xck2_27⟩ := hcut
 clear xek1_ xsk1_ xfk1_0 xgk1_ xpk1_ xck1_0 xck1_1 xck1_2 xck1_3 xck1_4 xck1_5 xck1_6 xck1_7 xck1_8 xck1_9 xck1_10 xck1_11 xck1_12 xck1_13 xck1_14 xck1_15 xck1_16 xck1_17 xck1_18 xck1_19 xck1_20 xck1_21 xck1_22 xck1_23 xck1_24 xck1_25 xck1_26 xck1_27
 go_wp2_with fail
 refine wp_loop_rounds 2 ?_
 refine rounds_step (fun K hK => ?_)
 go_cut [55] from 56 to 79 (fun sx0 wx => ∃ (r9 r10 : R3), sx0 = .int .i64 1 ∧ doI (r8.e) (mulI d.c d.d d.a d.b) = r9 ∧ doI r9.e (mulI r2.lo r2.hi r9.lo r9.hi) = r10 ∧ ExtP w p 0 wx ∧ (w.heap.size < wx.heap.size ∧ w.heap.size + 1 < wx.heap.size ∧ w.heap.size + 1 + 1 < wx.heap.size ∧ p < wx.heap.size ∧ w1.heap.size < wx.heap.size ∧ w1.heap.size + 1 < wx.heap.size ∧ wn.heap.size < wx.heap.size ∧ g < wx.heap.size) ∧ (∀ o, wx.frozen? ⟨w.heap.size + 1 + 1, o, none⟩ = false) ∧ wx.frozen? ⟨p, 0, none⟩ = false ∧ wx.cell? ⟨p, 0, none⟩ = some (.bool (nz (r10.e))) ∧ wx.cell? ⟨w.heap.size + 1, 0, none⟩ = some (.int .i64 d.a) ∧ wx.cell? ⟨w.heap.size + 1, 1, none⟩ = some (.int .i64 d.b) ∧ wx.cell? ⟨w.heap.size + 1, 2, none⟩ = some (.int .i64 d.c) ∧ wx.cell? ⟨w.heap.size + 1, 3, none⟩ = some (.int .i64 d.d) ∧ wx.cell? ⟨w.heap.size + 1, 4, none⟩ = some (.int .i64 d.e) ∧ wx.cell? ⟨w.heap.size + 1, 5, none⟩ = some (.int .i64 d.f) ∧ wx.cell? ⟨wn.heap.size, 0, none⟩ = some (.int .i64 r0.lo) ∧ wx.cell? ⟨wn.heap.size, 1, none⟩ = some (.int .i64 r0.hi) ∧ wx.cell? ⟨g, 0, none⟩ = some (.int .i64 r2.lo) ∧ wx.cell? ⟨g, 1, none⟩ = some (.int .i64 r2.hi) ∧ wx.cell? ⟨w.heap.size + 1 + 1, 0, none⟩ = some (.int .i64 r5.lo) ∧ wx.cell? ⟨w.heap.size + 1 + 1, 1, none⟩ = some (.int .i64 r5.hi) ∧ wx.cell? ⟨w.heap.size + 1 + 1, 2, none⟩ = some (.int .i64 r10.lo) ∧ wx.cell? ⟨w.heap.size + 1 + 1, 3, none⟩ = some (.int .i64 r10.hi) ∧ wx.cell? ⟨w.heap.size + 1 + 1, 4, none⟩ = some (.int .i64 0) ∧ wx.cell? ⟨w.heap.size + 1 + 1, 5, none⟩ = some (.int .i64 0) ∧ wx.cell? ⟨w.heap.size + 1 + 1, 6, none⟩ = some (.int .i64 r10.lo) ∧ wx.cell? ⟨w.heap.size + 1 + 1, 7, none⟩ = some (.int .i64 r10.hi) ∧ wx.cell? ⟨w.heap.size + 1 + 1, 8, none⟩ = some (.int .i64 r8.lo) ∧ wx.cell? ⟨w.heap.size + 1 + 1, 9, none⟩ = some (.int .i64 r8.hi) ∧ wx.cell? ⟨w.heap.size + 1 + 1, 10, none⟩ = some (.int .i64 0) ∧ wx.cell? ⟨w.heap.size + 1 + 1, 11, none⟩ = some (.int .i64 0) ∧ wx.cell? ⟨w.heap.size + 1 + 1, 12, none⟩ = some (.int .i64 0) ∧ wx.cell? ⟨w.heap.size + 1 + 1, 13, none⟩ = some (.int .i64 0) ∧ wx.cell? ⟨w.heap.size + 1 + 1, 14, none⟩ = some (.int .i64 0) ∧ wx.cell? ⟨w.heap.size + 1 + 1, 15, none⟩ = some (.int .i64 0) ∧ wx.cell? ⟨w.heap.size + 1 + 1, 16, none⟩ = some (.int .i64 0) ∧ wx.cell? ⟨w.heap.size + 1 + 1, 17, none⟩ = some (.int .i64 0))
 case first =>
  go_upto_region 11 with fail
  refine wp_name fun V hV => ?_
  obtain ⟨hVc, hVf, hVz⟩ := hV.cells
  have hVe : ExtP w p 0 V := ExtP.same hV c_3
  (try simp only [wsd] at hVz)
  replace hVz := And.intro (Nat.le_of_eq hVz) (Nat.le_of_eq hVz.symm)
  have hlv := q_4 w.heap.size V.heap.size (w.heap.size + 1) (w.heap.size + 1 + 1) p w1.heap.size (w1.heap.size + 1) wn.heap.size g
  have hd := q_14 w.heap.size (w.heap.size + 1) (w.heap.size + 1 + 1) p w1.heap.size (w1.heap.size + 1) wn.heap.size g
  have hnv := q_19 w.heap.size V.heap.size (w.heap.size + 1) (w.heap.size + 1 + 1) p w1.heap.size (w1.heap.size + 1) wn.heap.size g
  go_cut [13] (fun sx wx => ∃ (g : Nat) (r9 r10 : R3), sx = .pointer (some ⟨g, 0, none⟩) ∧ (doI (r8.e) (mulI d.c d.d d.a d.b) = r9 ∧ doI r9.e (mulI r2.lo r2.hi r9.lo r9.hi) = r10) ∧ ExtP V p 0 wx ∧ V.heap.size ≤ g ∧ g < wx.heap.size ∧ (∀ o, wx.frozen? ⟨g, o, none⟩ = false) ∧ wx.cell? ⟨p, 0, none⟩ = some (.bool (nz (r10.e))) ∧ wx.frozen? ⟨p, 0, none⟩ = false ∧ wx.cell? ⟨g, 0, none⟩ = some (.int .i64 r10.lo) ∧ wx.cell? ⟨g, 1, none⟩ = some (.int .i64 r10.hi))
  case first =>
   have hWe : ExtP V p 0 V := ExtP.of _ _ (Ext.refl V)
   go_region_held3 (fun w' => (∀ b o, b < V.heap.size → w'.cell? ⟨b, o, none⟩ = if b = p ∧ 0 ≤ o ∧ o < 0 ∨ b = p ∧ o = 0 then (V.cell? ⟨b, o, none⟩).map (obx w' b o) else V.cell? ⟨b, o, none⟩) ∧ (∀ b o, b < V.heap.size → w'.frozen? ⟨b, o, none⟩ = V.frozen? ⟨b, o, none⟩) ∧ V.heap.size ≤ w'.heap.size ∧ ExtP V p 0 w') (exact k_4) ((first | (go_at_call 92; (with_reducible refine (f_mul p (r8.e) d.c d.d d.a d.b _ c_0 c_0 hd1 hd0).mono ?_); (generalize hr9 : doI (r8.e) (mulI d.c d.d d.a d.b) = r9); rintro e w11 ⟨rfl, hb9⟩; have hz9 := hb9.size; obtain ⟨hg9, hh9⟩ := hb9.got (u := .bool (nz (r8.e))) c_0; have hob9 := obx_of hg9; (try simp only [frozen_drew] at hh9); obtain ⟨hq9, hv9⟩ := hb9.cells; (try simp only [wsd] at hz9 hq9 hv9); (try have hlx9 := q_9 w.heap.size w11.heap.size (w.heap.size + 1) (w.heap.size + 1 + 1) p w1.heap.size (w1.heap.size + 1) wn.heap.size g); (try have hly0 : V.heap.size < w11.heap.size := by omega)) | (go_at_call 92; (with_reducible refine (f_mul p r9.e r2.lo r2.hi r9.lo r9.hi _ c_0 c_0 (W2 hW2) (W2 (hr9 ▸ doI_W (mulI_W _ _ _ _)))).mono ?_); (generalize hr10 : doI r9.e (mulI r2.lo r2.hi r9.lo r9.hi) = r10); rintro e w12 ⟨rfl, hb10⟩; have hz10 := hb10.size; obtain ⟨hg10, hh10⟩ := hb10.got (u := .bool (nz (r9.e))) c_0; have hob10 := obx_of hg10; (try simp only [frozen_drew] at hh10); obtain ⟨hq10, hv10⟩ := hb10.cells; (try simp only [wsd] at hz10 hq10 hv10); (try have hlx10 := q_9 w.heap.size w12.heap.size (w.heap.size + 1) (w.heap.size + 1 + 1) p w1.heap.size (w1.heap.size + 1) wn.heap.size g); (try have hly0 : V.heap.size < w12.heap.size := by omega); (try have hly1 : w11.heap.size < w12.heap.size := by omega))))
   all_goals
    rename_i hOld
    clear hOld
    go_wp2_with fail
    go_meet
    refine ⟨_, _, _, rfl, ⟨hr9, hr10⟩, ?_, ?_, ?_, ?_, ?_, ?_, ?_, ?_⟩
    ·exact b_18
    ·(try simp only [wsz]); omega
    ·(try simp only [wsz]); omega
    ·exact b_19
    ·exact b_20
    ·exact b_20
    all_goals simp [go_sem, ↓IntWalk.iteOmega, *]
  obtain ⟨h1, r9, r10, rfl, ⟨hr9, hr10⟩, hx, hg1, hg2, hgf, hpc, hpf, hv0, hv1⟩ := hcut
  obtain ⟨hcc, hcf, hcz⟩ := ExtP.cells2 hx hpc
  replace hVe := hVe.trans hx
  have hlv2 := q_3 w.heap.size wc.heap.size (w.heap.size + 1) (w.heap.size + 1 + 1) p w1.heap.size (w1.heap.size + 1) wn.heap.size g
  have hlg := q_12 w.heap.size h1 (w.heap.size + 1) (w.heap.size + 1 + 1) p w1.heap.size (w1.heap.size + 1) wn.heap.size g
  clear hx
  go_wp2_with fail
  refine wp_name fun W hW => ?_
  obtain ⟨hWc, hWf, hWz⟩ := hW.cells
  have hWe : ExtP w p 0 W := ExtP.same hW c_3
  (try simp only [wsd] at hWz)
  replace hWz := And.intro (Nat.le_of_eq hWz) (Nat.le_of_eq hWz.symm)
  have hlt := q_5 w.heap.size W.heap.size (w.heap.size + 1) (w.heap.size + 1 + 1) p w1.heap.size (w1.heap.size + 1) wn.heap.size g h1
  have hd := q_13 w.heap.size (w.heap.size + 1) (w.heap.size + 1 + 1) p w1.heap.size (w1.heap.size + 1) wn.heap.size g h1
  go_region_held3 (fun w' => (∀ b o, b < W.heap.size → w'.cell? ⟨b, o, none⟩ = if b = w.heap.size + 1 + 1 ∧ 6 ≤ o ∧ o < 8 ∨ b = w.heap.size + 1 + 1 ∧ 2 ≤ o ∧ o < 4 then (W.cell? ⟨b, o, none⟩).map (obx w' b o) else W.cell? ⟨b, o, none⟩) ∧ (∀ b o, b < W.heap.size → w'.frozen? ⟨b, o, none⟩ = W.frozen? ⟨b, o, none⟩) ∧ W.heap.size ≤ w'.heap.size ∧ ExtP w p 0 w') (exact k_6) (fail)
  rename_i hOld
  have hKP := Lib.hid hOld.1
  have hE := hOld.2.2.2
  have hO := And.intro hOld.1 (And.intro hOld.2.1 hOld.2.2.1)
  clear hOld
  replace hO := hewBackd hO c_9
  replace hO := hewBackd hO c_9
  replace hO := hewBackd hO c_9
  replace hO := hewBackd hO c_9
  obtain ⟨hOc, hOf, hOz⟩ := hewEnd hO
  clear hO
  have hlu := q_5 w.heap.size W.heap.size (w.heap.size + 1) (w.heap.size + 1 + 1) p w1.heap.size (w1.heap.size + 1) wn.heap.size g h1
  go_wp2_with fail
  go_meet
  refine ⟨_, _, ?_, hr9, hr10, ?_, ?_, ?_, ?_, ?_, ?_, ?_, ?_, ?_, ?_, ?_, ?_, ?_, ?_, ?_, ?_, ?_, ?_, ?_, ?_, ?_, ?_, ?_, ?_, ?_, ?_, ?_, ?_, ?_, ?_, ?_, ?_, ?_⟩
  ·first | rfl | (simp; done) | (simp [*]; done)
  ·exact b_21
  ·exact T_For5_1
  ·exact b_19
  all_goals (simp [go_sem, ↓IntWalk.iteOmega, *]; done)
 obtain ⟨r9, r10, rfl, hr9, hr10, xek3_, xsk3_, xfk3_0, xgk3_, xpk3_, xck3_0, xck3_1, xck3_2, xck3_3, xck3_4, xck3_5, xck3_6, xck3_7, xck3_8, xck3_9, xck3_10, xck3_11, xck3_12, xck3_13, xck3_14, xck3_15, xck3_16, xck3_17, xck3_18, xck3_19, xck3_20, xck3_21, xck3_22, xck3_23, xck3_24, xck3_25, xck3_26, xck3_27⟩ := hcut
 clear xek2_ xsk2_ xfk2_0 xgk2_ xpk2_ xck2_0 xck2_1 xck2_2 xck2_3 xck2_4 xck2_5 xck2_6 xck2_7 xck2_8 xck2_9 xck2_10 xck2_11 xck2_12 xck2_13 xck2_14 xck2_15 xck2_16 xck2_17 xck2_18 xck2_19 xck2_20 xck2_21 xck2_22 xck2_23 xck2_24 xck2_25 xck2_26 xck2_27
 refine hK _ _ ?_
 rw [rounds_succ]
 go_wp2_with fail
 rw [rounds_succ]
 go_upto_region 7 with fail
 go_cut [] from 36 to 53 (fun wx => ∃ (r11 r12 r13 : R3), doI (r10.e) (sqI d.e d.f) = r11 ∧ doI r11.e (mulI r2.lo r2.hi r11.lo r11.hi) = r12 ∧ doI r12.e (subI r12.lo r12.hi r0.lo r0.hi) = r13 ∧ ExtP w p 0 wx ∧ (w.heap.size < wx.heap.size ∧ w.heap.size + 1 < wx.heap.size ∧ w.heap.size + 1 + 1 < wx.heap.size ∧ p < wx.heap.size ∧ w1.heap.size < wx.heap.size ∧ w1.heap.size + 1 < wx.heap.size ∧ wn.heap.size < wx.heap.size ∧ g < wx.heap.size) ∧ (∀ o, wx.frozen? ⟨w.heap.size + 1 + 1, o, none⟩ = false) ∧ wx.frozen? ⟨p, 0, none⟩ = false ∧ wx.cell? ⟨p, 0, none⟩ = some (.bool (nz (r13.e))) ∧ wx.cell? ⟨w.heap.size + 1, 0, none⟩ = some (.int .i64 d.a) ∧ wx.cell? ⟨w.heap.size + 1, 1, none⟩ = some (.int .i64 d.b) ∧ wx.cell? ⟨w.heap.size + 1, 2, none⟩ = some (.int .i64 d.c) ∧ wx.cell? ⟨w.heap.size + 1, 3, none⟩ = some (.int .i64 d.d) ∧ wx.cell? ⟨w.heap.size + 1, 4, none⟩ = some (.int .i64 d.e) ∧ wx.cell? ⟨w.heap.size + 1, 5, none⟩ = some (.int .i64 d.f) ∧ wx.cell? ⟨wn.heap.size, 0, none⟩ = some (.int .i64 r0.lo) ∧ wx.cell? ⟨wn.heap.size, 1, none⟩ = some (.int .i64 r0.hi) ∧ wx.cell? ⟨g, 0, none⟩ = some (.int .i64 r2.lo) ∧ wx.cell? ⟨g, 1, none⟩ = some (.int .i64 r2.hi) ∧ wx.cell? ⟨w.heap.size + 1 + 1, 0, none⟩ = some (.int .i64 r5.lo) ∧ wx.cell? ⟨w.heap.size + 1 + 1, 1, none⟩ = some (.int .i64 r5.hi) ∧ wx.cell? ⟨w.heap.size + 1 + 1, 2, none⟩ = some (.int .i64 r10.lo) ∧ wx.cell? ⟨w.heap.size + 1 + 1, 3, none⟩ = some (.int .i64 r10.hi) ∧ wx.cell? ⟨w.heap.size + 1 + 1, 4, none⟩ = some (.int .i64 0) ∧ wx.cell? ⟨w.heap.size + 1 + 1, 5, none⟩ = some (.int .i64 0) ∧ wx.cell? ⟨w.heap.size + 1 + 1, 6, none⟩ = some (.int .i64 r10.lo) ∧ wx.cell? ⟨w.heap.size + 1 + 1, 7, none⟩ = some (.int .i64 r10.hi) ∧ wx.cell? ⟨w.heap.size + 1 + 1, 8, none⟩ = some (.int .i64 r8.lo) ∧ wx.cell? ⟨w.heap.size + 1 + 1, 9, none⟩ = some (.int .i64 r8.hi) ∧ wx.cell? ⟨w.heap.size + 1 + 1, 10, none⟩ = some (.int .i64 0) ∧ wx.cell? ⟨w.heap.size + 1 + 1, 11, none⟩ = some (.int .i64 0) ∧ wx.cell? ⟨w.heap.size + 1 + 1, 12, none⟩ = some (.int .i64 0) ∧ wx.cell? ⟨w.heap.size + 1 + 1, 13, none⟩ = some (.int .i64 0) ∧ wx.cell? ⟨w.heap.size + 1 + 1, 14, none⟩ = some (.int .i64 0) ∧ wx.cell? ⟨w.heap.size + 1 + 1, 15, none⟩ = some (.int .i64 0) ∧ wx.cell? ⟨w.heap.size + 1 + 1, 16, none⟩ = some (.int .i64 r13.lo) ∧ wx.cell? ⟨w.heap.size + 1 + 1, 17, none⟩ = some (.int .i64 r13.hi))
 case first =>
  refine wp_name fun W hW => ?_
  obtain ⟨hWc, hWf, hWz⟩ := hW.cells
  have hWe : ExtP w p 0 W := ExtP.same hW c_3
  (try simp only [wsd] at hWz)
  replace hWz := And.intro (Nat.le_of_eq hWz) (Nat.le_of_eq hWz.symm)
  have hlt := q_4 w.heap.size W.heap.size (w.heap.size + 1) (w.heap.size + 1 + 1) p w1.heap.size (w1.heap.size + 1) wn.heap.size g
  have hd := q_14 w.heap.size (w.heap.size + 1) (w.heap.size + 1 + 1) p w1.heap.size (w1.heap.size + 1) wn.heap.size g
  go_region_held3 (fun w' => (∀ b o, b < W.heap.size → w'.cell? ⟨b, o, none⟩ = if b = w.heap.size + 1 + 1 ∧ 16 ≤ o ∧ o < 18 ∨ b = p ∧ o = 0 then (W.cell? ⟨b, o, none⟩).map (obx w' b o) else W.cell? ⟨b, o, none⟩) ∧ (∀ b o, b < W.heap.size → w'.frozen? ⟨b, o, none⟩ = W.frozen? ⟨b, o, none⟩) ∧ W.heap.size ≤ w'.heap.size ∧ ExtP w p 0 w') (exact k_6) ((first | (go_at_call 107; (with_reducible refine (span_sq d.e d.f _ hd2.1 hd2.2).mono ?_); rintro e w84 ⟨rfl, hb82⟩; have hz82 := hb82.size; (try simp only [wsd] at hz82); have hg82 := (hb82.cells.1 p 0 c_63).trans (show _ = some (.bool (nz (r10.e))) from c_0); have hh82 := (hb82.cells.2 p 0 c_63).trans (show _ = false from c_0)) | (go_at_call 89; (with_reducible refine (f_keepr p (r10.e) (sqI d.e d.f) _ c_0 c_0 (sqI_Z _ _)).mono ?_); (generalize hr11 : doI (r10.e) (sqI d.e d.f) = r11); rintro e w13 ⟨rfl, hb11⟩; have hz11 := hb11.size; (try simp only [size_drew, World.size_setCell] at hz11); obtain ⟨hg11, hh11⟩ := hb11.got (u := .bool (nz (r10.e))) c_0; have hob11 := obx_of hg11; (try simp only [frozen_drew] at hh11)) | (go_at_call 92; (with_reducible refine (f_mul p r11.e r2.lo r2.hi r11.lo r11.hi _ c_0 c_0 (W2 hW2) (W2 (hr11 ▸ doI_W (sqI_W _ _)))).mono ?_); (generalize hr12 : doI r11.e (mulI r2.lo r2.hi r11.lo r11.hi) = r12); rintro e w14 ⟨rfl, hb12⟩; have hz12 := hb12.size; (try simp only [size_drew, World.size_setCell] at hz12); obtain ⟨hg12, hh12⟩ := hb12.got (u := .bool (nz (r11.e))) c_0; have hob12 := obx_of hg12; (try simp only [frozen_drew] at hh12)) | (go_at_call 49; (with_reducible refine (f_sub p r12.e r12.lo r12.hi r0.lo r0.hi _ c_0 c_0).mono ?_); (generalize hr13 : doI r12.e (subI r12.lo r12.hi r0.lo r0.hi) = r13); rintro e w15 ⟨rfl, hb13⟩; have hz13 := hb13.size; (try simp only [size_drew, World.size_setCell] at hz13); obtain ⟨hg13, hh13⟩ := hb13.got (u := .bool (nz (r12.e))) c_0; have hob13 := obx_of hg13; (try simp only [frozen_drew] at hh13))))
  rename_i hOld
  have hKP := Lib.hid hOld.1
  have hE := hOld.2.2.2
  have hO := And.intro hOld.1 (And.intro hOld.2.1 hOld.2.2.1)
  clear hOld
  replace hO := hewBack hO c_9
  replace hO := hewBack hO c_9
  obtain ⟨hOc, hOf, hOz⟩ := hewEnd hO
  clear hO
  have hlu := q_4 w.heap.size w15.heap.size (w.heap.size + 1) (w.heap.size + 1 + 1) p w1.heap.size (w1.heap.size + 1) wn.heap.size g
  go_wp2_with fail
  go_meet
  refine ⟨_, _, _, hr11, hr12, hr13, ?_, ?_, ?_, ?_, ?_, ?_, ?_, ?_, ?_, ?_, ?_, ?_, ?_, ?_, ?_, ?_, ?_, ?_, ?_, ?_, ?_, ?_, ?_, ?_, ?_, ?_, ?_, ?_, ?_, ?_, ?_, ?_, ?_⟩
  ·exact b_21
  ·exact T_For5_1
  ·exact b_19
  all_goals (simp [go_sem, ↓IntWalk.iteOmega, *]; done)
 obtain ⟨r11, r12, r13, hr11, hr12, hr13, xek4_, xsk4_, xfk4_0, xgk4_, xpk4_, xck4_0, xck4_1, xck4_2, xck4_3, xck4_4, xck4_5, xck4_6, xck4_7, xck4_8, xck4_9, xck4_10, xck4_11, xck4_12, xck4_13, xck4_14, xck4_15, xck4_16, xck4_17, xck4_18, xck4_19, xck4_20, xck4_21, xck4_22, xck4_23, xck4_24, xck4_25, xck4_26, xck4_27⟩ := hcut
 clear xek3_ xsk3_ xfk3_0 xgk3_ xpk3_ xck3_0 xck3_1 xck3_2 xck3_3 xck3_4 xck3_5 xck3_6 xck3_7 xck3_8 xck3_9 xck3_10 xck3_11 xck3_12 xck3_13 xck3_14 xck3_15 xck3_16 xck3_17 xck3_18 xck3_19 xck3_20 xck3_21 xck3_22 xck3_23 xck3_24 xck3_25 xck3_26 xck3_27
 go_wp2_with fail
 refine wp_loop_rounds 3 ?_
 refine rounds_step (fun K hK => ?_)
 go_cut [55] from 56 to 79 (fun sx0 wx => ∃ (r14 r15 : R3), sx0 = .int .i64 1 ∧ doI (r13.e) (mulI d.e d.f d.a d.b) = r14 ∧ doI r14.e (mulI r2.lo r2.hi r14.lo r14.hi) = r15 ∧ ExtP w p 0 wx ∧ (w.heap.size < wx.heap.size ∧ w.heap.size + 1 < wx.heap.size ∧ w.heap.size + 1 + 1 < wx.heap.size ∧ p < wx.heap.size ∧ w1.heap.size < wx.heap.size ∧ w1.heap.size + 1 < wx.heap.size ∧ wn.heap.size < wx.heap.size ∧ g < wx.heap.size) ∧ (∀ o, wx.frozen? ⟨w.heap.size + 1 + 1, o, none⟩ = false) ∧ wx.frozen? ⟨p, 0, none⟩ = false ∧ wx.cell? ⟨p, 0, none⟩ = some (.bool (nz (r15.e))) ∧ wx.cell? ⟨w.heap.size + 1, 0, none⟩ = some (.int .i64 d.a) ∧ wx.cell? ⟨w.heap.size + 1, 1, none⟩ = some (.int .i64 d.b) ∧ wx.cell? ⟨w.heap.size + 1, 2, none⟩ = some (.int .i64 d.c) ∧ wx.cell? ⟨w.heap.size + 1, 3, none⟩ = some (.int .i64 d.d) ∧ wx.cell? ⟨w.heap.size + 1, 4, none⟩ = some (.int .i64 d.e) ∧ wx.cell? ⟨w.heap.size + 1, 5, none⟩ = some (.int .i64 d.f) ∧ wx.cell? ⟨wn.heap.size, 0, none⟩ = some (.int .i64 r0.lo) ∧ wx.cell? ⟨wn.heap.size, 1, none⟩ = some (.int .i64 r0.hi) ∧ wx.cell? ⟨g, 0, none⟩ = some (.int .i64 r2.lo) ∧ wx.cell? ⟨g, 1, none⟩ = some (.int .i64 r2.hi) ∧ wx.cell? ⟨w.heap.size + 1 + 1, 0, none⟩ = some (.int .i64 r5.lo) ∧ wx.cell? ⟨w.heap.size + 1 + 1, 1, none⟩ = some (.int .i64 r5.hi) ∧ wx.cell? ⟨w.heap.size + 1 + 1, 2, none⟩ = some (.int .i64 r10.lo) ∧ wx.cell? ⟨w.heap.size + 1 + 1, 3, none⟩ = some (.int .i64 r10.hi) ∧ wx.cell? ⟨w.heap.size + 1 + 1, 4, none⟩ = some (.int .i64 r15.lo) ∧ wx.cell? ⟨w.heap.size + 1 + 1, 5, none⟩ = some (.int .i64 r15.hi) ∧ wx.cell? ⟨w.heap.size + 1 + 1, 6, none⟩ = some (.int .i64 r10.lo) ∧ wx.cell? ⟨w.heap.size + 1 + 1, 7, none⟩ = some (.int .i64 r10.hi) ∧ wx.cell? ⟨w.heap.size + 1 + 1, 8, none⟩ = some (.int .i64 r8.lo) ∧ wx.cell? ⟨w.heap.size + 1 + 1, 9, none⟩ = some (.int .i64 r8.hi) ∧ wx.cell? ⟨w.heap.size + 1 + 1, 10, none⟩ = some (.int .i64 0) ∧ wx.cell? ⟨w.heap.size + 1 + 1, 11, none⟩ = some (.int .i64 0) ∧ wx.cell? ⟨w.heap.size + 1 + 1, 12, none⟩ = some (.int .i64 r15.lo) ∧ wx.cell? ⟨w.heap.size + 1 + 1, 13, none⟩ = some (.int .i64 r15.hi) ∧ wx.cell? ⟨w.heap.size + 1 + 1, 14, none⟩ = some (.int .i64 0) ∧ wx.cell? ⟨w.heap.size + 1 + 1, 15, none⟩ = some (.int .i64 0) ∧ wx.cell? ⟨w.heap.size + 1 + 1, 16, none⟩ = some (.int .i64 r13.lo) ∧ wx.cell? ⟨w.heap.size + 1 + 1, 17, none⟩ = some (.int .i64 r13.hi))
 case first =>
  go_upto_region 11 with fail
  refine wp_name fun V hV => ?_
  obtain ⟨hVc, hVf, hVz⟩ := hV.cells
  have hVe : ExtP w p 0 V := ExtP.same hV c_3
  (try simp only [wsd] at hVz)
  replace hVz := And.intro (Nat.le_of_eq hVz) (Nat.le_of_eq hVz.symm)
  have hlv := q_4 w.heap.size V.heap.size (w.heap.size + 1) (w.heap.size + 1 + 1) p w1.heap.size (w1.heap.size + 1) wn.heap.size g
  have hd := q_14 w.heap.size (w.heap.size + 1) (w.heap.size + 1 + 1) p w1.heap.size (w1.heap.size + 1) wn.heap.size g
  have hnv := q_19 w.heap.size V.heap.size (w.heap.size + 1) (w.heap.size + 1 + 1) p w1.heap.size (w1.heap.size + 1) wn.heap.size g
  go_cut [13] (fun sx wx => ∃ (g : Nat) (r14 r15 : R3), sx = .pointer (some ⟨g, 0, none⟩) ∧ (doI (r13.e) (mulI d.e d.f d.a d.b) = r14 ∧ doI r14.e (mulI r2.lo r2.hi r14.lo r14.hi) = r15) ∧ ExtP V p 0 wx ∧ V.heap.size ≤ g ∧ g < wx.heap.size ∧ (∀ o, wx.frozen? ⟨g, o, none⟩ = false) ∧ wx.cell? ⟨p, 0, none⟩ = some (.bool (nz (r15.e))) ∧ wx.frozen? ⟨p, 0, none⟩ = false ∧ wx.cell? ⟨g, 0, none⟩ = some (.int .i64 r15.lo) ∧ wx.cell? ⟨g, 1, none⟩ = some (.int .i64 r15.hi))
  case first =>
   have hWe : ExtP V p 0 V := ExtP.of _ _ (Ext.refl V)
   go_region_held3 (fun w' => (∀ b o, b < V.heap.size → w'.cell? ⟨b, o, none⟩ = if b = p ∧ 0 ≤ o ∧ o < 0 ∨ b = p ∧ o = 0 then (V.cell? ⟨b, o, none⟩).map (obx w' b o) else V.cell? ⟨b, o, none⟩) ∧ (∀ b o, b < V.heap.size → w'.frozen? ⟨b, o, none⟩ = V.frozen? ⟨b, o, none⟩) ∧ V.heap.size ≤ w'.heap.size ∧ ExtP V p 0 w') (exact k_4) ((first | (go_at_call 92; (with_reducible refine (f_mul p (r13.e) d.e d.f d.a d.b _ c_0 c_0 hd2 hd0).mono ?_); (generalize hr14 : doI (r13.e) (mulI d.e d.f d.a d.b) = r14); rintro e w16 ⟨rfl, hb14⟩; have hz14 := hb14.size; obtain ⟨hg14, hh14⟩ := hb14.got (u := .bool (nz (r13.e))) c_0; have hob14 := obx_of hg14; (try simp only [frozen_drew] at hh14); obtain ⟨hq14, hv14⟩ := hb14.cells; (try simp only [wsd] at hz14 hq14 hv14); (try have hlx14 := q_9 w.heap.size w16.heap.size (w.heap.size + 1) (w.heap.size + 1 + 1) p w1.heap.size (w1.heap.size + 1) wn.heap.size g); (try have hly0 : V.heap.size < w16.heap.size := by omega)) | (go_at_call 92; (with_reducible refine (f_mul p r14.e r2.lo r2.hi r14.lo r14.hi _ c_0 c_0 (W2 hW2) (W2 (hr14 ▸ doI_W (mulI_W _ _ _ _)))).mono ?_); (generalize hr15 : doI r14.e (mulI r2.lo r2.hi r14.lo r14.hi) = r15); rintro e w17 ⟨rfl, hb15⟩; have hz15 := hb15.size; obtain ⟨hg15, hh15⟩ := hb15.got (u := .bool (nz (r14.e))) c_0; have hob15 := obx_of hg15; (try simp only [frozen_drew] at hh15); obtain ⟨hq15, hv15⟩ := hb15.cells; (try simp only [wsd] at hz15 hq15 hv15); (try have hlx15 := q_9 w.heap.size w17.heap.size (w.heap.size + 1) (w.heap.size + 1 + 1) p w1.heap.size (w1.heap.size + 1) wn.heap.size g); (try have hly0 : V.heap.size < w17.heap.size := by omega); (try have hly1 : w16.heap.size < w17.heap.size := by omega))))
   all_goals
    rename_i hOld
    clear hOld
    go_wp2_with fail
    go_meet
    refine ⟨_, _, _, rfl, ⟨hr14, hr15⟩, ?_, ?_, ?_, ?_, ?_, ?_, ?_, ?_⟩
    ·exact b_18
    ·(try simp only [wsz]); omega
    ·(try simp only [wsz]); omega
    ·exact b_19
    ·exact b_20
    ·exact b_20
    all_goals simp [go_sem, ↓IntWalk.iteOmega, *]
  obtain ⟨h2, r14, r15, rfl, ⟨hr14, hr15⟩, hx, hg1, hg2, hgf, hpc, hpf, hv0, hv1⟩ := hcut
  obtain ⟨hcc, hcf, hcz⟩ := ExtP.cells2 hx hpc
  replace hVe := hVe.trans hx
  have hlv2 := q_3 w.heap.size wc.heap.size (w.heap.size + 1) (w.heap.size + 1 + 1) p w1.heap.size (w1.heap.size + 1) wn.heap.size g
  have hlg := q_12 w.heap.size h2 (w.heap.size + 1) (w.heap.size + 1 + 1) p w1.heap.size (w1.heap.size + 1) wn.heap.size g
  clear hx
  go_wp2_with fail
  refine wp_name fun W hW => ?_
  obtain ⟨hWc, hWf, hWz⟩ := hW.cells
  have hWe : ExtP w p 0 W := ExtP.same hW c_3
  (try simp only [wsd] at hWz)
  replace hWz := And.intro (Nat.le_of_eq hWz) (Nat.le_of_eq hWz.symm)
  have hlt := q_5 w.heap.size W.heap.size (w.heap.size + 1) (w.heap.size + 1 + 1) p w1.heap.size (w1.heap.size + 1) wn.heap.size g h2
  have hd := q_13 w.heap.size (w.heap.size + 1) (w.heap.size + 1 + 1) p w1.heap.size (w1.heap.size + 1) wn.heap.size g h2
  go_region_held3 (fun w' => (∀ b o, b < W.heap.size → w'.cell? ⟨b, o, none⟩ = if b = w.heap.size + 1 + 1 ∧ 12 ≤ o ∧ o < 14 ∨ b = w.heap.size + 1 + 1 ∧ 4 ≤ o ∧ o < 6 then (W.cell? ⟨b, o, none⟩).map (obx w' b o) else W.cell? ⟨b, o, none⟩) ∧ (∀ b o, b < W.heap.size → w'.frozen? ⟨b, o, none⟩ = W.frozen? ⟨b, o, none⟩) ∧ W.heap.size ≤ w'.heap.size ∧ ExtP w p 0 w') (exact k_6) (fail)
  rename_i hOld
  have hKP := Lib.hid hOld.1
  have hE := hOld.2.2.2
  have hO := And.intro hOld.1 (And.intro hOld.2.1 hOld.2.2.1)
  clear hOld
  replace hO := hewBackd hO c_9
  replace hO := hewBackd hO c_9
  replace hO := hewBackd hO c_9
  replace hO := hewBackd hO c_9
  obtain ⟨hOc, hOf, hOz⟩ := hewEnd hO
  clear hO
  have hlu := q_5 w.heap.size W.heap.size (w.heap.size + 1) (w.heap.size + 1 + 1) p w1.heap.size (w1.heap.size + 1) wn.heap.size g h2
  go_wp2_with fail
  go_meet
  refine ⟨_, _, ?_, hr14, hr15, ?_, ?_, ?_, ?_, ?_, ?_, ?_, ?_, ?_, ?_, ?_, ?_, ?_, ?_, ?_, ?_, ?_, ?_, ?_, ?_, ?_, ?_, ?_, ?_, ?_, ?_, ?_, ?_, ?_, ?_, ?_, ?_, ?_⟩
  ·first | rfl | (simp; done) | (simp [*]; done)
  ·exact b_21
  ·exact T_For5_1
  ·exact b_19
  all_goals (simp [go_sem, ↓IntWalk.iteOmega, *]; done)
 obtain ⟨r14, r15, rfl, hr14, hr15, xek5_, xsk5_, xfk5_0, xgk5_, xpk5_, xck5_0, xck5_1, xck5_2, xck5_3, xck5_4, xck5_5, xck5_6, xck5_7, xck5_8, xck5_9, xck5_10, xck5_11, xck5_12, xck5_13, xck5_14, xck5_15, xck5_16, xck5_17, xck5_18, xck5_19, xck5_20, xck5_21, xck5_22, xck5_23, xck5_24, xck5_25, xck5_26, xck5_27⟩ := hcut
 clear xek4_ xsk4_ xfk4_0 xgk4_ xpk4_ xck4_0 xck4_1 xck4_2 xck4_3 xck4_4 xck4_5 xck4_6 xck4_7 xck4_8 xck4_9 xck4_10 xck4_11 xck4_12 xck4_13 xck4_14 xck4_15 xck4_16 xck4_17 xck4_18 xck4_19 xck4_20 xck4_21 xck4_22 xck4_23 xck4_24 xck4_25 xck4_26 xck4_27
 refine hK _ _ ?_
 refine rounds_step (fun K hK => ?_)
 go_cut [55] from 56 to 79 (fun sx0 wx => ∃ (r16 r17 : R3), sx0 = .int .i64 2 ∧ doI (r15.e) (mulI d.e d.f d.c d.d) = r16 ∧ doI r16.e (mulI r2.lo r2.hi r16.lo r16.hi) = r17 ∧ ExtP w p 0 wx ∧ (w.heap.size < wx.heap.size ∧ w.heap.size + 1 < wx.heap.size ∧ w.heap.size + 1 + 1 < wx.heap.size ∧ p < wx.heap.size ∧ w1.heap.size < wx.heap.size ∧ w1.heap.size + 1 < wx.heap.size ∧ wn.heap.size < wx.heap.size ∧ g < wx.heap.size) ∧ (∀ o, wx.frozen? ⟨w.heap.size + 1 + 1, o, none⟩ = false) ∧ wx.frozen? ⟨p, 0, none⟩ = false ∧ wx.cell? ⟨p, 0, none⟩ = some (.bool (nz (r17.e))) ∧ wx.cell? ⟨w.heap.size + 1, 0, none⟩ = some (.int .i64 d.a) ∧ wx.cell? ⟨w.heap.size + 1, 1, none⟩ = some (.int .i64 d.b) ∧ wx.cell? ⟨w.heap.size + 1, 2, none⟩ = some (.int .i64 d.c) ∧ wx.cell? ⟨w.heap.size + 1, 3, none⟩ = some (.int .i64 d.d) ∧ wx.cell? ⟨w.heap.size + 1, 4, none⟩ = some (.int .i64 d.e) ∧ wx.cell? ⟨w.heap.size + 1, 5, none⟩ = some (.int .i64 d.f) ∧ wx.cell? ⟨wn.heap.size, 0, none⟩ = some (.int .i64 r0.lo) ∧ wx.cell? ⟨wn.heap.size, 1, none⟩ = some (.int .i64 r0.hi) ∧ wx.cell? ⟨g, 0, none⟩ = some (.int .i64 r2.lo) ∧ wx.cell? ⟨g, 1, none⟩ = some (.int .i64 r2.hi) ∧ wx.cell? ⟨w.heap.size + 1 + 1, 0, none⟩ = some (.int .i64 r5.lo) ∧ wx.cell? ⟨w.heap.size + 1 + 1, 1, none⟩ = some (.int .i64 r5.hi) ∧ wx.cell? ⟨w.heap.size + 1 + 1, 2, none⟩ = some (.int .i64 r10.lo) ∧ wx.cell? ⟨w.heap.size + 1 + 1, 3, none⟩ = some (.int .i64 r10.hi) ∧ wx.cell? ⟨w.heap.size + 1 + 1, 4, none⟩ = some (.int .i64 r15.lo) ∧ wx.cell? ⟨w.heap.size + 1 + 1, 5, none⟩ = some (.int .i64 r15.hi) ∧ wx.cell? ⟨w.heap.size + 1 + 1, 6, none⟩ = some (.int .i64 r10.lo) ∧ wx.cell? ⟨w.heap.size + 1 + 1, 7, none⟩ = some (.int .i64 r10.hi) ∧ wx.cell? ⟨w.heap.size + 1 + 1, 8, none⟩ = some (.int .i64 r8.lo) ∧ wx.cell? ⟨w.heap.size + 1 + 1, 9, none⟩ = some (.int .i64 r8.hi) ∧ wx.cell? ⟨w.heap.size + 1 + 1, 10, none⟩ = some (.int .i64 r17.lo) ∧ wx.cell? ⟨w.heap.size + 1 + 1, 11, none⟩ = some (.int .i64 r17.hi) ∧ wx.cell? ⟨w.heap.size + 1 + 1, 12, none⟩ = some (.int .i64 r15.lo) ∧ wx.cell? ⟨w.heap.size + 1 + 1, 13, none⟩ = some (.int .i64 r15.hi) ∧ wx.cell? ⟨w.heap.size + 1 + 1, 14, none⟩ = some (.int .i64 r17.lo) ∧ wx.cell? ⟨w.heap.size + 1 + 1, 15, none⟩ = some (.int .i64 r17.hi) ∧ wx.cell? ⟨w.heap.size + 1 + 1, 16, none⟩ = some (.int .i64 r13.lo) ∧ wx.cell? ⟨w.heap.size + 1 + 1, 17, none⟩ = some (.int .i64 r13.hi))
 case first =>
  go_upto_region 11 with fail
  refine wp_name fun V hV => ?_
  obtain ⟨hVc, hVf, hVz⟩ := hV.cells
  have hVe : ExtP w p 0 V := ExtP.same hV c_3
  (try simp only [wsd] at hVz)
  replace hVz := And.intro (Nat.le_of_eq hVz) (Nat.le_of_eq hVz.symm)
  have hlv := q_4 w.heap.size V.heap.size (w.heap.size + 1) (w.heap.size + 1 + 1) p w1.heap.size (w1.heap.size + 1) wn.heap.size g
  have hd := q_14 w.heap.size (w.heap.size + 1) (w.heap.size + 1 + 1) p w1.heap.size (w1.heap.size + 1) wn.heap.size g
  have hnv := q_19 w.heap.size V.heap.size (w.heap.size + 1) (w.heap.size + 1 + 1) p w1.heap.size (w1.heap.size + 1) wn.heap.size g
  go_cut [13] (fun sx wx => ∃ (g : Nat) (r16 r17 : R3), sx = .pointer (some ⟨g, 0, none⟩) ∧ (doI (r15.e) (mulI d.e d.f d.c d.d) = r16 ∧ doI r16.e (mulI r2.lo r2.hi r16.lo r16.hi) = r17) ∧ ExtP V p 0 wx ∧ V.heap.size ≤ g ∧ g < wx.heap.size ∧ (∀ o, wx.frozen? ⟨g, o, none⟩ = false) ∧ wx.cell? ⟨p, 0, none⟩ = some (.bool (nz (r17.e))) ∧ wx.frozen? ⟨p, 0, none⟩ = false ∧ wx.cell? ⟨g, 0, none⟩ = some (.int .i64 r17.lo) ∧ wx.cell? ⟨g, 1, none⟩ = some (.int .i64 r17.hi))
  case first =>
   have hWe : ExtP V p 0 V := ExtP.of _ _ (Ext.refl V)
   go_region_held3 (fun w' => (∀ b o, b < V.heap.size → w'.cell? ⟨b, o, none⟩ = if b = p ∧ 0 ≤ o ∧ o < 0 ∨ b = p ∧ o = 0 then (V.cell? ⟨b, o, none⟩).map (obx w' b o) else V.cell? ⟨b, o, none⟩) ∧ (∀ b o, b < V.heap.size → w'.frozen? ⟨b, o, none⟩ = V.frozen? ⟨b, o, none⟩) ∧ V.heap.size ≤ w'.heap.size ∧ ExtP V p 0 w') (exact k_4) ((first | (go_at_call 92; (with_reducible refine (f_mul p (r15.e) d.e d.f d.c d.d _ c_0 c_0 hd2 hd1).mono ?_); (generalize hr16 : doI (r15.e) (mulI d.e d.f d.c d.d) = r16); rintro e w18 ⟨rfl, hb16⟩; have hz16 := hb16.size; obtain ⟨hg16, hh16⟩ := hb16.got (u := .bool (nz (r15.e))) c_0; have hob16 := obx_of hg16; (try simp only [frozen_drew] at hh16); obtain ⟨hq16, hv16⟩ := hb16.cells; (try simp only [wsd] at hz16 hq16 hv16); (try have hlx16 := q_9 w.heap.size w18.heap.size (w.heap.size + 1) (w.heap.size + 1 + 1) p w1.heap.size (w1.heap.size + 1) wn.heap.size g); (try have hly0 : V.heap.size < w18.heap.size := by omega)) | (go_at_call 92; (with_reducible refine (f_mul p r16.e r2.lo r2.hi r16.lo r16.hi _ c_0 c_0 (W2 hW2) (W2 (hr16 ▸ doI_W (mulI_W _ _ _ _)))).mono ?_); (generalize hr17 : doI r16.e (mulI r2.lo r2.hi r16.lo r16.hi) = r17); rintro e w19 ⟨rfl, hb17⟩; have hz17 := hb17.size; obtain ⟨hg17, hh17⟩ := hb17.got (u := .bool (nz (r16.e))) c_0; have hob17 := obx_of hg17; (try simp only [frozen_drew] at hh17); obtain ⟨hq17, hv17⟩ := hb17.cells; (try simp only [wsd] at hz17 hq17 hv17); (try have hlx17 := q_9 w.heap.size w19.heap.size (w.heap.size + 1) (w.heap.size + 1 + 1) p w1.heap.size (w1.heap.size + 1) wn.heap.size g); (try have hly0 : V.heap.size < w19.heap.size := by omega); (try have hly1 : w18.heap.size < w19.heap.size := by omega))))
   all_goals
    rename_i hOld
    clear hOld
    go_wp2_with fail
    go_meet
    refine ⟨_, _, _, rfl, ⟨hr16, hr17⟩, ?_, ?_, ?_, ?_, ?_, ?_, ?_, ?_⟩
    ·exact b_18
    ·(try simp only [wsz]); omega
    ·(try simp only [wsz]); omega
    ·exact b_19
    ·exact b_20
    ·exact b_20
    all_goals simp [go_sem, ↓IntWalk.iteOmega, *]
  obtain ⟨h3, r16, r17, rfl, ⟨hr16, hr17⟩, hx, hg1, hg2, hgf, hpc, hpf, hv0, hv1⟩ := hcut
  obtain ⟨hcc, hcf, hcz⟩ := ExtP.cells2 hx hpc
  replace hVe := hVe.trans hx
  have hlv2 := q_3 w.heap.size wc.heap.size (w.heap.size + 1) (w.heap.size + 1 + 1) p w1.heap.size (w1.heap.size + 1) wn.heap.size g
  have hlg := q_12 w.heap.size h3 (w.heap.size + 1) (w.heap.size + 1 + 1) p w1.heap.size (w1.heap.size + 1) wn.heap.size g
  clear hx
  go_wp2_with fail
  refine wp_name fun W hW => ?_
  obtain ⟨hWc, hWf, hWz⟩ := hW.cells
  have hWe : ExtP w p 0 W := ExtP.same hW c_3
  (try simp only [wsd] at hWz)
  replace hWz := And.intro (Nat.le_of_eq hWz) (Nat.le_of_eq hWz.symm)
  have hlt := q_5 w.heap.size W.heap.size (w.heap.size + 1) (w.heap.size + 1 + 1) p w1.heap.size (w1.heap.size + 1) wn.heap.size g h3
  have hd := q_13 w.heap.size (w.heap.size + 1) (w.heap.size + 1 + 1) p w1.heap.size (w1.heap.size + 1) wn.heap.size g h3
  go_region_held3 (fun w' => (∀ b o, b < W.heap.size → w'.cell? ⟨b, o, none⟩ = if b = w.heap.size + 1 + 1 ∧ 14 ≤ o ∧ o < 16 ∨ b = w.heap.size + 1 + 1 ∧ 10 ≤ o ∧ o < 12 then (W.cell? ⟨b, o, none⟩).map (obx w' b o) else W.cell? ⟨b, o, none⟩) ∧ (∀ b o, b < W.heap.size → w'.frozen? ⟨b, o, none⟩ = W.frozen? ⟨b, o, none⟩) ∧ W.heap.size ≤ w'.heap.size ∧ ExtP w p 0 w') (exact k_6) (fail)
  rename_i hOld
  have hKP := Lib.hid hOld.1
  have hE := hOld.2.2.2
  have hO := And.intro hOld.1 (And.intro hOld.2.1 hOld.2.2.1)
  clear hOld
  replace hO := hewBackd hO c_9
  replace hO := hewBackd hO c_9
  replace hO := hewBackd hO c_9
  replace hO := hewBackd hO c_9
  obtain ⟨hOc, hOf, hOz⟩ := hewEnd hO
  clear hO
  have hlu := q_5 w.heap.size W.heap.size (w.heap.size + 1) (w.heap.size + 1 + 1) p w1.heap.size (w1.heap.size + 1) wn.heap.size g h3
  go_wp2_with fail
  go_meet
  refine ⟨_, _, ?_, hr16, hr17, ?_, ?_, ?_, ?_, ?_, ?_, ?_, ?_, ?_, ?_, ?_, ?_, ?_, ?_, ?_, ?_, ?_, ?_, ?_, ?_, ?_, ?_, ?_, ?_, ?_, ?_, ?_, ?_, ?_, ?_, ?_, ?_, ?_⟩
  ·first | rfl | (simp; done) | (simp [*]; done)
  ·exact b_21
  ·exact T_For5_1
  ·exact b_19
  all_goals (simp [go_sem, ↓IntWalk.iteOmega, *]; done)
 obtain ⟨r16, r17, rfl, hr16, hr17, xek6_, xsk6_, xfk6_0, xgk6_, xpk6_, xck6_0, xck6_1, xck6_2, xck6_3, xck6_4, xck6_5, xck6_6, xck6_7, xck6_8, xck6_9, xck6_10, xck6_11, xck6_12, xck6_13, xck6_14, xck6_15, xck6_16, xck6_17, xck6_18, xck6_19, xck6_20, xck6_21, xck6_22, xck6_23, xck6_24, xck6_25, xck6_26, xck6_27⟩ := hcut
 clear xek5_ xsk5_ xfk5_0 xgk5_ xpk5_ xck5_0 xck5_1 xck5_2 xck5_3 xck5_4 xck5_5 xck5_6 xck5_7 xck5_8 xck5_9 xck5_10 xck5_11 xck5_12 xck5_13 xck5_14 xck5_15 xck5_16 xck5_17 xck5_18 xck5_19 xck5_20 xck5_21 xck5_22 xck5_23 xck5_24 xck5_25 xck5_26 xck5_27
 refine hK _ _ ?_
 rw [rounds_succ]
 go_wp2_with fail
 have hrg : (wc).rangeAt (w.heap.size + 1 + 1) 0 [.int .i64 r5.lo, .int .i64 r5.hi, .int .i64 r10.lo, .int .i64 r10.hi, .int .i64 r15.lo, .int .i64 r15.hi, .int .i64 r10.lo, .int .i64 r10.hi, .int .i64 r8.lo, .int .i64 r8.hi, .int .i64 r17.lo, .int .i64 r17.hi, .int .i64 r15.lo, .int .i64 r15.hi, .int .i64 r17.lo, .int .i64 r17.hi, .int .i64 r13.lo, .int .i64 r13.hi] := (by repeat (first | exact range_nil _ _ _ | refine range_cons c_23 ?_))
 have hrgt := there_range hrg xfk6_0 18 rfl
 rw [rounds_succ]
 go_upto_region 15 with fail
 refine wp_region_lit (l := [_, _]) ?_
 ((with_reducible show wpList _ _ _ _ _ _); refine wpList_load_mid rfl 35 (.tmp 6) rfl (w.heap.size + 1 + 1) 0 rfl [.int .i64 r5.lo, .int .i64 r5.hi, .int .i64 r10.lo, .int .i64 r10.hi, .int .i64 r15.lo, .int .i64 r15.hi, .int .i64 r10.lo, .int .i64 r10.hi, .int .i64 r8.lo, .int .i64 r8.hi, .int .i64 r17.lo, .int .i64 r17.hi, .int .i64 r15.lo, .int .i64 r15.hi, .int .i64 r17.lo, .int .i64 r17.hi, .int .i64 r13.lo, .int .i64 r13.hi] (.array 3 27) hrg tyU35 rfl tyI35 ?_)
 ((with_reducible show wpList _ _ _ _ _ _); refine store_row rfl 35 (.tmp 6) (.tmp 81) rfl (w.heap.size + 1 + 1) #[.int .i64 r5.lo, .int .i64 r5.hi, .int .i64 r10.lo, .int .i64 r10.hi, .int .i64 r15.lo, .int .i64 r15.hi, .int .i64 r10.lo, .int .i64 r10.hi, .int .i64 r8.lo, .int .i64 r8.hi, .int .i64 r17.lo, .int .i64 r17.hi, .int .i64 r15.lo, .int .i64 r15.hi, .int .i64 r17.lo, .int .i64 r17.hi, .int .i64 r13.lo, .int .i64 r13.hi] rfl rfl hrgt tyI35 c_11 (fun W9 hW9 => ?_); have hW9r := hW9.range; obtain ⟨hW9c, hW9f, hW9z⟩ := hW9.cells; (try simp only [World.size_alloc, World.size_setCell, size_drew] at hW9z))
 refine wpList_nil ?_
 refine (‹∀ (a : Act) (w : World), Code.wp Tryz.prog Code.ret _ a w → _› : ∀ (a : Act) (w : World), Code.wp Tryz.prog Code.ret _ a w → _) _ _ ?_
 refine wp_ret ?_
 have n0 : tnI c x y = r0 := hr0
 have n2 : tmI q r0 = r2 := by unfold tmI ttI; rw [hr1, hr2]
 have q5 : pg0 r0 r2 d = r5 := by unfold pg0 dgI dxI dsI; rw [hr3, hr4, hr5]
 have q8 : pg1 r0 r2 d = r8 := by unfold pg1 dgI dxI dsI; rw [q5, hr6, hr7, hr8]
 have q10 : pz1 r0 r2 d = r10 := by unfold pz1 ozI oyI; rw [q8, hr9, hr10]
 have q13 : pg2 r0 r2 d = r13 := by unfold pg2 dgI dxI dsI; rw [q10, hr11, hr12, hr13]
 have q15 : pz2 r0 r2 d = r15 := by unfold pz2 ozI oyI; rw [q13, hr14, hr15]
 have q17 : pz3 r0 r2 d = r17 := by unfold pz3 ozI oyI; rw [q15, hr16, hr17]
 refine bodyPost_ret (v := .agg #[.int .i64 r5.lo, .int .i64 r5.hi, .int .i64 r10.lo, .int .i64 r10.hi, .int .i64 r15.lo, .int .i64 r15.hi, .int .i64 r10.lo, .int .i64 r10.hi, .int .i64 r8.lo, .int .i64 r8.hi, .int .i64 r17.lo, .int .i64 r17.hi, .int .i64 r15.lo, .int .i64 r15.hi, .int .i64 r17.lo, .int .i64 r17.hi, .int .i64 r13.lo, .int .i64 r13.hi]) (results_cell Tryz.results56 rfl (run_load_row W9 (w.heap.size + 1 + 1) 35 [.int .i64 r5.lo, .int .i64 r5.hi, .int .i64 r10.lo, .int .i64 r10.hi, .int .i64 r15.lo, .int .i64 r15.hi, .int .i64 r10.lo, .int .i64 r10.hi, .int .i64 r8.lo, .int .i64 r8.hi, .int .i64 r17.lo, .int .i64 r17.hi, .int .i64 r15.lo, .int .i64 r15.hi, .int .i64 r17.lo, .int .i64 r17.hi, .int .i64 r13.lo, .int .i64 r13.hi] (.array 3 27) hW9r tyU35 rfl tyI35)) rfl ⟨?_, ?_⟩
 ·simp only [hq, hcu, n0, n2, q5, q8, q10, q13, q15, q17]
 ·simp only [hq, hcu, n0, n2, q5, q8, q10, q13, q15, q17]
  exact ExtP.fin (hW9.extP xek6_ (by omega)) ((hW9.cells.1 p 0 (by omega)).trans xpk6_) hp
end Go.Proofs.YtbkgakgdbmjmjaaGreat
