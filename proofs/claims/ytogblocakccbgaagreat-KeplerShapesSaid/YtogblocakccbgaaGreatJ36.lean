/- sphere: the cross product. -/
import Derived.Test.YtogblocakccbgaaGreatJ00
import Derived.Test.YtogblocakccbgaaGreatJ35
import Derived.Deep.CutBlock
import Derived.Deep.DeepCutAuto
set_option linter.unusedSimpArgs false
set_option linter.unusedVariables false
set_option maxRecDepth 100000
set_option maxHeartbeats 8000000
namespace Go.Proofs.YtogblocakccbgaaGreat
open Go.RowKit
theorem p_crs (a b : V3) (w : World) (ha : a.I) (hb0 : b.I) :
    Calls Tryz.prog 85 #[.agg #[.int .i64 a.a, .int .i64 a.b, .int .i64 a.c, .int .i64 a.d, .int .i64 a.e, .int .i64 a.f], .agg #[.int .i64 b.a, .int .i64 b.b, .int .i64 b.c, .int .i64 b.d, .int .i64 b.e, .int .i64 b.f]] w fun e w' => e = .returned (.tuple #[.agg #[.int .i64 ((crsV a b).v).a, .int .i64 ((crsV a b).v).b, .int .i64 ((crsV a b).v).c, .int .i64 ((crsV a b).v).d, .int .i64 ((crsV a b).v).e, .int .i64 ((crsV a b).v).f], .int .i64 (crsV a b).e]) ∧ Ext w w' := by
 obtain ⟨ka1, ka2, ka3⟩ := ha
 obtain ⟨kb1, kb2, kb3⟩ := hb0
 have l0 : IntKind.i64.wrap 0 = 0 := rfl
 have l1 : IntKind.i64.wrap 1 = 1 := rfl
 have l2 : IntKind.i64.wrap 2 = 2 := rfl
 have l3 : IntKind.i64.wrap 3 = 3 := rfl
 go_enter Tryz.func85, Tryz.ntmps85
 go_wp2_with (first | (go_at_call 149; (with_reducible refine (s_look a b _).mono ?_); rintro e w1 ⟨rfl, hb⟩; obtain ⟨_, _, hc, hf⟩ := hb.cells2; have hz := hb.size; (try simp only [World.size_alloc] at hz hc hf); (try have zz : w.heap.size < w1.heap.size ∧ (∀ j, w.heap.size < w1.heap.size + j) ∧ (¬ w.heap.size = w1.heap.size) ∧ (∀ j, ¬ w.heap.size = w1.heap.size + j) ∧ (¬ w1.heap.size = w.heap.size) ∧ (∀ j, ¬ w1.heap.size + j = w.heap.size) := c_6); (try have zz : w.heap.size + 1 < w1.heap.size ∧ (∀ j, w.heap.size + 1 < w1.heap.size + j) ∧ (¬ w.heap.size + 1 = w1.heap.size) ∧ (∀ j, ¬ w.heap.size + 1 = w1.heap.size + j) ∧ (¬ w1.heap.size = w.heap.size + 1) ∧ (∀ j, ¬ w1.heap.size + j = w.heap.size + 1) := c_6); (try have zz : w.heap.size + 1 + 1 < w1.heap.size ∧ (∀ j, w.heap.size + 1 + 1 < w1.heap.size + j) ∧ (¬ w.heap.size + 1 + 1 = w1.heap.size) ∧ (∀ j, ¬ w.heap.size + 1 + 1 = w1.heap.size + j) ∧ (¬ w1.heap.size = w.heap.size + 1 + 1) ∧ (∀ j, ¬ w1.heap.size + j = w.heap.size + 1 + 1) := c_6)) | (go_at_call 142; (with_reducible refine (s_begin _).mono ?_); rintro e w2 ⟨rfl, rfl⟩))
 ·-- the error
  refine bodyPost_ret (v := .tuple #[.agg #[.int .i64 ((crsV a b).v).a, .int .i64 ((crsV a b).v).b, .int .i64 ((crsV a b).v).c, .int .i64 ((crsV a b).v).d, .int .i64 ((crsV a b).v).e, .int .i64 ((crsV a b).v).f], .int .i64 (crsV a b).e]) ?_ rfl ⟨rfl, ?_⟩
  ·(try simp only [bne_iff_ne, ne_eq] at *)
   simp [results, Tryz.results85, go_sem, crsV, V3.O, *]
  ·repeat (first | with_reducible exact Ext.refl _ | with_reducible assumption | with_reducible refine Ext.alloc ?_ _ | with_reducible refine Ext.setCell ?_ c_19 _ | with_reducible refine Ext.drewN ?_ _ | with_reducible refine Ext.drew ?_ | with_reducible refine Ext.trans ?_ c_1)
 ·-- the rounds
  refine wp_loop_rounds 4 ?_
  rw [rounds_succ]
  go_upto_region 10 with fail
  refine wp_name fun V hV => ?_
  obtain ⟨hVc, hVf, hVz⟩ := hV.cells
  have hVe : ExtP w w1.heap.size 4 V := ExtP.same hV c_7
  (try simp only [World.size_alloc] at hVz)
  replace hVz := And.intro (Nat.le_of_eq hVz) (Nat.le_of_eq hVz.symm)
  have hlv : w.heap.size < V.heap.size ∧ w.heap.size + 1 < V.heap.size ∧ w.heap.size + 1 + 1 < V.heap.size ∧ w1.heap.size < V.heap.size ∧ w1.heap.size + 1 < V.heap.size := c_55
  have hd : ¬ w.heap.size = w.heap.size + 1 ∧ ¬ w.heap.size = w.heap.size + 1 + 1 ∧ ¬ w.heap.size = w1.heap.size ∧ ¬ w.heap.size = w1.heap.size + 1 ∧ ¬ w.heap.size + 1 = w.heap.size ∧ ¬ w.heap.size + 1 = w.heap.size + 1 + 1 ∧ ¬ w.heap.size + 1 = w1.heap.size ∧ ¬ w.heap.size + 1 = w1.heap.size + 1 ∧ ¬ w.heap.size + 1 + 1 = w.heap.size ∧ ¬ w.heap.size + 1 + 1 = w.heap.size + 1 ∧ ¬ w.heap.size + 1 + 1 = w1.heap.size ∧ ¬ w.heap.size + 1 + 1 = w1.heap.size + 1 ∧ ¬ w1.heap.size = w.heap.size ∧ ¬ w1.heap.size = w.heap.size + 1 ∧ ¬ w1.heap.size = w.heap.size + 1 + 1 ∧ ¬ w1.heap.size = w1.heap.size + 1 ∧ ¬ w1.heap.size + 1 = w.heap.size ∧ ¬ w1.heap.size + 1 = w.heap.size + 1 ∧ ¬ w1.heap.size + 1 = w.heap.size + 1 + 1 ∧ ¬ w1.heap.size + 1 = w1.heap.size := c_42
  have hnv : ¬ w.heap.size = V.heap.size ∧ ¬ w.heap.size + 1 = V.heap.size ∧ ¬ w.heap.size + 1 + 1 = V.heap.size ∧ ¬ w1.heap.size = V.heap.size ∧ ¬ w1.heap.size + 1 = V.heap.size := (by omega)
  go_cut [12] (fun sx wx => ∃ (g : Nat) (r0 : R3), sx = .pointer (some ⟨g, 0, none⟩) ∧ (doI (0) (mulI a.c a.d b.e b.f) = r0) ∧ ExtP V w1.heap.size 4 wx ∧ V.heap.size ≤ g ∧ g < wx.heap.size ∧ (∀ o, wx.frozen? ⟨g, o, none⟩ = false) ∧ wx.cell? ⟨w1.heap.size, 4, none⟩ = some (.int .i64 (r0.e)) ∧ wx.frozen? ⟨w1.heap.size, 4, none⟩ = false ∧ wx.cell? ⟨g, 0, none⟩ = some (.int .i64 r0.lo) ∧ wx.cell? ⟨g, 1, none⟩ = some (.int .i64 r0.hi))
  case first =>
   have hWe : ExtP V w1.heap.size 4 V := ExtP.of _ _ (Ext.refl V)
   go_region_held3 (fun w' => (∀ b o, b < V.heap.size → w'.cell? ⟨b, o, none⟩ = if b = w1.heap.size ∧ 0 ≤ o ∧ o < 0 ∨ b = w1.heap.size ∧ o = 4 then (V.cell? ⟨b, o, none⟩).map (obx w' b o) else V.cell? ⟨b, o, none⟩) ∧ (∀ b o, b < V.heap.size → w'.frozen? ⟨b, o, none⟩ = V.frozen? ⟨b, o, none⟩) ∧ V.heap.size ≤ w'.heap.size ∧ ExtP V w1.heap.size 4 w') (first | (with_reducible exact hel0 hWe) | (with_reducible exact hel1p c_1 c_1) | (with_reducible exact hel1 c_1 c_1) | (with_reducible exact hel3d c_1) | (with_reducible exact hel3 c_1) | ((with_reducible refine hel4 c_1 ?_ ?_) <;> omega) | (repeat (first | (with_reducible assumption) | (with_reducible refine hel2 ?_ c_3 c_10)))) ((first | (go_at_call 145; (with_reducible refine (d_mul w1.heap.size (0) a.c a.d b.e b.f _ c_16 c_28 ka2 kb3).mono ?_); (generalize hr0 : doI (0) (mulI a.c a.d b.e b.f) = r0); rintro e w2 ⟨rfl, hb0⟩; have hz0 := hb0.size; obtain ⟨hg0, hh0⟩ := hb0.got (u := .int .i64 (0)) c_16; have hob0 := obx_of hg0; (try simp only [frozen_drew] at hh0); obtain ⟨hq0, hv0⟩ := hb0.cells; (try simp only [size_drew, World.size_alloc, World.size_setCell] at hz0 hq0 hv0); (try have hlx0 : w.heap.size < w2.heap.size ∧ ¬ w.heap.size = w2.heap.size ∧ w.heap.size + 1 < w2.heap.size ∧ ¬ w.heap.size + 1 = w2.heap.size ∧ w.heap.size + 1 + 1 < w2.heap.size ∧ ¬ w.heap.size + 1 + 1 = w2.heap.size ∧ w1.heap.size < w2.heap.size ∧ ¬ w1.heap.size = w2.heap.size ∧ w1.heap.size + 1 < w2.heap.size ∧ ¬ w1.heap.size + 1 = w2.heap.size := by omega); (try have hly0 : V.heap.size < w2.heap.size := by omega))))
   all_goals
    rename_i hOld
    clear hOld
    go_wp2_with fail
    go_meet
    refine ⟨_, _, rfl, hr0, ?_, ?_, ?_, ?_, ?_, ?_, ?_, ?_⟩
    ·(repeat (first | with_reducible refine ExtP.set ?_ | (with_reducible refine ExtP.store ?_ ?_; rotate_left; (focus ((try simp only []); omega))) | with_reducible refine ExtP.ext ?_ ((Ext.refl _).alloc _) | with_reducible refine ExtP.ext ?_ ((Ext.refl _).drew) | with_reducible assumption | with_reducible exact ExtP.of _ _ (Ext.refl V) | with_reducible refine ExtP.ext ?_ c_1))
    ·(try simp only [wsz]); omega
    ·(try simp only [wsz]); omega
    ·intro o; simp [go_sem, *]
    ·simp [go_sem, *]
    ·simp [go_sem, *]
    all_goals simp [go_sem, *]
  case rest =>
   obtain ⟨g, r0, rfl, hr0, hx, hg1, hg2, hgf, hpc, hpf, hv0, hv1⟩ := hcut
   obtain ⟨hcc, hcf, hcz⟩ := ExtP.cells2 hx hpc
   replace hVe := hVe.trans hx
   have hlv2 : w.heap.size < wc.heap.size ∧ w.heap.size + 1 < wc.heap.size ∧ w.heap.size + 1 + 1 < wc.heap.size ∧ w1.heap.size < wc.heap.size ∧ w1.heap.size + 1 < wc.heap.size := (by omega)
   have hlg : w.heap.size < g ∧ ¬ w.heap.size = g ∧ ¬ g = w.heap.size ∧ w.heap.size + 1 < g ∧ ¬ w.heap.size + 1 = g ∧ ¬ g = w.heap.size + 1 ∧ w.heap.size + 1 + 1 < g ∧ ¬ w.heap.size + 1 + 1 = g ∧ ¬ g = w.heap.size + 1 + 1 ∧ w1.heap.size < g ∧ ¬ w1.heap.size = g ∧ ¬ g = w1.heap.size ∧ w1.heap.size + 1 < g ∧ ¬ w1.heap.size + 1 = g ∧ ¬ g = w1.heap.size + 1 := (by omega)
   clear hx
   go_wp2_with fail
   refine wp_name fun W hW => ?_
   obtain ⟨hWc, hWf, hWz⟩ := hW.cells
   have hWe : ExtP w w1.heap.size 4 W := ExtP.same hW c_7
   (try simp only [wsz] at hWz)
   replace hWz := And.intro (Nat.le_of_eq hWz) (Nat.le_of_eq hWz.symm)
   have hlt : w.heap.size < W.heap.size ∧ w.heap.size + 1 < W.heap.size ∧ w.heap.size + 1 + 1 < W.heap.size ∧ w1.heap.size < W.heap.size ∧ w1.heap.size + 1 < W.heap.size ∧ g < W.heap.size := c_26
   have hd : ¬ w.heap.size = w.heap.size + 1 ∧ ¬ w.heap.size = w.heap.size + 1 + 1 ∧ ¬ w.heap.size = w1.heap.size ∧ ¬ w.heap.size = w1.heap.size + 1 ∧ ¬ w.heap.size = g ∧ ¬ w.heap.size + 1 = w.heap.size ∧ ¬ w.heap.size + 1 = w.heap.size + 1 + 1 ∧ ¬ w.heap.size + 1 = w1.heap.size ∧ ¬ w.heap.size + 1 = w1.heap.size + 1 ∧ ¬ w.heap.size + 1 = g ∧ ¬ w.heap.size + 1 + 1 = w.heap.size ∧ ¬ w.heap.size + 1 + 1 = w.heap.size + 1 ∧ ¬ w.heap.size + 1 + 1 = w1.heap.size ∧ ¬ w.heap.size + 1 + 1 = w1.heap.size + 1 ∧ ¬ w.heap.size + 1 + 1 = g ∧ ¬ w1.heap.size = w.heap.size ∧ ¬ w1.heap.size = w.heap.size + 1 ∧ ¬ w1.heap.size = w.heap.size + 1 + 1 ∧ ¬ w1.heap.size = w1.heap.size + 1 ∧ ¬ w1.heap.size = g ∧ ¬ w1.heap.size + 1 = w.heap.size ∧ ¬ w1.heap.size + 1 = w.heap.size + 1 ∧ ¬ w1.heap.size + 1 = w.heap.size + 1 + 1 ∧ ¬ w1.heap.size + 1 = w1.heap.size ∧ ¬ w1.heap.size + 1 = g ∧ ¬ g = w.heap.size ∧ ¬ g = w.heap.size + 1 ∧ ¬ g = w.heap.size + 1 + 1 ∧ ¬ g = w1.heap.size ∧ ¬ g = w1.heap.size + 1 := c_31
   go_region_held3 (fun w' => (∀ b o, b < W.heap.size → w'.cell? ⟨b, o, none⟩ = if b = w1.heap.size + 1 ∧ 0 ≤ o ∧ o < 2 ∨ b = w1.heap.size ∧ o = 4 then (W.cell? ⟨b, o, none⟩).map (obx w' b o) else W.cell? ⟨b, o, none⟩) ∧ (∀ b o, b < W.heap.size → w'.frozen? ⟨b, o, none⟩ = W.frozen? ⟨b, o, none⟩) ∧ W.heap.size ≤ w'.heap.size ∧ ExtP w w1.heap.size 4 w') (first | (with_reducible exact hel0 hWe) | (with_reducible exact hel1p c_1 c_1) | (with_reducible exact hel1 c_1 c_1) | (with_reducible exact hel3d c_1) | (with_reducible exact hel3 c_1) | ((with_reducible refine hel4 c_1 ?_ ?_) <;> omega) | (repeat (first | (with_reducible assumption) | (with_reducible refine hel2 ?_ c_3 c_10)))) ((first | (go_at_call 145; (with_reducible refine (d_mul w1.heap.size r0.e a.e a.f b.c b.d _ c_16 c_28 ka3 kb2).mono ?_); (generalize hr1 : doI r0.e (mulI a.e a.f b.c b.d) = r1); rintro e w2 ⟨rfl, hb0⟩; have hz0 := hb0.size; (try simp only [size_drew, World.size_setCell] at hz0); obtain ⟨hg0, hh0⟩ := hb0.got (u := .int .i64 (r0.e)) c_16; have hob0 := obx_of hg0; (try simp only [frozen_drew] at hh0)) | (go_at_call 145; (with_reducible refine (d_sub w1.heap.size r1.e r0.lo r0.hi r1.lo r1.hi _ c_17 c_44).mono ?_); (generalize hr2 : doI r1.e (subI r0.lo r0.hi r1.lo r1.hi) = r2); rintro e w3 ⟨rfl, hb1⟩; have hz1 := hb1.size; (try simp only [World.size_setCell] at hz1); obtain ⟨hg1, hh1⟩ := hb1.got (u := .int .i64 (r1.e)) c_17; have hob1 := obx_of hg1; (try simp only [frozen_drew] at hh1))))
   rename_i hOld
   have hE := hOld.2.2.2
   have hO := And.intro hOld.1 (And.intro hOld.2.1 hOld.2.2.1)
   clear hOld
   replace hO := helBack hO c_3
   replace hO := helBack hO c_3
   obtain ⟨hOc, hOf, hOz⟩ := helEnd hO
   clear hO
   have hlu : w.heap.size < w3.heap.size ∧ w.heap.size + 1 < w3.heap.size ∧ w.heap.size + 1 + 1 < w3.heap.size ∧ w1.heap.size < w3.heap.size ∧ w1.heap.size + 1 < w3.heap.size ∧ g < w3.heap.size := c_26
   go_wp2_with fail
   rw [rounds_succ]
   go_upto_region 10 with fail
   refine wp_name fun V hV => ?_
   obtain ⟨hVc, hVf, hVz⟩ := hV.cells
   have hVe : ExtP w w1.heap.size 4 V := ExtP.same hV c_18
   (try simp only [World.size_setCell] at hVz)
   replace hVz := And.intro (Nat.le_of_eq hVz) (Nat.le_of_eq hVz.symm)
   have hlv : w.heap.size < V.heap.size ∧ w.heap.size + 1 < V.heap.size ∧ w.heap.size + 1 + 1 < V.heap.size ∧ w1.heap.size < V.heap.size ∧ w1.heap.size + 1 < V.heap.size := c_55
   have hd : ¬ w.heap.size = w.heap.size + 1 ∧ ¬ w.heap.size = w.heap.size + 1 + 1 ∧ ¬ w.heap.size = w1.heap.size ∧ ¬ w.heap.size = w1.heap.size + 1 ∧ ¬ w.heap.size + 1 = w.heap.size ∧ ¬ w.heap.size + 1 = w.heap.size + 1 + 1 ∧ ¬ w.heap.size + 1 = w1.heap.size ∧ ¬ w.heap.size + 1 = w1.heap.size + 1 ∧ ¬ w.heap.size + 1 + 1 = w.heap.size ∧ ¬ w.heap.size + 1 + 1 = w.heap.size + 1 ∧ ¬ w.heap.size + 1 + 1 = w1.heap.size ∧ ¬ w.heap.size + 1 + 1 = w1.heap.size + 1 ∧ ¬ w1.heap.size = w.heap.size ∧ ¬ w1.heap.size = w.heap.size + 1 ∧ ¬ w1.heap.size = w.heap.size + 1 + 1 ∧ ¬ w1.heap.size = w1.heap.size + 1 ∧ ¬ w1.heap.size + 1 = w.heap.size ∧ ¬ w1.heap.size + 1 = w.heap.size + 1 ∧ ¬ w1.heap.size + 1 = w.heap.size + 1 + 1 ∧ ¬ w1.heap.size + 1 = w1.heap.size := c_42
   have hnv : ¬ w.heap.size = V.heap.size ∧ ¬ w.heap.size + 1 = V.heap.size ∧ ¬ w.heap.size + 1 + 1 = V.heap.size ∧ ¬ w1.heap.size = V.heap.size ∧ ¬ w1.heap.size + 1 = V.heap.size := (by omega)
   go_cut [12] (fun sx wx => ∃ (g : Nat) (r3 : R3), sx = .pointer (some ⟨g, 0, none⟩) ∧ (doI (r2.e) (mulI a.e a.f b.a b.b) = r3) ∧ ExtP V w1.heap.size 4 wx ∧ V.heap.size ≤ g ∧ g < wx.heap.size ∧ (∀ o, wx.frozen? ⟨g, o, none⟩ = false) ∧ wx.cell? ⟨w1.heap.size, 4, none⟩ = some (.int .i64 (r3.e)) ∧ wx.frozen? ⟨w1.heap.size, 4, none⟩ = false ∧ wx.cell? ⟨g, 0, none⟩ = some (.int .i64 r3.lo) ∧ wx.cell? ⟨g, 1, none⟩ = some (.int .i64 r3.hi))
   case first =>
    have hWe : ExtP V w1.heap.size 4 V := ExtP.of _ _ (Ext.refl V)
    go_region_held3 (fun w' => (∀ b o, b < V.heap.size → w'.cell? ⟨b, o, none⟩ = if b = w1.heap.size ∧ 0 ≤ o ∧ o < 0 ∨ b = w1.heap.size ∧ o = 4 then (V.cell? ⟨b, o, none⟩).map (obx w' b o) else V.cell? ⟨b, o, none⟩) ∧ (∀ b o, b < V.heap.size → w'.frozen? ⟨b, o, none⟩ = V.frozen? ⟨b, o, none⟩) ∧ V.heap.size ≤ w'.heap.size ∧ ExtP V w1.heap.size 4 w') (first | (with_reducible exact hel0 hWe) | (with_reducible exact hel1p c_1 c_1) | (with_reducible exact hel1 c_1 c_1) | (with_reducible exact hel3d c_1) | (with_reducible exact hel3 c_1) | ((with_reducible refine hel4 c_1 ?_ ?_) <;> omega) | (repeat (first | (with_reducible assumption) | (with_reducible refine hel2 ?_ c_3 c_10)))) ((first | (go_at_call 145; (with_reducible refine (d_mul w1.heap.size (r2.e) a.e a.f b.a b.b _ c_16 c_28 ka3 kb1).mono ?_); (generalize hr3 : doI (r2.e) (mulI a.e a.f b.a b.b) = r3); rintro e w2 ⟨rfl, hb0⟩; have hz0 := hb0.size; obtain ⟨hg0, hh0⟩ := hb0.got (u := .int .i64 (r2.e)) c_16; have hob0 := obx_of hg0; (try simp only [frozen_drew] at hh0); obtain ⟨hq0, hv0⟩ := hb0.cells; (try simp only [size_drew, World.size_alloc, World.size_setCell] at hz0 hq0 hv0); (try have hlx0 : w.heap.size < w2.heap.size ∧ ¬ w.heap.size = w2.heap.size ∧ w.heap.size + 1 < w2.heap.size ∧ ¬ w.heap.size + 1 = w2.heap.size ∧ w.heap.size + 1 + 1 < w2.heap.size ∧ ¬ w.heap.size + 1 + 1 = w2.heap.size ∧ w1.heap.size < w2.heap.size ∧ ¬ w1.heap.size = w2.heap.size ∧ w1.heap.size + 1 < w2.heap.size ∧ ¬ w1.heap.size + 1 = w2.heap.size := by omega); (try have hly0 : V.heap.size < w2.heap.size := by omega))))
    all_goals
     rename_i hOld
     clear hOld
     go_wp2_with fail
     go_meet
     refine ⟨_, _, rfl, hr3, ?_, ?_, ?_, ?_, ?_, ?_, ?_, ?_⟩
     ·(repeat (first | with_reducible refine ExtP.set ?_ | (with_reducible refine ExtP.store ?_ ?_; rotate_left; (focus ((try simp only []); omega))) | with_reducible refine ExtP.ext ?_ ((Ext.refl _).alloc _) | with_reducible refine ExtP.ext ?_ ((Ext.refl _).drew) | with_reducible assumption | with_reducible exact ExtP.of _ _ (Ext.refl V) | with_reducible refine ExtP.ext ?_ c_1))
     ·(try simp only [wsz]); omega
     ·(try simp only [wsz]); omega
     ·intro o; simp [go_sem, *]
     ·simp [go_sem, *]
     ·simp [go_sem, *]
     all_goals simp [go_sem, *]
   case rest =>
    obtain ⟨g, r3, rfl, hr3, hx, hg1, hg2, hgf, hpc, hpf, hv0, hv1⟩ := hcut
    obtain ⟨hcc, hcf, hcz⟩ := ExtP.cells2 hx hpc
    replace hVe := hVe.trans hx
    have hlv2 : w.heap.size < wc.heap.size ∧ w.heap.size + 1 < wc.heap.size ∧ w.heap.size + 1 + 1 < wc.heap.size ∧ w1.heap.size < wc.heap.size ∧ w1.heap.size + 1 < wc.heap.size := (by omega)
    have hlg : w.heap.size < g ∧ ¬ w.heap.size = g ∧ ¬ g = w.heap.size ∧ w.heap.size + 1 < g ∧ ¬ w.heap.size + 1 = g ∧ ¬ g = w.heap.size + 1 ∧ w.heap.size + 1 + 1 < g ∧ ¬ w.heap.size + 1 + 1 = g ∧ ¬ g = w.heap.size + 1 + 1 ∧ w1.heap.size < g ∧ ¬ w1.heap.size = g ∧ ¬ g = w1.heap.size ∧ w1.heap.size + 1 < g ∧ ¬ w1.heap.size + 1 = g ∧ ¬ g = w1.heap.size + 1 := (by omega)
    clear hx
    go_wp2_with fail
    refine wp_name fun W hW => ?_
    obtain ⟨hWc, hWf, hWz⟩ := hW.cells
    have hWe : ExtP w w1.heap.size 4 W := ExtP.same hW c_7
    (try simp only [wsz] at hWz)
    replace hWz := And.intro (Nat.le_of_eq hWz) (Nat.le_of_eq hWz.symm)
    have hlt : w.heap.size < W.heap.size ∧ w.heap.size + 1 < W.heap.size ∧ w.heap.size + 1 + 1 < W.heap.size ∧ w1.heap.size < W.heap.size ∧ w1.heap.size + 1 < W.heap.size ∧ g < W.heap.size := c_26
    have hd : ¬ w.heap.size = w.heap.size + 1 ∧ ¬ w.heap.size = w.heap.size + 1 + 1 ∧ ¬ w.heap.size = w1.heap.size ∧ ¬ w.heap.size = w1.heap.size + 1 ∧ ¬ w.heap.size = g ∧ ¬ w.heap.size + 1 = w.heap.size ∧ ¬ w.heap.size + 1 = w.heap.size + 1 + 1 ∧ ¬ w.heap.size + 1 = w1.heap.size ∧ ¬ w.heap.size + 1 = w1.heap.size + 1 ∧ ¬ w.heap.size + 1 = g ∧ ¬ w.heap.size + 1 + 1 = w.heap.size ∧ ¬ w.heap.size + 1 + 1 = w.heap.size + 1 ∧ ¬ w.heap.size + 1 + 1 = w1.heap.size ∧ ¬ w.heap.size + 1 + 1 = w1.heap.size + 1 ∧ ¬ w.heap.size + 1 + 1 = g ∧ ¬ w1.heap.size = w.heap.size ∧ ¬ w1.heap.size = w.heap.size + 1 ∧ ¬ w1.heap.size = w.heap.size + 1 + 1 ∧ ¬ w1.heap.size = w1.heap.size + 1 ∧ ¬ w1.heap.size = g ∧ ¬ w1.heap.size + 1 = w.heap.size ∧ ¬ w1.heap.size + 1 = w.heap.size + 1 ∧ ¬ w1.heap.size + 1 = w.heap.size + 1 + 1 ∧ ¬ w1.heap.size + 1 = w1.heap.size ∧ ¬ w1.heap.size + 1 = g ∧ ¬ g = w.heap.size ∧ ¬ g = w.heap.size + 1 ∧ ¬ g = w.heap.size + 1 + 1 ∧ ¬ g = w1.heap.size ∧ ¬ g = w1.heap.size + 1 := c_31
    go_region_held3 (fun w' => (∀ b o, b < W.heap.size → w'.cell? ⟨b, o, none⟩ = if b = w1.heap.size + 1 ∧ 2 ≤ o ∧ o < 4 ∨ b = w1.heap.size ∧ o = 4 then (W.cell? ⟨b, o, none⟩).map (obx w' b o) else W.cell? ⟨b, o, none⟩) ∧ (∀ b o, b < W.heap.size → w'.frozen? ⟨b, o, none⟩ = W.frozen? ⟨b, o, none⟩) ∧ W.heap.size ≤ w'.heap.size ∧ ExtP w w1.heap.size 4 w') (first | (with_reducible exact hel0 hWe) | (with_reducible exact hel1p c_1 c_1) | (with_reducible exact hel1 c_1 c_1) | (with_reducible exact hel3d c_1) | (with_reducible exact hel3 c_1) | ((with_reducible refine hel4 c_1 ?_ ?_) <;> omega) | (repeat (first | (with_reducible assumption) | (with_reducible refine hel2 ?_ c_3 c_10)))) ((first | (go_at_call 145; (with_reducible refine (d_mul w1.heap.size r3.e a.a a.b b.e b.f _ c_16 c_28 ka1 kb3).mono ?_); (generalize hr4 : doI r3.e (mulI a.a a.b b.e b.f) = r4); rintro e w2 ⟨rfl, hb0⟩; have hz0 := hb0.size; (try simp only [size_drew, World.size_setCell] at hz0); obtain ⟨hg0, hh0⟩ := hb0.got (u := .int .i64 (r3.e)) c_16; have hob0 := obx_of hg0; (try simp only [frozen_drew] at hh0)) | (go_at_call 145; (with_reducible refine (d_sub w1.heap.size r4.e r3.lo r3.hi r4.lo r4.hi _ c_17 c_44).mono ?_); (generalize hr5 : doI r4.e (subI r3.lo r3.hi r4.lo r4.hi) = r5); rintro e w3 ⟨rfl, hb1⟩; have hz1 := hb1.size; (try simp only [World.size_setCell] at hz1); obtain ⟨hg1, hh1⟩ := hb1.got (u := .int .i64 (r4.e)) c_17; have hob1 := obx_of hg1; (try simp only [frozen_drew] at hh1))))
    rename_i hOld
    have hE := hOld.2.2.2
    have hO := And.intro hOld.1 (And.intro hOld.2.1 hOld.2.2.1)
    clear hOld
    replace hO := helBack hO c_3
    replace hO := helBack hO c_3
    obtain ⟨hOc, hOf, hOz⟩ := helEnd hO
    clear hO
    have hlu : w.heap.size < w3.heap.size ∧ w.heap.size + 1 < w3.heap.size ∧ w.heap.size + 1 + 1 < w3.heap.size ∧ w1.heap.size < w3.heap.size ∧ w1.heap.size + 1 < w3.heap.size ∧ g < w3.heap.size := c_26
    go_wp2_with fail
    rw [rounds_succ]
    go_upto_region 10 with fail
    refine wp_name fun V hV => ?_
    obtain ⟨hVc, hVf, hVz⟩ := hV.cells
    have hVe : ExtP w w1.heap.size 4 V := ExtP.same hV c_18
    (try simp only [World.size_setCell] at hVz)
    replace hVz := And.intro (Nat.le_of_eq hVz) (Nat.le_of_eq hVz.symm)
    have hlv : w.heap.size < V.heap.size ∧ w.heap.size + 1 < V.heap.size ∧ w.heap.size + 1 + 1 < V.heap.size ∧ w1.heap.size < V.heap.size ∧ w1.heap.size + 1 < V.heap.size := c_55
    have hd : ¬ w.heap.size = w.heap.size + 1 ∧ ¬ w.heap.size = w.heap.size + 1 + 1 ∧ ¬ w.heap.size = w1.heap.size ∧ ¬ w.heap.size = w1.heap.size + 1 ∧ ¬ w.heap.size + 1 = w.heap.size ∧ ¬ w.heap.size + 1 = w.heap.size + 1 + 1 ∧ ¬ w.heap.size + 1 = w1.heap.size ∧ ¬ w.heap.size + 1 = w1.heap.size + 1 ∧ ¬ w.heap.size + 1 + 1 = w.heap.size ∧ ¬ w.heap.size + 1 + 1 = w.heap.size + 1 ∧ ¬ w.heap.size + 1 + 1 = w1.heap.size ∧ ¬ w.heap.size + 1 + 1 = w1.heap.size + 1 ∧ ¬ w1.heap.size = w.heap.size ∧ ¬ w1.heap.size = w.heap.size + 1 ∧ ¬ w1.heap.size = w.heap.size + 1 + 1 ∧ ¬ w1.heap.size = w1.heap.size + 1 ∧ ¬ w1.heap.size + 1 = w.heap.size ∧ ¬ w1.heap.size + 1 = w.heap.size + 1 ∧ ¬ w1.heap.size + 1 = w.heap.size + 1 + 1 ∧ ¬ w1.heap.size + 1 = w1.heap.size := c_42
    have hnv : ¬ w.heap.size = V.heap.size ∧ ¬ w.heap.size + 1 = V.heap.size ∧ ¬ w.heap.size + 1 + 1 = V.heap.size ∧ ¬ w1.heap.size = V.heap.size ∧ ¬ w1.heap.size + 1 = V.heap.size := (by omega)
    go_cut [12] (fun sx wx => ∃ (g : Nat) (r6 : R3), sx = .pointer (some ⟨g, 0, none⟩) ∧ (doI (r5.e) (mulI a.a a.b b.c b.d) = r6) ∧ ExtP V w1.heap.size 4 wx ∧ V.heap.size ≤ g ∧ g < wx.heap.size ∧ (∀ o, wx.frozen? ⟨g, o, none⟩ = false) ∧ wx.cell? ⟨w1.heap.size, 4, none⟩ = some (.int .i64 (r6.e)) ∧ wx.frozen? ⟨w1.heap.size, 4, none⟩ = false ∧ wx.cell? ⟨g, 0, none⟩ = some (.int .i64 r6.lo) ∧ wx.cell? ⟨g, 1, none⟩ = some (.int .i64 r6.hi))
    case first =>
     have hWe : ExtP V w1.heap.size 4 V := ExtP.of _ _ (Ext.refl V)
     go_region_held3 (fun w' => (∀ b o, b < V.heap.size → w'.cell? ⟨b, o, none⟩ = if b = w1.heap.size ∧ 0 ≤ o ∧ o < 0 ∨ b = w1.heap.size ∧ o = 4 then (V.cell? ⟨b, o, none⟩).map (obx w' b o) else V.cell? ⟨b, o, none⟩) ∧ (∀ b o, b < V.heap.size → w'.frozen? ⟨b, o, none⟩ = V.frozen? ⟨b, o, none⟩) ∧ V.heap.size ≤ w'.heap.size ∧ ExtP V w1.heap.size 4 w') (first | (with_reducible exact hel0 hWe) | (with_reducible exact hel1p c_1 c_1) | (with_reducible exact hel1 c_1 c_1) | (with_reducible exact hel3d c_1) | (with_reducible exact hel3 c_1) | ((with_reducible refine hel4 c_1 ?_ ?_) <;> omega) | (repeat (first | (with_reducible assumption) | (with_reducible refine hel2 ?_ c_3 c_10)))) ((first | (go_at_call 145; (with_reducible refine (d_mul w1.heap.size (r5.e) a.a a.b b.c b.d _ c_16 c_28 ka1 kb2).mono ?_); (generalize hr6 : doI (r5.e) (mulI a.a a.b b.c b.d) = r6); rintro e w2 ⟨rfl, hb0⟩; have hz0 := hb0.size; obtain ⟨hg0, hh0⟩ := hb0.got (u := .int .i64 (r5.e)) c_16; have hob0 := obx_of hg0; (try simp only [frozen_drew] at hh0); obtain ⟨hq0, hv0⟩ := hb0.cells; (try simp only [size_drew, World.size_alloc, World.size_setCell] at hz0 hq0 hv0); (try have hlx0 : w.heap.size < w2.heap.size ∧ ¬ w.heap.size = w2.heap.size ∧ w.heap.size + 1 < w2.heap.size ∧ ¬ w.heap.size + 1 = w2.heap.size ∧ w.heap.size + 1 + 1 < w2.heap.size ∧ ¬ w.heap.size + 1 + 1 = w2.heap.size ∧ w1.heap.size < w2.heap.size ∧ ¬ w1.heap.size = w2.heap.size ∧ w1.heap.size + 1 < w2.heap.size ∧ ¬ w1.heap.size + 1 = w2.heap.size := by omega); (try have hly0 : V.heap.size < w2.heap.size := by omega))))
     all_goals
      rename_i hOld
      clear hOld
      go_wp2_with fail
      go_meet
      refine ⟨_, _, rfl, hr6, ?_, ?_, ?_, ?_, ?_, ?_, ?_, ?_⟩
      ·(repeat (first | with_reducible refine ExtP.set ?_ | (with_reducible refine ExtP.store ?_ ?_; rotate_left; (focus ((try simp only []); omega))) | with_reducible refine ExtP.ext ?_ ((Ext.refl _).alloc _) | with_reducible refine ExtP.ext ?_ ((Ext.refl _).drew) | with_reducible assumption | with_reducible exact ExtP.of _ _ (Ext.refl V) | with_reducible refine ExtP.ext ?_ c_1))
      ·(try simp only [wsz]); omega
      ·(try simp only [wsz]); omega
      ·intro o; simp [go_sem, *]
      ·simp [go_sem, *]
      ·simp [go_sem, *]
      all_goals simp [go_sem, *]
    case rest =>
     obtain ⟨g, r6, rfl, hr6, hx, hg1, hg2, hgf, hpc, hpf, hv0, hv1⟩ := hcut
     obtain ⟨hcc, hcf, hcz⟩ := ExtP.cells2 hx hpc
     replace hVe := hVe.trans hx
     have hlv2 : w.heap.size < wc.heap.size ∧ w.heap.size + 1 < wc.heap.size ∧ w.heap.size + 1 + 1 < wc.heap.size ∧ w1.heap.size < wc.heap.size ∧ w1.heap.size + 1 < wc.heap.size := (by omega)
     have hlg : w.heap.size < g ∧ ¬ w.heap.size = g ∧ ¬ g = w.heap.size ∧ w.heap.size + 1 < g ∧ ¬ w.heap.size + 1 = g ∧ ¬ g = w.heap.size + 1 ∧ w.heap.size + 1 + 1 < g ∧ ¬ w.heap.size + 1 + 1 = g ∧ ¬ g = w.heap.size + 1 + 1 ∧ w1.heap.size < g ∧ ¬ w1.heap.size = g ∧ ¬ g = w1.heap.size ∧ w1.heap.size + 1 < g ∧ ¬ w1.heap.size + 1 = g ∧ ¬ g = w1.heap.size + 1 := (by omega)
     clear hx
     go_wp2_with fail
     refine wp_name fun W hW => ?_
     obtain ⟨hWc, hWf, hWz⟩ := hW.cells
     have hWe : ExtP w w1.heap.size 4 W := ExtP.same hW c_7
     (try simp only [wsz] at hWz)
     replace hWz := And.intro (Nat.le_of_eq hWz) (Nat.le_of_eq hWz.symm)
     have hlt : w.heap.size < W.heap.size ∧ w.heap.size + 1 < W.heap.size ∧ w.heap.size + 1 + 1 < W.heap.size ∧ w1.heap.size < W.heap.size ∧ w1.heap.size + 1 < W.heap.size ∧ g < W.heap.size := c_26
     have hd : ¬ w.heap.size = w.heap.size + 1 ∧ ¬ w.heap.size = w.heap.size + 1 + 1 ∧ ¬ w.heap.size = w1.heap.size ∧ ¬ w.heap.size = w1.heap.size + 1 ∧ ¬ w.heap.size = g ∧ ¬ w.heap.size + 1 = w.heap.size ∧ ¬ w.heap.size + 1 = w.heap.size + 1 + 1 ∧ ¬ w.heap.size + 1 = w1.heap.size ∧ ¬ w.heap.size + 1 = w1.heap.size + 1 ∧ ¬ w.heap.size + 1 = g ∧ ¬ w.heap.size + 1 + 1 = w.heap.size ∧ ¬ w.heap.size + 1 + 1 = w.heap.size + 1 ∧ ¬ w.heap.size + 1 + 1 = w1.heap.size ∧ ¬ w.heap.size + 1 + 1 = w1.heap.size + 1 ∧ ¬ w.heap.size + 1 + 1 = g ∧ ¬ w1.heap.size = w.heap.size ∧ ¬ w1.heap.size = w.heap.size + 1 ∧ ¬ w1.heap.size = w.heap.size + 1 + 1 ∧ ¬ w1.heap.size = w1.heap.size + 1 ∧ ¬ w1.heap.size = g ∧ ¬ w1.heap.size + 1 = w.heap.size ∧ ¬ w1.heap.size + 1 = w.heap.size + 1 ∧ ¬ w1.heap.size + 1 = w.heap.size + 1 + 1 ∧ ¬ w1.heap.size + 1 = w1.heap.size ∧ ¬ w1.heap.size + 1 = g ∧ ¬ g = w.heap.size ∧ ¬ g = w.heap.size + 1 ∧ ¬ g = w.heap.size + 1 + 1 ∧ ¬ g = w1.heap.size ∧ ¬ g = w1.heap.size + 1 := c_31
     go_region_held3 (fun w' => (∀ b o, b < W.heap.size → w'.cell? ⟨b, o, none⟩ = if b = w1.heap.size + 1 ∧ 4 ≤ o ∧ o < 6 ∨ b = w1.heap.size ∧ o = 4 then (W.cell? ⟨b, o, none⟩).map (obx w' b o) else W.cell? ⟨b, o, none⟩) ∧ (∀ b o, b < W.heap.size → w'.frozen? ⟨b, o, none⟩ = W.frozen? ⟨b, o, none⟩) ∧ W.heap.size ≤ w'.heap.size ∧ ExtP w w1.heap.size 4 w') (first | (with_reducible exact hel0 hWe) | (with_reducible exact hel1p c_1 c_1) | (with_reducible exact hel1 c_1 c_1) | (with_reducible exact hel3d c_1) | (with_reducible exact hel3 c_1) | ((with_reducible refine hel4 c_1 ?_ ?_) <;> omega) | (repeat (first | (with_reducible assumption) | (with_reducible refine hel2 ?_ c_3 c_10)))) ((first | (go_at_call 145; (with_reducible refine (d_mul w1.heap.size r6.e a.c a.d b.a b.b _ c_16 c_28 ka2 kb1).mono ?_); (generalize hr7 : doI r6.e (mulI a.c a.d b.a b.b) = r7); rintro e w2 ⟨rfl, hb0⟩; have hz0 := hb0.size; (try simp only [size_drew, World.size_setCell] at hz0); obtain ⟨hg0, hh0⟩ := hb0.got (u := .int .i64 (r6.e)) c_16; have hob0 := obx_of hg0; (try simp only [frozen_drew] at hh0)) | (go_at_call 145; (with_reducible refine (d_sub w1.heap.size r7.e r6.lo r6.hi r7.lo r7.hi _ c_17 c_44).mono ?_); (generalize hr8 : doI r7.e (subI r6.lo r6.hi r7.lo r7.hi) = r8); rintro e w3 ⟨rfl, hb1⟩; have hz1 := hb1.size; (try simp only [World.size_setCell] at hz1); obtain ⟨hg1, hh1⟩ := hb1.got (u := .int .i64 (r7.e)) c_17; have hob1 := obx_of hg1; (try simp only [frozen_drew] at hh1))))
     rename_i hOld
     have hE := hOld.2.2.2
     have hO := And.intro hOld.1 (And.intro hOld.2.1 hOld.2.2.1)
     clear hOld
     replace hO := helBack hO c_3
     replace hO := helBack hO c_3
     obtain ⟨hOc, hOf, hOz⟩ := helEnd hO
     clear hO
     have hlu : w.heap.size < w3.heap.size ∧ w.heap.size + 1 < w3.heap.size ∧ w.heap.size + 1 + 1 < w3.heap.size ∧ w1.heap.size < w3.heap.size ∧ w1.heap.size + 1 < w3.heap.size ∧ g < w3.heap.size := c_26
     go_wp2_with fail
     rw [rounds_succ]
     go_wp2_with (first | (go_at_call 150; (with_reducible refine (s_vec6 w1.heap.size (r8.e) (r2.lo) (r2.hi) (r5.lo) (r5.hi) (r8.lo) (r8.hi) _ c_35).mono ?_); rintro e w9 ⟨rfl, hb⟩; obtain ⟨_, _, hc, hf⟩ := hb.cells2; have hz := hb.size; (try simp only [World.size_setCell] at hz hc hf)))
     refine bodyPost_ret (v := .tuple #[.agg #[.int .i64 ((crsV a b).v).a, .int .i64 ((crsV a b).v).b, .int .i64 ((crsV a b).v).c, .int .i64 ((crsV a b).v).d, .int .i64 ((crsV a b).v).e, .int .i64 ((crsV a b).v).f], .int .i64 (crsV a b).e]) ?_ rfl ⟨rfl, ?_⟩
     ·(try simp only [bne_eq_false_iff_eq] at *)
      simp [results, Tryz.results85, go_sem, crsV, crs2, crs1, crs0, mmI, mm1, mm0, v3, *]
     ·refine ExtP.out (p := w1.heap.size) (k := 4) ?_ (by omega)
      (repeat (first | with_reducible refine ExtP.set ?_ | (with_reducible refine ExtP.store ?_ ?_; rotate_left; (focus ((try simp only []); omega))) | with_reducible refine ExtP.ext ?_ ((Ext.refl _).alloc _) | with_reducible refine ExtP.ext ?_ ((Ext.refl _).drew) | with_reducible assumption | with_reducible exact ExtP.of _ _ (Ext.refl w) | with_reducible refine ExtP.ext ?_ c_1))
end Go.Proofs.YtogblocakccbgaaGreat
