/- sphere: the product of two vectors on a sheet. -/
import Derived.Test.YtomgcjeahkmhiaaSphB
import Derived.Deep.CutBlock
import Derived.Deep.DeepCutAuto
namespace Go.Proofs.Ytomgcjeahkmhiaa
open Go.RowKit

set_option maxRecDepth 100000 in
set_option maxHeartbeats 4000000 in
theorem d_dot (p : Nat) (E : Int) (a b : V3) (w : World) (hc : w.cell? ⟨p, 4, none⟩ = some (.int .i64 E)) (hf : w.frozen? ⟨p, 4, none⟩ = false) (hc0 : w.cell? ⟨p, 0, none⟩ = some (.func (.func 29) #[] #[])) (hc2 : w.cell? ⟨p, 2, none⟩ = some (.func (.func 40) #[] #[])) (ha : a.I) (hb0 : b.I) :
    Calls Try.prog 46 #[.pointer (some ⟨p, 0, none⟩), .agg #[.int .i64 a.a, .int .i64 a.b, .int .i64 a.c, .int .i64 a.d, .int .i64 a.e, .int .i64 a.f], .agg #[.int .i64 b.a, .int .i64 b.b, .int .i64 b.c, .int .i64 b.d, .int .i64 b.e, .int .i64 b.f]] w fun e w' => e = .returned (.agg #[.int .i64 (dotI E a b).lo, .int .i64 (dotI E a b).hi]) ∧ Ext (w.setCell ⟨p, 4, none⟩ (.int .i64 ((dotI E a b).e))) w' := by
  have hp : p < w.heap.size := World.block_lt_of_cell? w _ hc
  obtain ⟨ha1, ha2, ha3⟩ := ha
  obtain ⟨hb1, hb2, hb3⟩ := hb0
  have l0 : IntKind.i64.wrap 0 = 0 := rfl
  have l1 : IntKind.i64.wrap 1 = 1 := rfl
  have l2 : IntKind.i64.wrap 2 = 2 := rfl
  have l3 : IntKind.i64.wrap 3 = 3 := rfl
  go_enter Try.func46, Try.ntmps46
  go_upto_region 1 with fail
  refine wp_name fun V hV => ?_
  obtain ⟨hVc, hVf, hVz⟩ := hV.cells
  have hVe : ExtP w p 4 V := ExtP.same hV (by (repeat (first | with_reducible refine ExtP.set ?_ | (with_reducible refine ExtP.store ?_ ?_; rotate_left; (focus ((try simp only [World.size_alloc, World.size_setCell]); omega))) | with_reducible refine ExtP.ext ?_ ((Ext.refl _).alloc _) | with_reducible refine ExtP.ext ?_ ((Ext.refl _).drew) | with_reducible assumption | with_reducible exact ExtP.of _ _ (Ext.refl w) | with_reducible refine ExtP.ext ?_ (by with_reducible assumption))))
  (try simp only [World.size_alloc] at hVz)
  replace hVz := And.intro (Nat.le_of_eq hVz) (Nat.le_of_eq hVz.symm)
  have hlv : w.heap.size < V.heap.size ∧ w.heap.size + 1 < V.heap.size ∧ w.heap.size + 1 + 1 < V.heap.size ∧ p < V.heap.size := (by refine ⟨?_, ?_, ?_, ?_⟩ <;> omega)
  have hd : ¬ w.heap.size = w.heap.size + 1 ∧ ¬ w.heap.size = w.heap.size + 1 + 1 ∧ ¬ w.heap.size = p ∧ ¬ w.heap.size + 1 = w.heap.size ∧ ¬ w.heap.size + 1 = w.heap.size + 1 + 1 ∧ ¬ w.heap.size + 1 = p ∧ ¬ w.heap.size + 1 + 1 = w.heap.size ∧ ¬ w.heap.size + 1 + 1 = w.heap.size + 1 ∧ ¬ w.heap.size + 1 + 1 = p ∧ ¬ p = w.heap.size ∧ ¬ p = w.heap.size + 1 ∧ ¬ p = w.heap.size + 1 + 1 := (by refine ⟨?_, ?_, ?_, ?_, ?_, ?_, ?_, ?_, ?_, ?_, ?_, ?_⟩ <;> omega)
  have hnv : ¬ w.heap.size = V.heap.size ∧ ¬ w.heap.size + 1 = V.heap.size ∧ ¬ w.heap.size + 1 + 1 = V.heap.size ∧ ¬ p = V.heap.size := (by omega)
  go_cut [7] (fun sx wx => ∃ (g : Nat) (r0 : R3), sx = .pointer (some ⟨g, 0, none⟩) ∧ (doI E (mulI a.a a.b b.a b.b) = r0) ∧ ExtP V p 4 wx ∧ V.heap.size ≤ g ∧ g < wx.heap.size ∧ (∀ o, wx.frozen? ⟨g, o, none⟩ = false) ∧ wx.cell? ⟨p, 4, none⟩ = some (.int .i64 (r0.e)) ∧ wx.frozen? ⟨p, 4, none⟩ = false ∧ wx.cell? ⟨g, 0, none⟩ = some (.int .i64 r0.lo) ∧ wx.cell? ⟨g, 1, none⟩ = some (.int .i64 r0.hi))
  case first =>
    have hWe : ExtP V p 4 V := ExtP.of _ _ (Ext.refl V)
    go_region_held3 (fun w' => (∀ b o, b < V.heap.size → w'.cell? ⟨b, o, none⟩ = if b = p ∧ 0 ≤ o ∧ o < 0 ∨ b = p ∧ o = 4 then (V.cell? ⟨b, o, none⟩).map (obx w' b o) else V.cell? ⟨b, o, none⟩) ∧ (∀ b o, b < V.heap.size → w'.frozen? ⟨b, o, none⟩ = V.frozen? ⟨b, o, none⟩) ∧ V.heap.size ≤ w'.heap.size ∧ ExtP V p 4 w') (first | (with_reducible exact hel0 hWe) | (with_reducible exact hel1p (by with_reducible assumption) (by with_reducible assumption)) | (with_reducible exact hel1 (by with_reducible assumption) (by with_reducible assumption)) | (with_reducible exact hel3d (by with_reducible assumption)) | (with_reducible exact hel3 (by with_reducible assumption)) | ((with_reducible refine hel4 (by with_reducible assumption) ?_ ?_) <;> omega) | (repeat (first | (with_reducible assumption) | (with_reducible refine hel2 ?_ (by first | (refine Or.inl ⟨?_, ?_, ?_⟩ <;> (first | rfl | (dsimp only; omega))) | (refine Or.inr (Or.inl ⟨?_, ?_⟩) <;> (first | rfl | (dsimp only; omega))) | (refine Or.inr (Or.inr ?_); (try dsimp only); (try simp only [World.size_alloc, World.size_setCell]); omega)) (by (try dsimp only); (try simp only [World.size_alloc, World.size_setCell]); omega))))) ((first | (go_at_call 44; (with_reducible refine (d_mul p (E) a.a a.b b.a b.b _ (by (try simp only [cell_drew]); first | with_reducible assumption | (rw [cell_al, if_neg (by (try simp only [size_drew]); omega)]; (try simp only [cell_drew]); with_reducible assumption) | simp [go_sem, *]) (by (try simp only [frozen_drew]); first | with_reducible assumption | (rw [cell_al, if_neg (by (try simp only [size_drew]); omega)]; (try simp only [cell_drew]); with_reducible assumption) | simp [go_sem, *]) ha1 hb1).mono ?_); (generalize hr0 : doI (E) (mulI a.a a.b b.a b.b) = r0); rintro e w2 ⟨rfl, hb0⟩; have hz0 := hb0.size; obtain ⟨hg0, hh0⟩ := hb0.got (u := .int .i64 (E)) (by (try simp only [cell_drew]); first | with_reducible assumption | (rw [cell_al, if_neg (by (try simp only [size_drew]); omega)]; (try simp only [cell_drew]); with_reducible assumption) | simp [go_sem, *]); have hob0 := obx_of hg0; (try simp only [frozen_drew] at hh0); obtain ⟨hq0, hv0⟩ := hb0.cells; (try simp only [size_drew, World.size_alloc, World.size_setCell] at hz0 hq0 hv0); (try have hlx0 : w.heap.size < w2.heap.size ∧ ¬ w.heap.size = w2.heap.size ∧ w.heap.size + 1 < w2.heap.size ∧ ¬ w.heap.size + 1 = w2.heap.size ∧ w.heap.size + 1 + 1 < w2.heap.size ∧ ¬ w.heap.size + 1 + 1 = w2.heap.size ∧ p < w2.heap.size ∧ ¬ p = w2.heap.size := by omega); (try have hly0 : V.heap.size < w2.heap.size := by omega))))
    all_goals
      rename_i hOld
      clear hOld
      go_wp2_with fail
      go_meet
      refine ⟨_, _, rfl, hr0, ?_, ?_, ?_, ?_, ?_, ?_, ?_, ?_⟩
      · (repeat (first | with_reducible refine ExtP.set ?_ | (with_reducible refine ExtP.store ?_ ?_; rotate_left; (focus ((try simp only []); omega))) | with_reducible refine ExtP.ext ?_ ((Ext.refl _).alloc _) | with_reducible refine ExtP.ext ?_ ((Ext.refl _).drew) | with_reducible assumption | with_reducible exact ExtP.of _ _ (Ext.refl V) | with_reducible refine ExtP.ext ?_ (by with_reducible assumption)))
      · (try simp only [World.size_alloc, World.size_setCell]); omega
      · (try simp only [World.size_alloc, World.size_setCell]); omega
      · intro o; simp [go_sem, *]
      · simp [go_sem, *]
      · simp [go_sem, *]
      all_goals simp [go_sem, *]
  case rest =>
    obtain ⟨g, r0, rfl, hr0, hx, hg1, hg2, hgf, hpc, hpf, hv0, hv1⟩ := hcut
    obtain ⟨hcc, hcf, hcz⟩ := ExtP.cells2 hx hpc
    replace hVe := hVe.trans hx
    have hlv2 : w.heap.size < wc.heap.size ∧ w.heap.size + 1 < wc.heap.size ∧ w.heap.size + 1 + 1 < wc.heap.size ∧ p < wc.heap.size := (by omega)
    have hlg : w.heap.size < g ∧ ¬ w.heap.size = g ∧ ¬ g = w.heap.size ∧ w.heap.size + 1 < g ∧ ¬ w.heap.size + 1 = g ∧ ¬ g = w.heap.size + 1 ∧ w.heap.size + 1 + 1 < g ∧ ¬ w.heap.size + 1 + 1 = g ∧ ¬ g = w.heap.size + 1 + 1 ∧ p < g ∧ ¬ p = g ∧ ¬ g = p := (by omega)
    clear hx
    go_wp2_with fail
    refine wp_loop_rounds 3 ?_
    rw [rounds_succ]
    go_wp2_with fail
    refine wp_name fun W hW => ?_
    obtain ⟨hWc, hWf, hWz⟩ := hW.cells
    have hWe : ExtP w p 4 W := ExtP.same hW (by (repeat (first | with_reducible refine ExtP.set ?_ | (with_reducible refine ExtP.store ?_ ?_; rotate_left; (focus ((try simp only [World.size_alloc, World.size_setCell]); omega))) | with_reducible refine ExtP.ext ?_ ((Ext.refl _).alloc _) | with_reducible refine ExtP.ext ?_ ((Ext.refl _).drew) | with_reducible assumption | with_reducible exact ExtP.of _ _ (Ext.refl w) | with_reducible refine ExtP.ext ?_ (by with_reducible assumption))))
    (try simp only [World.size_alloc, World.size_setCell] at hWz)
    replace hWz := And.intro (Nat.le_of_eq hWz) (Nat.le_of_eq hWz.symm)
    have hlt : w.heap.size < W.heap.size ∧ w.heap.size + 1 < W.heap.size ∧ w.heap.size + 1 + 1 < W.heap.size ∧ p < W.heap.size ∧ g < W.heap.size := (by refine ⟨?_, ?_, ?_, ?_, ?_⟩ <;> omega)
    have hd : ¬ w.heap.size = w.heap.size + 1 ∧ ¬ w.heap.size = w.heap.size + 1 + 1 ∧ ¬ w.heap.size = p ∧ ¬ w.heap.size = g ∧ ¬ w.heap.size + 1 = w.heap.size ∧ ¬ w.heap.size + 1 = w.heap.size + 1 + 1 ∧ ¬ w.heap.size + 1 = p ∧ ¬ w.heap.size + 1 = g ∧ ¬ w.heap.size + 1 + 1 = w.heap.size ∧ ¬ w.heap.size + 1 + 1 = w.heap.size + 1 ∧ ¬ w.heap.size + 1 + 1 = p ∧ ¬ w.heap.size + 1 + 1 = g ∧ ¬ p = w.heap.size ∧ ¬ p = w.heap.size + 1 ∧ ¬ p = w.heap.size + 1 + 1 ∧ ¬ p = g ∧ ¬ g = w.heap.size ∧ ¬ g = w.heap.size + 1 ∧ ¬ g = w.heap.size + 1 + 1 ∧ ¬ g = p := (by refine ⟨?_, ?_, ?_, ?_, ?_, ?_, ?_, ?_, ?_, ?_, ?_, ?_, ?_, ?_, ?_, ?_, ?_, ?_, ?_, ?_⟩ <;> omega)
    have hod0 : ∀ x, obx W.drew g 0 x = (.int .i64 r0.lo : Value) := obx_of (show W.drew.cell? ⟨g, 0, none⟩ = some (.int .i64 r0.lo : Value) from by (try simp only [cell_drew]); simp [go_sem, *])
    have hod1 : ∀ x, obx W.drew g 1 x = (.int .i64 r0.hi : Value) := obx_of (show W.drew.cell? ⟨g, 1, none⟩ = some (.int .i64 r0.hi : Value) from by (try simp only [cell_drew]); simp [go_sem, *])
    refine wp_region_held_drew (S := (fun w' => (∀ b o, b < W.heap.size → w'.cell? ⟨b, o, none⟩ = if b = g ∧ 0 ≤ o ∧ o < 2 ∨ b = p ∧ o = 4 then (W.cell? ⟨b, o, none⟩).map (obx w' b o) else W.cell? ⟨b, o, none⟩) ∧ (∀ b o, b < W.heap.size → w'.frozen? ⟨b, o, none⟩ = W.frozen? ⟨b, o, none⟩) ∧ W.heap.size ≤ w'.heap.size ∧ ExtP w p 4 w')) (by kernel_rfl) ?_ (fun hHeld => ?_)
    · (try dsimp only); (first | (with_reducible exact hel0 hWe) | (with_reducible exact hel1p (by with_reducible assumption) (by with_reducible assumption)) | (with_reducible exact hel1 (by with_reducible assumption) (by with_reducible assumption)) | (with_reducible exact hel3d (by with_reducible assumption)) | (with_reducible exact hel3 (by with_reducible assumption)) | ((with_reducible refine hel4 (by with_reducible assumption) ?_ ?_) <;> omega) | (repeat (first | (with_reducible assumption) | (with_reducible refine hel2 ?_ (by first | (refine Or.inl ⟨?_, ?_, ?_⟩ <;> (first | rfl | (dsimp only; omega))) | (refine Or.inr (Or.inl ⟨?_, ?_⟩) <;> (first | rfl | (dsimp only; omega))) | (refine Or.inr (Or.inr ?_); (try dsimp only); (try simp only [World.size_alloc, World.size_setCell]); omega)) (by (try dsimp only); (try simp only [World.size_alloc, World.size_setCell]); omega)))))
    refine wpAnyH_take (i := 0) (oi := _) (v := ?_) rfl (by kernel_rfl) (by kernel_rfl) (by kernel_rfl) (fun _ _ _ h => h) (Or.inl ⟨by rfl, ?_⟩) (by assumption) ?_
    rotate_left
    · intro w0 hSw; (try dsimp only at hSw); go_simp; try with_reducible rfl
    try simp only [Act.put, List.setIfInBounds_toArray]
    refine wpAnyH_take (i := 1) (oi := _) (v := ?_) rfl (by kernel_rfl) (by kernel_rfl) (by kernel_rfl) (fun _ _ _ h => h) (Or.inl ⟨by rfl, ?_⟩) (by assumption) ?_
    rotate_left
    · intro w0 hSw; (try dsimp only at hSw); go_simp; try with_reducible rfl
    try simp only [Act.put]
    refine wpAnyH_take (i := 2) (oi := _) (v := ?_) rfl (by kernel_rfl) (by kernel_rfl) (by kernel_rfl) (fun _ _ _ h => h) (Or.inl ⟨by rfl, ?_⟩) (by assumption) ?_
    rotate_left
    · intro w0 hSw; (try dsimp only at hSw); go_simp; try with_reducible rfl
    try simp only [Act.put]
    refine wpAnyH_take (i := 3) (oi := _) (v := ?_) rfl (by kernel_rfl) (by kernel_rfl) (by kernel_rfl) (fun _ _ _ h => h) (Or.inl ⟨by rfl, ?_⟩) (by assumption) ?_
    rotate_left
    · intro w0 hSw; (try dsimp only at hSw); go_simp; try with_reducible rfl
    try simp only [Act.put]
    refine wpAnyH_take (i := 4) (oi := _) (v := ?_) rfl (by kernel_rfl) (by kernel_rfl) (by kernel_rfl) (fun _ _ _ h => h) (Or.inl ⟨by rfl, ?_⟩) (by assumption) ?_
    rotate_left
    · intro w0 hSw; (try dsimp only at hSw); go_simp; try with_reducible rfl
    try simp only [Act.put]
    refine wpAnyH_take (i := 6) (oi := _) (v := ?_) rfl (by kernel_rfl) (by kernel_rfl) (by kernel_rfl) (fun _ _ _ h => h) (Or.inl ⟨by rfl, ?_⟩) (by assumption) ?_
    rotate_left
    · intro w0 hSw; (try dsimp only at hSw); go_simp; try with_reducible rfl
    try simp only [Act.put]
    refine wpAnyH_take (i := 7) (oi := _) (v := ?_) rfl (by kernel_rfl) (by kernel_rfl) (by kernel_rfl) (fun _ _ _ h => h) (Or.inl ⟨by rfl, ?_⟩) (by assumption) ?_
    rotate_left
    · intro w0 hSw; (try dsimp only at hSw); go_simp; try with_reducible rfl
    try simp only [Act.put]
    refine wpAnyH_take (i := 8) (oi := _) (v := ?_) rfl (by kernel_rfl) (by kernel_rfl) (by kernel_rfl) (fun _ _ _ h => h) (Or.inl ⟨by rfl, ?_⟩) (by assumption) ?_
    rotate_left
    · intro w0 hSw; (try dsimp only at hSw); go_simp; try with_reducible rfl
    try simp only [Act.put]
    refine wpAnyH_take (i := 9) (oi := _) (v := ?_) rfl (by kernel_rfl) (by kernel_rfl) (by kernel_rfl) (fun _ _ _ h => h) (Or.inl ⟨by rfl, ?_⟩) (by assumption) ?_
    rotate_left
    · intro w0 hSw; (try dsimp only at hSw); go_simp; try with_reducible rfl
    try simp only [Act.put]
    refine wpAnyH_take (i := 10) (oi := _) (v := ?_) rfl (by kernel_rfl) (by kernel_rfl) (by kernel_rfl) (fun _ _ _ h => h) (Or.inl ⟨by rfl, ?_⟩) (by assumption) ?_
    rotate_left
    · intro w0 hSw; (try dsimp only at hSw); go_simp; try with_reducible rfl
    try simp only [Act.put]
    refine wpAnyH_take (i := 11) (oi := _) (v := ?_) rfl (by kernel_rfl) (by kernel_rfl) (by kernel_rfl) (fun _ _ _ h => h) (Or.inl ⟨by rfl, ?_⟩) (by assumption) ?_
    rotate_left
    · intro w0 hSw; (try dsimp only at hSw); go_simp; try with_reducible rfl
    try simp only [Act.put]
    refine wpAnyH_take (i := 12) (oi := _) (v := ?_) rfl (by kernel_rfl) (by kernel_rfl) (by kernel_rfl) (fun _ _ _ h => h) (Or.inl ⟨by rfl, ?_⟩) (by assumption) ?_
    rotate_left
    · intro w0 hSw; (try dsimp only at hSw); go_simp; try with_reducible rfl
    try simp only [Act.put]
    refine wpAnyH_take (i := 13) (oi := _) (v := ?_) rfl (by kernel_rfl) (by kernel_rfl) (by kernel_rfl) (fun _ _ _ h => h) (Or.inl ⟨by rfl, ?_⟩) (by assumption) ?_
    rotate_left
    · intro w0 hSw; (try dsimp only at hSw); go_simp; try with_reducible rfl
    try simp only [Act.put]
    refine wpAnyH_take (i := 14) (oi := _) (v := ?_) rfl (by kernel_rfl) (by kernel_rfl) (by kernel_rfl) (fun _ _ _ h => h) (Or.inl ⟨by rfl, ?_⟩) (by assumption) ?_
    rotate_left
    · intro w0 hSw; (try dsimp only at hSw); go_simp; try with_reducible rfl
    try simp only [Act.put]
    refine wpAnyH_take (i := 15) (oi := _) (v := ?_) rfl (by kernel_rfl) (by kernel_rfl) (by kernel_rfl) (fun _ _ _ h => h) (Or.inl ⟨by rfl, ?_⟩) (by assumption) ?_
    rotate_left
    · intro w0 hSw; (try dsimp only at hSw); go_simp; try with_reducible rfl
    try simp only [Act.put]
    refine wpAnyH_take (i := 16) (oi := _) (v := ?_) rfl (by kernel_rfl) (by kernel_rfl) (by kernel_rfl) (fun _ _ _ h => h) (Or.inl ⟨by rfl, ?_⟩) (by assumption) ?_
    rotate_left
    · intro w0 hSw; (try dsimp only at hSw); go_simp; try with_reducible rfl
    try simp only [Act.put]
    refine wpAnyH_take (i := 17) (oi := _) (v := ?_) rfl (by kernel_rfl) (by kernel_rfl) (by kernel_rfl) (fun _ _ _ h => h) (Or.inl ⟨by rfl, ?_⟩) (by assumption) ?_
    rotate_left
    · intro w0 hSw; (try dsimp only at hSw); go_simp; try with_reducible rfl
    try simp only [Act.put]
    refine wpAnyH_take (i := 18) (oi := _) (v := ?_) rfl (by kernel_rfl) (by kernel_rfl) (by kernel_rfl) (fun _ _ _ h => h) (Or.inl ⟨by rfl, ?_⟩) (by assumption) ?_
    rotate_left
    · intro w0 hSw; (try dsimp only at hSw); go_simp; try with_reducible rfl
    try simp only [Act.put]
    refine wpAnyH_ready (rs := [5, 19]) (by kernel_rfl) (by simp) ?_
    refine AllReadyH.cons (o := _) rfl (fun K hK => ?_) ?_
    · go_simp
      refine hK.out _ _ ?_ (fun hHeldN => ?_)
      · (try dsimp only); (first | (with_reducible exact hel0 hWe) | (with_reducible exact hel1p (by with_reducible assumption) (by with_reducible assumption)) | (with_reducible exact hel1 (by with_reducible assumption) (by with_reducible assumption)) | (with_reducible exact hel3d (by with_reducible assumption)) | (with_reducible exact hel3 (by with_reducible assumption)) | ((with_reducible refine hel4 (by with_reducible assumption) ?_ ?_) <;> omega) | (repeat (first | (with_reducible assumption) | (with_reducible refine hel2 ?_ (by first | (refine Or.inl ⟨?_, ?_, ?_⟩ <;> (first | rfl | (dsimp only; omega))) | (refine Or.inr (Or.inl ⟨?_, ?_⟩) <;> (first | rfl | (dsimp only; omega))) | (refine Or.inr (Or.inr ?_); (try dsimp only); (try simp only [World.size_alloc, World.size_setCell]); omega)) (by (try dsimp only); (try simp only [World.size_alloc, World.size_setCell]); omega)))))
      clear hK K hHeld
      have hHeld := hHeldN
      clear hHeldN
      try simp only [Act.put, List.setIfInBounds_toArray, List.set_cons_zero, List.set_cons_succ]
      refine wpAnyH_ready (rs := [19]) (by kernel_rfl) (by simp) ?_
      refine AllReadyH.cons (o := _) rfl (fun K hK => ?_) AllReadyH.nil
      go_simp
      (go_at_call 44; (with_reducible refine (d_mul p (r0.e) a.c a.d b.c b.d _ (by (try simp only [cell_drew]); first | with_reducible assumption | (rw [cell_al, if_neg (by (try simp only [size_drew]); omega)]; (try simp only [cell_drew]); with_reducible assumption) | simp [go_sem, *]) (by (try simp only [frozen_drew]); first | with_reducible assumption | (rw [cell_al, if_neg (by (try simp only [size_drew]); omega)]; (try simp only [cell_drew]); with_reducible assumption) | simp [go_sem, *]) ha2 hb2).mono ?_); (generalize hr1 : doI (r0.e) (mulI a.c a.d b.c b.d) = r1); rintro e w2 ⟨rfl, hb0⟩; have hz0 := hb0.size; (try simp only [size_drew, World.size_setCell] at hz0); obtain ⟨hg0, hh0⟩ := hb0.got (u := .int .i64 (r0.e)) (by (try simp only [cell_drew]); first | with_reducible assumption | (rw [cell_al, if_neg (by (try simp only [size_drew]); omega)]; (try simp only [cell_drew]); with_reducible assumption) | simp [go_sem, *]); have hob0 := obx_of hg0; (try simp only [frozen_drew] at hh0); (have hog00 := obx_of ((hb0.cells.1 g 0 (by (try simp only [size_drew, World.size_setCell]); omega)).trans (show _ = some (.int .i64 r0.lo) from by (try simp only [cell_sc, cell_drew]); simp [go_sem, *]))); (have hog01 := obx_of ((hb0.cells.1 g 1 (by (try simp only [size_drew, World.size_setCell]); omega)).trans (show _ = some (.int .i64 r0.hi) from by (try simp only [cell_sc, cell_drew]); simp [go_sem, *]))))
      refine hK.out _ _ ?_ (fun hHeldN => ?_)
      · (try dsimp only); (first | (with_reducible exact hel0 hWe) | (with_reducible exact hel1p (by with_reducible assumption) (by with_reducible assumption)) | (with_reducible exact hel1 (by with_reducible assumption) (by with_reducible assumption)) | (with_reducible exact hel3d (by with_reducible assumption)) | (with_reducible exact hel3 (by with_reducible assumption)) | ((with_reducible refine hel4 (by with_reducible assumption) ?_ ?_) <;> omega) | (repeat (first | (with_reducible assumption) | (with_reducible refine hel2 ?_ (by first | (refine Or.inl ⟨?_, ?_, ?_⟩ <;> (first | rfl | (dsimp only; omega))) | (refine Or.inr (Or.inl ⟨?_, ?_⟩) <;> (first | rfl | (dsimp only; omega))) | (refine Or.inr (Or.inr ?_); (try dsimp only); (try simp only [World.size_alloc, World.size_setCell]); omega)) (by (try dsimp only); (try simp only [World.size_alloc, World.size_setCell]); omega)))))
      clear hK K hHeld
      have hHeld := hHeldN
      clear hHeldN
      try simp only [Act.put, List.setIfInBounds_toArray, List.set_cons_zero, List.set_cons_succ]
      refine wpAnyH_ready (rs := [20]) (by kernel_rfl) (by simp) ?_
      refine AllReadyH.cons (o := _) rfl (fun K hK => ?_) AllReadyH.nil
      go_simp
      (go_at_call 44; (try simp only [hod0, hod1, hog00, hog01]); (with_reducible refine (d_add p (r1.e) r0.lo r0.hi r1.lo r1.hi _ (by (try simp only [cell_drew, frozen_drew]); first | with_reducible assumption | (rw [cell_al, if_neg (by (try simp only [size_drew]); omega)]; (try simp only [cell_drew]); with_reducible assumption) | simp [go_sem, ↓IntWalk.iteOmega, *]) (by (try simp only [cell_drew, frozen_drew]); first | with_reducible assumption | (rw [cell_al, if_neg (by (try simp only [size_drew]); omega)]; (try simp only [cell_drew]); with_reducible assumption) | simp [go_sem, *])).mono ?_); (generalize hr2 : doI (r1.e) (addI r0.lo r0.hi r1.lo r1.hi) = r2); rintro e w3 ⟨rfl, hb1⟩; have hz1 := hb1.size; (try simp only [World.size_setCell] at hz1); obtain ⟨hg1, hh1⟩ := hb1.got (u := .int .i64 (r1.e)) (by (try simp only [cell_drew, frozen_drew]); first | with_reducible assumption | (rw [cell_al, if_neg (by (try simp only [size_drew]); omega)]; (try simp only [cell_drew]); with_reducible assumption) | simp [go_sem, ↓IntWalk.iteOmega, *]); have hob1 := obx_of hg1; (try simp only [frozen_drew] at hh1))
      refine hK.out _ _ ?_ (fun hHeldN => ?_)
      · (try dsimp only); (first | (with_reducible exact hel0 hWe) | (with_reducible exact hel1p (by with_reducible assumption) (by with_reducible assumption)) | (with_reducible exact hel1 (by with_reducible assumption) (by with_reducible assumption)) | (with_reducible exact hel3d (by with_reducible assumption)) | (with_reducible exact hel3 (by with_reducible assumption)) | ((with_reducible refine hel4 (by with_reducible assumption) ?_ ?_) <;> omega) | (repeat (first | (with_reducible assumption) | (with_reducible refine hel2 ?_ (by first | (refine Or.inl ⟨?_, ?_, ?_⟩ <;> (first | rfl | (dsimp only; omega))) | (refine Or.inr (Or.inl ⟨?_, ?_⟩) <;> (first | rfl | (dsimp only; omega))) | (refine Or.inr (Or.inr ?_); (try dsimp only); (try simp only [World.size_alloc, World.size_setCell]); omega)) (by (try dsimp only); (try simp only [World.size_alloc, World.size_setCell]); omega)))))
      clear hK K hHeld
      have hHeld := hHeldN
      clear hHeldN
      try simp only [Act.put, List.setIfInBounds_toArray, List.set_cons_zero, List.set_cons_succ]
      refine wpAnyH_ready (rs := [21]) (by kernel_rfl) (by simp) ?_
      refine AllReadyH.cons (o := _) rfl (fun K hK => ?_) AllReadyH.nil
      go_simp
      refine hK.out _ _ ?_ (fun hHeldN => ?_)
      · (try dsimp only); (first | (with_reducible exact hel0 hWe) | (with_reducible exact hel1p (by with_reducible assumption) (by with_reducible assumption)) | (with_reducible exact hel1 (by with_reducible assumption) (by with_reducible assumption)) | (with_reducible exact hel3d (by with_reducible assumption)) | (with_reducible exact hel3 (by with_reducible assumption)) | ((with_reducible refine hel4 (by with_reducible assumption) ?_ ?_) <;> omega) | (repeat (first | (with_reducible assumption) | (with_reducible refine hel2 ?_ (by first | (refine Or.inl ⟨?_, ?_, ?_⟩ <;> (first | rfl | (dsimp only; omega))) | (refine Or.inr (Or.inl ⟨?_, ?_⟩) <;> (first | rfl | (dsimp only; omega))) | (refine Or.inr (Or.inr ?_); (try dsimp only); (try simp only [World.size_alloc, World.size_setCell]); omega)) (by (try dsimp only); (try simp only [World.size_alloc, World.size_setCell]); omega)))))
      clear hK K hHeld
      have hHeld := hHeldN
      clear hHeldN
      try simp only [Act.put, List.setIfInBounds_toArray, List.set_cons_zero, List.set_cons_succ]
      refine wpAnyH_done (by kernel_rfl) ?_ _
      have hOld := hHeld
      clear hHeld
      have hE := hOld.2.2.2
      have hO := And.intro hOld.1 (And.intro hOld.2.1 hOld.2.2.1)
      clear hOld
      replace hO := helBack hO (by first | (refine Or.inl ⟨?_, ?_, ?_⟩ <;> (first | rfl | (dsimp only; omega))) | (refine Or.inr (Or.inl ⟨?_, ?_⟩) <;> (first | rfl | (dsimp only; omega))) | (refine Or.inr (Or.inr ?_); (try dsimp only); (try simp only [World.size_alloc, World.size_setCell]); omega))
      replace hO := helBack hO (by first | (refine Or.inl ⟨?_, ?_, ?_⟩ <;> (first | rfl | (dsimp only; omega))) | (refine Or.inr (Or.inl ⟨?_, ?_⟩) <;> (first | rfl | (dsimp only; omega))) | (refine Or.inr (Or.inr ?_); (try dsimp only); (try simp only [World.size_alloc, World.size_setCell]); omega))
      obtain ⟨hOc, hOf, hOz⟩ := helEnd hO
      clear hO
      have hlu : w.heap.size < w3.heap.size ∧ w.heap.size + 1 < w3.heap.size ∧ w.heap.size + 1 + 1 < w3.heap.size ∧ p < w3.heap.size ∧ g < w3.heap.size := (by refine ⟨?_, ?_, ?_, ?_, ?_⟩ <;> omega)
      go_wp2_with fail
      rw [rounds_succ]
      go_wp2_with fail
      refine wp_name fun W hW => ?_
      obtain ⟨hWc, hWf, hWz⟩ := hW.cells
      have hWe : ExtP w p 4 W := ExtP.same hW (by (repeat (first | with_reducible refine ExtP.set ?_ | (with_reducible refine ExtP.store ?_ ?_; rotate_left; (focus ((try simp only []); omega))) | with_reducible refine ExtP.ext ?_ ((Ext.refl _).alloc _) | with_reducible refine ExtP.ext ?_ ((Ext.refl _).drew) | with_reducible assumption | with_reducible exact ExtP.of _ _ (Ext.refl w) | with_reducible refine ExtP.ext ?_ (by with_reducible assumption))))
      (try simp only [World.size_setCell] at hWz)
      replace hWz := And.intro (Nat.le_of_eq hWz) (Nat.le_of_eq hWz.symm)
      have hlt : w.heap.size < W.heap.size ∧ w.heap.size + 1 < W.heap.size ∧ w.heap.size + 1 + 1 < W.heap.size ∧ p < W.heap.size ∧ g < W.heap.size := (by refine ⟨?_, ?_, ?_, ?_, ?_⟩ <;> omega)
      have hd : ¬ w.heap.size = w.heap.size + 1 ∧ ¬ w.heap.size = w.heap.size + 1 + 1 ∧ ¬ w.heap.size = p ∧ ¬ w.heap.size = g ∧ ¬ w.heap.size + 1 = w.heap.size ∧ ¬ w.heap.size + 1 = w.heap.size + 1 + 1 ∧ ¬ w.heap.size + 1 = p ∧ ¬ w.heap.size + 1 = g ∧ ¬ w.heap.size + 1 + 1 = w.heap.size ∧ ¬ w.heap.size + 1 + 1 = w.heap.size + 1 ∧ ¬ w.heap.size + 1 + 1 = p ∧ ¬ w.heap.size + 1 + 1 = g ∧ ¬ p = w.heap.size ∧ ¬ p = w.heap.size + 1 ∧ ¬ p = w.heap.size + 1 + 1 ∧ ¬ p = g ∧ ¬ g = w.heap.size ∧ ¬ g = w.heap.size + 1 ∧ ¬ g = w.heap.size + 1 + 1 ∧ ¬ g = p := (by refine ⟨?_, ?_, ?_, ?_, ?_, ?_, ?_, ?_, ?_, ?_, ?_, ?_, ?_, ?_, ?_, ?_, ?_, ?_, ?_, ?_⟩ <;> omega)
      have hod0 : ∀ x, obx W.drew g 0 x = (.int .i64 r2.lo : Value) := obx_of (show W.drew.cell? ⟨g, 0, none⟩ = some (.int .i64 r2.lo : Value) from by (try simp only [cell_drew]); simp [go_sem, *])
      have hod1 : ∀ x, obx W.drew g 1 x = (.int .i64 r2.hi : Value) := obx_of (show W.drew.cell? ⟨g, 1, none⟩ = some (.int .i64 r2.hi : Value) from by (try simp only [cell_drew]); simp [go_sem, *])
      refine wp_region_held_drew (S := (fun w' => (∀ b o, b < W.heap.size → w'.cell? ⟨b, o, none⟩ = if b = g ∧ 0 ≤ o ∧ o < 2 ∨ b = p ∧ o = 4 then (W.cell? ⟨b, o, none⟩).map (obx w' b o) else W.cell? ⟨b, o, none⟩) ∧ (∀ b o, b < W.heap.size → w'.frozen? ⟨b, o, none⟩ = W.frozen? ⟨b, o, none⟩) ∧ W.heap.size ≤ w'.heap.size ∧ ExtP w p 4 w')) (by kernel_rfl) ?_ (fun hHeld => ?_)
      · (try dsimp only); (first | (with_reducible exact hel0 hWe) | (with_reducible exact hel1p (by with_reducible assumption) (by with_reducible assumption)) | (with_reducible exact hel1 (by with_reducible assumption) (by with_reducible assumption)) | (with_reducible exact hel3d (by with_reducible assumption)) | (with_reducible exact hel3 (by with_reducible assumption)) | ((with_reducible refine hel4 (by with_reducible assumption) ?_ ?_) <;> omega) | (repeat (first | (with_reducible assumption) | (with_reducible refine hel2 ?_ (by first | (refine Or.inl ⟨?_, ?_, ?_⟩ <;> (first | rfl | (dsimp only; omega))) | (refine Or.inr (Or.inl ⟨?_, ?_⟩) <;> (first | rfl | (dsimp only; omega))) | (refine Or.inr (Or.inr ?_); (try dsimp only); (try simp only [World.size_alloc, World.size_setCell]); omega)) (by (try dsimp only); (try simp only [World.size_alloc, World.size_setCell]); omega)))))
      refine wpAnyH_take (i := 0) (oi := _) (v := ?_) rfl (by kernel_rfl) (by kernel_rfl) (by kernel_rfl) (fun _ _ _ h => h) (Or.inl ⟨by rfl, ?_⟩) (by assumption) ?_
      rotate_left
      · intro w0 hSw; (try dsimp only at hSw); go_simp; try with_reducible rfl
      try simp only [Act.put, List.setIfInBounds_toArray]
      refine wpAnyH_take (i := 1) (oi := _) (v := ?_) rfl (by kernel_rfl) (by kernel_rfl) (by kernel_rfl) (fun _ _ _ h => h) (Or.inl ⟨by rfl, ?_⟩) (by assumption) ?_
      rotate_left
      · intro w0 hSw; (try dsimp only at hSw); go_simp; try with_reducible rfl
      try simp only [Act.put]
      refine wpAnyH_take (i := 2) (oi := _) (v := ?_) rfl (by kernel_rfl) (by kernel_rfl) (by kernel_rfl) (fun _ _ _ h => h) (Or.inl ⟨by rfl, ?_⟩) (by assumption) ?_
      rotate_left
      · intro w0 hSw; (try dsimp only at hSw); go_simp; try with_reducible rfl
      try simp only [Act.put]
      refine wpAnyH_take (i := 3) (oi := _) (v := ?_) rfl (by kernel_rfl) (by kernel_rfl) (by kernel_rfl) (fun _ _ _ h => h) (Or.inl ⟨by rfl, ?_⟩) (by assumption) ?_
      rotate_left
      · intro w0 hSw; (try dsimp only at hSw); go_simp; try with_reducible rfl
      try simp only [Act.put]
      refine wpAnyH_take (i := 4) (oi := _) (v := ?_) rfl (by kernel_rfl) (by kernel_rfl) (by kernel_rfl) (fun _ _ _ h => h) (Or.inl ⟨by rfl, ?_⟩) (by assumption) ?_
      rotate_left
      · intro w0 hSw; (try dsimp only at hSw); go_simp; try with_reducible rfl
      try simp only [Act.put]
      refine wpAnyH_take (i := 6) (oi := _) (v := ?_) rfl (by kernel_rfl) (by kernel_rfl) (by kernel_rfl) (fun _ _ _ h => h) (Or.inl ⟨by rfl, ?_⟩) (by assumption) ?_
      rotate_left
      · intro w0 hSw; (try dsimp only at hSw); go_simp; try with_reducible rfl
      try simp only [Act.put]
      refine wpAnyH_take (i := 7) (oi := _) (v := ?_) rfl (by kernel_rfl) (by kernel_rfl) (by kernel_rfl) (fun _ _ _ h => h) (Or.inl ⟨by rfl, ?_⟩) (by assumption) ?_
      rotate_left
      · intro w0 hSw; (try dsimp only at hSw); go_simp; try with_reducible rfl
      try simp only [Act.put]
      refine wpAnyH_take (i := 8) (oi := _) (v := ?_) rfl (by kernel_rfl) (by kernel_rfl) (by kernel_rfl) (fun _ _ _ h => h) (Or.inl ⟨by rfl, ?_⟩) (by assumption) ?_
      rotate_left
      · intro w0 hSw; (try dsimp only at hSw); go_simp; try with_reducible rfl
      try simp only [Act.put]
      refine wpAnyH_take (i := 9) (oi := _) (v := ?_) rfl (by kernel_rfl) (by kernel_rfl) (by kernel_rfl) (fun _ _ _ h => h) (Or.inl ⟨by rfl, ?_⟩) (by assumption) ?_
      rotate_left
      · intro w0 hSw; (try dsimp only at hSw); go_simp; try with_reducible rfl
      try simp only [Act.put]
      refine wpAnyH_take (i := 10) (oi := _) (v := ?_) rfl (by kernel_rfl) (by kernel_rfl) (by kernel_rfl) (fun _ _ _ h => h) (Or.inl ⟨by rfl, ?_⟩) (by assumption) ?_
      rotate_left
      · intro w0 hSw; (try dsimp only at hSw); go_simp; try with_reducible rfl
      try simp only [Act.put]
      refine wpAnyH_take (i := 11) (oi := _) (v := ?_) rfl (by kernel_rfl) (by kernel_rfl) (by kernel_rfl) (fun _ _ _ h => h) (Or.inl ⟨by rfl, ?_⟩) (by assumption) ?_
      rotate_left
      · intro w0 hSw; (try dsimp only at hSw); go_simp; try with_reducible rfl
      try simp only [Act.put]
      refine wpAnyH_take (i := 12) (oi := _) (v := ?_) rfl (by kernel_rfl) (by kernel_rfl) (by kernel_rfl) (fun _ _ _ h => h) (Or.inl ⟨by rfl, ?_⟩) (by assumption) ?_
      rotate_left
      · intro w0 hSw; (try dsimp only at hSw); go_simp; try with_reducible rfl
      try simp only [Act.put]
      refine wpAnyH_take (i := 13) (oi := _) (v := ?_) rfl (by kernel_rfl) (by kernel_rfl) (by kernel_rfl) (fun _ _ _ h => h) (Or.inl ⟨by rfl, ?_⟩) (by assumption) ?_
      rotate_left
      · intro w0 hSw; (try dsimp only at hSw); go_simp; try with_reducible rfl
      try simp only [Act.put]
      refine wpAnyH_take (i := 14) (oi := _) (v := ?_) rfl (by kernel_rfl) (by kernel_rfl) (by kernel_rfl) (fun _ _ _ h => h) (Or.inl ⟨by rfl, ?_⟩) (by assumption) ?_
      rotate_left
      · intro w0 hSw; (try dsimp only at hSw); go_simp; try with_reducible rfl
      try simp only [Act.put]
      refine wpAnyH_take (i := 15) (oi := _) (v := ?_) rfl (by kernel_rfl) (by kernel_rfl) (by kernel_rfl) (fun _ _ _ h => h) (Or.inl ⟨by rfl, ?_⟩) (by assumption) ?_
      rotate_left
      · intro w0 hSw; (try dsimp only at hSw); go_simp; try with_reducible rfl
      try simp only [Act.put]
      refine wpAnyH_take (i := 16) (oi := _) (v := ?_) rfl (by kernel_rfl) (by kernel_rfl) (by kernel_rfl) (fun _ _ _ h => h) (Or.inl ⟨by rfl, ?_⟩) (by assumption) ?_
      rotate_left
      · intro w0 hSw; (try dsimp only at hSw); go_simp; try with_reducible rfl
      try simp only [Act.put]
      refine wpAnyH_take (i := 17) (oi := _) (v := ?_) rfl (by kernel_rfl) (by kernel_rfl) (by kernel_rfl) (fun _ _ _ h => h) (Or.inl ⟨by rfl, ?_⟩) (by assumption) ?_
      rotate_left
      · intro w0 hSw; (try dsimp only at hSw); go_simp; try with_reducible rfl
      try simp only [Act.put]
      refine wpAnyH_take (i := 18) (oi := _) (v := ?_) rfl (by kernel_rfl) (by kernel_rfl) (by kernel_rfl) (fun _ _ _ h => h) (Or.inl ⟨by rfl, ?_⟩) (by assumption) ?_
      rotate_left
      · intro w0 hSw; (try dsimp only at hSw); go_simp; try with_reducible rfl
      try simp only [Act.put]
      refine wpAnyH_ready (rs := [5, 19]) (by kernel_rfl) (by simp) ?_
      refine AllReadyH.cons (o := _) rfl (fun K hK => ?_) ?_
      · go_simp
        refine hK.out _ _ ?_ (fun hHeldN => ?_)
        · (try dsimp only); (first | (with_reducible exact hel0 hWe) | (with_reducible exact hel1p (by with_reducible assumption) (by with_reducible assumption)) | (with_reducible exact hel1 (by with_reducible assumption) (by with_reducible assumption)) | (with_reducible exact hel3d (by with_reducible assumption)) | (with_reducible exact hel3 (by with_reducible assumption)) | ((with_reducible refine hel4 (by with_reducible assumption) ?_ ?_) <;> omega) | (repeat (first | (with_reducible assumption) | (with_reducible refine hel2 ?_ (by first | (refine Or.inl ⟨?_, ?_, ?_⟩ <;> (first | rfl | (dsimp only; omega))) | (refine Or.inr (Or.inl ⟨?_, ?_⟩) <;> (first | rfl | (dsimp only; omega))) | (refine Or.inr (Or.inr ?_); (try dsimp only); (try simp only [World.size_alloc, World.size_setCell]); omega)) (by (try dsimp only); (try simp only [World.size_alloc, World.size_setCell]); omega)))))
        clear hK K hHeld
        have hHeld := hHeldN
        clear hHeldN
        try simp only [Act.put, List.setIfInBounds_toArray, List.set_cons_zero, List.set_cons_succ]
        refine wpAnyH_ready (rs := [19]) (by kernel_rfl) (by simp) ?_
        refine AllReadyH.cons (o := _) rfl (fun K hK => ?_) AllReadyH.nil
        go_simp
        (go_at_call 44; (with_reducible refine (d_mul p (r2.e) a.e a.f b.e b.f _ (by (try simp only [cell_drew]); first | with_reducible assumption | (rw [cell_al, if_neg (by (try simp only [size_drew]); omega)]; (try simp only [cell_drew]); with_reducible assumption) | simp [go_sem, *]) (by (try simp only [frozen_drew]); first | with_reducible assumption | (rw [cell_al, if_neg (by (try simp only [size_drew]); omega)]; (try simp only [cell_drew]); with_reducible assumption) | simp [go_sem, *]) ha3 hb3).mono ?_); (generalize hr3 : doI (r2.e) (mulI a.e a.f b.e b.f) = r3); rintro e w2 ⟨rfl, hb0⟩; have hz0 := hb0.size; (try simp only [size_drew, World.size_setCell] at hz0); obtain ⟨hg0, hh0⟩ := hb0.got (u := .int .i64 (r2.e)) (by (try simp only [cell_drew]); first | with_reducible assumption | (rw [cell_al, if_neg (by (try simp only [size_drew]); omega)]; (try simp only [cell_drew]); with_reducible assumption) | simp [go_sem, *]); have hob0 := obx_of hg0; (try simp only [frozen_drew] at hh0); (have hog00 := obx_of ((hb0.cells.1 g 0 (by (try simp only [size_drew, World.size_setCell]); omega)).trans (show _ = some (.int .i64 r2.lo) from by (try simp only [cell_sc, cell_drew]); simp [go_sem, *]))); (have hog01 := obx_of ((hb0.cells.1 g 1 (by (try simp only [size_drew, World.size_setCell]); omega)).trans (show _ = some (.int .i64 r2.hi) from by (try simp only [cell_sc, cell_drew]); simp [go_sem, *]))))
        refine hK.out _ _ ?_ (fun hHeldN => ?_)
        · (try dsimp only); (first | (with_reducible exact hel0 hWe) | (with_reducible exact hel1p (by with_reducible assumption) (by with_reducible assumption)) | (with_reducible exact hel1 (by with_reducible assumption) (by with_reducible assumption)) | (with_reducible exact hel3d (by with_reducible assumption)) | (with_reducible exact hel3 (by with_reducible assumption)) | ((with_reducible refine hel4 (by with_reducible assumption) ?_ ?_) <;> omega) | (repeat (first | (with_reducible assumption) | (with_reducible refine hel2 ?_ (by first | (refine Or.inl ⟨?_, ?_, ?_⟩ <;> (first | rfl | (dsimp only; omega))) | (refine Or.inr (Or.inl ⟨?_, ?_⟩) <;> (first | rfl | (dsimp only; omega))) | (refine Or.inr (Or.inr ?_); (try dsimp only); (try simp only [World.size_alloc, World.size_setCell]); omega)) (by (try dsimp only); (try simp only [World.size_alloc, World.size_setCell]); omega)))))
        clear hK K hHeld
        have hHeld := hHeldN
        clear hHeldN
        try simp only [Act.put, List.setIfInBounds_toArray, List.set_cons_zero, List.set_cons_succ]
        refine wpAnyH_ready (rs := [20]) (by kernel_rfl) (by simp) ?_
        refine AllReadyH.cons (o := _) rfl (fun K hK => ?_) AllReadyH.nil
        go_simp
        (go_at_call 44; (try simp only [hod0, hod1, hog00, hog01]); (with_reducible refine (d_add p (r3.e) r2.lo r2.hi r3.lo r3.hi _ (by (try simp only [cell_drew, frozen_drew]); first | with_reducible assumption | (rw [cell_al, if_neg (by (try simp only [size_drew]); omega)]; (try simp only [cell_drew]); with_reducible assumption) | simp [go_sem, ↓IntWalk.iteOmega, *]) (by (try simp only [cell_drew, frozen_drew]); first | with_reducible assumption | (rw [cell_al, if_neg (by (try simp only [size_drew]); omega)]; (try simp only [cell_drew]); with_reducible assumption) | simp [go_sem, *])).mono ?_); (generalize hr4 : doI (r3.e) (addI r2.lo r2.hi r3.lo r3.hi) = r4); rintro e w3 ⟨rfl, hb1⟩; have hz1 := hb1.size; (try simp only [World.size_setCell] at hz1); obtain ⟨hg1, hh1⟩ := hb1.got (u := .int .i64 (r3.e)) (by (try simp only [cell_drew, frozen_drew]); first | with_reducible assumption | (rw [cell_al, if_neg (by (try simp only [size_drew]); omega)]; (try simp only [cell_drew]); with_reducible assumption) | simp [go_sem, ↓IntWalk.iteOmega, *]); have hob1 := obx_of hg1; (try simp only [frozen_drew] at hh1))
        refine hK.out _ _ ?_ (fun hHeldN => ?_)
        · (try dsimp only); (first | (with_reducible exact hel0 hWe) | (with_reducible exact hel1p (by with_reducible assumption) (by with_reducible assumption)) | (with_reducible exact hel1 (by with_reducible assumption) (by with_reducible assumption)) | (with_reducible exact hel3d (by with_reducible assumption)) | (with_reducible exact hel3 (by with_reducible assumption)) | ((with_reducible refine hel4 (by with_reducible assumption) ?_ ?_) <;> omega) | (repeat (first | (with_reducible assumption) | (with_reducible refine hel2 ?_ (by first | (refine Or.inl ⟨?_, ?_, ?_⟩ <;> (first | rfl | (dsimp only; omega))) | (refine Or.inr (Or.inl ⟨?_, ?_⟩) <;> (first | rfl | (dsimp only; omega))) | (refine Or.inr (Or.inr ?_); (try dsimp only); (try simp only [World.size_alloc, World.size_setCell]); omega)) (by (try dsimp only); (try simp only [World.size_alloc, World.size_setCell]); omega)))))
        clear hK K hHeld
        have hHeld := hHeldN
        clear hHeldN
        try simp only [Act.put, List.setIfInBounds_toArray, List.set_cons_zero, List.set_cons_succ]
        refine wpAnyH_ready (rs := [21]) (by kernel_rfl) (by simp) ?_
        refine AllReadyH.cons (o := _) rfl (fun K hK => ?_) AllReadyH.nil
        go_simp
        refine hK.out _ _ ?_ (fun hHeldN => ?_)
        · (try dsimp only); (first | (with_reducible exact hel0 hWe) | (with_reducible exact hel1p (by with_reducible assumption) (by with_reducible assumption)) | (with_reducible exact hel1 (by with_reducible assumption) (by with_reducible assumption)) | (with_reducible exact hel3d (by with_reducible assumption)) | (with_reducible exact hel3 (by with_reducible assumption)) | ((with_reducible refine hel4 (by with_reducible assumption) ?_ ?_) <;> omega) | (repeat (first | (with_reducible assumption) | (with_reducible refine hel2 ?_ (by first | (refine Or.inl ⟨?_, ?_, ?_⟩ <;> (first | rfl | (dsimp only; omega))) | (refine Or.inr (Or.inl ⟨?_, ?_⟩) <;> (first | rfl | (dsimp only; omega))) | (refine Or.inr (Or.inr ?_); (try dsimp only); (try simp only [World.size_alloc, World.size_setCell]); omega)) (by (try dsimp only); (try simp only [World.size_alloc, World.size_setCell]); omega)))))
        clear hK K hHeld
        have hHeld := hHeldN
        clear hHeldN
        try simp only [Act.put, List.setIfInBounds_toArray, List.set_cons_zero, List.set_cons_succ]
        refine wpAnyH_done (by kernel_rfl) ?_ _
        have hOld := hHeld
        clear hHeld
        have hE := hOld.2.2.2
        have hO := And.intro hOld.1 (And.intro hOld.2.1 hOld.2.2.1)
        clear hOld
        replace hO := helBack hO (by first | (refine Or.inl ⟨?_, ?_, ?_⟩ <;> (first | rfl | (dsimp only; omega))) | (refine Or.inr (Or.inl ⟨?_, ?_⟩) <;> (first | rfl | (dsimp only; omega))) | (refine Or.inr (Or.inr ?_); (try dsimp only); (try simp only [World.size_alloc, World.size_setCell]); omega))
        replace hO := helBack hO (by first | (refine Or.inl ⟨?_, ?_, ?_⟩ <;> (first | rfl | (dsimp only; omega))) | (refine Or.inr (Or.inl ⟨?_, ?_⟩) <;> (first | rfl | (dsimp only; omega))) | (refine Or.inr (Or.inr ?_); (try dsimp only); (try simp only [World.size_alloc, World.size_setCell]); omega))
        obtain ⟨hOc, hOf, hOz⟩ := helEnd hO
        clear hO
        have hlu : w.heap.size < w3.heap.size ∧ w.heap.size + 1 < w3.heap.size ∧ w.heap.size + 1 + 1 < w3.heap.size ∧ p < w3.heap.size ∧ g < w3.heap.size := (by refine ⟨?_, ?_, ?_, ?_, ?_⟩ <;> omega)
        go_wp2_with fail
        rw [rounds_succ]
        go_wp2_with fail
        all_goals
          refine bodyPost_ret (v := .agg #[.int .i64 (dotI E a b).lo, .int .i64 (dotI E a b).hi]) ?_ rfl ⟨rfl, ?_⟩
          · (try simp only [] at *)
            simp [results, Try.results46, go_sem, dotI, dot3, dot2, dot1, dot0, *]
          · refine ExtP.fin ?_ ?_ hp
            · (repeat (first | with_reducible refine ExtP.set ?_ | (with_reducible refine ExtP.store ?_ ?_; rotate_left; (focus ((try simp only []); omega))) | with_reducible refine ExtP.ext ?_ ((Ext.refl _).alloc _) | with_reducible refine ExtP.ext ?_ ((Ext.refl _).drew) | with_reducible assumption | with_reducible exact ExtP.of _ _ (Ext.refl w) | with_reducible refine ExtP.ext ?_ (by with_reducible assumption)))
            · (try simp only [bne_iff_ne, ne_eq, bne_eq_false_iff_eq, beq_iff_eq, beq_eq_false_iff_ne] at *)
              simp [go_sem, dotI, dot3, dot2, dot1, dot0, *]
      refine AllReadyH.cons (o := _) rfl (fun K hK => ?_) AllReadyH.nil
      · go_simp
        (go_at_call 44; (with_reducible refine (d_mul p (r2.e) a.e a.f b.e b.f _ (by (try simp only [cell_drew]); first | with_reducible assumption | (rw [cell_al, if_neg (by (try simp only [size_drew]); omega)]; (try simp only [cell_drew]); with_reducible assumption) | simp [go_sem, *]) (by (try simp only [frozen_drew]); first | with_reducible assumption | (rw [cell_al, if_neg (by (try simp only [size_drew]); omega)]; (try simp only [cell_drew]); with_reducible assumption) | simp [go_sem, *]) ha3 hb3).mono ?_); (generalize hr3 : doI (r2.e) (mulI a.e a.f b.e b.f) = r3); rintro e w2 ⟨rfl, hb0⟩; have hz0 := hb0.size; (try simp only [size_drew, World.size_setCell] at hz0); obtain ⟨hg0, hh0⟩ := hb0.got (u := .int .i64 (r2.e)) (by (try simp only [cell_drew]); first | with_reducible assumption | (rw [cell_al, if_neg (by (try simp only [size_drew]); omega)]; (try simp only [cell_drew]); with_reducible assumption) | simp [go_sem, *]); have hob0 := obx_of hg0; (try simp only [frozen_drew] at hh0); (have hog00 := obx_of ((hb0.cells.1 g 0 (by (try simp only [size_drew, World.size_setCell]); omega)).trans (show _ = some (.int .i64 r2.lo) from by (try simp only [cell_sc, cell_drew]); simp [go_sem, *]))); (have hog01 := obx_of ((hb0.cells.1 g 1 (by (try simp only [size_drew, World.size_setCell]); omega)).trans (show _ = some (.int .i64 r2.hi) from by (try simp only [cell_sc, cell_drew]); simp [go_sem, *]))))
        refine hK.out _ _ ?_ (fun hHeldN => ?_)
        · (try dsimp only); (first | (with_reducible exact hel0 hWe) | (with_reducible exact hel1p (by with_reducible assumption) (by with_reducible assumption)) | (with_reducible exact hel1 (by with_reducible assumption) (by with_reducible assumption)) | (with_reducible exact hel3d (by with_reducible assumption)) | (with_reducible exact hel3 (by with_reducible assumption)) | ((with_reducible refine hel4 (by with_reducible assumption) ?_ ?_) <;> omega) | (repeat (first | (with_reducible assumption) | (with_reducible refine hel2 ?_ (by first | (refine Or.inl ⟨?_, ?_, ?_⟩ <;> (first | rfl | (dsimp only; omega))) | (refine Or.inr (Or.inl ⟨?_, ?_⟩) <;> (first | rfl | (dsimp only; omega))) | (refine Or.inr (Or.inr ?_); (try dsimp only); (try simp only [World.size_alloc, World.size_setCell]); omega)) (by (try dsimp only); (try simp only [World.size_alloc, World.size_setCell]); omega)))))
        clear hK K hHeld
        have hHeld := hHeldN
        clear hHeldN
        try simp only [Act.put, List.setIfInBounds_toArray, List.set_cons_zero, List.set_cons_succ]
        refine wpAnyH_ready (rs := [5]) (by kernel_rfl) (by simp) ?_
        refine AllReadyH.cons (o := _) rfl (fun K hK => ?_) AllReadyH.nil
        go_simp
        refine hK.out _ _ ?_ (fun hHeldN => ?_)
        · (try dsimp only); (first | (with_reducible exact hel0 hWe) | (with_reducible exact hel1p (by with_reducible assumption) (by with_reducible assumption)) | (with_reducible exact hel1 (by with_reducible assumption) (by with_reducible assumption)) | (with_reducible exact hel3d (by with_reducible assumption)) | (with_reducible exact hel3 (by with_reducible assumption)) | ((with_reducible refine hel4 (by with_reducible assumption) ?_ ?_) <;> omega) | (repeat (first | (with_reducible assumption) | (with_reducible refine hel2 ?_ (by first | (refine Or.inl ⟨?_, ?_, ?_⟩ <;> (first | rfl | (dsimp only; omega))) | (refine Or.inr (Or.inl ⟨?_, ?_⟩) <;> (first | rfl | (dsimp only; omega))) | (refine Or.inr (Or.inr ?_); (try dsimp only); (try simp only [World.size_alloc, World.size_setCell]); omega)) (by (try dsimp only); (try simp only [World.size_alloc, World.size_setCell]); omega)))))
        clear hK K hHeld
        have hHeld := hHeldN
        clear hHeldN
        try simp only [Act.put, List.setIfInBounds_toArray, List.set_cons_zero, List.set_cons_succ]
        refine wpAnyH_ready (rs := [20]) (by kernel_rfl) (by simp) ?_
        refine AllReadyH.cons (o := _) rfl (fun K hK => ?_) AllReadyH.nil
        go_simp
        (go_at_call 44; (try simp only [hod0, hod1, hog00, hog01]); (with_reducible refine (d_add p (r3.e) r2.lo r2.hi r3.lo r3.hi _ (by (try simp only [cell_drew, frozen_drew]); first | with_reducible assumption | (rw [cell_al, if_neg (by (try simp only [size_drew]); omega)]; (try simp only [cell_drew]); with_reducible assumption) | simp [go_sem, ↓IntWalk.iteOmega, *]) (by (try simp only [cell_drew, frozen_drew]); first | with_reducible assumption | (rw [cell_al, if_neg (by (try simp only [size_drew]); omega)]; (try simp only [cell_drew]); with_reducible assumption) | simp [go_sem, *])).mono ?_); (generalize hr4 : doI (r3.e) (addI r2.lo r2.hi r3.lo r3.hi) = r4); rintro e w3 ⟨rfl, hb1⟩; have hz1 := hb1.size; (try simp only [World.size_setCell] at hz1); obtain ⟨hg1, hh1⟩ := hb1.got (u := .int .i64 (r3.e)) (by (try simp only [cell_drew, frozen_drew]); first | with_reducible assumption | (rw [cell_al, if_neg (by (try simp only [size_drew]); omega)]; (try simp only [cell_drew]); with_reducible assumption) | simp [go_sem, ↓IntWalk.iteOmega, *]); have hob1 := obx_of hg1; (try simp only [frozen_drew] at hh1))
        refine hK.out _ _ ?_ (fun hHeldN => ?_)
        · (try dsimp only); (first | (with_reducible exact hel0 hWe) | (with_reducible exact hel1p (by with_reducible assumption) (by with_reducible assumption)) | (with_reducible exact hel1 (by with_reducible assumption) (by with_reducible assumption)) | (with_reducible exact hel3d (by with_reducible assumption)) | (with_reducible exact hel3 (by with_reducible assumption)) | ((with_reducible refine hel4 (by with_reducible assumption) ?_ ?_) <;> omega) | (repeat (first | (with_reducible assumption) | (with_reducible refine hel2 ?_ (by first | (refine Or.inl ⟨?_, ?_, ?_⟩ <;> (first | rfl | (dsimp only; omega))) | (refine Or.inr (Or.inl ⟨?_, ?_⟩) <;> (first | rfl | (dsimp only; omega))) | (refine Or.inr (Or.inr ?_); (try dsimp only); (try simp only [World.size_alloc, World.size_setCell]); omega)) (by (try dsimp only); (try simp only [World.size_alloc, World.size_setCell]); omega)))))
        clear hK K hHeld
        have hHeld := hHeldN
        clear hHeldN
        try simp only [Act.put, List.setIfInBounds_toArray, List.set_cons_zero, List.set_cons_succ]
        refine wpAnyH_ready (rs := [21]) (by kernel_rfl) (by simp) ?_
        refine AllReadyH.cons (o := _) rfl (fun K hK => ?_) AllReadyH.nil
        go_simp
        refine hK.out _ _ ?_ (fun hHeldN => ?_)
        · (try dsimp only); (first | (with_reducible exact hel0 hWe) | (with_reducible exact hel1p (by with_reducible assumption) (by with_reducible assumption)) | (with_reducible exact hel1 (by with_reducible assumption) (by with_reducible assumption)) | (with_reducible exact hel3d (by with_reducible assumption)) | (with_reducible exact hel3 (by with_reducible assumption)) | ((with_reducible refine hel4 (by with_reducible assumption) ?_ ?_) <;> omega) | (repeat (first | (with_reducible assumption) | (with_reducible refine hel2 ?_ (by first | (refine Or.inl ⟨?_, ?_, ?_⟩ <;> (first | rfl | (dsimp only; omega))) | (refine Or.inr (Or.inl ⟨?_, ?_⟩) <;> (first | rfl | (dsimp only; omega))) | (refine Or.inr (Or.inr ?_); (try dsimp only); (try simp only [World.size_alloc, World.size_setCell]); omega)) (by (try dsimp only); (try simp only [World.size_alloc, World.size_setCell]); omega)))))
        clear hK K hHeld
        have hHeld := hHeldN
        clear hHeldN
        try simp only [Act.put, List.setIfInBounds_toArray, List.set_cons_zero, List.set_cons_succ]
        refine wpAnyH_done (by kernel_rfl) ?_ _
        have hOld := hHeld
        clear hHeld
        have hE := hOld.2.2.2
        have hO := And.intro hOld.1 (And.intro hOld.2.1 hOld.2.2.1)
        clear hOld
        replace hO := helBack hO (by first | (refine Or.inl ⟨?_, ?_, ?_⟩ <;> (first | rfl | (dsimp only; omega))) | (refine Or.inr (Or.inl ⟨?_, ?_⟩) <;> (first | rfl | (dsimp only; omega))) | (refine Or.inr (Or.inr ?_); (try dsimp only); (try simp only [World.size_alloc, World.size_setCell]); omega))
        replace hO := helBack hO (by first | (refine Or.inl ⟨?_, ?_, ?_⟩ <;> (first | rfl | (dsimp only; omega))) | (refine Or.inr (Or.inl ⟨?_, ?_⟩) <;> (first | rfl | (dsimp only; omega))) | (refine Or.inr (Or.inr ?_); (try dsimp only); (try simp only [World.size_alloc, World.size_setCell]); omega))
        obtain ⟨hOc, hOf, hOz⟩ := helEnd hO
        clear hO
        have hlu : w.heap.size < w3.heap.size ∧ w.heap.size + 1 < w3.heap.size ∧ w.heap.size + 1 + 1 < w3.heap.size ∧ p < w3.heap.size ∧ g < w3.heap.size := (by refine ⟨?_, ?_, ?_, ?_, ?_⟩ <;> omega)
        go_wp2_with fail
        rw [rounds_succ]
        go_wp2_with fail
        all_goals
          refine bodyPost_ret (v := .agg #[.int .i64 (dotI E a b).lo, .int .i64 (dotI E a b).hi]) ?_ rfl ⟨rfl, ?_⟩
          · (try simp only [] at *)
            simp [results, Try.results46, go_sem, dotI, dot3, dot2, dot1, dot0, *]
          · refine ExtP.fin ?_ ?_ hp
            · (repeat (first | with_reducible refine ExtP.set ?_ | (with_reducible refine ExtP.store ?_ ?_; rotate_left; (focus ((try simp only []); omega))) | with_reducible refine ExtP.ext ?_ ((Ext.refl _).alloc _) | with_reducible refine ExtP.ext ?_ ((Ext.refl _).drew) | with_reducible assumption | with_reducible exact ExtP.of _ _ (Ext.refl w) | with_reducible refine ExtP.ext ?_ (by with_reducible assumption)))
            · (try simp only [bne_iff_ne, ne_eq, bne_eq_false_iff_eq, beq_iff_eq, beq_eq_false_iff_ne] at *)
              simp [go_sem, dotI, dot3, dot2, dot1, dot0, *]
    refine AllReadyH.cons (o := _) rfl (fun K hK => ?_) AllReadyH.nil
    · go_simp
      (go_at_call 44; (with_reducible refine (d_mul p (r0.e) a.c a.d b.c b.d _ (by (try simp only [cell_drew]); first | with_reducible assumption | (rw [cell_al, if_neg (by (try simp only [size_drew]); omega)]; (try simp only [cell_drew]); with_reducible assumption) | simp [go_sem, *]) (by (try simp only [frozen_drew]); first | with_reducible assumption | (rw [cell_al, if_neg (by (try simp only [size_drew]); omega)]; (try simp only [cell_drew]); with_reducible assumption) | simp [go_sem, *]) ha2 hb2).mono ?_); (generalize hr1 : doI (r0.e) (mulI a.c a.d b.c b.d) = r1); rintro e w2 ⟨rfl, hb0⟩; have hz0 := hb0.size; (try simp only [size_drew, World.size_setCell] at hz0); obtain ⟨hg0, hh0⟩ := hb0.got (u := .int .i64 (r0.e)) (by (try simp only [cell_drew]); first | with_reducible assumption | (rw [cell_al, if_neg (by (try simp only [size_drew]); omega)]; (try simp only [cell_drew]); with_reducible assumption) | simp [go_sem, *]); have hob0 := obx_of hg0; (try simp only [frozen_drew] at hh0); (have hog00 := obx_of ((hb0.cells.1 g 0 (by (try simp only [size_drew, World.size_setCell]); omega)).trans (show _ = some (.int .i64 r0.lo) from by (try simp only [cell_sc, cell_drew]); simp [go_sem, *]))); (have hog01 := obx_of ((hb0.cells.1 g 1 (by (try simp only [size_drew, World.size_setCell]); omega)).trans (show _ = some (.int .i64 r0.hi) from by (try simp only [cell_sc, cell_drew]); simp [go_sem, *]))))
      refine hK.out _ _ ?_ (fun hHeldN => ?_)
      · (try dsimp only); (first | (with_reducible exact hel0 hWe) | (with_reducible exact hel1p (by with_reducible assumption) (by with_reducible assumption)) | (with_reducible exact hel1 (by with_reducible assumption) (by with_reducible assumption)) | (with_reducible exact hel3d (by with_reducible assumption)) | (with_reducible exact hel3 (by with_reducible assumption)) | ((with_reducible refine hel4 (by with_reducible assumption) ?_ ?_) <;> omega) | (repeat (first | (with_reducible assumption) | (with_reducible refine hel2 ?_ (by first | (refine Or.inl ⟨?_, ?_, ?_⟩ <;> (first | rfl | (dsimp only; omega))) | (refine Or.inr (Or.inl ⟨?_, ?_⟩) <;> (first | rfl | (dsimp only; omega))) | (refine Or.inr (Or.inr ?_); (try dsimp only); (try simp only [World.size_alloc, World.size_setCell]); omega)) (by (try dsimp only); (try simp only [World.size_alloc, World.size_setCell]); omega)))))
      clear hK K hHeld
      have hHeld := hHeldN
      clear hHeldN
      try simp only [Act.put, List.setIfInBounds_toArray, List.set_cons_zero, List.set_cons_succ]
      refine wpAnyH_ready (rs := [5]) (by kernel_rfl) (by simp) ?_
      refine AllReadyH.cons (o := _) rfl (fun K hK => ?_) AllReadyH.nil
      go_simp
      refine hK.out _ _ ?_ (fun hHeldN => ?_)
      · (try dsimp only); (first | (with_reducible exact hel0 hWe) | (with_reducible exact hel1p (by with_reducible assumption) (by with_reducible assumption)) | (with_reducible exact hel1 (by with_reducible assumption) (by with_reducible assumption)) | (with_reducible exact hel3d (by with_reducible assumption)) | (with_reducible exact hel3 (by with_reducible assumption)) | ((with_reducible refine hel4 (by with_reducible assumption) ?_ ?_) <;> omega) | (repeat (first | (with_reducible assumption) | (with_reducible refine hel2 ?_ (by first | (refine Or.inl ⟨?_, ?_, ?_⟩ <;> (first | rfl | (dsimp only; omega))) | (refine Or.inr (Or.inl ⟨?_, ?_⟩) <;> (first | rfl | (dsimp only; omega))) | (refine Or.inr (Or.inr ?_); (try dsimp only); (try simp only [World.size_alloc, World.size_setCell]); omega)) (by (try dsimp only); (try simp only [World.size_alloc, World.size_setCell]); omega)))))
      clear hK K hHeld
      have hHeld := hHeldN
      clear hHeldN
      try simp only [Act.put, List.setIfInBounds_toArray, List.set_cons_zero, List.set_cons_succ]
      refine wpAnyH_ready (rs := [20]) (by kernel_rfl) (by simp) ?_
      refine AllReadyH.cons (o := _) rfl (fun K hK => ?_) AllReadyH.nil
      go_simp
      (go_at_call 44; (try simp only [hod0, hod1, hog00, hog01]); (with_reducible refine (d_add p (r1.e) r0.lo r0.hi r1.lo r1.hi _ (by (try simp only [cell_drew, frozen_drew]); first | with_reducible assumption | (rw [cell_al, if_neg (by (try simp only [size_drew]); omega)]; (try simp only [cell_drew]); with_reducible assumption) | simp [go_sem, ↓IntWalk.iteOmega, *]) (by (try simp only [cell_drew, frozen_drew]); first | with_reducible assumption | (rw [cell_al, if_neg (by (try simp only [size_drew]); omega)]; (try simp only [cell_drew]); with_reducible assumption) | simp [go_sem, *])).mono ?_); (generalize hr2 : doI (r1.e) (addI r0.lo r0.hi r1.lo r1.hi) = r2); rintro e w3 ⟨rfl, hb1⟩; have hz1 := hb1.size; (try simp only [World.size_setCell] at hz1); obtain ⟨hg1, hh1⟩ := hb1.got (u := .int .i64 (r1.e)) (by (try simp only [cell_drew, frozen_drew]); first | with_reducible assumption | (rw [cell_al, if_neg (by (try simp only [size_drew]); omega)]; (try simp only [cell_drew]); with_reducible assumption) | simp [go_sem, ↓IntWalk.iteOmega, *]); have hob1 := obx_of hg1; (try simp only [frozen_drew] at hh1))
      refine hK.out _ _ ?_ (fun hHeldN => ?_)
      · (try dsimp only); (first | (with_reducible exact hel0 hWe) | (with_reducible exact hel1p (by with_reducible assumption) (by with_reducible assumption)) | (with_reducible exact hel1 (by with_reducible assumption) (by with_reducible assumption)) | (with_reducible exact hel3d (by with_reducible assumption)) | (with_reducible exact hel3 (by with_reducible assumption)) | ((with_reducible refine hel4 (by with_reducible assumption) ?_ ?_) <;> omega) | (repeat (first | (with_reducible assumption) | (with_reducible refine hel2 ?_ (by first | (refine Or.inl ⟨?_, ?_, ?_⟩ <;> (first | rfl | (dsimp only; omega))) | (refine Or.inr (Or.inl ⟨?_, ?_⟩) <;> (first | rfl | (dsimp only; omega))) | (refine Or.inr (Or.inr ?_); (try dsimp only); (try simp only [World.size_alloc, World.size_setCell]); omega)) (by (try dsimp only); (try simp only [World.size_alloc, World.size_setCell]); omega)))))
      clear hK K hHeld
      have hHeld := hHeldN
      clear hHeldN
      try simp only [Act.put, List.setIfInBounds_toArray, List.set_cons_zero, List.set_cons_succ]
      refine wpAnyH_ready (rs := [21]) (by kernel_rfl) (by simp) ?_
      refine AllReadyH.cons (o := _) rfl (fun K hK => ?_) AllReadyH.nil
      go_simp
      refine hK.out _ _ ?_ (fun hHeldN => ?_)
      · (try dsimp only); (first | (with_reducible exact hel0 hWe) | (with_reducible exact hel1p (by with_reducible assumption) (by with_reducible assumption)) | (with_reducible exact hel1 (by with_reducible assumption) (by with_reducible assumption)) | (with_reducible exact hel3d (by with_reducible assumption)) | (with_reducible exact hel3 (by with_reducible assumption)) | ((with_reducible refine hel4 (by with_reducible assumption) ?_ ?_) <;> omega) | (repeat (first | (with_reducible assumption) | (with_reducible refine hel2 ?_ (by first | (refine Or.inl ⟨?_, ?_, ?_⟩ <;> (first | rfl | (dsimp only; omega))) | (refine Or.inr (Or.inl ⟨?_, ?_⟩) <;> (first | rfl | (dsimp only; omega))) | (refine Or.inr (Or.inr ?_); (try dsimp only); (try simp only [World.size_alloc, World.size_setCell]); omega)) (by (try dsimp only); (try simp only [World.size_alloc, World.size_setCell]); omega)))))
      clear hK K hHeld
      have hHeld := hHeldN
      clear hHeldN
      try simp only [Act.put, List.setIfInBounds_toArray, List.set_cons_zero, List.set_cons_succ]
      refine wpAnyH_done (by kernel_rfl) ?_ _
      have hOld := hHeld
      clear hHeld
      have hE := hOld.2.2.2
      have hO := And.intro hOld.1 (And.intro hOld.2.1 hOld.2.2.1)
      clear hOld
      replace hO := helBack hO (by first | (refine Or.inl ⟨?_, ?_, ?_⟩ <;> (first | rfl | (dsimp only; omega))) | (refine Or.inr (Or.inl ⟨?_, ?_⟩) <;> (first | rfl | (dsimp only; omega))) | (refine Or.inr (Or.inr ?_); (try dsimp only); (try simp only [World.size_alloc, World.size_setCell]); omega))
      replace hO := helBack hO (by first | (refine Or.inl ⟨?_, ?_, ?_⟩ <;> (first | rfl | (dsimp only; omega))) | (refine Or.inr (Or.inl ⟨?_, ?_⟩) <;> (first | rfl | (dsimp only; omega))) | (refine Or.inr (Or.inr ?_); (try dsimp only); (try simp only [World.size_alloc, World.size_setCell]); omega))
      obtain ⟨hOc, hOf, hOz⟩ := helEnd hO
      clear hO
      have hlu : w.heap.size < w3.heap.size ∧ w.heap.size + 1 < w3.heap.size ∧ w.heap.size + 1 + 1 < w3.heap.size ∧ p < w3.heap.size ∧ g < w3.heap.size := (by refine ⟨?_, ?_, ?_, ?_, ?_⟩ <;> omega)
      go_wp2_with fail
      rw [rounds_succ]
      go_wp2_with fail
      refine wp_name fun W hW => ?_
      obtain ⟨hWc, hWf, hWz⟩ := hW.cells
      have hWe : ExtP w p 4 W := ExtP.same hW (by (repeat (first | with_reducible refine ExtP.set ?_ | (with_reducible refine ExtP.store ?_ ?_; rotate_left; (focus ((try simp only []); omega))) | with_reducible refine ExtP.ext ?_ ((Ext.refl _).alloc _) | with_reducible refine ExtP.ext ?_ ((Ext.refl _).drew) | with_reducible assumption | with_reducible exact ExtP.of _ _ (Ext.refl w) | with_reducible refine ExtP.ext ?_ (by with_reducible assumption))))
      (try simp only [World.size_setCell] at hWz)
      replace hWz := And.intro (Nat.le_of_eq hWz) (Nat.le_of_eq hWz.symm)
      have hlt : w.heap.size < W.heap.size ∧ w.heap.size + 1 < W.heap.size ∧ w.heap.size + 1 + 1 < W.heap.size ∧ p < W.heap.size ∧ g < W.heap.size := (by refine ⟨?_, ?_, ?_, ?_, ?_⟩ <;> omega)
      have hd : ¬ w.heap.size = w.heap.size + 1 ∧ ¬ w.heap.size = w.heap.size + 1 + 1 ∧ ¬ w.heap.size = p ∧ ¬ w.heap.size = g ∧ ¬ w.heap.size + 1 = w.heap.size ∧ ¬ w.heap.size + 1 = w.heap.size + 1 + 1 ∧ ¬ w.heap.size + 1 = p ∧ ¬ w.heap.size + 1 = g ∧ ¬ w.heap.size + 1 + 1 = w.heap.size ∧ ¬ w.heap.size + 1 + 1 = w.heap.size + 1 ∧ ¬ w.heap.size + 1 + 1 = p ∧ ¬ w.heap.size + 1 + 1 = g ∧ ¬ p = w.heap.size ∧ ¬ p = w.heap.size + 1 ∧ ¬ p = w.heap.size + 1 + 1 ∧ ¬ p = g ∧ ¬ g = w.heap.size ∧ ¬ g = w.heap.size + 1 ∧ ¬ g = w.heap.size + 1 + 1 ∧ ¬ g = p := (by refine ⟨?_, ?_, ?_, ?_, ?_, ?_, ?_, ?_, ?_, ?_, ?_, ?_, ?_, ?_, ?_, ?_, ?_, ?_, ?_, ?_⟩ <;> omega)
      have hod0 : ∀ x, obx W.drew g 0 x = (.int .i64 r2.lo : Value) := obx_of (show W.drew.cell? ⟨g, 0, none⟩ = some (.int .i64 r2.lo : Value) from by (try simp only [cell_drew]); simp [go_sem, *])
      have hod1 : ∀ x, obx W.drew g 1 x = (.int .i64 r2.hi : Value) := obx_of (show W.drew.cell? ⟨g, 1, none⟩ = some (.int .i64 r2.hi : Value) from by (try simp only [cell_drew]); simp [go_sem, *])
      refine wp_region_held_drew (S := (fun w' => (∀ b o, b < W.heap.size → w'.cell? ⟨b, o, none⟩ = if b = g ∧ 0 ≤ o ∧ o < 2 ∨ b = p ∧ o = 4 then (W.cell? ⟨b, o, none⟩).map (obx w' b o) else W.cell? ⟨b, o, none⟩) ∧ (∀ b o, b < W.heap.size → w'.frozen? ⟨b, o, none⟩ = W.frozen? ⟨b, o, none⟩) ∧ W.heap.size ≤ w'.heap.size ∧ ExtP w p 4 w')) (by kernel_rfl) ?_ (fun hHeld => ?_)
      · (try dsimp only); (first | (with_reducible exact hel0 hWe) | (with_reducible exact hel1p (by with_reducible assumption) (by with_reducible assumption)) | (with_reducible exact hel1 (by with_reducible assumption) (by with_reducible assumption)) | (with_reducible exact hel3d (by with_reducible assumption)) | (with_reducible exact hel3 (by with_reducible assumption)) | ((with_reducible refine hel4 (by with_reducible assumption) ?_ ?_) <;> omega) | (repeat (first | (with_reducible assumption) | (with_reducible refine hel2 ?_ (by first | (refine Or.inl ⟨?_, ?_, ?_⟩ <;> (first | rfl | (dsimp only; omega))) | (refine Or.inr (Or.inl ⟨?_, ?_⟩) <;> (first | rfl | (dsimp only; omega))) | (refine Or.inr (Or.inr ?_); (try dsimp only); (try simp only [World.size_alloc, World.size_setCell]); omega)) (by (try dsimp only); (try simp only [World.size_alloc, World.size_setCell]); omega)))))
      refine wpAnyH_take (i := 0) (oi := _) (v := ?_) rfl (by kernel_rfl) (by kernel_rfl) (by kernel_rfl) (fun _ _ _ h => h) (Or.inl ⟨by rfl, ?_⟩) (by assumption) ?_
      rotate_left
      · intro w0 hSw; (try dsimp only at hSw); go_simp; try with_reducible rfl
      try simp only [Act.put, List.setIfInBounds_toArray]
      refine wpAnyH_take (i := 1) (oi := _) (v := ?_) rfl (by kernel_rfl) (by kernel_rfl) (by kernel_rfl) (fun _ _ _ h => h) (Or.inl ⟨by rfl, ?_⟩) (by assumption) ?_
      rotate_left
      · intro w0 hSw; (try dsimp only at hSw); go_simp; try with_reducible rfl
      try simp only [Act.put]
      refine wpAnyH_take (i := 2) (oi := _) (v := ?_) rfl (by kernel_rfl) (by kernel_rfl) (by kernel_rfl) (fun _ _ _ h => h) (Or.inl ⟨by rfl, ?_⟩) (by assumption) ?_
      rotate_left
      · intro w0 hSw; (try dsimp only at hSw); go_simp; try with_reducible rfl
      try simp only [Act.put]
      refine wpAnyH_take (i := 3) (oi := _) (v := ?_) rfl (by kernel_rfl) (by kernel_rfl) (by kernel_rfl) (fun _ _ _ h => h) (Or.inl ⟨by rfl, ?_⟩) (by assumption) ?_
      rotate_left
      · intro w0 hSw; (try dsimp only at hSw); go_simp; try with_reducible rfl
      try simp only [Act.put]
      refine wpAnyH_take (i := 4) (oi := _) (v := ?_) rfl (by kernel_rfl) (by kernel_rfl) (by kernel_rfl) (fun _ _ _ h => h) (Or.inl ⟨by rfl, ?_⟩) (by assumption) ?_
      rotate_left
      · intro w0 hSw; (try dsimp only at hSw); go_simp; try with_reducible rfl
      try simp only [Act.put]
      refine wpAnyH_take (i := 6) (oi := _) (v := ?_) rfl (by kernel_rfl) (by kernel_rfl) (by kernel_rfl) (fun _ _ _ h => h) (Or.inl ⟨by rfl, ?_⟩) (by assumption) ?_
      rotate_left
      · intro w0 hSw; (try dsimp only at hSw); go_simp; try with_reducible rfl
      try simp only [Act.put]
      refine wpAnyH_take (i := 7) (oi := _) (v := ?_) rfl (by kernel_rfl) (by kernel_rfl) (by kernel_rfl) (fun _ _ _ h => h) (Or.inl ⟨by rfl, ?_⟩) (by assumption) ?_
      rotate_left
      · intro w0 hSw; (try dsimp only at hSw); go_simp; try with_reducible rfl
      try simp only [Act.put]
      refine wpAnyH_take (i := 8) (oi := _) (v := ?_) rfl (by kernel_rfl) (by kernel_rfl) (by kernel_rfl) (fun _ _ _ h => h) (Or.inl ⟨by rfl, ?_⟩) (by assumption) ?_
      rotate_left
      · intro w0 hSw; (try dsimp only at hSw); go_simp; try with_reducible rfl
      try simp only [Act.put]
      refine wpAnyH_take (i := 9) (oi := _) (v := ?_) rfl (by kernel_rfl) (by kernel_rfl) (by kernel_rfl) (fun _ _ _ h => h) (Or.inl ⟨by rfl, ?_⟩) (by assumption) ?_
      rotate_left
      · intro w0 hSw; (try dsimp only at hSw); go_simp; try with_reducible rfl
      try simp only [Act.put]
      refine wpAnyH_take (i := 10) (oi := _) (v := ?_) rfl (by kernel_rfl) (by kernel_rfl) (by kernel_rfl) (fun _ _ _ h => h) (Or.inl ⟨by rfl, ?_⟩) (by assumption) ?_
      rotate_left
      · intro w0 hSw; (try dsimp only at hSw); go_simp; try with_reducible rfl
      try simp only [Act.put]
      refine wpAnyH_take (i := 11) (oi := _) (v := ?_) rfl (by kernel_rfl) (by kernel_rfl) (by kernel_rfl) (fun _ _ _ h => h) (Or.inl ⟨by rfl, ?_⟩) (by assumption) ?_
      rotate_left
      · intro w0 hSw; (try dsimp only at hSw); go_simp; try with_reducible rfl
      try simp only [Act.put]
      refine wpAnyH_take (i := 12) (oi := _) (v := ?_) rfl (by kernel_rfl) (by kernel_rfl) (by kernel_rfl) (fun _ _ _ h => h) (Or.inl ⟨by rfl, ?_⟩) (by assumption) ?_
      rotate_left
      · intro w0 hSw; (try dsimp only at hSw); go_simp; try with_reducible rfl
      try simp only [Act.put]
      refine wpAnyH_take (i := 13) (oi := _) (v := ?_) rfl (by kernel_rfl) (by kernel_rfl) (by kernel_rfl) (fun _ _ _ h => h) (Or.inl ⟨by rfl, ?_⟩) (by assumption) ?_
      rotate_left
      · intro w0 hSw; (try dsimp only at hSw); go_simp; try with_reducible rfl
      try simp only [Act.put]
      refine wpAnyH_take (i := 14) (oi := _) (v := ?_) rfl (by kernel_rfl) (by kernel_rfl) (by kernel_rfl) (fun _ _ _ h => h) (Or.inl ⟨by rfl, ?_⟩) (by assumption) ?_
      rotate_left
      · intro w0 hSw; (try dsimp only at hSw); go_simp; try with_reducible rfl
      try simp only [Act.put]
      refine wpAnyH_take (i := 15) (oi := _) (v := ?_) rfl (by kernel_rfl) (by kernel_rfl) (by kernel_rfl) (fun _ _ _ h => h) (Or.inl ⟨by rfl, ?_⟩) (by assumption) ?_
      rotate_left
      · intro w0 hSw; (try dsimp only at hSw); go_simp; try with_reducible rfl
      try simp only [Act.put]
      refine wpAnyH_take (i := 16) (oi := _) (v := ?_) rfl (by kernel_rfl) (by kernel_rfl) (by kernel_rfl) (fun _ _ _ h => h) (Or.inl ⟨by rfl, ?_⟩) (by assumption) ?_
      rotate_left
      · intro w0 hSw; (try dsimp only at hSw); go_simp; try with_reducible rfl
      try simp only [Act.put]
      refine wpAnyH_take (i := 17) (oi := _) (v := ?_) rfl (by kernel_rfl) (by kernel_rfl) (by kernel_rfl) (fun _ _ _ h => h) (Or.inl ⟨by rfl, ?_⟩) (by assumption) ?_
      rotate_left
      · intro w0 hSw; (try dsimp only at hSw); go_simp; try with_reducible rfl
      try simp only [Act.put]
      refine wpAnyH_take (i := 18) (oi := _) (v := ?_) rfl (by kernel_rfl) (by kernel_rfl) (by kernel_rfl) (fun _ _ _ h => h) (Or.inl ⟨by rfl, ?_⟩) (by assumption) ?_
      rotate_left
      · intro w0 hSw; (try dsimp only at hSw); go_simp; try with_reducible rfl
      try simp only [Act.put]
      refine wpAnyH_ready (rs := [5, 19]) (by kernel_rfl) (by simp) ?_
      refine AllReadyH.cons (o := _) rfl (fun K hK => ?_) ?_
      · go_simp
        refine hK.out _ _ ?_ (fun hHeldN => ?_)
        · (try dsimp only); (first | (with_reducible exact hel0 hWe) | (with_reducible exact hel1p (by with_reducible assumption) (by with_reducible assumption)) | (with_reducible exact hel1 (by with_reducible assumption) (by with_reducible assumption)) | (with_reducible exact hel3d (by with_reducible assumption)) | (with_reducible exact hel3 (by with_reducible assumption)) | ((with_reducible refine hel4 (by with_reducible assumption) ?_ ?_) <;> omega) | (repeat (first | (with_reducible assumption) | (with_reducible refine hel2 ?_ (by first | (refine Or.inl ⟨?_, ?_, ?_⟩ <;> (first | rfl | (dsimp only; omega))) | (refine Or.inr (Or.inl ⟨?_, ?_⟩) <;> (first | rfl | (dsimp only; omega))) | (refine Or.inr (Or.inr ?_); (try dsimp only); (try simp only [World.size_alloc, World.size_setCell]); omega)) (by (try dsimp only); (try simp only [World.size_alloc, World.size_setCell]); omega)))))
        clear hK K hHeld
        have hHeld := hHeldN
        clear hHeldN
        try simp only [Act.put, List.setIfInBounds_toArray, List.set_cons_zero, List.set_cons_succ]
        refine wpAnyH_ready (rs := [19]) (by kernel_rfl) (by simp) ?_
        refine AllReadyH.cons (o := _) rfl (fun K hK => ?_) AllReadyH.nil
        go_simp
        (go_at_call 44; (with_reducible refine (d_mul p (r2.e) a.e a.f b.e b.f _ (by (try simp only [cell_drew]); first | with_reducible assumption | (rw [cell_al, if_neg (by (try simp only [size_drew]); omega)]; (try simp only [cell_drew]); with_reducible assumption) | simp [go_sem, *]) (by (try simp only [frozen_drew]); first | with_reducible assumption | (rw [cell_al, if_neg (by (try simp only [size_drew]); omega)]; (try simp only [cell_drew]); with_reducible assumption) | simp [go_sem, *]) ha3 hb3).mono ?_); (generalize hr3 : doI (r2.e) (mulI a.e a.f b.e b.f) = r3); rintro e w2 ⟨rfl, hb0⟩; have hz0 := hb0.size; (try simp only [size_drew, World.size_setCell] at hz0); obtain ⟨hg0, hh0⟩ := hb0.got (u := .int .i64 (r2.e)) (by (try simp only [cell_drew]); first | with_reducible assumption | (rw [cell_al, if_neg (by (try simp only [size_drew]); omega)]; (try simp only [cell_drew]); with_reducible assumption) | simp [go_sem, *]); have hob0 := obx_of hg0; (try simp only [frozen_drew] at hh0); (have hog00 := obx_of ((hb0.cells.1 g 0 (by (try simp only [size_drew, World.size_setCell]); omega)).trans (show _ = some (.int .i64 r2.lo) from by (try simp only [cell_sc, cell_drew]); simp [go_sem, *]))); (have hog01 := obx_of ((hb0.cells.1 g 1 (by (try simp only [size_drew, World.size_setCell]); omega)).trans (show _ = some (.int .i64 r2.hi) from by (try simp only [cell_sc, cell_drew]); simp [go_sem, *]))))
        refine hK.out _ _ ?_ (fun hHeldN => ?_)
        · (try dsimp only); (first | (with_reducible exact hel0 hWe) | (with_reducible exact hel1p (by with_reducible assumption) (by with_reducible assumption)) | (with_reducible exact hel1 (by with_reducible assumption) (by with_reducible assumption)) | (with_reducible exact hel3d (by with_reducible assumption)) | (with_reducible exact hel3 (by with_reducible assumption)) | ((with_reducible refine hel4 (by with_reducible assumption) ?_ ?_) <;> omega) | (repeat (first | (with_reducible assumption) | (with_reducible refine hel2 ?_ (by first | (refine Or.inl ⟨?_, ?_, ?_⟩ <;> (first | rfl | (dsimp only; omega))) | (refine Or.inr (Or.inl ⟨?_, ?_⟩) <;> (first | rfl | (dsimp only; omega))) | (refine Or.inr (Or.inr ?_); (try dsimp only); (try simp only [World.size_alloc, World.size_setCell]); omega)) (by (try dsimp only); (try simp only [World.size_alloc, World.size_setCell]); omega)))))
        clear hK K hHeld
        have hHeld := hHeldN
        clear hHeldN
        try simp only [Act.put, List.setIfInBounds_toArray, List.set_cons_zero, List.set_cons_succ]
        refine wpAnyH_ready (rs := [20]) (by kernel_rfl) (by simp) ?_
        refine AllReadyH.cons (o := _) rfl (fun K hK => ?_) AllReadyH.nil
        go_simp
        (go_at_call 44; (try simp only [hod0, hod1, hog00, hog01]); (with_reducible refine (d_add p (r3.e) r2.lo r2.hi r3.lo r3.hi _ (by (try simp only [cell_drew, frozen_drew]); first | with_reducible assumption | (rw [cell_al, if_neg (by (try simp only [size_drew]); omega)]; (try simp only [cell_drew]); with_reducible assumption) | simp [go_sem, ↓IntWalk.iteOmega, *]) (by (try simp only [cell_drew, frozen_drew]); first | with_reducible assumption | (rw [cell_al, if_neg (by (try simp only [size_drew]); omega)]; (try simp only [cell_drew]); with_reducible assumption) | simp [go_sem, *])).mono ?_); (generalize hr4 : doI (r3.e) (addI r2.lo r2.hi r3.lo r3.hi) = r4); rintro e w3 ⟨rfl, hb1⟩; have hz1 := hb1.size; (try simp only [World.size_setCell] at hz1); obtain ⟨hg1, hh1⟩ := hb1.got (u := .int .i64 (r3.e)) (by (try simp only [cell_drew, frozen_drew]); first | with_reducible assumption | (rw [cell_al, if_neg (by (try simp only [size_drew]); omega)]; (try simp only [cell_drew]); with_reducible assumption) | simp [go_sem, ↓IntWalk.iteOmega, *]); have hob1 := obx_of hg1; (try simp only [frozen_drew] at hh1))
        refine hK.out _ _ ?_ (fun hHeldN => ?_)
        · (try dsimp only); (first | (with_reducible exact hel0 hWe) | (with_reducible exact hel1p (by with_reducible assumption) (by with_reducible assumption)) | (with_reducible exact hel1 (by with_reducible assumption) (by with_reducible assumption)) | (with_reducible exact hel3d (by with_reducible assumption)) | (with_reducible exact hel3 (by with_reducible assumption)) | ((with_reducible refine hel4 (by with_reducible assumption) ?_ ?_) <;> omega) | (repeat (first | (with_reducible assumption) | (with_reducible refine hel2 ?_ (by first | (refine Or.inl ⟨?_, ?_, ?_⟩ <;> (first | rfl | (dsimp only; omega))) | (refine Or.inr (Or.inl ⟨?_, ?_⟩) <;> (first | rfl | (dsimp only; omega))) | (refine Or.inr (Or.inr ?_); (try dsimp only); (try simp only [World.size_alloc, World.size_setCell]); omega)) (by (try dsimp only); (try simp only [World.size_alloc, World.size_setCell]); omega)))))
        clear hK K hHeld
        have hHeld := hHeldN
        clear hHeldN
        try simp only [Act.put, List.setIfInBounds_toArray, List.set_cons_zero, List.set_cons_succ]
        refine wpAnyH_ready (rs := [21]) (by kernel_rfl) (by simp) ?_
        refine AllReadyH.cons (o := _) rfl (fun K hK => ?_) AllReadyH.nil
        go_simp
        refine hK.out _ _ ?_ (fun hHeldN => ?_)
        · (try dsimp only); (first | (with_reducible exact hel0 hWe) | (with_reducible exact hel1p (by with_reducible assumption) (by with_reducible assumption)) | (with_reducible exact hel1 (by with_reducible assumption) (by with_reducible assumption)) | (with_reducible exact hel3d (by with_reducible assumption)) | (with_reducible exact hel3 (by with_reducible assumption)) | ((with_reducible refine hel4 (by with_reducible assumption) ?_ ?_) <;> omega) | (repeat (first | (with_reducible assumption) | (with_reducible refine hel2 ?_ (by first | (refine Or.inl ⟨?_, ?_, ?_⟩ <;> (first | rfl | (dsimp only; omega))) | (refine Or.inr (Or.inl ⟨?_, ?_⟩) <;> (first | rfl | (dsimp only; omega))) | (refine Or.inr (Or.inr ?_); (try dsimp only); (try simp only [World.size_alloc, World.size_setCell]); omega)) (by (try dsimp only); (try simp only [World.size_alloc, World.size_setCell]); omega)))))
        clear hK K hHeld
        have hHeld := hHeldN
        clear hHeldN
        try simp only [Act.put, List.setIfInBounds_toArray, List.set_cons_zero, List.set_cons_succ]
        refine wpAnyH_done (by kernel_rfl) ?_ _
        have hOld := hHeld
        clear hHeld
        have hE := hOld.2.2.2
        have hO := And.intro hOld.1 (And.intro hOld.2.1 hOld.2.2.1)
        clear hOld
        replace hO := helBack hO (by first | (refine Or.inl ⟨?_, ?_, ?_⟩ <;> (first | rfl | (dsimp only; omega))) | (refine Or.inr (Or.inl ⟨?_, ?_⟩) <;> (first | rfl | (dsimp only; omega))) | (refine Or.inr (Or.inr ?_); (try dsimp only); (try simp only [World.size_alloc, World.size_setCell]); omega))
        replace hO := helBack hO (by first | (refine Or.inl ⟨?_, ?_, ?_⟩ <;> (first | rfl | (dsimp only; omega))) | (refine Or.inr (Or.inl ⟨?_, ?_⟩) <;> (first | rfl | (dsimp only; omega))) | (refine Or.inr (Or.inr ?_); (try dsimp only); (try simp only [World.size_alloc, World.size_setCell]); omega))
        obtain ⟨hOc, hOf, hOz⟩ := helEnd hO
        clear hO
        have hlu : w.heap.size < w3.heap.size ∧ w.heap.size + 1 < w3.heap.size ∧ w.heap.size + 1 + 1 < w3.heap.size ∧ p < w3.heap.size ∧ g < w3.heap.size := (by refine ⟨?_, ?_, ?_, ?_, ?_⟩ <;> omega)
        go_wp2_with fail
        rw [rounds_succ]
        go_wp2_with fail
        all_goals
          refine bodyPost_ret (v := .agg #[.int .i64 (dotI E a b).lo, .int .i64 (dotI E a b).hi]) ?_ rfl ⟨rfl, ?_⟩
          · (try simp only [] at *)
            simp [results, Try.results46, go_sem, dotI, dot3, dot2, dot1, dot0, *]
          · refine ExtP.fin ?_ ?_ hp
            · (repeat (first | with_reducible refine ExtP.set ?_ | (with_reducible refine ExtP.store ?_ ?_; rotate_left; (focus ((try simp only []); omega))) | with_reducible refine ExtP.ext ?_ ((Ext.refl _).alloc _) | with_reducible refine ExtP.ext ?_ ((Ext.refl _).drew) | with_reducible assumption | with_reducible exact ExtP.of _ _ (Ext.refl w) | with_reducible refine ExtP.ext ?_ (by with_reducible assumption)))
            · (try simp only [bne_iff_ne, ne_eq, bne_eq_false_iff_eq, beq_iff_eq, beq_eq_false_iff_ne] at *)
              simp [go_sem, dotI, dot3, dot2, dot1, dot0, *]
      refine AllReadyH.cons (o := _) rfl (fun K hK => ?_) AllReadyH.nil
      · go_simp
        (go_at_call 44; (with_reducible refine (d_mul p (r2.e) a.e a.f b.e b.f _ (by (try simp only [cell_drew]); first | with_reducible assumption | (rw [cell_al, if_neg (by (try simp only [size_drew]); omega)]; (try simp only [cell_drew]); with_reducible assumption) | simp [go_sem, *]) (by (try simp only [frozen_drew]); first | with_reducible assumption | (rw [cell_al, if_neg (by (try simp only [size_drew]); omega)]; (try simp only [cell_drew]); with_reducible assumption) | simp [go_sem, *]) ha3 hb3).mono ?_); (generalize hr3 : doI (r2.e) (mulI a.e a.f b.e b.f) = r3); rintro e w2 ⟨rfl, hb0⟩; have hz0 := hb0.size; (try simp only [size_drew, World.size_setCell] at hz0); obtain ⟨hg0, hh0⟩ := hb0.got (u := .int .i64 (r2.e)) (by (try simp only [cell_drew]); first | with_reducible assumption | (rw [cell_al, if_neg (by (try simp only [size_drew]); omega)]; (try simp only [cell_drew]); with_reducible assumption) | simp [go_sem, *]); have hob0 := obx_of hg0; (try simp only [frozen_drew] at hh0); (have hog00 := obx_of ((hb0.cells.1 g 0 (by (try simp only [size_drew, World.size_setCell]); omega)).trans (show _ = some (.int .i64 r2.lo) from by (try simp only [cell_sc, cell_drew]); simp [go_sem, *]))); (have hog01 := obx_of ((hb0.cells.1 g 1 (by (try simp only [size_drew, World.size_setCell]); omega)).trans (show _ = some (.int .i64 r2.hi) from by (try simp only [cell_sc, cell_drew]); simp [go_sem, *]))))
        refine hK.out _ _ ?_ (fun hHeldN => ?_)
        · (try dsimp only); (first | (with_reducible exact hel0 hWe) | (with_reducible exact hel1p (by with_reducible assumption) (by with_reducible assumption)) | (with_reducible exact hel1 (by with_reducible assumption) (by with_reducible assumption)) | (with_reducible exact hel3d (by with_reducible assumption)) | (with_reducible exact hel3 (by with_reducible assumption)) | ((with_reducible refine hel4 (by with_reducible assumption) ?_ ?_) <;> omega) | (repeat (first | (with_reducible assumption) | (with_reducible refine hel2 ?_ (by first | (refine Or.inl ⟨?_, ?_, ?_⟩ <;> (first | rfl | (dsimp only; omega))) | (refine Or.inr (Or.inl ⟨?_, ?_⟩) <;> (first | rfl | (dsimp only; omega))) | (refine Or.inr (Or.inr ?_); (try dsimp only); (try simp only [World.size_alloc, World.size_setCell]); omega)) (by (try dsimp only); (try simp only [World.size_alloc, World.size_setCell]); omega)))))
        clear hK K hHeld
        have hHeld := hHeldN
        clear hHeldN
        try simp only [Act.put, List.setIfInBounds_toArray, List.set_cons_zero, List.set_cons_succ]
        refine wpAnyH_ready (rs := [5]) (by kernel_rfl) (by simp) ?_
        refine AllReadyH.cons (o := _) rfl (fun K hK => ?_) AllReadyH.nil
        go_simp
        refine hK.out _ _ ?_ (fun hHeldN => ?_)
        · (try dsimp only); (first | (with_reducible exact hel0 hWe) | (with_reducible exact hel1p (by with_reducible assumption) (by with_reducible assumption)) | (with_reducible exact hel1 (by with_reducible assumption) (by with_reducible assumption)) | (with_reducible exact hel3d (by with_reducible assumption)) | (with_reducible exact hel3 (by with_reducible assumption)) | ((with_reducible refine hel4 (by with_reducible assumption) ?_ ?_) <;> omega) | (repeat (first | (with_reducible assumption) | (with_reducible refine hel2 ?_ (by first | (refine Or.inl ⟨?_, ?_, ?_⟩ <;> (first | rfl | (dsimp only; omega))) | (refine Or.inr (Or.inl ⟨?_, ?_⟩) <;> (first | rfl | (dsimp only; omega))) | (refine Or.inr (Or.inr ?_); (try dsimp only); (try simp only [World.size_alloc, World.size_setCell]); omega)) (by (try dsimp only); (try simp only [World.size_alloc, World.size_setCell]); omega)))))
        clear hK K hHeld
        have hHeld := hHeldN
        clear hHeldN
        try simp only [Act.put, List.setIfInBounds_toArray, List.set_cons_zero, List.set_cons_succ]
        refine wpAnyH_ready (rs := [20]) (by kernel_rfl) (by simp) ?_
        refine AllReadyH.cons (o := _) rfl (fun K hK => ?_) AllReadyH.nil
        go_simp
        (go_at_call 44; (try simp only [hod0, hod1, hog00, hog01]); (with_reducible refine (d_add p (r3.e) r2.lo r2.hi r3.lo r3.hi _ (by (try simp only [cell_drew, frozen_drew]); first | with_reducible assumption | (rw [cell_al, if_neg (by (try simp only [size_drew]); omega)]; (try simp only [cell_drew]); with_reducible assumption) | simp [go_sem, ↓IntWalk.iteOmega, *]) (by (try simp only [cell_drew, frozen_drew]); first | with_reducible assumption | (rw [cell_al, if_neg (by (try simp only [size_drew]); omega)]; (try simp only [cell_drew]); with_reducible assumption) | simp [go_sem, *])).mono ?_); (generalize hr4 : doI (r3.e) (addI r2.lo r2.hi r3.lo r3.hi) = r4); rintro e w3 ⟨rfl, hb1⟩; have hz1 := hb1.size; (try simp only [World.size_setCell] at hz1); obtain ⟨hg1, hh1⟩ := hb1.got (u := .int .i64 (r3.e)) (by (try simp only [cell_drew, frozen_drew]); first | with_reducible assumption | (rw [cell_al, if_neg (by (try simp only [size_drew]); omega)]; (try simp only [cell_drew]); with_reducible assumption) | simp [go_sem, ↓IntWalk.iteOmega, *]); have hob1 := obx_of hg1; (try simp only [frozen_drew] at hh1))
        refine hK.out _ _ ?_ (fun hHeldN => ?_)
        · (try dsimp only); (first | (with_reducible exact hel0 hWe) | (with_reducible exact hel1p (by with_reducible assumption) (by with_reducible assumption)) | (with_reducible exact hel1 (by with_reducible assumption) (by with_reducible assumption)) | (with_reducible exact hel3d (by with_reducible assumption)) | (with_reducible exact hel3 (by with_reducible assumption)) | ((with_reducible refine hel4 (by with_reducible assumption) ?_ ?_) <;> omega) | (repeat (first | (with_reducible assumption) | (with_reducible refine hel2 ?_ (by first | (refine Or.inl ⟨?_, ?_, ?_⟩ <;> (first | rfl | (dsimp only; omega))) | (refine Or.inr (Or.inl ⟨?_, ?_⟩) <;> (first | rfl | (dsimp only; omega))) | (refine Or.inr (Or.inr ?_); (try dsimp only); (try simp only [World.size_alloc, World.size_setCell]); omega)) (by (try dsimp only); (try simp only [World.size_alloc, World.size_setCell]); omega)))))
        clear hK K hHeld
        have hHeld := hHeldN
        clear hHeldN
        try simp only [Act.put, List.setIfInBounds_toArray, List.set_cons_zero, List.set_cons_succ]
        refine wpAnyH_ready (rs := [21]) (by kernel_rfl) (by simp) ?_
        refine AllReadyH.cons (o := _) rfl (fun K hK => ?_) AllReadyH.nil
        go_simp
        refine hK.out _ _ ?_ (fun hHeldN => ?_)
        · (try dsimp only); (first | (with_reducible exact hel0 hWe) | (with_reducible exact hel1p (by with_reducible assumption) (by with_reducible assumption)) | (with_reducible exact hel1 (by with_reducible assumption) (by with_reducible assumption)) | (with_reducible exact hel3d (by with_reducible assumption)) | (with_reducible exact hel3 (by with_reducible assumption)) | ((with_reducible refine hel4 (by with_reducible assumption) ?_ ?_) <;> omega) | (repeat (first | (with_reducible assumption) | (with_reducible refine hel2 ?_ (by first | (refine Or.inl ⟨?_, ?_, ?_⟩ <;> (first | rfl | (dsimp only; omega))) | (refine Or.inr (Or.inl ⟨?_, ?_⟩) <;> (first | rfl | (dsimp only; omega))) | (refine Or.inr (Or.inr ?_); (try dsimp only); (try simp only [World.size_alloc, World.size_setCell]); omega)) (by (try dsimp only); (try simp only [World.size_alloc, World.size_setCell]); omega)))))
        clear hK K hHeld
        have hHeld := hHeldN
        clear hHeldN
        try simp only [Act.put, List.setIfInBounds_toArray, List.set_cons_zero, List.set_cons_succ]
        refine wpAnyH_done (by kernel_rfl) ?_ _
        have hOld := hHeld
        clear hHeld
        have hE := hOld.2.2.2
        have hO := And.intro hOld.1 (And.intro hOld.2.1 hOld.2.2.1)
        clear hOld
        replace hO := helBack hO (by first | (refine Or.inl ⟨?_, ?_, ?_⟩ <;> (first | rfl | (dsimp only; omega))) | (refine Or.inr (Or.inl ⟨?_, ?_⟩) <;> (first | rfl | (dsimp only; omega))) | (refine Or.inr (Or.inr ?_); (try dsimp only); (try simp only [World.size_alloc, World.size_setCell]); omega))
        replace hO := helBack hO (by first | (refine Or.inl ⟨?_, ?_, ?_⟩ <;> (first | rfl | (dsimp only; omega))) | (refine Or.inr (Or.inl ⟨?_, ?_⟩) <;> (first | rfl | (dsimp only; omega))) | (refine Or.inr (Or.inr ?_); (try dsimp only); (try simp only [World.size_alloc, World.size_setCell]); omega))
        obtain ⟨hOc, hOf, hOz⟩ := helEnd hO
        clear hO
        have hlu : w.heap.size < w3.heap.size ∧ w.heap.size + 1 < w3.heap.size ∧ w.heap.size + 1 + 1 < w3.heap.size ∧ p < w3.heap.size ∧ g < w3.heap.size := (by refine ⟨?_, ?_, ?_, ?_, ?_⟩ <;> omega)
        go_wp2_with fail
        rw [rounds_succ]
        go_wp2_with fail
        all_goals
          refine bodyPost_ret (v := .agg #[.int .i64 (dotI E a b).lo, .int .i64 (dotI E a b).hi]) ?_ rfl ⟨rfl, ?_⟩
          · (try simp only [] at *)
            simp [results, Try.results46, go_sem, dotI, dot3, dot2, dot1, dot0, *]
          · refine ExtP.fin ?_ ?_ hp
            · (repeat (first | with_reducible refine ExtP.set ?_ | (with_reducible refine ExtP.store ?_ ?_; rotate_left; (focus ((try simp only []); omega))) | with_reducible refine ExtP.ext ?_ ((Ext.refl _).alloc _) | with_reducible refine ExtP.ext ?_ ((Ext.refl _).drew) | with_reducible assumption | with_reducible exact ExtP.of _ _ (Ext.refl w) | with_reducible refine ExtP.ext ?_ (by with_reducible assumption)))
            · (try simp only [bne_iff_ne, ne_eq, bne_eq_false_iff_eq, beq_iff_eq, beq_eq_false_iff_ne] at *)
              simp [go_sem, dotI, dot3, dot2, dot1, dot0, *]

end Go.Proofs.Ytomgcjeahkmhiaa
