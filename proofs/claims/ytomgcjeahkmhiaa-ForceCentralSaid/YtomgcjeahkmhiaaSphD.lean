/- sphere: the product, the square. -/
import Derived.Test.YtomgcjeahkmhiaaSphC
namespace Go.Proofs.Ytomgcjeahkmhiaa
open Go.RowKit

set_option maxRecDepth 100000 in
set_option maxHeartbeats 2000000 in
theorem p_dot (a b : V3) (w : World) (ha : a.I) (hb0 : b.I) :
    Calls Try.prog 15 #[.agg #[.int .i64 a.a, .int .i64 a.b, .int .i64 a.c, .int .i64 a.d, .int .i64 a.e, .int .i64 a.f], .agg #[.int .i64 b.a, .int .i64 b.b, .int .i64 b.c, .int .i64 b.d, .int .i64 b.e, .int .i64 b.f]] w fun e w' => e = .returned (.tuple #[.agg #[.int .i64 (dotV a b).lo, .int .i64 (dotV a b).hi], .int .i64 (dotV a b).e]) ∧ Ext w w' := by
  have l0 : IntKind.i64.wrap 0 = 0 := rfl
  have l1 : IntKind.i64.wrap 1 = 1 := rfl
  have l2 : IntKind.i64.wrap 2 = 2 := rfl
  have l3 : IntKind.i64.wrap 3 = 3 := rfl
  go_enter Try.func15, Try.ntmps15
  go_wp2_with (first | (go_at_call 42; (with_reducible refine (s_look a b _).mono ?_); rintro e w1 ⟨rfl, hb⟩; obtain ⟨_, _, hc, hf⟩ := hb.cells2; have hz := hb.size; (try simp only [World.size_alloc] at hz hc hf); (try have zz : w.heap.size < w1.heap.size ∧ (∀ j, w.heap.size < w1.heap.size + j) ∧ (¬ w.heap.size = w1.heap.size) ∧ (∀ j, ¬ w.heap.size = w1.heap.size + j) ∧ (¬ w1.heap.size = w.heap.size) ∧ (∀ j, ¬ w1.heap.size + j = w.heap.size) := (by refine ⟨?_, fun j => ?_, ?_, fun j => ?_, ?_, fun j => ?_⟩ <;> omega)); (try have zz : w.heap.size + 1 < w1.heap.size ∧ (∀ j, w.heap.size + 1 < w1.heap.size + j) ∧ (¬ w.heap.size + 1 = w1.heap.size) ∧ (∀ j, ¬ w.heap.size + 1 = w1.heap.size + j) ∧ (¬ w1.heap.size = w.heap.size + 1) ∧ (∀ j, ¬ w1.heap.size + j = w.heap.size + 1) := (by refine ⟨?_, fun j => ?_, ?_, fun j => ?_, ?_, fun j => ?_⟩ <;> omega)); (try have zz : w.heap.size + 1 + 1 < w1.heap.size ∧ (∀ j, w.heap.size + 1 + 1 < w1.heap.size + j) ∧ (¬ w.heap.size + 1 + 1 = w1.heap.size) ∧ (∀ j, ¬ w.heap.size + 1 + 1 = w1.heap.size + j) ∧ (¬ w1.heap.size = w.heap.size + 1 + 1) ∧ (∀ j, ¬ w1.heap.size + j = w.heap.size + 1 + 1) := (by refine ⟨?_, fun j => ?_, ?_, fun j => ?_, ?_, fun j => ?_⟩ <;> omega))) | (go_at_call 43; (with_reducible refine (s_begin _).mono ?_); rintro e w2 ⟨rfl, rfl⟩) | (go_at_call 46; (with_reducible refine (d_dot w1.heap.size 0 a b _ (by simp [go_sem, *]) (by simp [go_sem, *]) (by simp [go_sem, *]) (by simp [go_sem, *]) ha hb0).mono ?_); rintro e wd ⟨rfl, hb⟩; obtain ⟨_, _, hc, hf⟩ := hb.cells2; have hz := hb.size; (try simp only [World.size_alloc, World.size_setCell] at hz hc hf)))
  · -- the error
    refine bodyPost_ret (v := .tuple #[.agg #[.int .i64 (dotV a b).lo, .int .i64 (dotV a b).hi], .int .i64 (dotV a b).e]) ?_ rfl ⟨rfl, ?_⟩
    · (try simp only [bne_iff_ne, ne_eq] at *)
      simp [results, Try.results15, go_sem, dotV, *]
    · repeat (first | with_reducible exact Ext.refl _ | with_reducible assumption | with_reducible refine Ext.alloc ?_ _ | with_reducible refine Ext.setCell ?_ (by (try simp only []); omega) _ | with_reducible refine Ext.drewN ?_ _ | with_reducible refine Ext.drew ?_ | with_reducible refine Ext.trans ?_ (by with_reducible assumption))
  · -- the product
    (try go_region)
    go_wp2_with fail
    refine bodyPost_ret (v := .tuple #[.agg #[.int .i64 (dotV a b).lo, .int .i64 (dotV a b).hi], .int .i64 (dotV a b).e]) ?_ rfl ⟨rfl, ?_⟩
    · (try simp only [bne_eq_false_iff_eq] at *)
      simp [results, Try.results15, go_sem, ↓IntWalk.iteOmega, dotV, *]
    · refine ExtP.out (p := w1.heap.size) (k := 4) ?_ (by omega)
      (repeat (first | with_reducible refine ExtP.set ?_ | (with_reducible refine ExtP.store ?_ ?_; rotate_left; (focus ((try simp only []); omega))) | with_reducible refine ExtP.ext ?_ ((Ext.refl _).alloc _) | with_reducible refine ExtP.ext ?_ ((Ext.refl _).drew) | with_reducible assumption | with_reducible exact ExtP.of _ _ (Ext.refl w) | with_reducible refine ExtP.ext ?_ (by with_reducible assumption)))

set_option maxRecDepth 100000 in
set_option maxHeartbeats 4000000 in
theorem p_nrm (a : V3) (w : World) (ha : a.I) :
    Calls Try.prog 17 #[.agg #[.int .i64 a.a, .int .i64 a.b, .int .i64 a.c, .int .i64 a.d, .int .i64 a.e, .int .i64 a.f]] w fun e w' => e = .returned (.tuple #[.agg #[.int .i64 (nrmV a).lo, .int .i64 (nrmV a).hi], .int .i64 (nrmV a).e]) ∧ Ext w w' := by
  obtain ⟨ha1, ha2, ha3⟩ := ha
  have l0 : IntKind.i64.wrap 0 = 0 := rfl
  have l1 : IntKind.i64.wrap 1 = 1 := rfl
  have l2 : IntKind.i64.wrap 2 = 2 := rfl
  have l3 : IntKind.i64.wrap 3 = 3 := rfl
  go_enter Try.func17, Try.ntmps17
  go_wp2_with (first | (go_at_call 19; (with_reducible refine (s_check a _).mono ?_); rintro e w1 ⟨rfl, hb⟩; obtain ⟨_, _, hc, hf⟩ := hb.cells2; have hz := hb.size; (try simp only [World.size_alloc] at hz hc hf); (try have zz : w.heap.size < w1.heap.size ∧ (∀ j, w.heap.size < w1.heap.size + j) ∧ (¬ w.heap.size = w1.heap.size) ∧ (∀ j, ¬ w.heap.size = w1.heap.size + j) ∧ (¬ w1.heap.size = w.heap.size) ∧ (∀ j, ¬ w1.heap.size + j = w.heap.size) := (by refine ⟨?_, fun j => ?_, ?_, fun j => ?_, ?_, fun j => ?_⟩ <;> omega)); (try have zz : w.heap.size + 1 < w1.heap.size ∧ (∀ j, w.heap.size + 1 < w1.heap.size + j) ∧ (¬ w.heap.size + 1 = w1.heap.size) ∧ (∀ j, ¬ w.heap.size + 1 = w1.heap.size + j) ∧ (¬ w1.heap.size = w.heap.size + 1) ∧ (∀ j, ¬ w1.heap.size + j = w.heap.size + 1) := (by refine ⟨?_, fun j => ?_, ?_, fun j => ?_, ?_, fun j => ?_⟩ <;> omega))) | (go_at_call 43; (with_reducible refine (s_begin _).mono ?_); rintro e w2 ⟨rfl, rfl⟩) | (go_at_call 44; (with_reducible refine (d_sq w1.heap.size (0) a.a a.b a.a a.b _ (by simp [go_sem, *]) (by simp [go_sem, *]) ha1).mono ?_); (generalize hr0 : doI (0) (sqI a.a a.b) = r0); rintro e wg ⟨rfl, hb⟩; obtain ⟨_, _, hc, hf⟩ := hb.cells2; have hz := hb.size; (try simp only [World.size_alloc, World.size_setCell] at hz hc hf)))
  · -- the error
    refine bodyPost_ret (v := .tuple #[.agg #[.int .i64 (nrmV a).lo, .int .i64 (nrmV a).hi], .int .i64 (nrmV a).e]) ?_ rfl ⟨rfl, ?_⟩
    · (try simp only [bne_iff_ne, ne_eq] at *)
      simp [results, Try.results17, go_sem, nrmV, *]
    · repeat (first | with_reducible exact Ext.refl _ | with_reducible assumption | with_reducible refine Ext.alloc ?_ _ | with_reducible refine Ext.setCell ?_ (by (try simp only []); omega) _ | with_reducible refine Ext.drewN ?_ _ | with_reducible refine Ext.drew ?_ | with_reducible refine Ext.trans ?_ (by with_reducible assumption))
  · -- the sum
    refine wp_loop_rounds 3 ?_
    rw [rounds_succ]
    go_wp2_with fail
    refine wp_name fun W hW => ?_
    obtain ⟨hWc, hWf, hWz⟩ := hW.cells
    have hWe : ExtP w w1.heap.size 4 W := ExtP.same hW (by (repeat (first | with_reducible refine ExtP.set ?_ | (with_reducible refine ExtP.store ?_ ?_; rotate_left; (focus ((try simp only [World.size_alloc, World.size_setCell]); omega))) | with_reducible refine ExtP.ext ?_ ((Ext.refl _).alloc _) | with_reducible refine ExtP.ext ?_ ((Ext.refl _).drew) | with_reducible assumption | with_reducible exact ExtP.of _ _ (Ext.refl w) | with_reducible refine ExtP.ext ?_ (by with_reducible assumption))))
    (try simp only [World.size_alloc] at hWz)
    replace hWz := And.intro (Nat.le_of_eq hWz) (Nat.le_of_eq hWz.symm)
    have hlt : w.heap.size < W.heap.size ∧ w.heap.size + 1 < W.heap.size ∧ w1.heap.size < W.heap.size ∧ wg.heap.size < W.heap.size := (by refine ⟨?_, ?_, ?_, ?_⟩ <;> omega)
    have hd : ¬ w.heap.size = w.heap.size + 1 ∧ ¬ w.heap.size = w1.heap.size ∧ ¬ w.heap.size = wg.heap.size ∧ ¬ w.heap.size + 1 = w.heap.size ∧ ¬ w.heap.size + 1 = w1.heap.size ∧ ¬ w.heap.size + 1 = wg.heap.size ∧ ¬ w1.heap.size = w.heap.size ∧ ¬ w1.heap.size = w.heap.size + 1 ∧ ¬ w1.heap.size = wg.heap.size ∧ ¬ wg.heap.size = w.heap.size ∧ ¬ wg.heap.size = w.heap.size + 1 ∧ ¬ wg.heap.size = w1.heap.size := (by refine ⟨?_, ?_, ?_, ?_, ?_, ?_, ?_, ?_, ?_, ?_, ?_, ?_⟩ <;> omega)
    have hod0 : ∀ x, obx W.drew wg.heap.size 0 x = (.int .i64 r0.lo : Value) := obx_of (show W.drew.cell? ⟨wg.heap.size, 0, none⟩ = some (.int .i64 r0.lo : Value) from by (try simp only [cell_drew]); simp [go_sem, *])
    have hod1 : ∀ x, obx W.drew wg.heap.size 1 x = (.int .i64 r0.hi : Value) := obx_of (show W.drew.cell? ⟨wg.heap.size, 1, none⟩ = some (.int .i64 r0.hi : Value) from by (try simp only [cell_drew]); simp [go_sem, *])
    refine wp_region_held_drew (S := (fun w' => (∀ b o, b < W.heap.size → w'.cell? ⟨b, o, none⟩ = if b = wg.heap.size ∧ 0 ≤ o ∧ o < 2 ∨ b = w1.heap.size ∧ o = 4 then (W.cell? ⟨b, o, none⟩).map (obx w' b o) else W.cell? ⟨b, o, none⟩) ∧ (∀ b o, b < W.heap.size → w'.frozen? ⟨b, o, none⟩ = W.frozen? ⟨b, o, none⟩) ∧ W.heap.size ≤ w'.heap.size ∧ ExtP w w1.heap.size 4 w')) (by kernel_rfl) ?_ (fun hHeld => ?_)
    · (try dsimp only); (first | (with_reducible exact hel0 hWe) | (with_reducible exact hel1p (by with_reducible assumption) (by with_reducible assumption)) | (with_reducible exact hel1 (by with_reducible assumption) (by with_reducible assumption)) | (with_reducible exact hel3d (by with_reducible assumption)) | (with_reducible exact hel3 (by with_reducible assumption)) | ((with_reducible refine hel4 (by with_reducible assumption) ?_ ?_) <;> omega) | (repeat (first | (with_reducible assumption) | (with_reducible refine hel2 ?_ (by first | (refine Or.inl ⟨?_, ?_, ?_⟩ <;> (first | rfl | (dsimp only; omega))) | (refine Or.inr (Or.inl ⟨?_, ?_⟩) <;> (first | rfl | (dsimp only; omega))) | (refine Or.inr (Or.inr ?_); (try dsimp only); (try simp only [World.size_alloc, World.size_setCell]); omega)) (by (try dsimp only); (try simp only [World.size_alloc, World.size_setCell]); omega)))))
    refine wpAnyH_take (i := 0) (oi := _) (v := ?_) rfl (by kernel_rfl) (by kernel_rfl) (by kernel_rfl) (fun _ _ _ h => h) (Or.inl ⟨by rfl, ?_⟩) (by assumption) ?_
    rotate_left
    · intro w0 hSw; (try dsimp only at hSw); go_simp; try with_reducible rfl
    try simp only [Act.put, List.setIfInBounds_toArray]
    refine wpAnyH_take (i := 1) (oi := _) (v := ?_) rfl (by kernel_rfl) (by kernel_rfl) (by kernel_rfl) (fun _ _ _ h => h) (Or.inl ⟨by rfl, ?_⟩) (by assumption) ?_
    rotate_left
    · intro w0 hSw; (try dsimp only at hSw); go_simp; try with_reducible rfl
    try simp only [Act.put]
    refine wpAnyH_take (i := 2) (oi := _) (v := ?_) rfl (by kernel_rfl) (by kernel_rfl) (by kernel_rfl) (fun _ _ _ h => h) (Or.inl ⟨by rfl, ?_⟩) (by assumption) ?_
    rotate_left
    · intro w0 hSw; (try dsimp only at hSw); go_simp; try with_reducible rfl
    try simp only [Act.put]
    refine wpAnyH_take (i := 3) (oi := _) (v := ?_) rfl (by kernel_rfl) (by kernel_rfl) (by kernel_rfl) (fun _ _ _ h => h) (Or.inl ⟨by rfl, ?_⟩) (by assumption) ?_
    rotate_left
    · intro w0 hSw; (try dsimp only at hSw); go_simp; try with_reducible rfl
    try simp only [Act.put]
    refine wpAnyH_take (i := 4) (oi := _) (v := ?_) rfl (by kernel_rfl) (by kernel_rfl) (by kernel_rfl) (fun _ _ _ h => h) (Or.inl ⟨by rfl, ?_⟩) (by assumption) ?_
    rotate_left
    · intro w0 hSw; (try dsimp only at hSw); go_simp; try with_reducible rfl
    try simp only [Act.put]
    refine wpAnyH_take (i := 6) (oi := _) (v := ?_) rfl (by kernel_rfl) (by kernel_rfl) (by kernel_rfl) (fun _ _ _ h => h) (Or.inl ⟨by rfl, ?_⟩) (by assumption) ?_
    rotate_left
    · intro w0 hSw; (try dsimp only at hSw); go_simp; try with_reducible rfl
    try simp only [Act.put]
    refine wpAnyH_take (i := 7) (oi := _) (v := ?_) rfl (by kernel_rfl) (by kernel_rfl) (by kernel_rfl) (fun _ _ _ h => h) (Or.inl ⟨by rfl, ?_⟩) (by assumption) ?_
    rotate_left
    · intro w0 hSw; (try dsimp only at hSw); go_simp; try with_reducible rfl
    try simp only [Act.put]
    refine wpAnyH_take (i := 8) (oi := _) (v := ?_) rfl (by kernel_rfl) (by kernel_rfl) (by kernel_rfl) (fun _ _ _ h => h) (Or.inl ⟨by rfl, ?_⟩) (by assumption) ?_
    rotate_left
    · intro w0 hSw; (try dsimp only at hSw); go_simp; try with_reducible rfl
    try simp only [Act.put]
    refine wpAnyH_take (i := 9) (oi := _) (v := ?_) rfl (by kernel_rfl) (by kernel_rfl) (by kernel_rfl) (fun _ _ _ h => h) (Or.inl ⟨by rfl, ?_⟩) (by assumption) ?_
    rotate_left
    · intro w0 hSw; (try dsimp only at hSw); go_simp; try with_reducible rfl
    try simp only [Act.put]
    refine wpAnyH_take (i := 10) (oi := _) (v := ?_) rfl (by kernel_rfl) (by kernel_rfl) (by kernel_rfl) (fun _ _ _ h => h) (Or.inl ⟨by rfl, ?_⟩) (by assumption) ?_
    rotate_left
    · intro w0 hSw; (try dsimp only at hSw); go_simp; try with_reducible rfl
    try simp only [Act.put]
    refine wpAnyH_take (i := 11) (oi := _) (v := ?_) rfl (by kernel_rfl) (by kernel_rfl) (by kernel_rfl) (fun _ _ _ h => h) (Or.inl ⟨by rfl, ?_⟩) (by assumption) ?_
    rotate_left
    · intro w0 hSw; (try dsimp only at hSw); go_simp; try with_reducible rfl
    try simp only [Act.put]
    refine wpAnyH_take (i := 12) (oi := _) (v := ?_) rfl (by kernel_rfl) (by kernel_rfl) (by kernel_rfl) (fun _ _ _ h => h) (Or.inl ⟨by rfl, ?_⟩) (by assumption) ?_
    rotate_left
    · intro w0 hSw; (try dsimp only at hSw); go_simp; try with_reducible rfl
    try simp only [Act.put]
    refine wpAnyH_take (i := 13) (oi := _) (v := ?_) rfl (by kernel_rfl) (by kernel_rfl) (by kernel_rfl) (fun _ _ _ h => h) (Or.inl ⟨by rfl, ?_⟩) (by assumption) ?_
    rotate_left
    · intro w0 hSw; (try dsimp only at hSw); go_simp; try with_reducible rfl
    try simp only [Act.put]
    refine wpAnyH_take (i := 14) (oi := _) (v := ?_) rfl (by kernel_rfl) (by kernel_rfl) (by kernel_rfl) (fun _ _ _ h => h) (Or.inl ⟨by rfl, ?_⟩) (by assumption) ?_
    rotate_left
    · intro w0 hSw; (try dsimp only at hSw); go_simp; try with_reducible rfl
    try simp only [Act.put]
    refine wpAnyH_take (i := 15) (oi := _) (v := ?_) rfl (by kernel_rfl) (by kernel_rfl) (by kernel_rfl) (fun _ _ _ h => h) (Or.inl ⟨by rfl, ?_⟩) (by assumption) ?_
    rotate_left
    · intro w0 hSw; (try dsimp only at hSw); go_simp; try with_reducible rfl
    try simp only [Act.put]
    refine wpAnyH_ready (rs := [5, 16]) (by kernel_rfl) (by simp) ?_
    refine AllReadyH.cons (o := _) rfl (fun K hK => ?_) ?_
    · go_simp
      refine hK.out _ _ ?_ (fun hHeldN => ?_)
      · (try dsimp only); (first | (with_reducible exact hel0 hWe) | (with_reducible exact hel1p (by with_reducible assumption) (by with_reducible assumption)) | (with_reducible exact hel1 (by with_reducible assumption) (by with_reducible assumption)) | (with_reducible exact hel3d (by with_reducible assumption)) | (with_reducible exact hel3 (by with_reducible assumption)) | ((with_reducible refine hel4 (by with_reducible assumption) ?_ ?_) <;> omega) | (repeat (first | (with_reducible assumption) | (with_reducible refine hel2 ?_ (by first | (refine Or.inl ⟨?_, ?_, ?_⟩ <;> (first | rfl | (dsimp only; omega))) | (refine Or.inr (Or.inl ⟨?_, ?_⟩) <;> (first | rfl | (dsimp only; omega))) | (refine Or.inr (Or.inr ?_); (try dsimp only); (try simp only [World.size_alloc, World.size_setCell]); omega)) (by (try dsimp only); (try simp only [World.size_alloc, World.size_setCell]); omega)))))
      clear hK K hHeld
      have hHeld := hHeldN
      clear hHeldN
      try simp only [Act.put, List.setIfInBounds_toArray, List.set_cons_zero, List.set_cons_succ]
      refine wpAnyH_ready (rs := [16]) (by kernel_rfl) (by simp) ?_
      refine AllReadyH.cons (o := _) rfl (fun K hK => ?_) AllReadyH.nil
      go_simp
      (go_at_call 44; (with_reducible refine (d_sq w1.heap.size (r0.e) a.c a.d a.c a.d _ (by (try simp only [cell_drew]); first | with_reducible assumption | (rw [cell_al, if_neg (by (try simp only [size_drew]); omega)]; (try simp only [cell_drew]); with_reducible assumption) | simp [go_sem, *]) (by (try simp only [frozen_drew]); first | with_reducible assumption | (rw [cell_al, if_neg (by (try simp only [size_drew]); omega)]; (try simp only [cell_drew]); with_reducible assumption) | simp [go_sem, *]) ha2).mono ?_); (generalize hr1 : doI (r0.e) (sqI a.c a.d) = r1); rintro e w2 ⟨rfl, hb0⟩; have hz0 := hb0.size; (try simp only [size_drew, World.size_setCell] at hz0); obtain ⟨hg0, hh0⟩ := hb0.got (u := .int .i64 (r0.e)) (by (try simp only [cell_drew]); first | with_reducible assumption | (rw [cell_al, if_neg (by (try simp only [size_drew]); omega)]; (try simp only [cell_drew]); with_reducible assumption) | simp [go_sem, *]); have hob0 := obx_of hg0; (try simp only [frozen_drew] at hh0); (have hog00 := obx_of ((hb0.cells.1 wg.heap.size 0 (by (try simp only [size_drew, World.size_setCell]); omega)).trans (show _ = some (.int .i64 r0.lo) from by (try simp only [cell_sc, cell_drew]); simp [go_sem, *]))); (have hog01 := obx_of ((hb0.cells.1 wg.heap.size 1 (by (try simp only [size_drew, World.size_setCell]); omega)).trans (show _ = some (.int .i64 r0.hi) from by (try simp only [cell_sc, cell_drew]); simp [go_sem, *]))))
      refine hK.out _ _ ?_ (fun hHeldN => ?_)
      · (try dsimp only); (first | (with_reducible exact hel0 hWe) | (with_reducible exact hel1p (by with_reducible assumption) (by with_reducible assumption)) | (with_reducible exact hel1 (by with_reducible assumption) (by with_reducible assumption)) | (with_reducible exact hel3d (by with_reducible assumption)) | (with_reducible exact hel3 (by with_reducible assumption)) | ((with_reducible refine hel4 (by with_reducible assumption) ?_ ?_) <;> omega) | (repeat (first | (with_reducible assumption) | (with_reducible refine hel2 ?_ (by first | (refine Or.inl ⟨?_, ?_, ?_⟩ <;> (first | rfl | (dsimp only; omega))) | (refine Or.inr (Or.inl ⟨?_, ?_⟩) <;> (first | rfl | (dsimp only; omega))) | (refine Or.inr (Or.inr ?_); (try dsimp only); (try simp only [World.size_alloc, World.size_setCell]); omega)) (by (try dsimp only); (try simp only [World.size_alloc, World.size_setCell]); omega)))))
      clear hK K hHeld
      have hHeld := hHeldN
      clear hHeldN
      try simp only [Act.put, List.setIfInBounds_toArray, List.set_cons_zero, List.set_cons_succ]
      refine wpAnyH_ready (rs := [17]) (by kernel_rfl) (by simp) ?_
      refine AllReadyH.cons (o := _) rfl (fun K hK => ?_) AllReadyH.nil
      go_simp
      (go_at_call 44; (try simp only [hod0, hod1, hog00, hog01]); (with_reducible refine (d_add w1.heap.size (r1.e) r0.lo r0.hi r1.lo r1.hi _ (by (try simp only [cell_drew, frozen_drew]); first | with_reducible assumption | (rw [cell_al, if_neg (by (try simp only [size_drew]); omega)]; (try simp only [cell_drew]); with_reducible assumption) | simp [go_sem, ↓IntWalk.iteOmega, *]) (by (try simp only [cell_drew, frozen_drew]); first | with_reducible assumption | (rw [cell_al, if_neg (by (try simp only [size_drew]); omega)]; (try simp only [cell_drew]); with_reducible assumption) | simp [go_sem, *])).mono ?_); (generalize hr2 : doI (r1.e) (addI r0.lo r0.hi r1.lo r1.hi) = r2); rintro e w3 ⟨rfl, hb1⟩; have hz1 := hb1.size; (try simp only [World.size_setCell] at hz1); obtain ⟨hg1, hh1⟩ := hb1.got (u := .int .i64 (r1.e)) (by (try simp only [cell_drew, frozen_drew]); first | with_reducible assumption | (rw [cell_al, if_neg (by (try simp only [size_drew]); omega)]; (try simp only [cell_drew]); with_reducible assumption) | simp [go_sem, ↓IntWalk.iteOmega, *]); have hob1 := obx_of hg1; (try simp only [frozen_drew] at hh1))
      refine hK.out _ _ ?_ (fun hHeldN => ?_)
      · (try dsimp only); (first | (with_reducible exact hel0 hWe) | (with_reducible exact hel1p (by with_reducible assumption) (by with_reducible assumption)) | (with_reducible exact hel1 (by with_reducible assumption) (by with_reducible assumption)) | (with_reducible exact hel3d (by with_reducible assumption)) | (with_reducible exact hel3 (by with_reducible assumption)) | ((with_reducible refine hel4 (by with_reducible assumption) ?_ ?_) <;> omega) | (repeat (first | (with_reducible assumption) | (with_reducible refine hel2 ?_ (by first | (refine Or.inl ⟨?_, ?_, ?_⟩ <;> (first | rfl | (dsimp only; omega))) | (refine Or.inr (Or.inl ⟨?_, ?_⟩) <;> (first | rfl | (dsimp only; omega))) | (refine Or.inr (Or.inr ?_); (try dsimp only); (try simp only [World.size_alloc, World.size_setCell]); omega)) (by (try dsimp only); (try simp only [World.size_alloc, World.size_setCell]); omega)))))
      clear hK K hHeld
      have hHeld := hHeldN
      clear hHeldN
      try simp only [Act.put, List.setIfInBounds_toArray, List.set_cons_zero, List.set_cons_succ]
      refine wpAnyH_ready (rs := [18]) (by kernel_rfl) (by simp) ?_
      refine AllReadyH.cons (o := _) rfl (fun K hK => ?_) AllReadyH.nil
      go_simp
      refine hK.out _ _ ?_ (fun hHeldN => ?_)
      · (try dsimp only); (first | (with_reducible exact hel0 hWe) | (with_reducible exact hel1p (by with_reducible assumption) (by with_reducible assumption)) | (with_reducible exact hel1 (by with_reducible assumption) (by with_reducible assumption)) | (with_reducible exact hel3d (by with_reducible assumption)) | (with_reducible exact hel3 (by with_reducible assumption)) | ((with_reducible refine hel4 (by with_reducible assumption) ?_ ?_) <;> omega) | (repeat (first | (with_reducible assumption) | (with_reducible refine hel2 ?_ (by first | (refine Or.inl ⟨?_, ?_, ?_⟩ <;> (first | rfl | (dsimp only; omega))) | (refine Or.inr (Or.inl ⟨?_, ?_⟩) <;> (first | rfl | (dsimp only; omega))) | (refine Or.inr (Or.inr ?_); (try dsimp only); (try simp only [World.size_alloc, World.size_setCell]); omega)) (by (try dsimp only); (try simp only [World.size_alloc, World.size_setCell]); omega)))))
      clear hK K hHeld
      have hHeld := hHeldN
      clear hHeldN
      try simp only [Act.put, List.setIfInBounds_toArray, List.set_cons_zero, List.set_cons_succ]
      refine wpAnyH_done (by kernel_rfl) ?_ _
      have hOld := hHeld
      clear hHeld
      have hE := hOld.2.2.2
      have hO := And.intro hOld.1 (And.intro hOld.2.1 hOld.2.2.1)
      clear hOld
      replace hO := helBack hO (by first | (refine Or.inl ⟨?_, ?_, ?_⟩ <;> (first | rfl | (dsimp only; omega))) | (refine Or.inr (Or.inl ⟨?_, ?_⟩) <;> (first | rfl | (dsimp only; omega))) | (refine Or.inr (Or.inr ?_); (try dsimp only); (try simp only [World.size_alloc, World.size_setCell]); omega))
      replace hO := helBack hO (by first | (refine Or.inl ⟨?_, ?_, ?_⟩ <;> (first | rfl | (dsimp only; omega))) | (refine Or.inr (Or.inl ⟨?_, ?_⟩) <;> (first | rfl | (dsimp only; omega))) | (refine Or.inr (Or.inr ?_); (try dsimp only); (try simp only [World.size_alloc, World.size_setCell]); omega))
      obtain ⟨hOc, hOf, hOz⟩ := helEnd hO
      clear hO
      have hlu : w.heap.size < w3.heap.size ∧ w.heap.size + 1 < w3.heap.size ∧ w1.heap.size < w3.heap.size ∧ wg.heap.size < w3.heap.size := (by refine ⟨?_, ?_, ?_, ?_⟩ <;> omega)
      go_wp2_with fail
      rw [rounds_succ]
      go_wp2_with fail
      refine wp_name fun W hW => ?_
      obtain ⟨hWc, hWf, hWz⟩ := hW.cells
      have hWe : ExtP w w1.heap.size 4 W := ExtP.same hW (by (repeat (first | with_reducible refine ExtP.set ?_ | (with_reducible refine ExtP.store ?_ ?_; rotate_left; (focus ((try simp only []); omega))) | with_reducible refine ExtP.ext ?_ ((Ext.refl _).alloc _) | with_reducible refine ExtP.ext ?_ ((Ext.refl _).drew) | with_reducible assumption | with_reducible exact ExtP.of _ _ (Ext.refl w) | with_reducible refine ExtP.ext ?_ (by with_reducible assumption))))
      (try simp only [World.size_setCell] at hWz)
      replace hWz := And.intro (Nat.le_of_eq hWz) (Nat.le_of_eq hWz.symm)
      have hlt : w.heap.size < W.heap.size ∧ w.heap.size + 1 < W.heap.size ∧ w1.heap.size < W.heap.size ∧ wg.heap.size < W.heap.size := (by refine ⟨?_, ?_, ?_, ?_⟩ <;> omega)
      have hd : ¬ w.heap.size = w.heap.size + 1 ∧ ¬ w.heap.size = w1.heap.size ∧ ¬ w.heap.size = wg.heap.size ∧ ¬ w.heap.size + 1 = w.heap.size ∧ ¬ w.heap.size + 1 = w1.heap.size ∧ ¬ w.heap.size + 1 = wg.heap.size ∧ ¬ w1.heap.size = w.heap.size ∧ ¬ w1.heap.size = w.heap.size + 1 ∧ ¬ w1.heap.size = wg.heap.size ∧ ¬ wg.heap.size = w.heap.size ∧ ¬ wg.heap.size = w.heap.size + 1 ∧ ¬ wg.heap.size = w1.heap.size := (by refine ⟨?_, ?_, ?_, ?_, ?_, ?_, ?_, ?_, ?_, ?_, ?_, ?_⟩ <;> omega)
      have hod0 : ∀ x, obx W.drew wg.heap.size 0 x = (.int .i64 r2.lo : Value) := obx_of (show W.drew.cell? ⟨wg.heap.size, 0, none⟩ = some (.int .i64 r2.lo : Value) from by (try simp only [cell_drew]); simp [go_sem, *])
      have hod1 : ∀ x, obx W.drew wg.heap.size 1 x = (.int .i64 r2.hi : Value) := obx_of (show W.drew.cell? ⟨wg.heap.size, 1, none⟩ = some (.int .i64 r2.hi : Value) from by (try simp only [cell_drew]); simp [go_sem, *])
      refine wp_region_held_drew (S := (fun w' => (∀ b o, b < W.heap.size → w'.cell? ⟨b, o, none⟩ = if b = wg.heap.size ∧ 0 ≤ o ∧ o < 2 ∨ b = w1.heap.size ∧ o = 4 then (W.cell? ⟨b, o, none⟩).map (obx w' b o) else W.cell? ⟨b, o, none⟩) ∧ (∀ b o, b < W.heap.size → w'.frozen? ⟨b, o, none⟩ = W.frozen? ⟨b, o, none⟩) ∧ W.heap.size ≤ w'.heap.size ∧ ExtP w w1.heap.size 4 w')) (by kernel_rfl) ?_ (fun hHeld => ?_)
      · (try dsimp only); (first | (with_reducible exact hel0 hWe) | (with_reducible exact hel1p (by with_reducible assumption) (by with_reducible assumption)) | (with_reducible exact hel1 (by with_reducible assumption) (by with_reducible assumption)) | (with_reducible exact hel3d (by with_reducible assumption)) | (with_reducible exact hel3 (by with_reducible assumption)) | ((with_reducible refine hel4 (by with_reducible assumption) ?_ ?_) <;> omega) | (repeat (first | (with_reducible assumption) | (with_reducible refine hel2 ?_ (by first | (refine Or.inl ⟨?_, ?_, ?_⟩ <;> (first | rfl | (dsimp only; omega))) | (refine Or.inr (Or.inl ⟨?_, ?_⟩) <;> (first | rfl | (dsimp only; omega))) | (refine Or.inr (Or.inr ?_); (try dsimp only); (try simp only [World.size_alloc, World.size_setCell]); omega)) (by (try dsimp only); (try simp only [World.size_alloc, World.size_setCell]); omega)))))
      refine wpAnyH_take (i := 0) (oi := _) (v := ?_) rfl (by kernel_rfl) (by kernel_rfl) (by kernel_rfl) (fun _ _ _ h => h) (Or.inl ⟨by rfl, ?_⟩) (by assumption) ?_
      rotate_left
      · intro w0 hSw; (try dsimp only at hSw); go_simp; try with_reducible rfl
      try simp only [Act.put, List.setIfInBounds_toArray]
      refine wpAnyH_take (i := 1) (oi := _) (v := ?_) rfl (by kernel_rfl) (by kernel_rfl) (by kernel_rfl) (fun _ _ _ h => h) (Or.inl ⟨by rfl, ?_⟩) (by assumption) ?_
      rotate_left
      · intro w0 hSw; (try dsimp only at hSw); go_simp; try with_reducible rfl
      try simp only [Act.put]
      refine wpAnyH_take (i := 2) (oi := _) (v := ?_) rfl (by kernel_rfl) (by kernel_rfl) (by kernel_rfl) (fun _ _ _ h => h) (Or.inl ⟨by rfl, ?_⟩) (by assumption) ?_
      rotate_left
      · intro w0 hSw; (try dsimp only at hSw); go_simp; try with_reducible rfl
      try simp only [Act.put]
      refine wpAnyH_take (i := 3) (oi := _) (v := ?_) rfl (by kernel_rfl) (by kernel_rfl) (by kernel_rfl) (fun _ _ _ h => h) (Or.inl ⟨by rfl, ?_⟩) (by assumption) ?_
      rotate_left
      · intro w0 hSw; (try dsimp only at hSw); go_simp; try with_reducible rfl
      try simp only [Act.put]
      refine wpAnyH_take (i := 4) (oi := _) (v := ?_) rfl (by kernel_rfl) (by kernel_rfl) (by kernel_rfl) (fun _ _ _ h => h) (Or.inl ⟨by rfl, ?_⟩) (by assumption) ?_
      rotate_left
      · intro w0 hSw; (try dsimp only at hSw); go_simp; try with_reducible rfl
      try simp only [Act.put]
      refine wpAnyH_take (i := 6) (oi := _) (v := ?_) rfl (by kernel_rfl) (by kernel_rfl) (by kernel_rfl) (fun _ _ _ h => h) (Or.inl ⟨by rfl, ?_⟩) (by assumption) ?_
      rotate_left
      · intro w0 hSw; (try dsimp only at hSw); go_simp; try with_reducible rfl
      try simp only [Act.put]
      refine wpAnyH_take (i := 7) (oi := _) (v := ?_) rfl (by kernel_rfl) (by kernel_rfl) (by kernel_rfl) (fun _ _ _ h => h) (Or.inl ⟨by rfl, ?_⟩) (by assumption) ?_
      rotate_left
      · intro w0 hSw; (try dsimp only at hSw); go_simp; try with_reducible rfl
      try simp only [Act.put]
      refine wpAnyH_take (i := 8) (oi := _) (v := ?_) rfl (by kernel_rfl) (by kernel_rfl) (by kernel_rfl) (fun _ _ _ h => h) (Or.inl ⟨by rfl, ?_⟩) (by assumption) ?_
      rotate_left
      · intro w0 hSw; (try dsimp only at hSw); go_simp; try with_reducible rfl
      try simp only [Act.put]
      refine wpAnyH_take (i := 9) (oi := _) (v := ?_) rfl (by kernel_rfl) (by kernel_rfl) (by kernel_rfl) (fun _ _ _ h => h) (Or.inl ⟨by rfl, ?_⟩) (by assumption) ?_
      rotate_left
      · intro w0 hSw; (try dsimp only at hSw); go_simp; try with_reducible rfl
      try simp only [Act.put]
      refine wpAnyH_take (i := 10) (oi := _) (v := ?_) rfl (by kernel_rfl) (by kernel_rfl) (by kernel_rfl) (fun _ _ _ h => h) (Or.inl ⟨by rfl, ?_⟩) (by assumption) ?_
      rotate_left
      · intro w0 hSw; (try dsimp only at hSw); go_simp; try with_reducible rfl
      try simp only [Act.put]
      refine wpAnyH_take (i := 11) (oi := _) (v := ?_) rfl (by kernel_rfl) (by kernel_rfl) (by kernel_rfl) (fun _ _ _ h => h) (Or.inl ⟨by rfl, ?_⟩) (by assumption) ?_
      rotate_left
      · intro w0 hSw; (try dsimp only at hSw); go_simp; try with_reducible rfl
      try simp only [Act.put]
      refine wpAnyH_take (i := 12) (oi := _) (v := ?_) rfl (by kernel_rfl) (by kernel_rfl) (by kernel_rfl) (fun _ _ _ h => h) (Or.inl ⟨by rfl, ?_⟩) (by assumption) ?_
      rotate_left
      · intro w0 hSw; (try dsimp only at hSw); go_simp; try with_reducible rfl
      try simp only [Act.put]
      refine wpAnyH_take (i := 13) (oi := _) (v := ?_) rfl (by kernel_rfl) (by kernel_rfl) (by kernel_rfl) (fun _ _ _ h => h) (Or.inl ⟨by rfl, ?_⟩) (by assumption) ?_
      rotate_left
      · intro w0 hSw; (try dsimp only at hSw); go_simp; try with_reducible rfl
      try simp only [Act.put]
      refine wpAnyH_take (i := 14) (oi := _) (v := ?_) rfl (by kernel_rfl) (by kernel_rfl) (by kernel_rfl) (fun _ _ _ h => h) (Or.inl ⟨by rfl, ?_⟩) (by assumption) ?_
      rotate_left
      · intro w0 hSw; (try dsimp only at hSw); go_simp; try with_reducible rfl
      try simp only [Act.put]
      refine wpAnyH_take (i := 15) (oi := _) (v := ?_) rfl (by kernel_rfl) (by kernel_rfl) (by kernel_rfl) (fun _ _ _ h => h) (Or.inl ⟨by rfl, ?_⟩) (by assumption) ?_
      rotate_left
      · intro w0 hSw; (try dsimp only at hSw); go_simp; try with_reducible rfl
      try simp only [Act.put]
      refine wpAnyH_ready (rs := [5, 16]) (by kernel_rfl) (by simp) ?_
      refine AllReadyH.cons (o := _) rfl (fun K hK => ?_) ?_
      · go_simp
        refine hK.out _ _ ?_ (fun hHeldN => ?_)
        · (try dsimp only); (first | (with_reducible exact hel0 hWe) | (with_reducible exact hel1p (by with_reducible assumption) (by with_reducible assumption)) | (with_reducible exact hel1 (by with_reducible assumption) (by with_reducible assumption)) | (with_reducible exact hel3d (by with_reducible assumption)) | (with_reducible exact hel3 (by with_reducible assumption)) | ((with_reducible refine hel4 (by with_reducible assumption) ?_ ?_) <;> omega) | (repeat (first | (with_reducible assumption) | (with_reducible refine hel2 ?_ (by first | (refine Or.inl ⟨?_, ?_, ?_⟩ <;> (first | rfl | (dsimp only; omega))) | (refine Or.inr (Or.inl ⟨?_, ?_⟩) <;> (first | rfl | (dsimp only; omega))) | (refine Or.inr (Or.inr ?_); (try dsimp only); (try simp only [World.size_alloc, World.size_setCell]); omega)) (by (try dsimp only); (try simp only [World.size_alloc, World.size_setCell]); omega)))))
        clear hK K hHeld
        have hHeld := hHeldN
        clear hHeldN
        try simp only [Act.put, List.setIfInBounds_toArray, List.set_cons_zero, List.set_cons_succ]
        refine wpAnyH_ready (rs := [16]) (by kernel_rfl) (by simp) ?_
        refine AllReadyH.cons (o := _) rfl (fun K hK => ?_) AllReadyH.nil
        go_simp
        (go_at_call 44; (with_reducible refine (d_sq w1.heap.size (r2.e) a.e a.f a.e a.f _ (by (try simp only [cell_drew]); first | with_reducible assumption | (rw [cell_al, if_neg (by (try simp only [size_drew]); omega)]; (try simp only [cell_drew]); with_reducible assumption) | simp [go_sem, *]) (by (try simp only [frozen_drew]); first | with_reducible assumption | (rw [cell_al, if_neg (by (try simp only [size_drew]); omega)]; (try simp only [cell_drew]); with_reducible assumption) | simp [go_sem, *]) ha3).mono ?_); (generalize hr3 : doI (r2.e) (sqI a.e a.f) = r3); rintro e w2 ⟨rfl, hb0⟩; have hz0 := hb0.size; (try simp only [size_drew, World.size_setCell] at hz0); obtain ⟨hg0, hh0⟩ := hb0.got (u := .int .i64 (r2.e)) (by (try simp only [cell_drew]); first | with_reducible assumption | (rw [cell_al, if_neg (by (try simp only [size_drew]); omega)]; (try simp only [cell_drew]); with_reducible assumption) | simp [go_sem, *]); have hob0 := obx_of hg0; (try simp only [frozen_drew] at hh0); (have hog00 := obx_of ((hb0.cells.1 wg.heap.size 0 (by (try simp only [size_drew, World.size_setCell]); omega)).trans (show _ = some (.int .i64 r2.lo) from by (try simp only [cell_sc, cell_drew]); simp [go_sem, *]))); (have hog01 := obx_of ((hb0.cells.1 wg.heap.size 1 (by (try simp only [size_drew, World.size_setCell]); omega)).trans (show _ = some (.int .i64 r2.hi) from by (try simp only [cell_sc, cell_drew]); simp [go_sem, *]))))
        refine hK.out _ _ ?_ (fun hHeldN => ?_)
        · (try dsimp only); (first | (with_reducible exact hel0 hWe) | (with_reducible exact hel1p (by with_reducible assumption) (by with_reducible assumption)) | (with_reducible exact hel1 (by with_reducible assumption) (by with_reducible assumption)) | (with_reducible exact hel3d (by with_reducible assumption)) | (with_reducible exact hel3 (by with_reducible assumption)) | ((with_reducible refine hel4 (by with_reducible assumption) ?_ ?_) <;> omega) | (repeat (first | (with_reducible assumption) | (with_reducible refine hel2 ?_ (by first | (refine Or.inl ⟨?_, ?_, ?_⟩ <;> (first | rfl | (dsimp only; omega))) | (refine Or.inr (Or.inl ⟨?_, ?_⟩) <;> (first | rfl | (dsimp only; omega))) | (refine Or.inr (Or.inr ?_); (try dsimp only); (try simp only [World.size_alloc, World.size_setCell]); omega)) (by (try dsimp only); (try simp only [World.size_alloc, World.size_setCell]); omega)))))
        clear hK K hHeld
        have hHeld := hHeldN
        clear hHeldN
        try simp only [Act.put, List.setIfInBounds_toArray, List.set_cons_zero, List.set_cons_succ]
        refine wpAnyH_ready (rs := [17]) (by kernel_rfl) (by simp) ?_
        refine AllReadyH.cons (o := _) rfl (fun K hK => ?_) AllReadyH.nil
        go_simp
        (go_at_call 44; (try simp only [hod0, hod1, hog00, hog01]); (with_reducible refine (d_add w1.heap.size (r3.e) r2.lo r2.hi r3.lo r3.hi _ (by (try simp only [cell_drew, frozen_drew]); first | with_reducible assumption | (rw [cell_al, if_neg (by (try simp only [size_drew]); omega)]; (try simp only [cell_drew]); with_reducible assumption) | simp [go_sem, ↓IntWalk.iteOmega, *]) (by (try simp only [cell_drew, frozen_drew]); first | with_reducible assumption | (rw [cell_al, if_neg (by (try simp only [size_drew]); omega)]; (try simp only [cell_drew]); with_reducible assumption) | simp [go_sem, *])).mono ?_); (generalize hr4 : doI (r3.e) (addI r2.lo r2.hi r3.lo r3.hi) = r4); rintro e w3 ⟨rfl, hb1⟩; have hz1 := hb1.size; (try simp only [World.size_setCell] at hz1); obtain ⟨hg1, hh1⟩ := hb1.got (u := .int .i64 (r3.e)) (by (try simp only [cell_drew, frozen_drew]); first | with_reducible assumption | (rw [cell_al, if_neg (by (try simp only [size_drew]); omega)]; (try simp only [cell_drew]); with_reducible assumption) | simp [go_sem, ↓IntWalk.iteOmega, *]); have hob1 := obx_of hg1; (try simp only [frozen_drew] at hh1))
        refine hK.out _ _ ?_ (fun hHeldN => ?_)
        · (try dsimp only); (first | (with_reducible exact hel0 hWe) | (with_reducible exact hel1p (by with_reducible assumption) (by with_reducible assumption)) | (with_reducible exact hel1 (by with_reducible assumption) (by with_reducible assumption)) | (with_reducible exact hel3d (by with_reducible assumption)) | (with_reducible exact hel3 (by with_reducible assumption)) | ((with_reducible refine hel4 (by with_reducible assumption) ?_ ?_) <;> omega) | (repeat (first | (with_reducible assumption) | (with_reducible refine hel2 ?_ (by first | (refine Or.inl ⟨?_, ?_, ?_⟩ <;> (first | rfl | (dsimp only; omega))) | (refine Or.inr (Or.inl ⟨?_, ?_⟩) <;> (first | rfl | (dsimp only; omega))) | (refine Or.inr (Or.inr ?_); (try dsimp only); (try simp only [World.size_alloc, World.size_setCell]); omega)) (by (try dsimp only); (try simp only [World.size_alloc, World.size_setCell]); omega)))))
        clear hK K hHeld
        have hHeld := hHeldN
        clear hHeldN
        try simp only [Act.put, List.setIfInBounds_toArray, List.set_cons_zero, List.set_cons_succ]
        refine wpAnyH_ready (rs := [18]) (by kernel_rfl) (by simp) ?_
        refine AllReadyH.cons (o := _) rfl (fun K hK => ?_) AllReadyH.nil
        go_simp
        refine hK.out _ _ ?_ (fun hHeldN => ?_)
        · (try dsimp only); (first | (with_reducible exact hel0 hWe) | (with_reducible exact hel1p (by with_reducible assumption) (by with_reducible assumption)) | (with_reducible exact hel1 (by with_reducible assumption) (by with_reducible assumption)) | (with_reducible exact hel3d (by with_reducible assumption)) | (with_reducible exact hel3 (by with_reducible assumption)) | ((with_reducible refine hel4 (by with_reducible assumption) ?_ ?_) <;> omega) | (repeat (first | (with_reducible assumption) | (with_reducible refine hel2 ?_ (by first | (refine Or.inl ⟨?_, ?_, ?_⟩ <;> (first | rfl | (dsimp only; omega))) | (refine Or.inr (Or.inl ⟨?_, ?_⟩) <;> (first | rfl | (dsimp only; omega))) | (refine Or.inr (Or.inr ?_); (try dsimp only); (try simp only [World.size_alloc, World.size_setCell]); omega)) (by (try dsimp only); (try simp only [World.size_alloc, World.size_setCell]); omega)))))
        clear hK K hHeld
        have hHeld := hHeldN
        clear hHeldN
        try simp only [Act.put, List.setIfInBounds_toArray, List.set_cons_zero, List.set_cons_succ]
        refine wpAnyH_done (by kernel_rfl) ?_ _
        have hOld := hHeld
        clear hHeld
        have hE := hOld.2.2.2
        have hO := And.intro hOld.1 (And.intro hOld.2.1 hOld.2.2.1)
        clear hOld
        replace hO := helBack hO (by first | (refine Or.inl ⟨?_, ?_, ?_⟩ <;> (first | rfl | (dsimp only; omega))) | (refine Or.inr (Or.inl ⟨?_, ?_⟩) <;> (first | rfl | (dsimp only; omega))) | (refine Or.inr (Or.inr ?_); (try dsimp only); (try simp only [World.size_alloc, World.size_setCell]); omega))
        replace hO := helBack hO (by first | (refine Or.inl ⟨?_, ?_, ?_⟩ <;> (first | rfl | (dsimp only; omega))) | (refine Or.inr (Or.inl ⟨?_, ?_⟩) <;> (first | rfl | (dsimp only; omega))) | (refine Or.inr (Or.inr ?_); (try dsimp only); (try simp only [World.size_alloc, World.size_setCell]); omega))
        obtain ⟨hOc, hOf, hOz⟩ := helEnd hO
        clear hO
        have hlu : w.heap.size < w3.heap.size ∧ w.heap.size + 1 < w3.heap.size ∧ w1.heap.size < w3.heap.size ∧ wg.heap.size < w3.heap.size := (by refine ⟨?_, ?_, ?_, ?_⟩ <;> omega)
        go_wp2_with fail
        rw [rounds_succ]
        go_wp2_with fail
        go_region
        all_goals go_wp2_with fail
        all_goals
          refine bodyPost_ret (v := .tuple #[.agg #[.int .i64 (nrmV a).lo, .int .i64 (nrmV a).hi], .int .i64 (nrmV a).e]) ?_ rfl ⟨rfl, ?_⟩
          · (try simp only [bne_eq_false_iff_eq] at *)
            simp [results, Try.results17, go_sem, nrmV, nrmI, nrm3, nrm2, nrm1, nrm0, *]
          · refine ExtP.out (p := w1.heap.size) (k := 4) ?_ (by omega)
            (repeat (first | with_reducible refine ExtP.set ?_ | (with_reducible refine ExtP.store ?_ ?_; rotate_left; (focus ((try simp only []); omega))) | with_reducible refine ExtP.ext ?_ ((Ext.refl _).alloc _) | with_reducible refine ExtP.ext ?_ ((Ext.refl _).drew) | with_reducible assumption | with_reducible exact ExtP.of _ _ (Ext.refl w) | with_reducible refine ExtP.ext ?_ (by with_reducible assumption)))
      refine AllReadyH.cons (o := _) rfl (fun K hK => ?_) AllReadyH.nil
      · go_simp
        (go_at_call 44; (with_reducible refine (d_sq w1.heap.size (r2.e) a.e a.f a.e a.f _ (by (try simp only [cell_drew]); first | with_reducible assumption | (rw [cell_al, if_neg (by (try simp only [size_drew]); omega)]; (try simp only [cell_drew]); with_reducible assumption) | simp [go_sem, *]) (by (try simp only [frozen_drew]); first | with_reducible assumption | (rw [cell_al, if_neg (by (try simp only [size_drew]); omega)]; (try simp only [cell_drew]); with_reducible assumption) | simp [go_sem, *]) ha3).mono ?_); (generalize hr3 : doI (r2.e) (sqI a.e a.f) = r3); rintro e w2 ⟨rfl, hb0⟩; have hz0 := hb0.size; (try simp only [size_drew, World.size_setCell] at hz0); obtain ⟨hg0, hh0⟩ := hb0.got (u := .int .i64 (r2.e)) (by (try simp only [cell_drew]); first | with_reducible assumption | (rw [cell_al, if_neg (by (try simp only [size_drew]); omega)]; (try simp only [cell_drew]); with_reducible assumption) | simp [go_sem, *]); have hob0 := obx_of hg0; (try simp only [frozen_drew] at hh0); (have hog00 := obx_of ((hb0.cells.1 wg.heap.size 0 (by (try simp only [size_drew, World.size_setCell]); omega)).trans (show _ = some (.int .i64 r2.lo) from by (try simp only [cell_sc, cell_drew]); simp [go_sem, *]))); (have hog01 := obx_of ((hb0.cells.1 wg.heap.size 1 (by (try simp only [size_drew, World.size_setCell]); omega)).trans (show _ = some (.int .i64 r2.hi) from by (try simp only [cell_sc, cell_drew]); simp [go_sem, *]))))
        refine hK.out _ _ ?_ (fun hHeldN => ?_)
        · (try dsimp only); (first | (with_reducible exact hel0 hWe) | (with_reducible exact hel1p (by with_reducible assumption) (by with_reducible assumption)) | (with_reducible exact hel1 (by with_reducible assumption) (by with_reducible assumption)) | (with_reducible exact hel3d (by with_reducible assumption)) | (with_reducible exact hel3 (by with_reducible assumption)) | ((with_reducible refine hel4 (by with_reducible assumption) ?_ ?_) <;> omega) | (repeat (first | (with_reducible assumption) | (with_reducible refine hel2 ?_ (by first | (refine Or.inl ⟨?_, ?_, ?_⟩ <;> (first | rfl | (dsimp only; omega))) | (refine Or.inr (Or.inl ⟨?_, ?_⟩) <;> (first | rfl | (dsimp only; omega))) | (refine Or.inr (Or.inr ?_); (try dsimp only); (try simp only [World.size_alloc, World.size_setCell]); omega)) (by (try dsimp only); (try simp only [World.size_alloc, World.size_setCell]); omega)))))
        clear hK K hHeld
        have hHeld := hHeldN
        clear hHeldN
        try simp only [Act.put, List.setIfInBounds_toArray, List.set_cons_zero, List.set_cons_succ]
        refine wpAnyH_ready (rs := [5]) (by kernel_rfl) (by simp) ?_
        refine AllReadyH.cons (o := _) rfl (fun K hK => ?_) AllReadyH.nil
        go_simp
        refine hK.out _ _ ?_ (fun hHeldN => ?_)
        · (try dsimp only); (first | (with_reducible exact hel0 hWe) | (with_reducible exact hel1p (by with_reducible assumption) (by with_reducible assumption)) | (with_reducible exact hel1 (by with_reducible assumption) (by with_reducible assumption)) | (with_reducible exact hel3d (by with_reducible assumption)) | (with_reducible exact hel3 (by with_reducible assumption)) | ((with_reducible refine hel4 (by with_reducible assumption) ?_ ?_) <;> omega) | (repeat (first | (with_reducible assumption) | (with_reducible refine hel2 ?_ (by first | (refine Or.inl ⟨?_, ?_, ?_⟩ <;> (first | rfl | (dsimp only; omega))) | (refine Or.inr (Or.inl ⟨?_, ?_⟩) <;> (first | rfl | (dsimp only; omega))) | (refine Or.inr (Or.inr ?_); (try dsimp only); (try simp only [World.size_alloc, World.size_setCell]); omega)) (by (try dsimp only); (try simp only [World.size_alloc, World.size_setCell]); omega)))))
        clear hK K hHeld
        have hHeld := hHeldN
        clear hHeldN
        try simp only [Act.put, List.setIfInBounds_toArray, List.set_cons_zero, List.set_cons_succ]
        refine wpAnyH_ready (rs := [17]) (by kernel_rfl) (by simp) ?_
        refine AllReadyH.cons (o := _) rfl (fun K hK => ?_) AllReadyH.nil
        go_simp
        (go_at_call 44; (try simp only [hod0, hod1, hog00, hog01]); (with_reducible refine (d_add w1.heap.size (r3.e) r2.lo r2.hi r3.lo r3.hi _ (by (try simp only [cell_drew, frozen_drew]); first | with_reducible assumption | (rw [cell_al, if_neg (by (try simp only [size_drew]); omega)]; (try simp only [cell_drew]); with_reducible assumption) | simp [go_sem, ↓IntWalk.iteOmega, *]) (by (try simp only [cell_drew, frozen_drew]); first | with_reducible assumption | (rw [cell_al, if_neg (by (try simp only [size_drew]); omega)]; (try simp only [cell_drew]); with_reducible assumption) | simp [go_sem, *])).mono ?_); (generalize hr4 : doI (r3.e) (addI r2.lo r2.hi r3.lo r3.hi) = r4); rintro e w3 ⟨rfl, hb1⟩; have hz1 := hb1.size; (try simp only [World.size_setCell] at hz1); obtain ⟨hg1, hh1⟩ := hb1.got (u := .int .i64 (r3.e)) (by (try simp only [cell_drew, frozen_drew]); first | with_reducible assumption | (rw [cell_al, if_neg (by (try simp only [size_drew]); omega)]; (try simp only [cell_drew]); with_reducible assumption) | simp [go_sem, ↓IntWalk.iteOmega, *]); have hob1 := obx_of hg1; (try simp only [frozen_drew] at hh1))
        refine hK.out _ _ ?_ (fun hHeldN => ?_)
        · (try dsimp only); (first | (with_reducible exact hel0 hWe) | (with_reducible exact hel1p (by with_reducible assumption) (by with_reducible assumption)) | (with_reducible exact hel1 (by with_reducible assumption) (by with_reducible assumption)) | (with_reducible exact hel3d (by with_reducible assumption)) | (with_reducible exact hel3 (by with_reducible assumption)) | ((with_reducible refine hel4 (by with_reducible assumption) ?_ ?_) <;> omega) | (repeat (first | (with_reducible assumption) | (with_reducible refine hel2 ?_ (by first | (refine Or.inl ⟨?_, ?_, ?_⟩ <;> (first | rfl | (dsimp only; omega))) | (refine Or.inr (Or.inl ⟨?_, ?_⟩) <;> (first | rfl | (dsimp only; omega))) | (refine Or.inr (Or.inr ?_); (try dsimp only); (try simp only [World.size_alloc, World.size_setCell]); omega)) (by (try dsimp only); (try simp only [World.size_alloc, World.size_setCell]); omega)))))
        clear hK K hHeld
        have hHeld := hHeldN
        clear hHeldN
        try simp only [Act.put, List.setIfInBounds_toArray, List.set_cons_zero, List.set_cons_succ]
        refine wpAnyH_ready (rs := [18]) (by kernel_rfl) (by simp) ?_
        refine AllReadyH.cons (o := _) rfl (fun K hK => ?_) AllReadyH.nil
        go_simp
        refine hK.out _ _ ?_ (fun hHeldN => ?_)
        · (try dsimp only); (first | (with_reducible exact hel0 hWe) | (with_reducible exact hel1p (by with_reducible assumption) (by with_reducible assumption)) | (with_reducible exact hel1 (by with_reducible assumption) (by with_reducible assumption)) | (with_reducible exact hel3d (by with_reducible assumption)) | (with_reducible exact hel3 (by with_reducible assumption)) | ((with_reducible refine hel4 (by with_reducible assumption) ?_ ?_) <;> omega) | (repeat (first | (with_reducible assumption) | (with_reducible refine hel2 ?_ (by first | (refine Or.inl ⟨?_, ?_, ?_⟩ <;> (first | rfl | (dsimp only; omega))) | (refine Or.inr (Or.inl ⟨?_, ?_⟩) <;> (first | rfl | (dsimp only; omega))) | (refine Or.inr (Or.inr ?_); (try dsimp only); (try simp only [World.size_alloc, World.size_setCell]); omega)) (by (try dsimp only); (try simp only [World.size_alloc, World.size_setCell]); omega)))))
        clear hK K hHeld
        have hHeld := hHeldN
        clear hHeldN
        try simp only [Act.put, List.setIfInBounds_toArray, List.set_cons_zero, List.set_cons_succ]
        refine wpAnyH_done (by kernel_rfl) ?_ _
        have hOld := hHeld
        clear hHeld
        have hE := hOld.2.2.2
        have hO := And.intro hOld.1 (And.intro hOld.2.1 hOld.2.2.1)
        clear hOld
        replace hO := helBack hO (by first | (refine Or.inl ⟨?_, ?_, ?_⟩ <;> (first | rfl | (dsimp only; omega))) | (refine Or.inr (Or.inl ⟨?_, ?_⟩) <;> (first | rfl | (dsimp only; omega))) | (refine Or.inr (Or.inr ?_); (try dsimp only); (try simp only [World.size_alloc, World.size_setCell]); omega))
        replace hO := helBack hO (by first | (refine Or.inl ⟨?_, ?_, ?_⟩ <;> (first | rfl | (dsimp only; omega))) | (refine Or.inr (Or.inl ⟨?_, ?_⟩) <;> (first | rfl | (dsimp only; omega))) | (refine Or.inr (Or.inr ?_); (try dsimp only); (try simp only [World.size_alloc, World.size_setCell]); omega))
        obtain ⟨hOc, hOf, hOz⟩ := helEnd hO
        clear hO
        have hlu : w.heap.size < w3.heap.size ∧ w.heap.size + 1 < w3.heap.size ∧ w1.heap.size < w3.heap.size ∧ wg.heap.size < w3.heap.size := (by refine ⟨?_, ?_, ?_, ?_⟩ <;> omega)
        go_wp2_with fail
        rw [rounds_succ]
        go_wp2_with fail
        go_region
        all_goals go_wp2_with fail
        all_goals
          refine bodyPost_ret (v := .tuple #[.agg #[.int .i64 (nrmV a).lo, .int .i64 (nrmV a).hi], .int .i64 (nrmV a).e]) ?_ rfl ⟨rfl, ?_⟩
          · (try simp only [bne_eq_false_iff_eq] at *)
            simp [results, Try.results17, go_sem, nrmV, nrmI, nrm3, nrm2, nrm1, nrm0, *]
          · refine ExtP.out (p := w1.heap.size) (k := 4) ?_ (by omega)
            (repeat (first | with_reducible refine ExtP.set ?_ | (with_reducible refine ExtP.store ?_ ?_; rotate_left; (focus ((try simp only []); omega))) | with_reducible refine ExtP.ext ?_ ((Ext.refl _).alloc _) | with_reducible refine ExtP.ext ?_ ((Ext.refl _).drew) | with_reducible assumption | with_reducible exact ExtP.of _ _ (Ext.refl w) | with_reducible refine ExtP.ext ?_ (by with_reducible assumption)))
    refine AllReadyH.cons (o := _) rfl (fun K hK => ?_) AllReadyH.nil
    · go_simp
      (go_at_call 44; (with_reducible refine (d_sq w1.heap.size (r0.e) a.c a.d a.c a.d _ (by (try simp only [cell_drew]); first | with_reducible assumption | (rw [cell_al, if_neg (by (try simp only [size_drew]); omega)]; (try simp only [cell_drew]); with_reducible assumption) | simp [go_sem, *]) (by (try simp only [frozen_drew]); first | with_reducible assumption | (rw [cell_al, if_neg (by (try simp only [size_drew]); omega)]; (try simp only [cell_drew]); with_reducible assumption) | simp [go_sem, *]) ha2).mono ?_); (generalize hr1 : doI (r0.e) (sqI a.c a.d) = r1); rintro e w2 ⟨rfl, hb0⟩; have hz0 := hb0.size; (try simp only [size_drew, World.size_setCell] at hz0); obtain ⟨hg0, hh0⟩ := hb0.got (u := .int .i64 (r0.e)) (by (try simp only [cell_drew]); first | with_reducible assumption | (rw [cell_al, if_neg (by (try simp only [size_drew]); omega)]; (try simp only [cell_drew]); with_reducible assumption) | simp [go_sem, *]); have hob0 := obx_of hg0; (try simp only [frozen_drew] at hh0); (have hog00 := obx_of ((hb0.cells.1 wg.heap.size 0 (by (try simp only [size_drew, World.size_setCell]); omega)).trans (show _ = some (.int .i64 r0.lo) from by (try simp only [cell_sc, cell_drew]); simp [go_sem, *]))); (have hog01 := obx_of ((hb0.cells.1 wg.heap.size 1 (by (try simp only [size_drew, World.size_setCell]); omega)).trans (show _ = some (.int .i64 r0.hi) from by (try simp only [cell_sc, cell_drew]); simp [go_sem, *]))))
      refine hK.out _ _ ?_ (fun hHeldN => ?_)
      · (try dsimp only); (first | (with_reducible exact hel0 hWe) | (with_reducible exact hel1p (by with_reducible assumption) (by with_reducible assumption)) | (with_reducible exact hel1 (by with_reducible assumption) (by with_reducible assumption)) | (with_reducible exact hel3d (by with_reducible assumption)) | (with_reducible exact hel3 (by with_reducible assumption)) | ((with_reducible refine hel4 (by with_reducible assumption) ?_ ?_) <;> omega) | (repeat (first | (with_reducible assumption) | (with_reducible refine hel2 ?_ (by first | (refine Or.inl ⟨?_, ?_, ?_⟩ <;> (first | rfl | (dsimp only; omega))) | (refine Or.inr (Or.inl ⟨?_, ?_⟩) <;> (first | rfl | (dsimp only; omega))) | (refine Or.inr (Or.inr ?_); (try dsimp only); (try simp only [World.size_alloc, World.size_setCell]); omega)) (by (try dsimp only); (try simp only [World.size_alloc, World.size_setCell]); omega)))))
      clear hK K hHeld
      have hHeld := hHeldN
      clear hHeldN
      try simp only [Act.put, List.setIfInBounds_toArray, List.set_cons_zero, List.set_cons_succ]
      refine wpAnyH_ready (rs := [5]) (by kernel_rfl) (by simp) ?_
      refine AllReadyH.cons (o := _) rfl (fun K hK => ?_) AllReadyH.nil
      go_simp
      refine hK.out _ _ ?_ (fun hHeldN => ?_)
      · (try dsimp only); (first | (with_reducible exact hel0 hWe) | (with_reducible exact hel1p (by with_reducible assumption) (by with_reducible assumption)) | (with_reducible exact hel1 (by with_reducible assumption) (by with_reducible assumption)) | (with_reducible exact hel3d (by with_reducible assumption)) | (with_reducible exact hel3 (by with_reducible assumption)) | ((with_reducible refine hel4 (by with_reducible assumption) ?_ ?_) <;> omega) | (repeat (first | (with_reducible assumption) | (with_reducible refine hel2 ?_ (by first | (refine Or.inl ⟨?_, ?_, ?_⟩ <;> (first | rfl | (dsimp only; omega))) | (refine Or.inr (Or.inl ⟨?_, ?_⟩) <;> (first | rfl | (dsimp only; omega))) | (refine Or.inr (Or.inr ?_); (try dsimp only); (try simp only [World.size_alloc, World.size_setCell]); omega)) (by (try dsimp only); (try simp only [World.size_alloc, World.size_setCell]); omega)))))
      clear hK K hHeld
      have hHeld := hHeldN
      clear hHeldN
      try simp only [Act.put, List.setIfInBounds_toArray, List.set_cons_zero, List.set_cons_succ]
      refine wpAnyH_ready (rs := [17]) (by kernel_rfl) (by simp) ?_
      refine AllReadyH.cons (o := _) rfl (fun K hK => ?_) AllReadyH.nil
      go_simp
      (go_at_call 44; (try simp only [hod0, hod1, hog00, hog01]); (with_reducible refine (d_add w1.heap.size (r1.e) r0.lo r0.hi r1.lo r1.hi _ (by (try simp only [cell_drew, frozen_drew]); first | with_reducible assumption | (rw [cell_al, if_neg (by (try simp only [size_drew]); omega)]; (try simp only [cell_drew]); with_reducible assumption) | simp [go_sem, ↓IntWalk.iteOmega, *]) (by (try simp only [cell_drew, frozen_drew]); first | with_reducible assumption | (rw [cell_al, if_neg (by (try simp only [size_drew]); omega)]; (try simp only [cell_drew]); with_reducible assumption) | simp [go_sem, *])).mono ?_); (generalize hr2 : doI (r1.e) (addI r0.lo r0.hi r1.lo r1.hi) = r2); rintro e w3 ⟨rfl, hb1⟩; have hz1 := hb1.size; (try simp only [World.size_setCell] at hz1); obtain ⟨hg1, hh1⟩ := hb1.got (u := .int .i64 (r1.e)) (by (try simp only [cell_drew, frozen_drew]); first | with_reducible assumption | (rw [cell_al, if_neg (by (try simp only [size_drew]); omega)]; (try simp only [cell_drew]); with_reducible assumption) | simp [go_sem, ↓IntWalk.iteOmega, *]); have hob1 := obx_of hg1; (try simp only [frozen_drew] at hh1))
      refine hK.out _ _ ?_ (fun hHeldN => ?_)
      · (try dsimp only); (first | (with_reducible exact hel0 hWe) | (with_reducible exact hel1p (by with_reducible assumption) (by with_reducible assumption)) | (with_reducible exact hel1 (by with_reducible assumption) (by with_reducible assumption)) | (with_reducible exact hel3d (by with_reducible assumption)) | (with_reducible exact hel3 (by with_reducible assumption)) | ((with_reducible refine hel4 (by with_reducible assumption) ?_ ?_) <;> omega) | (repeat (first | (with_reducible assumption) | (with_reducible refine hel2 ?_ (by first | (refine Or.inl ⟨?_, ?_, ?_⟩ <;> (first | rfl | (dsimp only; omega))) | (refine Or.inr (Or.inl ⟨?_, ?_⟩) <;> (first | rfl | (dsimp only; omega))) | (refine Or.inr (Or.inr ?_); (try dsimp only); (try simp only [World.size_alloc, World.size_setCell]); omega)) (by (try dsimp only); (try simp only [World.size_alloc, World.size_setCell]); omega)))))
      clear hK K hHeld
      have hHeld := hHeldN
      clear hHeldN
      try simp only [Act.put, List.setIfInBounds_toArray, List.set_cons_zero, List.set_cons_succ]
      refine wpAnyH_ready (rs := [18]) (by kernel_rfl) (by simp) ?_
      refine AllReadyH.cons (o := _) rfl (fun K hK => ?_) AllReadyH.nil
      go_simp
      refine hK.out _ _ ?_ (fun hHeldN => ?_)
      · (try dsimp only); (first | (with_reducible exact hel0 hWe) | (with_reducible exact hel1p (by with_reducible assumption) (by with_reducible assumption)) | (with_reducible exact hel1 (by with_reducible assumption) (by with_reducible assumption)) | (with_reducible exact hel3d (by with_reducible assumption)) | (with_reducible exact hel3 (by with_reducible assumption)) | ((with_reducible refine hel4 (by with_reducible assumption) ?_ ?_) <;> omega) | (repeat (first | (with_reducible assumption) | (with_reducible refine hel2 ?_ (by first | (refine Or.inl ⟨?_, ?_, ?_⟩ <;> (first | rfl | (dsimp only; omega))) | (refine Or.inr (Or.inl ⟨?_, ?_⟩) <;> (first | rfl | (dsimp only; omega))) | (refine Or.inr (Or.inr ?_); (try dsimp only); (try simp only [World.size_alloc, World.size_setCell]); omega)) (by (try dsimp only); (try simp only [World.size_alloc, World.size_setCell]); omega)))))
      clear hK K hHeld
      have hHeld := hHeldN
      clear hHeldN
      try simp only [Act.put, List.setIfInBounds_toArray, List.set_cons_zero, List.set_cons_succ]
      refine wpAnyH_done (by kernel_rfl) ?_ _
      have hOld := hHeld
      clear hHeld
      have hE := hOld.2.2.2
      have hO := And.intro hOld.1 (And.intro hOld.2.1 hOld.2.2.1)
      clear hOld
      replace hO := helBack hO (by first | (refine Or.inl ⟨?_, ?_, ?_⟩ <;> (first | rfl | (dsimp only; omega))) | (refine Or.inr (Or.inl ⟨?_, ?_⟩) <;> (first | rfl | (dsimp only; omega))) | (refine Or.inr (Or.inr ?_); (try dsimp only); (try simp only [World.size_alloc, World.size_setCell]); omega))
      replace hO := helBack hO (by first | (refine Or.inl ⟨?_, ?_, ?_⟩ <;> (first | rfl | (dsimp only; omega))) | (refine Or.inr (Or.inl ⟨?_, ?_⟩) <;> (first | rfl | (dsimp only; omega))) | (refine Or.inr (Or.inr ?_); (try dsimp only); (try simp only [World.size_alloc, World.size_setCell]); omega))
      obtain ⟨hOc, hOf, hOz⟩ := helEnd hO
      clear hO
      have hlu : w.heap.size < w3.heap.size ∧ w.heap.size + 1 < w3.heap.size ∧ w1.heap.size < w3.heap.size ∧ wg.heap.size < w3.heap.size := (by refine ⟨?_, ?_, ?_, ?_⟩ <;> omega)
      go_wp2_with fail
      rw [rounds_succ]
      go_wp2_with fail
      refine wp_name fun W hW => ?_
      obtain ⟨hWc, hWf, hWz⟩ := hW.cells
      have hWe : ExtP w w1.heap.size 4 W := ExtP.same hW (by (repeat (first | with_reducible refine ExtP.set ?_ | (with_reducible refine ExtP.store ?_ ?_; rotate_left; (focus ((try simp only []); omega))) | with_reducible refine ExtP.ext ?_ ((Ext.refl _).alloc _) | with_reducible refine ExtP.ext ?_ ((Ext.refl _).drew) | with_reducible assumption | with_reducible exact ExtP.of _ _ (Ext.refl w) | with_reducible refine ExtP.ext ?_ (by with_reducible assumption))))
      (try simp only [World.size_setCell] at hWz)
      replace hWz := And.intro (Nat.le_of_eq hWz) (Nat.le_of_eq hWz.symm)
      have hlt : w.heap.size < W.heap.size ∧ w.heap.size + 1 < W.heap.size ∧ w1.heap.size < W.heap.size ∧ wg.heap.size < W.heap.size := (by refine ⟨?_, ?_, ?_, ?_⟩ <;> omega)
      have hd : ¬ w.heap.size = w.heap.size + 1 ∧ ¬ w.heap.size = w1.heap.size ∧ ¬ w.heap.size = wg.heap.size ∧ ¬ w.heap.size + 1 = w.heap.size ∧ ¬ w.heap.size + 1 = w1.heap.size ∧ ¬ w.heap.size + 1 = wg.heap.size ∧ ¬ w1.heap.size = w.heap.size ∧ ¬ w1.heap.size = w.heap.size + 1 ∧ ¬ w1.heap.size = wg.heap.size ∧ ¬ wg.heap.size = w.heap.size ∧ ¬ wg.heap.size = w.heap.size + 1 ∧ ¬ wg.heap.size = w1.heap.size := (by refine ⟨?_, ?_, ?_, ?_, ?_, ?_, ?_, ?_, ?_, ?_, ?_, ?_⟩ <;> omega)
      have hod0 : ∀ x, obx W.drew wg.heap.size 0 x = (.int .i64 r2.lo : Value) := obx_of (show W.drew.cell? ⟨wg.heap.size, 0, none⟩ = some (.int .i64 r2.lo : Value) from by (try simp only [cell_drew]); simp [go_sem, *])
      have hod1 : ∀ x, obx W.drew wg.heap.size 1 x = (.int .i64 r2.hi : Value) := obx_of (show W.drew.cell? ⟨wg.heap.size, 1, none⟩ = some (.int .i64 r2.hi : Value) from by (try simp only [cell_drew]); simp [go_sem, *])
      refine wp_region_held_drew (S := (fun w' => (∀ b o, b < W.heap.size → w'.cell? ⟨b, o, none⟩ = if b = wg.heap.size ∧ 0 ≤ o ∧ o < 2 ∨ b = w1.heap.size ∧ o = 4 then (W.cell? ⟨b, o, none⟩).map (obx w' b o) else W.cell? ⟨b, o, none⟩) ∧ (∀ b o, b < W.heap.size → w'.frozen? ⟨b, o, none⟩ = W.frozen? ⟨b, o, none⟩) ∧ W.heap.size ≤ w'.heap.size ∧ ExtP w w1.heap.size 4 w')) (by kernel_rfl) ?_ (fun hHeld => ?_)
      · (try dsimp only); (first | (with_reducible exact hel0 hWe) | (with_reducible exact hel1p (by with_reducible assumption) (by with_reducible assumption)) | (with_reducible exact hel1 (by with_reducible assumption) (by with_reducible assumption)) | (with_reducible exact hel3d (by with_reducible assumption)) | (with_reducible exact hel3 (by with_reducible assumption)) | ((with_reducible refine hel4 (by with_reducible assumption) ?_ ?_) <;> omega) | (repeat (first | (with_reducible assumption) | (with_reducible refine hel2 ?_ (by first | (refine Or.inl ⟨?_, ?_, ?_⟩ <;> (first | rfl | (dsimp only; omega))) | (refine Or.inr (Or.inl ⟨?_, ?_⟩) <;> (first | rfl | (dsimp only; omega))) | (refine Or.inr (Or.inr ?_); (try dsimp only); (try simp only [World.size_alloc, World.size_setCell]); omega)) (by (try dsimp only); (try simp only [World.size_alloc, World.size_setCell]); omega)))))
      refine wpAnyH_take (i := 0) (oi := _) (v := ?_) rfl (by kernel_rfl) (by kernel_rfl) (by kernel_rfl) (fun _ _ _ h => h) (Or.inl ⟨by rfl, ?_⟩) (by assumption) ?_
      rotate_left
      · intro w0 hSw; (try dsimp only at hSw); go_simp; try with_reducible rfl
      try simp only [Act.put, List.setIfInBounds_toArray]
      refine wpAnyH_take (i := 1) (oi := _) (v := ?_) rfl (by kernel_rfl) (by kernel_rfl) (by kernel_rfl) (fun _ _ _ h => h) (Or.inl ⟨by rfl, ?_⟩) (by assumption) ?_
      rotate_left
      · intro w0 hSw; (try dsimp only at hSw); go_simp; try with_reducible rfl
      try simp only [Act.put]
      refine wpAnyH_take (i := 2) (oi := _) (v := ?_) rfl (by kernel_rfl) (by kernel_rfl) (by kernel_rfl) (fun _ _ _ h => h) (Or.inl ⟨by rfl, ?_⟩) (by assumption) ?_
      rotate_left
      · intro w0 hSw; (try dsimp only at hSw); go_simp; try with_reducible rfl
      try simp only [Act.put]
      refine wpAnyH_take (i := 3) (oi := _) (v := ?_) rfl (by kernel_rfl) (by kernel_rfl) (by kernel_rfl) (fun _ _ _ h => h) (Or.inl ⟨by rfl, ?_⟩) (by assumption) ?_
      rotate_left
      · intro w0 hSw; (try dsimp only at hSw); go_simp; try with_reducible rfl
      try simp only [Act.put]
      refine wpAnyH_take (i := 4) (oi := _) (v := ?_) rfl (by kernel_rfl) (by kernel_rfl) (by kernel_rfl) (fun _ _ _ h => h) (Or.inl ⟨by rfl, ?_⟩) (by assumption) ?_
      rotate_left
      · intro w0 hSw; (try dsimp only at hSw); go_simp; try with_reducible rfl
      try simp only [Act.put]
      refine wpAnyH_take (i := 6) (oi := _) (v := ?_) rfl (by kernel_rfl) (by kernel_rfl) (by kernel_rfl) (fun _ _ _ h => h) (Or.inl ⟨by rfl, ?_⟩) (by assumption) ?_
      rotate_left
      · intro w0 hSw; (try dsimp only at hSw); go_simp; try with_reducible rfl
      try simp only [Act.put]
      refine wpAnyH_take (i := 7) (oi := _) (v := ?_) rfl (by kernel_rfl) (by kernel_rfl) (by kernel_rfl) (fun _ _ _ h => h) (Or.inl ⟨by rfl, ?_⟩) (by assumption) ?_
      rotate_left
      · intro w0 hSw; (try dsimp only at hSw); go_simp; try with_reducible rfl
      try simp only [Act.put]
      refine wpAnyH_take (i := 8) (oi := _) (v := ?_) rfl (by kernel_rfl) (by kernel_rfl) (by kernel_rfl) (fun _ _ _ h => h) (Or.inl ⟨by rfl, ?_⟩) (by assumption) ?_
      rotate_left
      · intro w0 hSw; (try dsimp only at hSw); go_simp; try with_reducible rfl
      try simp only [Act.put]
      refine wpAnyH_take (i := 9) (oi := _) (v := ?_) rfl (by kernel_rfl) (by kernel_rfl) (by kernel_rfl) (fun _ _ _ h => h) (Or.inl ⟨by rfl, ?_⟩) (by assumption) ?_
      rotate_left
      · intro w0 hSw; (try dsimp only at hSw); go_simp; try with_reducible rfl
      try simp only [Act.put]
      refine wpAnyH_take (i := 10) (oi := _) (v := ?_) rfl (by kernel_rfl) (by kernel_rfl) (by kernel_rfl) (fun _ _ _ h => h) (Or.inl ⟨by rfl, ?_⟩) (by assumption) ?_
      rotate_left
      · intro w0 hSw; (try dsimp only at hSw); go_simp; try with_reducible rfl
      try simp only [Act.put]
      refine wpAnyH_take (i := 11) (oi := _) (v := ?_) rfl (by kernel_rfl) (by kernel_rfl) (by kernel_rfl) (fun _ _ _ h => h) (Or.inl ⟨by rfl, ?_⟩) (by assumption) ?_
      rotate_left
      · intro w0 hSw; (try dsimp only at hSw); go_simp; try with_reducible rfl
      try simp only [Act.put]
      refine wpAnyH_take (i := 12) (oi := _) (v := ?_) rfl (by kernel_rfl) (by kernel_rfl) (by kernel_rfl) (fun _ _ _ h => h) (Or.inl ⟨by rfl, ?_⟩) (by assumption) ?_
      rotate_left
      · intro w0 hSw; (try dsimp only at hSw); go_simp; try with_reducible rfl
      try simp only [Act.put]
      refine wpAnyH_take (i := 13) (oi := _) (v := ?_) rfl (by kernel_rfl) (by kernel_rfl) (by kernel_rfl) (fun _ _ _ h => h) (Or.inl ⟨by rfl, ?_⟩) (by assumption) ?_
      rotate_left
      · intro w0 hSw; (try dsimp only at hSw); go_simp; try with_reducible rfl
      try simp only [Act.put]
      refine wpAnyH_take (i := 14) (oi := _) (v := ?_) rfl (by kernel_rfl) (by kernel_rfl) (by kernel_rfl) (fun _ _ _ h => h) (Or.inl ⟨by rfl, ?_⟩) (by assumption) ?_
      rotate_left
      · intro w0 hSw; (try dsimp only at hSw); go_simp; try with_reducible rfl
      try simp only [Act.put]
      refine wpAnyH_take (i := 15) (oi := _) (v := ?_) rfl (by kernel_rfl) (by kernel_rfl) (by kernel_rfl) (fun _ _ _ h => h) (Or.inl ⟨by rfl, ?_⟩) (by assumption) ?_
      rotate_left
      · intro w0 hSw; (try dsimp only at hSw); go_simp; try with_reducible rfl
      try simp only [Act.put]
      refine wpAnyH_ready (rs := [5, 16]) (by kernel_rfl) (by simp) ?_
      refine AllReadyH.cons (o := _) rfl (fun K hK => ?_) ?_
      · go_simp
        refine hK.out _ _ ?_ (fun hHeldN => ?_)
        · (try dsimp only); (first | (with_reducible exact hel0 hWe) | (with_reducible exact hel1p (by with_reducible assumption) (by with_reducible assumption)) | (with_reducible exact hel1 (by with_reducible assumption) (by with_reducible assumption)) | (with_reducible exact hel3d (by with_reducible assumption)) | (with_reducible exact hel3 (by with_reducible assumption)) | ((with_reducible refine hel4 (by with_reducible assumption) ?_ ?_) <;> omega) | (repeat (first | (with_reducible assumption) | (with_reducible refine hel2 ?_ (by first | (refine Or.inl ⟨?_, ?_, ?_⟩ <;> (first | rfl | (dsimp only; omega))) | (refine Or.inr (Or.inl ⟨?_, ?_⟩) <;> (first | rfl | (dsimp only; omega))) | (refine Or.inr (Or.inr ?_); (try dsimp only); (try simp only [World.size_alloc, World.size_setCell]); omega)) (by (try dsimp only); (try simp only [World.size_alloc, World.size_setCell]); omega)))))
        clear hK K hHeld
        have hHeld := hHeldN
        clear hHeldN
        try simp only [Act.put, List.setIfInBounds_toArray, List.set_cons_zero, List.set_cons_succ]
        refine wpAnyH_ready (rs := [16]) (by kernel_rfl) (by simp) ?_
        refine AllReadyH.cons (o := _) rfl (fun K hK => ?_) AllReadyH.nil
        go_simp
        (go_at_call 44; (with_reducible refine (d_sq w1.heap.size (r2.e) a.e a.f a.e a.f _ (by (try simp only [cell_drew]); first | with_reducible assumption | (rw [cell_al, if_neg (by (try simp only [size_drew]); omega)]; (try simp only [cell_drew]); with_reducible assumption) | simp [go_sem, *]) (by (try simp only [frozen_drew]); first | with_reducible assumption | (rw [cell_al, if_neg (by (try simp only [size_drew]); omega)]; (try simp only [cell_drew]); with_reducible assumption) | simp [go_sem, *]) ha3).mono ?_); (generalize hr3 : doI (r2.e) (sqI a.e a.f) = r3); rintro e w2 ⟨rfl, hb0⟩; have hz0 := hb0.size; (try simp only [size_drew, World.size_setCell] at hz0); obtain ⟨hg0, hh0⟩ := hb0.got (u := .int .i64 (r2.e)) (by (try simp only [cell_drew]); first | with_reducible assumption | (rw [cell_al, if_neg (by (try simp only [size_drew]); omega)]; (try simp only [cell_drew]); with_reducible assumption) | simp [go_sem, *]); have hob0 := obx_of hg0; (try simp only [frozen_drew] at hh0); (have hog00 := obx_of ((hb0.cells.1 wg.heap.size 0 (by (try simp only [size_drew, World.size_setCell]); omega)).trans (show _ = some (.int .i64 r2.lo) from by (try simp only [cell_sc, cell_drew]); simp [go_sem, *]))); (have hog01 := obx_of ((hb0.cells.1 wg.heap.size 1 (by (try simp only [size_drew, World.size_setCell]); omega)).trans (show _ = some (.int .i64 r2.hi) from by (try simp only [cell_sc, cell_drew]); simp [go_sem, *]))))
        refine hK.out _ _ ?_ (fun hHeldN => ?_)
        · (try dsimp only); (first | (with_reducible exact hel0 hWe) | (with_reducible exact hel1p (by with_reducible assumption) (by with_reducible assumption)) | (with_reducible exact hel1 (by with_reducible assumption) (by with_reducible assumption)) | (with_reducible exact hel3d (by with_reducible assumption)) | (with_reducible exact hel3 (by with_reducible assumption)) | ((with_reducible refine hel4 (by with_reducible assumption) ?_ ?_) <;> omega) | (repeat (first | (with_reducible assumption) | (with_reducible refine hel2 ?_ (by first | (refine Or.inl ⟨?_, ?_, ?_⟩ <;> (first | rfl | (dsimp only; omega))) | (refine Or.inr (Or.inl ⟨?_, ?_⟩) <;> (first | rfl | (dsimp only; omega))) | (refine Or.inr (Or.inr ?_); (try dsimp only); (try simp only [World.size_alloc, World.size_setCell]); omega)) (by (try dsimp only); (try simp only [World.size_alloc, World.size_setCell]); omega)))))
        clear hK K hHeld
        have hHeld := hHeldN
        clear hHeldN
        try simp only [Act.put, List.setIfInBounds_toArray, List.set_cons_zero, List.set_cons_succ]
        refine wpAnyH_ready (rs := [17]) (by kernel_rfl) (by simp) ?_
        refine AllReadyH.cons (o := _) rfl (fun K hK => ?_) AllReadyH.nil
        go_simp
        (go_at_call 44; (try simp only [hod0, hod1, hog00, hog01]); (with_reducible refine (d_add w1.heap.size (r3.e) r2.lo r2.hi r3.lo r3.hi _ (by (try simp only [cell_drew, frozen_drew]); first | with_reducible assumption | (rw [cell_al, if_neg (by (try simp only [size_drew]); omega)]; (try simp only [cell_drew]); with_reducible assumption) | simp [go_sem, ↓IntWalk.iteOmega, *]) (by (try simp only [cell_drew, frozen_drew]); first | with_reducible assumption | (rw [cell_al, if_neg (by (try simp only [size_drew]); omega)]; (try simp only [cell_drew]); with_reducible assumption) | simp [go_sem, *])).mono ?_); (generalize hr4 : doI (r3.e) (addI r2.lo r2.hi r3.lo r3.hi) = r4); rintro e w3 ⟨rfl, hb1⟩; have hz1 := hb1.size; (try simp only [World.size_setCell] at hz1); obtain ⟨hg1, hh1⟩ := hb1.got (u := .int .i64 (r3.e)) (by (try simp only [cell_drew, frozen_drew]); first | with_reducible assumption | (rw [cell_al, if_neg (by (try simp only [size_drew]); omega)]; (try simp only [cell_drew]); with_reducible assumption) | simp [go_sem, ↓IntWalk.iteOmega, *]); have hob1 := obx_of hg1; (try simp only [frozen_drew] at hh1))
        refine hK.out _ _ ?_ (fun hHeldN => ?_)
        · (try dsimp only); (first | (with_reducible exact hel0 hWe) | (with_reducible exact hel1p (by with_reducible assumption) (by with_reducible assumption)) | (with_reducible exact hel1 (by with_reducible assumption) (by with_reducible assumption)) | (with_reducible exact hel3d (by with_reducible assumption)) | (with_reducible exact hel3 (by with_reducible assumption)) | ((with_reducible refine hel4 (by with_reducible assumption) ?_ ?_) <;> omega) | (repeat (first | (with_reducible assumption) | (with_reducible refine hel2 ?_ (by first | (refine Or.inl ⟨?_, ?_, ?_⟩ <;> (first | rfl | (dsimp only; omega))) | (refine Or.inr (Or.inl ⟨?_, ?_⟩) <;> (first | rfl | (dsimp only; omega))) | (refine Or.inr (Or.inr ?_); (try dsimp only); (try simp only [World.size_alloc, World.size_setCell]); omega)) (by (try dsimp only); (try simp only [World.size_alloc, World.size_setCell]); omega)))))
        clear hK K hHeld
        have hHeld := hHeldN
        clear hHeldN
        try simp only [Act.put, List.setIfInBounds_toArray, List.set_cons_zero, List.set_cons_succ]
        refine wpAnyH_ready (rs := [18]) (by kernel_rfl) (by simp) ?_
        refine AllReadyH.cons (o := _) rfl (fun K hK => ?_) AllReadyH.nil
        go_simp
        refine hK.out _ _ ?_ (fun hHeldN => ?_)
        · (try dsimp only); (first | (with_reducible exact hel0 hWe) | (with_reducible exact hel1p (by with_reducible assumption) (by with_reducible assumption)) | (with_reducible exact hel1 (by with_reducible assumption) (by with_reducible assumption)) | (with_reducible exact hel3d (by with_reducible assumption)) | (with_reducible exact hel3 (by with_reducible assumption)) | ((with_reducible refine hel4 (by with_reducible assumption) ?_ ?_) <;> omega) | (repeat (first | (with_reducible assumption) | (with_reducible refine hel2 ?_ (by first | (refine Or.inl ⟨?_, ?_, ?_⟩ <;> (first | rfl | (dsimp only; omega))) | (refine Or.inr (Or.inl ⟨?_, ?_⟩) <;> (first | rfl | (dsimp only; omega))) | (refine Or.inr (Or.inr ?_); (try dsimp only); (try simp only [World.size_alloc, World.size_setCell]); omega)) (by (try dsimp only); (try simp only [World.size_alloc, World.size_setCell]); omega)))))
        clear hK K hHeld
        have hHeld := hHeldN
        clear hHeldN
        try simp only [Act.put, List.setIfInBounds_toArray, List.set_cons_zero, List.set_cons_succ]
        refine wpAnyH_done (by kernel_rfl) ?_ _
        have hOld := hHeld
        clear hHeld
        have hE := hOld.2.2.2
        have hO := And.intro hOld.1 (And.intro hOld.2.1 hOld.2.2.1)
        clear hOld
        replace hO := helBack hO (by first | (refine Or.inl ⟨?_, ?_, ?_⟩ <;> (first | rfl | (dsimp only; omega))) | (refine Or.inr (Or.inl ⟨?_, ?_⟩) <;> (first | rfl | (dsimp only; omega))) | (refine Or.inr (Or.inr ?_); (try dsimp only); (try simp only [World.size_alloc, World.size_setCell]); omega))
        replace hO := helBack hO (by first | (refine Or.inl ⟨?_, ?_, ?_⟩ <;> (first | rfl | (dsimp only; omega))) | (refine Or.inr (Or.inl ⟨?_, ?_⟩) <;> (first | rfl | (dsimp only; omega))) | (refine Or.inr (Or.inr ?_); (try dsimp only); (try simp only [World.size_alloc, World.size_setCell]); omega))
        obtain ⟨hOc, hOf, hOz⟩ := helEnd hO
        clear hO
        have hlu : w.heap.size < w3.heap.size ∧ w.heap.size + 1 < w3.heap.size ∧ w1.heap.size < w3.heap.size ∧ wg.heap.size < w3.heap.size := (by refine ⟨?_, ?_, ?_, ?_⟩ <;> omega)
        go_wp2_with fail
        rw [rounds_succ]
        go_wp2_with fail
        go_region
        all_goals go_wp2_with fail
        all_goals
          refine bodyPost_ret (v := .tuple #[.agg #[.int .i64 (nrmV a).lo, .int .i64 (nrmV a).hi], .int .i64 (nrmV a).e]) ?_ rfl ⟨rfl, ?_⟩
          · (try simp only [bne_eq_false_iff_eq] at *)
            simp [results, Try.results17, go_sem, nrmV, nrmI, nrm3, nrm2, nrm1, nrm0, *]
          · refine ExtP.out (p := w1.heap.size) (k := 4) ?_ (by omega)
            (repeat (first | with_reducible refine ExtP.set ?_ | (with_reducible refine ExtP.store ?_ ?_; rotate_left; (focus ((try simp only []); omega))) | with_reducible refine ExtP.ext ?_ ((Ext.refl _).alloc _) | with_reducible refine ExtP.ext ?_ ((Ext.refl _).drew) | with_reducible assumption | with_reducible exact ExtP.of _ _ (Ext.refl w) | with_reducible refine ExtP.ext ?_ (by with_reducible assumption)))
      refine AllReadyH.cons (o := _) rfl (fun K hK => ?_) AllReadyH.nil
      · go_simp
        (go_at_call 44; (with_reducible refine (d_sq w1.heap.size (r2.e) a.e a.f a.e a.f _ (by (try simp only [cell_drew]); first | with_reducible assumption | (rw [cell_al, if_neg (by (try simp only [size_drew]); omega)]; (try simp only [cell_drew]); with_reducible assumption) | simp [go_sem, *]) (by (try simp only [frozen_drew]); first | with_reducible assumption | (rw [cell_al, if_neg (by (try simp only [size_drew]); omega)]; (try simp only [cell_drew]); with_reducible assumption) | simp [go_sem, *]) ha3).mono ?_); (generalize hr3 : doI (r2.e) (sqI a.e a.f) = r3); rintro e w2 ⟨rfl, hb0⟩; have hz0 := hb0.size; (try simp only [size_drew, World.size_setCell] at hz0); obtain ⟨hg0, hh0⟩ := hb0.got (u := .int .i64 (r2.e)) (by (try simp only [cell_drew]); first | with_reducible assumption | (rw [cell_al, if_neg (by (try simp only [size_drew]); omega)]; (try simp only [cell_drew]); with_reducible assumption) | simp [go_sem, *]); have hob0 := obx_of hg0; (try simp only [frozen_drew] at hh0); (have hog00 := obx_of ((hb0.cells.1 wg.heap.size 0 (by (try simp only [size_drew, World.size_setCell]); omega)).trans (show _ = some (.int .i64 r2.lo) from by (try simp only [cell_sc, cell_drew]); simp [go_sem, *]))); (have hog01 := obx_of ((hb0.cells.1 wg.heap.size 1 (by (try simp only [size_drew, World.size_setCell]); omega)).trans (show _ = some (.int .i64 r2.hi) from by (try simp only [cell_sc, cell_drew]); simp [go_sem, *]))))
        refine hK.out _ _ ?_ (fun hHeldN => ?_)
        · (try dsimp only); (first | (with_reducible exact hel0 hWe) | (with_reducible exact hel1p (by with_reducible assumption) (by with_reducible assumption)) | (with_reducible exact hel1 (by with_reducible assumption) (by with_reducible assumption)) | (with_reducible exact hel3d (by with_reducible assumption)) | (with_reducible exact hel3 (by with_reducible assumption)) | ((with_reducible refine hel4 (by with_reducible assumption) ?_ ?_) <;> omega) | (repeat (first | (with_reducible assumption) | (with_reducible refine hel2 ?_ (by first | (refine Or.inl ⟨?_, ?_, ?_⟩ <;> (first | rfl | (dsimp only; omega))) | (refine Or.inr (Or.inl ⟨?_, ?_⟩) <;> (first | rfl | (dsimp only; omega))) | (refine Or.inr (Or.inr ?_); (try dsimp only); (try simp only [World.size_alloc, World.size_setCell]); omega)) (by (try dsimp only); (try simp only [World.size_alloc, World.size_setCell]); omega)))))
        clear hK K hHeld
        have hHeld := hHeldN
        clear hHeldN
        try simp only [Act.put, List.setIfInBounds_toArray, List.set_cons_zero, List.set_cons_succ]
        refine wpAnyH_ready (rs := [5]) (by kernel_rfl) (by simp) ?_
        refine AllReadyH.cons (o := _) rfl (fun K hK => ?_) AllReadyH.nil
        go_simp
        refine hK.out _ _ ?_ (fun hHeldN => ?_)
        · (try dsimp only); (first | (with_reducible exact hel0 hWe) | (with_reducible exact hel1p (by with_reducible assumption) (by with_reducible assumption)) | (with_reducible exact hel1 (by with_reducible assumption) (by with_reducible assumption)) | (with_reducible exact hel3d (by with_reducible assumption)) | (with_reducible exact hel3 (by with_reducible assumption)) | ((with_reducible refine hel4 (by with_reducible assumption) ?_ ?_) <;> omega) | (repeat (first | (with_reducible assumption) | (with_reducible refine hel2 ?_ (by first | (refine Or.inl ⟨?_, ?_, ?_⟩ <;> (first | rfl | (dsimp only; omega))) | (refine Or.inr (Or.inl ⟨?_, ?_⟩) <;> (first | rfl | (dsimp only; omega))) | (refine Or.inr (Or.inr ?_); (try dsimp only); (try simp only [World.size_alloc, World.size_setCell]); omega)) (by (try dsimp only); (try simp only [World.size_alloc, World.size_setCell]); omega)))))
        clear hK K hHeld
        have hHeld := hHeldN
        clear hHeldN
        try simp only [Act.put, List.setIfInBounds_toArray, List.set_cons_zero, List.set_cons_succ]
        refine wpAnyH_ready (rs := [17]) (by kernel_rfl) (by simp) ?_
        refine AllReadyH.cons (o := _) rfl (fun K hK => ?_) AllReadyH.nil
        go_simp
        (go_at_call 44; (try simp only [hod0, hod1, hog00, hog01]); (with_reducible refine (d_add w1.heap.size (r3.e) r2.lo r2.hi r3.lo r3.hi _ (by (try simp only [cell_drew, frozen_drew]); first | with_reducible assumption | (rw [cell_al, if_neg (by (try simp only [size_drew]); omega)]; (try simp only [cell_drew]); with_reducible assumption) | simp [go_sem, ↓IntWalk.iteOmega, *]) (by (try simp only [cell_drew, frozen_drew]); first | with_reducible assumption | (rw [cell_al, if_neg (by (try simp only [size_drew]); omega)]; (try simp only [cell_drew]); with_reducible assumption) | simp [go_sem, *])).mono ?_); (generalize hr4 : doI (r3.e) (addI r2.lo r2.hi r3.lo r3.hi) = r4); rintro e w3 ⟨rfl, hb1⟩; have hz1 := hb1.size; (try simp only [World.size_setCell] at hz1); obtain ⟨hg1, hh1⟩ := hb1.got (u := .int .i64 (r3.e)) (by (try simp only [cell_drew, frozen_drew]); first | with_reducible assumption | (rw [cell_al, if_neg (by (try simp only [size_drew]); omega)]; (try simp only [cell_drew]); with_reducible assumption) | simp [go_sem, ↓IntWalk.iteOmega, *]); have hob1 := obx_of hg1; (try simp only [frozen_drew] at hh1))
        refine hK.out _ _ ?_ (fun hHeldN => ?_)
        · (try dsimp only); (first | (with_reducible exact hel0 hWe) | (with_reducible exact hel1p (by with_reducible assumption) (by with_reducible assumption)) | (with_reducible exact hel1 (by with_reducible assumption) (by with_reducible assumption)) | (with_reducible exact hel3d (by with_reducible assumption)) | (with_reducible exact hel3 (by with_reducible assumption)) | ((with_reducible refine hel4 (by with_reducible assumption) ?_ ?_) <;> omega) | (repeat (first | (with_reducible assumption) | (with_reducible refine hel2 ?_ (by first | (refine Or.inl ⟨?_, ?_, ?_⟩ <;> (first | rfl | (dsimp only; omega))) | (refine Or.inr (Or.inl ⟨?_, ?_⟩) <;> (first | rfl | (dsimp only; omega))) | (refine Or.inr (Or.inr ?_); (try dsimp only); (try simp only [World.size_alloc, World.size_setCell]); omega)) (by (try dsimp only); (try simp only [World.size_alloc, World.size_setCell]); omega)))))
        clear hK K hHeld
        have hHeld := hHeldN
        clear hHeldN
        try simp only [Act.put, List.setIfInBounds_toArray, List.set_cons_zero, List.set_cons_succ]
        refine wpAnyH_ready (rs := [18]) (by kernel_rfl) (by simp) ?_
        refine AllReadyH.cons (o := _) rfl (fun K hK => ?_) AllReadyH.nil
        go_simp
        refine hK.out _ _ ?_ (fun hHeldN => ?_)
        · (try dsimp only); (first | (with_reducible exact hel0 hWe) | (with_reducible exact hel1p (by with_reducible assumption) (by with_reducible assumption)) | (with_reducible exact hel1 (by with_reducible assumption) (by with_reducible assumption)) | (with_reducible exact hel3d (by with_reducible assumption)) | (with_reducible exact hel3 (by with_reducible assumption)) | ((with_reducible refine hel4 (by with_reducible assumption) ?_ ?_) <;> omega) | (repeat (first | (with_reducible assumption) | (with_reducible refine hel2 ?_ (by first | (refine Or.inl ⟨?_, ?_, ?_⟩ <;> (first | rfl | (dsimp only; omega))) | (refine Or.inr (Or.inl ⟨?_, ?_⟩) <;> (first | rfl | (dsimp only; omega))) | (refine Or.inr (Or.inr ?_); (try dsimp only); (try simp only [World.size_alloc, World.size_setCell]); omega)) (by (try dsimp only); (try simp only [World.size_alloc, World.size_setCell]); omega)))))
        clear hK K hHeld
        have hHeld := hHeldN
        clear hHeldN
        try simp only [Act.put, List.setIfInBounds_toArray, List.set_cons_zero, List.set_cons_succ]
        refine wpAnyH_done (by kernel_rfl) ?_ _
        have hOld := hHeld
        clear hHeld
        have hE := hOld.2.2.2
        have hO := And.intro hOld.1 (And.intro hOld.2.1 hOld.2.2.1)
        clear hOld
        replace hO := helBack hO (by first | (refine Or.inl ⟨?_, ?_, ?_⟩ <;> (first | rfl | (dsimp only; omega))) | (refine Or.inr (Or.inl ⟨?_, ?_⟩) <;> (first | rfl | (dsimp only; omega))) | (refine Or.inr (Or.inr ?_); (try dsimp only); (try simp only [World.size_alloc, World.size_setCell]); omega))
        replace hO := helBack hO (by first | (refine Or.inl ⟨?_, ?_, ?_⟩ <;> (first | rfl | (dsimp only; omega))) | (refine Or.inr (Or.inl ⟨?_, ?_⟩) <;> (first | rfl | (dsimp only; omega))) | (refine Or.inr (Or.inr ?_); (try dsimp only); (try simp only [World.size_alloc, World.size_setCell]); omega))
        obtain ⟨hOc, hOf, hOz⟩ := helEnd hO
        clear hO
        have hlu : w.heap.size < w3.heap.size ∧ w.heap.size + 1 < w3.heap.size ∧ w1.heap.size < w3.heap.size ∧ wg.heap.size < w3.heap.size := (by refine ⟨?_, ?_, ?_, ?_⟩ <;> omega)
        go_wp2_with fail
        rw [rounds_succ]
        go_wp2_with fail
        go_region
        all_goals go_wp2_with fail
        all_goals
          refine bodyPost_ret (v := .tuple #[.agg #[.int .i64 (nrmV a).lo, .int .i64 (nrmV a).hi], .int .i64 (nrmV a).e]) ?_ rfl ⟨rfl, ?_⟩
          · (try simp only [bne_eq_false_iff_eq] at *)
            simp [results, Try.results17, go_sem, nrmV, nrmI, nrm3, nrm2, nrm1, nrm0, *]
          · refine ExtP.out (p := w1.heap.size) (k := 4) ?_ (by omega)
            (repeat (first | with_reducible refine ExtP.set ?_ | (with_reducible refine ExtP.store ?_ ?_; rotate_left; (focus ((try simp only []); omega))) | with_reducible refine ExtP.ext ?_ ((Ext.refl _).alloc _) | with_reducible refine ExtP.ext ?_ ((Ext.refl _).drew) | with_reducible assumption | with_reducible exact ExtP.of _ _ (Ext.refl w) | with_reducible refine ExtP.ext ?_ (by with_reducible assumption)))

end Go.Proofs.Ytomgcjeahkmhiaa
