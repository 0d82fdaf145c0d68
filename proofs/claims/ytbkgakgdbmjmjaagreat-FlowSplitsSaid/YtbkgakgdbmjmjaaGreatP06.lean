/- sphere: the product, the square. -/
import Derived.Test.YtbkgakgdbmjmjaaGreatP05
set_option linter.unusedSimpArgs false
set_option linter.unusedVariables false
set_option maxRecDepth 100000
set_option maxHeartbeats 4000000
namespace Go.Proofs.YtbkgakgdbmjmjaaGreat
open Go.RowKit
theorem T_SphD_3 {p : Prop} (h : p := by
 refine hK.out _ _ ?_ fun _ => ?_
 ·exact T_SphD_2
 clear hK K hH
 rename_i hH
 try simp only [Act.put, List.setIfInBounds_toArray, List.set_cons_zero, List.set_cons_succ]
 refine rh1 17 rfl fun K hK => ?_
 go_simp
 (go_at_call 110; (try simp only [hod0, hod1, hog00, hog01]); (with_reducible refine (d_add w1.heap.size (r3.e) r2.lo r2.hi r3.lo r3.hi _ c_1 c_61).mono ?_); (generalize hr4 : doI (r3.e) (addI r2.lo r2.hi r3.lo r3.hi) = r4); rintro e w3 ⟨rfl, hb1⟩; have hz1 := hb1.size; (try simp only [World.size_setCell] at hz1); obtain ⟨hg1, hh1⟩ := hb1.got (u := .int .i64 (r3.e)) c_1; have hob1 := obx_of hg1; (try simp only [frozen_drew] at hh1))
 refine hK.out _ _ ?_ fun _ => ?_
 ·exact T_SphD_2
 clear hK K hH
 rename_i hH
 try simp only [Act.put, List.setIfInBounds_toArray, List.set_cons_zero, List.set_cons_succ]
 refine rh1 18 rfl fun K hK => ?_
 go_simp
 refine hK.out _ _ ?_ fun _ => ?_
 ·exact T_SphD_2
 clear hK K hH
 rename_i hH
 try simp only [Act.put, List.setIfInBounds_toArray, List.set_cons_zero, List.set_cons_succ]
 refine wpAnyH_done c_16 ?_ _
 have hOld := hH
 clear hH
 have hE := hOld.2.2.2
 have hO := And.intro hOld.1 (And.intro hOld.2.1 hOld.2.2.1)
 clear hOld
 replace hO := helBack hO c_6
 replace hO := helBack hO c_6
 obtain ⟨hOc, hOf, hOz⟩ := helEnd hO
 clear hO
 have hlu := q_0 w.heap.size w3.heap.size (w.heap.size + 1) w1.heap.size wg.heap.size
 go_wp2_with fail
 rw [rounds_succ]
 go_wp2_with fail
 go_region
 all_goals go_wp2_with fail
 all_goals
  refine bodyPost_ret (v := .tuple #[.agg #[.int .i64 (nrmV a).lo, .int .i64 (nrmV a).hi], .int .i64 (nrmV a).e]) ?_ rfl ⟨rfl, ?_⟩
  ·(try simp only [bne_eq_false_iff_eq] at *)
   simp [results, Tryz.results135, go_sem, nrmV, nrmI, nrm3, nrm2, nrm1, nrm0, *]
  ·refine ExtP.out (p := w1.heap.size) (k := 4) ?_ (by omega)
   (repeat (first | with_reducible refine ExtP.set ?_ | (with_reducible refine ExtP.store ?_ ?_; rotate_left; (focus ((try simp only []); omega))) | with_reducible refine ExtP.ext ?_ ((Ext.refl _).alloc _) | with_reducible refine ExtP.ext ?_ ((Ext.refl _).drew) | with_reducible assumption | with_reducible exact ExtP.of _ _ (Ext.refl w) | with_reducible refine ExtP.ext ?_ c_9))) : p := h
theorem T_SphD_2 {p : Prop} (h : p := by
 (try dsimp only); (first | (with_reducible exact hel0 hWe) | (with_reducible exact hel1p c_9 c_9) | (with_reducible exact hel1 c_9 c_9) | (with_reducible exact hel3d c_9) | (with_reducible exact hel3 c_9) | ((with_reducible refine hel4 c_9 ?_ ?_) <;> omega) | (repeat (first | (with_reducible assumption) | (with_reducible refine hel2 ?_ c_6 c_59))))) : p := h
theorem T_SphD_1 {p : Prop} (h : p := by
 refine hK.out _ _ ?_ fun _ => ?_
 ·exact T_SphD_2
 clear hK K hH
 rename_i hH
 try simp only [Act.put, List.setIfInBounds_toArray, List.set_cons_zero, List.set_cons_succ]
 refine rh1 17 rfl fun K hK => ?_
 go_simp
 (go_at_call 110; (try simp only [hod0, hod1, hog00, hog01]); (with_reducible refine (d_add w1.heap.size (r1.e) r0.lo r0.hi r1.lo r1.hi _ c_1 c_61).mono ?_); (generalize hr2 : doI (r1.e) (addI r0.lo r0.hi r1.lo r1.hi) = r2); rintro e w3 ⟨rfl, hb1⟩; have hz1 := hb1.size; (try simp only [World.size_setCell] at hz1); obtain ⟨hg1, hh1⟩ := hb1.got (u := .int .i64 (r1.e)) c_1; have hob1 := obx_of hg1; (try simp only [frozen_drew] at hh1))
 refine hK.out _ _ ?_ fun _ => ?_
 ·exact T_SphD_2
 clear hK K hH
 rename_i hH
 try simp only [Act.put, List.setIfInBounds_toArray, List.set_cons_zero, List.set_cons_succ]
 refine rh1 18 rfl fun K hK => ?_
 go_simp
 refine hK.out _ _ ?_ fun _ => ?_
 ·exact T_SphD_2
 clear hK K hH
 rename_i hH
 try simp only [Act.put, List.setIfInBounds_toArray, List.set_cons_zero, List.set_cons_succ]
 refine wpAnyH_done c_16 ?_ _
 have hOld := hH
 clear hH
 have hE := hOld.2.2.2
 have hO := And.intro hOld.1 (And.intro hOld.2.1 hOld.2.2.1)
 clear hOld
 replace hO := helBack hO c_6
 replace hO := helBack hO c_6
 obtain ⟨hOc, hOf, hOz⟩ := helEnd hO
 clear hO
 have hlu := q_0 w.heap.size w3.heap.size (w.heap.size + 1) w1.heap.size wg.heap.size
 go_wp2_with fail
 rw [rounds_succ]
 go_wp2_with fail
 refine wp_name fun W hW => ?_
 obtain ⟨hWc, hWf, hWz⟩ := hW.cells
 have hWe : ExtP w w1.heap.size 4 W := ExtP.same hW c_14
 (try simp only [World.size_setCell] at hWz)
 replace hWz := And.intro (Nat.le_of_eq hWz) (Nat.le_of_eq hWz.symm)
 have hlt := q_0 w.heap.size W.heap.size (w.heap.size + 1) w1.heap.size wg.heap.size
 have hd := q_17 w.heap.size (w.heap.size + 1) w1.heap.size wg.heap.size
 have hod0 : ∀ x, obx W.drew wg.heap.size 0 x = (.int .i64 r2.lo : Value) := obx_of (show W.drew.cell? ⟨wg.heap.size, 0, none⟩ = some (.int .i64 r2.lo : Value) from by (try simp only [cell_drew]); simp [go_sem, *])
 have hod1 : ∀ x, obx W.drew wg.heap.size 1 x = (.int .i64 r2.hi : Value) := obx_of (show W.drew.cell? ⟨wg.heap.size, 1, none⟩ = some (.int .i64 r2.hi : Value) from by (try simp only [cell_drew]); simp [go_sem, *])
 refine wp_region_held_drew (S := (fun w' => (∀ b o, b < W.heap.size → w'.cell? ⟨b, o, none⟩ = if b = wg.heap.size ∧ 0 ≤ o ∧ o < 2 ∨ b = w1.heap.size ∧ o = 4 then (W.cell? ⟨b, o, none⟩).map (obx w' b o) else W.cell? ⟨b, o, none⟩) ∧ (∀ b o, b < W.heap.size → w'.frozen? ⟨b, o, none⟩ = W.frozen? ⟨b, o, none⟩) ∧ W.heap.size ≤ w'.heap.size ∧ ExtP w w1.heap.size 4 w')) c_16 ?_ (fun hH => ?_)
 ·exact T_SphD_2
 refine tk 0 rfl c_11 ?_
 try simp only [Act.put, List.setIfInBounds_toArray]
 refine tk 1 rfl c_11 ?_
 try simp only [Act.put]
 refine tk 2 rfl c_11 ?_
 try simp only [Act.put]
 refine tk 3 rfl c_11 ?_
 try simp only [Act.put]
 refine tk 4 rfl c_11 ?_
 try simp only [Act.put]
 refine tk 6 rfl c_11 ?_
 try simp only [Act.put]
 refine tk 7 rfl c_11 ?_
 try simp only [Act.put]
 refine tk 8 rfl c_11 ?_
 try simp only [Act.put]
 refine tk 9 rfl c_11 ?_
 try simp only [Act.put]
 refine tk 10 rfl c_11 ?_
 try simp only [Act.put]
 refine tk 11 rfl c_11 ?_
 try simp only [Act.put]
 refine tk 12 rfl c_11 ?_
 try simp only [Act.put]
 refine tk 13 rfl c_11 ?_
 try simp only [Act.put]
 refine tk 14 rfl c_11 ?_
 try simp only [Act.put]
 refine tk 15 rfl c_11 ?_
 try simp only [Act.put]
 refine wpAnyH_ready (rs := [5, 16]) c_16 (by simp) ?_
 refine AllReadyH.cons (o := _) rfl (fun K hK => ?_) ?_
 ·go_simp
  refine hK.out _ _ ?_ fun _ => ?_
  ·exact T_SphD_2
  clear hK K hH
  rename_i hH
  try simp only [Act.put, List.setIfInBounds_toArray, List.set_cons_zero, List.set_cons_succ]
  refine rh1 16 rfl fun K hK => ?_
  go_simp
  (go_at_call 110; (with_reducible refine (d_sq w1.heap.size (r2.e) a.e a.f a.e a.f _ c_17 c_29 ha3).mono ?_); (generalize hr3 : doI (r2.e) (sqI a.e a.f) = r3); rintro e w2 ⟨rfl, hb0⟩; have hz0 := hb0.size; (try simp only [size_drew, World.size_setCell] at hz0); obtain ⟨hg0, hh0⟩ := hb0.got (u := .int .i64 (r2.e)) c_17; have hob0 := obx_of hg0; (try simp only [frozen_drew] at hh0); (have hog00 := obx_of ((hb0.cells.1 wg.heap.size 0 c_43).trans (show _ = some (.int .i64 r2.lo) from by (try simp only [cell_sc, cell_drew]); simp [go_sem, *]))); (have hog01 := obx_of ((hb0.cells.1 wg.heap.size 1 c_43).trans (show _ = some (.int .i64 r2.hi) from by (try simp only [cell_sc, cell_drew]); simp [go_sem, *]))))
  exact T_SphD_3
 refine rd1 rfl fun K hK => ?_
 ·go_simp
  (go_at_call 110; (with_reducible refine (d_sq w1.heap.size (r2.e) a.e a.f a.e a.f _ c_17 c_29 ha3).mono ?_); (generalize hr3 : doI (r2.e) (sqI a.e a.f) = r3); rintro e w2 ⟨rfl, hb0⟩; have hz0 := hb0.size; (try simp only [size_drew, World.size_setCell] at hz0); obtain ⟨hg0, hh0⟩ := hb0.got (u := .int .i64 (r2.e)) c_17; have hob0 := obx_of hg0; (try simp only [frozen_drew] at hh0); (have hog00 := obx_of ((hb0.cells.1 wg.heap.size 0 c_43).trans (show _ = some (.int .i64 r2.lo) from by (try simp only [cell_sc, cell_drew]); simp [go_sem, *]))); (have hog01 := obx_of ((hb0.cells.1 wg.heap.size 1 c_43).trans (show _ = some (.int .i64 r2.hi) from by (try simp only [cell_sc, cell_drew]); simp [go_sem, *]))))
  refine hK.out _ _ ?_ fun _ => ?_
  ·exact T_SphD_2
  clear hK K hH
  rename_i hH
  try simp only [Act.put, List.setIfInBounds_toArray, List.set_cons_zero, List.set_cons_succ]
  refine rh1 5 rfl fun K hK => ?_
  go_simp
  exact T_SphD_3) : p := h
theorem p_nrm (a : V3) (w : World) (ha : a.I) :
    Calls Tryz.prog 135 #[.agg #[.int .i64 a.a, .int .i64 a.b, .int .i64 a.c, .int .i64 a.d, .int .i64 a.e, .int .i64 a.f]] w fun e w' => e = .returned (.tuple #[.agg #[.int .i64 (nrmV a).lo, .int .i64 (nrmV a).hi], .int .i64 (nrmV a).e]) ∧ Ext w w' := by
 obtain ⟨ha1, ha2, ha3⟩ := ha
 have l0 : IntKind.i64.wrap 0 = 0 := rfl
 have l1 : IntKind.i64.wrap 1 = 1 := rfl
 have l2 : IntKind.i64.wrap 2 = 2 := rfl
 have l3 : IntKind.i64.wrap 3 = 3 := rfl
 go_enter Tryz.func135, Tryz.ntmps135
 go_wp2_with (first | (go_at_call 77; (with_reducible refine (s_check a _).mono ?_); rintro e w1 ⟨rfl, hb⟩; obtain ⟨_, _, ⟨hc, hf⟩, hz⟩ := hb.c3; (try simp only [World.size_alloc] at hz hc hf); (try have zz := q_7 w.heap.size w1.heap.size); (try have zz := q_7 (w.heap.size + 1) w1.heap.size)) | (go_at_call 64; (with_reducible refine (s_begin _).mono ?_); rintro e w2 ⟨rfl, rfl⟩) | (go_at_call 110; (with_reducible refine (d_sq w1.heap.size (0) a.a a.b a.a a.b _ c_54 c_54 ha1).mono ?_); (generalize hr0 : doI (0) (sqI a.a a.b) = r0); rintro e wg ⟨rfl, hb⟩; obtain ⟨_, _, ⟨hc, hf⟩, hz⟩ := hb.c3; (try simp only [wsz] at hz hc hf)))
 ·-- the error
  refine bodyPost_ret (v := .tuple #[.agg #[.int .i64 (nrmV a).lo, .int .i64 (nrmV a).hi], .int .i64 (nrmV a).e]) ?_ rfl ⟨rfl, ?_⟩
  ·(try simp only [bne_iff_ne, ne_eq] at *)
   simp [results, Tryz.results135, go_sem, nrmV, *]
  ·exact b_7
 ·-- the sum
  refine wp_loop_rounds 3 ?_
  rw [rounds_succ]
  go_wp2_with fail
  refine wp_name fun W hW => ?_
  obtain ⟨hWc, hWf, hWz⟩ := hW.cells
  have hWe : ExtP w w1.heap.size 4 W := ExtP.same hW c_24
  (try simp only [World.size_alloc] at hWz)
  replace hWz := And.intro (Nat.le_of_eq hWz) (Nat.le_of_eq hWz.symm)
  have hlt := q_0 w.heap.size W.heap.size (w.heap.size + 1) w1.heap.size wg.heap.size
  have hd := q_17 w.heap.size (w.heap.size + 1) w1.heap.size wg.heap.size
  have hod0 : ∀ x, obx W.drew wg.heap.size 0 x = (.int .i64 r0.lo : Value) := obx_of (show W.drew.cell? ⟨wg.heap.size, 0, none⟩ = some (.int .i64 r0.lo : Value) from by (try simp only [cell_drew]); simp [go_sem, *])
  have hod1 : ∀ x, obx W.drew wg.heap.size 1 x = (.int .i64 r0.hi : Value) := obx_of (show W.drew.cell? ⟨wg.heap.size, 1, none⟩ = some (.int .i64 r0.hi : Value) from by (try simp only [cell_drew]); simp [go_sem, *])
  refine wp_region_held_drew (S := (fun w' => (∀ b o, b < W.heap.size → w'.cell? ⟨b, o, none⟩ = if b = wg.heap.size ∧ 0 ≤ o ∧ o < 2 ∨ b = w1.heap.size ∧ o = 4 then (W.cell? ⟨b, o, none⟩).map (obx w' b o) else W.cell? ⟨b, o, none⟩) ∧ (∀ b o, b < W.heap.size → w'.frozen? ⟨b, o, none⟩ = W.frozen? ⟨b, o, none⟩) ∧ W.heap.size ≤ w'.heap.size ∧ ExtP w w1.heap.size 4 w')) c_16 ?_ (fun hH => ?_)
  ·exact T_SphD_2
  refine tk 0 rfl c_11 ?_
  try simp only [Act.put, List.setIfInBounds_toArray]
  refine tk 1 rfl c_11 ?_
  try simp only [Act.put]
  refine tk 2 rfl c_11 ?_
  try simp only [Act.put]
  refine tk 3 rfl c_11 ?_
  try simp only [Act.put]
  refine tk 4 rfl c_11 ?_
  try simp only [Act.put]
  refine tk 6 rfl c_11 ?_
  try simp only [Act.put]
  refine tk 7 rfl c_11 ?_
  try simp only [Act.put]
  refine tk 8 rfl c_11 ?_
  try simp only [Act.put]
  refine tk 9 rfl c_11 ?_
  try simp only [Act.put]
  refine tk 10 rfl c_11 ?_
  try simp only [Act.put]
  refine tk 11 rfl c_11 ?_
  try simp only [Act.put]
  refine tk 12 rfl c_11 ?_
  try simp only [Act.put]
  refine tk 13 rfl c_11 ?_
  try simp only [Act.put]
  refine tk 14 rfl c_11 ?_
  try simp only [Act.put]
  refine tk 15 rfl c_11 ?_
  try simp only [Act.put]
  refine wpAnyH_ready (rs := [5, 16]) c_16 (by simp) ?_
  refine AllReadyH.cons (o := _) rfl (fun K hK => ?_) ?_
  ·go_simp
   refine hK.out _ _ ?_ fun _ => ?_
   ·exact T_SphD_2
   clear hK K hH
   rename_i hH
   try simp only [Act.put, List.setIfInBounds_toArray, List.set_cons_zero, List.set_cons_succ]
   refine rh1 16 rfl fun K hK => ?_
   go_simp
   (go_at_call 110; (with_reducible refine (d_sq w1.heap.size (r0.e) a.c a.d a.c a.d _ c_17 c_29 ha2).mono ?_); (generalize hr1 : doI (r0.e) (sqI a.c a.d) = r1); rintro e w2 ⟨rfl, hb0⟩; have hz0 := hb0.size; (try simp only [size_drew, World.size_setCell] at hz0); obtain ⟨hg0, hh0⟩ := hb0.got (u := .int .i64 (r0.e)) c_17; have hob0 := obx_of hg0; (try simp only [frozen_drew] at hh0); (have hog00 := obx_of ((hb0.cells.1 wg.heap.size 0 c_43).trans (show _ = some (.int .i64 r0.lo) from by (try simp only [cell_sc, cell_drew]); simp [go_sem, *]))); (have hog01 := obx_of ((hb0.cells.1 wg.heap.size 1 c_43).trans (show _ = some (.int .i64 r0.hi) from by (try simp only [cell_sc, cell_drew]); simp [go_sem, *]))))
   exact T_SphD_1
  refine rd1 rfl fun K hK => ?_
  ·go_simp
   (go_at_call 110; (with_reducible refine (d_sq w1.heap.size (r0.e) a.c a.d a.c a.d _ c_17 c_29 ha2).mono ?_); (generalize hr1 : doI (r0.e) (sqI a.c a.d) = r1); rintro e w2 ⟨rfl, hb0⟩; have hz0 := hb0.size; (try simp only [size_drew, World.size_setCell] at hz0); obtain ⟨hg0, hh0⟩ := hb0.got (u := .int .i64 (r0.e)) c_17; have hob0 := obx_of hg0; (try simp only [frozen_drew] at hh0); (have hog00 := obx_of ((hb0.cells.1 wg.heap.size 0 c_43).trans (show _ = some (.int .i64 r0.lo) from by (try simp only [cell_sc, cell_drew]); simp [go_sem, *]))); (have hog01 := obx_of ((hb0.cells.1 wg.heap.size 1 c_43).trans (show _ = some (.int .i64 r0.hi) from by (try simp only [cell_sc, cell_drew]); simp [go_sem, *]))))
   refine hK.out _ _ ?_ fun _ => ?_
   ·exact T_SphD_2
   clear hK K hH
   rename_i hH
   try simp only [Act.put, List.setIfInBounds_toArray, List.set_cons_zero, List.set_cons_succ]
   refine rh1 5 rfl fun K hK => ?_
   go_simp
   exact T_SphD_1
theorem hew0 {w W : World} {P k : Nat} {wr : Nat → Nat → Prop} {dw : ∀ b o, Decidable (wr b o)} (hw : ExtP w P k W) :
    (∀ b o, b < W.heap.size → (W.drew).cell? ⟨b, o, none⟩ = if wr b o then (W.cell? ⟨b, o, none⟩).map (obx (W.drew) b o) else W.cell? ⟨b, o, none⟩) ∧ (∀ b o, b < W.heap.size → (W.drew).frozen? ⟨b, o, none⟩ = W.frozen? ⟨b, o, none⟩) ∧ W.heap.size ≤ (W.drew).heap.size ∧ ExtP w P k (W.drew) := by
 refine ⟨fun b o _ => ?_, fun _ _ _ => rfl, Nat.le_refl _, hw.ext ((Ext.refl _).drew)⟩
 show W.cell? ⟨b, o, none⟩ = _
 split
 ·cases h : W.cell? ⟨b, o, none⟩ with
  | none => rfl
  | some x => simp [obx, show W.drew.cell? ⟨b, o, none⟩ = W.cell? ⟨b, o, none⟩ from rfl, h]
 ·rfl
theorem hew1 {w W w' w1 : World} {P k : Nat} {wr : Nat → Nat → Prop} {dw : ∀ b o, Decidable (wr b o)} (h : (∀ b o, b < W.heap.size → (w').cell? ⟨b, o, none⟩ = if wr b o then (W.cell? ⟨b, o, none⟩).map (obx (w') b o) else W.cell? ⟨b, o, none⟩) ∧ (∀ b o, b < W.heap.size → (w').frozen? ⟨b, o, none⟩ = W.frozen? ⟨b, o, none⟩) ∧ W.heap.size ≤ (w').heap.size ∧ ExtP w P k (w'))
    (hb : Ext w' w1) : (∀ b o, b < W.heap.size → (w1).cell? ⟨b, o, none⟩ = if wr b o then (W.cell? ⟨b, o, none⟩).map (obx (w1) b o) else W.cell? ⟨b, o, none⟩) ∧ (∀ b o, b < W.heap.size → (w1).frozen? ⟨b, o, none⟩ = W.frozen? ⟨b, o, none⟩) ∧ W.heap.size ≤ (w1).heap.size ∧ ExtP w P k (w1) := by
 obtain ⟨h1, h2, h3, h4⟩ := h
 refine ⟨fun b o hc => ?_, fun b o hc => ?_, Nat.le_trans h3 hb.size, h4.ext hb⟩
 ·have e : w1.cell? ⟨b, o, none⟩ = w'.cell? ⟨b, o, none⟩ := Below.cell hb (p := ⟨b, o, none⟩) (Nat.lt_of_lt_of_le hc h3)
  rw [e, h1 b o hc]
  split
  ·congr 1
   funext x
   simp only [obx, e]
  ·rfl
 ·exact b_0
theorem hew2a {W w' : World} {wr : Nat → Nat → Prop} {dw : ∀ b o, Decidable (wr b o)} {p : Addr} {v : Value}
    (h : (∀ b o, b < W.heap.size → (w').cell? ⟨b, o, none⟩ = if wr b o then (W.cell? ⟨b, o, none⟩).map (obx (w') b o) else W.cell? ⟨b, o, none⟩) ∧ (∀ b o, b < W.heap.size → (w').frozen? ⟨b, o, none⟩ = W.frozen? ⟨b, o, none⟩) ∧ W.heap.size ≤ (w').heap.size)
    (hp : wr p.block p.off ∨ W.heap.size ≤ p.block) :
    (∀ b o, b < W.heap.size → (w'.setCell p v).cell? ⟨b, o, none⟩ = if wr b o then (W.cell? ⟨b, o, none⟩).map (obx (w'.setCell p v) b o) else W.cell? ⟨b, o, none⟩) ∧ (∀ b o, b < W.heap.size → (w'.setCell p v).frozen? ⟨b, o, none⟩ = W.frozen? ⟨b, o, none⟩) ∧ W.heap.size ≤ (w'.setCell p v).heap.size := by
 obtain ⟨h1, h2, h3⟩ := h
 refine ⟨fun b o hc => ?_, fun b o hc => ?_, by simpa using h3⟩
 ·have h1' := h1 b o hc
  by_cases he : (⟨b, o, none⟩ : Addr) = p
  ·have hr : wr b o := by
    rcases hp with hp | hp
    ·rw [← he] at hp; exact hp
    ·exact b_1
   rw [if_pos hr] at h1' ⊢
   cases hx : W.cell? ⟨b, o, none⟩ with
   | none =>
    rw [hx] at h1'
    simp only [Option.map_none] at h1' ⊢
    rw [cell_sc, if_pos he, ← he, h1']; rfl
   | some x =>
    rw [hx] at h1'
    simp only [Option.map_some] at h1' ⊢
    have hs : (w'.setCell p v).cell? ⟨b, o, none⟩ = some v := by
     rw [cell_sc, if_pos he, ← he, h1']; rfl
    simp only [obx, hs, Option.getD_some]
  ·have e : (w'.setCell p v).cell? ⟨b, o, none⟩ = w'.cell? ⟨b, o, none⟩ := by rw [cell_sc, if_neg he]
   rw [e, h1']
   split
   ·congr 1
    funext x
    simp only [obx, e]
   ·rfl
 ·rw [World.frozen?_setCell, h2 b o hc]
theorem hew2 {w W w' : World} {P k : Nat} {wr : Nat → Nat → Prop} {dw : ∀ b o, Decidable (wr b o)} {p : Addr} {v : Value}
    (h : (∀ b o, b < W.heap.size → (w').cell? ⟨b, o, none⟩ = if wr b o then (W.cell? ⟨b, o, none⟩).map (obx (w') b o) else W.cell? ⟨b, o, none⟩) ∧ (∀ b o, b < W.heap.size → (w').frozen? ⟨b, o, none⟩ = W.frozen? ⟨b, o, none⟩) ∧ W.heap.size ≤ (w').heap.size ∧ ExtP w P k (w'))
    (hp : wr p.block p.off ∨ W.heap.size ≤ p.block) (hw : w.heap.size ≤ p.block) :
    (∀ b o, b < W.heap.size → (w'.setCell p v).cell? ⟨b, o, none⟩ = if wr b o then (W.cell? ⟨b, o, none⟩).map (obx (w'.setCell p v) b o) else W.cell? ⟨b, o, none⟩) ∧ (∀ b o, b < W.heap.size → (w'.setCell p v).frozen? ⟨b, o, none⟩ = W.frozen? ⟨b, o, none⟩) ∧ W.heap.size ≤ (w'.setCell p v).heap.size ∧ ExtP w P k (w'.setCell p v) := by
 obtain ⟨h1, h2, h3, h4⟩ := h
 have g := hew2a (v := v) ⟨h1, h2, h3⟩ hp
 exact ⟨g.1, g.2.1, g.2.2, h4.store hw⟩
theorem hew2p {w W w' : World} {P k : Nat} {wr : Nat → Nat → Prop} {dw : ∀ b o, Decidable (wr b o)} {v : Value}
    (h : (∀ b o, b < W.heap.size → (w').cell? ⟨b, o, none⟩ = if wr b o then (W.cell? ⟨b, o, none⟩).map (obx (w') b o) else W.cell? ⟨b, o, none⟩) ∧ (∀ b o, b < W.heap.size → (w').frozen? ⟨b, o, none⟩ = W.frozen? ⟨b, o, none⟩) ∧ W.heap.size ≤ (w').heap.size ∧ ExtP w P k (w')) (hpk : wr P k) :
    (∀ b o, b < W.heap.size → (w'.setCell ⟨P, k, none⟩ v).cell? ⟨b, o, none⟩ = if wr b o then (W.cell? ⟨b, o, none⟩).map (obx (w'.setCell ⟨P, k, none⟩ v) b o) else W.cell? ⟨b, o, none⟩) ∧ (∀ b o, b < W.heap.size → (w'.setCell ⟨P, k, none⟩ v).frozen? ⟨b, o, none⟩ = W.frozen? ⟨b, o, none⟩) ∧ W.heap.size ≤ (w'.setCell ⟨P, k, none⟩ v).heap.size ∧ ExtP w P k (w'.setCell ⟨P, k, none⟩ v) := by
 obtain ⟨h1, h2, h3, h4⟩ := h
 have g := hew2a (p := ⟨P, k, none⟩) (v := v) ⟨h1, h2, h3⟩ (Or.inl hpk)
 exact ⟨g.1, g.2.1, g.2.2, h4.set⟩
theorem hew1p {w W w' w1 : World} {P k : Nat} {wr : Nat → Nat → Prop} {dw : ∀ b o, Decidable (wr b o)} {v : Value} (h : (∀ b o, b < W.heap.size → (w').cell? ⟨b, o, none⟩ = if wr b o then (W.cell? ⟨b, o, none⟩).map (obx (w') b o) else W.cell? ⟨b, o, none⟩) ∧ (∀ b o, b < W.heap.size → (w').frozen? ⟨b, o, none⟩ = W.frozen? ⟨b, o, none⟩) ∧ W.heap.size ≤ (w').heap.size ∧ ExtP w P k (w'))
    (hpk : wr P k) (hb : Ext (w'.setCell ⟨P, k, none⟩ v) w1) : (∀ b o, b < W.heap.size → (w1).cell? ⟨b, o, none⟩ = if wr b o then (W.cell? ⟨b, o, none⟩).map (obx (w1) b o) else W.cell? ⟨b, o, none⟩) ∧ (∀ b o, b < W.heap.size → (w1).frozen? ⟨b, o, none⟩ = W.frozen? ⟨b, o, none⟩) ∧ W.heap.size ≤ (w1).heap.size ∧ ExtP w P k (w1) := hew1 (hew2p h hpk) hb
theorem hew3 {w W w' : World} {P k : Nat} {wr : Nat → Nat → Prop} {dw : ∀ b o, Decidable (wr b o)} {ob : Obj} (h : (∀ b o, b < W.heap.size → (w').cell? ⟨b, o, none⟩ = if wr b o then (W.cell? ⟨b, o, none⟩).map (obx (w') b o) else W.cell? ⟨b, o, none⟩) ∧ (∀ b o, b < W.heap.size → (w').frozen? ⟨b, o, none⟩ = W.frozen? ⟨b, o, none⟩) ∧ W.heap.size ≤ (w').heap.size ∧ ExtP w P k (w')) :
    (∀ b o, b < W.heap.size → (w'.alloc ob).cell? ⟨b, o, none⟩ = if wr b o then (W.cell? ⟨b, o, none⟩).map (obx (w'.alloc ob) b o) else W.cell? ⟨b, o, none⟩) ∧ (∀ b o, b < W.heap.size → (w'.alloc ob).frozen? ⟨b, o, none⟩ = W.frozen? ⟨b, o, none⟩) ∧ W.heap.size ≤ (w'.alloc ob).heap.size ∧ ExtP w P k (w'.alloc ob) := hew1 h ((Ext.refl _).alloc _)
theorem hew3d {w W w' : World} {P k : Nat} {wr : Nat → Nat → Prop} {dw : ∀ b o, Decidable (wr b o)} {ob : Obj} (h : (∀ b o, b < W.heap.size → (w'.drew).cell? ⟨b, o, none⟩ = if wr b o then (W.cell? ⟨b, o, none⟩).map (obx (w'.drew) b o) else W.cell? ⟨b, o, none⟩) ∧ (∀ b o, b < W.heap.size → (w'.drew).frozen? ⟨b, o, none⟩ = W.frozen? ⟨b, o, none⟩) ∧ W.heap.size ≤ (w'.drew).heap.size ∧ ExtP w P k (w'.drew)) :
    (∀ b o, b < W.heap.size → ((w'.alloc ob).drew).cell? ⟨b, o, none⟩ = if wr b o then (W.cell? ⟨b, o, none⟩).map (obx ((w'.alloc ob).drew) b o) else W.cell? ⟨b, o, none⟩) ∧ (∀ b o, b < W.heap.size → ((w'.alloc ob).drew).frozen? ⟨b, o, none⟩ = W.frozen? ⟨b, o, none⟩) ∧ W.heap.size ≤ ((w'.alloc ob).drew).heap.size ∧ ExtP w P k ((w'.alloc ob).drew) := hew3 (w' := w'.drew) h
theorem hewBack {W w' : World} {wr : Nat → Nat → Prop} {dw : ∀ b o, Decidable (wr b o)} {p : Addr} {v : Value}
    (h : (∀ b o, b < W.heap.size → (w'.setCell p v).cell? ⟨b, o, none⟩ = if wr b o then (W.cell? ⟨b, o, none⟩).map (obx (w'.setCell p v) b o) else W.cell? ⟨b, o, none⟩) ∧ (∀ b o, b < W.heap.size → (w'.setCell p v).frozen? ⟨b, o, none⟩ = W.frozen? ⟨b, o, none⟩) ∧ W.heap.size ≤ (w'.setCell p v).heap.size)
    (hp : wr p.block p.off ∨ W.heap.size ≤ p.block) :
    (∀ b o, b < W.heap.size → (w').cell? ⟨b, o, none⟩ = if wr b o then (W.cell? ⟨b, o, none⟩).map (obx (w') b o) else W.cell? ⟨b, o, none⟩) ∧ (∀ b o, b < W.heap.size → (w').frozen? ⟨b, o, none⟩ = W.frozen? ⟨b, o, none⟩) ∧ W.heap.size ≤ (w').heap.size := by
 obtain ⟨h1, h2, h3⟩ := h
 refine ⟨fun b o hc => ?_, fun b o hc => ?_, by simpa using h3⟩
 ·have h1' := h1 b o hc
  rw [cell_sc] at h1'
  split at h1'
  ·rename_i he
   have hr : wr b o := by
    rcases hp with hp | hp
    ·rw [← he] at hp; exact hp
    ·exact b_1
   rw [if_pos hr] at h1' ⊢
   rw [← he] at h1'
   cases hx : W.cell? ⟨b, o, none⟩ with
   | none => rw [hx] at h1'; simpa using h1'
   | some x =>
    rw [hx] at h1'
    cases hy : w'.cell? ⟨b, o, none⟩ with
    | none => rw [hy] at h1'; simp at h1'
    | some y => simp [obx, hy]
  ·rename_i he
   have e : (w'.setCell p v).cell? ⟨b, o, none⟩ = w'.cell? ⟨b, o, none⟩ := by rw [cell_sc, if_neg he]
   rw [h1']
   split
   ·congr 1
    funext x
    simp only [obx, e]
   ·rfl
 ·have h2' := h2 b o hc
  rw [World.frozen?_setCell] at h2'
  exact h2'
theorem hewBackA {W w' : World} {wr : Nat → Nat → Prop} {dw : ∀ b o, Decidable (wr b o)} {ob : Obj}
    (h : (∀ b o, b < W.heap.size → (w'.alloc ob).cell? ⟨b, o, none⟩ = if wr b o then (W.cell? ⟨b, o, none⟩).map (obx (w'.alloc ob) b o) else W.cell? ⟨b, o, none⟩) ∧ (∀ b o, b < W.heap.size → (w'.alloc ob).frozen? ⟨b, o, none⟩ = W.frozen? ⟨b, o, none⟩) ∧ W.heap.size ≤ (w'.alloc ob).heap.size)
    (hz : W.heap.size ≤ w'.heap.size) :
    (∀ b o, b < W.heap.size → (w').cell? ⟨b, o, none⟩ = if wr b o then (W.cell? ⟨b, o, none⟩).map (obx (w') b o) else W.cell? ⟨b, o, none⟩) ∧ (∀ b o, b < W.heap.size → (w').frozen? ⟨b, o, none⟩ = W.frozen? ⟨b, o, none⟩) ∧ W.heap.size ≤ (w').heap.size := by
 obtain ⟨h1, h2, h3⟩ := h
 refine ⟨fun b o hc => ?_, fun b o hc => ?_, hz⟩
 ·have e : (w'.alloc ob).cell? ⟨b, o, none⟩ = w'.cell? ⟨b, o, none⟩ := Below.cell ((Ext.refl w').alloc ob) (p := ⟨b, o, none⟩) (Nat.lt_of_lt_of_le hc hz)
  rw [← e, h1 b o hc]
  split
  ·congr 1
   funext x
   simp only [obx, e]
  ·rfl
 ·have e : (w'.alloc ob).frozen? ⟨b, o, none⟩ = w'.frozen? ⟨b, o, none⟩ := Below.frozen ((Ext.refl w').alloc ob) (p := ⟨b, o, none⟩) (Nat.lt_of_lt_of_le hc hz)
  rw [← e, h2 b o hc]
theorem hew4 {w W w' : World} {P k : Nat} {wr : Nat → Nat → Prop} {dw : ∀ b o, Decidable (wr b o)} {ob ob' : Obj} (h : (∀ b o, b < W.heap.size → (w'.alloc ob).cell? ⟨b, o, none⟩ = if wr b o then (W.cell? ⟨b, o, none⟩).map (obx (w'.alloc ob) b o) else W.cell? ⟨b, o, none⟩) ∧ (∀ b o, b < W.heap.size → (w'.alloc ob).frozen? ⟨b, o, none⟩ = W.frozen? ⟨b, o, none⟩) ∧ W.heap.size ≤ (w'.alloc ob).heap.size ∧ ExtP w P k (w'.alloc ob)) (hz : W.heap.size ≤ w'.heap.size) (hz2 : w.heap.size ≤ w'.heap.size) :
    (∀ b o, b < W.heap.size → (w'.alloc ob').cell? ⟨b, o, none⟩ = if wr b o then (W.cell? ⟨b, o, none⟩).map (obx (w'.alloc ob') b o) else W.cell? ⟨b, o, none⟩) ∧ (∀ b o, b < W.heap.size → (w'.alloc ob').frozen? ⟨b, o, none⟩ = W.frozen? ⟨b, o, none⟩) ∧ W.heap.size ≤ (w'.alloc ob').heap.size ∧ ExtP w P k (w'.alloc ob') := by
 have h3 := hewBackA ⟨h.1, h.2.1, h.2.2.1⟩ hz
 obtain ⟨v, hE⟩ := h.2.2.2
 have hE' : Ext (w.setCell ⟨P, k, none⟩ v) w' := ⟨hE.os, hE.tape, hE.output, by simpa using hz2, fun j hj => by
  have hj' : j < w'.heap.size := Nat.lt_of_lt_of_le (by simpa using hj) hz2
  rw [← hE.block j hj]; exact (Below.heap_alloc w' ob j hj').symm⟩
 exact hew3 ⟨h3.1, h3.2.1, h3.2.2, ⟨v, hE'⟩⟩
theorem hewEnd {W w' : World} {wr : Nat → Nat → Prop} {dw : ∀ b o, Decidable (wr b o)}
    (h : (∀ b o, b < W.heap.size → (w').cell? ⟨b, o, none⟩ = if wr b o then (W.cell? ⟨b, o, none⟩).map (obx (w') b o) else W.cell? ⟨b, o, none⟩) ∧ (∀ b o, b < W.heap.size → (w').frozen? ⟨b, o, none⟩ = W.frozen? ⟨b, o, none⟩) ∧ W.heap.size ≤ (w').heap.size) :
    (∀ b o, w'.cell? ⟨b, o, none⟩ = if b < W.heap.size then (if wr b o then (W.cell? ⟨b, o, none⟩).map (obx w' b o) else W.cell? ⟨b, o, none⟩) else oc w' b o) ∧ (∀ b o, w'.frozen? ⟨b, o, none⟩ = if b < W.heap.size then W.frozen? ⟨b, o, none⟩ else ofz w' b o) ∧ W.heap.size ≤ w'.heap.size :=
  ⟨fun b o => by
    split
    · exact h.1 b o ‹_›
    · rfl, fun b o => by
    split
    · exact h.2.1 b o ‹_›
    · rfl, h.2.2⟩
theorem hewNm {W w' : World} {wr : Nat → Nat → Prop} {dw : ∀ b o, Decidable (wr b o)}
    (_h : (∀ b o, b < W.heap.size → w'.cell? ⟨b, o, none⟩ = if wr b o then (W.cell? ⟨b, o, none⟩).map (obx w' b o) else W.cell? ⟨b, o, none⟩) ∧ (∀ b o, b < W.heap.size → w'.frozen? ⟨b, o, none⟩ = W.frozen? ⟨b, o, none⟩) ∧ W.heap.size ≤ w'.heap.size) : ∃ X, w' = X := ⟨_, rfl⟩
theorem hew2s {w W w' : World} {P k : Nat} {wr : Nat → Nat → Prop} {dw : ∀ b o, Decidable (wr b o)} {c q : Nat} {v : Value} (h : (∀ b o, b < W.heap.size → (w').cell? ⟨b, o, none⟩ = if wr b o then (W.cell? ⟨b, o, none⟩).map (obx (w') b o) else W.cell? ⟨b, o, none⟩) ∧ (∀ b o, b < W.heap.size → (w').frozen? ⟨b, o, none⟩ = W.frozen? ⟨b, o, none⟩) ∧ W.heap.size ≤ (w').heap.size ∧ ExtP w P k (w'))
    (hlt : c < W.heap.size) (hn : ¬ wr c q) (hv : W.cell? ⟨c, q, none⟩ = some v) :
    (∀ b o, b < W.heap.size → (w'.setCell ⟨c, q, none⟩ v).cell? ⟨b, o, none⟩ = if wr b o then (W.cell? ⟨b, o, none⟩).map (obx (w'.setCell ⟨c, q, none⟩ v) b o) else W.cell? ⟨b, o, none⟩) ∧ (∀ b o, b < W.heap.size → (w'.setCell ⟨c, q, none⟩ v).frozen? ⟨b, o, none⟩ = W.frozen? ⟨b, o, none⟩) ∧ W.heap.size ≤ (w'.setCell ⟨c, q, none⟩ v).heap.size ∧ ExtP w P k (w'.setCell ⟨c, q, none⟩ v) := by
 have e : w'.cell? ⟨c, q, none⟩ = some v := (h.1 c q hlt).trans ((if_neg hn).trans hv)
 rw [setCell_self w' c q v e]; exact h
theorem nrmV_Z (a : V3) : (nrmV a).Z := ifZ (nrmI_Z 0 a)
theorem nrmI_W (E : Int) (a : V3) : (nrmI E a).W := doI_W (addI_W _ _ _ _)
theorem nrmV_W (a : V3) : (nrmV a).W := ifW (nrmI_W 0 a)
theorem sqrtI_Z (a b : Int) : (sqrtI a b).Z := by
 unfold sqrtI; split
 ·intro _; exact ⟨rfl, rfl⟩
 ·split
  ·intro _; exact ⟨rfl, rfl⟩
  ·intro h; exact absurd rfl h
theorem sqrtI_W (a b : Int) : (sqrtI a b).W := by
 unfold sqrtI; split
 ·exact ⟨I64_0, I64_0⟩
 ·split
  ·exact ⟨I64_0, I64_0⟩
  ·rename_i h1 h2
   obtain ⟨k1, k2, k3⟩ := ckI_ok (Decidable.not_not.1 h1)
   have ha := root_le (x := a) (by omega) (by omega)
   have hb := root_le (x := b) (by omega) (by omega)
   refine ⟨?_, ?_⟩
   ·unfold I64; dsimp only; omega
   ·unfold I64; dsimp only; split <;> omega
theorem W2 {r : R3} (h : r.W) : I64 r.lo ∧ I64 r.hi := h
noncomputable def sz1 (q : R3) : R3 := doI q.e (sqrtI q.lo q.hi)
noncomputable def sz2 (q : R3) : R3 := doI (sz1 q).e (mulI q.lo q.hi (sz1 q).lo (sz1 q).hi)
theorem f_keepr (p : Nat) (E : Int) (r : R3) (w : World) (hc : w.cell? ⟨p, 0, none⟩ = some (.bool (nz (E)))) (hf : w.frozen? ⟨p, 0, none⟩ = false) (hZ : r.Z) :
    Calls Tryz.prog 89 #[.pointer (some ⟨p, 0, none⟩), .agg #[.int .i64 r.lo, .int .i64 r.hi], .int .i64 r.e] w fun e w' => e = .returned (.agg #[.int .i64 (doI E r).lo, .int .i64 (doI E r).hi]) ∧ Ext (w.setCell ⟨p, 0, none⟩ (.bool (nz ((doI E r).e)))) w' := by
 have hp : p < w.heap.size := World.block_lt_of_cell? w _ hc
 rw [← kp_do hZ]; exact f_keep p E r.lo r.hi r.e w hc hf
theorem f_size (p : Nat) (E : Int) (d : V3) (w : World) (hc : w.cell? ⟨p, 0, none⟩ = some (.bool (nz (E)))) (hf : w.frozen? ⟨p, 0, none⟩ = false) (kd : d.I) :
    Calls Tryz.prog 88 #[.pointer (some ⟨p, 0, none⟩), .agg #[.int .i64 d.a, .int .i64 d.b, .int .i64 d.c, .int .i64 d.d, .int .i64 d.e, .int .i64 d.f]] w fun e w' => e = .returned (.tuple #[.agg #[.int .i64 (doI E (nrmV d)).lo, .int .i64 (doI E (nrmV d)).hi], .agg #[.int .i64 (sz2 (doI E (nrmV d))).lo, .int .i64 (sz2 (doI E (nrmV d))).hi]]) ∧ Ext (w.setCell ⟨p, 0, none⟩ (.bool (nz ((sz2 (doI E (nrmV d))).e)))) w' := by
 have hp : p < w.heap.size := World.block_lt_of_cell? w _ hc
 go_enter Tryz.func88, Tryz.ntmps88
 go_wp2_with (first | (go_at_call 135; (with_reducible refine (p_nrm d _ kd).mono ?_); rintro e w1 ⟨rfl, hb⟩; obtain ⟨_, _, ⟨hc, hf⟩, hz⟩ := hb.c3; (try simp only [wsz] at hz hc hf); (try have zz := q_7 w.heap.size w1.heap.size); (try have zz := q_7 (w.heap.size + 1) w1.heap.size); (try have zz := q_7 (w.heap.size + 1 + 1) w1.heap.size); (try have zz := q_7 p w1.heap.size)) | (go_at_call 89; (with_reducible refine (f_keepr p E (nrmV d) _ c_27 c_27 (nrmV_Z d)).mono ?_); (generalize hr0 : doI E (nrmV d) = r0); rintro e w1 ⟨rfl, hb⟩; obtain ⟨_, _, ⟨hc, hf⟩, hz⟩ := hb.c3; (try simp only [wsz] at hz hc hf); (try have zz := q_7 w.heap.size w1.heap.size); (try have zz := q_7 (w.heap.size + 1) w1.heap.size); (try have zz := q_7 (w.heap.size + 1 + 1) w1.heap.size); (try have zz := q_7 p w1.heap.size)))
 refine wp_name fun W hW => ?_
 obtain ⟨hWc, hWf, hWz⟩ := hW.cells
 have hWe : ExtP w p 0 W := ExtP.same hW c_20
 (try simp only [wsz] at hWz)
 replace hWz := And.intro (Nat.le_of_eq hWz) (Nat.le_of_eq hWz.symm)
 have hlt := q_0 w.heap.size W.heap.size (w.heap.size + 1) (w.heap.size + 1 + 1) p
 have hd := q_17 w.heap.size (w.heap.size + 1) (w.heap.size + 1 + 1) p
 have hcv0 : W.cell? ⟨w.heap.size + 1, 0, none⟩ = some (.int .i64 r0.lo) := by rw [hWc]; simp [go_sem, ↓IntWalk.iteOmega, *]
 have hcv1 : W.cell? ⟨w.heap.size + 1, 1, none⟩ = some (.int .i64 r0.hi) := by rw [hWc]; simp [go_sem, ↓IntWalk.iteOmega, *]
 go_region_held3 (fun w' => (∀ b o, b < W.heap.size → w'.cell? ⟨b, o, none⟩ = if b = w.heap.size + 1 + 1 ∧ 0 ≤ o ∧ o < 2 ∨ b = p ∧ o = 0 then (W.cell? ⟨b, o, none⟩).map (obx w' b o) else W.cell? ⟨b, o, none⟩) ∧ (∀ b o, b < W.heap.size → w'.frozen? ⟨b, o, none⟩ = W.frozen? ⟨b, o, none⟩) ∧ W.heap.size ≤ w'.heap.size ∧ ExtP w p 0 w') (exact k_5) ((first | (go_at_call 136; (with_reducible refine (span_sqrt r0.lo r0.hi _).mono ?_); rintro e w9 ⟨rfl, hb7⟩; have hz7 := hb7.size; (try simp only [size_drew, World.size_setCell] at hz7); have hg7 := (hb7.cells.1 p 0 c_48).trans (show _ = some (.bool (nz (r0.e))) from c_1); have hh7 := (hb7.cells.2 p 0 c_48).trans (show _ = false from c_1)) | (go_at_call 89; (with_reducible refine (f_keepr p r0.e (sqrtI r0.lo r0.hi) _ c_1 c_1 (sqrtI_Z _ _)).mono ?_); (generalize hr1 : doI r0.e (sqrtI r0.lo r0.hi) = r1); rintro e w2 ⟨rfl, hb0⟩; have hz0 := hb0.size; (try simp only [size_drew, World.size_setCell] at hz0); obtain ⟨hg0, hh0⟩ := hb0.got (u := .bool (nz (r0.e))) c_1; have hob0 := obx_of hg0; (try simp only [frozen_drew] at hh0)) | (go_at_call 92; (with_reducible refine (f_mul p r1.e r0.lo r0.hi r1.lo r1.hi _ c_1 c_1 (W2 (hr0 ▸ doI_W (nrmV_W d))) (W2 (hr1 ▸ doI_W (sqrtI_W _ _)))).mono ?_); (generalize hr2 : doI r1.e (mulI r0.lo r0.hi r1.lo r1.hi) = r2); rintro e w3 ⟨rfl, hb1⟩; have hz1 := hb1.size; (try simp only [size_drew, World.size_setCell] at hz1); obtain ⟨hg1, hh1⟩ := hb1.got (u := .bool (nz (r1.e))) c_1; have hob1 := obx_of hg1; (try simp only [frozen_drew] at hh1))))
 rename_i hOld
 have hE := hOld.2.2.2
 have hO := And.intro hOld.1 (And.intro hOld.2.1 hOld.2.2.1)
 clear hOld
 replace hO := hewBack hO c_15
 replace hO := hewBack hO c_15
 obtain ⟨X, hX⟩ := hewNm hO
 rw [hX] at hO hE ⊢
 have hgX := obx_of (show X.cell? ⟨p, 0, none⟩ = some (.bool (nz (r2.e))) from by rw [← hX]; (repeat rw [cell_sc, if_neg (by intro e; injection e; omega)]); exact hg1)
 obtain ⟨hOc, hOf, hOz⟩ := hewEnd hO
 clear hO
 have hlu := q_0 w.heap.size X.heap.size (w.heap.size + 1) (w.heap.size + 1 + 1) p
 have q1 : sz1 r0 = r1 := hr1
 have q2 : sz2 r0 = r2 := by unfold sz2; rw [q1]; exact hr2
 go_wp2_with fail
 all_goals
  (try simp only [nz_true, nz_false] at *)
  refine bodyPost_ret (v := .tuple #[.agg #[.int .i64 (doI E (nrmV d)).lo, .int .i64 (doI E (nrmV d)).hi], .agg #[.int .i64 (sz2 (doI E (nrmV d))).lo, .int .i64 (sz2 (doI E (nrmV d))).hi]]) ?_ rfl ⟨rfl, ?_⟩
  ·(try simp only [bn_, bm_] at *)
   simp [results, Tryz.results88, go_sem, ↓IntWalk.iteOmega, nz, *]
  ·refine ExtP.fin ?_ ?_ hp
   ·exact b_10
   ·(try simp only [bn_, bm_] at *)
    simp [go_sem, ↓IntWalk.iteOmega, nz, *]
theorem span_neg (a b : Int) (w : World) :
    Calls Tryz.prog 90 #[.agg #[.int .i64 a, .int .i64 b]] w fun e w' => e = .returned (.tuple #[.agg #[.int .i64 (negI a b).lo, .int .i64 (negI a b).hi], .int .i64 (negI a b).e]) ∧ Ext w w' := by
 go_enter Tryz.func90, Tryz.ntmps90
 go_wp2_with (first | (go_at_call 66; (with_reducible refine (check_1 _ _ _ _ c_53).mono ?_); rintro e w1 ⟨rfl, hb⟩; obtain ⟨_, _, ⟨hc, hf⟩, hz⟩ := hb.c3; (try simp only [World.size_alloc] at hz hc hf)))
 all_goals
  refine bodyPost_ret (v := .tuple #[.agg #[.int .i64 (negI a b).lo, .int .i64 (negI a b).hi], .int .i64 (negI a b).e]) ?_ rfl ⟨rfl, ?_⟩
  ·(try simp only [bn_] at *)
   simp [results, Tryz.results90, go_sem, negI, *]
  ·exact b_4
def pxI (E x y a b : Int) : R3 := doI E (mulI x y a b)
def pyI (c : R3) (E x y a b : Int) : R3 := doI (pxI E x y a b).e (divI (pxI E x y a b).lo (pxI E x y a b).hi c.lo c.hi)
def pzI (c : R3) (E x y a b : Int) : R3 := doI (pyI c E x y a b).e (negI (pyI c E x y a b).lo (pyI c E x y a b).hi)
theorem pzI_W (c : R3) (E x y a b : Int) : (pzI c E x y a b).W := doI_W (negI_W _ _)
def pl0 (c : R3) (x y : Int) (d : V3) : R3 := pzI c c.e x y d.a d.b
def pl1 (c : R3) (x y : Int) (d : V3) : R3 := pzI c (pl0 c x y d).e x y d.c d.d
def pl2 (c : R3) (x y : Int) (d : V3) : R3 := pzI c (pl1 c x y d).e x y d.e d.f
def plV (c : R3) (x y : Int) (d : V3) : V3 := v3 (pl0 c x y d) (pl1 c x y d) (pl2 c x y d)
theorem f_pull (p : Nat) (E x y : Int) (d : V3) (w : World) (hc : w.cell? ⟨p, 0, none⟩ = some (.bool (nz (E)))) (hf : w.frozen? ⟨p, 0, none⟩ = false) (hx : I64 x ∧ I64 y) (kd : d.I) :
    Calls Tryz.prog 45 #[.pointer (some ⟨p, 0, none⟩), .agg #[.int .i64 x, .int .i64 y], .agg #[.int .i64 d.a, .int .i64 d.b, .int .i64 d.c, .int .i64 d.d, .int .i64 d.e, .int .i64 d.f]] w fun e w' => e = .returned (.agg #[.int .i64 (plV (sz2 (doI E (nrmV d))) x y d).a, .int .i64 (plV (sz2 (doI E (nrmV d))) x y d).b, .int .i64 (plV (sz2 (doI E (nrmV d))) x y d).c, .int .i64 (plV (sz2 (doI E (nrmV d))) x y d).d, .int .i64 (plV (sz2 (doI E (nrmV d))) x y d).e, .int .i64 (plV (sz2 (doI E (nrmV d))) x y d).f]) ∧ Ext (w.setCell ⟨p, 0, none⟩ (.bool (nz ((pl2 (sz2 (doI E (nrmV d))) x y d).e)))) w' := by
 have hp : p < w.heap.size := World.block_lt_of_cell? w _ hc
 obtain ⟨hd0, hd1, hd2⟩ := id kd
 have ix0 : ∀ w, (Instr.index 28 (.agg #[.int .i64 d.a, .int .i64 d.b, .int .i64 d.c, .int .i64 d.d, .int .i64 d.e, .int .i64 d.f]) (.int .i64 0)).run Tryz.prog w = .ok (.agg #[.int .i64 d.a, .int .i64 d.b]) w := fun _ => by kernel_rfl
 have ix1 : ∀ w, (Instr.index 28 (.agg #[.int .i64 d.a, .int .i64 d.b, .int .i64 d.c, .int .i64 d.d, .int .i64 d.e, .int .i64 d.f]) (.int .i64 1)).run Tryz.prog w = .ok (.agg #[.int .i64 d.c, .int .i64 d.d]) w := fun _ => by kernel_rfl
 have ix2 : ∀ w, (Instr.index 28 (.agg #[.int .i64 d.a, .int .i64 d.b, .int .i64 d.c, .int .i64 d.d, .int .i64 d.e, .int .i64 d.f]) (.int .i64 2)).run Tryz.prog w = .ok (.agg #[.int .i64 d.e, .int .i64 d.f]) w := fun _ => by kernel_rfl
 have l0 : IntKind.i64.wrap 0 = 0 := rfl
 have l1 : IntKind.i64.wrap 1 = 1 := rfl
 have l2 : IntKind.i64.wrap 2 = 2 := rfl
 have l3 : IntKind.i64.wrap 3 = 3 := rfl
 go_enter Tryz.func45, Tryz.ntmps45
 go_wp2_with (first | (go_at_call 88; (with_reducible refine (f_size p E d _ c_27 c_27 kd).mono ?_); (generalize hq : doI E (nrmV d) = q at *); (generalize hcu : sz2 q = c at *); rintro e w1 ⟨rfl, hb⟩; obtain ⟨_, _, ⟨hc, hf⟩, hz⟩ := hb.c3; (try simp only [wsz] at hz hc hf); (try have zz := q_7 w.heap.size w1.heap.size); (try have zz := q_7 (w.heap.size + 1) w1.heap.size); (try have zz := q_7 (w.heap.size + 1 + 1) w1.heap.size); (try have zz := q_7 p w1.heap.size)))
 refine wp_loop_rounds 4 ?_
 rw [rounds_succ]
 go_wp2_with fail
 refine wp_name fun W hW => ?_
 obtain ⟨hWc, hWf, hWz⟩ := hW.cells
 have hWe : ExtP w p 0 W := ExtP.same hW c_20
 (try simp only [wsz] at hWz)
 replace hWz := And.intro (Nat.le_of_eq hWz) (Nat.le_of_eq hWz.symm)
 have hlt := q_2 w.heap.size W.heap.size (w.heap.size + 1) (w.heap.size + 1 + 1) p w1.heap.size (w1.heap.size + 1) (w1.heap.size + 1 + 1)
 have hd := q_15 w.heap.size (w.heap.size + 1) (w.heap.size + 1 + 1) p w1.heap.size (w1.heap.size + 1) (w1.heap.size + 1 + 1)
 go_region_held3 (fun w' => (∀ b o, b < W.heap.size → w'.cell? ⟨b, o, none⟩ = if b = w.heap.size + 1 + 1 ∧ 0 ≤ o ∧ o < 2 ∨ b = p ∧ o = 0 then (W.cell? ⟨b, o, none⟩).map (obx w' b o) else W.cell? ⟨b, o, none⟩) ∧ (∀ b o, b < W.heap.size → w'.frozen? ⟨b, o, none⟩ = W.frozen? ⟨b, o, none⟩) ∧ W.heap.size ≤ w'.heap.size ∧ ExtP w p 0 w') (exact k_5) ((first | (go_at_call 92; (with_reducible refine (f_mul p (c.e) x y d.a d.b _ c_1 c_1 hx hd0).mono ?_); (generalize hr0 : doI (c.e) (mulI x y d.a d.b) = r0); rintro e w2 ⟨rfl, hb0⟩; have hz0 := hb0.size; (try simp only [size_drew, World.size_setCell] at hz0); obtain ⟨hg0, hh0⟩ := hb0.got (u := .bool (nz (c.e))) c_1; have hob0 := obx_of hg0; (try simp only [frozen_drew] at hh0)) | (go_at_call 91; (with_reducible refine (f_div p r0.e r0.lo r0.hi c.lo c.hi _ c_1 c_1).mono ?_); (generalize hr1 : doI r0.e (divI r0.lo r0.hi c.lo c.hi) = r1); rintro e w3 ⟨rfl, hb1⟩; have hz1 := hb1.size; (try simp only [size_drew, World.size_setCell] at hz1); obtain ⟨hg1, hh1⟩ := hb1.got (u := .bool (nz (r0.e))) c_1; have hob1 := obx_of hg1; (try simp only [frozen_drew] at hh1)) | (go_at_call 90; (with_reducible refine (span_neg r1.lo r1.hi _).mono ?_); rintro e w52 ⟨rfl, hb50⟩; have hz50 := hb50.size; (try simp only [size_drew, World.size_setCell] at hz50); have hg50 := (hb50.cells.1 p 0 c_48).trans (show _ = some (.bool (nz (r1.e))) from c_1); have hh50 := (hb50.cells.2 p 0 c_48).trans (show _ = false from c_1)) | (go_at_call 89; (with_reducible refine (f_keepr p r1.e (negI r1.lo r1.hi) _ c_1 c_1 (negI_Z _ _)).mono ?_); (generalize hr2 : doI r1.e (negI r1.lo r1.hi) = r2); rintro e w4 ⟨rfl, hb2⟩; have hz2 := hb2.size; (try simp only [size_drew, World.size_setCell] at hz2); obtain ⟨hg2, hh2⟩ := hb2.got (u := .bool (nz (r1.e))) c_1; have hob2 := obx_of hg2; (try simp only [frozen_drew] at hh2))))
 rename_i hOld
 have hE := hOld.2.2.2
 have hO := And.intro hOld.1 (And.intro hOld.2.1 hOld.2.2.1)
 clear hOld
 replace hO := hewBack hO c_15
 replace hO := hewBack hO c_15
 obtain ⟨hOc, hOf, hOz⟩ := hewEnd hO
 clear hO
 have hlu := q_2 w.heap.size w4.heap.size (w.heap.size + 1) (w.heap.size + 1 + 1) p w1.heap.size (w1.heap.size + 1) (w1.heap.size + 1 + 1)
 go_wp2_with fail
 rw [rounds_succ]
 go_wp2_with fail
 refine wp_name fun W hW => ?_
 obtain ⟨hWc, hWf, hWz⟩ := hW.cells
 have hWe : ExtP w p 0 W := ExtP.same hW c_20
 (try simp only [wsz] at hWz)
 replace hWz := And.intro (Nat.le_of_eq hWz) (Nat.le_of_eq hWz.symm)
 have hlt := q_2 w.heap.size W.heap.size (w.heap.size + 1) (w.heap.size + 1 + 1) p w1.heap.size (w1.heap.size + 1) w4.heap.size
 have hd := q_15 w.heap.size (w.heap.size + 1) (w.heap.size + 1 + 1) p w1.heap.size (w1.heap.size + 1) w4.heap.size
 go_region_held3 (fun w' => (∀ b o, b < W.heap.size → w'.cell? ⟨b, o, none⟩ = if b = w.heap.size + 1 + 1 ∧ 2 ≤ o ∧ o < 4 ∨ b = p ∧ o = 0 then (W.cell? ⟨b, o, none⟩).map (obx w' b o) else W.cell? ⟨b, o, none⟩) ∧ (∀ b o, b < W.heap.size → w'.frozen? ⟨b, o, none⟩ = W.frozen? ⟨b, o, none⟩) ∧ W.heap.size ≤ w'.heap.size ∧ ExtP w p 0 w') (exact k_5) ((first | (go_at_call 92; (with_reducible refine (f_mul p (r2.e) x y d.c d.d _ c_1 c_1 hx hd1).mono ?_); (generalize hr3 : doI (r2.e) (mulI x y d.c d.d) = r3); rintro e w5 ⟨rfl, hb3⟩; have hz3 := hb3.size; (try simp only [size_drew, World.size_setCell] at hz3); obtain ⟨hg3, hh3⟩ := hb3.got (u := .bool (nz (r2.e))) c_1; have hob3 := obx_of hg3; (try simp only [frozen_drew] at hh3)) | (go_at_call 91; (with_reducible refine (f_div p r3.e r3.lo r3.hi c.lo c.hi _ c_1 c_1).mono ?_); (generalize hr4 : doI r3.e (divI r3.lo r3.hi c.lo c.hi) = r4); rintro e w6 ⟨rfl, hb4⟩; have hz4 := hb4.size; (try simp only [size_drew, World.size_setCell] at hz4); obtain ⟨hg4, hh4⟩ := hb4.got (u := .bool (nz (r3.e))) c_1; have hob4 := obx_of hg4; (try simp only [frozen_drew] at hh4)) | (go_at_call 90; (with_reducible refine (span_neg r4.lo r4.hi _).mono ?_); rintro e w53 ⟨rfl, hb51⟩; have hz51 := hb51.size; (try simp only [size_drew, World.size_setCell] at hz51); have hg51 := (hb51.cells.1 p 0 c_48).trans (show _ = some (.bool (nz (r4.e))) from c_1); have hh51 := (hb51.cells.2 p 0 c_48).trans (show _ = false from c_1)) | (go_at_call 89; (with_reducible refine (f_keepr p r4.e (negI r4.lo r4.hi) _ c_1 c_1 (negI_Z _ _)).mono ?_); (generalize hr5 : doI r4.e (negI r4.lo r4.hi) = r5); rintro e w7 ⟨rfl, hb5⟩; have hz5 := hb5.size; (try simp only [size_drew, World.size_setCell] at hz5); obtain ⟨hg5, hh5⟩ := hb5.got (u := .bool (nz (r4.e))) c_1; have hob5 := obx_of hg5; (try simp only [frozen_drew] at hh5))))
 rename_i hOld
 have hE := hOld.2.2.2
 have hO := And.intro hOld.1 (And.intro hOld.2.1 hOld.2.2.1)
 clear hOld
 replace hO := hewBack hO c_15
 replace hO := hewBack hO c_15
 obtain ⟨hOc, hOf, hOz⟩ := hewEnd hO
 clear hO
 have hlu := q_2 w.heap.size w7.heap.size (w.heap.size + 1) (w.heap.size + 1 + 1) p w1.heap.size (w1.heap.size + 1) w4.heap.size
 go_wp2_with fail
 rw [rounds_succ]
 go_wp2_with fail
 refine wp_name fun W hW => ?_
 obtain ⟨hWc, hWf, hWz⟩ := hW.cells
 have hWe : ExtP w p 0 W := ExtP.same hW c_20
 (try simp only [wsz] at hWz)
 replace hWz := And.intro (Nat.le_of_eq hWz) (Nat.le_of_eq hWz.symm)
 have hlt := q_2 w.heap.size W.heap.size (w.heap.size + 1) (w.heap.size + 1 + 1) p w1.heap.size (w1.heap.size + 1) w7.heap.size
 have hd := q_15 w.heap.size (w.heap.size + 1) (w.heap.size + 1 + 1) p w1.heap.size (w1.heap.size + 1) w7.heap.size
 go_region_held3 (fun w' => (∀ b o, b < W.heap.size → w'.cell? ⟨b, o, none⟩ = if b = w.heap.size + 1 + 1 ∧ 4 ≤ o ∧ o < 6 ∨ b = p ∧ o = 0 then (W.cell? ⟨b, o, none⟩).map (obx w' b o) else W.cell? ⟨b, o, none⟩) ∧ (∀ b o, b < W.heap.size → w'.frozen? ⟨b, o, none⟩ = W.frozen? ⟨b, o, none⟩) ∧ W.heap.size ≤ w'.heap.size ∧ ExtP w p 0 w') (exact k_5) ((first | (go_at_call 92; (with_reducible refine (f_mul p (r5.e) x y d.e d.f _ c_1 c_1 hx hd2).mono ?_); (generalize hr6 : doI (r5.e) (mulI x y d.e d.f) = r6); rintro e w8 ⟨rfl, hb6⟩; have hz6 := hb6.size; (try simp only [size_drew, World.size_setCell] at hz6); obtain ⟨hg6, hh6⟩ := hb6.got (u := .bool (nz (r5.e))) c_1; have hob6 := obx_of hg6; (try simp only [frozen_drew] at hh6)) | (go_at_call 91; (with_reducible refine (f_div p r6.e r6.lo r6.hi c.lo c.hi _ c_1 c_1).mono ?_); (generalize hr7 : doI r6.e (divI r6.lo r6.hi c.lo c.hi) = r7); rintro e w9 ⟨rfl, hb7⟩; have hz7 := hb7.size; (try simp only [size_drew, World.size_setCell] at hz7); obtain ⟨hg7, hh7⟩ := hb7.got (u := .bool (nz (r6.e))) c_1; have hob7 := obx_of hg7; (try simp only [frozen_drew] at hh7)) | (go_at_call 90; (with_reducible refine (span_neg r7.lo r7.hi _).mono ?_); rintro e w54 ⟨rfl, hb52⟩; have hz52 := hb52.size; (try simp only [size_drew, World.size_setCell] at hz52); have hg52 := (hb52.cells.1 p 0 c_48).trans (show _ = some (.bool (nz (r7.e))) from c_1); have hh52 := (hb52.cells.2 p 0 c_48).trans (show _ = false from c_1)) | (go_at_call 89; (with_reducible refine (f_keepr p r7.e (negI r7.lo r7.hi) _ c_1 c_1 (negI_Z _ _)).mono ?_); (generalize hr8 : doI r7.e (negI r7.lo r7.hi) = r8); rintro e w10 ⟨rfl, hb8⟩; have hz8 := hb8.size; (try simp only [size_drew, World.size_setCell] at hz8); obtain ⟨hg8, hh8⟩ := hb8.got (u := .bool (nz (r7.e))) c_1; have hob8 := obx_of hg8; (try simp only [frozen_drew] at hh8))))
 rename_i hOld
 have hE := hOld.2.2.2
 have hO := And.intro hOld.1 (And.intro hOld.2.1 hOld.2.2.1)
 clear hOld
 replace hO := hewBack hO c_15
 replace hO := hewBack hO c_15
 obtain ⟨hOc, hOf, hOz⟩ := hewEnd hO
 clear hO
 have hlu := q_2 w.heap.size w10.heap.size (w.heap.size + 1) (w.heap.size + 1 + 1) p w1.heap.size (w1.heap.size + 1) w7.heap.size
 go_wp2_with fail
 rw [rounds_succ]
 go_wp2_with fail
 have q0 : pl0 c x y d = r2 := by unfold pl0 pzI pyI pxI; rw [hr0, hr1, hr2]
 have q1 : pl1 c x y d = r5 := by unfold pl1 pzI pyI pxI; rw [q0, hr3, hr4, hr5]
 have q2 : pl2 c x y d = r8 := by unfold pl2 pzI pyI pxI; rw [q1, hr6, hr7, hr8]
 all_goals
  (try simp only [nz_true, nz_false] at *)
  refine bodyPost_ret (v := .agg #[.int .i64 (plV (sz2 (doI E (nrmV d))) x y d).a, .int .i64 (plV (sz2 (doI E (nrmV d))) x y d).b, .int .i64 (plV (sz2 (doI E (nrmV d))) x y d).c, .int .i64 (plV (sz2 (doI E (nrmV d))) x y d).d, .int .i64 (plV (sz2 (doI E (nrmV d))) x y d).e, .int .i64 (plV (sz2 (doI E (nrmV d))) x y d).f]) ?_ rfl ⟨rfl, ?_⟩
  ·(try simp only [bn_, bm_] at *)
   simp [results, Tryz.results45, go_sem, ↓IntWalk.iteOmega, plV, v3, *]
  ·refine ExtP.fin ?_ ?_ hp
   ·exact b_10
   ·(try simp only [bn_, bm_] at *)
    simp [go_sem, ↓IntWalk.iteOmega, plV, v3, *]
end Go.Proofs.YtbkgakgdbmjmjaaGreat
