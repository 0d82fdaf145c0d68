/- planisphereref03.Div. -/
import Derived.Test.YtomgcjeahkmhiaaDivP
import Derived.Test.YtomgcjeahkmhiaaRefC
import Derived.Test.YtomgcjeahkmhiaaRefD
set_option linter.unusedSimpArgs false
set_option linter.unusedVariables false
namespace Go.Proofs.Ytomgcjeahkmhiaa
open Go.RowKit

theorem size_drewN (w : World) (n : Nat) : (w.drewN n).heap.size = w.heap.size := rfl
set_option maxRecDepth 100000 in
set_option maxHeartbeats 4000000 in
theorem rdiv_p (a b c d : Int) (w : World) (hk : ck2 a b c d = 0) (h0 : 0 < c) :
    Calls Try.prog 128 #[.agg #[.int .i64 a, .int .i64 b], .agg #[.int .i64 c, .int .i64 d]] w fun e w' => e = .returned (.tuple #[.agg #[.int .i64 (divP a b c d).lo, .int .i64 (divP a b c d).hi], .int .i64 (divP a b c d).e]) ∧ Ext w w' := by
  obtain ⟨hk1, hk2⟩ := ck2_ok hk
  obtain ⟨ka1, ka2, ka3⟩ := ckI_ok hk1
  obtain ⟨kc1, kc2, kc3⟩ := ckI_ok hk2
  have hM : I64 1099511627776 := by unfold I64; omega
  have hA : I64 a := by unfold I64; omega
  have hB : I64 b := by unfold I64; omega
  have ec : IntKind.u64.wrap c = c := by rw [IntKind.wrap_u64]; omega
  have ed : IntKind.u64.wrap d = d := by rw [IntKind.wrap_u64]; omega
  go_enter Try.func128, Try.ntmps128
  go_upto_region 7 with (first | (go_at_call 116; (with_reducible refine (ref_both _ _ _ _ _).mono ?_); rintro e w1 ⟨rfl, hb⟩; obtain ⟨_, _, hc, hf⟩ := hb.cells2; have hz := hb.size; (try simp only [World.size_alloc, World.size_setCell] at hz hc hf)))
  refine wp_name fun W hW => ?_
  obtain ⟨hWc, hWf, hWz⟩ := hW.cells
  have hWe : Ext w W := Ext.same hW (by repeat (first | with_reducible exact Ext.refl _ | with_reducible assumption | with_reducible refine Ext.alloc ?_ _ | with_reducible refine Ext.setCell ?_ (by (try simp only [World.size_alloc, World.size_setCell]); omega) _ | with_reducible refine Ext.drewN ?_ _ | with_reducible refine Ext.drew ?_ | with_reducible refine Ext.trans ?_ (by with_reducible assumption)))
  (try simp only [World.size_alloc, World.size_setCell] at hWz)
  (try simp only [size_drew, size_drewN, World.size_alloc, World.size_setCell] at hWz)
  replace hWz := And.intro (Nat.le_of_eq hWz) (Nat.le_of_eq hWz.symm)
  have hlt : w.heap.size < W.heap.size ∧ w.heap.size + 1 < W.heap.size ∧ w.heap.size + 1 + 1 < W.heap.size := (by refine ⟨?_, ?_, ?_⟩ <;> omega)
  have hd : ¬ w.heap.size = w.heap.size + 1 ∧ ¬ w.heap.size = w.heap.size + 1 + 1 ∧ ¬ w.heap.size + 1 = w.heap.size ∧ ¬ w.heap.size + 1 = w.heap.size + 1 + 1 ∧ ¬ w.heap.size + 1 + 1 = w.heap.size ∧ ¬ w.heap.size + 1 + 1 = w.heap.size + 1 := (by refine ⟨?_, ?_, ?_, ?_, ?_, ?_⟩ <;> omega)
  go_region_held3 (fun w' => (∀ b o, b < W.heap.size → w'.cell? ⟨b, o, none⟩ = if b = w.heap.size ∧ 0 ≤ o ∧ o < 0 then (W.cell? ⟨b, o, none⟩).map (obx w' b o) else W.cell? ⟨b, o, none⟩) ∧ (∀ b o, b < W.heap.size → w'.frozen? ⟨b, o, none⟩ = W.frozen? ⟨b, o, none⟩) ∧ W.heap.size ≤ w'.heap.size ∧ Ext w w') (first | (with_reducible exact held0 hWe) | (with_reducible exact held1 (by with_reducible assumption) (by with_reducible assumption)) | (with_reducible exact held3 (by with_reducible assumption)) | ((with_reducible refine held4 (by with_reducible assumption) ?_ ?_) <;> omega) | (repeat (first | (with_reducible assumption) | (with_reducible refine held2 ?_ (by first | (refine Or.inl ⟨?_, ?_, ?_⟩ <;> (first | rfl | (dsimp only; omega))) | (refine Or.inr ?_; (try dsimp only); (try simp only [World.size_alloc, World.size_setCell]); omega)) (by (try dsimp only); (try simp only [World.size_alloc, World.size_setCell]); omega))))) (fail)
  all_goals
    rename_i hOld
    have hE := hOld.2.2.2
    have hO := And.intro hOld.1 (And.intro hOld.2.1 hOld.2.2.1)
    clear hOld
    obtain ⟨hOc, hOf, hOz⟩ := heldEnd hO
    clear hO
    go_wp2_with fail
    all_goals
      refine wp_name fun W hW => ?_
      obtain ⟨hWc, hWf, hWz⟩ := hW.cells
      have hWe : Ext w W := Ext.same hW (by repeat (first | with_reducible exact Ext.refl _ | with_reducible assumption | with_reducible refine Ext.alloc ?_ _ | with_reducible refine Ext.setCell ?_ (by (try simp only [World.size_alloc, World.size_setCell]); omega) _ | with_reducible refine Ext.drewN ?_ _ | with_reducible refine Ext.drew ?_ | with_reducible refine Ext.trans ?_ (by with_reducible assumption)))
      (try simp only [World.size_alloc, World.size_setCell] at hWz)
      (try simp only [size_drew, size_drewN, World.size_alloc, World.size_setCell] at hWz)
      replace hWz := And.intro (Nat.le_of_eq hWz) (Nat.le_of_eq hWz.symm)
      have hlt : w.heap.size < W.heap.size ∧ w.heap.size + 1 < W.heap.size ∧ w.heap.size + 1 + 1 < W.heap.size := (by refine ⟨?_, ?_, ?_⟩ <;> omega)
      have hd : ¬ w.heap.size = w.heap.size + 1 ∧ ¬ w.heap.size = w.heap.size + 1 + 1 ∧ ¬ w.heap.size + 1 = w.heap.size ∧ ¬ w.heap.size + 1 = w.heap.size + 1 + 1 ∧ ¬ w.heap.size + 1 + 1 = w.heap.size ∧ ¬ w.heap.size + 1 + 1 = w.heap.size + 1 := (by refine ⟨?_, ?_, ?_, ?_, ?_, ?_⟩ <;> omega)
      go_region_held3 (fun w' => (∀ b o, b < W.heap.size → w'.cell? ⟨b, o, none⟩ = if b = w.heap.size + 1 + 1 ∧ 0 ≤ o ∧ o < 2 then (W.cell? ⟨b, o, none⟩).map (obx w' b o) else W.cell? ⟨b, o, none⟩) ∧ (∀ b o, b < W.heap.size → w'.frozen? ⟨b, o, none⟩ = W.frozen? ⟨b, o, none⟩) ∧ W.heap.size ≤ w'.heap.size ∧ Ext w w') (first | (with_reducible exact held0 hWe) | (with_reducible exact held1 (by with_reducible assumption) (by with_reducible assumption)) | (with_reducible exact held3 (by with_reducible assumption)) | ((with_reducible refine held4 (by with_reducible assumption) ?_ ?_) <;> omega) | (repeat (first | (with_reducible assumption) | (with_reducible refine held2 ?_ (by first | (refine Or.inl ⟨?_, ?_, ?_⟩ <;> (first | rfl | (dsimp only; omega))) | (refine Or.inr ?_; (try dsimp only); (try simp only [World.size_alloc, World.size_setCell]); omega)) (by (try dsimp only); (try simp only [World.size_alloc, World.size_setCell]); omega))))) ((first | (go_at_call 129; (with_reducible refine (ref_times _ _ _ hA hM).mono ?_); rintro e w2 ⟨rfl, hb2⟩; have hz2 := hb2.size; (try rw [size_drew] at hz2)) | (go_at_call 129; (with_reducible refine (ref_times _ _ _ hB hM).mono ?_); rintro e w2 ⟨rfl, hb2⟩; have hz2 := hb2.size; (try rw [size_drew] at hz2)) | (go_at_call 123; (with_reducible refine (ref_over _ _ _ _ (abs_mul_bound hA hM).1 (abs_mul_bound hA hM).2 (by omega) (by omega)).mono ?_); rintro e w2 ⟨rfl, hb2⟩; have hz2 := hb2.size; (try rw [size_drew] at hz2)) | (go_at_call 123; (with_reducible refine (ref_over _ _ _ _ (abs_mul_bound hB hM).1 (abs_mul_bound hB hM).2 (by omega) (by omega)).mono ?_); rintro e w2 ⟨rfl, hb2⟩; have hz2 := hb2.size; (try rw [size_drew] at hz2)) | (go_at_call 117; (with_reducible refine (ref_made _ _ _).mono ?_); rintro e w2 ⟨rfl, hb2⟩; have hz2 := hb2.size; (try rw [size_drew] at hz2))))
      all_goals
        rename_i hOld
        have hE := hOld.2.2.2
        have hO := And.intro hOld.1 (And.intro hOld.2.1 hOld.2.2.1)
        clear hOld
        replace hO := heldBack hO (by first | (refine Or.inl ⟨?_, ?_, ?_⟩ <;> (first | rfl | (dsimp only; omega))) | (refine Or.inr ?_; (try dsimp only); (try simp only [World.size_alloc, World.size_setCell]); omega))
        replace hO := heldBack hO (by first | (refine Or.inl ⟨?_, ?_, ?_⟩ <;> (first | rfl | (dsimp only; omega))) | (refine Or.inr ?_; (try dsimp only); (try simp only [World.size_alloc, World.size_setCell]); omega))
        obtain ⟨hOc, hOf, hOz⟩ := heldEnd hO
        clear hO
        go_wp2_with fail
        refine bodyPost_ret (v := .tuple #[.agg #[.int .i64 (divP a b c d).lo, .int .i64 (divP a b c d).hi], .int .i64 (divP a b c d).e]) ?_ rfl ⟨rfl, ?_⟩
        · (try simp only [bne_iff_ne, ne_eq, bne_eq_false_iff_eq, beq_iff_eq, beq_eq_false_iff_ne] at *)
          simp [results, Try.results128, go_sem, ↓IntWalk.iteOmega, divP, ovS, *]
        · repeat (first | with_reducible exact Ext.refl _ | with_reducible assumption | with_reducible refine Ext.alloc ?_ _ | with_reducible refine Ext.setCell ?_ (by (try simp only [World.size_alloc, World.size_setCell]); omega) _ | with_reducible refine Ext.drewN ?_ _ | with_reducible refine Ext.drew ?_ | with_reducible refine Ext.trans ?_ (by with_reducible assumption))

set_option maxRecDepth 100000 in
set_option maxHeartbeats 4000000 in
theorem rdiv_n (a b c d : Int) (w : World) (hk : ck2 a b c d = 0) (h0 : d < 0) :
    Calls Try.prog 128 #[.agg #[.int .i64 a, .int .i64 b], .agg #[.int .i64 c, .int .i64 d]] w fun e w' => e = .returned (.tuple #[.agg #[.int .i64 (divP (-b) (-a) (-d) (-c)).lo, .int .i64 (divP (-b) (-a) (-d) (-c)).hi], .int .i64 (divP (-b) (-a) (-d) (-c)).e]) ∧ Ext w w' := by
  obtain ⟨hk1, hk2⟩ := ck2_ok hk
  obtain ⟨ka1, ka2, ka3⟩ := ckI_ok hk1
  obtain ⟨kc1, kc2, kc3⟩ := ckI_ok hk2
  have hM : I64 1099511627776 := by unfold I64; omega
  have hA : I64 (-b) := by unfold I64; omega
  have hB : I64 (-a) := by unfold I64; omega
  have n1 : IntKind.i64.wrap (-b) = -b := by rw [IntKind.wrap_i64]; omega
  have n2 : IntKind.i64.wrap (-a) = -a := by rw [IntKind.wrap_i64]; omega
  have n3 : IntKind.i64.wrap (-d) = -d := by rw [IntKind.wrap_i64]; omega
  have n4 : IntKind.i64.wrap (-c) = -c := by rw [IntKind.wrap_i64]; omega
  have ec : IntKind.u64.wrap (-d) = -d := by rw [IntKind.wrap_u64]; omega
  have ed : IntKind.u64.wrap (-c) = -c := by rw [IntKind.wrap_u64]; omega
  go_enter Try.func128, Try.ntmps128
  go_upto_region 6 with (first | (go_at_call 116; (with_reducible refine (ref_both _ _ _ _ _).mono ?_); rintro e w1 ⟨rfl, hb⟩; obtain ⟨_, _, hc, hf⟩ := hb.cells2; have hz := hb.size; (try simp only [World.size_alloc, World.size_setCell] at hz hc hf)))
  go_region
  go_upto_region 7 with (first | (go_at_call 116; (with_reducible refine (ref_both _ _ _ _ _).mono ?_); rintro e w1 ⟨rfl, hb⟩; obtain ⟨_, _, hc, hf⟩ := hb.cells2; have hz := hb.size; (try simp only [World.size_alloc, World.size_setCell] at hz hc hf)))
  refine wp_name fun W hW => ?_
  obtain ⟨hWc, hWf, hWz⟩ := hW.cells
  have hWe : Ext w W := Ext.same hW (by repeat (first | with_reducible exact Ext.refl _ | with_reducible assumption | with_reducible refine Ext.alloc ?_ _ | with_reducible refine Ext.setCell ?_ (by (try simp only [World.size_alloc, World.size_setCell]); omega) _ | with_reducible refine Ext.drewN ?_ _ | with_reducible refine Ext.drew ?_ | with_reducible refine Ext.trans ?_ (by with_reducible assumption)))
  (try simp only [World.size_alloc, World.size_setCell] at hWz)
  (try simp only [size_drew, size_drewN, World.size_alloc, World.size_setCell] at hWz)
  replace hWz := And.intro (Nat.le_of_eq hWz) (Nat.le_of_eq hWz.symm)
  have hlt : w.heap.size < W.heap.size ∧ w.heap.size + 1 < W.heap.size ∧ w.heap.size + 1 + 1 < W.heap.size := (by refine ⟨?_, ?_, ?_⟩ <;> omega)
  have hd : ¬ w.heap.size = w.heap.size + 1 ∧ ¬ w.heap.size = w.heap.size + 1 + 1 ∧ ¬ w.heap.size + 1 = w.heap.size ∧ ¬ w.heap.size + 1 = w.heap.size + 1 + 1 ∧ ¬ w.heap.size + 1 + 1 = w.heap.size ∧ ¬ w.heap.size + 1 + 1 = w.heap.size + 1 := (by refine ⟨?_, ?_, ?_, ?_, ?_, ?_⟩ <;> omega)
  go_region_held3 (fun w' => (∀ b o, b < W.heap.size → w'.cell? ⟨b, o, none⟩ = if b = w.heap.size ∧ 0 ≤ o ∧ o < 0 then (W.cell? ⟨b, o, none⟩).map (obx w' b o) else W.cell? ⟨b, o, none⟩) ∧ (∀ b o, b < W.heap.size → w'.frozen? ⟨b, o, none⟩ = W.frozen? ⟨b, o, none⟩) ∧ W.heap.size ≤ w'.heap.size ∧ Ext w w') (first | (with_reducible exact held0 hWe) | (with_reducible exact held1 (by with_reducible assumption) (by with_reducible assumption)) | (with_reducible exact held3 (by with_reducible assumption)) | ((with_reducible refine held4 (by with_reducible assumption) ?_ ?_) <;> omega) | (repeat (first | (with_reducible assumption) | (with_reducible refine held2 ?_ (by first | (refine Or.inl ⟨?_, ?_, ?_⟩ <;> (first | rfl | (dsimp only; omega))) | (refine Or.inr ?_; (try dsimp only); (try simp only [World.size_alloc, World.size_setCell]); omega)) (by (try dsimp only); (try simp only [World.size_alloc, World.size_setCell]); omega))))) (fail)
  all_goals
    rename_i hOld
    have hE := hOld.2.2.2
    have hO := And.intro hOld.1 (And.intro hOld.2.1 hOld.2.2.1)
    clear hOld
    obtain ⟨hOc, hOf, hOz⟩ := heldEnd hO
    clear hO
    go_wp2_with fail
    all_goals
      refine wp_name fun W hW => ?_
      obtain ⟨hWc, hWf, hWz⟩ := hW.cells
      have hWe : Ext w W := Ext.same hW (by repeat (first | with_reducible exact Ext.refl _ | with_reducible assumption | with_reducible refine Ext.alloc ?_ _ | with_reducible refine Ext.setCell ?_ (by (try simp only [World.size_alloc, World.size_setCell]); omega) _ | with_reducible refine Ext.drewN ?_ _ | with_reducible refine Ext.drew ?_ | with_reducible refine Ext.trans ?_ (by with_reducible assumption)))
      (try simp only [World.size_alloc, World.size_setCell] at hWz)
      (try simp only [size_drew, size_drewN, World.size_alloc, World.size_setCell] at hWz)
      replace hWz := And.intro (Nat.le_of_eq hWz) (Nat.le_of_eq hWz.symm)
      have hlt : w.heap.size < W.heap.size ∧ w.heap.size + 1 < W.heap.size ∧ w.heap.size + 1 + 1 < W.heap.size := (by refine ⟨?_, ?_, ?_⟩ <;> omega)
      have hd : ¬ w.heap.size = w.heap.size + 1 ∧ ¬ w.heap.size = w.heap.size + 1 + 1 ∧ ¬ w.heap.size + 1 = w.heap.size ∧ ¬ w.heap.size + 1 = w.heap.size + 1 + 1 ∧ ¬ w.heap.size + 1 + 1 = w.heap.size ∧ ¬ w.heap.size + 1 + 1 = w.heap.size + 1 := (by refine ⟨?_, ?_, ?_, ?_, ?_, ?_⟩ <;> omega)
      go_region_held3 (fun w' => (∀ b o, b < W.heap.size → w'.cell? ⟨b, o, none⟩ = if b = w.heap.size + 1 + 1 ∧ 0 ≤ o ∧ o < 2 then (W.cell? ⟨b, o, none⟩).map (obx w' b o) else W.cell? ⟨b, o, none⟩) ∧ (∀ b o, b < W.heap.size → w'.frozen? ⟨b, o, none⟩ = W.frozen? ⟨b, o, none⟩) ∧ W.heap.size ≤ w'.heap.size ∧ Ext w w') (first | (with_reducible exact held0 hWe) | (with_reducible exact held1 (by with_reducible assumption) (by with_reducible assumption)) | (with_reducible exact held3 (by with_reducible assumption)) | ((with_reducible refine held4 (by with_reducible assumption) ?_ ?_) <;> omega) | (repeat (first | (with_reducible assumption) | (with_reducible refine held2 ?_ (by first | (refine Or.inl ⟨?_, ?_, ?_⟩ <;> (first | rfl | (dsimp only; omega))) | (refine Or.inr ?_; (try dsimp only); (try simp only [World.size_alloc, World.size_setCell]); omega)) (by (try dsimp only); (try simp only [World.size_alloc, World.size_setCell]); omega))))) ((first | (go_at_call 129; (with_reducible refine (ref_times _ _ _ hA hM).mono ?_); rintro e w2 ⟨rfl, hb2⟩; have hz2 := hb2.size; (try rw [size_drew] at hz2)) | (go_at_call 129; (with_reducible refine (ref_times _ _ _ hB hM).mono ?_); rintro e w2 ⟨rfl, hb2⟩; have hz2 := hb2.size; (try rw [size_drew] at hz2)) | (go_at_call 123; (with_reducible refine (ref_over _ _ _ _ (abs_mul_bound hA hM).1 (abs_mul_bound hA hM).2 (by omega) (by omega)).mono ?_); rintro e w2 ⟨rfl, hb2⟩; have hz2 := hb2.size; (try rw [size_drew] at hz2)) | (go_at_call 123; (with_reducible refine (ref_over _ _ _ _ (abs_mul_bound hB hM).1 (abs_mul_bound hB hM).2 (by omega) (by omega)).mono ?_); rintro e w2 ⟨rfl, hb2⟩; have hz2 := hb2.size; (try rw [size_drew] at hz2)) | (go_at_call 117; (with_reducible refine (ref_made _ _ _).mono ?_); rintro e w2 ⟨rfl, hb2⟩; have hz2 := hb2.size; (try rw [size_drew] at hz2))))
      all_goals
        rename_i hOld
        have hE := hOld.2.2.2
        have hO := And.intro hOld.1 (And.intro hOld.2.1 hOld.2.2.1)
        clear hOld
        replace hO := heldBack hO (by first | (refine Or.inl ⟨?_, ?_, ?_⟩ <;> (first | rfl | (dsimp only; omega))) | (refine Or.inr ?_; (try dsimp only); (try simp only [World.size_alloc, World.size_setCell]); omega))
        replace hO := heldBack hO (by first | (refine Or.inl ⟨?_, ?_, ?_⟩ <;> (first | rfl | (dsimp only; omega))) | (refine Or.inr ?_; (try dsimp only); (try simp only [World.size_alloc, World.size_setCell]); omega))
        obtain ⟨hOc, hOf, hOz⟩ := heldEnd hO
        clear hO
        go_wp2_with fail
        refine bodyPost_ret (v := .tuple #[.agg #[.int .i64 (divP (-b) (-a) (-d) (-c)).lo, .int .i64 (divP (-b) (-a) (-d) (-c)).hi], .int .i64 (divP (-b) (-a) (-d) (-c)).e]) ?_ rfl ⟨rfl, ?_⟩
        · (try simp only [bne_iff_ne, ne_eq, bne_eq_false_iff_eq, beq_iff_eq, beq_eq_false_iff_ne] at *)
          simp [results, Try.results128, go_sem, ↓IntWalk.iteOmega, divP, ovS, *]
        · repeat (first | with_reducible exact Ext.refl _ | with_reducible assumption | with_reducible refine Ext.alloc ?_ _ | with_reducible refine Ext.setCell ?_ (by (try simp only [World.size_alloc, World.size_setCell]); omega) _ | with_reducible refine Ext.drewN ?_ _ | with_reducible refine Ext.drew ?_ | with_reducible refine Ext.trans ?_ (by with_reducible assumption))

set_option maxRecDepth 100000 in
set_option maxHeartbeats 1000000 in
theorem rdiv_e (a b c d : Int) (w : World) (hk : ¬ ck2 a b c d = 0) :
    Calls Try.prog 128 #[.agg #[.int .i64 a, .int .i64 b], .agg #[.int .i64 c, .int .i64 d]] w fun e w' => e = .returned (.tuple #[.agg #[.int .i64 (R3.mk 0 0 (ck2 a b c d)).lo, .int .i64 (R3.mk 0 0 (ck2 a b c d)).hi], .int .i64 (R3.mk 0 0 (ck2 a b c d)).e]) ∧ Ext w w' := by
  go_enter Try.func128, Try.ntmps128
  go_wp2_with (first | (go_at_call 116; (with_reducible refine (ref_both _ _ _ _ _).mono ?_); rintro e w1 ⟨rfl, hb⟩; obtain ⟨_, _, hc, hf⟩ := hb.cells2; have hz := hb.size; (try simp only [World.size_alloc, World.size_setCell] at hz hc hf)))
  all_goals
    refine bodyPost_ret (v := .tuple #[.agg #[.int .i64 (R3.mk 0 0 (ck2 a b c d)).lo, .int .i64 (R3.mk 0 0 (ck2 a b c d)).hi], .int .i64 (R3.mk 0 0 (ck2 a b c d)).e]) ?_ rfl ⟨rfl, ?_⟩
    · (try simp only [bne_iff_ne, ne_eq, bne_eq_false_iff_eq, beq_iff_eq, beq_eq_false_iff_ne] at *)
      simp [results, Try.results128, go_sem, ↓IntWalk.iteOmega, ne_eq, *]
    · repeat (first | with_reducible exact Ext.refl _ | with_reducible assumption | with_reducible refine Ext.alloc ?_ _ | with_reducible refine Ext.setCell ?_ (by (try simp only [World.size_alloc, World.size_setCell]); omega) _ | with_reducible refine Ext.drewN ?_ _ | with_reducible refine Ext.drew ?_ | with_reducible refine Ext.trans ?_ (by with_reducible assumption))

set_option maxRecDepth 100000 in
set_option maxHeartbeats 1000000 in
theorem rdiv_z (a b c d : Int) (w : World) (hk : ck2 a b c d = 0) (h0 : c ≤ 0) (h1 : 0 ≤ d) :
    Calls Try.prog 128 #[.agg #[.int .i64 a, .int .i64 b], .agg #[.int .i64 c, .int .i64 d]] w fun e w' => e = .returned (.tuple #[.agg #[.int .i64 (R3.mk 0 0 18).lo, .int .i64 (R3.mk 0 0 18).hi], .int .i64 (R3.mk 0 0 18).e]) ∧ Ext w w' := by
  go_enter Try.func128, Try.ntmps128
  go_wp2_with (first | (go_at_call 116; (with_reducible refine (ref_both _ _ _ _ _).mono ?_); rintro e w1 ⟨rfl, hb⟩; obtain ⟨_, _, hc, hf⟩ := hb.cells2; have hz := hb.size; (try simp only [World.size_alloc, World.size_setCell] at hz hc hf)))
  all_goals
    refine bodyPost_ret (v := .tuple #[.agg #[.int .i64 (R3.mk 0 0 18).lo, .int .i64 (R3.mk 0 0 18).hi], .int .i64 (R3.mk 0 0 18).e]) ?_ rfl ⟨rfl, ?_⟩
    · (try simp only [bne_iff_ne, ne_eq, bne_eq_false_iff_eq, beq_iff_eq, beq_eq_false_iff_ne] at *)
      simp [results, Try.results128, go_sem, ↓IntWalk.iteOmega, ne_eq, *]
    · repeat (first | with_reducible exact Ext.refl _ | with_reducible assumption | with_reducible refine Ext.alloc ?_ _ | with_reducible refine Ext.setCell ?_ (by (try simp only [World.size_alloc, World.size_setCell]); omega) _ | with_reducible refine Ext.drewN ?_ _ | with_reducible refine Ext.drew ?_ | with_reducible refine Ext.trans ?_ (by with_reducible assumption))

theorem ref_div (a b c d : Int) (w : World) :
    Calls Try.prog 128 #[.agg #[.int .i64 a, .int .i64 b], .agg #[.int .i64 c, .int .i64 d]] w fun e w' => e = .returned (.tuple #[.agg #[.int .i64 (divI a b c d).lo, .int .i64 (divI a b c d).hi], .int .i64 (divI a b c d).e]) ∧ Ext w w' := by
  by_cases hk : ck2 a b c d = 0
  · by_cases h0 : c ≤ 0 ∧ 0 ≤ d
    · have e : divI a b c d = ⟨0, 0, 18⟩ := by unfold divI; rw [if_neg (by simpa using hk), if_pos h0]
      rw [e]; exact rdiv_z a b c d w hk h0.1 h0.2
    · have hc := (ckI_ok (ck2_ok hk).2).1
      by_cases h1 : d < 0
      · have e : divI a b c d = divP (-b) (-a) (-d) (-c) := by unfold divI; rw [if_neg (by simpa using hk), if_neg h0, if_pos h1]
        rw [e]; exact rdiv_n a b c d w hk h1
      · have e : divI a b c d = divP a b c d := by unfold divI; rw [if_neg (by simpa using hk), if_neg h0, if_neg h1]
        rw [e]; exact rdiv_p a b c d w hk (by omega)
  · have e : divI a b c d = ⟨0, 0, ck2 a b c d⟩ := by unfold divI; rw [if_pos (by simpa using hk)]
    rw [e]; exact rdiv_e a b c d w hk

end Go.Proofs.Ytomgcjeahkmhiaa
