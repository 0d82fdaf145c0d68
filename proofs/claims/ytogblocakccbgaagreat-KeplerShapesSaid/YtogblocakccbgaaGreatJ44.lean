/- kepler: Shape, Period.; planisphereref03: negatives, absolute values, products, squares.; planisphereref17: the calculator.; planisphereref03.Div. -/
import Derived.Test.YtogblocakccbgaaGreatJ00
import Derived.Test.YtogblocakccbgaaGreatJ37
import Derived.Test.YtogblocakccbgaaGreatJ38
import Derived.Test.YtogblocakccbgaaGreatJ39
import Derived.Test.YtogblocakccbgaaGreatJ43
import Derived.Test.YtogblocakccbgaaGreatJ16
import Derived.Test.YtogblocakccbgaaGreatJ19
import Derived.Test.YtogblocakccbgaaGreatJ17
import Derived.Test.YtogblocakccbgaaGreatJ15
import Derived.Test.YtogblocakccbgaaGreatJ18
set_option linter.unusedSimpArgs false
set_option linter.unusedVariables false
set_option maxRecDepth 100000
set_option maxHeartbeats 4000000
namespace Go.Proofs.YtogblocakccbgaaGreat
open Go.RowKit
theorem k_closed (t p1 p2 p3 v1 v2 v3 : Int) (w : World) (ip1 : I64 p1) (ip2 : I64 p2) (ip3 : I64 p3) (iv1 : I64 v1) (iv2 : I64 v2) (iv3 : I64 v3) : Calls Tryz.prog 41 #[.agg #[.int .i64 t, .int .i64 p1, .int .i64 p2, .int .i64 p3, .int .i64 v1, .int .i64 v2, .int .i64 v3]] w fun e w' => ((ClOk (dia p1 p2 p3) (dia v1 v2 v3) ∧ e = .returned (.agg #[.int .i64 (shR (dia p1 p2 p3)).lo, .int .i64 (shR (dia p1 p2 p3)).hi, .int .i64 (shA (dia p1 p2 p3) (dia v1 v2 v3)).lo, .int .i64 (shA (dia p1 p2 p3) (dia v1 v2 v3)).hi, .int .i64 (shK (dia p1 p2 p3) (dia v1 v2 v3)).lo, .int .i64 (shK (dia p1 p2 p3) (dia v1 v2 v3)).hi, .int .i64 (shZ).lo, .int .i64 (shZ).hi, .int .i64 (shQ (dia p1 p2 p3) (dia v1 v2 v3)).lo, .int .i64 (shQ (dia p1 p2 p3) (dia v1 v2 v3)).hi, .int .i64 (shU (dia p1 p2 p3) (dia v1 v2 v3)).lo, .int .i64 (shU (dia p1 p2 p3) (dia v1 v2 v3)).hi, .int .i64 0, .int .i64 0, .int .i64 0, .int .i64 0])) ∨ (¬ ClOk (dia p1 p2 p3) (dia v1 v2 v3) ∧ e = .panicked FALL)) ∧ Ext w w' :=
 k_closed0 t p1 p2 p3 v1 v2 v3 (fun w1 => k_shape t p1 p2 p3 v1 v2 v3 w1 ip1 ip2 ip3 iv1 iv2 iv3) w
theorem k_Shape (t p1 p2 p3 v1 v2 v3 : Int) (w : World) (ip1 : I64 p1) (ip2 : I64 p2) (ip3 : I64 p3) (iv1 : I64 v1) (iv2 : I64 v2) (iv3 : I64 v3) : Calls Tryz.prog 15 #[.agg #[.int .i64 t, .int .i64 p1, .int .i64 p2, .int .i64 p3, .int .i64 v1, .int .i64 v2, .int .i64 v3]] w fun e w' => ((¬ stE t p1 p2 p3 v1 v2 v3 = 0 ∧ e = .returned (.tuple #[.agg #[.int .i64 0, .int .i64 0], .agg #[.int .i64 0, .int .i64 0], .int .i64 (stE t p1 p2 p3 v1 v2 v3)])) ∨ (stE t p1 p2 p3 v1 v2 v3 = 0 ∧ ShOk (dia p1 p2 p3) (dia v1 v2 v3) ∧ e = .returned (.tuple #[.agg #[.int .i64 (shA (dia p1 p2 p3) (dia v1 v2 v3)).lo, .int .i64 (shA (dia p1 p2 p3) (dia v1 v2 v3)).hi], .agg #[.int .i64 (shK (dia p1 p2 p3) (dia v1 v2 v3)).lo, .int .i64 (shK (dia p1 p2 p3) (dia v1 v2 v3)).hi], .int .i64 0])) ∨ (stE t p1 p2 p3 v1 v2 v3 = 0 ∧ ¬ ShOk (dia p1 p2 p3) (dia v1 v2 v3) ∧ e = .returned (.tuple #[.agg #[.int .i64 0, .int .i64 0], .agg #[.int .i64 0, .int .i64 0], .int .i64 24]))) ∧ Ext w w' :=
 k_Shape0 t p1 p2 p3 v1 v2 v3 (fun w1 => k_shape t p1 p2 p3 v1 v2 v3 w1 ip1 ip2 ip3 iv1 iv2 iv3) w
theorem k_Period (t p1 p2 p3 v1 v2 v3 : Int) (w : World) (ip1 : I64 p1) (ip2 : I64 p2) (ip3 : I64 p3) (iv1 : I64 v1) (iv2 : I64 v2) (iv3 : I64 v3) : Calls Tryz.prog 17 #[.agg #[.int .i64 t, .int .i64 p1, .int .i64 p2, .int .i64 p3, .int .i64 v1, .int .i64 v2, .int .i64 v3]] w fun e w' => ((¬ stE t p1 p2 p3 v1 v2 v3 = 0 ∧ e = .returned (.tuple #[.agg #[.int .i64 0, .int .i64 0], .int .i64 (stE t p1 p2 p3 v1 v2 v3)])) ∨ (stE t p1 p2 p3 v1 v2 v3 = 0 ∧ PdOk (dia p1 p2 p3) (dia v1 v2 v3) ∧ e = .returned (.tuple #[.agg #[.int .i64 (shE (dia p1 p2 p3) (dia v1 v2 v3)).lo, .int .i64 (shE (dia p1 p2 p3) (dia v1 v2 v3)).hi], .int .i64 0])) ∨ (stE t p1 p2 p3 v1 v2 v3 = 0 ∧ ¬ PdOk (dia p1 p2 p3) (dia v1 v2 v3) ∧ e = .returned (.tuple #[.agg #[.int .i64 0, .int .i64 0], .int .i64 24]))) ∧ Ext w w' :=
 k_Period0 t p1 p2 p3 v1 v2 v3 (fun w1 => k_closed t p1 p2 p3 v1 v2 v3 w1 ip1 ip2 ip3 iv1 iv2 iv3) w
theorem ref_abs (a b : Int) (w : World) :
    Calls Tryz.prog 214 #[.agg #[.int .i64 a, .int .i64 b]] w fun e w' => e = .returned (.tuple #[.agg #[.int .i64 (absI a b).lo, .int .i64 (absI a b).hi], .int .i64 (absI a b).e]) ∧ Ext w w' := by
 rw [absI_made]
 go_enter Tryz.func214, Tryz.ntmps214
 go_wp2_with (first | (go_at_call 106; (with_reducible refine (ref_check _ _ _).mono ?_); rintro e w1 ⟨rfl, hb⟩; obtain ⟨_, _, hc, hf⟩ := hb.cells2; have hz := hb.size; (try simp only [World.size_alloc] at hz hc hf)) | (go_at_call 110; (with_reducible refine (ref_made _ _ _).mono ?_); rintro e w1 ⟨rfl, hb⟩; obtain ⟨_, _, hc, hf⟩ := hb.cells2; have hz := hb.size; (try simp only [wsz] at hz hc hf)))
 all_goals
  refine bodyPost_ret (v := .tuple #[.agg #[.int .i64 (absR a b).lo, .int .i64 (absR a b).hi], .int .i64 (absR a b).e]) ?_ rfl ⟨rfl, ?_⟩
  ·(try simp only [bne_iff_ne, ne_eq, bne_eq_false_iff_eq] at *)
   simp [results, Tryz.results214, go_sem, ↓IntWalk.iteOmega, absR, *]
  ·repeat (first | with_reducible exact Ext.refl _ | with_reducible assumption | with_reducible refine Ext.alloc ?_ _ | with_reducible refine Ext.setCell ?_ c_19 _ | with_reducible refine Ext.drewN ?_ _ | with_reducible refine Ext.drew ?_ | with_reducible refine Ext.trans ?_ c_1)
theorem ref_mul (a b c d : Int) (w : World) (ha : I64 a ∧ I64 b) (hc0 : I64 c ∧ I64 d) :
    Calls Tryz.prog 104 #[.agg #[.int .i64 a, .int .i64 b], .agg #[.int .i64 c, .int .i64 d]] w fun e w' => e = .returned (.tuple #[.agg #[.int .i64 (mulI a b c d).lo, .int .i64 (mulI a b c d).hi], .int .i64 (mulI a b c d).e]) ∧ Ext w w' := by
 obtain ⟨pa, pb⟩ := ha
 obtain ⟨pc, pd⟩ := hc0
 go_enter Tryz.func104, Tryz.ntmps104
 go_wp2_with (first | (go_at_call 165; (with_reducible refine (ref_both _ _ _ _ _).mono ?_); rintro e w1 ⟨rfl, hb⟩; obtain ⟨_, _, hc, hf⟩ := hb.cells2; have hz := hb.size; (try simp only [World.size_alloc] at hz hc hf)) | (go_at_call 166; (with_reducible refine (ref_ends _ _ _ _ _ ⟨by assumption, by assumption⟩ ⟨by assumption, by assumption⟩).mono ?_); rintro e w1 ⟨rfl, hb⟩; obtain ⟨_, _, hc, hf⟩ := hb.cells2; have hz := hb.size; (try simp only [wsz] at hz hc hf); (try have zz : w.heap.size < w1.heap.size ∧ (∀ j, w.heap.size < w1.heap.size + j) ∧ (¬ w.heap.size = w1.heap.size) ∧ (∀ j, ¬ w.heap.size = w1.heap.size + j) ∧ (¬ w1.heap.size = w.heap.size) ∧ (∀ j, ¬ w1.heap.size + j = w.heap.size) := c_6); (try have zz : w.heap.size + 1 < w1.heap.size ∧ (∀ j, w.heap.size + 1 < w1.heap.size + j) ∧ (¬ w.heap.size + 1 = w1.heap.size) ∧ (∀ j, ¬ w.heap.size + 1 = w1.heap.size + j) ∧ (¬ w1.heap.size = w.heap.size + 1) ∧ (∀ j, ¬ w1.heap.size + j = w.heap.size + 1) := c_6); (try have zz : w.heap.size + 1 + 1 < w1.heap.size ∧ (∀ j, w.heap.size + 1 + 1 < w1.heap.size + j) ∧ (¬ w.heap.size + 1 + 1 = w1.heap.size) ∧ (∀ j, ¬ w.heap.size + 1 + 1 = w1.heap.size + j) ∧ (¬ w1.heap.size = w.heap.size + 1 + 1) ∧ (∀ j, ¬ w1.heap.size + j = w.heap.size + 1 + 1) := c_6)))
 any_goals
  refine wp_name fun W hW => ?_
  obtain ⟨hWc, hWf, hWz⟩ := hW.cells
  have hWe : Ext w W := Ext.same hW ex_
  (try simp only [World.size_alloc] at hWz)
  go_region_held3 (fun w' => (∀ b o, b < W.heap.size → w'.cell? ⟨b, o, none⟩ = if b = w.heap.size + 1 + 1 ∧ 0 ≤ o ∧ o < 2 then (W.cell? ⟨b, o, none⟩).map (obx w' b o) else W.cell? ⟨b, o, none⟩) ∧ (∀ b o, b < W.heap.size → w'.frozen? ⟨b, o, none⟩ = W.frozen? ⟨b, o, none⟩) ∧ W.heap.size ≤ w'.heap.size ∧ Ext w w') (first | (with_reducible exact held0 hWe) | (with_reducible exact held1 c_1 c_1) | (with_reducible exact held3 c_1) | ((with_reducible refine held4 c_1 ?_ ?_) <;> omega) | (repeat (first | (with_reducible assumption) | (with_reducible refine held2 ?_ c_2 c_10)))) ((first | (go_at_call 111; (with_reducible refine (ref_over _ _ _ _ (min4_bound pa pb pc pd).1 (min4_bound pa pb pc pd).2 (by decide) (by decide)).mono ?_); rintro e w2 ⟨rfl, hb2⟩; have hz2 := hb2.size; (try rw [size_drew] at hz2)) | (go_at_call 111; (with_reducible refine (ref_over _ _ _ _ (max4_bound pa pb pc pd).1 (max4_bound pa pb pc pd).2 (by decide) (by decide)).mono ?_); rintro e w2 ⟨rfl, hb2⟩; have hz2 := hb2.size; (try rw [size_drew] at hz2)) | (go_at_call 110; (with_reducible refine (ref_made _ _ _).mono ?_); rintro e w2 ⟨rfl, hb2⟩; have hz2 := hb2.size; (try rw [size_drew] at hz2))))
  rename_i hOld
  have hE := hOld.2.2.2
  have hO := And.intro hOld.1 (And.intro hOld.2.1 hOld.2.2.1)
  clear hOld
  replace hO := heldBack hO c_2
  replace hO := heldBack hO c_2
  obtain ⟨hOc, hOf, hOz⟩ := heldEnd hO
  clear hO
 any_goals go_wp2_with fail
 all_goals
  refine bodyPost_ret (v := .tuple #[.agg #[.int .i64 (mulI a b c d).lo, .int .i64 (mulI a b c d).hi], .int .i64 (mulI a b c d).e]) ?_ rfl ⟨rfl, ?_⟩
  ·(try simp only [bne_iff_ne, ne_eq, bne_eq_false_iff_eq] at *)
   simp [results, Tryz.results104, go_sem, ↓IntWalk.iteOmega, mulI, ovS, *]
  ·repeat (first | with_reducible exact Ext.refl _ | with_reducible assumption | with_reducible refine Ext.alloc ?_ _ | with_reducible refine Ext.setCell ?_ c_19 _ | with_reducible refine Ext.drewN ?_ _ | with_reducible refine Ext.drew ?_ | with_reducible refine Ext.trans ?_ c_1)
theorem ref_sq (a b : Int) (w : World) (ha : I64 a) (hb0 : I64 b) :
    Calls Tryz.prog 191 #[.agg #[.int .i64 a, .int .i64 b]] w fun e w' => e = .returned (.tuple #[.agg #[.int .i64 (sqI a b).lo, .int .i64 (sqI a b).hi], .int .i64 (sqI a b).e]) ∧ Ext w w' := by
 obtain ⟨i1, i2⟩ := absI_I64 ha hb0
 rw [sqI_mul]
 go_enter Tryz.func191, Tryz.ntmps191
 go_wp2_with (first | (go_at_call 214; (with_reducible refine (ref_abs _ _ _).mono ?_); rintro e w1 ⟨rfl, hb⟩; obtain ⟨_, _, hc, hf⟩ := hb.cells2; have hz := hb.size; (try simp only [World.size_alloc] at hz hc hf)) | (go_at_call 104; (with_reducible refine (ref_mul _ _ _ _ _ ⟨by assumption, by assumption⟩ ⟨by assumption, by assumption⟩).mono ?_); rintro e w1 ⟨rfl, hb⟩; obtain ⟨_, _, hc, hf⟩ := hb.cells2; have hz := hb.size; (try simp only [World.size_alloc] at hz hc hf)))
 all_goals
  refine bodyPost_ret (v := .tuple #[.agg #[.int .i64 (sqR a b).lo, .int .i64 (sqR a b).hi], .int .i64 (sqR a b).e]) ?_ rfl ⟨rfl, ?_⟩
  ·(try simp only [bne_iff_ne, ne_eq, bne_eq_false_iff_eq] at *)
   simp [results, Tryz.results191, go_sem, ↓IntWalk.iteOmega, sqR, *]
  ·repeat (first | with_reducible exact Ext.refl _ | with_reducible assumption | with_reducible refine Ext.alloc ?_ _ | with_reducible refine Ext.setCell ?_ c_19 _ | with_reducible refine Ext.drewN ?_ _ | with_reducible refine Ext.drew ?_ | with_reducible refine Ext.trans ?_ c_1)
theorem c_keep (p : Nat) (E x y ee : Int) (w : World) (hc : w.cell? ⟨p, 0, none⟩ = some (.int .i64 E)) (hf : w.frozen? ⟨p, 0, none⟩ = false) :
    Calls Tryz.prog 49 #[.pointer (some ⟨p, 0, none⟩), .agg #[.int .i64 x, .int .i64 y], .int .i64 ee] w fun e w' => e = .returned (.agg #[.int .i64 (kpI E x y ee).lo, .int .i64 (kpI E x y ee).hi]) ∧ Ext (w.setCell ⟨p, 0, none⟩ (.int .i64 ((kpI E x y ee).e))) w' := by
 have hp : p < w.heap.size := World.block_lt_of_cell? w _ hc
 go_enter Tryz.func49, Tryz.ntmps49
 go_wp2_with fail
 all_goals
  refine bodyPost_ret (v := .agg #[.int .i64 (kpI E x y ee).lo, .int .i64 (kpI E x y ee).hi]) ?_ rfl ⟨rfl, ?_⟩
  ·(try simp only [bne_iff_ne, ne_eq, bne_eq_false_iff_eq, beq_iff_eq, beq_eq_false_iff_ne] at *)
   simp [results, Tryz.results49, go_sem, kpI, *]
  ·refine ExtP.fin ?_ ?_ hp
   ·(repeat (first | with_reducible exact ExtP.of _ _ (Ext.refl _) | with_reducible assumption | with_reducible refine ExtP.set ?_ | (with_reducible refine ExtP.store ?_ ?_; rotate_left; (focus ((try simp only [wsz]); omega))) | with_reducible refine ExtP.ext ?_ ((Ext.refl _).alloc _) | with_reducible refine ExtP.ext ?_ ((Ext.refl _).drew) | with_reducible refine ExtP.ext ?_ c_1))
   ·(try simp only [bne_iff_ne, ne_eq, bne_eq_false_iff_eq, beq_iff_eq, beq_eq_false_iff_ne] at *)
    simp [go_sem, kpI, *]
theorem c_add (p : Nat) (E a b c d : Int) (w : World) (hc : w.cell? ⟨p, 0, none⟩ = some (.int .i64 E)) (hf : w.frozen? ⟨p, 0, none⟩ = false) :
    Calls Tryz.prog 153 #[.pointer (some ⟨p, 0, none⟩), .agg #[.int .i64 a, .int .i64 b], .agg #[.int .i64 c, .int .i64 d]] w fun e w' => e = .returned (.agg #[.int .i64 (doI E (addI a b c d)).lo, .int .i64 (doI E (addI a b c d)).hi]) ∧ Ext (w.setCell ⟨p, 0, none⟩ (.int .i64 ((doI E (addI a b c d)).e))) w' := by
 have hp : p < w.heap.size := World.block_lt_of_cell? w _ hc
 rw [← kp_do (addI_Z _ _ _ _)]
 go_enter Tryz.func153, Tryz.ntmps153
 go_wp2_with (first | (go_at_call 192; (with_reducible refine (ref_add _ _ _ _ _).mono ?_); rintro e w1 ⟨rfl, hb⟩; obtain ⟨_, _, hc, hf⟩ := hb.cells2; have hz := hb.size; (try simp only [World.size_alloc] at hz hc hf)) | (go_at_call 49; (with_reducible refine (c_keep _ E _ _ _ _ c_27 c_27).mono ?_); rintro e w1 ⟨rfl, hb⟩; obtain ⟨_, _, hc, hf⟩ := hb.cells2; have hz := hb.size; (try simp only [World.size_setCell] at hz hc hf)))
 all_goals
  refine bodyPost_ret (v := .agg #[.int .i64 (kpI E (addI a b c d).lo (addI a b c d).hi (addI a b c d).e).lo, .int .i64 (kpI E (addI a b c d).lo (addI a b c d).hi (addI a b c d).e).hi]) ?_ rfl ⟨rfl, ?_⟩
  ·(try simp only [] at *)
   simp [results, Tryz.results153, go_sem, ↓IntWalk.iteOmega, kpI, *]
  ·refine ExtP.fin ?_ ?_ hp
   ·(repeat (first | with_reducible exact ExtP.of _ _ (Ext.refl _) | with_reducible assumption | with_reducible refine ExtP.set ?_ | (with_reducible refine ExtP.store ?_ ?_; rotate_left; (focus ((try simp only []); omega))) | with_reducible refine ExtP.ext ?_ ((Ext.refl _).alloc _) | with_reducible refine ExtP.ext ?_ ((Ext.refl _).drew) | with_reducible refine ExtP.ext ?_ c_1))
   ·(try simp only [bne_iff_ne, ne_eq, bne_eq_false_iff_eq, beq_iff_eq, beq_eq_false_iff_ne] at *)
    simp [go_sem, ↓IntWalk.iteOmega, kpI, *]
theorem c_sub (p : Nat) (E a b c d : Int) (w : World) (hc : w.cell? ⟨p, 0, none⟩ = some (.int .i64 E)) (hf : w.frozen? ⟨p, 0, none⟩ = false) :
    Calls Tryz.prog 89 #[.pointer (some ⟨p, 0, none⟩), .agg #[.int .i64 a, .int .i64 b], .agg #[.int .i64 c, .int .i64 d]] w fun e w' => e = .returned (.agg #[.int .i64 (doI E (subI a b c d)).lo, .int .i64 (doI E (subI a b c d)).hi]) ∧ Ext (w.setCell ⟨p, 0, none⟩ (.int .i64 ((doI E (subI a b c d)).e))) w' := by
 have hp : p < w.heap.size := World.block_lt_of_cell? w _ hc
 rw [← kp_do (subI_Z _ _ _ _)]
 go_enter Tryz.func89, Tryz.ntmps89
 go_wp2_with (first | (go_at_call 154; (with_reducible refine (ref_sub _ _ _ _ _).mono ?_); rintro e w1 ⟨rfl, hb⟩; obtain ⟨_, _, hc, hf⟩ := hb.cells2; have hz := hb.size; (try simp only [World.size_alloc] at hz hc hf)) | (go_at_call 49; (with_reducible refine (c_keep _ E _ _ _ _ c_27 c_27).mono ?_); rintro e w1 ⟨rfl, hb⟩; obtain ⟨_, _, hc, hf⟩ := hb.cells2; have hz := hb.size; (try simp only [World.size_setCell] at hz hc hf)))
 all_goals
  refine bodyPost_ret (v := .agg #[.int .i64 (kpI E (subI a b c d).lo (subI a b c d).hi (subI a b c d).e).lo, .int .i64 (kpI E (subI a b c d).lo (subI a b c d).hi (subI a b c d).e).hi]) ?_ rfl ⟨rfl, ?_⟩
  ·(try simp only [] at *)
   simp [results, Tryz.results89, go_sem, ↓IntWalk.iteOmega, kpI, *]
  ·refine ExtP.fin ?_ ?_ hp
   ·(repeat (first | with_reducible exact ExtP.of _ _ (Ext.refl _) | with_reducible assumption | with_reducible refine ExtP.set ?_ | (with_reducible refine ExtP.store ?_ ?_; rotate_left; (focus ((try simp only []); omega))) | with_reducible refine ExtP.ext ?_ ((Ext.refl _).alloc _) | with_reducible refine ExtP.ext ?_ ((Ext.refl _).drew) | with_reducible refine ExtP.ext ?_ c_1))
   ·(try simp only [bne_iff_ne, ne_eq, bne_eq_false_iff_eq, beq_iff_eq, beq_eq_false_iff_ne] at *)
    simp [go_sem, ↓IntWalk.iteOmega, kpI, *]
theorem c_mul (p : Nat) (E a b c d : Int) (w : World) (hc : w.cell? ⟨p, 0, none⟩ = some (.int .i64 E)) (hf : w.frozen? ⟨p, 0, none⟩ = false) (ha : I64 a ∧ I64 b) (hc0 : I64 c ∧ I64 d) :
    Calls Tryz.prog 47 #[.pointer (some ⟨p, 0, none⟩), .agg #[.int .i64 a, .int .i64 b], .agg #[.int .i64 c, .int .i64 d]] w fun e w' => e = .returned (.agg #[.int .i64 (doI E (mulI a b c d)).lo, .int .i64 (doI E (mulI a b c d)).hi]) ∧ Ext (w.setCell ⟨p, 0, none⟩ (.int .i64 ((doI E (mulI a b c d)).e))) w' := by
 have hp : p < w.heap.size := World.block_lt_of_cell? w _ hc
 rw [← kp_do (mulI_Z _ _ _ _)]
 go_enter Tryz.func47, Tryz.ntmps47
 go_wp2_with (first | (go_at_call 104; (with_reducible refine (ref_mul _ _ _ _ _ ha hc0).mono ?_); rintro e w1 ⟨rfl, hb⟩; obtain ⟨_, _, hc, hf⟩ := hb.cells2; have hz := hb.size; (try simp only [World.size_alloc] at hz hc hf)) | (go_at_call 49; (with_reducible refine (c_keep _ E _ _ _ _ c_27 c_27).mono ?_); rintro e w1 ⟨rfl, hb⟩; obtain ⟨_, _, hc, hf⟩ := hb.cells2; have hz := hb.size; (try simp only [World.size_setCell] at hz hc hf)))
 all_goals
  refine bodyPost_ret (v := .agg #[.int .i64 (kpI E (mulI a b c d).lo (mulI a b c d).hi (mulI a b c d).e).lo, .int .i64 (kpI E (mulI a b c d).lo (mulI a b c d).hi (mulI a b c d).e).hi]) ?_ rfl ⟨rfl, ?_⟩
  ·(try simp only [] at *)
   simp [results, Tryz.results47, go_sem, ↓IntWalk.iteOmega, kpI, *]
  ·refine ExtP.fin ?_ ?_ hp
   ·(repeat (first | with_reducible exact ExtP.of _ _ (Ext.refl _) | with_reducible assumption | with_reducible refine ExtP.set ?_ | (with_reducible refine ExtP.store ?_ ?_; rotate_left; (focus ((try simp only []); omega))) | with_reducible refine ExtP.ext ?_ ((Ext.refl _).alloc _) | with_reducible refine ExtP.ext ?_ ((Ext.refl _).drew) | with_reducible refine ExtP.ext ?_ c_1))
   ·(try simp only [bne_iff_ne, ne_eq, bne_eq_false_iff_eq, beq_iff_eq, beq_eq_false_iff_ne] at *)
    simp [go_sem, ↓IntWalk.iteOmega, kpI, *]
theorem c_sq (p : Nat) (E a b : Int) (w : World) (hc : w.cell? ⟨p, 0, none⟩ = some (.int .i64 E)) (hf : w.frozen? ⟨p, 0, none⟩ = false) (ha : I64 a) (hb0 : I64 b) :
    Calls Tryz.prog 152 #[.pointer (some ⟨p, 0, none⟩), .agg #[.int .i64 a, .int .i64 b]] w fun e w' => e = .returned (.agg #[.int .i64 (doI E (sqI a b)).lo, .int .i64 (doI E (sqI a b)).hi]) ∧ Ext (w.setCell ⟨p, 0, none⟩ (.int .i64 ((doI E (sqI a b)).e))) w' := by
 have hp : p < w.heap.size := World.block_lt_of_cell? w _ hc
 rw [← kp_do (sqI_Z _ _)]
 go_enter Tryz.func152, Tryz.ntmps152
 go_wp2_with (first | (go_at_call 191; (with_reducible refine (ref_sq _ _ _ ha hb0).mono ?_); rintro e w1 ⟨rfl, hb⟩; obtain ⟨_, _, hc, hf⟩ := hb.cells2; have hz := hb.size; (try simp only [World.size_alloc] at hz hc hf)) | (go_at_call 49; (with_reducible refine (c_keep _ E _ _ _ _ c_35 c_35).mono ?_); rintro e w1 ⟨rfl, hb⟩; obtain ⟨_, _, hc, hf⟩ := hb.cells2; have hz := hb.size; (try simp only [World.size_setCell] at hz hc hf)))
 all_goals
  refine bodyPost_ret (v := .agg #[.int .i64 (kpI E (sqI a b).lo (sqI a b).hi (sqI a b).e).lo, .int .i64 (kpI E (sqI a b).lo (sqI a b).hi (sqI a b).e).hi]) ?_ rfl ⟨rfl, ?_⟩
  ·(try simp only [] at *)
   simp [results, Tryz.results152, go_sem, ↓IntWalk.iteOmega, kpI, *]
  ·refine ExtP.fin ?_ ?_ hp
   ·(repeat (first | with_reducible exact ExtP.of _ _ (Ext.refl _) | with_reducible assumption | with_reducible refine ExtP.set ?_ | (with_reducible refine ExtP.store ?_ ?_; rotate_left; (focus ((try simp only []); omega))) | with_reducible refine ExtP.ext ?_ ((Ext.refl _).alloc _) | with_reducible refine ExtP.ext ?_ ((Ext.refl _).drew) | with_reducible refine ExtP.ext ?_ c_1))
   ·(try simp only [bne_iff_ne, ne_eq, bne_eq_false_iff_eq, beq_iff_eq, beq_eq_false_iff_ne] at *)
    simp [go_sem, ↓IntWalk.iteOmega, kpI, *]
theorem size_drewN (w : World) (n : Nat) : (w.drewN n).heap.size = w.heap.size := rfl
theorem rdiv_p (a b c d : Int) (w : World) (hk : ck2 a b c d = 0) (h0 : 0 < c) :
    Calls Tryz.prog 105 #[.agg #[.int .i64 a, .int .i64 b], .agg #[.int .i64 c, .int .i64 d]] w fun e w' => e = .returned (.tuple #[.agg #[.int .i64 (divP a b c d).lo, .int .i64 (divP a b c d).hi], .int .i64 (divP a b c d).e]) ∧ Ext w w' := by
 obtain ⟨hk1, hk2⟩ := ck2_ok hk
 obtain ⟨ka1, ka2, ka3⟩ := ckI_ok hk1
 obtain ⟨kc1, kc2, kc3⟩ := ckI_ok hk2
 have hM : I64 1099511627776 := by unfold I64; omega
 have hA : I64 a := by unfold I64; omega
 have hB : I64 b := by unfold I64; omega
 have ec : IntKind.u64.wrap c = c := by rw [IntKind.wrap_u64]; omega
 have ed : IntKind.u64.wrap d = d := by rw [IntKind.wrap_u64]; omega
 go_enter Tryz.func105, Tryz.ntmps105
 go_upto_region 7 with (first | (go_at_call 165; (with_reducible refine (ref_both _ _ _ _ _).mono ?_); rintro e w1 ⟨rfl, hb⟩; obtain ⟨_, _, hc, hf⟩ := hb.cells2; have hz := hb.size; (try simp only [wsz] at hz hc hf)))
 refine wp_name fun W hW => ?_
 obtain ⟨hWc, hWf, hWz⟩ := hW.cells
 have hWe : Ext w W := Ext.same hW ex_
 (try simp only [wsz] at hWz)
 (try simp only [size_drew, size_drewN, World.size_alloc, World.size_setCell] at hWz)
 replace hWz := And.intro (Nat.le_of_eq hWz) (Nat.le_of_eq hWz.symm)
 have hlt : w.heap.size < W.heap.size ∧ w.heap.size + 1 < W.heap.size ∧ w.heap.size + 1 + 1 < W.heap.size := c_51
 have hd : ¬ w.heap.size = w.heap.size + 1 ∧ ¬ w.heap.size = w.heap.size + 1 + 1 ∧ ¬ w.heap.size + 1 = w.heap.size ∧ ¬ w.heap.size + 1 = w.heap.size + 1 + 1 ∧ ¬ w.heap.size + 1 + 1 = w.heap.size ∧ ¬ w.heap.size + 1 + 1 = w.heap.size + 1 := c_26
 go_region_held3 (fun w' => (∀ b o, b < W.heap.size → w'.cell? ⟨b, o, none⟩ = if b = w.heap.size ∧ 0 ≤ o ∧ o < 0 then (W.cell? ⟨b, o, none⟩).map (obx w' b o) else W.cell? ⟨b, o, none⟩) ∧ (∀ b o, b < W.heap.size → w'.frozen? ⟨b, o, none⟩ = W.frozen? ⟨b, o, none⟩) ∧ W.heap.size ≤ w'.heap.size ∧ Ext w w') (first | (with_reducible exact held0 hWe) | (with_reducible exact held1 c_1 c_1) | (with_reducible exact held3 c_1) | ((with_reducible refine held4 c_1 ?_ ?_) <;> omega) | (repeat (first | (with_reducible assumption) | (with_reducible refine held2 ?_ c_2 c_10)))) (fail)
 all_goals
  rename_i hOld
  have hE := hOld.2.2.2
  have hO := And.intro hOld.1 (And.intro hOld.2.1 hOld.2.2.1)
  clear hOld
  obtain ⟨hOc, hOf, hOz⟩ := heldEnd hO
  clear hO
  go_wp2_with fail
  all_goals
   refine wp_name fun W hW => ?_
   obtain ⟨hWc, hWf, hWz⟩ := hW.cells
   have hWe : Ext w W := Ext.same hW ex_
   (try simp only [wsz] at hWz)
   (try simp only [size_drew, size_drewN, World.size_alloc, World.size_setCell] at hWz)
   replace hWz := And.intro (Nat.le_of_eq hWz) (Nat.le_of_eq hWz.symm)
   have hlt : w.heap.size < W.heap.size ∧ w.heap.size + 1 < W.heap.size ∧ w.heap.size + 1 + 1 < W.heap.size := c_51
   have hd : ¬ w.heap.size = w.heap.size + 1 ∧ ¬ w.heap.size = w.heap.size + 1 + 1 ∧ ¬ w.heap.size + 1 = w.heap.size ∧ ¬ w.heap.size + 1 = w.heap.size + 1 + 1 ∧ ¬ w.heap.size + 1 + 1 = w.heap.size ∧ ¬ w.heap.size + 1 + 1 = w.heap.size + 1 := c_26
   go_region_held3 (fun w' => (∀ b o, b < W.heap.size → w'.cell? ⟨b, o, none⟩ = if b = w.heap.size + 1 + 1 ∧ 0 ≤ o ∧ o < 2 then (W.cell? ⟨b, o, none⟩).map (obx w' b o) else W.cell? ⟨b, o, none⟩) ∧ (∀ b o, b < W.heap.size → w'.frozen? ⟨b, o, none⟩ = W.frozen? ⟨b, o, none⟩) ∧ W.heap.size ≤ w'.heap.size ∧ Ext w w') (first | (with_reducible exact held0 hWe) | (with_reducible exact held1 c_1 c_1) | (with_reducible exact held3 c_1) | ((with_reducible refine held4 c_1 ?_ ?_) <;> omega) | (repeat (first | (with_reducible assumption) | (with_reducible refine held2 ?_ c_2 c_10)))) ((first | (go_at_call 107; (with_reducible refine (ref_times _ _ _ hA hM).mono ?_); rintro e w2 ⟨rfl, hb2⟩; have hz2 := hb2.size; (try rw [size_drew] at hz2)) | (go_at_call 107; (with_reducible refine (ref_times _ _ _ hB hM).mono ?_); rintro e w2 ⟨rfl, hb2⟩; have hz2 := hb2.size; (try rw [size_drew] at hz2)) | (go_at_call 111; (with_reducible refine (ref_over _ _ _ _ (abs_mul_bound hA hM).1 (abs_mul_bound hA hM).2 (by omega) (by omega)).mono ?_); rintro e w2 ⟨rfl, hb2⟩; have hz2 := hb2.size; (try rw [size_drew] at hz2)) | (go_at_call 111; (with_reducible refine (ref_over _ _ _ _ (abs_mul_bound hB hM).1 (abs_mul_bound hB hM).2 (by omega) (by omega)).mono ?_); rintro e w2 ⟨rfl, hb2⟩; have hz2 := hb2.size; (try rw [size_drew] at hz2)) | (go_at_call 110; (with_reducible refine (ref_made _ _ _).mono ?_); rintro e w2 ⟨rfl, hb2⟩; have hz2 := hb2.size; (try rw [size_drew] at hz2))))
   all_goals
    rename_i hOld
    have hE := hOld.2.2.2
    have hO := And.intro hOld.1 (And.intro hOld.2.1 hOld.2.2.1)
    clear hOld
    replace hO := heldBack hO c_2
    replace hO := heldBack hO c_2
    obtain ⟨hOc, hOf, hOz⟩ := heldEnd hO
    clear hO
    go_wp2_with fail
    refine bodyPost_ret (v := .tuple #[.agg #[.int .i64 (divP a b c d).lo, .int .i64 (divP a b c d).hi], .int .i64 (divP a b c d).e]) ?_ rfl ⟨rfl, ?_⟩
    ·(try simp only [bne_iff_ne, ne_eq, bne_eq_false_iff_eq, beq_iff_eq, beq_eq_false_iff_ne] at *)
     simp [results, Tryz.results105, go_sem, ↓IntWalk.iteOmega, divP, ovS, *]
    ·exact ex_
theorem rdiv_n (a b c d : Int) (w : World) (hk : ck2 a b c d = 0) (h0 : d < 0) :
    Calls Tryz.prog 105 #[.agg #[.int .i64 a, .int .i64 b], .agg #[.int .i64 c, .int .i64 d]] w fun e w' => e = .returned (.tuple #[.agg #[.int .i64 (divP (-b) (-a) (-d) (-c)).lo, .int .i64 (divP (-b) (-a) (-d) (-c)).hi], .int .i64 (divP (-b) (-a) (-d) (-c)).e]) ∧ Ext w w' := by
 obtain ⟨hk1, hk2⟩ := ck2_ok hk
 obtain ⟨ka1, ka2, ka3⟩ := ckI_ok hk1
 obtain ⟨kc1, kc2, kc3⟩ := ckI_ok hk2
 have hM : I64 1099511627776 := by unfold I64; omega
 have hA : I64 (-b) := by unfold I64; omega
 have hB : I64 (-a) := by unfold I64; omega
 have n1 : IntKind.i64.wrap (-b) = -b := by rw [IntKind.wrap_i64]; omega
 have n2 : IntKind.i64.wrap (-a) = -a := by rw [IntKind.wrap_i64]; omega
 have n3 : IntKind.i64.wrap (-d) = -d := by rw [IntKind.wrap_i64]; omega
 have n4 : IntKind.i64.wrap (-c) = -c := by rw [IntKind.wrap_i64]; omega
 have ec : IntKind.u64.wrap (-d) = -d := by rw [IntKind.wrap_u64]; omega
 have ed : IntKind.u64.wrap (-c) = -c := by rw [IntKind.wrap_u64]; omega
 go_enter Tryz.func105, Tryz.ntmps105
 go_upto_region 6 with (first | (go_at_call 165; (with_reducible refine (ref_both _ _ _ _ _).mono ?_); rintro e w1 ⟨rfl, hb⟩; obtain ⟨_, _, hc, hf⟩ := hb.cells2; have hz := hb.size; (try simp only [wsz] at hz hc hf)))
 go_region
 go_upto_region 7 with (first | (go_at_call 165; (with_reducible refine (ref_both _ _ _ _ _).mono ?_); rintro e w1 ⟨rfl, hb⟩; obtain ⟨_, _, hc, hf⟩ := hb.cells2; have hz := hb.size; (try simp only [wsz] at hz hc hf)))
 refine wp_name fun W hW => ?_
 obtain ⟨hWc, hWf, hWz⟩ := hW.cells
 have hWe : Ext w W := Ext.same hW ex_
 (try simp only [wsz] at hWz)
 (try simp only [size_drew, size_drewN, World.size_alloc, World.size_setCell] at hWz)
 replace hWz := And.intro (Nat.le_of_eq hWz) (Nat.le_of_eq hWz.symm)
 have hlt : w.heap.size < W.heap.size ∧ w.heap.size + 1 < W.heap.size ∧ w.heap.size + 1 + 1 < W.heap.size := c_51
 have hd : ¬ w.heap.size = w.heap.size + 1 ∧ ¬ w.heap.size = w.heap.size + 1 + 1 ∧ ¬ w.heap.size + 1 = w.heap.size ∧ ¬ w.heap.size + 1 = w.heap.size + 1 + 1 ∧ ¬ w.heap.size + 1 + 1 = w.heap.size ∧ ¬ w.heap.size + 1 + 1 = w.heap.size + 1 := c_26
 go_region_held3 (fun w' => (∀ b o, b < W.heap.size → w'.cell? ⟨b, o, none⟩ = if b = w.heap.size ∧ 0 ≤ o ∧ o < 0 then (W.cell? ⟨b, o, none⟩).map (obx w' b o) else W.cell? ⟨b, o, none⟩) ∧ (∀ b o, b < W.heap.size → w'.frozen? ⟨b, o, none⟩ = W.frozen? ⟨b, o, none⟩) ∧ W.heap.size ≤ w'.heap.size ∧ Ext w w') (first | (with_reducible exact held0 hWe) | (with_reducible exact held1 c_1 c_1) | (with_reducible exact held3 c_1) | ((with_reducible refine held4 c_1 ?_ ?_) <;> omega) | (repeat (first | (with_reducible assumption) | (with_reducible refine held2 ?_ c_2 c_10)))) (fail)
 all_goals
  rename_i hOld
  have hE := hOld.2.2.2
  have hO := And.intro hOld.1 (And.intro hOld.2.1 hOld.2.2.1)
  clear hOld
  obtain ⟨hOc, hOf, hOz⟩ := heldEnd hO
  clear hO
  go_wp2_with fail
  all_goals
   refine wp_name fun W hW => ?_
   obtain ⟨hWc, hWf, hWz⟩ := hW.cells
   have hWe : Ext w W := Ext.same hW ex_
   (try simp only [wsz] at hWz)
   (try simp only [size_drew, size_drewN, World.size_alloc, World.size_setCell] at hWz)
   replace hWz := And.intro (Nat.le_of_eq hWz) (Nat.le_of_eq hWz.symm)
   have hlt : w.heap.size < W.heap.size ∧ w.heap.size + 1 < W.heap.size ∧ w.heap.size + 1 + 1 < W.heap.size := c_51
   have hd : ¬ w.heap.size = w.heap.size + 1 ∧ ¬ w.heap.size = w.heap.size + 1 + 1 ∧ ¬ w.heap.size + 1 = w.heap.size ∧ ¬ w.heap.size + 1 = w.heap.size + 1 + 1 ∧ ¬ w.heap.size + 1 + 1 = w.heap.size ∧ ¬ w.heap.size + 1 + 1 = w.heap.size + 1 := c_26
   go_region_held3 (fun w' => (∀ b o, b < W.heap.size → w'.cell? ⟨b, o, none⟩ = if b = w.heap.size + 1 + 1 ∧ 0 ≤ o ∧ o < 2 then (W.cell? ⟨b, o, none⟩).map (obx w' b o) else W.cell? ⟨b, o, none⟩) ∧ (∀ b o, b < W.heap.size → w'.frozen? ⟨b, o, none⟩ = W.frozen? ⟨b, o, none⟩) ∧ W.heap.size ≤ w'.heap.size ∧ Ext w w') (first | (with_reducible exact held0 hWe) | (with_reducible exact held1 c_1 c_1) | (with_reducible exact held3 c_1) | ((with_reducible refine held4 c_1 ?_ ?_) <;> omega) | (repeat (first | (with_reducible assumption) | (with_reducible refine held2 ?_ c_2 c_10)))) ((first | (go_at_call 107; (with_reducible refine (ref_times _ _ _ hA hM).mono ?_); rintro e w2 ⟨rfl, hb2⟩; have hz2 := hb2.size; (try rw [size_drew] at hz2)) | (go_at_call 107; (with_reducible refine (ref_times _ _ _ hB hM).mono ?_); rintro e w2 ⟨rfl, hb2⟩; have hz2 := hb2.size; (try rw [size_drew] at hz2)) | (go_at_call 111; (with_reducible refine (ref_over _ _ _ _ (abs_mul_bound hA hM).1 (abs_mul_bound hA hM).2 (by omega) (by omega)).mono ?_); rintro e w2 ⟨rfl, hb2⟩; have hz2 := hb2.size; (try rw [size_drew] at hz2)) | (go_at_call 111; (with_reducible refine (ref_over _ _ _ _ (abs_mul_bound hB hM).1 (abs_mul_bound hB hM).2 (by omega) (by omega)).mono ?_); rintro e w2 ⟨rfl, hb2⟩; have hz2 := hb2.size; (try rw [size_drew] at hz2)) | (go_at_call 110; (with_reducible refine (ref_made _ _ _).mono ?_); rintro e w2 ⟨rfl, hb2⟩; have hz2 := hb2.size; (try rw [size_drew] at hz2))))
   all_goals
    rename_i hOld
    have hE := hOld.2.2.2
    have hO := And.intro hOld.1 (And.intro hOld.2.1 hOld.2.2.1)
    clear hOld
    replace hO := heldBack hO c_2
    replace hO := heldBack hO c_2
    obtain ⟨hOc, hOf, hOz⟩ := heldEnd hO
    clear hO
    go_wp2_with fail
    refine bodyPost_ret (v := .tuple #[.agg #[.int .i64 (divP (-b) (-a) (-d) (-c)).lo, .int .i64 (divP (-b) (-a) (-d) (-c)).hi], .int .i64 (divP (-b) (-a) (-d) (-c)).e]) ?_ rfl ⟨rfl, ?_⟩
    ·(try simp only [bne_iff_ne, ne_eq, bne_eq_false_iff_eq, beq_iff_eq, beq_eq_false_iff_ne] at *)
     simp [results, Tryz.results105, go_sem, ↓IntWalk.iteOmega, divP, ovS, *]
    ·exact ex_
theorem rdiv_e (a b c d : Int) (w : World) (hk : ¬ ck2 a b c d = 0) :
    Calls Tryz.prog 105 #[.agg #[.int .i64 a, .int .i64 b], .agg #[.int .i64 c, .int .i64 d]] w fun e w' => e = .returned (.tuple #[.agg #[.int .i64 (R3.mk 0 0 (ck2 a b c d)).lo, .int .i64 (R3.mk 0 0 (ck2 a b c d)).hi], .int .i64 (R3.mk 0 0 (ck2 a b c d)).e]) ∧ Ext w w' := by
 go_enter Tryz.func105, Tryz.ntmps105
 go_wp2_with (first | (go_at_call 165; (with_reducible refine (ref_both _ _ _ _ _).mono ?_); rintro e w1 ⟨rfl, hb⟩; obtain ⟨_, _, hc, hf⟩ := hb.cells2; have hz := hb.size; (try simp only [wsz] at hz hc hf)))
 all_goals
  refine bodyPost_ret (v := .tuple #[.agg #[.int .i64 (R3.mk 0 0 (ck2 a b c d)).lo, .int .i64 (R3.mk 0 0 (ck2 a b c d)).hi], .int .i64 (R3.mk 0 0 (ck2 a b c d)).e]) ?_ rfl ⟨rfl, ?_⟩
  ·(try simp only [bne_iff_ne, ne_eq, bne_eq_false_iff_eq, beq_iff_eq, beq_eq_false_iff_ne] at *)
   simp [results, Tryz.results105, go_sem, ↓IntWalk.iteOmega, ne_eq, *]
  ·exact ex_
theorem rdiv_z (a b c d : Int) (w : World) (hk : ck2 a b c d = 0) (h0 : c ≤ 0) (h1 : 0 ≤ d) :
    Calls Tryz.prog 105 #[.agg #[.int .i64 a, .int .i64 b], .agg #[.int .i64 c, .int .i64 d]] w fun e w' => e = .returned (.tuple #[.agg #[.int .i64 (R3.mk 0 0 18).lo, .int .i64 (R3.mk 0 0 18).hi], .int .i64 (R3.mk 0 0 18).e]) ∧ Ext w w' := by
 go_enter Tryz.func105, Tryz.ntmps105
 go_wp2_with (first | (go_at_call 165; (with_reducible refine (ref_both _ _ _ _ _).mono ?_); rintro e w1 ⟨rfl, hb⟩; obtain ⟨_, _, hc, hf⟩ := hb.cells2; have hz := hb.size; (try simp only [wsz] at hz hc hf)))
 all_goals
  refine bodyPost_ret (v := .tuple #[.agg #[.int .i64 (R3.mk 0 0 18).lo, .int .i64 (R3.mk 0 0 18).hi], .int .i64 (R3.mk 0 0 18).e]) ?_ rfl ⟨rfl, ?_⟩
  ·(try simp only [bne_iff_ne, ne_eq, bne_eq_false_iff_eq, beq_iff_eq, beq_eq_false_iff_ne] at *)
   simp [results, Tryz.results105, go_sem, ↓IntWalk.iteOmega, ne_eq, *]
  ·exact ex_
theorem ref_div (a b c d : Int) (w : World) :
    Calls Tryz.prog 105 #[.agg #[.int .i64 a, .int .i64 b], .agg #[.int .i64 c, .int .i64 d]] w fun e w' => e = .returned (.tuple #[.agg #[.int .i64 (divI a b c d).lo, .int .i64 (divI a b c d).hi], .int .i64 (divI a b c d).e]) ∧ Ext w w' := by
 by_cases hk : ck2 a b c d = 0
 ·by_cases h0 : c ≤ 0 ∧ 0 ≤ d
  ·have e : divI a b c d = ⟨0, 0, 18⟩ := by unfold divI; rw [if_neg c_46, if_pos h0]
   rw [e]; exact rdiv_z a b c d w hk h0.1 h0.2
  ·have hc := (ckI_ok (ck2_ok hk).2).1
   by_cases h1 : d < 0
   ·have e : divI a b c d = divP (-b) (-a) (-d) (-c) := by unfold divI; rw [if_neg c_46, if_neg h0, if_pos h1]
    rw [e]; exact rdiv_n a b c d w hk h1
   ·have e : divI a b c d = divP a b c d := by unfold divI; rw [if_neg c_46, if_neg h0, if_neg h1]
    rw [e]; exact rdiv_p a b c d w hk (by omega)
 ·have e : divI a b c d = ⟨0, 0, ck2 a b c d⟩ := by unfold divI; rw [if_pos c_46]
  rw [e]; exact rdiv_e a b c d w hk
end Go.Proofs.YtogblocakccbgaaGreat
