/- planisphereref17: Div; sqrt.; planisphereref33: whole, Check.; planisphereref17: checks of vectors; results.; planisphereref17: products of vectors.; planisphereref17: sums of vectors. -/
import Derived.Test.YtogblocakccbgaaGreatJ00
import Derived.Test.YtogblocakccbgaaGreatJ44
import Derived.Test.YtogblocakccbgaaGreatJ20
import Derived.Test.YtogblocakccbgaaGreatJ38
set_option linter.unusedSimpArgs false
set_option linter.unusedVariables false
set_option maxRecDepth 100000
set_option maxHeartbeats 4000000
namespace Go.Proofs.YtogblocakccbgaaGreat
open Go.RowKit
theorem sqrtI_Z (a b : Int) : (sqrtI a b).Z := by
 unfold sqrtI R3.Z
 split
 ·intro _; exact ⟨rfl, rfl⟩
 ·split
  ·intro _; exact ⟨rfl, rfl⟩
  ·intro h; exact absurd rfl h
theorem c_div (p : Nat) (E a b c d : Int) (w : World) (hc : w.cell? ⟨p, 0, none⟩ = some (.int .i64 E)) (hf : w.frozen? ⟨p, 0, none⟩ = false) :
    Calls Tryz.prog 48 #[.pointer (some ⟨p, 0, none⟩), .agg #[.int .i64 a, .int .i64 b], .agg #[.int .i64 c, .int .i64 d]] w fun e w' => e = .returned (.agg #[.int .i64 (doI E (divI a b c d)).lo, .int .i64 (doI E (divI a b c d)).hi]) ∧ Ext (w.setCell ⟨p, 0, none⟩ (.int .i64 ((doI E (divI a b c d)).e))) w' := by
 have hp : p < w.heap.size := World.block_lt_of_cell? w _ hc
 rw [← kp_do (divI_Z _ _ _ _)]
 go_enter Tryz.func48, Tryz.ntmps48
 go_wp2_with (first | (go_at_call 105; (with_reducible refine (ref_div _ _ _ _ _).mono ?_); rintro e w1 ⟨rfl, hb⟩; obtain ⟨_, _, hc, hf⟩ := hb.cells2; have hz := hb.size; (try simp only [wsz] at hz hc hf)) | (go_at_call 49; (with_reducible refine (c_keep _ E _ _ _ _ c_27 c_27).mono ?_); rintro e w1 ⟨rfl, hb⟩; obtain ⟨_, _, hc, hf⟩ := hb.cells2; have hz := hb.size; (try simp only [wsz] at hz hc hf)))
 all_goals
  refine bodyPost_ret (v := .agg #[.int .i64 (kpI E (divI a b c d).lo (divI a b c d).hi (divI a b c d).e).lo, .int .i64 (kpI E (divI a b c d).lo (divI a b c d).hi (divI a b c d).e).hi]) ?_ rfl ⟨rfl, ?_⟩
  ·(try simp only [bne_iff_ne, ne_eq, bne_eq_false_iff_eq, beq_iff_eq, beq_eq_false_iff_ne] at *)
   simp [results, Tryz.results48, go_sem, ↓IntWalk.iteOmega, kpI, *]
  ·refine ExtP.fin ?_ ?_ hp
   ·(repeat (first | with_reducible refine ExtP.set ?_ | (with_reducible refine ExtP.store ?_ ?_; rotate_left; (focus ((try simp only [wsz]); omega))) | with_reducible refine ExtP.ext ?_ ((Ext.refl _).alloc _) | with_reducible refine ExtP.ext ?_ ((Ext.refl _).drew) | with_reducible assumption | with_reducible exact ExtP.of _ _ (Ext.refl w) | with_reducible refine ExtP.ext ?_ c_1))
   ·(try simp only [bne_iff_ne, ne_eq, bne_eq_false_iff_eq, beq_iff_eq, beq_eq_false_iff_ne] at *)
    simp [go_sem, ↓IntWalk.iteOmega, kpI, *]
theorem c_sqrt (p : Nat) (E a b : Int) (w : World) (hc : w.cell? ⟨p, 0, none⟩ = some (.int .i64 E)) (hf : w.frozen? ⟨p, 0, none⟩ = false) :
    Calls Tryz.prog 45 #[.pointer (some ⟨p, 0, none⟩), .agg #[.int .i64 a, .int .i64 b]] w fun e w' => e = .returned (.agg #[.int .i64 (doI E (sqrtI a b)).lo, .int .i64 (doI E (sqrtI a b)).hi]) ∧ Ext (w.setCell ⟨p, 0, none⟩ (.int .i64 ((doI E (sqrtI a b)).e))) w' := by
 have hp : p < w.heap.size := World.block_lt_of_cell? w _ hc
 rw [← kp_do (sqrtI_Z _ _)]
 go_enter Tryz.func45, Tryz.ntmps45
 go_wp2_with (first | (go_at_call 101; (with_reducible refine (ref_sqrt _ _ _).mono ?_); rintro e w1 ⟨rfl, hb⟩; obtain ⟨_, _, hc, hf⟩ := hb.cells2; have hz := hb.size; (try simp only [wsz] at hz hc hf)) | (go_at_call 49; (with_reducible refine (c_keep _ E _ _ _ _ c_27 c_27).mono ?_); rintro e w1 ⟨rfl, hb⟩; obtain ⟨_, _, hc, hf⟩ := hb.cells2; have hz := hb.size; (try simp only [wsz] at hz hc hf)))
 all_goals
  refine bodyPost_ret (v := .agg #[.int .i64 (kpI E (sqrtI a b).lo (sqrtI a b).hi (sqrtI a b).e).lo, .int .i64 (kpI E (sqrtI a b).lo (sqrtI a b).hi (sqrtI a b).e).hi]) ?_ rfl ⟨rfl, ?_⟩
  ·(try simp only [bne_iff_ne, ne_eq, bne_eq_false_iff_eq, beq_iff_eq, beq_eq_false_iff_ne] at *)
   simp [results, Tryz.results45, go_sem, ↓IntWalk.iteOmega, kpI, *]
  ·refine ExtP.fin ?_ ?_ hp
   ·(repeat (first | with_reducible refine ExtP.set ?_ | (with_reducible refine ExtP.store ?_ ?_; rotate_left; (focus ((try simp only [wsz]); omega))) | with_reducible refine ExtP.ext ?_ ((Ext.refl _).alloc _) | with_reducible refine ExtP.ext ?_ ((Ext.refl _).drew) | with_reducible assumption | with_reducible exact ExtP.of _ _ (Ext.refl w) | with_reducible refine ExtP.ext ?_ c_1))
   ·(try simp only [bne_iff_ne, ne_eq, bne_eq_false_iff_eq, beq_iff_eq, beq_eq_false_iff_ne] at *)
    simp [go_sem, ↓IntWalk.iteOmega, kpI, *]
theorem T_RCK_5 {p : Prop} (h : p := by
 have hE : E = 8 := by omega
 subst hE
 clear hR hz
 go_enter Tryz.func39, Tryz.ntmps39
 exact T_RCK_1) : p := h
theorem T_RCK_4 {p : Prop} (h : p := by
 have hE : E = 8 := by omega
 subst hE
 clear hR hz
 go_enter Tryz.func39, Tryz.ntmps39
 go_wp2_with fail
 refine wp_loop_rounds 4 ?_
 rw [rounds_succ]
 exact T_RCK_1) : p := h
theorem T_RCK_3 {p : Prop} (h : p := by
 have hE : E = 8 := by omega
 subst hE
 clear hR hz
 go_enter Tryz.func39, Tryz.ntmps39
 go_wp2_with fail
 refine wp_loop_rounds 4 ?_
 rw [rounds_succ]
 go_wp2_with fail
 rw [rounds_succ]
 exact T_RCK_1) : p := h
theorem T_RCK_2 {p : Prop} (h : p := by
 have hE : E = 8 := by omega
 subst hE
 clear hR hz
 go_enter Tryz.func39, Tryz.ntmps39
 go_wp2_with fail
 refine wp_loop_rounds 4 ?_
 rw [rounds_succ]
 go_wp2_with fail
 rw [rounds_succ]
 go_wp2_with fail
 rw [rounds_succ]
 exact T_RCK_1) : p := h
theorem T_RCK_1 {p : Prop} (h : p := by
 go_wp2_with fail
 refine bodyPost_ret (v := .int .i64 8) ?_ rfl ⟨by simp [*], ?_⟩
 ·simp [results, Tryz.results39, go_sem, ↓IntWalk.iteOmega, *]
 ·repeat (first | with_reducible exact Ext.refl _ | with_reducible assumption | with_reducible refine Ext.alloc ?_ _ | with_reducible refine Ext.setCell ?_ c_14 _ | with_reducible refine Ext.drewN ?_ _ | with_reducible refine Ext.drew ?_ | with_reducible refine Ext.trans ?_ c_1)) : p := h
theorem r_whole (n : Int) (w : World) (h0 : 0 ≤ n) (h1 : n ≤ 1000) : Calls Tryz.prog 90 #[.int .i64 n] w fun e w' => e = .returned (.agg #[.int .i64 (n * 1099511627776), .int .i64 (n * 1099511627776)]) ∧ Ext w w' := by
 go_enter Tryz.func90, Tryz.ntmps90
 go_wp2
 refine bodyPost_ret (v := .agg #[.int .i64 (n * 1099511627776), .int .i64 (n * 1099511627776)]) ?_ rfl ⟨rfl, ?_⟩
 ·simp [results, Tryz.results90, go_sem, ↓IntWalk.iteOmega, *]
 ·exact ex_
def stR (t p1 p2 p3 v1 v2 v3 : Int) : Prop := t < -5000000000000000 ∨ 5000000000000000 < t ∨ (p1 = 0 ∧ p2 = 0 ∧ p3 = 0) ∨ (p1 < -8796093022208 ∨ 8796093022208 < p1 ∨ v1 < -1099511627776 ∨ 1099511627776 < v1) ∨ (p2 < -8796093022208 ∨ 8796093022208 < p2 ∨ v2 < -1099511627776 ∨ 1099511627776 < v2) ∨ (p3 < -8796093022208 ∨ 8796093022208 < p3 ∨ v3 < -1099511627776 ∨ 1099511627776 < v3)
theorem stE_R (t p1 p2 p3 v1 v2 v3 : Int) : (stE t p1 p2 p3 v1 v2 v3 = 8 ∧ stR t p1 p2 p3 v1 v2 v3) ∨ (stE t p1 p2 p3 v1 v2 v3 = 0 ∧ ¬ stR t p1 p2 p3 v1 v2 v3) := by
 unfold stE stB outB stR
 simp only [Bool.or_eq_true, decide_eq_true_eq]
 split
 ·left; refine ⟨rfl, ?_⟩; omega
 ·right; refine ⟨rfl, ?_⟩; omega
theorem r_CheckS (t p1 p2 p3 v1 v2 v3 : Int) (w : World) : Calls Tryz.prog 39 #[.agg #[.int .i64 t, .int .i64 p1, .int .i64 p2, .int .i64 p3, .int .i64 v1, .int .i64 v2, .int .i64 v3]] w fun e w' => e = .returned (.int .i64 (stE t p1 p2 p3 v1 v2 v3)) ∧ Ext w w' := by
 have l0 : IntKind.i64.wrap 0 = 0 := rfl
 have l1 : IntKind.i64.wrap 1 = 1 := rfl
 have l2 : IntKind.i64.wrap 2 = 2 := rfl
 have hR := stE_R t p1 p2 p3 v1 v2 v3
 unfold stR at hR
 generalize stE t p1 p2 p3 v1 v2 v3 = E at hR ⊢
 have hq := eqA4 p1 p2 p3
 obtain ⟨o3, ho3⟩ : ∃ o, decide (p1 = 0 ∧ p2 = 0 ∧ p3 = 0) = o := ⟨_, rfl⟩
 rw [ho3] at hq
 have hz : (o3 = true ∧ (p1 = 0 ∧ p2 = 0 ∧ p3 = 0)) ∨ (o3 = false ∧ ¬ (p1 = 0 ∧ p2 = 0 ∧ p3 = 0)) := by
  rw [← ho3]; by_cases hh : p1 = 0 ∧ p2 = 0 ∧ p3 = 0 <;> simp [hh]
 clear ho3
 by_cases h1 : t < -5000000000000000
 ·exact T_RCK_5
 by_cases h2 : 5000000000000000 < t
 ·exact T_RCK_5
 rcases hz with ⟨rfl, hz⟩ | ⟨rfl, hz⟩
 ·exact T_RCK_5
 ·by_cases g1 : p1 < -8796093022208
  ·exact T_RCK_4
  by_cases g2 : 8796093022208 < p1
  ·exact T_RCK_4
  by_cases g3 : v1 < -1099511627776
  ·exact T_RCK_4
  by_cases g4 : 1099511627776 < v1
  ·exact T_RCK_4
  by_cases g5 : p2 < -8796093022208
  ·exact T_RCK_3
  by_cases g6 : 8796093022208 < p2
  ·exact T_RCK_3
  by_cases g7 : v2 < -1099511627776
  ·exact T_RCK_3
  by_cases g8 : 1099511627776 < v2
  ·exact T_RCK_3
  by_cases g9 : p3 < -8796093022208
  ·exact T_RCK_2
  by_cases g10 : 8796093022208 < p3
  ·exact T_RCK_2
  by_cases g11 : v3 < -1099511627776
  ·exact T_RCK_2
  by_cases g12 : 1099511627776 < v3
  ·exact T_RCK_2
  have hE : E = 0 := by omega
  subst hE
  clear hR hz
  go_enter Tryz.func39, Tryz.ntmps39
  go_wp2_with fail
  refine wp_loop_rounds 4 ?_
  rw [rounds_succ]
  go_wp2_with fail
  rw [rounds_succ]
  go_wp2_with fail
  rw [rounds_succ]
  go_wp2_with fail
  rw [rounds_succ]
  go_wp2_with fail
  refine bodyPost_ret (v := .int .i64 0) ?_ rfl ⟨by simp [*], ?_⟩
  ·simp [results, Tryz.results39, go_sem, ↓IntWalk.iteOmega, *]
  ·exact ex_
theorem c_check (v : V3) (w : World) :
    Calls Tryz.prog 193 #[.agg #[.int .i64 v.a, .int .i64 v.b, .int .i64 v.c, .int .i64 v.d, .int .i64 v.e, .int .i64 v.f]] w fun e w' => e = .returned (.int .i64 (ckV v)) ∧ Ext w w' := by
 have l0 : IntKind.i64.wrap 0 = 0 := rfl
 have l1 : IntKind.i64.wrap 1 = 1 := rfl
 have l2 : IntKind.i64.wrap 2 = 2 := rfl
 have l3 : IntKind.i64.wrap 3 = 3 := rfl
 go_enter Tryz.func193, Tryz.ntmps193
 go_wp2_with fail
 refine wp_loop_rounds 4 ?_
 repeat
  any_goals
   rw [rounds_succ]
   go_wp2_with (first | (go_at_call 106; (with_reducible refine (ref_check _ _ _).mono ?_); rintro e w1 ⟨rfl, hb⟩; obtain ⟨_, _, hc, hf⟩ := hb.cells2; have hz := hb.size; (try simp only [wsz] at hz hc hf)))
 all_goals
  go_ret
  refine ⟨?_, ?_⟩
  ·(try simp only [bne_iff_ne, ne_eq, bne_eq_false_iff_eq, beq_iff_eq, beq_eq_false_iff_ne] at *)
   first | (simp [ckV, ck2, *]; done) | (simp [ckV, ck2, *]; omega)
  ·exact ex_
theorem c_both (a b : V3) (w : World) :
    Calls Tryz.prog 155 #[.agg #[.int .i64 a.a, .int .i64 a.b, .int .i64 a.c, .int .i64 a.d, .int .i64 a.e, .int .i64 a.f], .agg #[.int .i64 b.a, .int .i64 b.b, .int .i64 b.c, .int .i64 b.d, .int .i64 b.e, .int .i64 b.f]] w fun e w' => e = .returned (.int .i64 (ck2V a b)) ∧ Ext w w' := by
 have l0 : IntKind.i64.wrap 0 = 0 := rfl
 have l1 : IntKind.i64.wrap 1 = 1 := rfl
 have l2 : IntKind.i64.wrap 2 = 2 := rfl
 have l3 : IntKind.i64.wrap 3 = 3 := rfl
 go_enter Tryz.func155, Tryz.ntmps155
 go_wp2_with (first | (go_at_call 193; (with_reducible refine (c_check a _).mono ?_); rintro e w1 ⟨rfl, hb⟩; obtain ⟨_, _, hc, hf⟩ := hb.cells2; have hz := hb.size; (try simp only [wsz] at hz hc hf)) | (go_at_call 193; (with_reducible refine (c_check b _).mono ?_); rintro e w1 ⟨rfl, hb⟩; obtain ⟨_, _, hc, hf⟩ := hb.cells2; have hz := hb.size; (try simp only [wsz] at hz hc hf)))
 all_goals
  go_ret
  refine ⟨?_, ?_⟩
  ·(try simp only [bne_iff_ne, ne_eq, bne_eq_false_iff_eq, beq_iff_eq, beq_eq_false_iff_ne] at *)
   first | (simp [ck2V, *]; done) | (simp [ck2V, *]; omega)
  ·exact ex_
theorem c_vec (p : Nat) (E : Int) (v : V3) (w : World) (hc : w.cell? ⟨p, 0, none⟩ = some (.int .i64 E)) :
    Calls Tryz.prog 156 #[.pointer (some ⟨p, 0, none⟩), .agg #[.int .i64 v.a, .int .i64 v.b, .int .i64 v.c, .int .i64 v.d, .int .i64 v.e, .int .i64 v.f]] w fun e w' => e = .returned (.tuple #[.agg #[.int .i64 ((vecV E v).v).a, .int .i64 ((vecV E v).v).b, .int .i64 ((vecV E v).v).c, .int .i64 ((vecV E v).v).d, .int .i64 ((vecV E v).v).e, .int .i64 ((vecV E v).v).f], .int .i64 (vecV E v).e]) ∧ Ext w w' := by
 have hp : p < w.heap.size := World.block_lt_of_cell? w _ hc
 go_enter Tryz.func156, Tryz.ntmps156
 go_wp2_with fail
 any_goals go_region
 all_goals go_wp2_with fail
 all_goals
  refine bodyPost_ret (v := .tuple #[.agg #[.int .i64 ((vecV E v).v).a, .int .i64 ((vecV E v).v).b, .int .i64 ((vecV E v).v).c, .int .i64 ((vecV E v).v).d, .int .i64 ((vecV E v).v).e, .int .i64 ((vecV E v).v).f], .int .i64 (vecV E v).e]) ?_ rfl ⟨rfl, ?_⟩
  ·(try simp only [bne_iff_ne, ne_eq, bne_eq_false_iff_eq, beq_iff_eq, beq_eq_false_iff_ne] at *)
   simp [results, Tryz.results156, go_sem, ↓IntWalk.iteOmega, vecV, V3.O, *]
  ·exact ex_
theorem c_nrm (p : Nat) (E : Int) (a : V3) (w : World) (hc : w.cell? ⟨p, 0, none⟩ = some (.int .i64 E)) (hf : w.frozen? ⟨p, 0, none⟩ = false) (ha : a.I) :
    Calls Tryz.prog 88 #[.pointer (some ⟨p, 0, none⟩), .agg #[.int .i64 a.a, .int .i64 a.b, .int .i64 a.c, .int .i64 a.d, .int .i64 a.e, .int .i64 a.f]] w fun e w' => e = .returned (.agg #[.int .i64 (nrmI E a).lo, .int .i64 (nrmI E a).hi]) ∧ Ext (w.setCell ⟨p, 0, none⟩ (.int .i64 ((nrmI E a).e))) w' := by
 have hp : p < w.heap.size := World.block_lt_of_cell? w _ hc
 obtain ⟨ha1, ha2, ha3⟩ := ha
 go_enter Tryz.func88, Tryz.ntmps88
 go_wp2_with (first | (go_at_call 152; (with_reducible refine (c_sq p E a.a a.b _ c_35 c_35 ha1.1 ha1.2).mono ?_); (generalize hr0 : doI (E) (sqI a.a a.b) = r0); rintro e w1 ⟨rfl, hb⟩; obtain ⟨_, _, hc, hf⟩ := hb.cells2; have hz := hb.size; (try simp only [wsz] at hz hc hf); (try have zz : w.heap.size < w1.heap.size ∧ (∀ j, w.heap.size < w1.heap.size + j) ∧ (¬ w.heap.size = w1.heap.size) ∧ (∀ j, ¬ w.heap.size = w1.heap.size + j) ∧ (¬ w1.heap.size = w.heap.size) ∧ (∀ j, ¬ w1.heap.size + j = w.heap.size) := c_6); (try have zz : w.heap.size + 1 < w1.heap.size ∧ (∀ j, w.heap.size + 1 < w1.heap.size + j) ∧ (¬ w.heap.size + 1 = w1.heap.size) ∧ (∀ j, ¬ w.heap.size + 1 = w1.heap.size + j) ∧ (¬ w1.heap.size = w.heap.size + 1) ∧ (∀ j, ¬ w1.heap.size + j = w.heap.size + 1) := c_6); (try have zz : p < w1.heap.size ∧ (∀ j, p < w1.heap.size + j) ∧ (¬ p = w1.heap.size) ∧ (∀ j, ¬ p = w1.heap.size + j) ∧ (¬ w1.heap.size = p) ∧ (∀ j, ¬ w1.heap.size + j = p) := c_6)) | (go_at_call 152; (with_reducible refine (c_sq p r0.e a.c a.d _ c_35 c_35 ha2.1 ha2.2).mono ?_); (generalize hr1 : doI (r0.e) (sqI a.c a.d) = r1); rintro e w1 ⟨rfl, hb⟩; obtain ⟨_, _, hc, hf⟩ := hb.cells2; have hz := hb.size; (try simp only [wsz] at hz hc hf); (try have zz : w.heap.size < w1.heap.size ∧ (∀ j, w.heap.size < w1.heap.size + j) ∧ (¬ w.heap.size = w1.heap.size) ∧ (∀ j, ¬ w.heap.size = w1.heap.size + j) ∧ (¬ w1.heap.size = w.heap.size) ∧ (∀ j, ¬ w1.heap.size + j = w.heap.size) := c_6); (try have zz : w.heap.size + 1 < w1.heap.size ∧ (∀ j, w.heap.size + 1 < w1.heap.size + j) ∧ (¬ w.heap.size + 1 = w1.heap.size) ∧ (∀ j, ¬ w.heap.size + 1 = w1.heap.size + j) ∧ (¬ w1.heap.size = w.heap.size + 1) ∧ (∀ j, ¬ w1.heap.size + j = w.heap.size + 1) := c_6); (try have zz : p < w1.heap.size ∧ (∀ j, p < w1.heap.size + j) ∧ (¬ p = w1.heap.size) ∧ (∀ j, ¬ p = w1.heap.size + j) ∧ (¬ w1.heap.size = p) ∧ (∀ j, ¬ w1.heap.size + j = p) := c_6)) | (go_at_call 153; (with_reducible refine (c_add p r1.e r0.lo r0.hi r1.lo r1.hi _ c_27 c_35).mono ?_); (generalize hr2 : doI (r1.e) (addI r0.lo r0.hi r1.lo r1.hi) = r2); rintro e w1 ⟨rfl, hb⟩; obtain ⟨_, _, hc, hf⟩ := hb.cells2; have hz := hb.size; (try simp only [wsz] at hz hc hf); (try have zz : w.heap.size < w1.heap.size ∧ (∀ j, w.heap.size < w1.heap.size + j) ∧ (¬ w.heap.size = w1.heap.size) ∧ (∀ j, ¬ w.heap.size = w1.heap.size + j) ∧ (¬ w1.heap.size = w.heap.size) ∧ (∀ j, ¬ w1.heap.size + j = w.heap.size) := c_6); (try have zz : w.heap.size + 1 < w1.heap.size ∧ (∀ j, w.heap.size + 1 < w1.heap.size + j) ∧ (¬ w.heap.size + 1 = w1.heap.size) ∧ (∀ j, ¬ w.heap.size + 1 = w1.heap.size + j) ∧ (¬ w1.heap.size = w.heap.size + 1) ∧ (∀ j, ¬ w1.heap.size + j = w.heap.size + 1) := c_6); (try have zz : p < w1.heap.size ∧ (∀ j, p < w1.heap.size + j) ∧ (¬ p = w1.heap.size) ∧ (∀ j, ¬ p = w1.heap.size + j) ∧ (¬ w1.heap.size = p) ∧ (∀ j, ¬ w1.heap.size + j = p) := c_6)))
 refine wp_name fun W hW => ?_
 obtain ⟨hWc, hWf, hWz⟩ := hW.cells
 have hWe : ExtP w p 0 W := ExtP.same hW (by (repeat (first | with_reducible exact ExtP.of _ _ (Ext.refl _) | with_reducible assumption | with_reducible refine ExtP.set ?_ | (with_reducible refine ExtP.store ?_ ?_; rotate_left; (focus ((try simp only [wsz]); omega))) | with_reducible refine ExtP.ext ?_ ((Ext.refl _).alloc _) | with_reducible refine ExtP.ext ?_ ((Ext.refl _).drew) | with_reducible refine ExtP.ext ?_ c_1)))
 (try simp only [World.size_alloc] at hWz)
 replace hWz := And.intro (Nat.le_of_eq hWz) (Nat.le_of_eq hWz.symm)
 have hlt : w.heap.size < W.heap.size ∧ w.heap.size + 1 < W.heap.size ∧ p < W.heap.size ∧ w1.heap.size < W.heap.size := c_43
 have hd : ¬ w.heap.size = w.heap.size + 1 ∧ ¬ w.heap.size = p ∧ ¬ w.heap.size = w1.heap.size ∧ ¬ w.heap.size + 1 = w.heap.size ∧ ¬ w.heap.size + 1 = p ∧ ¬ w.heap.size + 1 = w1.heap.size ∧ ¬ p = w.heap.size ∧ ¬ p = w.heap.size + 1 ∧ ¬ p = w1.heap.size ∧ ¬ w1.heap.size = w.heap.size ∧ ¬ w1.heap.size = w.heap.size + 1 ∧ ¬ w1.heap.size = p := c_36
 go_region_held3 (fun w' => (∀ b o, b < W.heap.size → w'.cell? ⟨b, o, none⟩ = if b = w.heap.size + 1 ∧ 0 ≤ o ∧ o < 2 ∨ b = p ∧ o = 0 then (W.cell? ⟨b, o, none⟩).map (obx w' b o) else W.cell? ⟨b, o, none⟩) ∧ (∀ b o, b < W.heap.size → w'.frozen? ⟨b, o, none⟩ = W.frozen? ⟨b, o, none⟩) ∧ W.heap.size ≤ w'.heap.size ∧ ExtP w p 0 w') (first | (with_reducible exact hel0 hWe) | (with_reducible exact hel1p c_1 c_1) | (with_reducible exact hel1 c_1 c_1) | (with_reducible exact hel3d c_1) | (with_reducible exact hel3 c_1) | (repeat (first | (with_reducible assumption) | (with_reducible refine hel2 ?_ c_3 c_10)))) ((first | (go_at_call 152; (with_reducible refine (c_sq p r2.e a.e a.f _ (by (try simp only [cell_drew]); first | with_reducible assumption | simp [go_sem, ↓IntWalk.iteOmega, *]) c_28 ha3.1 ha3.2).mono ?_); (generalize hr3 : doI (r2.e) (sqI a.e a.f) = r3); rintro e w2 ⟨rfl, hb0⟩; have hz0 := hb0.size; (try simp only [size_drew, World.size_setCell] at hz0); obtain ⟨hg0, hh0⟩ := hb0.got (u := .int .i64 (r2.e)) (by (try simp only [cell_drew]); first | with_reducible assumption | simp [go_sem, ↓IntWalk.iteOmega, *]); have hob0 := obx_of hg0; (try simp only [frozen_drew] at hh0)) | (go_at_call 153; (with_reducible refine (c_add p r3.e r2.lo r2.hi r3.lo r3.hi _ c_17 c_44).mono ?_); (generalize hr4 : doI (r3.e) (addI r2.lo r2.hi r3.lo r3.hi) = r4); rintro e w3 ⟨rfl, hb1⟩; have hz1 := hb1.size; (try simp only [World.size_setCell] at hz1); obtain ⟨hg1, hh1⟩ := hb1.got (u := .int .i64 (r3.e)) c_17; have hob1 := obx_of hg1; (try simp only [frozen_drew] at hh1))))
 rename_i hOld
 have hE := hOld.2.2.2
 have hO := And.intro hOld.1 (And.intro hOld.2.1 hOld.2.2.1)
 clear hOld
 replace hO := helBack hO c_3
 replace hO := helBack hO c_3
 obtain ⟨hOc, hOf, hOz⟩ := helEnd hO
 clear hO
 have hlu : w.heap.size < w3.heap.size ∧ w.heap.size + 1 < w3.heap.size ∧ p < w3.heap.size ∧ w1.heap.size < w3.heap.size := c_43
 go_wp2_with fail
 all_goals
  refine bodyPost_ret (v := .agg #[.int .i64 (nrmI E a).lo, .int .i64 (nrmI E a).hi]) ?_ rfl ⟨rfl, ?_⟩
  ·(try simp only [] at *)
   simp [results, Tryz.results88, go_sem, nrmI, nrm3, nrm2, nrm1, nrm0, *]
  ·refine ExtP.fin ?_ ?_ hp
   ·(repeat (first | with_reducible exact ExtP.of _ _ (Ext.refl _) | with_reducible assumption | with_reducible refine ExtP.set ?_ | (with_reducible refine ExtP.store ?_ ?_; rotate_left; (focus ((try simp only [wsz]); omega))) | with_reducible refine ExtP.ext ?_ ((Ext.refl _).alloc _) | with_reducible refine ExtP.ext ?_ ((Ext.refl _).drew) | with_reducible refine ExtP.ext ?_ c_1))
   ·(try simp only [bne_iff_ne, ne_eq, bne_eq_false_iff_eq, beq_iff_eq, beq_eq_false_iff_ne] at *)
    simp [go_sem, nrmI, nrm3, nrm2, nrm1, nrm0, *]
theorem c_vec6 (p : Nat) (E x0 x1 x2 x3 x4 x5 : Int) (w : World) (hc : w.cell? ⟨p, 0, none⟩ = some (.int .i64 E)) :
    Calls Tryz.prog 156 #[.pointer (some ⟨p, 0, none⟩), .agg #[.int .i64 x0, .int .i64 x1, .int .i64 x2, .int .i64 x3, .int .i64 x4, .int .i64 x5]] w fun e w' => e = .returned (.tuple #[.agg #[.int .i64 ((vecV E ⟨x0, x1, x2, x3, x4, x5⟩).v).a, .int .i64 ((vecV E ⟨x0, x1, x2, x3, x4, x5⟩).v).b, .int .i64 ((vecV E ⟨x0, x1, x2, x3, x4, x5⟩).v).c, .int .i64 ((vecV E ⟨x0, x1, x2, x3, x4, x5⟩).v).d, .int .i64 ((vecV E ⟨x0, x1, x2, x3, x4, x5⟩).v).e, .int .i64 ((vecV E ⟨x0, x1, x2, x3, x4, x5⟩).v).f], .int .i64 (vecV E ⟨x0, x1, x2, x3, x4, x5⟩).e]) ∧ Ext w w' := c_vec p E ⟨x0, x1, x2, x3, x4, x5⟩ w hc
end Go.Proofs.YtogblocakccbgaaGreat
