/- sphere: checks, the sheet.; sphere: sums of vectors, scaled vectors.; sphere: the product of two vectors on a sheet.; sphere: the product, the square. -/
import Derived.Test.YtogblocakccbgaaGreatJ00
import Derived.Test.YtogblocakccbgaaGreatJ17
import Derived.Test.YtogblocakccbgaaGreatJ18
import Derived.Test.YtogblocakccbgaaGreatJ15
import Derived.Deep.CutBlock
import Derived.Deep.DeepCutAuto
set_option linter.unusedSimpArgs false
set_option linter.unusedVariables false
set_option maxRecDepth 100000
set_option maxHeartbeats 4000000
namespace Go.Proofs.YtogblocakccbgaaGreat
open Go.RowKit
theorem s_check1 (a b : Int) (w : World) :
    Calls Tryz.prog 60 #[.agg #[.int .i64 a, .int .i64 b]] w fun e w' => e = .returned (.int .i64 (ckI a b)) ∧ Ext w w' := by
 have l0 : IntKind.i64.wrap 0 = 0 := rfl
 have l1 : IntKind.i64.wrap 1 = 1 := rfl
 have l2 : IntKind.i64.wrap 2 = 2 := rfl
 have l3 : IntKind.i64.wrap 3 = 3 := rfl
 go_enter Tryz.func60, Tryz.ntmps60
 go_wp2_with (first | (go_at_call 92; (with_reducible refine (check_1 _ _ _ _ c_48).mono ?_); rintro e w1 ⟨rfl, hb⟩; obtain ⟨_, _, hc, hf⟩ := hb.cells2; have hz := hb.size; (try simp only [World.size_alloc] at hz hc hf)))
 all_goals
  go_ret
  refine ⟨?_, ?_⟩
  ·(try simp only [] at *)
   first | (simp [ckI, *]; done) | (simp [ckI, *]; omega)
  ·exact ex_
theorem s_check (v : V3) (w : World) :
    Calls Tryz.prog 141 #[.agg #[.int .i64 v.a, .int .i64 v.b, .int .i64 v.c, .int .i64 v.d, .int .i64 v.e, .int .i64 v.f]] w fun e w' => e = .returned (.int .i64 (ckV v)) ∧ Ext w w' := by
 have l0 : IntKind.i64.wrap 0 = 0 := rfl
 have l1 : IntKind.i64.wrap 1 = 1 := rfl
 have l2 : IntKind.i64.wrap 2 = 2 := rfl
 have l3 : IntKind.i64.wrap 3 = 3 := rfl
 go_enter Tryz.func141, Tryz.ntmps141
 go_wp2_with fail
 refine wp_loop_rounds 4 ?_
 repeat
  any_goals
   rw [rounds_succ]
   go_wp2_with (first | (go_at_call 60; (with_reducible refine (s_check1 _ _ _).mono ?_); rintro e w1 ⟨rfl, hb⟩; obtain ⟨_, _, hc, hf⟩ := hb.cells2; have hz := hb.size; (try simp only [World.size_alloc] at hz hc hf)))
 all_goals
  go_ret
  refine ⟨?_, ?_⟩
  ·(try simp only [bne_iff_ne, ne_eq, bne_eq_false_iff_eq] at *)
   first | (simp [ckV, ck2, *]; done) | (simp [ckV, ck2, *]; omega)
  ·exact ex_
theorem s_look (a b : V3) (w : World) :
    Calls Tryz.prog 149 #[.agg #[.int .i64 a.a, .int .i64 a.b, .int .i64 a.c, .int .i64 a.d, .int .i64 a.e, .int .i64 a.f], .agg #[.int .i64 b.a, .int .i64 b.b, .int .i64 b.c, .int .i64 b.d, .int .i64 b.e, .int .i64 b.f]] w fun e w' => e = .returned (.int .i64 (ck2V a b)) ∧ Ext w w' := by
 have l0 : IntKind.i64.wrap 0 = 0 := rfl
 have l1 : IntKind.i64.wrap 1 = 1 := rfl
 have l2 : IntKind.i64.wrap 2 = 2 := rfl
 have l3 : IntKind.i64.wrap 3 = 3 := rfl
 go_enter Tryz.func149, Tryz.ntmps149
 go_wp2_with (first | (go_at_call 141; (with_reducible refine (s_check a _).mono ?_); rintro e w1 ⟨rfl, hb⟩; obtain ⟨_, _, hc, hf⟩ := hb.cells2; have hz := hb.size; (try simp only [World.size_alloc] at hz hc hf)) | (go_at_call 141; (with_reducible refine (s_check b _).mono ?_); rintro e w1 ⟨rfl, hb⟩; obtain ⟨_, _, hc, hf⟩ := hb.cells2; have hz := hb.size; (try simp only [wsz] at hz hc hf)))
 all_goals
  go_ret
  refine ⟨?_, ?_⟩
  ·(try simp only [bne_iff_ne, ne_eq, bne_eq_false_iff_eq] at *)
   first | (simp [ck2V, *]; done) | (simp [ck2V, *]; omega)
  ·exact ex_
theorem s_nsq (a b c d : Int) (w : World) (ha : I64 a ∧ I64 b) :
    Calls Tryz.prog 143 #[.agg #[.int .i64 a, .int .i64 b], .agg #[.int .i64 c, .int .i64 d]] w fun e w' => e = .returned (.tuple #[.agg #[.int .i64 (sqI a b).lo, .int .i64 (sqI a b).hi], .int .i64 (sqI a b).e]) ∧ Ext w w' := by
 go_enter Tryz.func143, Tryz.ntmps143
 go_wp2_with (first | (go_at_call 144; (with_reducible refine (span_sq _ _ _ ha.1 ha.2).mono ?_); rintro e w1 ⟨rfl, hb⟩; obtain ⟨_, _, hc, hf⟩ := hb.cells2; have hz := hb.size; (try simp only [World.size_alloc] at hz hc hf)))
 all_goals
  refine bodyPost_ret (v := .tuple #[.agg #[.int .i64 (sqI a b).lo, .int .i64 (sqI a b).hi], .int .i64 (sqI a b).e]) ?_ rfl ⟨rfl, ?_⟩
  ·(try simp only [] at *)
   simp [results, Tryz.results143, go_sem, *]
  ·repeat (first | with_reducible exact Ext.refl _ | with_reducible assumption | with_reducible refine Ext.alloc ?_ _ | with_reducible refine Ext.setCell ?_ c_19 _ | with_reducible refine Ext.drewN ?_ _ | with_reducible refine Ext.drew ?_ | with_reducible refine Ext.trans ?_ c_1)
theorem s_begin (w : World) :
    Calls Tryz.prog 142 #[] w fun e w' => e = .returned (.pointer (some ⟨w.heap.size, 0, none⟩)) ∧ w' = w.alloc (.cells #[.func (.func 188) #[] #[], .func (.func 148) #[] #[], .func (.func 151) #[] #[], .func (.func 100) #[] #[], .int .i64 0] 188) := by
 go_enter Tryz.func142, Tryz.ntmps142
 go_wp2_with fail
 all_goals go_ret
 exact ⟨rfl, rfl⟩
theorem d_add (p : Nat) (E a b c d : Int) (w : World) (hc : w.cell? ⟨p, 4, none⟩ = some (.int .i64 E)) (hf : w.frozen? ⟨p, 4, none⟩ = false) :
    Calls Tryz.prog 145 #[.pointer (some ⟨p, 0, none⟩), .func (.func 188) #[] #[], .agg #[.int .i64 a, .int .i64 b], .agg #[.int .i64 c, .int .i64 d]] w fun e w' => e = .returned (.agg #[.int .i64 (doI E (addI a b c d)).lo, .int .i64 (doI E (addI a b c d)).hi]) ∧ Ext (w.setCell ⟨p, 4, none⟩ (.int .i64 ((doI E (addI a b c d)).e))) w' := by
 have hp : p < w.heap.size := World.block_lt_of_cell? w _ hc
 go_enter Tryz.func145, Tryz.ntmps145
 go_wp2_with (first | (go_at_call 188; (with_reducible refine (span_add _ _ _ _ _).mono ?_); rintro e w1 ⟨rfl, hb⟩; obtain ⟨_, _, hc, hf⟩ := hb.cells2; have hz := hb.size; (try simp only [World.size_alloc] at hz hc hf)))
 all_goals
  refine bodyPost_ret (v := .agg #[.int .i64 (doI E (addI a b c d)).lo, .int .i64 (doI E (addI a b c d)).hi]) ?_ rfl ⟨rfl, ?_⟩
  ·(try simp only [bne_iff_ne, ne_eq, bne_eq_false_iff_eq] at *)
   simp [results, Tryz.results145, go_sem, ↓IntWalk.iteOmega, doI, *]
  ·refine ExtP.fin ?_ ?_ hp
   ·(repeat (first | with_reducible refine ExtP.set ?_ | (with_reducible refine ExtP.store ?_ ?_; rotate_left; (focus ((try simp only []); omega))) | with_reducible refine ExtP.ext ?_ ((Ext.refl _).alloc _) | with_reducible refine ExtP.ext ?_ ((Ext.refl _).drew) | with_reducible assumption | with_reducible exact ExtP.of _ _ (Ext.refl w) | with_reducible refine ExtP.ext ?_ c_1))
   ·(try simp only [bne_iff_ne, ne_eq, bne_eq_false_iff_eq] at *)
    simp [go_sem, ↓IntWalk.iteOmega, doI, *]
theorem d_sub (p : Nat) (E a b c d : Int) (w : World) (hc : w.cell? ⟨p, 4, none⟩ = some (.int .i64 E)) (hf : w.frozen? ⟨p, 4, none⟩ = false) :
    Calls Tryz.prog 145 #[.pointer (some ⟨p, 0, none⟩), .func (.func 148) #[] #[], .agg #[.int .i64 a, .int .i64 b], .agg #[.int .i64 c, .int .i64 d]] w fun e w' => e = .returned (.agg #[.int .i64 (doI E (subI a b c d)).lo, .int .i64 (doI E (subI a b c d)).hi]) ∧ Ext (w.setCell ⟨p, 4, none⟩ (.int .i64 ((doI E (subI a b c d)).e))) w' := by
 have hp : p < w.heap.size := World.block_lt_of_cell? w _ hc
 go_enter Tryz.func145, Tryz.ntmps145
 go_wp2_with (first | (go_at_call 148; (with_reducible refine (span_sub _ _ _ _ _).mono ?_); rintro e w1 ⟨rfl, hb⟩; obtain ⟨_, _, hc, hf⟩ := hb.cells2; have hz := hb.size; (try simp only [World.size_alloc] at hz hc hf)))
 all_goals
  refine bodyPost_ret (v := .agg #[.int .i64 (doI E (subI a b c d)).lo, .int .i64 (doI E (subI a b c d)).hi]) ?_ rfl ⟨rfl, ?_⟩
  ·(try simp only [bne_iff_ne, ne_eq, bne_eq_false_iff_eq] at *)
   simp [results, Tryz.results145, go_sem, ↓IntWalk.iteOmega, doI, *]
  ·refine ExtP.fin ?_ ?_ hp
   ·(repeat (first | with_reducible refine ExtP.set ?_ | (with_reducible refine ExtP.store ?_ ?_; rotate_left; (focus ((try simp only []); omega))) | with_reducible refine ExtP.ext ?_ ((Ext.refl _).alloc _) | with_reducible refine ExtP.ext ?_ ((Ext.refl _).drew) | with_reducible assumption | with_reducible exact ExtP.of _ _ (Ext.refl w) | with_reducible refine ExtP.ext ?_ c_1))
   ·(try simp only [bne_iff_ne, ne_eq, bne_eq_false_iff_eq] at *)
    simp [go_sem, ↓IntWalk.iteOmega, doI, *]
theorem d_mul (p : Nat) (E a b c d : Int) (w : World) (hc : w.cell? ⟨p, 4, none⟩ = some (.int .i64 E)) (hf : w.frozen? ⟨p, 4, none⟩ = false) (ha : I64 a ∧ I64 b) (hc0 : I64 c ∧ I64 d) :
    Calls Tryz.prog 145 #[.pointer (some ⟨p, 0, none⟩), .func (.func 151) #[] #[], .agg #[.int .i64 a, .int .i64 b], .agg #[.int .i64 c, .int .i64 d]] w fun e w' => e = .returned (.agg #[.int .i64 (doI E (mulI a b c d)).lo, .int .i64 (doI E (mulI a b c d)).hi]) ∧ Ext (w.setCell ⟨p, 4, none⟩ (.int .i64 ((doI E (mulI a b c d)).e))) w' := by
 have hp : p < w.heap.size := World.block_lt_of_cell? w _ hc
 go_enter Tryz.func145, Tryz.ntmps145
 go_wp2_with (first | (go_at_call 151; (with_reducible refine (span_mul _ _ _ _ _ ha hc0).mono ?_); rintro e w1 ⟨rfl, hb⟩; obtain ⟨_, _, hc, hf⟩ := hb.cells2; have hz := hb.size; (try simp only [World.size_alloc] at hz hc hf)))
 all_goals
  refine bodyPost_ret (v := .agg #[.int .i64 (doI E (mulI a b c d)).lo, .int .i64 (doI E (mulI a b c d)).hi]) ?_ rfl ⟨rfl, ?_⟩
  ·(try simp only [bne_iff_ne, ne_eq, bne_eq_false_iff_eq] at *)
   simp [results, Tryz.results145, go_sem, ↓IntWalk.iteOmega, doI, *]
  ·refine ExtP.fin ?_ ?_ hp
   ·(repeat (first | with_reducible refine ExtP.set ?_ | (with_reducible refine ExtP.store ?_ ?_; rotate_left; (focus ((try simp only []); omega))) | with_reducible refine ExtP.ext ?_ ((Ext.refl _).alloc _) | with_reducible refine ExtP.ext ?_ ((Ext.refl _).drew) | with_reducible assumption | with_reducible exact ExtP.of _ _ (Ext.refl w) | with_reducible refine ExtP.ext ?_ c_1))
   ·(try simp only [bne_iff_ne, ne_eq, bne_eq_false_iff_eq] at *)
    simp [go_sem, ↓IntWalk.iteOmega, doI, *]
theorem d_sq (p : Nat) (E a b c d : Int) (w : World) (hc : w.cell? ⟨p, 4, none⟩ = some (.int .i64 E)) (hf : w.frozen? ⟨p, 4, none⟩ = false) (ha : I64 a ∧ I64 b) :
    Calls Tryz.prog 145 #[.pointer (some ⟨p, 0, none⟩), .func (.func 143) #[] #[], .agg #[.int .i64 a, .int .i64 b], .agg #[.int .i64 c, .int .i64 d]] w fun e w' => e = .returned (.agg #[.int .i64 (doI E (sqI a b)).lo, .int .i64 (doI E (sqI a b)).hi]) ∧ Ext (w.setCell ⟨p, 4, none⟩ (.int .i64 ((doI E (sqI a b)).e))) w' := by
 have hp : p < w.heap.size := World.block_lt_of_cell? w _ hc
 go_enter Tryz.func145, Tryz.ntmps145
 go_wp2_with (first | (go_at_call 143; (with_reducible refine (s_nsq _ _ _ _ _ ha).mono ?_); rintro e w1 ⟨rfl, hb⟩; obtain ⟨_, _, hc, hf⟩ := hb.cells2; have hz := hb.size; (try simp only [World.size_alloc] at hz hc hf)))
 all_goals
  refine bodyPost_ret (v := .agg #[.int .i64 (doI E (sqI a b)).lo, .int .i64 (doI E (sqI a b)).hi]) ?_ rfl ⟨rfl, ?_⟩
  ·(try simp only [bne_iff_ne, ne_eq, bne_eq_false_iff_eq] at *)
   simp [results, Tryz.results145, go_sem, ↓IntWalk.iteOmega, doI, *]
  ·refine ExtP.fin ?_ ?_ hp
   ·(repeat (first | with_reducible refine ExtP.set ?_ | (with_reducible refine ExtP.store ?_ ?_; rotate_left; (focus ((try simp only []); omega))) | with_reducible refine ExtP.ext ?_ ((Ext.refl _).alloc _) | with_reducible refine ExtP.ext ?_ ((Ext.refl _).drew) | with_reducible assumption | with_reducible exact ExtP.of _ _ (Ext.refl w) | with_reducible refine ExtP.ext ?_ c_1))
   ·(try simp only [bne_iff_ne, ne_eq, bne_eq_false_iff_eq] at *)
    simp [go_sem, ↓IntWalk.iteOmega, doI, *]
theorem s_vec (p : Nat) (E : Int) (v : V3) (w : World) (hc : w.cell? ⟨p, 4, none⟩ = some (.int .i64 E)) :
    Calls Tryz.prog 150 #[.pointer (some ⟨p, 0, none⟩), .agg #[.int .i64 v.a, .int .i64 v.b, .int .i64 v.c, .int .i64 v.d, .int .i64 v.e, .int .i64 v.f]] w fun e w' => e = .returned (.tuple #[.agg #[.int .i64 ((vecV E v).v).a, .int .i64 ((vecV E v).v).b, .int .i64 ((vecV E v).v).c, .int .i64 ((vecV E v).v).d, .int .i64 ((vecV E v).v).e, .int .i64 ((vecV E v).v).f], .int .i64 (vecV E v).e]) ∧ Ext w w' := by
 have hp : p < w.heap.size := World.block_lt_of_cell? w _ hc
 go_enter Tryz.func150, Tryz.ntmps150
 go_wp2_with fail
 any_goals go_region
 all_goals go_wp2_with fail
 all_goals
  refine bodyPost_ret (v := .tuple #[.agg #[.int .i64 ((vecV E v).v).a, .int .i64 ((vecV E v).v).b, .int .i64 ((vecV E v).v).c, .int .i64 ((vecV E v).v).d, .int .i64 ((vecV E v).v).e, .int .i64 ((vecV E v).v).f], .int .i64 (vecV E v).e]) ?_ rfl ⟨rfl, ?_⟩
  ·(try simp only [bne_iff_ne, ne_eq, bne_eq_false_iff_eq] at *)
   simp [results, Tryz.results150, go_sem, vecV, V3.O, *]
  ·exact ex_
theorem s_vec6 (p : Nat) (E x0 x1 x2 x3 x4 x5 : Int) (w : World) (hc : w.cell? ⟨p, 4, none⟩ = some (.int .i64 E)) :
    Calls Tryz.prog 150 #[.pointer (some ⟨p, 0, none⟩), .agg #[.int .i64 x0, .int .i64 x1, .int .i64 x2, .int .i64 x3, .int .i64 x4, .int .i64 x5]] w fun e w' => e = .returned (.tuple #[.agg #[.int .i64 ((vecV E ⟨x0, x1, x2, x3, x4, x5⟩).v).a, .int .i64 ((vecV E ⟨x0, x1, x2, x3, x4, x5⟩).v).b, .int .i64 ((vecV E ⟨x0, x1, x2, x3, x4, x5⟩).v).c, .int .i64 ((vecV E ⟨x0, x1, x2, x3, x4, x5⟩).v).d, .int .i64 ((vecV E ⟨x0, x1, x2, x3, x4, x5⟩).v).e, .int .i64 ((vecV E ⟨x0, x1, x2, x3, x4, x5⟩).v).f], .int .i64 (vecV E ⟨x0, x1, x2, x3, x4, x5⟩).e]) ∧ Ext w w' := s_vec p E ⟨x0, x1, x2, x3, x4, x5⟩ w hc
theorem T_SphD_4 {p : Prop} (h : p := by
 intro w0 hSw; (try dsimp only at hSw); go_simp; try with_reducible rfl) : p := h
theorem T_SphD_3 {p : Prop} (h : p := by
 refine hK.out _ _ ?_ (fun hN => ?_)
 ·exact T_SphD_2
 clear hK K hH
 have hH := hN
 clear hN
 try simp only [Act.put, List.setIfInBounds_toArray, List.set_cons_zero, List.set_cons_succ]
 refine wpAnyH_ready (rs := [17]) c_4 (by simp) ?_
 refine rd1 rfl fun K hK => ?_
 go_simp
 (go_at_call 145; (try simp only [hod0, hod1, hog00, hog01]); (with_reducible refine (d_add w1.heap.size (r3.e) r2.lo r2.hi r3.lo r3.hi _ c_5 c_12).mono ?_); (generalize hr4 : doI (r3.e) (addI r2.lo r2.hi r3.lo r3.hi) = r4); rintro e w3 ⟨rfl, hb1⟩; have hz1 := hb1.size; (try simp only [World.size_setCell] at hz1); obtain ⟨hg1, hh1⟩ := hb1.got (u := .int .i64 (r3.e)) c_5; have hob1 := obx_of hg1; (try simp only [frozen_drew] at hh1))
 refine hK.out _ _ ?_ (fun hN => ?_)
 ·exact T_SphD_2
 clear hK K hH
 have hH := hN
 clear hN
 try simp only [Act.put, List.setIfInBounds_toArray, List.set_cons_zero, List.set_cons_succ]
 refine wpAnyH_ready (rs := [18]) c_4 (by simp) ?_
 refine rd1 rfl fun K hK => ?_
 go_simp
 refine hK.out _ _ ?_ (fun hN => ?_)
 ·exact T_SphD_2
 clear hK K hH
 have hH := hN
 clear hN
 try simp only [Act.put, List.setIfInBounds_toArray, List.set_cons_zero, List.set_cons_succ]
 refine wpAnyH_done c_4 ?_ _
 have hOld := hH
 clear hH
 have hE := hOld.2.2.2
 have hO := And.intro hOld.1 (And.intro hOld.2.1 hOld.2.2.1)
 clear hOld
 replace hO := helBack hO c_3
 replace hO := helBack hO c_3
 obtain ⟨hOc, hOf, hOz⟩ := helEnd hO
 clear hO
 have hlu : w.heap.size < w3.heap.size ∧ w.heap.size + 1 < w3.heap.size ∧ w1.heap.size < w3.heap.size ∧ wg.heap.size < w3.heap.size := c_43
 go_wp2_with fail
 rw [rounds_succ]
 go_wp2_with fail
 go_region
 all_goals go_wp2_with fail
 all_goals
  refine bodyPost_ret (v := .tuple #[.agg #[.int .i64 (nrmV a).lo, .int .i64 (nrmV a).hi], .int .i64 (nrmV a).e]) ?_ rfl ⟨rfl, ?_⟩
  ·(try simp only [bne_eq_false_iff_eq] at *)
   simp [results, Tryz.results81, go_sem, nrmV, nrmI, nrm3, nrm2, nrm1, nrm0, *]
  ·refine ExtP.out (p := w1.heap.size) (k := 4) ?_ (by omega)
   (repeat (first | with_reducible refine ExtP.set ?_ | (with_reducible refine ExtP.store ?_ ?_; rotate_left; (focus ((try simp only []); omega))) | with_reducible refine ExtP.ext ?_ ((Ext.refl _).alloc _) | with_reducible refine ExtP.ext ?_ ((Ext.refl _).drew) | with_reducible assumption | with_reducible exact ExtP.of _ _ (Ext.refl w) | with_reducible refine ExtP.ext ?_ c_1))) : p := h
theorem T_SphD_2 {p : Prop} (h : p := by
 (try dsimp only); (first | (with_reducible exact hel0 hWe) | (with_reducible exact hel1p c_1 c_1) | (with_reducible exact hel1 c_1 c_1) | (with_reducible exact hel3d c_1) | (with_reducible exact hel3 c_1) | ((with_reducible refine hel4 c_1 ?_ ?_) <;> omega) | (repeat (first | (with_reducible assumption) | (with_reducible refine hel2 ?_ c_3 c_10))))) : p := h
theorem T_SphD_1 {p : Prop} (h : p := by
 refine hK.out _ _ ?_ (fun hN => ?_)
 ·exact T_SphD_2
 clear hK K hH
 have hH := hN
 clear hN
 try simp only [Act.put, List.setIfInBounds_toArray, List.set_cons_zero, List.set_cons_succ]
 refine wpAnyH_ready (rs := [17]) c_4 (by simp) ?_
 refine rd1 rfl fun K hK => ?_
 go_simp
 (go_at_call 145; (try simp only [hod0, hod1, hog00, hog01]); (with_reducible refine (d_add w1.heap.size (r1.e) r0.lo r0.hi r1.lo r1.hi _ c_5 c_12).mono ?_); (generalize hr2 : doI (r1.e) (addI r0.lo r0.hi r1.lo r1.hi) = r2); rintro e w3 ⟨rfl, hb1⟩; have hz1 := hb1.size; (try simp only [World.size_setCell] at hz1); obtain ⟨hg1, hh1⟩ := hb1.got (u := .int .i64 (r1.e)) c_5; have hob1 := obx_of hg1; (try simp only [frozen_drew] at hh1))
 refine hK.out _ _ ?_ (fun hN => ?_)
 ·exact T_SphD_2
 clear hK K hH
 have hH := hN
 clear hN
 try simp only [Act.put, List.setIfInBounds_toArray, List.set_cons_zero, List.set_cons_succ]
 refine wpAnyH_ready (rs := [18]) c_4 (by simp) ?_
 refine rd1 rfl fun K hK => ?_
 go_simp
 refine hK.out _ _ ?_ (fun hN => ?_)
 ·exact T_SphD_2
 clear hK K hH
 have hH := hN
 clear hN
 try simp only [Act.put, List.setIfInBounds_toArray, List.set_cons_zero, List.set_cons_succ]
 refine wpAnyH_done c_4 ?_ _
 have hOld := hH
 clear hH
 have hE := hOld.2.2.2
 have hO := And.intro hOld.1 (And.intro hOld.2.1 hOld.2.2.1)
 clear hOld
 replace hO := helBack hO c_3
 replace hO := helBack hO c_3
 obtain ⟨hOc, hOf, hOz⟩ := helEnd hO
 clear hO
 have hlu : w.heap.size < w3.heap.size ∧ w.heap.size + 1 < w3.heap.size ∧ w1.heap.size < w3.heap.size ∧ wg.heap.size < w3.heap.size := c_43
 go_wp2_with fail
 rw [rounds_succ]
 go_wp2_with fail
 refine wp_name fun W hW => ?_
 obtain ⟨hWc, hWf, hWz⟩ := hW.cells
 have hWe : ExtP w w1.heap.size 4 W := ExtP.same hW c_18
 (try simp only [World.size_setCell] at hWz)
 replace hWz := And.intro (Nat.le_of_eq hWz) (Nat.le_of_eq hWz.symm)
 have hlt : w.heap.size < W.heap.size ∧ w.heap.size + 1 < W.heap.size ∧ w1.heap.size < W.heap.size ∧ wg.heap.size < W.heap.size := c_43
 have hd : ¬ w.heap.size = w.heap.size + 1 ∧ ¬ w.heap.size = w1.heap.size ∧ ¬ w.heap.size = wg.heap.size ∧ ¬ w.heap.size + 1 = w.heap.size ∧ ¬ w.heap.size + 1 = w1.heap.size ∧ ¬ w.heap.size + 1 = wg.heap.size ∧ ¬ w1.heap.size = w.heap.size ∧ ¬ w1.heap.size = w.heap.size + 1 ∧ ¬ w1.heap.size = wg.heap.size ∧ ¬ wg.heap.size = w.heap.size ∧ ¬ wg.heap.size = w.heap.size + 1 ∧ ¬ wg.heap.size = w1.heap.size := c_36
 have hod0 : ∀ x, obx W.drew wg.heap.size 0 x = (.int .i64 r2.lo : Value) := obx_of (show W.drew.cell? ⟨wg.heap.size, 0, none⟩ = some (.int .i64 r2.lo : Value) from by (try simp only [cell_drew]); simp [go_sem, *])
 have hod1 : ∀ x, obx W.drew wg.heap.size 1 x = (.int .i64 r2.hi : Value) := obx_of (show W.drew.cell? ⟨wg.heap.size, 1, none⟩ = some (.int .i64 r2.hi : Value) from by (try simp only [cell_drew]); simp [go_sem, *])
 refine wp_region_held_drew (S := (fun w' => (∀ b o, b < W.heap.size → w'.cell? ⟨b, o, none⟩ = if b = wg.heap.size ∧ 0 ≤ o ∧ o < 2 ∨ b = w1.heap.size ∧ o = 4 then (W.cell? ⟨b, o, none⟩).map (obx w' b o) else W.cell? ⟨b, o, none⟩) ∧ (∀ b o, b < W.heap.size → w'.frozen? ⟨b, o, none⟩ = W.frozen? ⟨b, o, none⟩) ∧ W.heap.size ≤ w'.heap.size ∧ ExtP w w1.heap.size 4 w')) c_4 ?_ (fun hH => ?_)
 ·exact T_SphD_2
 refine tk (v := ?_) 0 rfl ?_ ?_
 rotate_left
 ·exact T_SphD_4
 try simp only [Act.put, List.setIfInBounds_toArray]
 refine tk (v := ?_) 1 rfl ?_ ?_
 rotate_left
 ·exact T_SphD_4
 try simp only [Act.put]
 refine tk (v := ?_) 2 rfl ?_ ?_
 rotate_left
 ·exact T_SphD_4
 try simp only [Act.put]
 refine tk (v := ?_) 3 rfl ?_ ?_
 rotate_left
 ·exact T_SphD_4
 try simp only [Act.put]
 refine tk (v := ?_) 4 rfl ?_ ?_
 rotate_left
 ·exact T_SphD_4
 try simp only [Act.put]
 refine tk (v := ?_) 6 rfl ?_ ?_
 rotate_left
 ·exact T_SphD_4
 try simp only [Act.put]
 refine tk (v := ?_) 7 rfl ?_ ?_
 rotate_left
 ·exact T_SphD_4
 try simp only [Act.put]
 refine tk (v := ?_) 8 rfl ?_ ?_
 rotate_left
 ·exact T_SphD_4
 try simp only [Act.put]
 refine tk (v := ?_) 9 rfl ?_ ?_
 rotate_left
 ·exact T_SphD_4
 try simp only [Act.put]
 refine tk (v := ?_) 10 rfl ?_ ?_
 rotate_left
 ·exact T_SphD_4
 try simp only [Act.put]
 refine tk (v := ?_) 11 rfl ?_ ?_
 rotate_left
 ·exact T_SphD_4
 try simp only [Act.put]
 refine tk (v := ?_) 12 rfl ?_ ?_
 rotate_left
 ·exact T_SphD_4
 try simp only [Act.put]
 refine tk (v := ?_) 13 rfl ?_ ?_
 rotate_left
 ·exact T_SphD_4
 try simp only [Act.put]
 refine tk (v := ?_) 14 rfl ?_ ?_
 rotate_left
 ·exact T_SphD_4
 try simp only [Act.put]
 refine tk (v := ?_) 15 rfl ?_ ?_
 rotate_left
 ·exact T_SphD_4
 try simp only [Act.put]
 refine wpAnyH_ready (rs := [5, 16]) c_4 (by simp) ?_
 refine AllReadyH.cons (o := _) rfl (fun K hK => ?_) ?_
 ·go_simp
  refine hK.out _ _ ?_ (fun hN => ?_)
  ·exact T_SphD_2
  clear hK K hH
  have hH := hN
  clear hN
  try simp only [Act.put, List.setIfInBounds_toArray, List.set_cons_zero, List.set_cons_succ]
  refine wpAnyH_ready (rs := [16]) c_4 (by simp) ?_
  refine rd1 rfl fun K hK => ?_
  go_simp
  (go_at_call 145; (with_reducible refine (d_sq w1.heap.size (r2.e) a.e a.f a.e a.f _ c_8 c_13 ha3).mono ?_); (generalize hr3 : doI (r2.e) (sqI a.e a.f) = r3); rintro e w2 ⟨rfl, hb0⟩; have hz0 := hb0.size; (try simp only [size_drew, World.size_setCell] at hz0); obtain ⟨hg0, hh0⟩ := hb0.got (u := .int .i64 (r2.e)) c_8; have hob0 := obx_of hg0; (try simp only [frozen_drew] at hh0); (have hog00 := obx_of ((hb0.cells.1 wg.heap.size 0 c_34).trans (show _ = some (.int .i64 r2.lo) from by (try simp only [cell_sc, cell_drew]); simp [go_sem, *]))); (have hog01 := obx_of ((hb0.cells.1 wg.heap.size 1 c_34).trans (show _ = some (.int .i64 r2.hi) from by (try simp only [cell_sc, cell_drew]); simp [go_sem, *]))))
  exact T_SphD_3
 refine rd1 rfl fun K hK => ?_
 ·go_simp
  (go_at_call 145; (with_reducible refine (d_sq w1.heap.size (r2.e) a.e a.f a.e a.f _ c_8 c_13 ha3).mono ?_); (generalize hr3 : doI (r2.e) (sqI a.e a.f) = r3); rintro e w2 ⟨rfl, hb0⟩; have hz0 := hb0.size; (try simp only [size_drew, World.size_setCell] at hz0); obtain ⟨hg0, hh0⟩ := hb0.got (u := .int .i64 (r2.e)) c_8; have hob0 := obx_of hg0; (try simp only [frozen_drew] at hh0); (have hog00 := obx_of ((hb0.cells.1 wg.heap.size 0 c_34).trans (show _ = some (.int .i64 r2.lo) from by (try simp only [cell_sc, cell_drew]); simp [go_sem, *]))); (have hog01 := obx_of ((hb0.cells.1 wg.heap.size 1 c_34).trans (show _ = some (.int .i64 r2.hi) from by (try simp only [cell_sc, cell_drew]); simp [go_sem, *]))))
  refine hK.out _ _ ?_ (fun hN => ?_)
  ·exact T_SphD_2
  clear hK K hH
  have hH := hN
  clear hN
  try simp only [Act.put, List.setIfInBounds_toArray, List.set_cons_zero, List.set_cons_succ]
  refine wpAnyH_ready (rs := [5]) c_4 (by simp) ?_
  refine rd1 rfl fun K hK => ?_
  go_simp
  exact T_SphD_3) : p := h
theorem p_nrm (a : V3) (w : World) (ha : a.I) :
    Calls Tryz.prog 81 #[.agg #[.int .i64 a.a, .int .i64 a.b, .int .i64 a.c, .int .i64 a.d, .int .i64 a.e, .int .i64 a.f]] w fun e w' => e = .returned (.tuple #[.agg #[.int .i64 (nrmV a).lo, .int .i64 (nrmV a).hi], .int .i64 (nrmV a).e]) ∧ Ext w w' := by
 obtain ⟨ha1, ha2, ha3⟩ := ha
 have l0 : IntKind.i64.wrap 0 = 0 := rfl
 have l1 : IntKind.i64.wrap 1 = 1 := rfl
 have l2 : IntKind.i64.wrap 2 = 2 := rfl
 have l3 : IntKind.i64.wrap 3 = 3 := rfl
 go_enter Tryz.func81, Tryz.ntmps81
 go_wp2_with (first | (go_at_call 141; (with_reducible refine (s_check a _).mono ?_); rintro e w1 ⟨rfl, hb⟩; obtain ⟨_, _, hc, hf⟩ := hb.cells2; have hz := hb.size; (try simp only [World.size_alloc] at hz hc hf); (try have zz : w.heap.size < w1.heap.size ∧ (∀ j, w.heap.size < w1.heap.size + j) ∧ (¬ w.heap.size = w1.heap.size) ∧ (∀ j, ¬ w.heap.size = w1.heap.size + j) ∧ (¬ w1.heap.size = w.heap.size) ∧ (∀ j, ¬ w1.heap.size + j = w.heap.size) := c_6); (try have zz : w.heap.size + 1 < w1.heap.size ∧ (∀ j, w.heap.size + 1 < w1.heap.size + j) ∧ (¬ w.heap.size + 1 = w1.heap.size) ∧ (∀ j, ¬ w.heap.size + 1 = w1.heap.size + j) ∧ (¬ w1.heap.size = w.heap.size + 1) ∧ (∀ j, ¬ w1.heap.size + j = w.heap.size + 1) := c_6)) | (go_at_call 142; (with_reducible refine (s_begin _).mono ?_); rintro e w2 ⟨rfl, rfl⟩) | (go_at_call 145; (with_reducible refine (d_sq w1.heap.size (0) a.a a.b a.a a.b _ c_35 c_35 ha1).mono ?_); (generalize hr0 : doI (0) (sqI a.a a.b) = r0); rintro e wg ⟨rfl, hb⟩; obtain ⟨_, _, hc, hf⟩ := hb.cells2; have hz := hb.size; (try simp only [wsz] at hz hc hf)))
 ·-- the error
  refine bodyPost_ret (v := .tuple #[.agg #[.int .i64 (nrmV a).lo, .int .i64 (nrmV a).hi], .int .i64 (nrmV a).e]) ?_ rfl ⟨rfl, ?_⟩
  ·(try simp only [bne_iff_ne, ne_eq] at *)
   simp [results, Tryz.results81, go_sem, nrmV, *]
  ·repeat (first | with_reducible exact Ext.refl _ | with_reducible assumption | with_reducible refine Ext.alloc ?_ _ | with_reducible refine Ext.setCell ?_ c_19 _ | with_reducible refine Ext.drewN ?_ _ | with_reducible refine Ext.drew ?_ | with_reducible refine Ext.trans ?_ c_1)
 ·-- the sum
  refine wp_loop_rounds 3 ?_
  rw [rounds_succ]
  go_wp2_with fail
  refine wp_name fun W hW => ?_
  obtain ⟨hWc, hWf, hWz⟩ := hW.cells
  have hWe : ExtP w w1.heap.size 4 W := ExtP.same hW c_7
  (try simp only [World.size_alloc] at hWz)
  replace hWz := And.intro (Nat.le_of_eq hWz) (Nat.le_of_eq hWz.symm)
  have hlt : w.heap.size < W.heap.size ∧ w.heap.size + 1 < W.heap.size ∧ w1.heap.size < W.heap.size ∧ wg.heap.size < W.heap.size := c_43
  have hd : ¬ w.heap.size = w.heap.size + 1 ∧ ¬ w.heap.size = w1.heap.size ∧ ¬ w.heap.size = wg.heap.size ∧ ¬ w.heap.size + 1 = w.heap.size ∧ ¬ w.heap.size + 1 = w1.heap.size ∧ ¬ w.heap.size + 1 = wg.heap.size ∧ ¬ w1.heap.size = w.heap.size ∧ ¬ w1.heap.size = w.heap.size + 1 ∧ ¬ w1.heap.size = wg.heap.size ∧ ¬ wg.heap.size = w.heap.size ∧ ¬ wg.heap.size = w.heap.size + 1 ∧ ¬ wg.heap.size = w1.heap.size := c_36
  have hod0 : ∀ x, obx W.drew wg.heap.size 0 x = (.int .i64 r0.lo : Value) := obx_of (show W.drew.cell? ⟨wg.heap.size, 0, none⟩ = some (.int .i64 r0.lo : Value) from by (try simp only [cell_drew]); simp [go_sem, *])
  have hod1 : ∀ x, obx W.drew wg.heap.size 1 x = (.int .i64 r0.hi : Value) := obx_of (show W.drew.cell? ⟨wg.heap.size, 1, none⟩ = some (.int .i64 r0.hi : Value) from by (try simp only [cell_drew]); simp [go_sem, *])
  refine wp_region_held_drew (S := (fun w' => (∀ b o, b < W.heap.size → w'.cell? ⟨b, o, none⟩ = if b = wg.heap.size ∧ 0 ≤ o ∧ o < 2 ∨ b = w1.heap.size ∧ o = 4 then (W.cell? ⟨b, o, none⟩).map (obx w' b o) else W.cell? ⟨b, o, none⟩) ∧ (∀ b o, b < W.heap.size → w'.frozen? ⟨b, o, none⟩ = W.frozen? ⟨b, o, none⟩) ∧ W.heap.size ≤ w'.heap.size ∧ ExtP w w1.heap.size 4 w')) c_4 ?_ (fun hH => ?_)
  ·exact T_SphD_2
  refine tk (v := ?_) 0 rfl ?_ ?_
  rotate_left
  ·exact T_SphD_4
  try simp only [Act.put, List.setIfInBounds_toArray]
  refine tk (v := ?_) 1 rfl ?_ ?_
  rotate_left
  ·exact T_SphD_4
  try simp only [Act.put]
  refine tk (v := ?_) 2 rfl ?_ ?_
  rotate_left
  ·exact T_SphD_4
  try simp only [Act.put]
  refine tk (v := ?_) 3 rfl ?_ ?_
  rotate_left
  ·exact T_SphD_4
  try simp only [Act.put]
  refine tk (v := ?_) 4 rfl ?_ ?_
  rotate_left
  ·exact T_SphD_4
  try simp only [Act.put]
  refine tk (v := ?_) 6 rfl ?_ ?_
  rotate_left
  ·exact T_SphD_4
  try simp only [Act.put]
  refine tk (v := ?_) 7 rfl ?_ ?_
  rotate_left
  ·exact T_SphD_4
  try simp only [Act.put]
  refine tk (v := ?_) 8 rfl ?_ ?_
  rotate_left
  ·exact T_SphD_4
  try simp only [Act.put]
  refine tk (v := ?_) 9 rfl ?_ ?_
  rotate_left
  ·exact T_SphD_4
  try simp only [Act.put]
  refine tk (v := ?_) 10 rfl ?_ ?_
  rotate_left
  ·exact T_SphD_4
  try simp only [Act.put]
  refine tk (v := ?_) 11 rfl ?_ ?_
  rotate_left
  ·exact T_SphD_4
  try simp only [Act.put]
  refine tk (v := ?_) 12 rfl ?_ ?_
  rotate_left
  ·exact T_SphD_4
  try simp only [Act.put]
  refine tk (v := ?_) 13 rfl ?_ ?_
  rotate_left
  ·exact T_SphD_4
  try simp only [Act.put]
  refine tk (v := ?_) 14 rfl ?_ ?_
  rotate_left
  ·exact T_SphD_4
  try simp only [Act.put]
  refine tk (v := ?_) 15 rfl ?_ ?_
  rotate_left
  ·exact T_SphD_4
  try simp only [Act.put]
  refine wpAnyH_ready (rs := [5, 16]) c_4 (by simp) ?_
  refine AllReadyH.cons (o := _) rfl (fun K hK => ?_) ?_
  ·go_simp
   refine hK.out _ _ ?_ (fun hN => ?_)
   ·exact T_SphD_2
   clear hK K hH
   have hH := hN
   clear hN
   try simp only [Act.put, List.setIfInBounds_toArray, List.set_cons_zero, List.set_cons_succ]
   refine wpAnyH_ready (rs := [16]) c_4 (by simp) ?_
   refine rd1 rfl fun K hK => ?_
   go_simp
   (go_at_call 145; (with_reducible refine (d_sq w1.heap.size (r0.e) a.c a.d a.c a.d _ c_8 c_13 ha2).mono ?_); (generalize hr1 : doI (r0.e) (sqI a.c a.d) = r1); rintro e w2 ⟨rfl, hb0⟩; have hz0 := hb0.size; (try simp only [size_drew, World.size_setCell] at hz0); obtain ⟨hg0, hh0⟩ := hb0.got (u := .int .i64 (r0.e)) c_8; have hob0 := obx_of hg0; (try simp only [frozen_drew] at hh0); (have hog00 := obx_of ((hb0.cells.1 wg.heap.size 0 c_34).trans (show _ = some (.int .i64 r0.lo) from by (try simp only [cell_sc, cell_drew]); simp [go_sem, *]))); (have hog01 := obx_of ((hb0.cells.1 wg.heap.size 1 c_34).trans (show _ = some (.int .i64 r0.hi) from by (try simp only [cell_sc, cell_drew]); simp [go_sem, *]))))
   exact T_SphD_1
  refine rd1 rfl fun K hK => ?_
  ·go_simp
   (go_at_call 145; (with_reducible refine (d_sq w1.heap.size (r0.e) a.c a.d a.c a.d _ c_8 c_13 ha2).mono ?_); (generalize hr1 : doI (r0.e) (sqI a.c a.d) = r1); rintro e w2 ⟨rfl, hb0⟩; have hz0 := hb0.size; (try simp only [size_drew, World.size_setCell] at hz0); obtain ⟨hg0, hh0⟩ := hb0.got (u := .int .i64 (r0.e)) c_8; have hob0 := obx_of hg0; (try simp only [frozen_drew] at hh0); (have hog00 := obx_of ((hb0.cells.1 wg.heap.size 0 c_34).trans (show _ = some (.int .i64 r0.lo) from by (try simp only [cell_sc, cell_drew]); simp [go_sem, *]))); (have hog01 := obx_of ((hb0.cells.1 wg.heap.size 1 c_34).trans (show _ = some (.int .i64 r0.hi) from by (try simp only [cell_sc, cell_drew]); simp [go_sem, *]))))
   refine hK.out _ _ ?_ (fun hN => ?_)
   ·exact T_SphD_2
   clear hK K hH
   have hH := hN
   clear hN
   try simp only [Act.put, List.setIfInBounds_toArray, List.set_cons_zero, List.set_cons_succ]
   refine wpAnyH_ready (rs := [5]) c_4 (by simp) ?_
   refine rd1 rfl fun K hK => ?_
   go_simp
   exact T_SphD_1
end Go.Proofs.YtogblocakccbgaaGreat
