/- sphere: checks, the sheet. -/
import Derived.Test.YtbkgakgdbmjmjaaGreatP04
set_option linter.unusedSimpArgs false
set_option linter.unusedVariables false
set_option maxRecDepth 100000
set_option maxHeartbeats 4000000
namespace Go.Proofs.YtbkgakgdbmjmjaaGreat
open Go.RowKit
theorem s_check1 (a b : Int) (w : World) :
    Calls Tryz.prog 109 #[.agg #[.int .i64 a, .int .i64 b]] w fun e w' => e = .returned (.int .i64 (ckI a b)) ∧ Ext w w' := by
 have l0 : IntKind.i64.wrap 0 = 0 := rfl
 have l1 : IntKind.i64.wrap 1 = 1 := rfl
 have l2 : IntKind.i64.wrap 2 = 2 := rfl
 have l3 : IntKind.i64.wrap 3 = 3 := rfl
 go_enter Tryz.func109, Tryz.ntmps109
 go_wp2_with (first | (go_at_call 66; (with_reducible refine (check_1 _ _ _ _ c_53).mono ?_); rintro e w1 ⟨rfl, hb⟩; obtain ⟨_, _, ⟨hc, hf⟩, hz⟩ := hb.c3; (try simp only [World.size_alloc] at hz hc hf)))
 all_goals
  go_ret
  refine ⟨?_, ?_⟩
  ·(try simp only [] at *)
   first | (simp [ckI, *]; done) | (simp [ckI, *]; omega)
  ·exact b_6
theorem s_check (v : V3) (w : World) :
    Calls Tryz.prog 77 #[.agg #[.int .i64 v.a, .int .i64 v.b, .int .i64 v.c, .int .i64 v.d, .int .i64 v.e, .int .i64 v.f]] w fun e w' => e = .returned (.int .i64 (ckV v)) ∧ Ext w w' := by
 have l0 : IntKind.i64.wrap 0 = 0 := rfl
 have l1 : IntKind.i64.wrap 1 = 1 := rfl
 have l2 : IntKind.i64.wrap 2 = 2 := rfl
 have l3 : IntKind.i64.wrap 3 = 3 := rfl
 go_enter Tryz.func77, Tryz.ntmps77
 go_wp2_with fail
 refine wp_loop_rounds 4 ?_
 repeat
  any_goals
   rw [rounds_succ]
   go_wp2_with (first | (go_at_call 109; (with_reducible refine (s_check1 _ _ _).mono ?_); rintro e w1 ⟨rfl, hb⟩; obtain ⟨_, _, ⟨hc, hf⟩, hz⟩ := hb.c3; (try simp only [World.size_alloc] at hz hc hf)))
 all_goals
  go_ret
  refine ⟨?_, ?_⟩
  ·(try simp only [bn_] at *)
   first | (simp [ckV, ck2, *]; done) | (simp [ckV, ck2, *]; omega)
  ·exact b_6
theorem s_look (a b : V3) (w : World) :
    Calls Tryz.prog 63 #[.agg #[.int .i64 a.a, .int .i64 a.b, .int .i64 a.c, .int .i64 a.d, .int .i64 a.e, .int .i64 a.f], .agg #[.int .i64 b.a, .int .i64 b.b, .int .i64 b.c, .int .i64 b.d, .int .i64 b.e, .int .i64 b.f]] w fun e w' => e = .returned (.int .i64 (ck2V a b)) ∧ Ext w w' := by
 have l0 : IntKind.i64.wrap 0 = 0 := rfl
 have l1 : IntKind.i64.wrap 1 = 1 := rfl
 have l2 : IntKind.i64.wrap 2 = 2 := rfl
 have l3 : IntKind.i64.wrap 3 = 3 := rfl
 go_enter Tryz.func63, Tryz.ntmps63
 go_wp2_with (first | (go_at_call 77; (with_reducible refine (s_check a _).mono ?_); rintro e w1 ⟨rfl, hb⟩; obtain ⟨_, _, ⟨hc, hf⟩, hz⟩ := hb.c3; (try simp only [World.size_alloc] at hz hc hf)) | (go_at_call 77; (with_reducible refine (s_check b _).mono ?_); rintro e w1 ⟨rfl, hb⟩; obtain ⟨_, _, ⟨hc, hf⟩, hz⟩ := hb.c3; (try simp only [wsz] at hz hc hf)))
 all_goals
  go_ret
  refine ⟨?_, ?_⟩
  ·(try simp only [bn_] at *)
   first | (simp [ck2V, *]; done) | (simp [ck2V, *]; omega)
  ·exact b_6
theorem s_nsq (a b c d : Int) (w : World) (ha : I64 a ∧ I64 b) :
    Calls Tryz.prog 182 #[.agg #[.int .i64 a, .int .i64 b], .agg #[.int .i64 c, .int .i64 d]] w fun e w' => e = .returned (.tuple #[.agg #[.int .i64 (sqI a b).lo, .int .i64 (sqI a b).hi], .int .i64 (sqI a b).e]) ∧ Ext w w' := by
 go_enter Tryz.func182, Tryz.ntmps182
 go_wp2_with (first | (go_at_call 107; (with_reducible refine (span_sq _ _ _ ha.1 ha.2).mono ?_); rintro e w1 ⟨rfl, hb⟩; obtain ⟨_, _, ⟨hc, hf⟩, hz⟩ := hb.c3; (try simp only [World.size_alloc] at hz hc hf)))
 all_goals
  refine bodyPost_ret (v := .tuple #[.agg #[.int .i64 (sqI a b).lo, .int .i64 (sqI a b).hi], .int .i64 (sqI a b).e]) ?_ rfl ⟨rfl, ?_⟩
  ·(try simp only [] at *)
   simp [results, Tryz.results182, go_sem, *]
  ·exact b_7
theorem s_begin (w : World) :
    Calls Tryz.prog 64 #[] w fun e w' => e = .returned (.pointer (some ⟨w.heap.size, 0, none⟩)) ∧ w' = w.alloc (.cells #[.func (.func 95) #[] #[], .func (.func 62) #[] #[], .func (.func 113) #[] #[], .func (.func 114) #[] #[], .int .i64 0] 128) := by
 go_enter Tryz.func64, Tryz.ntmps64
 go_wp2_with fail
 all_goals go_ret
 exact ⟨rfl, rfl⟩
theorem d_add (p : Nat) (E a b c d : Int) (w : World) (hc : w.cell? ⟨p, 4, none⟩ = some (.int .i64 E)) (hf : w.frozen? ⟨p, 4, none⟩ = false) :
    Calls Tryz.prog 110 #[.pointer (some ⟨p, 0, none⟩), .func (.func 95) #[] #[], .agg #[.int .i64 a, .int .i64 b], .agg #[.int .i64 c, .int .i64 d]] w fun e w' => e = .returned (.agg #[.int .i64 (doI E (addI a b c d)).lo, .int .i64 (doI E (addI a b c d)).hi]) ∧ Ext (w.setCell ⟨p, 4, none⟩ (.int .i64 ((doI E (addI a b c d)).e))) w' := by
 have hp : p < w.heap.size := World.block_lt_of_cell? w _ hc
 go_enter Tryz.func110, Tryz.ntmps110
 go_wp2_with (first | (go_at_call 95; (with_reducible refine (span_add _ _ _ _ _).mono ?_); rintro e w1 ⟨rfl, hb⟩; obtain ⟨_, _, ⟨hc, hf⟩, hz⟩ := hb.c3; (try simp only [World.size_alloc] at hz hc hf)))
 all_goals
  refine bodyPost_ret (v := .agg #[.int .i64 (doI E (addI a b c d)).lo, .int .i64 (doI E (addI a b c d)).hi]) ?_ rfl ⟨rfl, ?_⟩
  ·(try simp only [bn_] at *)
   simp [results, Tryz.results110, go_sem, ↓IntWalk.iteOmega, doI, *]
  ·refine ExtP.fin ?_ ?_ hp
   ·exact b_8
   ·(try simp only [bn_] at *)
    simp [go_sem, ↓IntWalk.iteOmega, doI, *]
theorem d_mul (p : Nat) (E a b c d : Int) (w : World) (hc : w.cell? ⟨p, 4, none⟩ = some (.int .i64 E)) (hf : w.frozen? ⟨p, 4, none⟩ = false) (ha : I64 a ∧ I64 b) (hc0 : I64 c ∧ I64 d) :
    Calls Tryz.prog 110 #[.pointer (some ⟨p, 0, none⟩), .func (.func 113) #[] #[], .agg #[.int .i64 a, .int .i64 b], .agg #[.int .i64 c, .int .i64 d]] w fun e w' => e = .returned (.agg #[.int .i64 (doI E (mulI a b c d)).lo, .int .i64 (doI E (mulI a b c d)).hi]) ∧ Ext (w.setCell ⟨p, 4, none⟩ (.int .i64 ((doI E (mulI a b c d)).e))) w' := by
 have hp : p < w.heap.size := World.block_lt_of_cell? w _ hc
 go_enter Tryz.func110, Tryz.ntmps110
 go_wp2_with (first | (go_at_call 113; (with_reducible refine (span_mul _ _ _ _ _ ha hc0).mono ?_); rintro e w1 ⟨rfl, hb⟩; obtain ⟨_, _, ⟨hc, hf⟩, hz⟩ := hb.c3; (try simp only [World.size_alloc] at hz hc hf)))
 all_goals
  refine bodyPost_ret (v := .agg #[.int .i64 (doI E (mulI a b c d)).lo, .int .i64 (doI E (mulI a b c d)).hi]) ?_ rfl ⟨rfl, ?_⟩
  ·(try simp only [bn_] at *)
   simp [results, Tryz.results110, go_sem, ↓IntWalk.iteOmega, doI, *]
  ·refine ExtP.fin ?_ ?_ hp
   ·exact b_8
   ·(try simp only [bn_] at *)
    simp [go_sem, ↓IntWalk.iteOmega, doI, *]
theorem d_sq (p : Nat) (E a b c d : Int) (w : World) (hc : w.cell? ⟨p, 4, none⟩ = some (.int .i64 E)) (hf : w.frozen? ⟨p, 4, none⟩ = false) (ha : I64 a ∧ I64 b) :
    Calls Tryz.prog 110 #[.pointer (some ⟨p, 0, none⟩), .func (.func 182) #[] #[], .agg #[.int .i64 a, .int .i64 b], .agg #[.int .i64 c, .int .i64 d]] w fun e w' => e = .returned (.agg #[.int .i64 (doI E (sqI a b)).lo, .int .i64 (doI E (sqI a b)).hi]) ∧ Ext (w.setCell ⟨p, 4, none⟩ (.int .i64 ((doI E (sqI a b)).e))) w' := by
 have hp : p < w.heap.size := World.block_lt_of_cell? w _ hc
 go_enter Tryz.func110, Tryz.ntmps110
 go_wp2_with (first | (go_at_call 182; (with_reducible refine (s_nsq _ _ _ _ _ ha).mono ?_); rintro e w1 ⟨rfl, hb⟩; obtain ⟨_, _, ⟨hc, hf⟩, hz⟩ := hb.c3; (try simp only [World.size_alloc] at hz hc hf)))
 all_goals
  refine bodyPost_ret (v := .agg #[.int .i64 (doI E (sqI a b)).lo, .int .i64 (doI E (sqI a b)).hi]) ?_ rfl ⟨rfl, ?_⟩
  ·(try simp only [bn_] at *)
   simp [results, Tryz.results110, go_sem, ↓IntWalk.iteOmega, doI, *]
  ·refine ExtP.fin ?_ ?_ hp
   ·exact b_8
   ·(try simp only [bn_] at *)
    simp [go_sem, ↓IntWalk.iteOmega, doI, *]
theorem s_vec (p : Nat) (E : Int) (v : V3) (w : World) (hc : w.cell? ⟨p, 4, none⟩ = some (.int .i64 E)) :
    Calls Tryz.prog 111 #[.pointer (some ⟨p, 0, none⟩), .agg #[.int .i64 v.a, .int .i64 v.b, .int .i64 v.c, .int .i64 v.d, .int .i64 v.e, .int .i64 v.f]] w fun e w' => e = .returned (.tuple #[.agg #[.int .i64 ((vecV E v).v).a, .int .i64 ((vecV E v).v).b, .int .i64 ((vecV E v).v).c, .int .i64 ((vecV E v).v).d, .int .i64 ((vecV E v).v).e, .int .i64 ((vecV E v).v).f], .int .i64 (vecV E v).e]) ∧ Ext w w' := by
 have hp : p < w.heap.size := World.block_lt_of_cell? w _ hc
 go_enter Tryz.func111, Tryz.ntmps111
 go_wp2_with fail
 any_goals go_region
 all_goals go_wp2_with fail
 all_goals
  refine bodyPost_ret (v := .tuple #[.agg #[.int .i64 ((vecV E v).v).a, .int .i64 ((vecV E v).v).b, .int .i64 ((vecV E v).v).c, .int .i64 ((vecV E v).v).d, .int .i64 ((vecV E v).v).e, .int .i64 ((vecV E v).v).f], .int .i64 (vecV E v).e]) ?_ rfl ⟨rfl, ?_⟩
  ·(try simp only [bn_] at *)
   simp [results, Tryz.results111, go_sem, vecV, V3.O, *]
  ·exact b_6
theorem s_vec6 (p : Nat) (E x0 x1 x2 x3 x4 x5 : Int) (w : World) (hc : w.cell? ⟨p, 4, none⟩ = some (.int .i64 E)) :
    Calls Tryz.prog 111 #[.pointer (some ⟨p, 0, none⟩), .agg #[.int .i64 x0, .int .i64 x1, .int .i64 x2, .int .i64 x3, .int .i64 x4, .int .i64 x5]] w fun e w' => e = .returned (.tuple #[.agg #[.int .i64 ((vecV E ⟨x0, x1, x2, x3, x4, x5⟩).v).a, .int .i64 ((vecV E ⟨x0, x1, x2, x3, x4, x5⟩).v).b, .int .i64 ((vecV E ⟨x0, x1, x2, x3, x4, x5⟩).v).c, .int .i64 ((vecV E ⟨x0, x1, x2, x3, x4, x5⟩).v).d, .int .i64 ((vecV E ⟨x0, x1, x2, x3, x4, x5⟩).v).e, .int .i64 ((vecV E ⟨x0, x1, x2, x3, x4, x5⟩).v).f], .int .i64 (vecV E ⟨x0, x1, x2, x3, x4, x5⟩).e]) ∧ Ext w w' := s_vec p E ⟨x0, x1, x2, x3, x4, x5⟩ w hc
theorem T_For1_1 {p : Prop} (h : p := by
 go_enter Tryz.func89, Tryz.ntmps89
 go_wp2_with fail
 all_goals
  (try simp only [nz_true, nz_false] at *)
  refine bodyPost_ret (v := .agg #[.int .i64 (kpI E x y ee).lo, .int .i64 (kpI E x y ee).hi]) ?_ rfl ⟨rfl, ?_⟩
  ·(try simp only [bn_, bm_] at *)
   simp [results, Tryz.results89, go_sem, ↓IntWalk.iteOmega, kpI, nz, *]
  ·refine ExtP.fin ?_ ?_ hp
   ·exact b_9
   ·(try simp only [bn_, bm_] at *)
    simp [go_sem, ↓IntWalk.iteOmega, kpI, nz, *]) : p := h
def nz (E : Int) : Bool := decide (E ≠ 0)
theorem nz_true (E : Int) : nz E = true ↔ E ≠ 0 := by simp [nz]
theorem nz_false (E : Int) : nz E = false ↔ E = 0 := by simp [nz]
theorem f_keep (p : Nat) (E x y ee : Int) (w : World) (hc : w.cell? ⟨p, 0, none⟩ = some (.bool (nz (E)))) (hf : w.frozen? ⟨p, 0, none⟩ = false) :
    Calls Tryz.prog 89 #[.pointer (some ⟨p, 0, none⟩), .agg #[.int .i64 x, .int .i64 y], .int .i64 ee] w fun e w' => e = .returned (.agg #[.int .i64 (kpI E x y ee).lo, .int .i64 (kpI E x y ee).hi]) ∧ Ext (w.setCell ⟨p, 0, none⟩ (.bool (nz ((kpI E x y ee).e)))) w' := by
 have hp : p < w.heap.size := World.block_lt_of_cell? w _ hc
 by_cases hE0 : E = 0
 ·exact T_For1_1
 ·exact T_For1_1
theorem f_sub (p : Nat) (E a b c d : Int) (w : World) (hc : w.cell? ⟨p, 0, none⟩ = some (.bool (nz (E)))) (hf : w.frozen? ⟨p, 0, none⟩ = false) :
    Calls Tryz.prog 49 #[.pointer (some ⟨p, 0, none⟩), .agg #[.int .i64 a, .int .i64 b], .agg #[.int .i64 c, .int .i64 d]] w fun e w' => e = .returned (.agg #[.int .i64 (doI E (subI a b c d)).lo, .int .i64 (doI E (subI a b c d)).hi]) ∧ Ext (w.setCell ⟨p, 0, none⟩ (.bool (nz ((doI E (subI a b c d)).e)))) w' := by
 have hp : p < w.heap.size := World.block_lt_of_cell? w _ hc
 rw [← kp_do (subI_Z _ _ _ _)]
 go_enter Tryz.func49, Tryz.ntmps49
 go_wp2_with (first | (go_at_call 62; (with_reducible refine (span_sub _ _ _ _ _).mono ?_); rintro e w1 ⟨rfl, hb⟩; obtain ⟨_, _, ⟨hc, hf⟩, hz⟩ := hb.c3; (try simp only [wsz] at hz hc hf)) | (go_at_call 89; (with_reducible refine (f_keep _ E _ _ _ _ c_27 c_27).mono ?_); rintro e w1 ⟨rfl, hb⟩; obtain ⟨_, _, ⟨hc, hf⟩, hz⟩ := hb.c3; (try simp only [wsz] at hz hc hf)))
 all_goals
  refine bodyPost_ret (v := .agg #[.int .i64 (kpI E (subI a b c d).lo (subI a b c d).hi (subI a b c d).e).lo, .int .i64 (kpI E (subI a b c d).lo (subI a b c d).hi (subI a b c d).e).hi]) ?_ rfl ⟨rfl, ?_⟩
  ·(try simp only [bn_, bm_] at *)
   simp [results, Tryz.results49, go_sem, ↓IntWalk.iteOmega, kpI, *]
  ·refine ExtP.fin ?_ ?_ hp
   ·exact b_9
   ·(try simp only [bn_, bm_] at *)
    simp [go_sem, ↓IntWalk.iteOmega, kpI, *]
theorem f_mul (p : Nat) (E a b c d : Int) (w : World) (hc : w.cell? ⟨p, 0, none⟩ = some (.bool (nz (E)))) (hf : w.frozen? ⟨p, 0, none⟩ = false) (ha : I64 a ∧ I64 b) (hc0 : I64 c ∧ I64 d) :
    Calls Tryz.prog 92 #[.pointer (some ⟨p, 0, none⟩), .agg #[.int .i64 a, .int .i64 b], .agg #[.int .i64 c, .int .i64 d]] w fun e w' => e = .returned (.agg #[.int .i64 (doI E (mulI a b c d)).lo, .int .i64 (doI E (mulI a b c d)).hi]) ∧ Ext (w.setCell ⟨p, 0, none⟩ (.bool (nz ((doI E (mulI a b c d)).e)))) w' := by
 have hp : p < w.heap.size := World.block_lt_of_cell? w _ hc
 rw [← kp_do (mulI_Z _ _ _ _)]
 go_enter Tryz.func92, Tryz.ntmps92
 go_wp2_with (first | (go_at_call 113; (with_reducible refine (span_mul _ _ _ _ _ ha hc0).mono ?_); rintro e w1 ⟨rfl, hb⟩; obtain ⟨_, _, ⟨hc, hf⟩, hz⟩ := hb.c3; (try simp only [wsz] at hz hc hf)) | (go_at_call 89; (with_reducible refine (f_keep _ E _ _ _ _ c_27 c_27).mono ?_); rintro e w1 ⟨rfl, hb⟩; obtain ⟨_, _, ⟨hc, hf⟩, hz⟩ := hb.c3; (try simp only [wsz] at hz hc hf)))
 all_goals
  refine bodyPost_ret (v := .agg #[.int .i64 (kpI E (mulI a b c d).lo (mulI a b c d).hi (mulI a b c d).e).lo, .int .i64 (kpI E (mulI a b c d).lo (mulI a b c d).hi (mulI a b c d).e).hi]) ?_ rfl ⟨rfl, ?_⟩
  ·(try simp only [bn_, bm_] at *)
   simp [results, Tryz.results92, go_sem, ↓IntWalk.iteOmega, kpI, *]
  ·refine ExtP.fin ?_ ?_ hp
   ·exact b_9
   ·(try simp only [bn_, bm_] at *)
    simp [go_sem, ↓IntWalk.iteOmega, kpI, *]
theorem f_div (p : Nat) (E a b c d : Int) (w : World) (hc : w.cell? ⟨p, 0, none⟩ = some (.bool (nz (E)))) (hf : w.frozen? ⟨p, 0, none⟩ = false) :
    Calls Tryz.prog 91 #[.pointer (some ⟨p, 0, none⟩), .agg #[.int .i64 a, .int .i64 b], .agg #[.int .i64 c, .int .i64 d]] w fun e w' => e = .returned (.agg #[.int .i64 (doI E (divI a b c d)).lo, .int .i64 (doI E (divI a b c d)).hi]) ∧ Ext (w.setCell ⟨p, 0, none⟩ (.bool (nz ((doI E (divI a b c d)).e)))) w' := by
 have hp : p < w.heap.size := World.block_lt_of_cell? w _ hc
 rw [← kp_do (divI_Z _ _ _ _)]
 go_enter Tryz.func91, Tryz.ntmps91
 go_wp2_with (first | (go_at_call 114; (with_reducible refine (span_div _ _ _ _ _).mono ?_); rintro e w1 ⟨rfl, hb⟩; obtain ⟨_, _, ⟨hc, hf⟩, hz⟩ := hb.c3; (try simp only [wsz] at hz hc hf)) | (go_at_call 89; (with_reducible refine (f_keep _ E _ _ _ _ c_27 c_27).mono ?_); rintro e w1 ⟨rfl, hb⟩; obtain ⟨_, _, ⟨hc, hf⟩, hz⟩ := hb.c3; (try simp only [wsz] at hz hc hf)))
 all_goals
  refine bodyPost_ret (v := .agg #[.int .i64 (kpI E (divI a b c d).lo (divI a b c d).hi (divI a b c d).e).lo, .int .i64 (kpI E (divI a b c d).lo (divI a b c d).hi (divI a b c d).e).hi]) ?_ rfl ⟨rfl, ?_⟩
  ·(try simp only [bn_, bm_] at *)
   simp [results, Tryz.results91, go_sem, ↓IntWalk.iteOmega, kpI, *]
  ·refine ExtP.fin ?_ ?_ hp
   ·exact b_9
   ·(try simp only [bn_, bm_] at *)
    simp [go_sem, ↓IntWalk.iteOmega, kpI, *]
theorem f_add (p : Nat) (E a b c d : Int) (w : World) (hc : w.cell? ⟨p, 0, none⟩ = some (.bool (nz (E)))) (hf : w.frozen? ⟨p, 0, none⟩ = false) :
    Calls Tryz.prog 48 #[.pointer (some ⟨p, 0, none⟩), .agg #[.int .i64 a, .int .i64 b], .agg #[.int .i64 c, .int .i64 d]] w fun e w' => e = .returned (.agg #[.int .i64 (doI E (addI a b c d)).lo, .int .i64 (doI E (addI a b c d)).hi]) ∧ Ext (w.setCell ⟨p, 0, none⟩ (.bool (nz ((doI E (addI a b c d)).e)))) w' := by
 have hp : p < w.heap.size := World.block_lt_of_cell? w _ hc
 rw [← kp_do (addI_Z _ _ _ _)]
 go_enter Tryz.func48, Tryz.ntmps48
 go_wp2_with (first | (go_at_call 95; (with_reducible refine (span_add _ _ _ _ _).mono ?_); rintro e w1 ⟨rfl, hb⟩; obtain ⟨_, _, ⟨hc, hf⟩, hz⟩ := hb.c3; (try simp only [wsz] at hz hc hf)) | (go_at_call 89; (with_reducible refine (f_keep _ E _ _ _ _ c_27 c_27).mono ?_); rintro e w1 ⟨rfl, hb⟩; obtain ⟨_, _, ⟨hc, hf⟩, hz⟩ := hb.c3; (try simp only [wsz] at hz hc hf)))
 all_goals
  refine bodyPost_ret (v := .agg #[.int .i64 (kpI E (addI a b c d).lo (addI a b c d).hi (addI a b c d).e).lo, .int .i64 (kpI E (addI a b c d).lo (addI a b c d).hi (addI a b c d).e).hi]) ?_ rfl ⟨rfl, ?_⟩
  ·(try simp only [bn_, bm_] at *)
   simp [results, Tryz.results48, go_sem, ↓IntWalk.iteOmega, kpI, *]
  ·refine ExtP.fin ?_ ?_ hp
   ·exact b_9
   ·(try simp only [bn_, bm_] at *)
    simp [go_sem, ↓IntWalk.iteOmega, kpI, *]
theorem s_root (x : Int) (w : World) (x0 : 0 ≤ x) (x1 : x ≤ 2305843009213693952) :
    Calls Tryz.prog 183 #[.int .i64 x] w fun e w' => e = .returned (.int .i64 (rootI x)) ∧ Ext w w' := by
 have hx : I64 x := by unfold I64; omega
 have hM : I64 1099511627776 := by unfold I64; omega
 go_enter Tryz.func183, Tryz.ntmps183
 go_wp2_with (first | (go_at_call 163; (with_reducible refine (times_any x 1099511627776 _ hx hM).mono ?_); rintro e w1 ⟨rfl, hb⟩; obtain ⟨_, _, ⟨hc, hf⟩, hz⟩ := hb.c3; (try simp only [wsz] at hz hc hf)))
 go_loopw [4, 5] (fun v4 v5 wr => ∃ lo hi : Int, v4 = .int .i64 lo ∧ v5 = .int .i64 hi ∧ 0 ≤ lo ∧ lo < hi ∧ hi ≤ 4503599627370496 ∧ lo * lo ≤ x * 1099511627776 ∧ x * 1099511627776 < hi * hi ∧ Ext w wr ∧ w1.heap.size < wr.heap.size ∧ wr.cell? ⟨w1.heap.size, 0, none⟩ = some (.int .i64 (x * 1099511627776 / 18446744073709551616)) ∧ wr.cell? ⟨w1.heap.size, 1, none⟩ = some (.int .u64 (x * 1099511627776 % 18446744073709551616))) (fun v4 v5 wr => (intOf v5 - intOf v4).toNat)
 case atStart =>
  refine ⟨_, _, rfl, rfl, by omega, by omega, by omega, by omega, by omega, ?_, ?_, ?_, ?_⟩
  ·exact b_6
  all_goals first | ((try simp only [wsz]); omega) | (simp [go_sem, ↓IntWalk.iteOmega, *]; done)
 case round =>
  obtain ⟨lo, hi, rfl, rfl, k0, k1, k2, k3, k4, hE0, hg, hc0, hc1⟩ := hrel
  have s1 : IntKind.i64.wrap (hi - lo) = hi - lo := by rw [IntKind.wrap_i64]; omega
  have s2 : IntKind.i64.wrap (lo + hi) = lo + hi := by rw [IntKind.wrap_i64]; omega
  obtain ⟨m, em⟩ : ∃ m, m = (lo + hi) / 2 := ⟨_, rfl⟩
  have s3 : (lo + hi).tdiv 2 = m := by rw [Int.tdiv_eq_ediv_of_nonneg (by omega)]; exact em.symm
  have s4 : IntKind.i64.wrap m = m := by rw [IntKind.wrap_i64]; omega
  have hm : I64 m := by unfold I64; omega
  by_cases h1 : 1 < hi - lo
  ·have b1 : lo < m := by omega
   have b2 : m < hi := by omega
   have em' := Lib.hid em
   clear em
   have K3 := Lib.hid k3
   have K4 := Lib.hid k4
   clear k3 k4
   go_wp2_with fail
   refine wp_name fun W hW => ?_
   obtain ⟨hWc, hWf, hWz⟩ := hW.cells
   have hWe : Ext w W := Ext.same hW ex_
   (try simp only [wsz] at hWz)
   (try simp only [size_drew, size_drewN, World.size_alloc, World.size_setCell] at hWz)
   replace hWz := And.intro (Nat.le_of_eq hWz) (Nat.le_of_eq hWz.symm)
   have hlt : w1.heap.size < W.heap.size := by omega
   
   go_region_held3 (fun w' => (∀ b o, b < W.heap.size → w'.cell? ⟨b, o, none⟩ = if b = w1.heap.size ∧ 0 ≤ o ∧ o < 0 then (W.cell? ⟨b, o, none⟩).map (obx w' b o) else W.cell? ⟨b, o, none⟩) ∧ (∀ b o, b < W.heap.size → w'.frozen? ⟨b, o, none⟩ = W.frozen? ⟨b, o, none⟩) ∧ W.heap.size ≤ w'.heap.size ∧ Ext w w') (exact k_3) ((first | (go_at_call 163; (with_reducible refine (times_any m m _ hm hm).mono ?_); rintro e w2 ⟨rfl, hb2⟩; have hz2 := hb2.size; (try rw [size_drew] at hz2)) | (go_at_call 222; (with_reducible refine (cmp_any _ _ _).mono ?_); rintro e w2 ⟨rfl, hb2⟩; have hz2 := hb2.size; (try rw [size_drew] at hz2))))
   all_goals
    rename_i hOld
    have hE := hOld.2.2.2
    have hO := And.intro hOld.1 (And.intro hOld.2.1 hOld.2.2.1)
    clear hOld
    obtain ⟨hOc, hOf, hOz⟩ := heldEnd hO
    clear hO
    go_wp2_with fail
    all_goals
     go_roundw
     case measure => simp only [intOf]; omega
     simp only [cmp_np, cmp_pos] at *
     refine ⟨_, _, rfl, rfl, by omega, by omega, by omega, by first | (with_reducible assumption) | exact K3.out, by first | (with_reducible assumption) | exact K4.out, ?_, ?_, ?_, ?_⟩
     ·exact b_6
     all_goals first | ((try simp only [wsz]); omega) | (simp [go_sem, ↓IntWalk.iteOmega, *]; done)
  ·have h2 : hi = lo + 1 := by omega
   subst h2
   have hr : lo = rootI x := IsRoot.eq ⟨k0, k3, k4⟩
   have hr' := Lib.hid hr
   clear hr k3 k4
   go_wp2_with fail
   go_ret
   refine ⟨?_, hE0⟩
   rw [← hr'.out]
   rfl
theorem ref_check (a b : Int) (w : World) :
    Calls Tryz.prog 60 #[.agg #[.int .i64 a, .int .i64 b]] w fun e w' => e = .returned (.int .i64 (ckI a b)) ∧ Ext w w' := by
 go_enter Tryz.func60, Tryz.ntmps60
 go_wp2_with fail
 all_goals
  go_ret
  refine ⟨?_, ?_⟩
  ·(try simp only [] at *)
   first | (simp [ckI, *]; done) | (simp [ckI, *]; omega)
  ·exact b_3
theorem nat_root (n : Nat) : ∃ r : Nat, r * r ≤ n ∧ n < (r + 1) * (r + 1) := by
 induction n with
 | zero => exact ⟨0, by omega, by omega⟩
 | succ n ih =>
  obtain ⟨r, h1, h2⟩ := ih
  by_cases h : n + 1 < (r + 1) * (r + 1)
  ·exact ⟨r, by omega, h⟩
  ·have e : (r + 1 + 1) * (r + 1 + 1) = (r + 1) * (r + 1) + 2 * (r + 1) + 1 := by grind
   exact ⟨r + 1, by omega, by omega⟩
theorem root_is {x : Int} (h : 0 ≤ x) : IsRoot x (rootI x) := by
 obtain ⟨r, h1, h2⟩ := nat_root (x * 1099511627776).toNat
 have e : ((x * 1099511627776).toNat : Int) = x * 1099511627776 := Int.toNat_of_nonneg (by omega)
 refine IsRoot.of (r := (r : Int)) ⟨by omega, ?_, ?_⟩
 ·have q := Int.ofNat_le.2 h1
  rw [Int.natCast_mul, e] at q
  exact q
 ·have q := Int.ofNat_lt.2 h2
  rw [Int.natCast_mul, Int.natCast_add, e] at q
  exact q
theorem root_le {x : Int} (h : 0 ≤ x) (h1 : x ≤ 2305843009213693952) : 0 ≤ rootI x ∧ rootI x < 2251799813685248 := by
 have k := root_is h
 exact ⟨k.1, sq_lt (by omega) (by have := k.2.1; omega)⟩
noncomputable def sqrtP (a b : Int) : R3 := ⟨rootI a, if rootI b * rootI b = b * 1099511627776 then rootI b else rootI b + 1, 0⟩
theorem eq_twin (h l h' l' : Int) (d : Nat) (w : World) : (Op.equalIn (d + 1 + 1) 230 (.agg #[.int .i64 h, .int .u64 l]) (.agg #[.int .i64 h', .int .u64 l'])).run Tryz.prog w = .ok (h == h' && l == l') w := by
 rw [run_equalIn_agg w (d + 1) 230 _ _ (by simp [Program.fieldsOf, Tryz.underlying230]) c_16]
 simp [Op.eqFields, Program.fieldsOf, Tryz.underlying230, go_sem, Tryz.underlying52, Tryz.underlying2]
 by_cases e : h = h' <;> by_cases e2 : l = l' <;> simp [e, e2, go_sem]
theorem twin_eq (T U : Int) : (T / 18446744073709551616 == U / 18446744073709551616 && T % 18446744073709551616 == U % 18446744073709551616) = decide (T = U) := by
 by_cases h : T = U
 ·subst h; simp
 ·simp [h]; omega
theorem ssqrt_p (a b : Int) (w : World) (hk : ckI a b = 0) (h0 : 0 ≤ a) :
    Calls Tryz.prog 136 #[.agg #[.int .i64 a, .int .i64 b]] w fun e w' => e = .returned (.tuple #[.agg #[.int .i64 (sqrtP a b).lo, .int .i64 (sqrtP a b).hi], .int .i64 (sqrtP a b).e]) ∧ Ext w w' := by
 obtain ⟨ka1, ka2, ka3⟩ := ckI_ok hk
 obtain ⟨ra0, ra1⟩ := root_le (x := a) h0 (by omega)
 obtain ⟨rb0, rb1⟩ := root_le (x := b) (by omega) (by omega)
 have n1 : IntKind.i64.wrap (rootI b + 1) = rootI b + 1 := by rw [IntKind.wrap_i64]; omega
 have hM : I64 1099511627776 := by unfold I64; omega
 have hR : I64 (rootI b) := by unfold I64; omega
 have hB : I64 b := by unfold I64; omega
 have n113 : ∀ (h l h' l' : Int) (w : World), (Op.equalIn 10000 230 (.agg #[.int .i64 h, .int .u64 l]) (.agg #[.int .i64 h', .int .u64 l'])).run Tryz.prog w = .ok (h == h' && l == l') w := fun h l h' l' w => eq_twin h l h' l' 9998 w
 have m113 : Tryz.prog.eqGuardType Tryz.prog.depth 136 = false := by kernel_rfl
 have hq := twin_eq (rootI b * rootI b) (b * 1099511627776)
 go_enter Tryz.func136, Tryz.ntmps136
 go_upto_region 7 with (first | (go_at_call 66; (with_reducible refine (check_1 _ _ _ _ c_53).mono ?_); rintro e w1 ⟨rfl, hb⟩; obtain ⟨_, _, ⟨hc, hf⟩, hz⟩ := hb.c3; (try simp only [wsz] at hz hc hf); (try have zz := q_7 w.heap.size w1.heap.size); (try have zz := q_7 (w.heap.size + 1) w1.heap.size)) | (go_at_call 183; (with_reducible refine (s_root b _ (by omega) (by omega)).mono ?_); rintro e w1 ⟨rfl, hb⟩; obtain ⟨_, _, ⟨hc, hf⟩, hz⟩ := hb.c3; (try simp only [wsz] at hz hc hf); (try have zz := q_7 w.heap.size w1.heap.size); (try have zz := q_7 (w.heap.size + 1) w1.heap.size)))
 refine wp_name fun W hW => ?_
 obtain ⟨hWc, hWf, hWz⟩ := hW.cells
 have hWe : Ext w W := Ext.same hW ex_
 (try simp only [wsz] at hWz)
 (try simp only [size_drew, size_drewN, World.size_alloc, World.size_setCell] at hWz)
 replace hWz := And.intro (Nat.le_of_eq hWz) (Nat.le_of_eq hWz.symm)
 have hlt : w.heap.size < W.heap.size ∧ w.heap.size + 1 < W.heap.size := (by refine ⟨?_, ?_⟩ <;> omega)
 have hd : ¬ w.heap.size = w.heap.size + 1 ∧ ¬ w.heap.size + 1 = w.heap.size := (by refine ⟨?_, ?_⟩ <;> omega)
 go_region_held3 (fun w' => (∀ b o, b < W.heap.size → w'.cell? ⟨b, o, none⟩ = if b = w.heap.size ∧ 0 ≤ o ∧ o < 0 then (W.cell? ⟨b, o, none⟩).map (obx w' b o) else W.cell? ⟨b, o, none⟩) ∧ (∀ b o, b < W.heap.size → w'.frozen? ⟨b, o, none⟩ = W.frozen? ⟨b, o, none⟩) ∧ W.heap.size ≤ w'.heap.size ∧ Ext w w') (exact k_3) ((first | (go_at_call 163; (with_reducible refine (times_any _ _ _ hR hR).mono ?_); rintro e w2 ⟨rfl, hb2⟩; have hz2 := hb2.size; (try rw [size_drew] at hz2)) | (go_at_call 163; (with_reducible refine (times_any _ _ _ hB hM).mono ?_); rintro e w2 ⟨rfl, hb2⟩; have hz2 := hb2.size; (try rw [size_drew] at hz2))))
 all_goals
  rename_i hOld
  have hE := hOld.2.2.2
  have hO := And.intro hOld.1 (And.intro hOld.2.1 hOld.2.2.1)
  clear hOld
  obtain ⟨hOc, hOf, hOz⟩ := heldEnd hO
  clear hO
  go_wp2_with (first | (go_at_call 183; (with_reducible refine (s_root a _ h0 (by omega)).mono ?_); rintro e w1 ⟨rfl, hb⟩; obtain ⟨_, _, ⟨hc, hf⟩, hz⟩ := hb.c3; (try simp only [wsz] at hz hc hf)))
  all_goals
   refine bodyPost_ret (v := .tuple #[.agg #[.int .i64 (sqrtP a b).lo, .int .i64 (sqrtP a b).hi], .int .i64 (sqrtP a b).e]) ?_ rfl ⟨rfl, ?_⟩
   ·(try simp only [bn_, bm_] at *)
    simp [results, Tryz.results136, go_sem, ↓IntWalk.iteOmega, sqrtP, *]
    all_goals (try (intro hh; simp_all; done))
   ·exact b_6
theorem ssqrt_e (a b : Int) (w : World) (hk : ¬ ckI a b = 0) :
    Calls Tryz.prog 136 #[.agg #[.int .i64 a, .int .i64 b]] w fun e w' => e = .returned (.tuple #[.agg #[.int .i64 (R3.mk 0 0 (ckI a b)).lo, .int .i64 (R3.mk 0 0 (ckI a b)).hi], .int .i64 (R3.mk 0 0 (ckI a b)).e]) ∧ Ext w w' := by
 go_enter Tryz.func136, Tryz.ntmps136
 go_wp2_with (first | (go_at_call 66; (with_reducible refine (check_1 _ _ _ _ c_53).mono ?_); rintro e w1 ⟨rfl, hb⟩; obtain ⟨_, _, ⟨hc, hf⟩, hz⟩ := hb.c3; (try simp only [wsz] at hz hc hf)))
 all_goals
  refine bodyPost_ret (v := .tuple #[.agg #[.int .i64 (R3.mk 0 0 (ckI a b)).lo, .int .i64 (R3.mk 0 0 (ckI a b)).hi], .int .i64 (R3.mk 0 0 (ckI a b)).e]) ?_ rfl ⟨rfl, ?_⟩
  ·(try simp only [bn_, bm_] at *)
   simp [results, Tryz.results136, go_sem, ↓IntWalk.iteOmega, ne_eq, *]
  ·exact b_6
theorem ssqrt_n (a b : Int) (w : World) (hk : ckI a b = 0) (h0 : a < 0) :
    Calls Tryz.prog 136 #[.agg #[.int .i64 a, .int .i64 b]] w fun e w' => e = .returned (.tuple #[.agg #[.int .i64 (R3.mk 0 0 2).lo, .int .i64 (R3.mk 0 0 2).hi], .int .i64 (R3.mk 0 0 2).e]) ∧ Ext w w' := by
 go_enter Tryz.func136, Tryz.ntmps136
 go_wp2_with (first | (go_at_call 66; (with_reducible refine (check_1 _ _ _ _ c_53).mono ?_); rintro e w1 ⟨rfl, hb⟩; obtain ⟨_, _, ⟨hc, hf⟩, hz⟩ := hb.c3; (try simp only [wsz] at hz hc hf)))
 all_goals
  refine bodyPost_ret (v := .tuple #[.agg #[.int .i64 (R3.mk 0 0 2).lo, .int .i64 (R3.mk 0 0 2).hi], .int .i64 (R3.mk 0 0 2).e]) ?_ rfl ⟨rfl, ?_⟩
  ·(try simp only [bn_, bm_] at *)
   simp [results, Tryz.results136, go_sem, ↓IntWalk.iteOmega, ne_eq, *]
  ·exact b_6
theorem span_sqrt (a b : Int) (w : World) :
    Calls Tryz.prog 136 #[.agg #[.int .i64 a, .int .i64 b]] w fun e w' => e = .returned (.tuple #[.agg #[.int .i64 (sqrtI a b).lo, .int .i64 (sqrtI a b).hi], .int .i64 (sqrtI a b).e]) ∧ Ext w w' := by
 by_cases hk : ckI a b = 0
 ·by_cases h0 : a < 0
  ·have e : sqrtI a b = ⟨0, 0, 2⟩ := by unfold sqrtI; rw [if_neg c_68, if_pos h0]
   rw [e]; exact ssqrt_n a b w hk h0
  ·have e : sqrtI a b = sqrtP a b := by unfold sqrtI; rw [if_neg c_68, if_neg h0]; rfl
   rw [e]; exact ssqrt_p a b w hk (by omega)
 ·have e : sqrtI a b = ⟨0, 0, ckI a b⟩ := by unfold sqrtI; rw [if_pos c_68]
  rw [e]; exact ssqrt_e a b w hk
theorem T_SphB_2 {p : Prop} (h : p := by
 (try simp only [bne_eq_false_iff_eq] at *)
 simp [results, Tryz.results61, go_sem, eachV, each2, each1, each0, v3, *]) : p := h
theorem T_SphB_1 {p : Prop} (h : p := by
 refine ExtP.out (p := w1.heap.size) (k := 4) ?_ (by omega)
 (repeat (first | with_reducible refine ExtP.set ?_ | (with_reducible refine ExtP.store ?_ ?_; rotate_left; (focus ((try simp only []); omega))) | with_reducible refine ExtP.ext ?_ ((Ext.refl _).alloc _) | with_reducible refine ExtP.ext ?_ ((Ext.refl _).drew) | with_reducible assumption | with_reducible exact ExtP.of _ _ (Ext.refl w) | with_reducible refine ExtP.ext ?_ c_9))) : p := h
theorem e_add (a b : V3) (w : World) :
    Calls Tryz.prog 61 #[.func (.func 95) #[] #[], .agg #[.int .i64 a.a, .int .i64 a.b, .int .i64 a.c, .int .i64 a.d, .int .i64 a.e, .int .i64 a.f], .agg #[.int .i64 b.a, .int .i64 b.b, .int .i64 b.c, .int .i64 b.d, .int .i64 b.e, .int .i64 b.f]] w fun e w' => e = .returned (.tuple #[.agg #[.int .i64 ((eachV addI a b).v).a, .int .i64 ((eachV addI a b).v).b, .int .i64 ((eachV addI a b).v).c, .int .i64 ((eachV addI a b).v).d, .int .i64 ((eachV addI a b).v).e, .int .i64 ((eachV addI a b).v).f], .int .i64 (eachV addI a b).e]) ∧ Ext w w' := by
 have l0 : IntKind.i64.wrap 0 = 0 := rfl
 have l1 : IntKind.i64.wrap 1 = 1 := rfl
 have l2 : IntKind.i64.wrap 2 = 2 := rfl
 have l3 : IntKind.i64.wrap 3 = 3 := rfl
 go_enter Tryz.func61, Tryz.ntmps61
 go_wp2_with (first | (go_at_call 63; (with_reducible refine (s_look a b _).mono ?_); rintro e w1 ⟨rfl, hb⟩; obtain ⟨_, _, ⟨hc, hf⟩, hz⟩ := hb.c3; (try simp only [World.size_alloc] at hz hc hf); (try have zz := q_7 w.heap.size w1.heap.size); (try have zz := q_7 (w.heap.size + 1) w1.heap.size); (try have zz := q_7 (w.heap.size + 1 + 1) w1.heap.size)) | (go_at_call 64; (with_reducible refine (s_begin _).mono ?_); rintro e w2 ⟨rfl, rfl⟩))
 ·-- the error
  refine bodyPost_ret (v := .tuple #[.agg #[.int .i64 ((eachV addI a b).v).a, .int .i64 ((eachV addI a b).v).b, .int .i64 ((eachV addI a b).v).c, .int .i64 ((eachV addI a b).v).d, .int .i64 ((eachV addI a b).v).e, .int .i64 ((eachV addI a b).v).f], .int .i64 (eachV addI a b).e]) ?_ rfl ⟨rfl, ?_⟩
  ·(try simp only [bne_iff_ne, ne_eq] at *)
   simp [results, Tryz.results61, go_sem, eachV, V3.O, *]
  ·exact b_7
 ·-- the rounds
  refine wp_loop_rounds 4 ?_
  rw [rounds_succ]
  go_wp2_with fail
  refine wp_name fun W hW => ?_
  obtain ⟨hWc, hWf, hWz⟩ := hW.cells
  have hWe : ExtP w w1.heap.size 4 W := ExtP.same hW c_24
  (try simp only [World.size_alloc] at hWz)
  replace hWz := And.intro (Nat.le_of_eq hWz) (Nat.le_of_eq hWz.symm)
  have hlt := q_1 w.heap.size W.heap.size (w.heap.size + 1) (w.heap.size + 1 + 1) w1.heap.size (w1.heap.size + 1)
  have hd := q_16 w.heap.size (w.heap.size + 1) (w.heap.size + 1 + 1) w1.heap.size (w1.heap.size + 1)
  go_region_held3 (fun w' => (∀ b o, b < W.heap.size → w'.cell? ⟨b, o, none⟩ = if b = w1.heap.size + 1 ∧ 0 ≤ o ∧ o < 2 ∨ b = w1.heap.size ∧ o = 4 then (W.cell? ⟨b, o, none⟩).map (obx w' b o) else W.cell? ⟨b, o, none⟩) ∧ (∀ b o, b < W.heap.size → w'.frozen? ⟨b, o, none⟩ = W.frozen? ⟨b, o, none⟩) ∧ W.heap.size ≤ w'.heap.size ∧ ExtP w w1.heap.size 4 w') (exact k_4) ((first | (go_at_call 110; (with_reducible refine (d_add w1.heap.size (0) a.a a.b b.a b.b _ c_22 c_40).mono ?_); (generalize hr0 : doI (0) (addI a.a a.b b.a b.b) = r0); rintro e w2 ⟨rfl, hb0⟩; have hz0 := hb0.size; (try simp only [size_drew, World.size_setCell] at hz0); obtain ⟨hg0, hh0⟩ := hb0.got (u := .int .i64 (0)) c_22; have hob0 := obx_of hg0; (try simp only [frozen_drew] at hh0))))
  rename_i hOld
  have hE := hOld.2.2.2
  have hO := And.intro hOld.1 (And.intro hOld.2.1 hOld.2.2.1)
  clear hOld
  replace hO := helBack hO c_6
  replace hO := helBack hO c_6
  obtain ⟨hOc, hOf, hOz⟩ := helEnd hO
  clear hO
  have hlu := q_1 w.heap.size w2.heap.size (w.heap.size + 1) (w.heap.size + 1 + 1) w1.heap.size (w1.heap.size + 1)
  go_wp2_with fail
  rw [rounds_succ]
  go_wp2_with fail
  refine wp_name fun W hW => ?_
  obtain ⟨hWc, hWf, hWz⟩ := hW.cells
  have hWe : ExtP w w1.heap.size 4 W := ExtP.same hW c_14
  (try simp only [World.size_setCell] at hWz)
  replace hWz := And.intro (Nat.le_of_eq hWz) (Nat.le_of_eq hWz.symm)
  have hlt := q_1 w.heap.size W.heap.size (w.heap.size + 1) (w.heap.size + 1 + 1) w1.heap.size (w1.heap.size + 1)
  have hd := q_16 w.heap.size (w.heap.size + 1) (w.heap.size + 1 + 1) w1.heap.size (w1.heap.size + 1)
  go_region_held3 (fun w' => (∀ b o, b < W.heap.size → w'.cell? ⟨b, o, none⟩ = if b = w1.heap.size + 1 ∧ 2 ≤ o ∧ o < 4 ∨ b = w1.heap.size ∧ o = 4 then (W.cell? ⟨b, o, none⟩).map (obx w' b o) else W.cell? ⟨b, o, none⟩) ∧ (∀ b o, b < W.heap.size → w'.frozen? ⟨b, o, none⟩ = W.frozen? ⟨b, o, none⟩) ∧ W.heap.size ≤ w'.heap.size ∧ ExtP w w1.heap.size 4 w') (exact k_4) ((first | (go_at_call 110; (with_reducible refine (d_add w1.heap.size (r0.e) a.c a.d b.c b.d _ c_22 c_40).mono ?_); (generalize hr1 : doI (r0.e) (addI a.c a.d b.c b.d) = r1); rintro e w2 ⟨rfl, hb0⟩; have hz0 := hb0.size; (try simp only [size_drew, World.size_setCell] at hz0); obtain ⟨hg0, hh0⟩ := hb0.got (u := .int .i64 (r0.e)) c_22; have hob0 := obx_of hg0; (try simp only [frozen_drew] at hh0))))
  rename_i hOld
  have hE := hOld.2.2.2
  have hO := And.intro hOld.1 (And.intro hOld.2.1 hOld.2.2.1)
  clear hOld
  replace hO := helBack hO c_6
  replace hO := helBack hO c_6
  obtain ⟨hOc, hOf, hOz⟩ := helEnd hO
  clear hO
  have hlu := q_1 w.heap.size w2.heap.size (w.heap.size + 1) (w.heap.size + 1 + 1) w1.heap.size (w1.heap.size + 1)
  go_wp2_with fail
  rw [rounds_succ]
  go_wp2_with fail
  refine wp_name fun W hW => ?_
  obtain ⟨hWc, hWf, hWz⟩ := hW.cells
  have hWe : ExtP w w1.heap.size 4 W := ExtP.same hW c_14
  (try simp only [World.size_setCell] at hWz)
  replace hWz := And.intro (Nat.le_of_eq hWz) (Nat.le_of_eq hWz.symm)
  have hlt := q_1 w.heap.size W.heap.size (w.heap.size + 1) (w.heap.size + 1 + 1) w1.heap.size (w1.heap.size + 1)
  have hd := q_16 w.heap.size (w.heap.size + 1) (w.heap.size + 1 + 1) w1.heap.size (w1.heap.size + 1)
  go_region_held3 (fun w' => (∀ b o, b < W.heap.size → w'.cell? ⟨b, o, none⟩ = if b = w1.heap.size + 1 ∧ 4 ≤ o ∧ o < 6 ∨ b = w1.heap.size ∧ o = 4 then (W.cell? ⟨b, o, none⟩).map (obx w' b o) else W.cell? ⟨b, o, none⟩) ∧ (∀ b o, b < W.heap.size → w'.frozen? ⟨b, o, none⟩ = W.frozen? ⟨b, o, none⟩) ∧ W.heap.size ≤ w'.heap.size ∧ ExtP w w1.heap.size 4 w') (exact k_4) ((first | (go_at_call 110; (with_reducible refine (d_add w1.heap.size (r1.e) a.e a.f b.e b.f _ c_22 c_40).mono ?_); (generalize hr2 : doI (r1.e) (addI a.e a.f b.e b.f) = r2); rintro e w2 ⟨rfl, hb0⟩; have hz0 := hb0.size; (try simp only [size_drew, World.size_setCell] at hz0); obtain ⟨hg0, hh0⟩ := hb0.got (u := .int .i64 (r1.e)) c_22; have hob0 := obx_of hg0; (try simp only [frozen_drew] at hh0))))
  rename_i hOld
  have hE := hOld.2.2.2
  have hO := And.intro hOld.1 (And.intro hOld.2.1 hOld.2.2.1)
  clear hOld
  replace hO := helBack hO c_6
  replace hO := helBack hO c_6
  obtain ⟨hOc, hOf, hOz⟩ := helEnd hO
  clear hO
  have hlu := q_1 w.heap.size w2.heap.size (w.heap.size + 1) (w.heap.size + 1 + 1) w1.heap.size (w1.heap.size + 1)
  go_wp2_with fail
  rw [rounds_succ]
  go_wp2_with (first | (go_at_call 111; (with_reducible refine (s_vec6 w1.heap.size (r2.e) (r0.lo) (r0.hi) (r1.lo) (r1.hi) (r2.lo) (r2.hi) _ c_54).mono ?_); rintro e w9 ⟨rfl, hb⟩; obtain ⟨_, _, ⟨hc, hf⟩, hz⟩ := hb.c3; (try simp only [World.size_setCell] at hz hc hf)))
  refine bodyPost_ret (v := .tuple #[.agg #[.int .i64 ((eachV addI a b).v).a, .int .i64 ((eachV addI a b).v).b, .int .i64 ((eachV addI a b).v).c, .int .i64 ((eachV addI a b).v).d, .int .i64 ((eachV addI a b).v).e, .int .i64 ((eachV addI a b).v).f], .int .i64 (eachV addI a b).e]) ?_ rfl ⟨rfl, ?_⟩
  ·exact T_SphB_2
  ·exact T_SphB_1
theorem e_mul (a b : V3) (w : World) (ha : a.I) (hb0 : b.I) :
    Calls Tryz.prog 61 #[.func (.func 113) #[] #[], .agg #[.int .i64 a.a, .int .i64 a.b, .int .i64 a.c, .int .i64 a.d, .int .i64 a.e, .int .i64 a.f], .agg #[.int .i64 b.a, .int .i64 b.b, .int .i64 b.c, .int .i64 b.d, .int .i64 b.e, .int .i64 b.f]] w fun e w' => e = .returned (.tuple #[.agg #[.int .i64 ((eachV mulI a b).v).a, .int .i64 ((eachV mulI a b).v).b, .int .i64 ((eachV mulI a b).v).c, .int .i64 ((eachV mulI a b).v).d, .int .i64 ((eachV mulI a b).v).e, .int .i64 ((eachV mulI a b).v).f], .int .i64 (eachV mulI a b).e]) ∧ Ext w w' := by
 obtain ⟨ha1, ha2, ha3⟩ := ha
 obtain ⟨hb1, hb2, hb3⟩ := hb0
 have l0 : IntKind.i64.wrap 0 = 0 := rfl
 have l1 : IntKind.i64.wrap 1 = 1 := rfl
 have l2 : IntKind.i64.wrap 2 = 2 := rfl
 have l3 : IntKind.i64.wrap 3 = 3 := rfl
 go_enter Tryz.func61, Tryz.ntmps61
 go_wp2_with (first | (go_at_call 63; (with_reducible refine (s_look a b _).mono ?_); rintro e w1 ⟨rfl, hb⟩; obtain ⟨_, _, ⟨hc, hf⟩, hz⟩ := hb.c3; (try simp only [World.size_alloc] at hz hc hf); (try have zz := q_7 w.heap.size w1.heap.size); (try have zz := q_7 (w.heap.size + 1) w1.heap.size); (try have zz := q_7 (w.heap.size + 1 + 1) w1.heap.size)) | (go_at_call 64; (with_reducible refine (s_begin _).mono ?_); rintro e w2 ⟨rfl, rfl⟩))
 ·-- the error
  refine bodyPost_ret (v := .tuple #[.agg #[.int .i64 ((eachV mulI a b).v).a, .int .i64 ((eachV mulI a b).v).b, .int .i64 ((eachV mulI a b).v).c, .int .i64 ((eachV mulI a b).v).d, .int .i64 ((eachV mulI a b).v).e, .int .i64 ((eachV mulI a b).v).f], .int .i64 (eachV mulI a b).e]) ?_ rfl ⟨rfl, ?_⟩
  ·(try simp only [bne_iff_ne, ne_eq] at *)
   simp [results, Tryz.results61, go_sem, eachV, V3.O, *]
  ·exact b_7
 ·-- the rounds
  refine wp_loop_rounds 4 ?_
  rw [rounds_succ]
  go_wp2_with fail
  refine wp_name fun W hW => ?_
  obtain ⟨hWc, hWf, hWz⟩ := hW.cells
  have hWe : ExtP w w1.heap.size 4 W := ExtP.same hW c_24
  (try simp only [World.size_alloc] at hWz)
  replace hWz := And.intro (Nat.le_of_eq hWz) (Nat.le_of_eq hWz.symm)
  have hlt := q_1 w.heap.size W.heap.size (w.heap.size + 1) (w.heap.size + 1 + 1) w1.heap.size (w1.heap.size + 1)
  have hd := q_16 w.heap.size (w.heap.size + 1) (w.heap.size + 1 + 1) w1.heap.size (w1.heap.size + 1)
  go_region_held3 (fun w' => (∀ b o, b < W.heap.size → w'.cell? ⟨b, o, none⟩ = if b = w1.heap.size + 1 ∧ 0 ≤ o ∧ o < 2 ∨ b = w1.heap.size ∧ o = 4 then (W.cell? ⟨b, o, none⟩).map (obx w' b o) else W.cell? ⟨b, o, none⟩) ∧ (∀ b o, b < W.heap.size → w'.frozen? ⟨b, o, none⟩ = W.frozen? ⟨b, o, none⟩) ∧ W.heap.size ≤ w'.heap.size ∧ ExtP w w1.heap.size 4 w') (exact k_4) ((first | (go_at_call 110; (with_reducible refine (d_mul w1.heap.size (0) a.a a.b b.a b.b _ c_22 c_40 ha1 hb1).mono ?_); (generalize hr0 : doI (0) (mulI a.a a.b b.a b.b) = r0); rintro e w2 ⟨rfl, hb0⟩; have hz0 := hb0.size; (try simp only [size_drew, World.size_setCell] at hz0); obtain ⟨hg0, hh0⟩ := hb0.got (u := .int .i64 (0)) c_22; have hob0 := obx_of hg0; (try simp only [frozen_drew] at hh0))))
  rename_i hOld
  have hE := hOld.2.2.2
  have hO := And.intro hOld.1 (And.intro hOld.2.1 hOld.2.2.1)
  clear hOld
  replace hO := helBack hO c_6
  replace hO := helBack hO c_6
  obtain ⟨hOc, hOf, hOz⟩ := helEnd hO
  clear hO
  have hlu := q_1 w.heap.size w2.heap.size (w.heap.size + 1) (w.heap.size + 1 + 1) w1.heap.size (w1.heap.size + 1)
  go_wp2_with fail
  rw [rounds_succ]
  go_wp2_with fail
  refine wp_name fun W hW => ?_
  obtain ⟨hWc, hWf, hWz⟩ := hW.cells
  have hWe : ExtP w w1.heap.size 4 W := ExtP.same hW c_14
  (try simp only [World.size_setCell] at hWz)
  replace hWz := And.intro (Nat.le_of_eq hWz) (Nat.le_of_eq hWz.symm)
  have hlt := q_1 w.heap.size W.heap.size (w.heap.size + 1) (w.heap.size + 1 + 1) w1.heap.size (w1.heap.size + 1)
  have hd := q_16 w.heap.size (w.heap.size + 1) (w.heap.size + 1 + 1) w1.heap.size (w1.heap.size + 1)
  go_region_held3 (fun w' => (∀ b o, b < W.heap.size → w'.cell? ⟨b, o, none⟩ = if b = w1.heap.size + 1 ∧ 2 ≤ o ∧ o < 4 ∨ b = w1.heap.size ∧ o = 4 then (W.cell? ⟨b, o, none⟩).map (obx w' b o) else W.cell? ⟨b, o, none⟩) ∧ (∀ b o, b < W.heap.size → w'.frozen? ⟨b, o, none⟩ = W.frozen? ⟨b, o, none⟩) ∧ W.heap.size ≤ w'.heap.size ∧ ExtP w w1.heap.size 4 w') (exact k_4) ((first | (go_at_call 110; (with_reducible refine (d_mul w1.heap.size (r0.e) a.c a.d b.c b.d _ c_22 c_40 ha2 hb2).mono ?_); (generalize hr1 : doI (r0.e) (mulI a.c a.d b.c b.d) = r1); rintro e w2 ⟨rfl, hb0⟩; have hz0 := hb0.size; (try simp only [size_drew, World.size_setCell] at hz0); obtain ⟨hg0, hh0⟩ := hb0.got (u := .int .i64 (r0.e)) c_22; have hob0 := obx_of hg0; (try simp only [frozen_drew] at hh0))))
  rename_i hOld
  have hE := hOld.2.2.2
  have hO := And.intro hOld.1 (And.intro hOld.2.1 hOld.2.2.1)
  clear hOld
  replace hO := helBack hO c_6
  replace hO := helBack hO c_6
  obtain ⟨hOc, hOf, hOz⟩ := helEnd hO
  clear hO
  have hlu := q_1 w.heap.size w2.heap.size (w.heap.size + 1) (w.heap.size + 1 + 1) w1.heap.size (w1.heap.size + 1)
  go_wp2_with fail
  rw [rounds_succ]
  go_wp2_with fail
  refine wp_name fun W hW => ?_
  obtain ⟨hWc, hWf, hWz⟩ := hW.cells
  have hWe : ExtP w w1.heap.size 4 W := ExtP.same hW c_14
  (try simp only [World.size_setCell] at hWz)
  replace hWz := And.intro (Nat.le_of_eq hWz) (Nat.le_of_eq hWz.symm)
  have hlt := q_1 w.heap.size W.heap.size (w.heap.size + 1) (w.heap.size + 1 + 1) w1.heap.size (w1.heap.size + 1)
  have hd := q_16 w.heap.size (w.heap.size + 1) (w.heap.size + 1 + 1) w1.heap.size (w1.heap.size + 1)
  go_region_held3 (fun w' => (∀ b o, b < W.heap.size → w'.cell? ⟨b, o, none⟩ = if b = w1.heap.size + 1 ∧ 4 ≤ o ∧ o < 6 ∨ b = w1.heap.size ∧ o = 4 then (W.cell? ⟨b, o, none⟩).map (obx w' b o) else W.cell? ⟨b, o, none⟩) ∧ (∀ b o, b < W.heap.size → w'.frozen? ⟨b, o, none⟩ = W.frozen? ⟨b, o, none⟩) ∧ W.heap.size ≤ w'.heap.size ∧ ExtP w w1.heap.size 4 w') (exact k_4) ((first | (go_at_call 110; (with_reducible refine (d_mul w1.heap.size (r1.e) a.e a.f b.e b.f _ c_22 c_40 ha3 hb3).mono ?_); (generalize hr2 : doI (r1.e) (mulI a.e a.f b.e b.f) = r2); rintro e w2 ⟨rfl, hb0⟩; have hz0 := hb0.size; (try simp only [size_drew, World.size_setCell] at hz0); obtain ⟨hg0, hh0⟩ := hb0.got (u := .int .i64 (r1.e)) c_22; have hob0 := obx_of hg0; (try simp only [frozen_drew] at hh0))))
  rename_i hOld
  have hE := hOld.2.2.2
  have hO := And.intro hOld.1 (And.intro hOld.2.1 hOld.2.2.1)
  clear hOld
  replace hO := helBack hO c_6
  replace hO := helBack hO c_6
  obtain ⟨hOc, hOf, hOz⟩ := helEnd hO
  clear hO
  have hlu := q_1 w.heap.size w2.heap.size (w.heap.size + 1) (w.heap.size + 1 + 1) w1.heap.size (w1.heap.size + 1)
  go_wp2_with fail
  rw [rounds_succ]
  go_wp2_with (first | (go_at_call 111; (with_reducible refine (s_vec6 w1.heap.size (r2.e) (r0.lo) (r0.hi) (r1.lo) (r1.hi) (r2.lo) (r2.hi) _ c_54).mono ?_); rintro e w9 ⟨rfl, hb⟩; obtain ⟨_, _, ⟨hc, hf⟩, hz⟩ := hb.c3; (try simp only [World.size_setCell] at hz hc hf)))
  refine bodyPost_ret (v := .tuple #[.agg #[.int .i64 ((eachV mulI a b).v).a, .int .i64 ((eachV mulI a b).v).b, .int .i64 ((eachV mulI a b).v).c, .int .i64 ((eachV mulI a b).v).d, .int .i64 ((eachV mulI a b).v).e, .int .i64 ((eachV mulI a b).v).f], .int .i64 (eachV mulI a b).e]) ?_ rfl ⟨rfl, ?_⟩
  ·exact T_SphB_2
  ·exact T_SphB_1
theorem p_add (a b : V3) (w : World) :
    Calls Tryz.prog 116 #[.agg #[.int .i64 a.a, .int .i64 a.b, .int .i64 a.c, .int .i64 a.d, .int .i64 a.e, .int .i64 a.f], .agg #[.int .i64 b.a, .int .i64 b.b, .int .i64 b.c, .int .i64 b.d, .int .i64 b.e, .int .i64 b.f]] w fun e w' => e = .returned (.tuple #[.agg #[.int .i64 ((eachV addI a b).v).a, .int .i64 ((eachV addI a b).v).b, .int .i64 ((eachV addI a b).v).c, .int .i64 ((eachV addI a b).v).d, .int .i64 ((eachV addI a b).v).e, .int .i64 ((eachV addI a b).v).f], .int .i64 (eachV addI a b).e]) ∧ Ext w w' := by
 go_enter Tryz.func116, Tryz.ntmps116
 go_wp2_with (first | (go_at_call 61; (with_reducible refine (e_add a b _).mono ?_); rintro e w1 ⟨rfl, hb⟩; obtain ⟨_, _, ⟨hc, hf⟩, hz⟩ := hb.c3; (try simp only [World.size_alloc] at hz hc hf)))
 all_goals
  refine bodyPost_ret (v := .tuple #[.agg #[.int .i64 ((eachV addI a b).v).a, .int .i64 ((eachV addI a b).v).b, .int .i64 ((eachV addI a b).v).c, .int .i64 ((eachV addI a b).v).d, .int .i64 ((eachV addI a b).v).e, .int .i64 ((eachV addI a b).v).f], .int .i64 (eachV addI a b).e]) ?_ rfl ⟨rfl, ?_⟩
  ·(try simp only [] at *)
   simp [results, Tryz.results116, go_sem, *]
  ·exact b_7
theorem e_mul6 (a : V3) (x0 x1 x2 x3 x4 x5 : Int) (w : World) (ha : a.I) (hb0 : V3.I ⟨x0, x1, x2, x3, x4, x5⟩) :
    Calls Tryz.prog 61 #[.func (.func 113) #[] #[], .agg #[.int .i64 a.a, .int .i64 a.b, .int .i64 a.c, .int .i64 a.d, .int .i64 a.e, .int .i64 a.f], .agg #[.int .i64 x0, .int .i64 x1, .int .i64 x2, .int .i64 x3, .int .i64 x4, .int .i64 x5]] w fun e w' => e = .returned (.tuple #[.agg #[.int .i64 ((eachV mulI a ⟨x0, x1, x2, x3, x4, x5⟩).v).a, .int .i64 ((eachV mulI a ⟨x0, x1, x2, x3, x4, x5⟩).v).b, .int .i64 ((eachV mulI a ⟨x0, x1, x2, x3, x4, x5⟩).v).c, .int .i64 ((eachV mulI a ⟨x0, x1, x2, x3, x4, x5⟩).v).d, .int .i64 ((eachV mulI a ⟨x0, x1, x2, x3, x4, x5⟩).v).e, .int .i64 ((eachV mulI a ⟨x0, x1, x2, x3, x4, x5⟩).v).f], .int .i64 (eachV mulI a ⟨x0, x1, x2, x3, x4, x5⟩).e]) ∧ Ext w w' := e_mul a ⟨x0, x1, x2, x3, x4, x5⟩ w ha hb0
theorem p_sca (a : V3) (x y : Int) (w : World) (ha : a.I) (hx : I64 x ∧ I64 y) :
    Calls Tryz.prog 115 #[.agg #[.int .i64 a.a, .int .i64 a.b, .int .i64 a.c, .int .i64 a.d, .int .i64 a.e, .int .i64 a.f], .agg #[.int .i64 x, .int .i64 y]] w fun e w' => e = .returned (.tuple #[.agg #[.int .i64 ((scaV a x y).v).a, .int .i64 ((scaV a x y).v).b, .int .i64 ((scaV a x y).v).c, .int .i64 ((scaV a x y).v).d, .int .i64 ((scaV a x y).v).e, .int .i64 ((scaV a x y).v).f], .int .i64 (scaV a x y).e]) ∧ Ext w w' := by
 have hI : V3.I ⟨x, y, x, y, x, y⟩ := ⟨hx, hx, hx⟩
 go_enter Tryz.func115, Tryz.ntmps115
 go_wp2_with (first | (go_at_call 61; (with_reducible refine (e_mul6 a x y x y x y _ ha hI).mono ?_); rintro e w1 ⟨rfl, hb⟩; obtain ⟨_, _, ⟨hc, hf⟩, hz⟩ := hb.c3; (try simp only [World.size_alloc] at hz hc hf)))
 all_goals
  refine bodyPost_ret (v := .tuple #[.agg #[.int .i64 ((scaV a x y).v).a, .int .i64 ((scaV a x y).v).b, .int .i64 ((scaV a x y).v).c, .int .i64 ((scaV a x y).v).d, .int .i64 ((scaV a x y).v).e, .int .i64 ((scaV a x y).v).f], .int .i64 (scaV a x y).e]) ?_ rfl ⟨rfl, ?_⟩
  ·(try simp only [] at *)
   simp [results, Tryz.results115, go_sem, scaV, *]
  ·exact b_7
end Go.Proofs.YtbkgakgdbmjmjaaGreat
