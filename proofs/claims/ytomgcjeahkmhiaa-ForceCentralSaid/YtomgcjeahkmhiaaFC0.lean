/- ForceCentral: has, moderate. -/
import Derived.Test.YtomgcjeahkmhiaaRefD
import Derived.Test.YtomgcjeahkmhiaaSphA
set_option linter.unusedSimpArgs false
set_option linter.unusedVariables false
namespace Go.Proofs.Ytomgcjeahkmhiaa
open Go.RowKit

def modI (a b : Int) : Bool := decide (ckI a b = 0) && !decide (a < -70368744177664) && !decide (70368744177664 < b)
def modB (d : V3) : Bool := modI d.a d.b && (modI d.c d.d && modI d.e d.f)
theorem modI_ck {a b : Int} (h : modI a b = true) : ckI a b = 0 := by unfold modI at h; simp at h; exact h.1.1
theorem modB_ck {d : V3} (h : modB d = true) : ckV d = 0 := by
  unfold modB at h; simp only [Bool.and_eq_true] at h
  have h1 := modI_ck h.1; have h2 := modI_ck h.2.1; have h3 := modI_ck h.2.2
  unfold ckV ck2; simp [h1, h2, h3]
theorem p_has0 (a b : Int) (w : World) (h1 : a ≤ 0) (h2 : 0 ≤ b) :
    Calls Try.prog 28 #[.agg #[.int .i64 a, .int .i64 b], .int .i64 0] w fun e w' => e = .returned (.bool true) ∧ Ext w w' := by
  go_enter Try.func28, Try.ntmps28
  go_wp2_with fail
  all_goals
    refine bodyPost_ret (v := .bool true) ?_ rfl ⟨rfl, ?_⟩
    · (try simp only [bne_iff_ne, ne_eq, bne_eq_false_iff_eq, beq_iff_eq, beq_eq_false_iff_ne] at *)
      simp [results, Try.results28, go_sem, ↓IntWalk.iteOmega, ne_eq, *]
    · repeat (first | with_reducible exact Ext.refl _ | with_reducible assumption | with_reducible refine Ext.alloc ?_ _ | with_reducible refine Ext.setCell ?_ (by (try simp only [World.size_alloc, World.size_setCell]); omega) _ | with_reducible refine Ext.drewN ?_ _ | with_reducible refine Ext.drew ?_ | with_reducible refine Ext.trans ?_ (by with_reducible assumption))
set_option maxRecDepth 100000 in
set_option maxHeartbeats 4000000 in
theorem p_moderate (d : V3) (w : World) (kd : d.I) :
    Calls Try.prog 27 #[.agg #[.int .i64 d.a, .int .i64 d.b, .int .i64 d.c, .int .i64 d.d, .int .i64 d.e, .int .i64 d.f]] w fun e w' => e = .returned (.bool (modB d)) ∧ Ext w w' := by
  have l0 : IntKind.i64.wrap 0 = 0 := rfl
  have l1 : IntKind.i64.wrap 1 = 1 := rfl
  have l2 : IntKind.i64.wrap 2 = 2 := rfl
  have l3 : IntKind.i64.wrap 3 = 3 := rfl
  go_enter Try.func27, Try.ntmps27
  go_wp2_with fail
  refine wp_loop_rounds 4 ?_
  rw [rounds_succ]
  by_cases k0 : ckI d.a d.b = 0
  rotate_left
  · go_wp2_with (first | (go_at_call 26; (with_reducible refine (ref_check _ _ _).mono ?_); rintro e w1 ⟨rfl, hb⟩; obtain ⟨_, _, hc, hf⟩ := hb.cells2; have hz := hb.size; (try simp only [World.size_alloc, World.size_setCell] at hz hc hf)))
    refine bodyPost_ret (v := .bool (modB d)) ?_ rfl ⟨rfl, ?_⟩
    · simp [results, Try.results27, go_sem, modB, modI, *]
    · repeat (first | with_reducible exact Ext.refl _ | with_reducible assumption | with_reducible refine Ext.alloc ?_ _ | with_reducible refine Ext.setCell ?_ (by (try simp only [World.size_alloc, World.size_setCell]); omega) _ | with_reducible refine Ext.drewN ?_ _ | with_reducible refine Ext.drew ?_ | with_reducible refine Ext.trans ?_ (by with_reducible assumption))
  by_cases l0 : d.a < -70368744177664
  · go_wp2_with (first | (go_at_call 26; (with_reducible refine (ref_check _ _ _).mono ?_); rintro e w1 ⟨rfl, hb⟩; obtain ⟨_, _, hc, hf⟩ := hb.cells2; have hz := hb.size; (try simp only [World.size_alloc, World.size_setCell] at hz hc hf)))
    refine bodyPost_ret (v := .bool (modB d)) ?_ rfl ⟨rfl, ?_⟩
    · simp [results, Try.results27, go_sem, modB, modI, *]
    · repeat (first | with_reducible exact Ext.refl _ | with_reducible assumption | with_reducible refine Ext.alloc ?_ _ | with_reducible refine Ext.setCell ?_ (by (try simp only [World.size_alloc, World.size_setCell]); omega) _ | with_reducible refine Ext.drewN ?_ _ | with_reducible refine Ext.drew ?_ | with_reducible refine Ext.trans ?_ (by with_reducible assumption))
  by_cases m0 : 70368744177664 < d.b
  · go_wp2_with (first | (go_at_call 26; (with_reducible refine (ref_check _ _ _).mono ?_); rintro e w1 ⟨rfl, hb⟩; obtain ⟨_, _, hc, hf⟩ := hb.cells2; have hz := hb.size; (try simp only [World.size_alloc, World.size_setCell] at hz hc hf)))
    refine bodyPost_ret (v := .bool (modB d)) ?_ rfl ⟨rfl, ?_⟩
    · simp [results, Try.results27, go_sem, modB, modI, *]
    · repeat (first | with_reducible exact Ext.refl _ | with_reducible assumption | with_reducible refine Ext.alloc ?_ _ | with_reducible refine Ext.setCell ?_ (by (try simp only [World.size_alloc, World.size_setCell]); omega) _ | with_reducible refine Ext.drewN ?_ _ | with_reducible refine Ext.drew ?_ | with_reducible refine Ext.trans ?_ (by with_reducible assumption))
  go_wp2_with (first | (go_at_call 26; (with_reducible refine (ref_check _ _ _).mono ?_); rintro e w1 ⟨rfl, hb⟩; obtain ⟨_, _, hc, hf⟩ := hb.cells2; have hz := hb.size; (try simp only [World.size_alloc, World.size_setCell] at hz hc hf)))
  rw [rounds_succ]
  by_cases k1 : ckI d.c d.d = 0
  rotate_left
  · go_wp2_with (first | (go_at_call 26; (with_reducible refine (ref_check _ _ _).mono ?_); rintro e w1 ⟨rfl, hb⟩; obtain ⟨_, _, hc, hf⟩ := hb.cells2; have hz := hb.size; (try simp only [World.size_alloc, World.size_setCell] at hz hc hf)))
    refine bodyPost_ret (v := .bool (modB d)) ?_ rfl ⟨rfl, ?_⟩
    · simp [results, Try.results27, go_sem, modB, modI, *]
    · repeat (first | with_reducible exact Ext.refl _ | with_reducible assumption | with_reducible refine Ext.alloc ?_ _ | with_reducible refine Ext.setCell ?_ (by (try simp only [World.size_alloc, World.size_setCell]); omega) _ | with_reducible refine Ext.drewN ?_ _ | with_reducible refine Ext.drew ?_ | with_reducible refine Ext.trans ?_ (by with_reducible assumption))
  by_cases l1 : d.c < -70368744177664
  · go_wp2_with (first | (go_at_call 26; (with_reducible refine (ref_check _ _ _).mono ?_); rintro e w1 ⟨rfl, hb⟩; obtain ⟨_, _, hc, hf⟩ := hb.cells2; have hz := hb.size; (try simp only [World.size_alloc, World.size_setCell] at hz hc hf)))
    refine bodyPost_ret (v := .bool (modB d)) ?_ rfl ⟨rfl, ?_⟩
    · simp [results, Try.results27, go_sem, modB, modI, *]
    · repeat (first | with_reducible exact Ext.refl _ | with_reducible assumption | with_reducible refine Ext.alloc ?_ _ | with_reducible refine Ext.setCell ?_ (by (try simp only [World.size_alloc, World.size_setCell]); omega) _ | with_reducible refine Ext.drewN ?_ _ | with_reducible refine Ext.drew ?_ | with_reducible refine Ext.trans ?_ (by with_reducible assumption))
  by_cases m1 : 70368744177664 < d.d
  · go_wp2_with (first | (go_at_call 26; (with_reducible refine (ref_check _ _ _).mono ?_); rintro e w1 ⟨rfl, hb⟩; obtain ⟨_, _, hc, hf⟩ := hb.cells2; have hz := hb.size; (try simp only [World.size_alloc, World.size_setCell] at hz hc hf)))
    refine bodyPost_ret (v := .bool (modB d)) ?_ rfl ⟨rfl, ?_⟩
    · simp [results, Try.results27, go_sem, modB, modI, *]
    · repeat (first | with_reducible exact Ext.refl _ | with_reducible assumption | with_reducible refine Ext.alloc ?_ _ | with_reducible refine Ext.setCell ?_ (by (try simp only [World.size_alloc, World.size_setCell]); omega) _ | with_reducible refine Ext.drewN ?_ _ | with_reducible refine Ext.drew ?_ | with_reducible refine Ext.trans ?_ (by with_reducible assumption))
  go_wp2_with (first | (go_at_call 26; (with_reducible refine (ref_check _ _ _).mono ?_); rintro e w1 ⟨rfl, hb⟩; obtain ⟨_, _, hc, hf⟩ := hb.cells2; have hz := hb.size; (try simp only [World.size_alloc, World.size_setCell] at hz hc hf)))
  rw [rounds_succ]
  by_cases k2 : ckI d.e d.f = 0
  rotate_left
  · go_wp2_with (first | (go_at_call 26; (with_reducible refine (ref_check _ _ _).mono ?_); rintro e w1 ⟨rfl, hb⟩; obtain ⟨_, _, hc, hf⟩ := hb.cells2; have hz := hb.size; (try simp only [World.size_alloc, World.size_setCell] at hz hc hf)))
    refine bodyPost_ret (v := .bool (modB d)) ?_ rfl ⟨rfl, ?_⟩
    · simp [results, Try.results27, go_sem, modB, modI, *]
    · repeat (first | with_reducible exact Ext.refl _ | with_reducible assumption | with_reducible refine Ext.alloc ?_ _ | with_reducible refine Ext.setCell ?_ (by (try simp only [World.size_alloc, World.size_setCell]); omega) _ | with_reducible refine Ext.drewN ?_ _ | with_reducible refine Ext.drew ?_ | with_reducible refine Ext.trans ?_ (by with_reducible assumption))
  by_cases l2 : d.e < -70368744177664
  · go_wp2_with (first | (go_at_call 26; (with_reducible refine (ref_check _ _ _).mono ?_); rintro e w1 ⟨rfl, hb⟩; obtain ⟨_, _, hc, hf⟩ := hb.cells2; have hz := hb.size; (try simp only [World.size_alloc, World.size_setCell] at hz hc hf)))
    refine bodyPost_ret (v := .bool (modB d)) ?_ rfl ⟨rfl, ?_⟩
    · simp [results, Try.results27, go_sem, modB, modI, *]
    · repeat (first | with_reducible exact Ext.refl _ | with_reducible assumption | with_reducible refine Ext.alloc ?_ _ | with_reducible refine Ext.setCell ?_ (by (try simp only [World.size_alloc, World.size_setCell]); omega) _ | with_reducible refine Ext.drewN ?_ _ | with_reducible refine Ext.drew ?_ | with_reducible refine Ext.trans ?_ (by with_reducible assumption))
  by_cases m2 : 70368744177664 < d.f
  · go_wp2_with (first | (go_at_call 26; (with_reducible refine (ref_check _ _ _).mono ?_); rintro e w1 ⟨rfl, hb⟩; obtain ⟨_, _, hc, hf⟩ := hb.cells2; have hz := hb.size; (try simp only [World.size_alloc, World.size_setCell] at hz hc hf)))
    refine bodyPost_ret (v := .bool (modB d)) ?_ rfl ⟨rfl, ?_⟩
    · simp [results, Try.results27, go_sem, modB, modI, *]
    · repeat (first | with_reducible exact Ext.refl _ | with_reducible assumption | with_reducible refine Ext.alloc ?_ _ | with_reducible refine Ext.setCell ?_ (by (try simp only [World.size_alloc, World.size_setCell]); omega) _ | with_reducible refine Ext.drewN ?_ _ | with_reducible refine Ext.drew ?_ | with_reducible refine Ext.trans ?_ (by with_reducible assumption))
  go_wp2_with (first | (go_at_call 26; (with_reducible refine (ref_check _ _ _).mono ?_); rintro e w1 ⟨rfl, hb⟩; obtain ⟨_, _, hc, hf⟩ := hb.cells2; have hz := hb.size; (try simp only [World.size_alloc, World.size_setCell] at hz hc hf)))
  rw [rounds_succ]
  go_wp2_with fail
  refine bodyPost_ret (v := .bool (modB d)) ?_ rfl ⟨rfl, ?_⟩
  · simp [results, Try.results27, go_sem, modB, modI, *]
  · repeat (first | with_reducible exact Ext.refl _ | with_reducible assumption | with_reducible refine Ext.alloc ?_ _ | with_reducible refine Ext.setCell ?_ (by (try simp only [World.size_alloc, World.size_setCell]); omega) _ | with_reducible refine Ext.drewN ?_ _ | with_reducible refine Ext.drew ?_ | with_reducible refine Ext.trans ?_ (by with_reducible assumption))
end Go.Proofs.Ytomgcjeahkmhiaa
