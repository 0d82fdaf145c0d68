/- span.Sqrt. -/
import Derived.Test.YtomgcjeahkmhiaaSqrt
set_option linter.unusedSimpArgs false
set_option linter.unusedVariables false
namespace Go.Proofs.Ytomgcjeahkmhiaa
open Go.RowKit

set_option maxRecDepth 100000 in
set_option maxHeartbeats 2000000 in
theorem ssqrt_p (a b : Int) (w : World) (hk : ckI a b = 0) (h0 : 0 ≤ a) :
    Calls Try.prog 125 #[.agg #[.int .i64 a, .int .i64 b]] w fun e w' => e = .returned (.tuple #[.agg #[.int .i64 (sqrtP a b).lo, .int .i64 (sqrtP a b).hi], .int .i64 (sqrtP a b).e]) ∧ Ext w w' := by
  obtain ⟨ka1, ka2, ka3⟩ := ckI_ok hk
  obtain ⟨ra0, ra1⟩ := root_le (x := a) h0 (by omega)
  obtain ⟨rb0, rb1⟩ := root_le (x := b) (by omega) (by omega)
  have n1 : IntKind.i64.wrap (rootI b + 1) = rootI b + 1 := by rw [IntKind.wrap_i64]; omega
  have hM : I64 1099511627776 := by unfold I64; omega
  have hR : I64 (rootI b) := by unfold I64; omega
  have hB : I64 b := by unfold I64; omega
  have n113 : ∀ (h l h' l' : Int) (w : World), (Op.equalIn 10000 113 (.agg #[.int .i64 h, .int .u64 l]) (.agg #[.int .i64 h', .int .u64 l'])).run Try.prog w = .ok (h == h' && l == l') w := fun h l h' l' w => eq_twin h l h' l' 9998 w
  have m113 : Try.prog.eqGuardType Try.prog.depth 113 = false := by kernel_rfl
  have hq := twin_eq (rootI b * rootI b) (b * 1099511627776)
  go_enter Try.func125, Try.ntmps125
  go_upto_region 7 with (first | (go_at_call 60; (with_reducible refine (check_1 _ _ _ _ (by first | rfl | simp)).mono ?_); rintro e w1 ⟨rfl, hb⟩; obtain ⟨_, _, hc, hf⟩ := hb.cells2; have hz := hb.size; (try simp only [World.size_alloc, World.size_setCell] at hz hc hf); (try have zz : w.heap.size < w1.heap.size ∧ (∀ j, w.heap.size < w1.heap.size + j) ∧ (¬ w.heap.size = w1.heap.size) ∧ (∀ j, ¬ w.heap.size = w1.heap.size + j) ∧ (¬ w1.heap.size = w.heap.size) ∧ (∀ j, ¬ w1.heap.size + j = w.heap.size) := (by refine ⟨?_, fun j => ?_, ?_, fun j => ?_, ?_, fun j => ?_⟩ <;> omega)); (try have zz : w.heap.size + 1 < w1.heap.size ∧ (∀ j, w.heap.size + 1 < w1.heap.size + j) ∧ (¬ w.heap.size + 1 = w1.heap.size) ∧ (∀ j, ¬ w.heap.size + 1 = w1.heap.size + j) ∧ (¬ w1.heap.size = w.heap.size + 1) ∧ (∀ j, ¬ w1.heap.size + j = w.heap.size + 1) := (by refine ⟨?_, fun j => ?_, ?_, fun j => ?_, ?_, fun j => ?_⟩ <;> omega))) | (go_at_call 163; (with_reducible refine (s_root b _ (by omega) (by omega)).mono ?_); rintro e w1 ⟨rfl, hb⟩; obtain ⟨_, _, hc, hf⟩ := hb.cells2; have hz := hb.size; (try simp only [World.size_alloc, World.size_setCell] at hz hc hf); (try have zz : w.heap.size < w1.heap.size ∧ (∀ j, w.heap.size < w1.heap.size + j) ∧ (¬ w.heap.size = w1.heap.size) ∧ (∀ j, ¬ w.heap.size = w1.heap.size + j) ∧ (¬ w1.heap.size = w.heap.size) ∧ (∀ j, ¬ w1.heap.size + j = w.heap.size) := (by refine ⟨?_, fun j => ?_, ?_, fun j => ?_, ?_, fun j => ?_⟩ <;> omega)); (try have zz : w.heap.size + 1 < w1.heap.size ∧ (∀ j, w.heap.size + 1 < w1.heap.size + j) ∧ (¬ w.heap.size + 1 = w1.heap.size) ∧ (∀ j, ¬ w.heap.size + 1 = w1.heap.size + j) ∧ (¬ w1.heap.size = w.heap.size + 1) ∧ (∀ j, ¬ w1.heap.size + j = w.heap.size + 1) := (by refine ⟨?_, fun j => ?_, ?_, fun j => ?_, ?_, fun j => ?_⟩ <;> omega))))
  refine wp_name fun W hW => ?_
  obtain ⟨hWc, hWf, hWz⟩ := hW.cells
  have hWe : Ext w W := Ext.same hW (by repeat (first | with_reducible exact Ext.refl _ | with_reducible assumption | with_reducible refine Ext.alloc ?_ _ | with_reducible refine Ext.setCell ?_ (by (try simp only [World.size_alloc, World.size_setCell]); omega) _ | with_reducible refine Ext.drewN ?_ _ | with_reducible refine Ext.drew ?_ | with_reducible refine Ext.trans ?_ (by with_reducible assumption)))
  (try simp only [World.size_alloc, World.size_setCell] at hWz)
  (try simp only [size_drew, size_drewN, World.size_alloc, World.size_setCell] at hWz)
  replace hWz := And.intro (Nat.le_of_eq hWz) (Nat.le_of_eq hWz.symm)
  have hlt : w.heap.size < W.heap.size ∧ w.heap.size + 1 < W.heap.size := (by refine ⟨?_, ?_⟩ <;> omega)
  have hd : ¬ w.heap.size = w.heap.size + 1 ∧ ¬ w.heap.size + 1 = w.heap.size := (by refine ⟨?_, ?_⟩ <;> omega)
  go_region_held3 (fun w' => (∀ b o, b < W.heap.size → w'.cell? ⟨b, o, none⟩ = if b = w.heap.size ∧ 0 ≤ o ∧ o < 0 then (W.cell? ⟨b, o, none⟩).map (obx w' b o) else W.cell? ⟨b, o, none⟩) ∧ (∀ b o, b < W.heap.size → w'.frozen? ⟨b, o, none⟩ = W.frozen? ⟨b, o, none⟩) ∧ W.heap.size ≤ w'.heap.size ∧ Ext w w') (first | (with_reducible exact held0 hWe) | (with_reducible exact held1 (by with_reducible assumption) (by with_reducible assumption)) | (with_reducible exact held3 (by with_reducible assumption)) | ((with_reducible refine held4 (by with_reducible assumption) ?_ ?_) <;> omega) | (repeat (first | (with_reducible assumption) | (with_reducible refine held2 ?_ (by first | (refine Or.inl ⟨?_, ?_, ?_⟩ <;> (first | rfl | (dsimp only; omega))) | (refine Or.inr ?_; (try dsimp only); (try simp only [World.size_alloc, World.size_setCell]); omega)) (by (try dsimp only); (try simp only [World.size_alloc, World.size_setCell]); omega))))) ((first | (go_at_call 75; (with_reducible refine (times_any _ _ _ hR hR).mono ?_); rintro e w2 ⟨rfl, hb2⟩; have hz2 := hb2.size; (try rw [size_drew] at hz2)) | (go_at_call 75; (with_reducible refine (times_any _ _ _ hB hM).mono ?_); rintro e w2 ⟨rfl, hb2⟩; have hz2 := hb2.size; (try rw [size_drew] at hz2))))
  all_goals
    rename_i hOld
    have hE := hOld.2.2.2
    have hO := And.intro hOld.1 (And.intro hOld.2.1 hOld.2.2.1)
    clear hOld
    obtain ⟨hOc, hOf, hOz⟩ := heldEnd hO
    clear hO
    go_wp2_with (first | (go_at_call 163; (with_reducible refine (s_root a _ h0 (by omega)).mono ?_); rintro e w1 ⟨rfl, hb⟩; obtain ⟨_, _, hc, hf⟩ := hb.cells2; have hz := hb.size; (try simp only [World.size_alloc, World.size_setCell] at hz hc hf)))
    all_goals
      refine bodyPost_ret (v := .tuple #[.agg #[.int .i64 (sqrtP a b).lo, .int .i64 (sqrtP a b).hi], .int .i64 (sqrtP a b).e]) ?_ rfl ⟨rfl, ?_⟩
      · (try simp only [bne_iff_ne, ne_eq, bne_eq_false_iff_eq, beq_iff_eq, beq_eq_false_iff_ne] at *)
        simp [results, Try.results125, go_sem, ↓IntWalk.iteOmega, sqrtP, *]
        all_goals (try (intro hh; simp_all; done))
      · repeat (first | with_reducible exact Ext.refl _ | with_reducible assumption | with_reducible refine Ext.alloc ?_ _ | with_reducible refine Ext.setCell ?_ (by (try simp only [World.size_alloc, World.size_setCell]); omega) _ | with_reducible refine Ext.drewN ?_ _ | with_reducible refine Ext.drew ?_ | with_reducible refine Ext.trans ?_ (by with_reducible assumption))

set_option maxRecDepth 100000 in
set_option maxHeartbeats 2000000 in
theorem ssqrt_e (a b : Int) (w : World) (hk : ¬ ckI a b = 0) :
    Calls Try.prog 125 #[.agg #[.int .i64 a, .int .i64 b]] w fun e w' => e = .returned (.tuple #[.agg #[.int .i64 (R3.mk 0 0 (ckI a b)).lo, .int .i64 (R3.mk 0 0 (ckI a b)).hi], .int .i64 (R3.mk 0 0 (ckI a b)).e]) ∧ Ext w w' := by
  go_enter Try.func125, Try.ntmps125
  go_wp2_with (first | (go_at_call 60; (with_reducible refine (check_1 _ _ _ _ (by first | rfl | simp)).mono ?_); rintro e w1 ⟨rfl, hb⟩; obtain ⟨_, _, hc, hf⟩ := hb.cells2; have hz := hb.size; (try simp only [World.size_alloc, World.size_setCell] at hz hc hf)))
  all_goals
    refine bodyPost_ret (v := .tuple #[.agg #[.int .i64 (R3.mk 0 0 (ckI a b)).lo, .int .i64 (R3.mk 0 0 (ckI a b)).hi], .int .i64 (R3.mk 0 0 (ckI a b)).e]) ?_ rfl ⟨rfl, ?_⟩
    · (try simp only [bne_iff_ne, ne_eq, bne_eq_false_iff_eq, beq_iff_eq, beq_eq_false_iff_ne] at *)
      simp [results, Try.results125, go_sem, ↓IntWalk.iteOmega, ne_eq, *]
    · repeat (first | with_reducible exact Ext.refl _ | with_reducible assumption | with_reducible refine Ext.alloc ?_ _ | with_reducible refine Ext.setCell ?_ (by (try simp only [World.size_alloc, World.size_setCell]); omega) _ | with_reducible refine Ext.drewN ?_ _ | with_reducible refine Ext.drew ?_ | with_reducible refine Ext.trans ?_ (by with_reducible assumption))

set_option maxRecDepth 100000 in
set_option maxHeartbeats 2000000 in
theorem ssqrt_n (a b : Int) (w : World) (hk : ckI a b = 0) (h0 : a < 0) :
    Calls Try.prog 125 #[.agg #[.int .i64 a, .int .i64 b]] w fun e w' => e = .returned (.tuple #[.agg #[.int .i64 (R3.mk 0 0 2).lo, .int .i64 (R3.mk 0 0 2).hi], .int .i64 (R3.mk 0 0 2).e]) ∧ Ext w w' := by
  go_enter Try.func125, Try.ntmps125
  go_wp2_with (first | (go_at_call 60; (with_reducible refine (check_1 _ _ _ _ (by first | rfl | simp)).mono ?_); rintro e w1 ⟨rfl, hb⟩; obtain ⟨_, _, hc, hf⟩ := hb.cells2; have hz := hb.size; (try simp only [World.size_alloc, World.size_setCell] at hz hc hf)))
  all_goals
    refine bodyPost_ret (v := .tuple #[.agg #[.int .i64 (R3.mk 0 0 2).lo, .int .i64 (R3.mk 0 0 2).hi], .int .i64 (R3.mk 0 0 2).e]) ?_ rfl ⟨rfl, ?_⟩
    · (try simp only [bne_iff_ne, ne_eq, bne_eq_false_iff_eq, beq_iff_eq, beq_eq_false_iff_ne] at *)
      simp [results, Try.results125, go_sem, ↓IntWalk.iteOmega, ne_eq, *]
    · repeat (first | with_reducible exact Ext.refl _ | with_reducible assumption | with_reducible refine Ext.alloc ?_ _ | with_reducible refine Ext.setCell ?_ (by (try simp only [World.size_alloc, World.size_setCell]); omega) _ | with_reducible refine Ext.drewN ?_ _ | with_reducible refine Ext.drew ?_ | with_reducible refine Ext.trans ?_ (by with_reducible assumption))

theorem span_sqrt (a b : Int) (w : World) :
    Calls Try.prog 125 #[.agg #[.int .i64 a, .int .i64 b]] w fun e w' => e = .returned (.tuple #[.agg #[.int .i64 (sqrtI a b).lo, .int .i64 (sqrtI a b).hi], .int .i64 (sqrtI a b).e]) ∧ Ext w w' := by
  by_cases hk : ckI a b = 0
  · by_cases h0 : a < 0
    · have e : sqrtI a b = ⟨0, 0, 2⟩ := by unfold sqrtI; rw [if_neg (by simpa using hk), if_pos h0]
      rw [e]; exact ssqrt_n a b w hk h0
    · have e : sqrtI a b = sqrtP a b := by unfold sqrtI; rw [if_neg (by simpa using hk), if_neg h0]; rfl
      rw [e]; exact ssqrt_p a b w hk (by omega)
  · have e : sqrtI a b = ⟨0, 0, ckI a b⟩ := by unfold sqrtI; rw [if_pos (by simpa using hk)]
    rw [e]; exact ssqrt_e a b w hk

end Go.Proofs.Ytomgcjeahkmhiaa
