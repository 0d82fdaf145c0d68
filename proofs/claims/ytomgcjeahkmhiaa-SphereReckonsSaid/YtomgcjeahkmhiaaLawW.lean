/- SphereReckons: the walk. -/
import Derived.Test.YtomgcjeahkmhiaaR17b
import Derived.Test.YtomgcjeahkmhiaaR17s
import Derived.Test.YtomgcjeahkmhiaaSphD
import Derived.Test.YtomgcjeahkmhiaaSphE
import Derived.Test.YtomgcjeahkmhiaaEqs
import Derived.Test.YtomgcjeahkmhiaaR17x
namespace Go.Proofs.Ytomgcjeahkmhiaa
open Go.RowKit

set_option maxRecDepth 100000 in
set_option maxHeartbeats 8000000 in
theorem law_walk (a b : V3) (x y : Int) (w : World) (ha : a.I) (hb0 : b.I) (hx : I64 x ∧ I64 y) :
    Calls Try.prog 3 #[.agg #[.int .i64 a.a, .int .i64 a.b, .int .i64 a.c, .int .i64 a.d, .int .i64 a.e, .int .i64 a.f], .agg #[.int .i64 b.a, .int .i64 b.b, .int .i64 b.c, .int .i64 b.d, .int .i64 b.e, .int .i64 b.f], .agg #[.int .i64 x, .int .i64 y]] w fun e w' => e = .returned (.bool true) ∧ Ext w w' := by
  have l0 : IntKind.i64.wrap 0 = 0 := rfl
  have l1 : IntKind.i64.wrap 1 = 1 := rfl
  have l2 : IntKind.i64.wrap 2 = 2 := rfl
  have l3 : IntKind.i64.wrap 3 = 3 := rfl
  have n25 : ∀ (a b c d e f : Int) (w : World), (Op.equalIn 10000 25 (.agg #[.int .i64 a, .int .i64 b, .int .i64 c, .int .i64 d, .int .i64 e, .int .i64 f]) (.agg #[.int .i64 a, .int .i64 b, .int .i64 c, .int .i64 d, .int .i64 e, .int .i64 f])).run Try.prog w = .ok true w := fun a b c d e f w => eq_vec a b c d e f 9997 w
  have n23 : ∀ (a b : Int) (w : World), (Op.equalIn 10000 23 (.agg #[.int .i64 a, .int .i64 b]) (.agg #[.int .i64 a, .int .i64 b])).run Try.prog w = .ok true w := fun a b w => eq_iv a b 9998 w
  have m25 : Try.prog.eqGuardType Try.prog.depth 25 = false := by kernel_rfl
  have m23 : Try.prog.eqGuardType Try.prog.depth 23 = false := by kernel_rfl
  go_enter Try.func3, Try.ntmps3
  go_upto_region 15 with (first | (go_at_call 7; (with_reducible refine (p_add a b _).mono ?_); rintro e u1 ⟨rfl, hb⟩; obtain ⟨_, _, hc, hf⟩ := hb.cells2; have hz := hb.size; (try simp only [World.size_alloc] at hz hc hf)) | (go_at_call 8; (with_reducible refine (r_add a b _).mono ?_); rintro e u2 ⟨rfl, hb⟩; obtain ⟨_, _, hc, hf⟩ := hb.cells2; have hz := hb.size; (try simp only [World.size_alloc] at hz hc hf)) | (go_at_call 9; (with_reducible refine (p_sub a b _).mono ?_); rintro e u3 ⟨rfl, hb⟩; obtain ⟨_, _, hc, hf⟩ := hb.cells2; have hz := hb.size; (try simp only [World.size_alloc] at hz hc hf)) | (go_at_call 10; (with_reducible refine (r_sub a b _).mono ?_); rintro e u4 ⟨rfl, hb⟩; obtain ⟨_, _, hc, hf⟩ := hb.cells2; have hz := hb.size; (try simp only [World.size_alloc] at hz hc hf)) | (go_at_call 11; (with_reducible refine (p_sca a x y _ ha hx).mono ?_); rintro e u5 ⟨rfl, hb⟩; obtain ⟨_, _, hc, hf⟩ := hb.cells2; have hz := hb.size; (try simp only [World.size_alloc] at hz hc hf)) | (go_at_call 12; (with_reducible refine (r_sca a x y _ ha hx).mono ?_); rintro e u6 ⟨rfl, hb⟩; obtain ⟨_, _, hc, hf⟩ := hb.cells2; have hz := hb.size; (try simp only [World.size_alloc] at hz hc hf)) | (go_at_call 13; (with_reducible refine (p_crs a b _ ha hb0).mono ?_); rintro e u7 ⟨rfl, hb⟩; obtain ⟨_, _, hc, hf⟩ := hb.cells2; have hz := hb.size; (try simp only [World.size_alloc] at hz hc hf)) | (go_at_call 14; (with_reducible refine (r_crs a b _ ha hb0).mono ?_); rintro e u8 ⟨rfl, hb⟩; obtain ⟨_, _, hc, hf⟩ := hb.cells2; have hz := hb.size; (try simp only [World.size_alloc] at hz hc hf)) | (go_at_call 15; (with_reducible refine (p_dot a b _ ha hb0).mono ?_); rintro e u9 ⟨rfl, hb⟩; obtain ⟨_, _, hc, hf⟩ := hb.cells2; have hz := hb.size; (try simp only [World.size_alloc] at hz hc hf)) | (go_at_call 16; (with_reducible refine (r_dot a b _ ha hb0).mono ?_); rintro e u10 ⟨rfl, hb⟩; obtain ⟨_, _, hc, hf⟩ := hb.cells2; have hz := hb.size; (try simp only [World.size_alloc] at hz hc hf)) | (go_at_call 17; (with_reducible refine (p_nrm a _ ha).mono ?_); rintro e u11 ⟨rfl, hb⟩; obtain ⟨_, _, hc, hf⟩ := hb.cells2; have hz := hb.size; (try simp only [World.size_alloc] at hz hc hf)) | (go_at_call 18; (with_reducible refine (r_nrm a _ ha).mono ?_); rintro e u12 ⟨rfl, hb⟩; obtain ⟨_, _, hc, hf⟩ := hb.cells2; have hz := hb.size; (try simp only [World.size_alloc] at hz hc hf)))
  refine wp_name fun W hW => ?_
  obtain ⟨hWc, hWf, hWz⟩ := hW.cells
  have hWe : Ext w W := Ext.same hW (by repeat (first | with_reducible exact Ext.refl _ | with_reducible assumption | with_reducible refine Ext.alloc ?_ _ | with_reducible refine Ext.setCell ?_ (by (try simp only [World.size_alloc, World.size_setCell]); omega) _ | with_reducible refine Ext.drewN ?_ _ | with_reducible refine Ext.drew ?_ | with_reducible refine Ext.trans ?_ (by with_reducible assumption)))
  (try simp only [World.size_alloc] at hWz)
  replace hWz := And.intro (Nat.le_of_eq hWz) (Nat.le_of_eq hWz.symm)
  have hlt : w.heap.size < W.heap.size ∧ u9.heap.size < W.heap.size ∧ u10.heap.size < W.heap.size ∧ u11.heap.size < W.heap.size ∧ u12.heap.size < W.heap.size := (by refine ⟨?_, ?_, ?_, ?_, ?_⟩ <;> omega)
  have hd : ¬ w.heap.size = u9.heap.size ∧ ¬ w.heap.size = u10.heap.size ∧ ¬ w.heap.size = u11.heap.size ∧ ¬ w.heap.size = u12.heap.size ∧ ¬ u9.heap.size = w.heap.size ∧ ¬ u9.heap.size = u10.heap.size ∧ ¬ u9.heap.size = u11.heap.size ∧ ¬ u9.heap.size = u12.heap.size ∧ ¬ u10.heap.size = w.heap.size ∧ ¬ u10.heap.size = u9.heap.size ∧ ¬ u10.heap.size = u11.heap.size ∧ ¬ u10.heap.size = u12.heap.size ∧ ¬ u11.heap.size = w.heap.size ∧ ¬ u11.heap.size = u9.heap.size ∧ ¬ u11.heap.size = u10.heap.size ∧ ¬ u11.heap.size = u12.heap.size ∧ ¬ u12.heap.size = w.heap.size ∧ ¬ u12.heap.size = u9.heap.size ∧ ¬ u12.heap.size = u10.heap.size ∧ ¬ u12.heap.size = u11.heap.size := (by refine ⟨?_, ?_, ?_, ?_, ?_, ?_, ?_, ?_, ?_, ?_, ?_, ?_, ?_, ?_, ?_, ?_, ?_, ?_, ?_, ?_⟩ <;> omega)
  have hq0 : W.cell? ⟨w.heap.size, 0, none⟩ = some (.int .i64 a.a) := (hWc _).trans (by simp [go_sem, ↓IntWalk.iteOmega, *])
  have hq1 : W.cell? ⟨w.heap.size, 1, none⟩ = some (.int .i64 a.b) := (hWc _).trans (by simp [go_sem, ↓IntWalk.iteOmega, *])
  have hq2 : W.cell? ⟨w.heap.size, 2, none⟩ = some (.int .i64 a.c) := (hWc _).trans (by simp [go_sem, ↓IntWalk.iteOmega, *])
  have hq3 : W.cell? ⟨w.heap.size, 3, none⟩ = some (.int .i64 a.d) := (hWc _).trans (by simp [go_sem, ↓IntWalk.iteOmega, *])
  have hq4 : W.cell? ⟨w.heap.size, 4, none⟩ = some (.int .i64 a.e) := (hWc _).trans (by simp [go_sem, ↓IntWalk.iteOmega, *])
  have hq5 : W.cell? ⟨w.heap.size, 5, none⟩ = some (.int .i64 a.f) := (hWc _).trans (by simp [go_sem, ↓IntWalk.iteOmega, *])
  have hq6 : W.cell? ⟨u9.heap.size, 0, none⟩ = some (.int .i64 (dotV a b).lo) := (hWc _).trans (by simp [go_sem, ↓IntWalk.iteOmega, *])
  have hq7 : W.cell? ⟨u9.heap.size, 1, none⟩ = some (.int .i64 (dotV a b).hi) := (hWc _).trans (by simp [go_sem, ↓IntWalk.iteOmega, *])
  have hq8 : W.cell? ⟨u10.heap.size, 0, none⟩ = some (.int .i64 (dotV a b).lo) := (hWc _).trans (by simp [go_sem, ↓IntWalk.iteOmega, *])
  have hq9 : W.cell? ⟨u10.heap.size, 1, none⟩ = some (.int .i64 (dotV a b).hi) := (hWc _).trans (by simp [go_sem, ↓IntWalk.iteOmega, *])
  have hq10 : W.cell? ⟨u11.heap.size, 0, none⟩ = some (.int .i64 (nrmV a).lo) := (hWc _).trans (by simp [go_sem, *])
  have hq11 : W.cell? ⟨u11.heap.size, 1, none⟩ = some (.int .i64 (nrmV a).hi) := (hWc _).trans (by simp [go_sem, *])
  have hq12 : W.cell? ⟨u12.heap.size, 0, none⟩ = some (.int .i64 (nrmV a).lo) := (hWc _).trans (by simp [go_sem, *])
  have hq13 : W.cell? ⟨u12.heap.size, 1, none⟩ = some (.int .i64 (nrmV a).hi) := (hWc _).trans (by simp [go_sem, *])
  clear hWc hWf hW
  go_region_held3 (fun w' => (∀ b o, b < W.heap.size → w'.cell? ⟨b, o, none⟩ = if b = w.heap.size ∧ 0 ≤ o ∧ o < 0 then (W.cell? ⟨b, o, none⟩).map (obx w' b o) else W.cell? ⟨b, o, none⟩) ∧ (∀ b o, b < W.heap.size → w'.frozen? ⟨b, o, none⟩ = W.frozen? ⟨b, o, none⟩) ∧ W.heap.size ≤ w'.heap.size ∧ Ext w w') (first | (with_reducible exact held0 hWe) | (with_reducible exact held1 (by with_reducible assumption) (by with_reducible assumption)) | (with_reducible exact held3 (by with_reducible assumption)) | ((with_reducible refine held4 (by with_reducible assumption) ?_ ?_) <;> omega) | (repeat (first | (with_reducible assumption) | (with_reducible refine held2 ?_ (by first | (refine Or.inl ⟨?_, ?_, ?_⟩ <;> (first | rfl | (dsimp only; omega))) | (refine Or.inr ?_; (try dsimp only); (try simp only [World.size_alloc, World.size_setCell]); omega)) (by (try dsimp only); (try simp only [World.size_alloc, World.size_setCell]); omega))))) ((first | (go_at_call 19; (with_reducible refine (s_check a _).mono ?_); rintro e w2 ⟨rfl, hb2⟩; have hz2 := hb2.size; (try rw [size_drew] at hz2)) | (go_at_call 20; (with_reducible refine (c_check a _).mono ?_); rintro e w2 ⟨rfl, hb2⟩; have hz2 := hb2.size; (try rw [size_drew] at hz2))))
  all_goals
    rename_i hOld
    have hE := hOld.2.2.2
    clear hOld
    go_wp2_with fail
    go_ret
    exact ⟨rfl, hE⟩

end Go.Proofs.Ytomgcjeahkmhiaa
