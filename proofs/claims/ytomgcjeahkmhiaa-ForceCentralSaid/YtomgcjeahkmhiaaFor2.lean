/- force: the size of a vector. -/
import Derived.Test.YtomgcjeahkmhiaaFor1
import Derived.Test.YtomgcjeahkmhiaaSqrt
import Derived.Test.YtomgcjeahkmhiaaSSqrt
import Derived.Test.YtomgcjeahkmhiaaSphD
import Derived.Test.YtomgcjeahkmhiaaPtr2
set_option linter.unusedSimpArgs false
set_option linter.unusedVariables false
namespace Go.Proofs.Ytomgcjeahkmhiaa
open Go.RowKit

theorem nrmV_Z (a : V3) : (nrmV a).Z := ifZ (nrmI_Z 0 a)
theorem nrmI_W (E : Int) (a : V3) : (nrmI E a).W := doI_W (addI_W _ _ _ _)
theorem nrmV_W (a : V3) : (nrmV a).W := ifW (nrmI_W 0 a)
theorem sqrtI_Z (a b : Int) : (sqrtI a b).Z := by
  unfold sqrtI; split
  · intro _; exact ⟨rfl, rfl⟩
  · split
    · intro _; exact ⟨rfl, rfl⟩
    · intro h; exact absurd rfl h
theorem sqrtI_W (a b : Int) : (sqrtI a b).W := by
  unfold sqrtI; split
  · exact ⟨I64_0, I64_0⟩
  · split
    · exact ⟨I64_0, I64_0⟩
    · rename_i h1 h2
      obtain ⟨k1, k2, k3⟩ := ckI_ok (Decidable.not_not.1 h1)
      have ha := root_le (x := a) (by omega) (by omega)
      have hb := root_le (x := b) (by omega) (by omega)
      refine ⟨?_, ?_⟩
      · unfold I64; dsimp only; omega
      · unfold I64; dsimp only; split <;> omega
theorem W2 {r : R3} (h : r.W) : I64 r.lo ∧ I64 r.hi := h
/-- The square's root, and the cube. -/
noncomputable def sz1 (q : R3) : R3 := doI q.e (sqrtI q.lo q.hi)
noncomputable def sz2 (q : R3) : R3 := doI (sz1 q).e (mulI q.lo q.hi (sz1 q).lo (sz1 q).hi)
theorem sz1_W (q : R3) : (sz1 q).W := doI_W (sqrtI_W _ _)
theorem sz2_W (q : R3) : (sz2 q).W := doI_W (mulI_W _ _ _ _)
set_option maxRecDepth 100000 in
set_option maxHeartbeats 1000000 in
theorem f_keepr (p : Nat) (E : Int) (r : R3) (w : World) (hc : w.cell? ⟨p, 0, none⟩ = some (.bool (nz (E)))) (hf : w.frozen? ⟨p, 0, none⟩ = false) (hZ : r.Z) :
    Calls Try.prog 85 #[.pointer (some ⟨p, 0, none⟩), .agg #[.int .i64 r.lo, .int .i64 r.hi], .int .i64 r.e] w fun e w' => e = .returned (.agg #[.int .i64 (doI E r).lo, .int .i64 (doI E r).hi]) ∧ Ext (w.setCell ⟨p, 0, none⟩ (.bool (nz ((doI E r).e)))) w' := by
  have hp : p < w.heap.size := World.block_lt_of_cell? w _ hc
  rw [← kp_do hZ]; exact f_keep p E r.lo r.hi r.e w hc hf
set_option maxRecDepth 100000 in
set_option maxHeartbeats 2000000 in
theorem f_size (p : Nat) (E : Int) (d : V3) (w : World) (hc : w.cell? ⟨p, 0, none⟩ = some (.bool (nz (E)))) (hf : w.frozen? ⟨p, 0, none⟩ = false) (kd : d.I) :
    Calls Try.prog 84 #[.pointer (some ⟨p, 0, none⟩), .agg #[.int .i64 d.a, .int .i64 d.b, .int .i64 d.c, .int .i64 d.d, .int .i64 d.e, .int .i64 d.f]] w fun e w' => e = .returned (.tuple #[.agg #[.int .i64 (doI E (nrmV d)).lo, .int .i64 (doI E (nrmV d)).hi], .agg #[.int .i64 (sz2 (doI E (nrmV d))).lo, .int .i64 (sz2 (doI E (nrmV d))).hi]]) ∧ Ext (w.setCell ⟨p, 0, none⟩ (.bool (nz ((sz2 (doI E (nrmV d))).e)))) w' := by
  have hp : p < w.heap.size := World.block_lt_of_cell? w _ hc
  go_enter Try.func84, Try.ntmps84
  go_wp2_with (first | (go_at_call 17; (with_reducible refine (p_nrm d _ kd).mono ?_); rintro e w1 ⟨rfl, hb⟩; obtain ⟨_, _, hc, hf⟩ := hb.cells2; have hz := hb.size; (try simp only [World.size_alloc, World.size_setCell] at hz hc hf); (try have zz : w.heap.size < w1.heap.size ∧ (∀ j, w.heap.size < w1.heap.size + j) ∧ (¬ w.heap.size = w1.heap.size) ∧ (∀ j, ¬ w.heap.size = w1.heap.size + j) ∧ (¬ w1.heap.size = w.heap.size) ∧ (∀ j, ¬ w1.heap.size + j = w.heap.size) := (by refine ⟨?_, fun j => ?_, ?_, fun j => ?_, ?_, fun j => ?_⟩ <;> omega)); (try have zz : w.heap.size + 1 < w1.heap.size ∧ (∀ j, w.heap.size + 1 < w1.heap.size + j) ∧ (¬ w.heap.size + 1 = w1.heap.size) ∧ (∀ j, ¬ w.heap.size + 1 = w1.heap.size + j) ∧ (¬ w1.heap.size = w.heap.size + 1) ∧ (∀ j, ¬ w1.heap.size + j = w.heap.size + 1) := (by refine ⟨?_, fun j => ?_, ?_, fun j => ?_, ?_, fun j => ?_⟩ <;> omega)); (try have zz : w.heap.size + 1 + 1 < w1.heap.size ∧ (∀ j, w.heap.size + 1 + 1 < w1.heap.size + j) ∧ (¬ w.heap.size + 1 + 1 = w1.heap.size) ∧ (∀ j, ¬ w.heap.size + 1 + 1 = w1.heap.size + j) ∧ (¬ w1.heap.size = w.heap.size + 1 + 1) ∧ (∀ j, ¬ w1.heap.size + j = w.heap.size + 1 + 1) := (by refine ⟨?_, fun j => ?_, ?_, fun j => ?_, ?_, fun j => ?_⟩ <;> omega)); (try have zz : p < w1.heap.size ∧ (∀ j, p < w1.heap.size + j) ∧ (¬ p = w1.heap.size) ∧ (∀ j, ¬ p = w1.heap.size + j) ∧ (¬ w1.heap.size = p) ∧ (∀ j, ¬ w1.heap.size + j = p) := (by refine ⟨?_, fun j => ?_, ?_, fun j => ?_, ?_, fun j => ?_⟩ <;> omega))) | (go_at_call 85; (with_reducible refine (f_keepr p E (nrmV d) _ (by simp [go_sem, ↓IntWalk.iteOmega, *]) (by simp [go_sem, ↓IntWalk.iteOmega, *]) (nrmV_Z d)).mono ?_); (generalize hr0 : doI E (nrmV d) = r0); rintro e w1 ⟨rfl, hb⟩; obtain ⟨_, _, hc, hf⟩ := hb.cells2; have hz := hb.size; (try simp only [World.size_alloc, World.size_setCell] at hz hc hf); (try have zz : w.heap.size < w1.heap.size ∧ (∀ j, w.heap.size < w1.heap.size + j) ∧ (¬ w.heap.size = w1.heap.size) ∧ (∀ j, ¬ w.heap.size = w1.heap.size + j) ∧ (¬ w1.heap.size = w.heap.size) ∧ (∀ j, ¬ w1.heap.size + j = w.heap.size) := (by refine ⟨?_, fun j => ?_, ?_, fun j => ?_, ?_, fun j => ?_⟩ <;> omega)); (try have zz : w.heap.size + 1 < w1.heap.size ∧ (∀ j, w.heap.size + 1 < w1.heap.size + j) ∧ (¬ w.heap.size + 1 = w1.heap.size) ∧ (∀ j, ¬ w.heap.size + 1 = w1.heap.size + j) ∧ (¬ w1.heap.size = w.heap.size + 1) ∧ (∀ j, ¬ w1.heap.size + j = w.heap.size + 1) := (by refine ⟨?_, fun j => ?_, ?_, fun j => ?_, ?_, fun j => ?_⟩ <;> omega)); (try have zz : w.heap.size + 1 + 1 < w1.heap.size ∧ (∀ j, w.heap.size + 1 + 1 < w1.heap.size + j) ∧ (¬ w.heap.size + 1 + 1 = w1.heap.size) ∧ (∀ j, ¬ w.heap.size + 1 + 1 = w1.heap.size + j) ∧ (¬ w1.heap.size = w.heap.size + 1 + 1) ∧ (∀ j, ¬ w1.heap.size + j = w.heap.size + 1 + 1) := (by refine ⟨?_, fun j => ?_, ?_, fun j => ?_, ?_, fun j => ?_⟩ <;> omega)); (try have zz : p < w1.heap.size ∧ (∀ j, p < w1.heap.size + j) ∧ (¬ p = w1.heap.size) ∧ (∀ j, ¬ p = w1.heap.size + j) ∧ (¬ w1.heap.size = p) ∧ (∀ j, ¬ w1.heap.size + j = p) := (by refine ⟨?_, fun j => ?_, ?_, fun j => ?_, ?_, fun j => ?_⟩ <;> omega))))
  refine wp_name fun W hW => ?_
  obtain ⟨hWc, hWf, hWz⟩ := hW.cells
  have hWe : ExtP w p 0 W := ExtP.same hW (by (repeat (first | with_reducible assumption | with_reducible refine ExtP.set ?_ | (with_reducible refine ExtP.store ?_ ?_; rotate_left; (focus ((try simp only [World.size_alloc, World.size_setCell]); omega))) | with_reducible refine ExtP.ext ?_ ((Ext.refl _).alloc _) | with_reducible refine ExtP.ext ?_ ((Ext.refl _).drew) | with_reducible assumption | with_reducible exact ExtP.of _ _ (Ext.refl w) | with_reducible refine ExtP.ext ?_ (by with_reducible assumption))))
  (try simp only [World.size_alloc, World.size_setCell] at hWz)
  replace hWz := And.intro (Nat.le_of_eq hWz) (Nat.le_of_eq hWz.symm)
  have hlt : w.heap.size < W.heap.size ∧ w.heap.size + 1 < W.heap.size ∧ w.heap.size + 1 + 1 < W.heap.size ∧ p < W.heap.size := (by refine ⟨?_, ?_, ?_, ?_⟩ <;> omega)
  have hd : ¬ w.heap.size = w.heap.size + 1 ∧ ¬ w.heap.size = w.heap.size + 1 + 1 ∧ ¬ w.heap.size = p ∧ ¬ w.heap.size + 1 = w.heap.size ∧ ¬ w.heap.size + 1 = w.heap.size + 1 + 1 ∧ ¬ w.heap.size + 1 = p ∧ ¬ w.heap.size + 1 + 1 = w.heap.size ∧ ¬ w.heap.size + 1 + 1 = w.heap.size + 1 ∧ ¬ w.heap.size + 1 + 1 = p ∧ ¬ p = w.heap.size ∧ ¬ p = w.heap.size + 1 ∧ ¬ p = w.heap.size + 1 + 1 := (by refine ⟨?_, ?_, ?_, ?_, ?_, ?_, ?_, ?_, ?_, ?_, ?_, ?_⟩ <;> omega)
  have hcv0 : W.cell? ⟨w.heap.size + 1, 0, none⟩ = some (.int .i64 r0.lo) := by rw [hWc]; simp [go_sem, ↓IntWalk.iteOmega, *]
  have hcv1 : W.cell? ⟨w.heap.size + 1, 1, none⟩ = some (.int .i64 r0.hi) := by rw [hWc]; simp [go_sem, ↓IntWalk.iteOmega, *]
  go_region_held3 (fun w' => (∀ b o, b < W.heap.size → w'.cell? ⟨b, o, none⟩ = if b = w.heap.size + 1 + 1 ∧ 0 ≤ o ∧ o < 2 ∨ b = p ∧ o = 0 then (W.cell? ⟨b, o, none⟩).map (obx w' b o) else W.cell? ⟨b, o, none⟩) ∧ (∀ b o, b < W.heap.size → w'.frozen? ⟨b, o, none⟩ = W.frozen? ⟨b, o, none⟩) ∧ W.heap.size ≤ w'.heap.size ∧ ExtP w p 0 w') (first | (with_reducible exact hew0 hWe) | (exact hew1p (by with_reducible assumption) (by first | omega | ((try dsimp only); (try simp only [World.size_alloc, World.size_setCell]); omega) | (simp; done) | (simp; omega)) (by with_reducible assumption)) | (with_reducible exact hew1 (by with_reducible assumption) (by with_reducible assumption)) | (with_reducible exact hew3d (by with_reducible assumption)) | (with_reducible exact hew3 (by with_reducible assumption)) | ((with_reducible refine hew4 (by with_reducible assumption) ?_ ?_) <;> omega) | (repeat (first | (with_reducible assumption) | (refine hew2s ?_ (by omega) (by (try dsimp only); omega) (by with_reducible assumption)) | (refine hew2 ?_ (by first | omega | ((try dsimp only); (try simp only [World.size_alloc, World.size_setCell]); omega) | (simp; done) | (simp; omega)) (by first | omega | ((try dsimp only); (try simp only [World.size_alloc, World.size_setCell]); omega) | (simp; done) | (simp; omega)))))) ((first | (go_at_call 125; (with_reducible refine (span_sqrt r0.lo r0.hi _).mono ?_); rintro e w9 ⟨rfl, hb7⟩; have hz7 := hb7.size; (try simp only [size_drew, World.size_setCell] at hz7); have hg7 := (hb7.cells.1 p 0 (by (try simp only [size_drew]); omega)).trans (show _ = some (.bool (nz (r0.e))) from (by (try simp only [cell_drew, frozen_drew]); first | with_reducible assumption | (rw [cell_al, if_neg (by (try simp only [size_drew]); omega)]; (try simp only [cell_drew]); with_reducible assumption) | simp [go_sem, ↓IntWalk.iteOmega, *])); have hh7 := (hb7.cells.2 p 0 (by (try simp only [size_drew]); omega)).trans (show _ = false from (by (try simp only [cell_drew, frozen_drew]); first | with_reducible assumption | (rw [cell_al, if_neg (by (try simp only [size_drew]); omega)]; (try simp only [cell_drew]); with_reducible assumption) | simp [go_sem, ↓IntWalk.iteOmega, *]))) | (go_at_call 85; (with_reducible refine (f_keepr p r0.e (sqrtI r0.lo r0.hi) _ (by (try simp only [cell_drew, frozen_drew]); first | with_reducible assumption | (rw [cell_al, if_neg (by (try simp only [size_drew]); omega)]; (try simp only [cell_drew]); with_reducible assumption) | simp [go_sem, ↓IntWalk.iteOmega, *]) (by (try simp only [cell_drew, frozen_drew]); first | with_reducible assumption | (rw [cell_al, if_neg (by (try simp only [size_drew]); omega)]; (try simp only [cell_drew]); with_reducible assumption) | simp [go_sem, ↓IntWalk.iteOmega, *]) (sqrtI_Z _ _)).mono ?_); (generalize hr1 : doI r0.e (sqrtI r0.lo r0.hi) = r1); rintro e w2 ⟨rfl, hb0⟩; have hz0 := hb0.size; (try simp only [size_drew, World.size_setCell] at hz0); obtain ⟨hg0, hh0⟩ := hb0.got (u := .bool (nz (r0.e))) (by (try simp only [cell_drew, frozen_drew]); first | with_reducible assumption | (rw [cell_al, if_neg (by (try simp only [size_drew]); omega)]; (try simp only [cell_drew]); with_reducible assumption) | simp [go_sem, ↓IntWalk.iteOmega, *]); have hob0 := obx_of hg0; (try simp only [frozen_drew] at hh0)) | (go_at_call 88; (with_reducible refine (f_mul p r1.e r0.lo r0.hi r1.lo r1.hi _ (by (try simp only [cell_drew, frozen_drew]); first | with_reducible assumption | (rw [cell_al, if_neg (by (try simp only [size_drew]); omega)]; (try simp only [cell_drew]); with_reducible assumption) | simp [go_sem, ↓IntWalk.iteOmega, *]) (by (try simp only [cell_drew, frozen_drew]); first | with_reducible assumption | (rw [cell_al, if_neg (by (try simp only [size_drew]); omega)]; (try simp only [cell_drew]); with_reducible assumption) | simp [go_sem, ↓IntWalk.iteOmega, *]) (W2 (hr0 ▸ doI_W (nrmV_W d))) (W2 (hr1 ▸ doI_W (sqrtI_W _ _)))).mono ?_); (generalize hr2 : doI r1.e (mulI r0.lo r0.hi r1.lo r1.hi) = r2); rintro e w3 ⟨rfl, hb1⟩; have hz1 := hb1.size; (try simp only [size_drew, World.size_setCell] at hz1); obtain ⟨hg1, hh1⟩ := hb1.got (u := .bool (nz (r1.e))) (by (try simp only [cell_drew, frozen_drew]); first | with_reducible assumption | (rw [cell_al, if_neg (by (try simp only [size_drew]); omega)]; (try simp only [cell_drew]); with_reducible assumption) | simp [go_sem, ↓IntWalk.iteOmega, *]); have hob1 := obx_of hg1; (try simp only [frozen_drew] at hh1))))
  rename_i hOld
  have hE := hOld.2.2.2
  have hO := And.intro hOld.1 (And.intro hOld.2.1 hOld.2.2.1)
  clear hOld
  replace hO := hewBack hO (by first | omega | ((try dsimp only); (try simp only [World.size_alloc, World.size_setCell]); omega) | (simp; done) | (simp; omega))
  replace hO := hewBack hO (by first | omega | ((try dsimp only); (try simp only [World.size_alloc, World.size_setCell]); omega) | (simp; done) | (simp; omega))
  obtain ⟨X, hX⟩ := hewNm hO
  rw [hX] at hO hE ⊢
  have hgX := obx_of (show X.cell? ⟨p, 0, none⟩ = some (.bool (nz (r2.e))) from by rw [← hX]; (repeat rw [cell_sc, if_neg (by intro e; injection e; omega)]); exact hg1)
  obtain ⟨hOc, hOf, hOz⟩ := hewEnd hO
  clear hO
  have hlu : w.heap.size < X.heap.size ∧ w.heap.size + 1 < X.heap.size ∧ w.heap.size + 1 + 1 < X.heap.size ∧ p < X.heap.size := (by refine ⟨?_, ?_, ?_, ?_⟩ <;> omega)
  have q1 : sz1 r0 = r1 := hr1
  have q2 : sz2 r0 = r2 := by unfold sz2; rw [q1]; exact hr2
  go_wp2_with fail
  all_goals
    (try simp only [nz_true, nz_false] at *)
    refine bodyPost_ret (v := .tuple #[.agg #[.int .i64 (doI E (nrmV d)).lo, .int .i64 (doI E (nrmV d)).hi], .agg #[.int .i64 (sz2 (doI E (nrmV d))).lo, .int .i64 (sz2 (doI E (nrmV d))).hi]]) ?_ rfl ⟨rfl, ?_⟩
    · (try simp only [bne_iff_ne, ne_eq, bne_eq_false_iff_eq, beq_iff_eq, beq_eq_false_iff_ne] at *)
      simp [results, Try.results84, go_sem, ↓IntWalk.iteOmega, nz, *]
    · refine ExtP.fin ?_ ?_ hp
      · (repeat (first | with_reducible assumption | with_reducible refine ExtP.set ?_ | (with_reducible refine ExtP.store ?_ ?_; rotate_left; (focus ((try simp only [World.size_alloc, World.size_setCell]); omega))) | with_reducible refine ExtP.ext ?_ ((Ext.refl _).alloc _) | with_reducible refine ExtP.ext ?_ ((Ext.refl _).drew) | with_reducible assumption | with_reducible exact ExtP.of _ _ (Ext.refl w) | with_reducible refine ExtP.ext ?_ (by with_reducible assumption)))
      · (try simp only [bne_iff_ne, ne_eq, bne_eq_false_iff_eq, beq_iff_eq, beq_eq_false_iff_ne] at *)
        simp [go_sem, ↓IntWalk.iteOmega, nz, *]

end Go.Proofs.Ytomgcjeahkmhiaa
