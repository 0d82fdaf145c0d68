/- planisphereref03.Scale. -/
import Derived.Test.YtomgcjeahkmhiaaDivP
import Derived.Test.YtomgcjeahkmhiaaSDiv
import Derived.Test.YtomgcjeahkmhiaaRefC
import Derived.Test.YtomgcjeahkmhiaaRefD
import Derived.Test.YtomgcjeahkmhiaaPtr
set_option linter.unusedSimpArgs false
set_option linter.unusedVariables false
namespace Go.Proofs.Ytomgcjeahkmhiaa
open Go.RowKit

def scI (a b n d : Int) : R3 := if ckI a b ≠ 0 then ⟨0, 0, ckI a b⟩ else madeI (dnT (a * n) d) (upT (b * n) d)
theorem scI_Z (a b n d : Int) : (scI a b n d).Z := ifZ (madeI_Z _ _)
theorem scI_W (a b n d : Int) : (scI a b n d).W := ifW (madeI_I64 _ _ (dn_I64 _ _) (up_I64 _ _))
set_option maxRecDepth 100000 in
set_option maxHeartbeats 4000000 in
theorem rsc_p (a b n d : Int) (w : World) (hk : ckI a b = 0) (kn : I64 n) (kn0 : 0 ≤ n) (kd : I64 d) (kd0 : 0 < d) :
    Calls Try.prog 94 #[.agg #[.int .i64 a, .int .i64 b], .int .i64 n, .int .i64 d] w fun e w' => e = .returned (.tuple #[.agg #[.int .i64 (madeI (dnT (a * n) d) (upT (b * n) d)).lo, .int .i64 (madeI (dnT (a * n) d) (upT (b * n) d)).hi], .int .i64 (madeI (dnT (a * n) d) (upT (b * n) d)).e]) ∧ Ext w w' := by
  obtain ⟨ka1, ka2, ka3⟩ := ckI_ok hk
  have hA : I64 a := by unfold I64; omega
  have hB : I64 b := by unfold I64; omega
  have hle : a * n ≤ b * n := Int.mul_le_mul_of_nonneg_right ka1 kn0
  have d63 : d < 9223372036854775808 := kd.2
  have d64 : d < 18446744073709551616 := by omega
  have hlt : decide (b * n < a * n) = false := by simp; omega
  have e1 : absv d = d := by unfold absv; split <;> omega
  have dn0 : decide (d < 0) = false := by simp; omega
  have dz : ¬ d = 0 := by omega
  go_enter Try.func94, Try.ntmps94
  go_upto_region 5 with (first | (go_at_call 26; (with_reducible refine (ref_check _ _ _).mono ?_); rintro e w1 ⟨rfl, hb⟩; obtain ⟨_, _, hc, hf⟩ := hb.cells2; have hz := hb.size; (try simp only [World.size_alloc, World.size_setCell] at hz hc hf)))
  refine wp_name fun V hV => ?_
  obtain ⟨hVc, hVf, hVz⟩ := hV.cells
  have hVe : Ext w V := Ext.same hV (by repeat (first | with_reducible exact Ext.refl _ | with_reducible assumption | with_reducible refine Ext.alloc ?_ _ | with_reducible refine Ext.setCell ?_ (by (try simp only [World.size_alloc, World.size_setCell]); omega) _ | with_reducible refine Ext.drewN ?_ _ | with_reducible refine Ext.drew ?_ | with_reducible refine Ext.trans ?_ (by with_reducible assumption)))
  (try simp only [World.size_alloc, World.size_setCell] at hVz)
  replace hVz := And.intro (Nat.le_of_eq hVz) (Nat.le_of_eq hVz.symm)
  have hlv : w.heap.size < V.heap.size ∧ w.heap.size + 1 < V.heap.size := (by refine ⟨?_, ?_⟩ <;> omega)
  have hd : ¬ w.heap.size = w.heap.size + 1 ∧ ¬ w.heap.size + 1 = w.heap.size := (by refine ⟨?_, ?_⟩ <;> omega)
  have hnv : ¬ w.heap.size = V.heap.size ∧ ¬ w.heap.size + 1 = V.heap.size := (by omega)
  go_cut [8, 9] (fun sx0 sx1 wx => ∃ g h : Nat, sx0 = .pointer (some ⟨g, 0, none⟩) ∧ sx1 = .pointer (some ⟨h, 0, none⟩) ∧ Ext V wx ∧ V.heap.size ≤ g ∧ g < wx.heap.size ∧ (∀ o, wx.frozen? ⟨g, o, none⟩ = false) ∧ V.heap.size ≤ h ∧ h < wx.heap.size ∧ (∀ o, wx.frozen? ⟨h, o, none⟩ = false) ∧ g ≠ h ∧ wx.cell? ⟨g, 0, none⟩ = some (.bool (decide (a * n < 0))) ∧ wx.cell? ⟨g, 1, none⟩ = some (.int .u64 (absv (a * n) / 18446744073709551616)) ∧ wx.cell? ⟨g, 2, none⟩ = some (.int .u64 (absv (a * n) % 18446744073709551616)) ∧ wx.cell? ⟨h, 0, none⟩ = some (.bool (decide (b * n < 0))) ∧ wx.cell? ⟨h, 1, none⟩ = some (.int .u64 (absv (b * n) / 18446744073709551616)) ∧ wx.cell? ⟨h, 2, none⟩ = some (.int .u64 (absv (b * n) % 18446744073709551616)))
  case first =>
    have hWe : Ext V V := Ext.refl V
    go_region_held3 (fun w' => (∀ b o, b < V.heap.size → w'.cell? ⟨b, o, none⟩ = if b = V.heap.size ∧ 0 ≤ o ∧ o < 0 then (V.cell? ⟨b, o, none⟩).map (obx w' b o) else V.cell? ⟨b, o, none⟩) ∧ (∀ b o, b < V.heap.size → w'.frozen? ⟨b, o, none⟩ = V.frozen? ⟨b, o, none⟩) ∧ V.heap.size ≤ w'.heap.size ∧ Ext V w') (first | ((with_reducible refine held5 (by with_reducible assumption) ?_ ?_) <;> ((try simp only [size_drew]); omega)) | ((with_reducible refine held4 (by with_reducible assumption) ?_ ?_) <;> ((try simp only [World.size_alloc, World.size_setCell, size_drew]); omega)) | (with_reducible exact held3d (by with_reducible assumption)) | (with_reducible exact held0 hWe) | (with_reducible exact held1 (by with_reducible assumption) (by with_reducible assumption)) | (with_reducible exact held3 (by with_reducible assumption)) | ((with_reducible refine held4 (by with_reducible assumption) ?_ ?_) <;> omega) | ((with_reducible refine held3 ?_); (repeat (with_reducible refine held2 ?_ (by first | (refine Or.inl ⟨?_, ?_, ?_⟩ <;> (first | rfl | (dsimp only; omega))) | (refine Or.inr ?_; (try dsimp only); (try simp only [World.size_alloc, World.size_setCell]); omega)) (by (try dsimp only); (try simp only [World.size_alloc, World.size_setCell]); omega))); ((with_reducible refine heldDrop (by with_reducible assumption) ?_ ?_) <;> ((try simp only [size_drew]); omega))) | (repeat (first | (with_reducible assumption) | (with_reducible refine held2 ?_ (by first | (refine Or.inl ⟨?_, ?_, ?_⟩ <;> (first | rfl | (dsimp only; omega))) | (refine Or.inr ?_; (try dsimp only); (try simp only [World.size_alloc, World.size_setCell]); omega)) (by (try dsimp only); (try simp only [World.size_alloc, World.size_setCell]); omega))))) ((first | (go_at_call 129; (with_reducible refine (ref_times a n _ hA kn).mono ?_); rintro e w2 ⟨rfl, hb0⟩; obtain ⟨hq0, hr0⟩ := hb0.cells; have hz0 := hb0.size; (try simp only [size_drew, World.size_alloc, World.size_setCell] at hz0 hq0 hr0); (try have hly0 : V.heap.size < w2.heap.size := by omega); (try have hly1 : V.heap.size + 1 < w2.heap.size := by omega)) | (go_at_call 129; (with_reducible refine (ref_times b n _ hB kn).mono ?_); rintro e w3 ⟨rfl, hb1⟩; obtain ⟨hq1, hr1⟩ := hb1.cells; have hz1 := hb1.size; (try simp only [size_drew, World.size_alloc, World.size_setCell] at hz1 hq1 hr1); (try have hly0 : V.heap.size < w3.heap.size := by omega); (try have hly1 : V.heap.size + 1 < w3.heap.size := by omega); (try have hly2 : w2.heap.size < w3.heap.size := by omega); (try have hly3 : w2.heap.size + 1 < w3.heap.size := by omega))))
    all_goals
      rename_i hOld
      clear hOld
      go_wp2_with fail
      go_meet
      refine ⟨_, _, rfl, rfl, ?_, ?_, ?_, ?_, ?_, ?_, ?_, ?_, ?_, ?_, ?_, ?_, ?_, ?_⟩
      · (repeat (first | with_reducible exact Ext.refl _ | with_reducible exact Ext.same hV (Ext.refl _) | with_reducible assumption | with_reducible refine Ext.alloc ?_ _ | (with_reducible refine Ext.setCell ?_ ?_ _; rotate_left; (focus ((try simp only [World.size_alloc, World.size_setCell]); omega))) | with_reducible refine Ext.drew ?_ | with_reducible refine Ext.trans ?_ (by with_reducible assumption)))
      all_goals first | ((try simp only [World.size_alloc, World.size_setCell]); omega) | (intro o; simp [go_sem, ↓IntWalk.iteOmega, *]; done) | (simp [go_sem, ↓IntWalk.iteOmega, *]; done)
  case rest =>
    obtain ⟨g, h, rfl, rfl, hx, hg01, hg02, hgf0, hg11, hg12, hgf1, hgh, hv00, hv01, hv02, hv10, hv11, hv12⟩ := hcut
    obtain ⟨_, _, hcc, hcf⟩ := hx.cells2
    have hcz := hx.size
    replace hVe := hVe.trans hx
    have hlv2 : w.heap.size < wc.heap.size ∧ w.heap.size + 1 < wc.heap.size := (by omega)
    have hlg : w.heap.size < g ∧ ¬ w.heap.size = g ∧ ¬ g = w.heap.size ∧ w.heap.size < h ∧ ¬ w.heap.size = h ∧ ¬ h = w.heap.size ∧ w.heap.size + 1 < g ∧ ¬ w.heap.size + 1 = g ∧ ¬ g = w.heap.size + 1 ∧ w.heap.size + 1 < h ∧ ¬ w.heap.size + 1 = h ∧ ¬ h = w.heap.size + 1 := (by omega)
    clear hx
    go_wp2_with (first | (go_at_call 130; (with_reducible refine (ref_less _ _ _).mono ?_); simp only [hlt]; rintro e w1 ⟨rfl, hb⟩; obtain ⟨_, _, hc, hf⟩ := hb.cells2; have hz := hb.size; (try simp only [World.size_alloc, World.size_setCell] at hz hc hf); (try have zz : w.heap.size < w1.heap.size ∧ (∀ j, w.heap.size < w1.heap.size + j) ∧ (¬ w.heap.size = w1.heap.size) ∧ (∀ j, ¬ w.heap.size = w1.heap.size + j) ∧ (¬ w1.heap.size = w.heap.size) ∧ (∀ j, ¬ w1.heap.size + j = w.heap.size) := (by refine ⟨?_, fun j => ?_, ?_, fun j => ?_, ?_, fun j => ?_⟩ <;> omega)); (try have zz : w.heap.size + 1 < w1.heap.size ∧ (∀ j, w.heap.size + 1 < w1.heap.size + j) ∧ (¬ w.heap.size + 1 = w1.heap.size) ∧ (∀ j, ¬ w.heap.size + 1 = w1.heap.size + j) ∧ (¬ w1.heap.size = w.heap.size + 1) ∧ (∀ j, ¬ w1.heap.size + j = w.heap.size + 1) := (by refine ⟨?_, fun j => ?_, ?_, fun j => ?_, ?_, fun j => ?_⟩ <;> omega))))
    refine wp_name fun W hW => ?_
    obtain ⟨hWc, hWf, hWz⟩ := hW.cells
    have hWe : Ext w W := Ext.same hW (by repeat (first | with_reducible exact Ext.refl _ | with_reducible assumption | with_reducible refine Ext.alloc ?_ _ | with_reducible refine Ext.setCell ?_ (by (try simp only [World.size_alloc, World.size_setCell]); omega) _ | with_reducible refine Ext.drewN ?_ _ | with_reducible refine Ext.drew ?_ | with_reducible refine Ext.trans ?_ (by with_reducible assumption)))
    (try simp only [World.size_alloc, World.size_setCell] at hWz)
    (try simp only [size_drew, size_drewN, World.size_alloc, World.size_setCell] at hWz)
    replace hWz := And.intro (Nat.le_of_eq hWz) (Nat.le_of_eq hWz.symm)
    have hlt : w.heap.size < W.heap.size ∧ w.heap.size + 1 < W.heap.size ∧ g < W.heap.size ∧ h < W.heap.size := (by refine ⟨?_, ?_, ?_, ?_⟩ <;> omega)
    have hd : ¬ w.heap.size = w.heap.size + 1 ∧ ¬ w.heap.size = g ∧ ¬ w.heap.size = h ∧ ¬ w.heap.size + 1 = w.heap.size ∧ ¬ w.heap.size + 1 = g ∧ ¬ w.heap.size + 1 = h ∧ ¬ g = w.heap.size ∧ ¬ g = w.heap.size + 1 ∧ ¬ g = h ∧ ¬ h = w.heap.size ∧ ¬ h = w.heap.size + 1 ∧ ¬ h = g := (by refine ⟨?_, ?_, ?_, ?_, ?_, ?_, ?_, ?_, ?_, ?_, ?_, ?_⟩ <;> omega)
    go_region_held3 (fun w' => (∀ b o, b < W.heap.size → w'.cell? ⟨b, o, none⟩ = if b = w.heap.size + 1 ∧ 0 ≤ o ∧ o < 2 then (W.cell? ⟨b, o, none⟩).map (obx w' b o) else W.cell? ⟨b, o, none⟩) ∧ (∀ b o, b < W.heap.size → w'.frozen? ⟨b, o, none⟩ = W.frozen? ⟨b, o, none⟩) ∧ W.heap.size ≤ w'.heap.size ∧ Ext w w') (first | (with_reducible exact held0 hWe) | (with_reducible exact held1 (by with_reducible assumption) (by with_reducible assumption)) | (with_reducible exact held3 (by with_reducible assumption)) | ((with_reducible refine held4 (by with_reducible assumption) ?_ ?_) <;> omega) | (repeat (first | (with_reducible assumption) | (with_reducible refine held2 ?_ (by first | (refine Or.inl ⟨?_, ?_, ?_⟩ <;> (first | rfl | (dsimp only; omega))) | (refine Or.inr ?_; (try dsimp only); (try simp only [World.size_alloc, World.size_setCell]); omega)) (by (try dsimp only); (try simp only [World.size_alloc, World.size_setCell]); omega))))) ((first | (go_at_call 132; (with_reducible refine (ref_size d _ kd).mono ?_); simp only [e1]; rintro e w2 ⟨rfl, hb2⟩; have hz2 := hb2.size; (try rw [size_drew] at hz2)) | (go_at_call 123; (with_reducible refine (ref_over _ _ _ _ (abs_mul_bound hA kn).1 (abs_mul_bound hA kn).2 kd0 d64).mono ?_); rintro e w2 ⟨rfl, hb2⟩; have hz2 := hb2.size; (try rw [size_drew] at hz2)) | (go_at_call 123; (with_reducible refine (ref_over _ _ _ _ (abs_mul_bound hB kn).1 (abs_mul_bound hB kn).2 kd0 d64).mono ?_); rintro e w2 ⟨rfl, hb2⟩; have hz2 := hb2.size; (try rw [size_drew] at hz2)) | (go_at_call 117; (with_reducible refine (ref_made _ _ _).mono ?_); rintro e w2 ⟨rfl, hb2⟩; have hz2 := hb2.size; (try rw [size_drew] at hz2))))
    all_goals
      rename_i hOld
      have hE := hOld.2.2.2
      have hO := And.intro hOld.1 (And.intro hOld.2.1 hOld.2.2.1)
      clear hOld
      replace hO := heldBack hO (by first | (refine Or.inl ⟨?_, ?_, ?_⟩ <;> (first | rfl | (dsimp only; omega))) | (refine Or.inr ?_; (try dsimp only); (try simp only [World.size_alloc, World.size_setCell]); omega))
      replace hO := heldBack hO (by first | (refine Or.inl ⟨?_, ?_, ?_⟩ <;> (first | rfl | (dsimp only; omega))) | (refine Or.inr ?_; (try dsimp only); (try simp only [World.size_alloc, World.size_setCell]); omega))
      obtain ⟨hOc, hOf, hOz⟩ := heldEnd hO
      clear hO
      go_wp2_with fail
      refine bodyPost_ret (v := .tuple #[.agg #[.int .i64 (madeI (dnT (a * n) d) (upT (b * n) d)).lo, .int .i64 (madeI (dnT (a * n) d) (upT (b * n) d)).hi], .int .i64 (madeI (dnT (a * n) d) (upT (b * n) d)).e]) ?_ rfl ⟨rfl, ?_⟩
      · (try simp only [bne_iff_ne, ne_eq, bne_eq_false_iff_eq, beq_iff_eq, beq_eq_false_iff_ne] at *)
        simp [results, Try.results94, go_sem, ↓IntWalk.iteOmega, ovS, *]
      · repeat (first | with_reducible exact Ext.refl _ | with_reducible assumption | with_reducible refine Ext.alloc ?_ _ | with_reducible refine Ext.setCell ?_ (by (try simp only [World.size_alloc, World.size_setCell]); omega) _ | with_reducible refine Ext.drewN ?_ _ | with_reducible refine Ext.drew ?_ | with_reducible refine Ext.trans ?_ (by with_reducible assumption))

set_option maxRecDepth 100000 in
set_option maxHeartbeats 4000000 in
theorem rsc_e (a b n d : Int) (w : World) (hk : ¬ ckI a b = 0) :
    Calls Try.prog 94 #[.agg #[.int .i64 a, .int .i64 b], .int .i64 n, .int .i64 d] w fun e w' => e = .returned (.tuple #[.agg #[.int .i64 (R3.mk 0 0 (ckI a b)).lo, .int .i64 (R3.mk 0 0 (ckI a b)).hi], .int .i64 (R3.mk 0 0 (ckI a b)).e]) ∧ Ext w w' := by
  go_enter Try.func94, Try.ntmps94
  go_wp2_with (first | (go_at_call 26; (with_reducible refine (ref_check _ _ _).mono ?_); rintro e w1 ⟨rfl, hb⟩; obtain ⟨_, _, hc, hf⟩ := hb.cells2; have hz := hb.size; (try simp only [World.size_alloc, World.size_setCell] at hz hc hf)))
  all_goals
    refine bodyPost_ret (v := .tuple #[.agg #[.int .i64 (R3.mk 0 0 (ckI a b)).lo, .int .i64 (R3.mk 0 0 (ckI a b)).hi], .int .i64 (R3.mk 0 0 (ckI a b)).e]) ?_ rfl ⟨rfl, ?_⟩
    · (try simp only [bne_iff_ne, ne_eq, bne_eq_false_iff_eq, beq_iff_eq, beq_eq_false_iff_ne] at *)
      simp [results, Try.results94, go_sem, ↓IntWalk.iteOmega, ne_eq, *]
    · repeat (first | with_reducible exact Ext.refl _ | with_reducible assumption | with_reducible refine Ext.alloc ?_ _ | with_reducible refine Ext.setCell ?_ (by (try simp only [World.size_alloc, World.size_setCell]); omega) _ | with_reducible refine Ext.drewN ?_ _ | with_reducible refine Ext.drew ?_ | with_reducible refine Ext.trans ?_ (by with_reducible assumption))

theorem ref_sc (a b n d : Int) (w : World) (kn : I64 n) (kn0 : 0 ≤ n) (kd : I64 d) (kd0 : 0 < d) :
    Calls Try.prog 94 #[.agg #[.int .i64 a, .int .i64 b], .int .i64 n, .int .i64 d] w fun e w' => e = .returned (.tuple #[.agg #[.int .i64 (scI a b n d).lo, .int .i64 (scI a b n d).hi], .int .i64 (scI a b n d).e]) ∧ Ext w w' := by
  by_cases hk : ckI a b = 0
  · have e : scI a b n d = madeI (dnT (a * n) d) (upT (b * n) d) := by unfold scI; rw [if_neg (by simpa using hk)]
    rw [e]; exact rsc_p a b n d w hk kn kn0 kd kd0
  · have e : scI a b n d = ⟨0, 0, ckI a b⟩ := by unfold scI; rw [if_pos (by simpa using hk)]
    rw [e]; exact rsc_e a b n d w hk

end Go.Proofs.Ytomgcjeahkmhiaa
