/- The reference: numbers divided. -/
import Derived.Test.YtcalonhphknbbaaJ26
import Derived.Test.YtcalonhphknbbaaJ22
import Derived.Test.YtcalonhphknbbaaJ06
set_option linter.unusedSimpArgs false
set_option linter.unusedVariables false
namespace Go.Proofs.Ytcalonhphknbbaa
open Go.RowKit

set_option maxRecDepth 100000 in
set_option maxHeartbeats 4000000 in
theorem r_DivMod (va vb : Value) (m k : Nat) (w : World) (ha : Nn w va m) (hb0 : Nn w vb k) (hs : Small m) (hk0 : 0 < k) (hs2 : Small k) :
    Calls Try.prog 67 #[va, vb] w fun e w' => ∃ u v, e = .returned (.tuple #[u, v, .int .i64 0]) ∧ Nn w' u (m / k) ∧ Nn w' v (m % k) ∧ Ext w w' := by
  obtain ⟨u, rfl, hu⟩ := ha
  obtain ⟨s, rfl, hv⟩ := hb0
  obtain ⟨ao, b1, o1, cap1, rfl, -⟩ := hu.view
  obtain ⟨bo, b2, o2, cap2, rfl, -⟩ := hv.view
  have hbo := fun w1 (k1 : Ext w w1) => r_both (.agg #[.bool false, .slice ao (dig m).length cap1]) (.agg #[.bool false, .slice bo (dig k).length cap2]) m k w1 ⟨_, rfl, hu.ext k1⟩ ⟨_, rfl, hv.ext k1⟩ hs hs2
  have hl1 := dig_pos.2 hk0
  have z0 : (((dig k).length : Int) == 0) = false := by simp; intro e; rw [e] at hl1; simp at hl1
  have hdv := fun w1 (k1 : Ext w w1) => r_over _ _ (dig m) (dig k) w1 (hu.ext k1) (hv.ext k1) (dig_nz m) (dig_nz k) (by unfold Small at hs; omega) hl1
  have hmk : m / k ≤ m := Nat.div_le_self _ _
  have hrk : m % k < k := Nat.mod_lt _ hk0
  have hsq : (dig (m / k)).length ≤ 4096 := Nat.le_trans (dig_mono hmk) hs
  have hsr : (dig (m % k)).length ≤ 4096 := Nat.le_trans (dig_mono (Nat.le_of_lt hrk)) hs2
  clear hl1
  go_enter Try.func67, Try.ntmps67
  go_upto_region 6 with (first
    | (go_at_call 40; (with_reducible refine (hbo _ (by repeat (first | with_reducible exact Ext.refl _ | with_reducible assumption | with_reducible refine Ext.alloc ?_ _ | with_reducible refine Ext.setCell ?_ (by (try simp only [World.size_alloc, World.size_setCell]); omega) _ | with_reducible refine Ext.drewN ?_ _ | with_reducible refine Ext.drew ?_ | with_reducible refine Ext.trans ?_ (by with_reducible assumption)))).mono ?_); rintro e w1 ⟨rfl, hb1⟩; obtain ⟨_, _, hc1, hf1⟩ := hb1.cells2; have hz1 := hb1.size; (try simp only [World.size_alloc, World.size_setCell] at hz1 hc1 hf1); clear hbo)
    | (go_at_call 41; (with_reducible refine (hdv _ (by repeat (first | with_reducible exact Ext.refl _ | with_reducible assumption | with_reducible refine Ext.alloc ?_ _ | with_reducible refine Ext.setCell ?_ (by (try simp only [World.size_alloc, World.size_setCell]); omega) _ | with_reducible refine Ext.drewN ?_ _ | with_reducible refine Ext.drew ?_ | with_reducible refine Ext.trans ?_ (by with_reducible assumption)))).mono ?_); rintro e w2 ⟨y14, y15, qs, rs, rfl, hq, hr, nq, nr, hval, hlt, hb2⟩; obtain ⟨ao6, b6, o6, cap6, rfl, -⟩ := hr.view; obtain ⟨ao5, b5, o5, cap5, rfl, -⟩ := hq.view; obtain ⟨_, _, hc2, hf2⟩ := hb2.cells2; have hz2 := hb2.size; (try simp only [World.size_alloc, World.size_setCell] at hz2 hc2 hf2); clear hdv))
  obtain ⟨eq, er⟩ := div_dig hq.lb hr.lb nq nr hval hlt
  subst eq
  subst er
  clear hval hlt nq nr
  go_upto_region 8 with (first
    | (go_at_call 42; (with_reducible refine (r_madeN _ (dig (m / k)) (m / k) _ hq (dig_val _) hsq).mono ?_); rintro e w3 ⟨y16, rfl, hq3, hb3⟩; obtain ⟨ao7, b7, o7, cap7, rfl, -⟩ := hq3.view; obtain ⟨_, _, hc3, hf3⟩ := hb3.cells2; have hz3 := hb3.size; (try simp only [World.size_alloc, World.size_setCell] at hz3 hc3 hf3); have hAx3 : Ext ((((w.alloc (.cells #[.bool false, .slice ao (dig m).length cap1] 25)).alloc (.cells #[.bool false, .slice bo (dig k).length cap2] 25)).alloc (.cells #[.bool false, .slice none 0 0] 25)).alloc (.cells #[.bool false, .slice none 0 0] 25)) w3 := (by repeat (first | with_reducible exact Ext.refl _ | with_reducible assumption | with_reducible refine Ext.alloc ?_ _ | with_reducible refine Ext.setCell ?_ (by (try simp only [World.size_alloc, World.size_setCell]); omega) _ | with_reducible refine Ext.drewN ?_ _ | with_reducible refine Ext.drew ?_ | with_reducible refine Ext.trans ?_ (by with_reducible assumption))); replace hr := hr.ext hb3; clear hq)
    | (go_at_call 42; (with_reducible refine (r_madeN _ (dig (m % k)) (m % k) _ (hr.alloc _) (dig_val _) hsr).mono ?_); rintro e w4 ⟨y17, rfl, hr4, hb4⟩; obtain ⟨ao8, b8, o8, cap8, rfl, -⟩ := hr4.view; obtain ⟨_, _, hc4, hf4⟩ := hb4.cells2; have hz4 := hb4.size; (try simp only [World.size_alloc, World.size_setCell] at hz4 hc4 hf4); clear hr))
  by_cases hr0 : 0 < (dig (m % k)).length
  · skip
    go_upto_region 13 with fail
    refine wp_name fun W hW => ?_
    have hWE : Ext w W := Ext.same hW (by repeat (first | with_reducible exact Ext.refl _ | with_reducible assumption | with_reducible refine Ext.alloc ?_ _ | with_reducible refine Ext.setCell ?_ (by (try simp only [World.size_alloc, World.size_setCell]); omega) _ | with_reducible refine Ext.drewN ?_ _ | with_reducible refine Ext.drew ?_ | with_reducible refine Ext.trans ?_ (by with_reducible assumption)))
    have hA0 : Ext ((((w.alloc (.cells #[.bool false, .slice ao (dig m).length cap1] 25)).alloc (.cells #[.bool false, .slice bo (dig k).length cap2] 25)).alloc (.cells #[.bool false, .slice none 0 0] 25)).alloc (.cells #[.bool false, .slice none 0 0] 25)) W := Ext.same hW (by repeat (first | with_reducible exact Ext.refl _ | with_reducible assumption | with_reducible refine Ext.alloc ?_ _ | with_reducible refine Ext.setCell ?_ (by (try simp only [World.size_alloc, World.size_setCell]); omega) _ | with_reducible refine Ext.drewN ?_ _ | with_reducible refine Ext.drew ?_ | with_reducible refine Ext.trans ?_ (by with_reducible assumption)))
    have hE3 : Ext w3 W := Ext.same hW (by repeat (first | with_reducible exact Ext.refl _ | with_reducible assumption | with_reducible refine Ext.alloc ?_ _ | with_reducible refine Ext.setCell ?_ (by (try simp only [World.size_alloc, World.size_setCell]); omega) _ | with_reducible refine Ext.drewN ?_ _ | with_reducible refine Ext.drew ?_ | with_reducible refine Ext.trans ?_ (by with_reducible assumption)))
    have hE4 : Ext w4 W := Ext.same hW (by repeat (first | with_reducible exact Ext.refl _ | with_reducible assumption | with_reducible refine Ext.alloc ?_ _ | with_reducible refine Ext.setCell ?_ (by (try simp only [World.size_alloc, World.size_setCell]); omega) _ | with_reducible refine Ext.drewN ?_ _ | with_reducible refine Ext.drew ?_ | with_reducible refine Ext.trans ?_ (by with_reducible assumption)))
    have e9 : Ext (w3.alloc (.cells #[.bool false, .slice ao7 (dig (m / k)).length cap7] 25)) W := Ext.same hW (by repeat (first | with_reducible exact Ext.refl _ | with_reducible assumption | with_reducible refine Ext.alloc ?_ _ | with_reducible refine Ext.setCell ?_ (by (try simp only [World.size_alloc, World.size_setCell]); omega) _ | with_reducible refine Ext.drewN ?_ _ | with_reducible refine Ext.drew ?_ | with_reducible refine Ext.trans ?_ (by with_reducible assumption)))
    have hz9 := e9.size
    simp only [World.size_alloc] at hz9
    have d0 : W.cell? ⟨w3.heap.size, 0, none⟩ = some (.bool false) := (e9.cells.1 _ 0 (by simp)).trans (by simp [go_sem])
    have d1 : W.cell? ⟨w3.heap.size, 1, none⟩ = some (.slice ao7 (dig (m / k)).length cap7) := (e9.cells.1 _ 1 (by simp)).trans (by simp [go_sem])
    have d2 : W.cell? ⟨w4.heap.size, 0, none⟩ = some (.bool false) := by rw [hW.cells.1]; simp [go_sem]
    have d3 : W.cell? ⟨w4.heap.size, 1, none⟩ = some (.slice ao8 (dig (m % k)).length cap8) := by rw [hW.cells.1]; simp [go_sem]
    have hzW : W.heap.size = w4.heap.size + 1 := by rw [hW.cells.2.2]; simp
    have hzA := hA0.size
    simp only [World.size_alloc] at hzA
    have hz3 : w.heap.size + 1 + 1 + 1 < w3.heap.size := by have := hAx3.size; simp only [World.size_alloc] at this; omega
    have hz4 : w3.heap.size < w4.heap.size := by have := hb4.size; simp only [World.size_alloc] at this; omega
    have p0 : W.cell? ⟨w.heap.size + 1 + 1, 0, none⟩ = some (.bool false) := (hA0.cells.1 _ 0 (by first | (simp; done) | (simp; omega))).trans (by simp [go_sem, ↓IntWalk.iteOmega])
    have p1 : W.cell? ⟨w.heap.size + 1 + 1, 1, none⟩ = some (.slice none 0 0) := (hA0.cells.1 _ 1 (by first | (simp; done) | (simp; omega))).trans (by simp [go_sem, ↓IntWalk.iteOmega])
    have p2 : W.cell? ⟨w.heap.size + 1 + 1 + 1, 0, none⟩ = some (.bool false) := (hA0.cells.1 _ 0 (by simp)).trans (by simp [go_sem, ↓IntWalk.iteOmega])
    have p3 : W.cell? ⟨w.heap.size + 1 + 1 + 1, 1, none⟩ = some (.slice none 0 0) := (hA0.cells.1 _ 1 (by simp)).trans (by simp [go_sem, ↓IntWalk.iteOmega])
    have p4 : W.frozen? ⟨w.heap.size + 1 + 1, 0, none⟩ = false := (hA0.cells.2 _ 0 (by first | (simp; done) | (simp; omega))).trans (by simp [go_sem, ↓IntWalk.iteOmega])
    have p5 : W.frozen? ⟨w.heap.size + 1 + 1, 1, none⟩ = false := (hA0.cells.2 _ 1 (by first | (simp; done) | (simp; omega))).trans (by simp [go_sem, ↓IntWalk.iteOmega])
    have p6 : W.frozen? ⟨w.heap.size + 1 + 1 + 1, 0, none⟩ = false := (hA0.cells.2 _ 0 (by simp)).trans (by simp [go_sem, ↓IntWalk.iteOmega])
    have p7 : W.frozen? ⟨w.heap.size + 1 + 1 + 1, 1, none⟩ = false := (hA0.cells.2 _ 1 (by simp)).trans (by simp [go_sem, ↓IntWalk.iteOmega])
    have hnu : NoU W (w.heap.size + 1 + 1) := by
      have := ((NoU.new ((w.alloc (.cells #[.bool false, .slice ao (dig m).length cap1] 25)).alloc (.cells #[.bool false, .slice bo (dig k).length cap2] 25)) #[.bool false, .slice none 0 0] 25 (noU2 (by simp) (by simp))).alloc (by simp) #[.bool false, .slice none 0 0] 25).ext (by simp) hA0
      simpa using this
    have hnv : NoU W (w.heap.size + 1 + 1 + 1) := by
      have := (NoU.new (((w.alloc (.cells #[.bool false, .slice ao (dig m).length cap1] 25)).alloc (.cells #[.bool false, .slice bo (dig k).length cap2] 25)).alloc (.cells #[.bool false, .slice none 0 0] 25)) #[.bool false, .slice none 0 0] 25 (noU2 (by simp) (by simp))).ext (by simp) hA0
      simpa using this
    have hq6 := hq3.ext hE3
    have hr6 := hr4.ext hE4
    clear hW hA0 e9 hE3 hE4 hAx3
    go_region
    all_goals
      go_wp2_with fail
      refine bodyPost_ret (v := .tuple #[.agg #[.bool false, .slice ao7 (dig (m / k)).length cap7], .agg #[.bool false, .slice ao8 (dig (m % k)).length cap8], .int .i64 0]) ?_ rfl ⟨_, _, rfl, ⟨_, rfl, ?_⟩, ⟨_, rfl, ?_⟩, ?_⟩
      · simp [results, Try.results67, go_sem, ↓IntWalk.iteOmega, p0, p1, p2, p3, d0, d1, d2, d3]
      · refine Lim.ext ?_ ((Ext.refl _).drew)
        refine Lim.box (Lim.box (Lim.box (Lim.box hq6 ?_) ?_) ?_) ?_ <;> (repeat (first | with_reducible exact hnu | with_reducible exact hnv | with_reducible refine NoU.set ?_ (fun z e => by cases e)))
      · refine Lim.ext ?_ ((Ext.refl _).drew)
        refine Lim.box (Lim.box (Lim.box (Lim.box hr6 ?_) ?_) ?_) ?_ <;> (repeat (first | with_reducible exact hnu | with_reducible exact hnv | with_reducible refine NoU.set ?_ (fun z e => by cases e)))
      · repeat (first | with_reducible exact Ext.refl _ | with_reducible assumption | with_reducible refine Ext.alloc ?_ _ | with_reducible refine Ext.setCell ?_ (by (try simp only [World.size_alloc, World.size_setCell]); omega) _ | with_reducible refine Ext.drewN ?_ _ | with_reducible refine Ext.drew ?_ | with_reducible refine Ext.trans ?_ (by with_reducible assumption))
  · skip
    go_upto_region 13 with fail
    refine wp_name fun W hW => ?_
    have hWE : Ext w W := Ext.same hW (by repeat (first | with_reducible exact Ext.refl _ | with_reducible assumption | with_reducible refine Ext.alloc ?_ _ | with_reducible refine Ext.setCell ?_ (by (try simp only [World.size_alloc, World.size_setCell]); omega) _ | with_reducible refine Ext.drewN ?_ _ | with_reducible refine Ext.drew ?_ | with_reducible refine Ext.trans ?_ (by with_reducible assumption)))
    have hA0 : Ext ((((w.alloc (.cells #[.bool false, .slice ao (dig m).length cap1] 25)).alloc (.cells #[.bool false, .slice bo (dig k).length cap2] 25)).alloc (.cells #[.bool false, .slice none 0 0] 25)).alloc (.cells #[.bool false, .slice none 0 0] 25)) W := Ext.same hW (by repeat (first | with_reducible exact Ext.refl _ | with_reducible assumption | with_reducible refine Ext.alloc ?_ _ | with_reducible refine Ext.setCell ?_ (by (try simp only [World.size_alloc, World.size_setCell]); omega) _ | with_reducible refine Ext.drewN ?_ _ | with_reducible refine Ext.drew ?_ | with_reducible refine Ext.trans ?_ (by with_reducible assumption)))
    have hE3 : Ext w3 W := Ext.same hW (by repeat (first | with_reducible exact Ext.refl _ | with_reducible assumption | with_reducible refine Ext.alloc ?_ _ | with_reducible refine Ext.setCell ?_ (by (try simp only [World.size_alloc, World.size_setCell]); omega) _ | with_reducible refine Ext.drewN ?_ _ | with_reducible refine Ext.drew ?_ | with_reducible refine Ext.trans ?_ (by with_reducible assumption)))
    have hE4 : Ext w4 W := Ext.same hW (by repeat (first | with_reducible exact Ext.refl _ | with_reducible assumption | with_reducible refine Ext.alloc ?_ _ | with_reducible refine Ext.setCell ?_ (by (try simp only [World.size_alloc, World.size_setCell]); omega) _ | with_reducible refine Ext.drewN ?_ _ | with_reducible refine Ext.drew ?_ | with_reducible refine Ext.trans ?_ (by with_reducible assumption)))
    have e9 : Ext (w3.alloc (.cells #[.bool false, .slice ao7 (dig (m / k)).length cap7] 25)) W := Ext.same hW (by repeat (first | with_reducible exact Ext.refl _ | with_reducible assumption | with_reducible refine Ext.alloc ?_ _ | with_reducible refine Ext.setCell ?_ (by (try simp only [World.size_alloc, World.size_setCell]); omega) _ | with_reducible refine Ext.drewN ?_ _ | with_reducible refine Ext.drew ?_ | with_reducible refine Ext.trans ?_ (by with_reducible assumption)))
    have hz9 := e9.size
    simp only [World.size_alloc] at hz9
    have d0 : W.cell? ⟨w3.heap.size, 0, none⟩ = some (.bool false) := (e9.cells.1 _ 0 (by simp)).trans (by simp [go_sem])
    have d1 : W.cell? ⟨w3.heap.size, 1, none⟩ = some (.slice ao7 (dig (m / k)).length cap7) := (e9.cells.1 _ 1 (by simp)).trans (by simp [go_sem])
    have d2 : W.cell? ⟨w4.heap.size, 0, none⟩ = some (.bool false) := by rw [hW.cells.1]; simp [go_sem]
    have d3 : W.cell? ⟨w4.heap.size, 1, none⟩ = some (.slice ao8 (dig (m % k)).length cap8) := by rw [hW.cells.1]; simp [go_sem]
    have hzW : W.heap.size = w4.heap.size + 1 := by rw [hW.cells.2.2]; simp
    have hzA := hA0.size
    simp only [World.size_alloc] at hzA
    have hz3 : w.heap.size + 1 + 1 + 1 < w3.heap.size := by have := hAx3.size; simp only [World.size_alloc] at this; omega
    have hz4 : w3.heap.size < w4.heap.size := by have := hb4.size; simp only [World.size_alloc] at this; omega
    have p0 : W.cell? ⟨w.heap.size + 1 + 1, 0, none⟩ = some (.bool false) := (hA0.cells.1 _ 0 (by first | (simp; done) | (simp; omega))).trans (by simp [go_sem, ↓IntWalk.iteOmega])
    have p1 : W.cell? ⟨w.heap.size + 1 + 1, 1, none⟩ = some (.slice none 0 0) := (hA0.cells.1 _ 1 (by first | (simp; done) | (simp; omega))).trans (by simp [go_sem, ↓IntWalk.iteOmega])
    have p2 : W.cell? ⟨w.heap.size + 1 + 1 + 1, 0, none⟩ = some (.bool false) := (hA0.cells.1 _ 0 (by simp)).trans (by simp [go_sem, ↓IntWalk.iteOmega])
    have p3 : W.cell? ⟨w.heap.size + 1 + 1 + 1, 1, none⟩ = some (.slice none 0 0) := (hA0.cells.1 _ 1 (by simp)).trans (by simp [go_sem, ↓IntWalk.iteOmega])
    have p4 : W.frozen? ⟨w.heap.size + 1 + 1, 0, none⟩ = false := (hA0.cells.2 _ 0 (by first | (simp; done) | (simp; omega))).trans (by simp [go_sem, ↓IntWalk.iteOmega])
    have p5 : W.frozen? ⟨w.heap.size + 1 + 1, 1, none⟩ = false := (hA0.cells.2 _ 1 (by first | (simp; done) | (simp; omega))).trans (by simp [go_sem, ↓IntWalk.iteOmega])
    have p6 : W.frozen? ⟨w.heap.size + 1 + 1 + 1, 0, none⟩ = false := (hA0.cells.2 _ 0 (by simp)).trans (by simp [go_sem, ↓IntWalk.iteOmega])
    have p7 : W.frozen? ⟨w.heap.size + 1 + 1 + 1, 1, none⟩ = false := (hA0.cells.2 _ 1 (by simp)).trans (by simp [go_sem, ↓IntWalk.iteOmega])
    have hnu : NoU W (w.heap.size + 1 + 1) := by
      have := ((NoU.new ((w.alloc (.cells #[.bool false, .slice ao (dig m).length cap1] 25)).alloc (.cells #[.bool false, .slice bo (dig k).length cap2] 25)) #[.bool false, .slice none 0 0] 25 (noU2 (by simp) (by simp))).alloc (by simp) #[.bool false, .slice none 0 0] 25).ext (by simp) hA0
      simpa using this
    have hnv : NoU W (w.heap.size + 1 + 1 + 1) := by
      have := (NoU.new (((w.alloc (.cells #[.bool false, .slice ao (dig m).length cap1] 25)).alloc (.cells #[.bool false, .slice bo (dig k).length cap2] 25)).alloc (.cells #[.bool false, .slice none 0 0] 25)) #[.bool false, .slice none 0 0] 25 (noU2 (by simp) (by simp))).ext (by simp) hA0
      simpa using this
    have hq6 := hq3.ext hE3
    have hr6 := hr4.ext hE4
    clear hW hA0 e9 hE3 hE4 hAx3
    go_region
    all_goals
      go_wp2_with fail
      refine bodyPost_ret (v := .tuple #[.agg #[.bool false, .slice ao7 (dig (m / k)).length cap7], .agg #[.bool false, .slice ao8 (dig (m % k)).length cap8], .int .i64 0]) ?_ rfl ⟨_, _, rfl, ⟨_, rfl, ?_⟩, ⟨_, rfl, ?_⟩, ?_⟩
      · simp [results, Try.results67, go_sem, ↓IntWalk.iteOmega, p0, p1, p2, p3, d0, d1, d2, d3]
      · refine Lim.ext ?_ ((Ext.refl _).drew)
        refine Lim.box (Lim.box (Lim.box (Lim.box hq6 ?_) ?_) ?_) ?_ <;> (repeat (first | with_reducible exact hnu | with_reducible exact hnv | with_reducible refine NoU.set ?_ (fun z e => by cases e)))
      · refine Lim.ext ?_ ((Ext.refl _).drew)
        refine Lim.box (Lim.box (Lim.box (Lim.box hr6 ?_) ?_) ?_) ?_ <;> (repeat (first | with_reducible exact hnu | with_reducible exact hnv | with_reducible refine NoU.set ?_ (fun z e => by cases e)))
      · repeat (first | with_reducible exact Ext.refl _ | with_reducible assumption | with_reducible refine Ext.alloc ?_ _ | with_reducible refine Ext.setCell ?_ (by (try simp only [World.size_alloc, World.size_setCell]); omega) _ | with_reducible refine Ext.drewN ?_ _ | with_reducible refine Ext.drew ?_ | with_reducible refine Ext.trans ?_ (by with_reducible assumption))

end Go.Proofs.Ytcalonhphknbbaa

/- The reference: numbers that are the same. -/
namespace Go.Proofs.Ytcalonhphknbbaa
open Go.RowKit

theorem cmp_zero (m k : Nat) : (cmpI m k == 0) = decide (m = k) := by
  unfold cmpI
  by_cases h1 : (m : Int) < k
  · rw [if_pos h1]; simp; omega
  · rw [if_neg h1]
    by_cases h2 : (k : Int) < m
    · rw [if_pos h2]; simp; omega
    · rw [if_neg h2]; simp; omega
set_option maxRecDepth 100000 in
set_option maxHeartbeats 2000000 in
theorem r_Same (va vb : Value) (m k : Nat) (w : World) (ha : Nn w va m) (hb0 : Nn w vb k) :
    Calls Try.prog 24 #[va, vb] w fun e w' => e = .returned (.bool (decide (m = k))) ∧ Ext w w' := by
  have hq := cmp_zero m k
  generalize decide (m = k) = bb at hq ⊢
  obtain ⟨u, rfl, hu⟩ := ha
  obtain ⟨s, rfl, hv⟩ := hb0
  obtain ⟨ao, b1, o1, cap1, rfl, -⟩ := hu.view
  obtain ⟨bo, b2, o2, cap2, rfl, -⟩ := hv.view
  have hcm := fun w1 (k1 : Ext w w1) => r_compare _ _ (dig m) (dig k) w1 (hu.ext k1) (hv.ext k1) (dig_nz m) (dig_nz k)
  rw [dig_val, dig_val] at hcm
  go_enter Try.func24, Try.ntmps24
  go_wp2_with (go_at_call 39; (with_reducible refine (hcm _ (by repeat (first | with_reducible exact Ext.refl _ | with_reducible assumption | with_reducible refine Ext.alloc ?_ _ | with_reducible refine Ext.setCell ?_ (by (try simp only [World.size_alloc, World.size_setCell]); omega) _ | with_reducible refine Ext.drewN ?_ _ | with_reducible refine Ext.drew ?_ | with_reducible refine Ext.trans ?_ (by with_reducible assumption)))).mono ?_); rintro e w2 ⟨rfl, hb2⟩)
  go_ret
  exact ⟨rfl, (by repeat (first | with_reducible exact Ext.refl _ | with_reducible assumption | with_reducible refine Ext.alloc ?_ _ | with_reducible refine Ext.setCell ?_ (by (try simp only [World.size_alloc, World.size_setCell]); omega) _ | with_reducible refine Ext.drewN ?_ _ | with_reducible refine Ext.drew ?_ | with_reducible refine Ext.trans ?_ (by with_reducible assumption)))⟩

end Go.Proofs.Ytcalonhphknbbaa
