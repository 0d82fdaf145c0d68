/- The law of the counts. -/
import Derived.Test.YtcalonhphknbbaaJ44
import Derived.Test.YtcalonhphknbbaaJ34
set_option linter.unusedSimpArgs false
set_option linter.unusedVariables false
namespace Go.Proofs.Ytcalonhphknbbaa
open Go.RowKit

theorem r_fSameT (va vb : Value) (p q : Nat) (w : World) (hf : Fq w va p q) (hg : Fq w vb p q) :
    Calls Try.prog 10 #[va, vb] w fun e w' => e = .returned (.bool true) ∧ Ext w w' := by
  refine (r_fSame va vb p q p q w hf hg).mono ?_
  rintro e w' ⟨h, k⟩
  exact ⟨by rw [h]; simp, k⟩
set_option maxRecDepth 100000 in
set_option maxHeartbeats 4000000 in
theorem law_counts (v : Value) (l : List Int) (w : World) (h : Oc w v l) :
    Calls Try.prog 3 #[v] w fun e w' => e = .returned (.bool true) ∧ Ext w w' := by
  rcases Nat.lt_or_ge 100 l.length with c | c
  · obtain ⟨ao, b, o, cap, rfl, h1, h2, h3, h4, h5, h6⟩ := h
    have d1 : decide ((100 : Int) < (l.length : Int)) = true := decide_eq_true (by omega)
    go_enter Try.func3, Try.ntmps3
    go_wp2_with fail
    go_ret
    exact ⟨rfl, Ext.refl w⟩
  · obtain ⟨E, p, q, r, s, gs, hE08, hgl, H1, H2, H3, H4⟩ := same4 h
    obtain ⟨ao, b, o, cap, rfl, h1, h2, h3, h4, h5, h6⟩ := h
    have d1 : decide ((100 : Int) < (l.length : Int)) = false := decide_eq_false (by omega)
    clear h1 h4 h5 h6 hE08
    go_enter Try.func3, Try.ntmps3
    go_upto_region 4 with (go_at_call 6; (with_reducible refine (H1 _ (Ext.refl _)).mono ?_); rintro e t1 ⟨_, _, rfl, ⟨u1, s1, rfl, hu1, hs1⟩, ⟨u2, s2, rfl, hu2, hs2⟩, hb1⟩; obtain ⟨x1a, _, _, z1a, rfl, -⟩ := hu1.view; obtain ⟨x1b, _, _, z1b, rfl, -⟩ := hs1.view; obtain ⟨x2a, _, _, z2a, rfl, -⟩ := hu2.view; obtain ⟨x2b, _, _, z2b, rfl, -⟩ := hs2.view)
    refine wp_name fun W3 hW3 => ?_
    have hi1 : Ext t1 W3 ∧ t1.heap.size + 1 < W3.heap.size ∧ (W3.cell? ⟨t1.heap.size, 0, none⟩ = some (.bool false) ∧ W3.cell? ⟨t1.heap.size, 1, none⟩ = some (.slice x1a (dig p).length z1a) ∧ W3.cell? ⟨t1.heap.size, 2, none⟩ = some (.bool false) ∧ W3.cell? ⟨t1.heap.size, 3, none⟩ = some (.slice x1b (dig q).length z1b) ∧ W3.cell? ⟨t1.heap.size + 1, 0, none⟩ = some (.bool false) ∧ W3.cell? ⟨t1.heap.size + 1, 1, none⟩ = some (.slice x2a (dig r).length z2a) ∧ W3.cell? ⟨t1.heap.size + 1, 2, none⟩ = some (.bool false) ∧ W3.cell? ⟨t1.heap.size + 1, 3, none⟩ = some (.slice x2b (dig s).length z2b)) := by
      have e9 : W3 = _ := hW3
      rw [e9]
      refine ⟨((Ext.refl _).alloc _).alloc _, by simp, ?_⟩
      simp [go_sem, ↓IntWalk.iteOmega]
    clear hW3
    obtain ⟨hT1, hZ1, hC1⟩ := hi1
    replace hC1 : Hid _ := hC1
    replace hu1 := hu1.ext hT1
    replace hs1 := hs1.ext hT1
    replace hu2 := hu2.ext hT1
    replace hs2 := hs2.ext hT1
    have hEW3 : Ext w W3 := hb1.trans hT1
    go_upto_region 5 with (go_at_call 7; (with_reducible refine (H2 _ hEW3).mono ?_); rintro e t2 ⟨_, _, rfl, ⟨u3, s3, rfl, hu3, hs3⟩, ⟨u4, s4, rfl, hu4, hs4⟩, hb2⟩; obtain ⟨x3a, _, _, z3a, rfl, -⟩ := hu3.view; obtain ⟨x3b, _, _, z3b, rfl, -⟩ := hs3.view; obtain ⟨x4a, _, _, z4a, rfl, -⟩ := hu4.view; obtain ⟨x4b, _, _, z4b, rfl, -⟩ := hs4.view)
    refine wp_name fun W4 hW4 => ?_
    have hi2 : Ext t2 W4 ∧ t2.heap.size + 1 < W4.heap.size ∧ (W4.cell? ⟨t2.heap.size, 0, none⟩ = some (.bool false) ∧ W4.cell? ⟨t2.heap.size, 1, none⟩ = some (.slice x3a (dig p).length z3a) ∧ W4.cell? ⟨t2.heap.size, 2, none⟩ = some (.bool false) ∧ W4.cell? ⟨t2.heap.size, 3, none⟩ = some (.slice x3b (dig q).length z3b) ∧ W4.cell? ⟨t2.heap.size + 1, 0, none⟩ = some (.bool false) ∧ W4.cell? ⟨t2.heap.size + 1, 1, none⟩ = some (.slice x4a (dig r).length z4a) ∧ W4.cell? ⟨t2.heap.size + 1, 2, none⟩ = some (.bool false) ∧ W4.cell? ⟨t2.heap.size + 1, 3, none⟩ = some (.slice x4b (dig s).length z4b)) := by
      have e9 : W4 = _ := hW4
      rw [e9]
      refine ⟨((Ext.refl _).alloc _).alloc _, by simp, ?_⟩
      simp [go_sem, ↓IntWalk.iteOmega]
    clear hW4
    obtain ⟨hT2, hZ2, hC2⟩ := hi2
    replace hC2 : Hid _ := hC2
    replace hu3 := hu3.ext hT2
    replace hs3 := hs3.ext hT2
    replace hu4 := hu4.ext hT2
    replace hs4 := hs4.ext hT2
    have hEW4 : Ext w W4 := hEW3.trans (hb2.trans hT2)
    go_upto_region 7 with (first
      | (go_at_call 8; (with_reducible refine (H3 _ hEW4).mono ?_); rintro e t3 ⟨ug, rfl, hg1, hb3⟩; have hE5 := hEW4.trans hb3)
      | (go_at_call 9; (with_reducible refine (H4 _ hE5).mono ?_); rintro e t4 ⟨vg, rfl, hg2, hb4⟩))
    have k4 : Ext W4 t4 := hb3.trans hb4
    have k3 : Ext W3 t4 := (hb2.trans hT2).trans k4
    replace hg1 := hg1.ext hb4
    have hE7 := hE5.trans hb4
    have f1 : Fq t4 (.agg #[.bool false, .slice x1a (dig p).length z1a, .bool false, .slice x1b (dig q).length z1b]) p q := ⟨_, _, rfl, hu1.ext k3, hs1.ext k3⟩
    have f2 : Fq t4 (.agg #[.bool false, .slice x2a (dig r).length z2a, .bool false, .slice x2b (dig s).length z2b]) r s := ⟨_, _, rfl, hu2.ext k3, hs2.ext k3⟩
    have f3 : Fq t4 (.agg #[.bool false, .slice x3a (dig p).length z3a, .bool false, .slice x3b (dig q).length z3b]) p q := ⟨_, _, rfl, hu3.ext k4, hs3.ext k4⟩
    have f4 : Fq t4 (.agg #[.bool false, .slice x4a (dig r).length z4a, .bool false, .slice x4b (dig s).length z4b]) r s := ⟨_, _, rfl, hu4.ext k4, hs4.ext k4⟩
    have hcl : Hid (∀ W', Ext t4 W' → (W'.cell? ⟨t1.heap.size, 0, none⟩ = some (.bool false) ∧ W'.cell? ⟨t1.heap.size, 1, none⟩ = some (.slice x1a (dig p).length z1a) ∧ W'.cell? ⟨t1.heap.size, 2, none⟩ = some (.bool false) ∧ W'.cell? ⟨t1.heap.size, 3, none⟩ = some (.slice x1b (dig q).length z1b) ∧ W'.cell? ⟨t1.heap.size + 1, 0, none⟩ = some (.bool false) ∧ W'.cell? ⟨t1.heap.size + 1, 1, none⟩ = some (.slice x2a (dig r).length z2a) ∧ W'.cell? ⟨t1.heap.size + 1, 2, none⟩ = some (.bool false) ∧ W'.cell? ⟨t1.heap.size + 1, 3, none⟩ = some (.slice x2b (dig s).length z2b)) ∧ (W'.cell? ⟨t2.heap.size, 0, none⟩ = some (.bool false) ∧ W'.cell? ⟨t2.heap.size, 1, none⟩ = some (.slice x3a (dig p).length z3a) ∧ W'.cell? ⟨t2.heap.size, 2, none⟩ = some (.bool false) ∧ W'.cell? ⟨t2.heap.size, 3, none⟩ = some (.slice x3b (dig q).length z3b) ∧ W'.cell? ⟨t2.heap.size + 1, 0, none⟩ = some (.bool false) ∧ W'.cell? ⟨t2.heap.size + 1, 1, none⟩ = some (.slice x4a (dig r).length z4a) ∧ W'.cell? ⟨t2.heap.size + 1, 2, none⟩ = some (.bool false) ∧ W'.cell? ⟨t2.heap.size + 1, 3, none⟩ = some (.slice x4b (dig s).length z4b))) := (fun W' k => by
      obtain ⟨a0, a1, a2, a3, b0, b1, b2, b3⟩ := hC1.out
      obtain ⟨a4, a5, a6, a7, b4, b5, b6, b7⟩ := hC2.out
      have m := fun bb oo hh => (k3.trans k).cells.1 bb oo hh
      have m' := fun bb oo hh => (k4.trans k).cells.1 bb oo hh
      exact ⟨⟨(m _ _ (by omega)).trans a0, (m _ _ (by omega)).trans a1, (m _ _ (by omega)).trans a2, (m _ _ (by omega)).trans a3, (m _ _ (by omega)).trans b0, (m _ _ (by omega)).trans b1, (m _ _ (by omega)).trans b2, (m _ _ (by omega)).trans b3⟩,
        ⟨(m' _ _ (by omega)).trans a4, (m' _ _ (by omega)).trans a5, (m' _ _ (by omega)).trans a6, (m' _ _ (by omega)).trans a7, (m' _ _ (by omega)).trans b4, (m' _ _ (by omega)).trans b5, (m' _ _ (by omega)).trans b6, (m' _ _ (by omega)).trans b7⟩⟩ : ∀ W', Ext t4 W' → (W'.cell? ⟨t1.heap.size, 0, none⟩ = some (.bool false) ∧ W'.cell? ⟨t1.heap.size, 1, none⟩ = some (.slice x1a (dig p).length z1a) ∧ W'.cell? ⟨t1.heap.size, 2, none⟩ = some (.bool false) ∧ W'.cell? ⟨t1.heap.size, 3, none⟩ = some (.slice x1b (dig q).length z1b) ∧ W'.cell? ⟨t1.heap.size + 1, 0, none⟩ = some (.bool false) ∧ W'.cell? ⟨t1.heap.size + 1, 1, none⟩ = some (.slice x2a (dig r).length z2a) ∧ W'.cell? ⟨t1.heap.size + 1, 2, none⟩ = some (.bool false) ∧ W'.cell? ⟨t1.heap.size + 1, 3, none⟩ = some (.slice x2b (dig s).length z2b)) ∧ (W'.cell? ⟨t2.heap.size, 0, none⟩ = some (.bool false) ∧ W'.cell? ⟨t2.heap.size, 1, none⟩ = some (.slice x3a (dig p).length z3a) ∧ W'.cell? ⟨t2.heap.size, 2, none⟩ = some (.bool false) ∧ W'.cell? ⟨t2.heap.size, 3, none⟩ = some (.slice x3b (dig q).length z3b) ∧ W'.cell? ⟨t2.heap.size + 1, 0, none⟩ = some (.bool false) ∧ W'.cell? ⟨t2.heap.size + 1, 1, none⟩ = some (.slice x4a (dig r).length z4a) ∧ W'.cell? ⟨t2.heap.size + 1, 2, none⟩ = some (.bool false) ∧ W'.cell? ⟨t2.heap.size + 1, 3, none⟩ = some (.slice x4b (dig s).length z4b)))
    obtain ⟨⟨a0, a1, a2, a3, b0, b1, b2, b3⟩, ⟨a4, a5, a6, a7, b4, b5, b6, b7⟩⟩ := hcl.out t4 (Ext.refl t4)
    have hA := r_fSameT _ _ p q t4 f1 f3
    have hBc := fun w1 (k : Ext t4 w1) => r_fSameT _ _ r s w1 (f2.ext k) (f4.ext k)
    have hCc := fun w1 (k : Ext t4 w1) => r_SameGroups ug vg gs w1 (hg1.ext k) (hg2.ext k) hgl
    clear hu1 hs1 hu2 hs2 hu3 hs3 hu4 hs4 hC1 hC2 f1 f2 f3 f4 hg1 hg2 hb1 hb2 hb3 hb4 k3 k4 hT1 hT2 H1 H2 H3 H4 hEW3 hEW4 hE5
    go_wp2_with (first
      | (go_at_call 10; (with_reducible refine hA.mono ?_); rintro e t5 ⟨rfl, k5⟩; clear hA a0 a1 a2 a3 b0 b1 b2 b3 a4 a5 a6 a7 b4 b5 b6 b7; obtain ⟨⟨-, -, -, -, b0, b1, b2, b3⟩, ⟨-, -, -, -, b4, b5, b6, b7⟩⟩ := hcl.out t5 k5)
      | (go_at_call 10; (with_reducible refine (hBc _ k5).mono ?_); rintro e t6 ⟨rfl, k6⟩; clear hBc b0 b1 b2 b3 b4 b5 b6 b7; have k7 := k5.trans k6)
      | (go_at_call 11; (with_reducible refine (hCc _ k7).mono ?_); rintro e t7 ⟨rfl, k8⟩; have hEz := hE7.trans (k7.trans k8)))
    go_ret
    exact ⟨rfl, hEz⟩

end Go.Proofs.Ytcalonhphknbbaa
