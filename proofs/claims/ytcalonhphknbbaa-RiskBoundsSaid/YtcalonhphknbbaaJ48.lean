/- The law of the bounds. -/
import Derived.Test.YtcalonhphknbbaaJ47
import Derived.Test.YtcalonhphknbbaaJ36
import Derived.Test.YtcalonhphknbbaaJ33
import Derived.RegionTactic
set_option linter.unusedSimpArgs false
set_option linter.unusedVariables false
namespace Go.Proofs.Ytcalonhphknbbaa
open Go.RowKit

theorem r_part11 (w : World) : Calls Try.prog 17 #[.int .i64 1, .int .i64 1] w fun e w' => ∃ u, e = .returned u ∧ Fq w' u 1 1 ∧ Ext w w' := r_part 1 1 w (by decide) (by decide) (by decide) (by decide)
theorem r_part01 (w : World) : Calls Try.prog 17 #[.int .i64 0, .int .i64 1] w fun e w' => ∃ u, e = .returned u ∧ Fq w' u 0 1 ∧ Ext w w' := r_part 0 1 w (by decide) (by decide) (by decide) (by decide)
theorem r_fSame11 (va vb : Value) (w : World) (hf : Fq w va 1 1) (hg : Fq w vb 1 1) :
    Calls Try.prog 10 #[va, vb] w fun e w' => e = .returned (.bool true) ∧ Ext w w' := by
  refine (r_fSame va vb 1 1 1 1 w hf hg).mono ?_
  rintro e w' ⟨h, k⟩
  exact ⟨by rw [h]; rfl, k⟩
/-- The sum in block N. -/
def BnK (Wb : World) (N p q : Nat) (wx : World) : Prop := At wx N p q ∧ NoU wx N ∧ (∀ o, wx.frozen? ⟨N, o, none⟩ = false) ∧ N < wx.heap.size ∧ Wb.heap.size ≤ N ∧ Ext Wb wx
theorem BnK.ext {Wb a b : World} {N p q : Nat} (h : BnK Wb N p q a) (k : Ext a b) : BnK Wb N p q b := by
  obtain ⟨h1, h2, h3, h4, h5, h6⟩ := h
  exact ⟨h1.ext h4 k, h2.ext h4 k, fun o => (k.cells.2 _ o h4).trans (h3 o), Nat.lt_of_lt_of_le h4 k.size, h5, h6.trans k⟩
theorem BnK.put {Wb a : World} {N p q p1 q1 : Nat} {ao bo : Option Addr} {n1 n2 c1 c2 : Nat} (h : BnK Wb N p1 q1 a) (hu : Lim a (.slice ao n1 c1) (dig p)) (hs : Lim a (.slice bo n2 c2) (dig q)) :
    BnK Wb N p q ((((a.setCell ⟨N, 0, none⟩ (.bool false)).setCell ⟨N, 1, none⟩ (.slice ao n1 c1)).setCell ⟨N, 2, none⟩ (.bool false)).setCell ⟨N, 3, none⟩ (.slice bo n2 c2)) := by
  obtain ⟨h1, h2, h3, h4, h5, h6⟩ := h
  obtain ⟨u, s, e1, e2, e3, e4, -, -⟩ := h1
  refine ⟨At.stored ⟨_, e1⟩ ⟨_, e2⟩ ⟨_, e3⟩ ⟨_, e4⟩ h2 hu hs (fun z e => by cases e) (fun z e => by cases e), (((h2.set (fun z e => by cases e)).set (fun z e => by cases e)).set (fun z e => by cases e)).set (fun z e => by cases e), fun o => by simp only [World.frozen?_setCell]; exact h3 o, by simpa using h4, h5, ?_⟩
  exact (((h6.setCell (p := ⟨N, 0, none⟩) h5 _).setCell (p := ⟨N, 1, none⟩) h5 _).setCell (p := ⟨N, 2, none⟩) h5 _).setCell (p := ⟨N, 3, none⟩) h5 _
/-- The loop of the law. -/
def BnL (Wb : World) (l : List Int) (n N : Nat) (kv : Value) (wx : World) : Prop := ∃ k : Nat, k ≤ 2 * n + 1 ∧ kv = .int .i64 k ∧ Hid (BnK Wb N (rn (wsum isNone l n k) (4 ^ n)) (rd (wsum isNone l n k) (4 ^ n)) wx)
set_option maxRecDepth 100000 in
set_option maxHeartbeats 8000000 in
theorem law_bounds (v : Value) (l : List Int) (w : World) (h : Oc w v l) (kx : Int) (sure : Bool) :
    Calls Try.prog 4 #[v, .int .i64 kx, .bool sure] w fun e w' => e = .returned (.bool true) ∧ Ext w w' := by
  have hv := fun w1 (k1 : Ext w w1) => k_Valid v l w1 (h.ext k1)
  have hcut : 100 < l.length ∨ (l.length ≤ 100 ∧ okL l = false) ∨ (l.length ≤ 100 ∧ okL l = true) := by
    rcases Nat.lt_or_ge 100 l.length with c | c
    · exact .inl c
    · cases e : okL l
      · exact .inr (.inl ⟨c, rfl⟩)
      · exact .inr (.inr ⟨c, rfl⟩)
  rcases hcut with c | ⟨c, e⟩ | ⟨c, hok⟩
  · obtain ⟨ao, b, o, cap, rfl, h1, h2, h3, h4, h5, h6⟩ := h
    have d1 : decide ((100 : Int) < (l.length : Int)) = true := decide_eq_true (by omega)
    go_enter Try.func4, Try.ntmps4
    go_wp2_with (go_at_call 12; (with_reducible refine (k_alive _).mono ?_); rintro e w1 ⟨rfl, hb1⟩)
    go_ret
    exact ⟨rfl, hb1⟩
  · rw [e] at hv
    obtain ⟨ao, b, o, cap, rfl, h1, h2, h3, h4, h5, h6⟩ := h
    have d1 : decide ((100 : Int) < (l.length : Int)) = false := decide_eq_false (by omega)
    go_enter Try.func4, Try.ntmps4
    go_wp2_with (first
      | (go_at_call 12; (with_reducible refine (k_alive _).mono ?_); rintro e w1 ⟨rfl, hb1⟩)
      | (go_at_call 13; (with_reducible refine (hv _ hb1).mono ?_); rintro e w2 ⟨rfl, h9⟩; subst h9))
    go_ret
    exact ⟨rfl, hb1⟩
  · rw [hok] at hv
    obtain ⟨ho1, ho2, ho3⟩ := (ok_iff l).1 hok
    obtain ⟨n, hn⟩ : ∃ n, l.length = 2 * n + 1 := ⟨l.length / 2, by omega⟩
    have hn2 : n ≤ 20 := by omega
    have hbd := fun w1 (k1 : Ext w w1) => w_Bounds v l n w1 (h.ext k1) hok hn hn2
    have hS12 := wsum_sure_any l n (2 * n + 1)
    have hSt := wsum_total l n
    have hset : ∀ (m : Nat) (y : Int), m < 2 * n + 1 → (0 ≤ y ∧ y ≤ 3) → okL (l.set m y) = true ∧ (l.set m y).length = 2 * n + 1 := fun m y k1 k2 => ⟨ok_set hok (by omega) k2, by rw [List.length_set]; exact hn⟩
    have hmon : ∀ (m : Nat) (y : Int), m < 2 * n + 1 → l.getD m 0 ≠ 0 → l.getD m 0 ≠ 2 → wsum isSure l n (2 * n + 1) ≤ wsum isSure (l.set m y) n (2 * n + 1) ∧ wsum isAny (l.set m y) n (2 * n + 1) ≤ wsum isAny l n (2 * n + 1) := fun m y k1 k2 k3 => by
      refine ⟨wsum_mono _ fun j hj hp => ?_, wsum_mono _ fun j hj hp => ?_⟩
      · rw [set_getD l (by omega)]
        by_cases e : j = m
        · subst e; exact absurd (by simpa [isSure] using hp) k3
        · rw [if_neg e]; exact hp
      · rw [set_getD l (by omega)] at hp
        by_cases e : j = m
        · subst e; unfold isAny; exact bne_iff_ne.2 k2
        · rw [if_neg e] at hp; exact hp
    have hD0 : 0 < 4 ^ n := Nat.pow_pos (by decide)
    have hDl : 4 ^ n ≤ 1099511627776 := Nat.pow_le_pow_right (n := 4) (by decide) hn2
    obtain ⟨z1, z2⟩ := rn_zero (4 ^ n) hD0
    obtain ⟨y1, y2⟩ := rn_self hD0
    obtain ⟨S1, eS1⟩ : ∃ S, wsum isSure l n (2 * n + 1) = S := ⟨_, rfl⟩
    obtain ⟨S2, eS2⟩ : ∃ S, wsum isAny l n (2 * n + 1) = S := ⟨_, rfl⟩
    obtain ⟨S0, eS0⟩ : ∃ S, wsum isNone l n (2 * n + 1) = S := ⟨_, rfl⟩
    obtain ⟨D, eD⟩ : ∃ S, 4 ^ n = S := ⟨_, rfl⟩
    rw [eS1, eS2, eD] at hbd
    rw [eS1, eS2] at hS12
    rw [eS2, eS0, eD] at hSt
    rw [eS1, eS2] at hmon
    rw [eD] at hD0 hDl y1 y2
    obtain ⟨ao, b, o, cap, rfl, h1, h2, h3, h4, h5, h6⟩ := h
    have e := h1 (by omega)
    subst e
    have hb4' := h4 (by omega)
    rw [hn] at hv hbd h5 h2 h6 ho3 ⊢
    have d1 : decide ((100 : Int) < 2 * (n : Int) + 1) = false := decide_eq_false (by omega)
    have hdiv : (2 * (n : Int) + 1) / 2 = (n : Int) := by omega
    replace hn : Hid _ := hn
    replace eD : Hid _ := eD
    replace eS0 : Hid _ := eS0
    replace z1 : Hid _ := z1
    replace z2 : Hid _ := z2
    have q1 : Hid (S1 ≤ 70368744177664) := (by omega : S1 ≤ 70368744177664)
    have q2 : Hid (S2 ≤ 70368744177664) := (by omega : S2 ≤ 70368744177664)
    have q0 : Hid (S0 ≤ 70368744177664) := (by omega : S0 ≤ 70368744177664)
    have qD : Hid (D ≤ 70368744177664) := (by omega : D ≤ 70368744177664)
    have q2D : Hid (S2 ≤ D) := (by omega : S2 ≤ D)
    have qD0 : Hid (0 < D) := hD0
    replace hSt : Hid _ := hSt
    replace hS12 : Hid _ := hS12
    replace hset : Hid _ := hset
    replace hmon : Hid _ := hmon
    replace h6 : Hid _ := h6
    replace ho3 : Hid _ := ho3
    replace y1 : Hid _ := y1
    replace y2 : Hid _ := y2
    clear h1 h4 hok eS1 eS2 hDl c ho1 ho2 hD0
    go_enter Try.func4, Try.ntmps4
    go_upto_region 5 with (first
      | (go_at_call 12; (with_reducible refine (k_alive _).mono ?_); rintro e w1 ⟨rfl, hb1⟩)
      | (go_at_call 13; (with_reducible refine (hv _ hb1).mono ?_); rintro e w2 ⟨rfl, h9⟩; replace h9 := h9.symm; subst h9)
      | (go_at_call 6; (with_reducible refine (hbd _ hb1).mono ?_); rintro e t1 ⟨_, _, rfl, ⟨u1, s1, rfl, hu1, hs1⟩, ⟨u2, s2, rfl, hu2, hs2⟩, hbt1⟩; obtain ⟨x1a, _, _, z1a, rfl, -⟩ := hu1.view; obtain ⟨x1b, _, _, z1b, rfl, -⟩ := hs1.view; obtain ⟨x2a, _, _, z2a, rfl, -⟩ := hu2.view; obtain ⟨x2b, _, _, z2b, rfl, -⟩ := hs2.view))
    refine wp_name fun W hW => ?_
    have hi : Ext t1 W ∧ t1.heap.size + 1 < W.heap.size ∧ (W.cell? ⟨t1.heap.size, 0, none⟩ = some (.bool false) ∧ W.cell? ⟨t1.heap.size, 1, none⟩ = some (.slice x1a (dig (rn S1 D)).length z1a) ∧ W.cell? ⟨t1.heap.size, 2, none⟩ = some (.bool false) ∧ W.cell? ⟨t1.heap.size, 3, none⟩ = some (.slice x1b (dig (rd S1 D)).length z1b) ∧ W.cell? ⟨t1.heap.size + 1, 0, none⟩ = some (.bool false) ∧ W.cell? ⟨t1.heap.size + 1, 1, none⟩ = some (.slice x2a (dig (rn S2 D)).length z2a) ∧ W.cell? ⟨t1.heap.size + 1, 2, none⟩ = some (.bool false) ∧ W.cell? ⟨t1.heap.size + 1, 3, none⟩ = some (.slice x2b (dig (rd S2 D)).length z2b)) := by
      have e9 : W = _ := hW
      rw [e9]
      refine ⟨((Ext.refl _).alloc _).alloc _, by simp, ?_⟩
      simp [go_sem, ↓IntWalk.iteOmega]
    clear hW
    obtain ⟨hT1, hZ1, hC1⟩ := hi
    replace hC1 : Hid _ := hC1
    have hEW : Ext w W := hb1.trans (hbt1.trans hT1)
    go_upto_region 6 with (go_at_call 14; (with_reducible refine (w_Weights n _ hn2).mono ?_); rintro e t2 ⟨B, es, rfl, hWo, hBl, hb2⟩)
    have hWR : Hid (WR t2 B n) := hWo.wr
    have hE2 : Ext w t2 := hEW.trans hb2
    have hz2 := hb2.size
    have hcl : Hid (∀ W', Ext t2 W' → W'.cell? ⟨t1.heap.size, 0, none⟩ = some (.bool false) ∧ W'.cell? ⟨t1.heap.size, 1, none⟩ = some (.slice x1a (dig (rn S1 D)).length z1a) ∧ W'.cell? ⟨t1.heap.size, 2, none⟩ = some (.bool false) ∧ W'.cell? ⟨t1.heap.size, 3, none⟩ = some (.slice x1b (dig (rd S1 D)).length z1b) ∧ W'.cell? ⟨t1.heap.size + 1, 0, none⟩ = some (.bool false) ∧ W'.cell? ⟨t1.heap.size + 1, 1, none⟩ = some (.slice x2a (dig (rn S2 D)).length z2a) ∧ W'.cell? ⟨t1.heap.size + 1, 2, none⟩ = some (.bool false) ∧ W'.cell? ⟨t1.heap.size + 1, 3, none⟩ = some (.slice x2b (dig (rd S2 D)).length z2b)) := (fun W' k => by
      obtain ⟨a0, a1, a2, a3, b0, b1, b2, b3⟩ := hC1.out
      have m := fun bb oo hh => (hb2.trans k).cells.1 bb oo hh
      exact ⟨(m _ _ (by omega)).trans a0, (m _ _ (by omega)).trans a1, (m _ _ (by omega)).trans a2, (m _ _ (by omega)).trans a3, (m _ _ (by omega)).trans b0, (m _ _ (by omega)).trans b1, (m _ _ (by omega)).trans b2, (m _ _ (by omega)).trans b3⟩ : ∀ W', Ext t2 W' → W'.cell? ⟨t1.heap.size, 0, none⟩ = some (.bool false) ∧ W'.cell? ⟨t1.heap.size, 1, none⟩ = some (.slice x1a (dig (rn S1 D)).length z1a) ∧ W'.cell? ⟨t1.heap.size, 2, none⟩ = some (.bool false) ∧ W'.cell? ⟨t1.heap.size, 3, none⟩ = some (.slice x1b (dig (rd S1 D)).length z1b) ∧ W'.cell? ⟨t1.heap.size + 1, 0, none⟩ = some (.bool false) ∧ W'.cell? ⟨t1.heap.size + 1, 1, none⟩ = some (.slice x2a (dig (rn S2 D)).length z2a) ∧ W'.cell? ⟨t1.heap.size + 1, 2, none⟩ = some (.bool false) ∧ W'.cell? ⟨t1.heap.size + 1, 3, none⟩ = some (.slice x2b (dig (rd S2 D)).length z2b))
    have hA : t1.heap.size < t2.heap.size := by omega
    have hB : t1.heap.size + 1 < t2.heap.size := by omega
    have fA : Fq t2 (.agg #[.bool false, .slice x1a (dig (rn S1 D)).length z1a, .bool false, .slice x1b (dig (rd S1 D)).length z1b]) (rn S1 D) (rd S1 D) := ⟨_, _, rfl, hu1.ext (hT1.trans hb2), hs1.ext (hT1.trans hb2)⟩
    have fB : Fq t2 (.agg #[.bool false, .slice x2a (dig (rn S2 D)).length z2a, .bool false, .slice x2b (dig (rd S2 D)).length z2b]) (rn S2 D) (rd S2 D) := ⟨_, _, rfl, hu2.ext (hT1.trans hb2), hs2.ext (hT1.trans hb2)⟩
    have hcA := fun w1 (k : Ext t2 w1) => r_fCheckD _ S1 D w1 (fA.ext k) q1.out qD0.out qD.out
    have hcB := fun w1 (k : Ext t2 w1) => r_fCheckD _ S2 D w1 (fB.ext k) q2.out qD0.out qD.out
    have hcAB := fun w1 (k : Ext t2 w1) => r_atMostD _ _ S1 S2 D w1 (fA.ext k) (fB.ext k) hS12.out q2.out qD0.out qD.out
    have hcB1 := fun w1 (k : Ext t2 w1) vb (hq : Fq w1 vb 1 1) => r_atMostD _ vb S2 D D w1 (fB.ext k) (by rw [y1.out, y2.out]; exact hq) q2D.out qD.out qD0.out qD.out
    obtain ⟨a0, a1, a2, a3, b0, b1, b2, b3⟩ := hcl.out t2 (Ext.refl t2)
    replace hE2 : Hid _ := hE2
    replace hset : Hid _ := hset
    clear hu1 hs1 hu2 hs2 hC1 hb1 hbt1 hT1 hWo hEW hbd hv hZ1 hb2 hz2
    refine wp_region_held_drew (S := (fun w0 => Ext t2 w0)) (by kernel_rfl) ?_ (fun hHeld => ?_)
    · exact (Ext.refl t2).drew
    try simp only [Act.put, List.setIfInBounds_toArray, List.set_cons_zero, List.set_cons_succ, List.getElem_toArray, List.getElem_cons_succ, List.getElem_cons_zero]
    refine wpAnyH_take (i := 0) (oi := _) (v := ?_) rfl (by kernel_rfl) (by kernel_rfl) (by kernel_rfl) (fun _ _ _ h => h) (Or.inl ⟨by rfl, ?_⟩) (by assumption) ?_
    rotate_left
    · intro w0 hSw; go_simp; try with_reducible rfl
    try simp only [Act.put, List.setIfInBounds_toArray, List.set_cons_zero, List.set_cons_succ, List.getElem_toArray, List.getElem_cons_succ, List.getElem_cons_zero]
    refine wpAnyH_take (i := 1) (oi := _) (v := ?_) rfl (by kernel_rfl) (by kernel_rfl) (by kernel_rfl) (fun _ _ _ h => h) (Or.inl ⟨by rfl, ?_⟩) (by assumption) ?_
    rotate_left
    · intro w0 hSw; go_simp; try with_reducible rfl
    try simp only [Act.put, List.setIfInBounds_toArray, List.set_cons_zero, List.set_cons_succ, List.getElem_toArray, List.getElem_cons_succ, List.getElem_cons_zero]
    refine wpAnyH_take (i := 2) (oi := _) (v := ?_) rfl (by kernel_rfl) (by kernel_rfl) (by kernel_rfl) (fun _ _ _ h => h) (Or.inl ⟨by rfl, ?_⟩) (by assumption) ?_
    rotate_left
    · intro w0 hSw; go_simp; try with_reducible rfl
    try simp only [Act.put, List.setIfInBounds_toArray, List.set_cons_zero, List.set_cons_succ, List.getElem_toArray, List.getElem_cons_succ, List.getElem_cons_zero]
    refine wpAnyH_take (i := 3) (oi := _) (v := ?_) rfl (by kernel_rfl) (by kernel_rfl) (by kernel_rfl) (fun _ _ _ h => h) (Or.inl ⟨by rfl, ?_⟩) (by assumption) ?_
    rotate_left
    · intro w0 hSw; go_simp; try with_reducible rfl
    try simp only [Act.put, List.setIfInBounds_toArray, List.set_cons_zero, List.set_cons_succ, List.getElem_toArray, List.getElem_cons_succ, List.getElem_cons_zero]
    refine wpAnyH_take (i := 4) (oi := _) (v := ?_) rfl (by kernel_rfl) (by kernel_rfl) (by kernel_rfl) (fun _ _ _ h => h) (Or.inl ⟨by rfl, ?_⟩) (by assumption) ?_
    rotate_left
    · intro w0 hSw; go_simp; try with_reducible rfl
    try simp only [Act.put, List.setIfInBounds_toArray, List.set_cons_zero, List.set_cons_succ, List.getElem_toArray, List.getElem_cons_succ, List.getElem_cons_zero]
    refine wpAnyH_take (i := 5) (oi := _) (v := ?_) rfl (by kernel_rfl) (by kernel_rfl) (by kernel_rfl) (fun _ _ _ h => h) (Or.inl ⟨by rfl, ?_⟩) (by assumption) ?_
    rotate_left
    · intro w0 hSw; go_simp; try with_reducible rfl
    try simp only [Act.put, List.setIfInBounds_toArray, List.set_cons_zero, List.set_cons_succ, List.getElem_toArray, List.getElem_cons_succ, List.getElem_cons_zero]
    refine wpAnyH_take (i := 6) (oi := _) (v := ?_) rfl (by kernel_rfl) (by kernel_rfl) (by kernel_rfl) (fun _ _ _ h => h) (Or.inl ⟨by rfl, ?_⟩) (by assumption) ?_
    rotate_left
    · intro w0 hSw; go_simp; try with_reducible rfl
    try simp only [Act.put, List.setIfInBounds_toArray, List.set_cons_zero, List.set_cons_succ, List.getElem_toArray, List.getElem_cons_succ, List.getElem_cons_zero]
    refine wpAnyH_take (i := 7) (oi := _) (v := ?_) rfl (by kernel_rfl) (by kernel_rfl) (by kernel_rfl) (fun _ _ _ h => h) (Or.inl ⟨by rfl, ?_⟩) (by assumption) ?_
    rotate_left
    · intro w0 hSw; have r0 := (hSw.cells.1 _ 0 hA).trans a0; have r1 := (hSw.cells.1 _ 1 hA).trans a1; have r2 := (hSw.cells.1 _ 2 hA).trans a2; have r3 := (hSw.cells.1 _ 3 hA).trans a3; have g0 := (hSw.cells.1 _ 0 hB).trans b0; have g1 := (hSw.cells.1 _ 1 hB).trans b1; have g2 := (hSw.cells.1 _ 2 hB).trans b2; have g3 := (hSw.cells.1 _ 3 hB).trans b3; go_simp; try with_reducible rfl
    try simp only [Act.put, List.setIfInBounds_toArray, List.set_cons_zero, List.set_cons_succ, List.getElem_toArray, List.getElem_cons_succ, List.getElem_cons_zero]
    refine wpAnyH_ready (rs := [8]) (by kernel_rfl) (by simp) ?_
    refine AllReadyH.cons (o := _) rfl (fun K hK => ?_) AllReadyH.nil
    go_simp
    (go_at_call 15; (with_reducible refine (hcA _ hHeld).mono ?_); rintro e c0 ⟨rfl, hx0⟩)
    refine hK.out _ _ ?_ (fun hHeldN => ?_)
    · (try dsimp only); exact hHeld.trans hx0
    clear hK K hHeld
    have hHeld := hHeldN
    clear hHeldN
    try simp only [Act.put, List.setIfInBounds_toArray, List.set_cons_zero, List.set_cons_succ, List.getElem_toArray, List.getElem_cons_succ, List.getElem_cons_zero]
    refine wpAnyH_take (i := 9) (oi := _) (v := ?_) rfl (by kernel_rfl) (by kernel_rfl) (by kernel_rfl) (fun _ _ _ h => h) (Or.inl ⟨by rfl, ?_⟩) (by assumption) ?_
    rotate_left
    · intro w0 hSw; go_simp; try with_reducible rfl
    try simp only [Act.put, List.setIfInBounds_toArray, List.set_cons_zero, List.set_cons_succ, List.getElem_toArray, List.getElem_cons_succ, List.getElem_cons_zero]
    refine wpAnyH_take (i := 10) (oi := _) (v := ?_) rfl (by kernel_rfl) (by kernel_rfl) (by kernel_rfl) (fun _ _ _ h => h) (Or.inl ⟨by rfl, ?_⟩) (by assumption) ?_
    rotate_left
    · intro w0 hSw; go_simp; try with_reducible rfl
    try simp only [Act.put, List.setIfInBounds_toArray, List.set_cons_zero, List.set_cons_succ, List.getElem_toArray, List.getElem_cons_succ, List.getElem_cons_zero]
    refine wpAnyH_take (i := 11) (oi := _) (v := ?_) rfl (by kernel_rfl) (by kernel_rfl) (by kernel_rfl) (fun _ _ _ h => h) (Or.inl ⟨by rfl, ?_⟩) (by assumption) ?_
    rotate_left
    · intro w0 hSw; go_simp; try with_reducible rfl
    try simp only [Act.put, List.setIfInBounds_toArray, List.set_cons_zero, List.set_cons_succ, List.getElem_toArray, List.getElem_cons_succ, List.getElem_cons_zero]
    refine wpAnyH_take (i := 12) (oi := _) (v := ?_) rfl (by kernel_rfl) (by kernel_rfl) (by kernel_rfl) (fun _ _ _ h => h) (Or.inl ⟨by rfl, ?_⟩) (by assumption) ?_
    rotate_left
    · intro w0 hSw; have r0 := (hSw.cells.1 _ 0 hA).trans a0; have r1 := (hSw.cells.1 _ 1 hA).trans a1; have r2 := (hSw.cells.1 _ 2 hA).trans a2; have r3 := (hSw.cells.1 _ 3 hA).trans a3; have g0 := (hSw.cells.1 _ 0 hB).trans b0; have g1 := (hSw.cells.1 _ 1 hB).trans b1; have g2 := (hSw.cells.1 _ 2 hB).trans b2; have g3 := (hSw.cells.1 _ 3 hB).trans b3; go_simp; try with_reducible rfl
    try simp only [Act.put, List.setIfInBounds_toArray, List.set_cons_zero, List.set_cons_succ, List.getElem_toArray, List.getElem_cons_succ, List.getElem_cons_zero]
    refine wpAnyH_ready (rs := [13]) (by kernel_rfl) (by simp) ?_
    refine AllReadyH.cons (o := _) rfl (fun K hK => ?_) AllReadyH.nil
    go_simp
    (go_at_call 15; (with_reducible refine (hcB _ hHeld).mono ?_); rintro e c1 ⟨rfl, hx1⟩)
    refine hK.out _ _ ?_ (fun hHeldN => ?_)
    · (try dsimp only); exact hHeld.trans hx1
    clear hK K hHeld
    have hHeld := hHeldN
    clear hHeldN
    try simp only [Act.put, List.setIfInBounds_toArray, List.set_cons_zero, List.set_cons_succ, List.getElem_toArray, List.getElem_cons_succ, List.getElem_cons_zero]
    refine wpAnyH_take (i := 14) (oi := _) (v := ?_) rfl (by kernel_rfl) (by kernel_rfl) (by kernel_rfl) (fun _ _ _ h => h) (Or.inl ⟨by rfl, ?_⟩) (by assumption) ?_
    rotate_left
    · intro w0 hSw; go_simp; try with_reducible rfl
    try simp only [Act.put, List.setIfInBounds_toArray, List.set_cons_zero, List.set_cons_succ, List.getElem_toArray, List.getElem_cons_succ, List.getElem_cons_zero]
    refine wpAnyH_take (i := 15) (oi := _) (v := ?_) rfl (by kernel_rfl) (by kernel_rfl) (by kernel_rfl) (fun _ _ _ h => h) (Or.inl ⟨by rfl, ?_⟩) (by assumption) ?_
    rotate_left
    · intro w0 hSw; go_simp; try with_reducible rfl
    try simp only [Act.put, List.setIfInBounds_toArray, List.set_cons_zero, List.set_cons_succ, List.getElem_toArray, List.getElem_cons_succ, List.getElem_cons_zero]
    refine wpAnyH_take (i := 16) (oi := _) (v := ?_) rfl (by kernel_rfl) (by kernel_rfl) (by kernel_rfl) (fun _ _ _ h => h) (Or.inl ⟨by rfl, ?_⟩) (by assumption) ?_
    rotate_left
    · intro w0 hSw; go_simp; try with_reducible rfl
    try simp only [Act.put, List.setIfInBounds_toArray, List.set_cons_zero, List.set_cons_succ, List.getElem_toArray, List.getElem_cons_succ, List.getElem_cons_zero]
    refine wpAnyH_take (i := 17) (oi := _) (v := ?_) rfl (by kernel_rfl) (by kernel_rfl) (by kernel_rfl) (fun _ _ _ h => h) (Or.inl ⟨by rfl, ?_⟩) (by assumption) ?_
    rotate_left
    · intro w0 hSw; go_simp; try with_reducible rfl
    try simp only [Act.put, List.setIfInBounds_toArray, List.set_cons_zero, List.set_cons_succ, List.getElem_toArray, List.getElem_cons_succ, List.getElem_cons_zero]
    refine wpAnyH_take (i := 18) (oi := _) (v := ?_) rfl (by kernel_rfl) (by kernel_rfl) (by kernel_rfl) (fun _ _ _ h => h) (Or.inl ⟨by rfl, ?_⟩) (by assumption) ?_
    rotate_left
    · intro w0 hSw; go_simp; try with_reducible rfl
    try simp only [Act.put, List.setIfInBounds_toArray, List.set_cons_zero, List.set_cons_succ, List.getElem_toArray, List.getElem_cons_succ, List.getElem_cons_zero]
    refine wpAnyH_take (i := 19) (oi := _) (v := ?_) rfl (by kernel_rfl) (by kernel_rfl) (by kernel_rfl) (fun _ _ _ h => h) (Or.inl ⟨by rfl, ?_⟩) (by assumption) ?_
    rotate_left
    · intro w0 hSw; go_simp; try with_reducible rfl
    try simp only [Act.put, List.setIfInBounds_toArray, List.set_cons_zero, List.set_cons_succ, List.getElem_toArray, List.getElem_cons_succ, List.getElem_cons_zero]
    refine wpAnyH_take (i := 20) (oi := _) (v := ?_) rfl (by kernel_rfl) (by kernel_rfl) (by kernel_rfl) (fun _ _ _ h => h) (Or.inl ⟨by rfl, ?_⟩) (by assumption) ?_
    rotate_left
    · intro w0 hSw; go_simp; try with_reducible rfl
    try simp only [Act.put, List.setIfInBounds_toArray, List.set_cons_zero, List.set_cons_succ, List.getElem_toArray, List.getElem_cons_succ, List.getElem_cons_zero]
    refine wpAnyH_take (i := 21) (oi := _) (v := ?_) rfl (by kernel_rfl) (by kernel_rfl) (by kernel_rfl) (fun _ _ _ h => h) (Or.inl ⟨by rfl, ?_⟩) (by assumption) ?_
    rotate_left
    · intro w0 hSw; go_simp; try with_reducible rfl
    try simp only [Act.put, List.setIfInBounds_toArray, List.set_cons_zero, List.set_cons_succ, List.getElem_toArray, List.getElem_cons_succ, List.getElem_cons_zero]
    refine wpAnyH_take (i := 22) (oi := _) (v := ?_) rfl (by kernel_rfl) (by kernel_rfl) (by kernel_rfl) (fun _ _ _ h => h) (Or.inl ⟨by rfl, ?_⟩) (by assumption) ?_
    rotate_left
    · intro w0 hSw; go_simp; try with_reducible rfl
    try simp only [Act.put, List.setIfInBounds_toArray, List.set_cons_zero, List.set_cons_succ, List.getElem_toArray, List.getElem_cons_succ, List.getElem_cons_zero]
    refine wpAnyH_take (i := 23) (oi := _) (v := ?_) rfl (by kernel_rfl) (by kernel_rfl) (by kernel_rfl) (fun _ _ _ h => h) (Or.inl ⟨by rfl, ?_⟩) (by assumption) ?_
    rotate_left
    · intro w0 hSw; go_simp; try with_reducible rfl
    try simp only [Act.put, List.setIfInBounds_toArray, List.set_cons_zero, List.set_cons_succ, List.getElem_toArray, List.getElem_cons_succ, List.getElem_cons_zero]
    refine wpAnyH_take (i := 24) (oi := _) (v := ?_) rfl (by kernel_rfl) (by kernel_rfl) (by kernel_rfl) (fun _ _ _ h => h) (Or.inl ⟨by rfl, ?_⟩) (by assumption) ?_
    rotate_left
    · intro w0 hSw; go_simp; try with_reducible rfl
    try simp only [Act.put, List.setIfInBounds_toArray, List.set_cons_zero, List.set_cons_succ, List.getElem_toArray, List.getElem_cons_succ, List.getElem_cons_zero]
    refine wpAnyH_take (i := 25) (oi := _) (v := ?_) rfl (by kernel_rfl) (by kernel_rfl) (by kernel_rfl) (fun _ _ _ h => h) (Or.inl ⟨by rfl, ?_⟩) (by assumption) ?_
    rotate_left
    · intro w0 hSw; go_simp; try with_reducible rfl
    try simp only [Act.put, List.setIfInBounds_toArray, List.set_cons_zero, List.set_cons_succ, List.getElem_toArray, List.getElem_cons_succ, List.getElem_cons_zero]
    refine wpAnyH_take (i := 26) (oi := _) (v := ?_) rfl (by kernel_rfl) (by kernel_rfl) (by kernel_rfl) (fun _ _ _ h => h) (Or.inl ⟨by rfl, ?_⟩) (by assumption) ?_
    rotate_left
    · intro w0 hSw; have r0 := (hSw.cells.1 _ 0 hA).trans a0; have r1 := (hSw.cells.1 _ 1 hA).trans a1; have r2 := (hSw.cells.1 _ 2 hA).trans a2; have r3 := (hSw.cells.1 _ 3 hA).trans a3; have g0 := (hSw.cells.1 _ 0 hB).trans b0; have g1 := (hSw.cells.1 _ 1 hB).trans b1; have g2 := (hSw.cells.1 _ 2 hB).trans b2; have g3 := (hSw.cells.1 _ 3 hB).trans b3; go_simp; try with_reducible rfl
    try simp only [Act.put, List.setIfInBounds_toArray, List.set_cons_zero, List.set_cons_succ, List.getElem_toArray, List.getElem_cons_succ, List.getElem_cons_zero]
    refine wpAnyH_take (i := 27) (oi := _) (v := ?_) rfl (by kernel_rfl) (by kernel_rfl) (by kernel_rfl) (fun _ _ _ h => h) (Or.inl ⟨by rfl, ?_⟩) (by assumption) ?_
    rotate_left
    · intro w0 hSw; go_simp; try with_reducible rfl
    try simp only [Act.put, List.setIfInBounds_toArray, List.set_cons_zero, List.set_cons_succ, List.getElem_toArray, List.getElem_cons_succ, List.getElem_cons_zero]
    refine wpAnyH_take (i := 28) (oi := _) (v := ?_) rfl (by kernel_rfl) (by kernel_rfl) (by kernel_rfl) (fun _ _ _ h => h) (Or.inl ⟨by rfl, ?_⟩) (by assumption) ?_
    rotate_left
    · intro w0 hSw; go_simp; try with_reducible rfl
    try simp only [Act.put, List.setIfInBounds_toArray, List.set_cons_zero, List.set_cons_succ, List.getElem_toArray, List.getElem_cons_succ, List.getElem_cons_zero]
    refine wpAnyH_take (i := 29) (oi := _) (v := ?_) rfl (by kernel_rfl) (by kernel_rfl) (by kernel_rfl) (fun _ _ _ h => h) (Or.inl ⟨by rfl, ?_⟩) (by assumption) ?_
    rotate_left
    · intro w0 hSw; have r0 := (hSw.cells.1 _ 0 hA).trans a0; have r1 := (hSw.cells.1 _ 1 hA).trans a1; have r2 := (hSw.cells.1 _ 2 hA).trans a2; have r3 := (hSw.cells.1 _ 3 hA).trans a3; have g0 := (hSw.cells.1 _ 0 hB).trans b0; have g1 := (hSw.cells.1 _ 1 hB).trans b1; have g2 := (hSw.cells.1 _ 2 hB).trans b2; have g3 := (hSw.cells.1 _ 3 hB).trans b3; go_simp; try with_reducible rfl
    try simp only [Act.put, List.setIfInBounds_toArray, List.set_cons_zero, List.set_cons_succ, List.getElem_toArray, List.getElem_cons_succ, List.getElem_cons_zero]
    refine wpAnyH_take (i := 30) (oi := _) (v := ?_) rfl (by kernel_rfl) (by kernel_rfl) (by kernel_rfl) (fun _ _ _ h => h) (Or.inl ⟨by rfl, ?_⟩) (by assumption) ?_
    rotate_left
    · intro w0 hSw; have r0 := (hSw.cells.1 _ 0 hA).trans a0; have r1 := (hSw.cells.1 _ 1 hA).trans a1; have r2 := (hSw.cells.1 _ 2 hA).trans a2; have r3 := (hSw.cells.1 _ 3 hA).trans a3; have g0 := (hSw.cells.1 _ 0 hB).trans b0; have g1 := (hSw.cells.1 _ 1 hB).trans b1; have g2 := (hSw.cells.1 _ 2 hB).trans b2; have g3 := (hSw.cells.1 _ 3 hB).trans b3; go_simp; try with_reducible rfl
    try simp only [Act.put, List.setIfInBounds_toArray, List.set_cons_zero, List.set_cons_succ, List.getElem_toArray, List.getElem_cons_succ, List.getElem_cons_zero]
    refine wpAnyH_ready (rs := [31]) (by kernel_rfl) (by simp) ?_
    refine AllReadyH.cons (o := _) rfl (fun K hK => ?_) AllReadyH.nil
    go_simp
    (go_at_call 16; (with_reducible refine (hcAB _ hHeld).mono ?_); rintro e c2 ⟨rfl, hx2⟩)
    refine hK.out _ _ ?_ (fun hHeldN => ?_)
    · (try dsimp only); exact hHeld.trans hx2
    clear hK K hHeld
    have hHeld := hHeldN
    clear hHeldN
    try simp only [Act.put, List.setIfInBounds_toArray, List.set_cons_zero, List.set_cons_succ, List.getElem_toArray, List.getElem_cons_succ, List.getElem_cons_zero]
    refine wpAnyH_take (i := 32) (oi := _) (v := ?_) rfl (by kernel_rfl) (by kernel_rfl) (by kernel_rfl) (fun _ _ _ h => h) (Or.inl ⟨by rfl, ?_⟩) (by assumption) ?_
    rotate_left
    · intro w0 hSw; go_simp; try with_reducible rfl
    try simp only [Act.put, List.setIfInBounds_toArray, List.set_cons_zero, List.set_cons_succ, List.getElem_toArray, List.getElem_cons_succ, List.getElem_cons_zero]
    refine wpAnyH_take (i := 33) (oi := _) (v := ?_) rfl (by kernel_rfl) (by kernel_rfl) (by kernel_rfl) (fun _ _ _ h => h) (Or.inl ⟨by rfl, ?_⟩) (by assumption) ?_
    rotate_left
    · intro w0 hSw; go_simp; try with_reducible rfl
    try simp only [Act.put, List.setIfInBounds_toArray, List.set_cons_zero, List.set_cons_succ, List.getElem_toArray, List.getElem_cons_succ, List.getElem_cons_zero]
    refine wpAnyH_take (i := 34) (oi := _) (v := ?_) rfl (by kernel_rfl) (by kernel_rfl) (by kernel_rfl) (fun _ _ _ h => h) (Or.inl ⟨by rfl, ?_⟩) (by assumption) ?_
    rotate_left
    · intro w0 hSw; go_simp; try with_reducible rfl
    try simp only [Act.put, List.setIfInBounds_toArray, List.set_cons_zero, List.set_cons_succ, List.getElem_toArray, List.getElem_cons_succ, List.getElem_cons_zero]
    refine wpAnyH_take (i := 35) (oi := _) (v := ?_) rfl (by kernel_rfl) (by kernel_rfl) (by kernel_rfl) (fun _ _ _ h => h) (Or.inl ⟨by rfl, ?_⟩) (by assumption) ?_
    rotate_left
    · intro w0 hSw; have r0 := (hSw.cells.1 _ 0 hA).trans a0; have r1 := (hSw.cells.1 _ 1 hA).trans a1; have r2 := (hSw.cells.1 _ 2 hA).trans a2; have r3 := (hSw.cells.1 _ 3 hA).trans a3; have g0 := (hSw.cells.1 _ 0 hB).trans b0; have g1 := (hSw.cells.1 _ 1 hB).trans b1; have g2 := (hSw.cells.1 _ 2 hB).trans b2; have g3 := (hSw.cells.1 _ 3 hB).trans b3; go_simp; try with_reducible rfl
    try simp only [Act.put, List.setIfInBounds_toArray, List.set_cons_zero, List.set_cons_succ, List.getElem_toArray, List.getElem_cons_succ, List.getElem_cons_zero]
    refine wpAnyH_ready (rs := [36]) (by kernel_rfl) (by simp) ?_
    refine AllReadyH.cons (o := _) rfl (fun K hK => ?_) AllReadyH.nil
    go_simp
    (go_at_call 17; (with_reducible refine (r_part11 _).mono ?_); rintro e c3 ⟨pv, rfl, hq, hx3⟩; have hqb := hq; obtain ⟨y5, y6, rfl, hva, hvb⟩ := hqb; obtain ⟨_, _, _, _, rfl, -⟩ := hva.view; obtain ⟨_, _, _, _, rfl, -⟩ := hvb.view)
    refine hK.out _ _ ?_ (fun hHeldN => ?_)
    · (try dsimp only); exact hHeld.trans hx3
    clear hK K hHeld
    have hHeld := hHeldN
    clear hHeldN
    try simp only [Act.put, List.setIfInBounds_toArray, List.set_cons_zero, List.set_cons_succ, List.getElem_toArray, List.getElem_cons_succ, List.getElem_cons_zero]
    refine wpAnyH_ready (rs := [37]) (by kernel_rfl) (by simp) ?_
    refine AllReadyH.cons (o := _) rfl (fun K hK => ?_) AllReadyH.nil
    go_simp
    (go_at_call 16; (with_reducible refine (hcB1 _ hHeld _ hq).mono ?_); rintro e c4 ⟨rfl, hx4⟩)
    refine hK.out _ _ ?_ (fun hHeldN => ?_)
    · (try dsimp only); exact hHeld.trans hx4
    clear hK K hHeld
    have hHeld := hHeldN
    clear hHeldN
    try simp only [Act.put, List.setIfInBounds_toArray, List.set_cons_zero, List.set_cons_succ, List.getElem_toArray, List.getElem_cons_succ, List.getElem_cons_zero]
    refine wpAnyH_take (i := 38) (oi := _) (v := ?_) rfl (by kernel_rfl) (by kernel_rfl) (by kernel_rfl) (fun _ _ _ h => h) (Or.inl ⟨by rfl, ?_⟩) (by assumption) ?_
    rotate_left
    · intro w0 hSw; go_simp; try with_reducible rfl
    try simp only [Act.put, List.setIfInBounds_toArray, List.set_cons_zero, List.set_cons_succ, List.getElem_toArray, List.getElem_cons_succ, List.getElem_cons_zero]
    refine wpAnyH_take (i := 39) (oi := _) (v := ?_) rfl (by kernel_rfl) (by kernel_rfl) (by kernel_rfl) (fun _ _ _ h => h) (Or.inl ⟨by rfl, ?_⟩) (by assumption) ?_
    rotate_left
    · intro w0 hSw; go_simp; try with_reducible rfl
    try simp only [Act.put, List.setIfInBounds_toArray, List.set_cons_zero, List.set_cons_succ, List.getElem_toArray, List.getElem_cons_succ, List.getElem_cons_zero]
    refine wpAnyH_done (by kernel_rfl) ?_ _
    go_upto_region 8 with fail
    have hF : Hid (Ext t2 c4) := (hHeld : Ext t2 c4)
    clear hx0 hx1 hx2 hx3 hx4 hHeld hq hva hvb hcA hcB hcAB hcB1 a0 a1 a2 a3 b0 b1 b2 b3
    go_upto_region 9 with (go_at_call 17; (with_reducible refine (r_part01 _).mono ?_); rintro e t8 ⟨_, rfl, ⟨u9, s9, rfl, hu9, hs9⟩, hb8⟩; obtain ⟨x9a, _, _, z9a, rfl, -⟩ := hu9.view; obtain ⟨x9b, _, _, z9b, rfl, -⟩ := hs9.view)
    refine wp_name fun W9 hW9 => ?_
    have hB9 : BnK t8 t8.heap.size 0 1 W9 := by
      have e9 : W9 = _ := hW9
      rw [e9]
      exact ⟨⟨_, _, (by simp [go_sem, ↓IntWalk.iteOmega]), (by simp [go_sem, ↓IntWalk.iteOmega]), (by simp [go_sem, ↓IntWalk.iteOmega]), (by simp [go_sem, ↓IntWalk.iteOmega]), hu9.alloc _, hs9.alloc _⟩, NoU.new t8 _ _ (noU4 (by simp) (by simp) (by simp) (by simp)), fun o => by simp [go_sem, ↓IntWalk.iteOmega], by simp, Nat.le_refl _, (Ext.refl t8).alloc _⟩
    have hE8 : Hid (Ext t2 t8) := (hF.out.trans hb8 : Ext t2 t8)
    obtain ⟨N, eN⟩ : ∃ N, t8.heap.size = N := ⟨_, rfl⟩
    rw [eN] at hB9 ⊢
    replace hB9 := (show ∀ {A C A' C' : Nat}, A = A' → C = C' → BnK t8 N A C W9 → BnK t8 N A' C' W9 from fun e1 e2 h => by subst e1; subst e2; exact h) z1.out.symm z2.out.symm hB9
    replace hB9 : Hid (BnK t8 N (rn (wsum isNone l n 0) (4 ^ n)) (rd (wsum isNone l n 0) (4 ^ n)) W9) := hB9
    have hEw : Hid (Ext w t8) := (Ext.trans hE2.out hE8.out : Ext w t8)
    clear hW9 hu9 hs9 hb8 eN hF
    go_wp2_with fail
    go_loopw [14] (fun kv wr => BnL t8 l n N kv wr) (fun kv _ => 2 * n + 1 - (intOf kv).toNat)
    case atStart => exact ⟨0, Nat.zero_le _, rfl, hB9⟩
    case round =>
      clear hB9
      obtain ⟨k, hk, rfl, HB⟩ := hrel
      have h8w : Ext t8 wr := HB.out.2.2.2.2.2
      rcases Nat.eq_or_lt_of_le hk with e1 | hk2
      · subst e1
        rw [eS0.out, eD.out] at HB
        obtain ⟨⟨u4, s4, a1', a2', a3', a4', a5', a6'⟩, -, -, hNl, -, -⟩ := HB.out
        obtain ⟨x5a, _, _, z5a, rfl, -⟩ := a5'.view
        obtain ⟨x5b, _, _, z5b, rfl, -⟩ := a6'.view
        have k2w : Ext t2 wr := hE8.out.trans h8w
        obtain ⟨a0, a1, a2, a3, b0, b1, b2, b3⟩ := hcl.out wr k2w
        have fN : Fq wr (.agg #[.bool false, .slice x5a (dig (rn S0 D)).length z5a, .bool false, .slice x5b (dig (rd S0 D)).length z5b]) (rn S0 D) (rd S0 D) := ⟨_, _, rfl, a5', a6'⟩
        have hpl := r_PlusD _ _ S2 S0 D wr (fB.ext k2w) fN q2.out q0.out qD0.out qD.out
        rw [hSt.out, y1.out, y2.out] at hpl
        clear fN HB a5' a6'
        go_upto_region 17 with (go_at_call 18; (with_reducible refine hpl.mono ?_); rintro e t9 ⟨_, rfl, ⟨u6, s6, rfl, hu6, hs6⟩, hb9⟩; obtain ⟨x6a, _, _, z6a, rfl, -⟩ := hu6.view; obtain ⟨x6b, _, _, z6b, rfl, -⟩ := hs6.view)
        refine wp_name fun V hV => ?_
        have hv9 : Ext t9 V ∧ t9.heap.size < V.heap.size ∧ V.cell? ⟨t9.heap.size, 0, none⟩ = some (.bool false) ∧ V.cell? ⟨t9.heap.size, 1, none⟩ = some (.slice x6a (dig 1).length z6a) ∧ V.cell? ⟨t9.heap.size, 2, none⟩ = some (.bool false) ∧ V.cell? ⟨t9.heap.size, 3, none⟩ = some (.slice x6b (dig 1).length z6b) := by
          have e9 : V = _ := hV
          rw [e9]
          exact ⟨(Ext.refl t9).alloc _, by simp, by simp [go_sem, ↓IntWalk.iteOmega], by simp [go_sem, ↓IntWalk.iteOmega], by simp [go_sem, ↓IntWalk.iteOmega], by simp [go_sem, ↓IntWalk.iteOmega]⟩
        clear hV hpl
        obtain ⟨hTV, hM, m0, m1, m2, m3⟩ := hv9
        have kV : Hid (Ext t2 V) := (k2w.trans (hb9.trans hTV) : Ext t2 V)
        have fV : Fq V (.agg #[.bool false, .slice x6a (dig 1).length z6a, .bool false, .slice x6b (dig 1).length z6b]) 1 1 := ⟨_, _, rfl, hu6.ext hTV, hs6.ext hTV⟩
        have hsame := fun w1 (k : Ext V w1) vb (hq : Fq w1 vb 1 1) => r_fSame11 _ vb w1 (fV.ext k) hq
        clear hu6 hs6 hb9 hTV k2w h8w a0 a1 a2 a3 b0 b1 b2 b3 a1' a2' a3' a4' hNl fV
        refine wp_region_held_drew (S := (fun w0 => Ext V w0)) (by kernel_rfl) ?_ (fun hHeld => ?_)
        · exact (Ext.refl V).drew
        try simp only [Act.put, List.setIfInBounds_toArray, List.set_cons_zero, List.set_cons_succ, List.getElem_toArray, List.getElem_cons_succ, List.getElem_cons_zero]
        refine wpAnyH_take (i := 0) (oi := _) (v := ?_) rfl (by kernel_rfl) (by kernel_rfl) (by kernel_rfl) (fun _ _ _ h => h) (Or.inl ⟨by rfl, ?_⟩) (by assumption) ?_
        rotate_left
        · intro w0 hSw; have r0 := (hSw.cells.1 _ 0 hM).trans m0; have r1 := (hSw.cells.1 _ 1 hM).trans m1; have r2 := (hSw.cells.1 _ 2 hM).trans m2; have r3 := (hSw.cells.1 _ 3 hM).trans m3; go_simp; try with_reducible rfl
        try simp only [Act.put, List.setIfInBounds_toArray, List.set_cons_zero, List.set_cons_succ, List.getElem_toArray, List.getElem_cons_succ, List.getElem_cons_zero]
        refine wpAnyH_ready (rs := [1]) (by kernel_rfl) (by simp) ?_
        refine AllReadyH.cons (o := _) rfl (fun K hK => ?_) AllReadyH.nil
        go_simp
        (go_at_call 17; (with_reducible refine (r_part11 _).mono ?_); rintro e d1 ⟨pv, rfl, hq, hx3⟩; have hqb := hq; obtain ⟨y5, y6, rfl, hva, hvb⟩ := hqb; obtain ⟨_, _, _, _, rfl, -⟩ := hva.view; obtain ⟨_, _, _, _, rfl, -⟩ := hvb.view)
        refine hK.out _ _ ?_ (fun hHeldN => ?_)
        · (try dsimp only); exact hHeld.trans hx3
        clear hK K hHeld
        have hHeld := hHeldN
        clear hHeldN
        try simp only [Act.put, List.setIfInBounds_toArray, List.set_cons_zero, List.set_cons_succ, List.getElem_toArray, List.getElem_cons_succ, List.getElem_cons_zero]
        refine wpAnyH_ready (rs := [2]) (by kernel_rfl) (by simp) ?_
        refine AllReadyH.cons (o := _) rfl (fun K hK => ?_) AllReadyH.nil
        go_simp
        (go_at_call 10; (with_reducible refine (hsame _ hHeld _ hq).mono ?_); rintro e d2 ⟨rfl, hx4⟩)
        refine hK.out _ _ ?_ (fun hHeldN => ?_)
        · (try dsimp only); exact hHeld.trans hx4
        clear hK K hHeld
        have hHeld := hHeldN
        clear hHeldN
        try simp only [Act.put, List.setIfInBounds_toArray, List.set_cons_zero, List.set_cons_succ, List.getElem_toArray, List.getElem_cons_succ, List.getElem_cons_zero]
        refine wpAnyH_take (i := 3) (oi := _) (v := ?_) rfl (by kernel_rfl) (by kernel_rfl) (by kernel_rfl) (fun _ _ _ h => h) (Or.inl ⟨by rfl, ?_⟩) (by assumption) ?_
        rotate_left
        · intro w0 hSw; go_simp; try with_reducible rfl
        try simp only [Act.put, List.setIfInBounds_toArray, List.set_cons_zero, List.set_cons_succ, List.getElem_toArray, List.getElem_cons_succ, List.getElem_cons_zero]
        refine wpAnyH_done (by kernel_rfl) ?_ _
        go_upto_region 19 with fail
        have hE19 : Ext t2 d2 := kV.out.trans hHeld
        have hEw19 : Ext w d2 := Ext.trans hE2.out hE19
        replace hE19 : Hid _ := hE19
        clear hx3 hx4 hHeld hq hva hvb hsame m0 m1 m2 m3
        rcases Int.lt_or_le kx 0 with hk0 | hk0
        · have dk1 : decide (kx < 0) = true := decide_eq_true hk0
          go_wp2_with fail
          go_ret
          exact ⟨rfl, hEw19⟩
        · rcases Int.lt_or_le kx (2 * (n : Int) + 1) with hk1 | hk1
          · obtain ⟨m, rfl⟩ := Int.eq_ofNat_of_zero_le hk0
            have hm : m < 2 * n + 1 := by omega
            have dk1 : decide ((m : Int) < 0) = false := decide_eq_false (by omega)
            have dk2 : decide (2 * (n : Int) + 1 ≤ (m : Int)) = false := decide_eq_false (by omega)
            have hlm : (m : Int) < 2 * (n : Int) + 1 := by omega
            have hcm := (hEw19.cells.1 b _ hb4').trans (h5 m hm)
            have hxr := h6.out m hm
            obtain ⟨x, ex⟩ : ∃ x, l.getD m 0 = x := ⟨_, rfl⟩
            rw [ex] at hcm hxr
            by_cases hx0' : x = 0
            · subst hx0'
              go_wp2_with fail
              go_ret
              exact ⟨rfl, hEw19⟩
            · by_cases hx2' : x = 2
              · subst hx2'
                go_wp2_with fail
                go_ret
                exact ⟨rfl, hEw19⟩
              · have e0 : (x == 0) = false := by simp [hx0']
                have e2 : (x == 2) = false := by simp [hx2']
                have hx0 : Hid (l.getD m 0 ≠ 0) := (by rw [ex]; exact hx0' : l.getD m 0 ≠ 0)
                have hx2 : Hid (l.getD m 0 ≠ 2) := (by rw [ex]; exact hx2' : l.getD m 0 ≠ 2)
                obtain ⟨i0, hi, hz0, hz1, hz2⟩ := info_parts info47
                have hown : Hid ((d2.alloc (.cells #[] 47)).ownsRow d2.heap.size 47 1 (.slice (some ⟨d2.heap.size, 0, none⟩) 0 0) 0 []) := (World.ownsRow_lit d2 #[] 0 (Nat.le_refl _) (by decide) rfl : (d2.alloc (.cells #[] 47)).ownsRow d2.heap.size 47 1 (.slice (some ⟨d2.heap.size, 0, none⟩) 0 0) 0 [])
                have hl9 : (l.map (Value.int .i8)).length = (2 * n + 1) * 1 := by rw [List.length_map, hn.out, Nat.mul_one]
                have hnews : Hid (∀ j u, (l.map (Value.int .i8))[j]? = some u → (d2.alloc (.cells #[] 47)).cell? ((⟨b, o, none⟩ : Addr).add j) = some u) := (fun j u hu => by
                  rw [List.getElem?_map] at hu
                  cases hj : l[j]? with
                  | none => rw [hj] at hu; cases hu
                  | some z =>
                    rw [hj] at hu
                    simp only [Option.map_some, Option.some.injEq] at hu
                    have hjl : j < 2 * n + 1 := by have := (List.getElem?_eq_some_iff.1 hj).1; have e9 := hn.out; omega
                    have hcj := ((hEw19.alloc (.cells #[] 47)).cells.1 b _ hb4').trans (h5 j hjl)
                    rw [Addr.add_lit]
                    refine hcj.trans ?_
                    rw [List.getD_eq_getElem?_getD, hj, ← hu]
                    rfl : ∀ j u, (l.map (Value.int .i8))[j]? = some u → (d2.alloc (.cells #[] 47)).cell? ((⟨b, o, none⟩ : Addr).add j) = some u)
                have hq1 : Hid (0 + (2 * n + 1) ≤ maxLen) := (by unfold maxLen; omega : 0 + (2 * n + 1) ≤ maxLen)
                have hq2 : Hid ((0 + (2 * n + 1)) * 1 ≤ 140737488355328) := (by omega : (0 + (2 * n + 1)) * 1 ≤ 140737488355328)
                have hq3 : Hid (d2.heap.size ≤ (d2.alloc (.cells #[] 47)).heap.size) := (by rw [World.size_alloc]; exact Nat.le_succ _ : d2.heap.size ≤ (d2.alloc (.cells #[] 47)).heap.size)
                clear ex h5
                go_upto_region 22 with (at_builtin; go_must (refine wpList_append_own _ rfl _ _ 22 rfl d2.heap.size 47 i0 (.int .i8 0) 1 1 Try.underlying22 hi hz0 hz1 hz2 rfl (by decide) _ _ _ rfl hown.out ⟨b, o, none⟩ (2 * n + 1) cap (l.map (Value.int .i8)) rfl hl9 hnews.out (ints_oneCell .i8 _) hq1.out hq2.out hq3.out ?_); intro v' w9 hown1 hgrow1 hnil; have hEg : Ext d2 w9 := own_growG ((Ext.refl d2).alloc _) hown.out (Nat.le_refl _) hgrow1; rw [Nat.zero_add, List.nil_append] at hown1; obtain ⟨g, gc, rfl, p1, p2, p3, p4⟩ := own_formG hown1; replace hown1 : Hid _ := hown1; replace hEg : Hid _ := hEg; clear hgrow1 hnil)
                have hcg := World.ownsRow.cellAt hown1.out m (by omega)
                rw [List.getElem?_map, List.getElem?_eq_getElem (by rw [hn.out]; exact hm)] at hcg
                obtain ⟨zz, ezz⟩ : ∃ zz, l[m]'(by rw [hn.out]; exact hm) = zz := ⟨_, rfl⟩
                rw [ezz] at hcg
                simp only [Option.map_some] at hcg
                have hfg := World.ownsRow.frozenAt hown1.out m
                have hw1 : w9.ownsRow d2.heap.size 47 1 (.slice (some ⟨g, 0, none⟩) (2 * n + 1) gc) (2 * n + 1) (l.map (Value.int .i8)) := hown1.out
                have hown2 := (hw1.stored m (.int .i8 0)).1
                clear hw1
                rw [show (l.map (Value.int .i8)).set m (.int .i8 0) = (l.set m 0).map (Value.int .i8) from by rw [List.map_set]] at hown2
                have hEk : Ext d2 (w9.setCell ⟨g, m, none⟩ (.int .i8 0)) := hEg.out.setCell (p := ⟨g, m, none⟩) p1 _
                replace hown2 : Hid _ := hown2
                clear ezz hown hnews hq1 hq2 hq3 hl9 hi hz0 hz1 hz2
                cases sure
                · go_upto_region 25 with fail
                  refine wp_name fun Wk hWk => ?_
                  have hk9 : (Wk.ownsRow d2.heap.size 47 1 (.slice (some ⟨g, 0, none⟩) (2 * n + 1) gc) (2 * n + 1) ((l.set m 0).map (Value.int .i8))) ∧ Ext d2 Wk := by
                    have e9 : Wk = _ := hWk
                    rw [e9]; exact ⟨hown2.out, hEk⟩
                  obtain ⟨hown3, hEk2⟩ := hk9
                  have hkw : Hid (Ext t2 Wk) := (Ext.trans hE19.out hEk2 : Ext t2 Wk)
                  replace hown3 : Hid _ := hown3
                  replace hx0 := hx0.out
                  replace hx2 := hx2.out
                  clear hWk hown1 hown2 hEk hEk2 hcg hfg hcm
                  obtain ⟨ok2, len2⟩ := hset.out m 0 hm (by decide)
                  obtain ⟨mo1, mo2⟩ := hmon.out m 0 hm hx0 hx2
                  have hOc : Oc Wk (.slice (some ⟨g, 0, none⟩) (2 * n + 1) gc) (l.set m 0) := by
                    have h9 := Oc.own (l := l.set m 0) (by rw [len2]; exact hown3.out) (fun i hi => by
                      have := ((ok_iff _).1 ok2).2.2 i hi
                      omega)
                    rw [len2] at h9
                    exact h9
                  have hbd2 := w_Bounds _ (l.set m 0) n Wk hOc ok2 len2 hn2
                  obtain ⟨T1, eT1⟩ : ∃ S, wsum isSure (l.set m 0) n (2 * n + 1) = S := ⟨_, rfl⟩
                  obtain ⟨T2, eT2⟩ : ∃ S, wsum isAny (l.set m 0) n (2 * n + 1) = S := ⟨_, rfl⟩
                  have hT12 := wsum_sure_any (l.set m 0) n (2 * n + 1)
                  rw [eT1, eT2, eD.out] at hbd2
                  rw [eT1] at mo1 hT12
                  rw [eT2] at mo2 hT12
                  have p1 : T1 ≤ 70368744177664 := Nat.le_trans hT12 (Nat.le_trans mo2 q2.out)
                  have p2 : T2 ≤ 70368744177664 := Nat.le_trans mo2 q2.out
                  replace p1 : Hid _ := p1
                  replace p2 : Hid _ := p2
                  replace mo1 : Hid _ := mo1
                  replace mo2 : Hid _ := mo2
                  clear hOc eT1 eT2 hT12 ok2 len2 hown3
                  go_upto_region 26 with (go_at_call 6; (with_reducible refine (hbd2).mono ?_); rintro e t5 ⟨_, _, rfl, ⟨u3, s3, rfl, hu3, hs3⟩, ⟨u4, s4, rfl, hu4, hs4⟩, hbt5⟩; obtain ⟨x3a, _, _, z3a, rfl, -⟩ := hu3.view; obtain ⟨x3b, _, _, z3b, rfl, -⟩ := hs3.view; obtain ⟨x4a, _, _, z4a, rfl, -⟩ := hu4.view; obtain ⟨x4b, _, _, z4b, rfl, -⟩ := hs4.view)
                  refine wp_name fun Wz hWz => ?_
                  have hi5 : Ext t5 Wz ∧ t5.heap.size + 1 < Wz.heap.size ∧ (Wz.cell? ⟨t5.heap.size, 0, none⟩ = some (.bool false) ∧ Wz.cell? ⟨t5.heap.size, 1, none⟩ = some (.slice x3a (dig (rn T1 D)).length z3a) ∧ Wz.cell? ⟨t5.heap.size, 2, none⟩ = some (.bool false) ∧ Wz.cell? ⟨t5.heap.size, 3, none⟩ = some (.slice x3b (dig (rd T1 D)).length z3b) ∧ Wz.cell? ⟨t5.heap.size + 1, 0, none⟩ = some (.bool false) ∧ Wz.cell? ⟨t5.heap.size + 1, 1, none⟩ = some (.slice x4a (dig (rn T2 D)).length z4a) ∧ Wz.cell? ⟨t5.heap.size + 1, 2, none⟩ = some (.bool false) ∧ Wz.cell? ⟨t5.heap.size + 1, 3, none⟩ = some (.slice x4b (dig (rd T2 D)).length z4b)) := by
                    have e9 : Wz = _ := hWz
                    rw [e9]
                    refine ⟨((Ext.refl _).alloc _).alloc _, by simp, ?_⟩
                    simp [go_sem, ↓IntWalk.iteOmega]
                  clear hWz
                  obtain ⟨hT5, hZ5, hC5⟩ := hi5
                  replace hC5 : Hid _ := hC5
                  have k2z : Ext t2 Wz := Ext.trans hkw.out (Ext.trans hbt5 hT5)
                  have hcz : Hid (∀ W', Ext Wz W' → (W'.cell? ⟨t1.heap.size, 0, none⟩ = some (.bool false) ∧ W'.cell? ⟨t1.heap.size, 1, none⟩ = some (.slice x1a (dig (rn S1 D)).length z1a) ∧ W'.cell? ⟨t1.heap.size, 2, none⟩ = some (.bool false) ∧ W'.cell? ⟨t1.heap.size, 3, none⟩ = some (.slice x1b (dig (rd S1 D)).length z1b) ∧ W'.cell? ⟨t1.heap.size + 1, 0, none⟩ = some (.bool false) ∧ W'.cell? ⟨t1.heap.size + 1, 1, none⟩ = some (.slice x2a (dig (rn S2 D)).length z2a) ∧ W'.cell? ⟨t1.heap.size + 1, 2, none⟩ = some (.bool false) ∧ W'.cell? ⟨t1.heap.size + 1, 3, none⟩ = some (.slice x2b (dig (rd S2 D)).length z2b)) ∧ (W'.cell? ⟨t5.heap.size, 0, none⟩ = some (.bool false) ∧ W'.cell? ⟨t5.heap.size, 1, none⟩ = some (.slice x3a (dig (rn T1 D)).length z3a) ∧ W'.cell? ⟨t5.heap.size, 2, none⟩ = some (.bool false) ∧ W'.cell? ⟨t5.heap.size, 3, none⟩ = some (.slice x3b (dig (rd T1 D)).length z3b) ∧ W'.cell? ⟨t5.heap.size + 1, 0, none⟩ = some (.bool false) ∧ W'.cell? ⟨t5.heap.size + 1, 1, none⟩ = some (.slice x4a (dig (rn T2 D)).length z4a) ∧ W'.cell? ⟨t5.heap.size + 1, 2, none⟩ = some (.bool false) ∧ W'.cell? ⟨t5.heap.size + 1, 3, none⟩ = some (.slice x4b (dig (rd T2 D)).length z4b))) := (fun W' k => by
                    obtain ⟨c0, c1, c2, c3, d0, d1, d2, d3⟩ := hC5.out
                    have m' := fun bb oo hh => k.cells.1 bb oo hh
                    exact ⟨hcl.out W' (k2z.trans k), (m' _ _ (by omega)).trans c0, (m' _ _ (by omega)).trans c1, (m' _ _ (by omega)).trans c2, (m' _ _ (by omega)).trans c3, (m' _ _ (by omega)).trans d0, (m' _ _ (by omega)).trans d1, (m' _ _ (by omega)).trans d2, (m' _ _ (by omega)).trans d3⟩ : ∀ W', Ext Wz W' → (W'.cell? ⟨t1.heap.size, 0, none⟩ = some (.bool false) ∧ W'.cell? ⟨t1.heap.size, 1, none⟩ = some (.slice x1a (dig (rn S1 D)).length z1a) ∧ W'.cell? ⟨t1.heap.size, 2, none⟩ = some (.bool false) ∧ W'.cell? ⟨t1.heap.size, 3, none⟩ = some (.slice x1b (dig (rd S1 D)).length z1b) ∧ W'.cell? ⟨t1.heap.size + 1, 0, none⟩ = some (.bool false) ∧ W'.cell? ⟨t1.heap.size + 1, 1, none⟩ = some (.slice x2a (dig (rn S2 D)).length z2a) ∧ W'.cell? ⟨t1.heap.size + 1, 2, none⟩ = some (.bool false) ∧ W'.cell? ⟨t1.heap.size + 1, 3, none⟩ = some (.slice x2b (dig (rd S2 D)).length z2b)) ∧ (W'.cell? ⟨t5.heap.size, 0, none⟩ = some (.bool false) ∧ W'.cell? ⟨t5.heap.size, 1, none⟩ = some (.slice x3a (dig (rn T1 D)).length z3a) ∧ W'.cell? ⟨t5.heap.size, 2, none⟩ = some (.bool false) ∧ W'.cell? ⟨t5.heap.size, 3, none⟩ = some (.slice x3b (dig (rd T1 D)).length z3b) ∧ W'.cell? ⟨t5.heap.size + 1, 0, none⟩ = some (.bool false) ∧ W'.cell? ⟨t5.heap.size + 1, 1, none⟩ = some (.slice x4a (dig (rn T2 D)).length z4a) ∧ W'.cell? ⟨t5.heap.size + 1, 2, none⟩ = some (.bool false) ∧ W'.cell? ⟨t5.heap.size + 1, 3, none⟩ = some (.slice x4b (dig (rd T2 D)).length z4b)))
                  have fC : Fq Wz (.agg #[.bool false, .slice x3a (dig (rn T1 D)).length z3a, .bool false, .slice x3b (dig (rd T1 D)).length z3b]) (rn T1 D) (rd T1 D) := ⟨_, _, rfl, hu3.ext hT5, hs3.ext hT5⟩
                  have fD : Fq Wz (.agg #[.bool false, .slice x4a (dig (rn T2 D)).length z4a, .bool false, .slice x4b (dig (rd T2 D)).length z4b]) (rn T2 D) (rd T2 D) := ⟨_, _, rfl, hu4.ext hT5, hs4.ext hT5⟩
                  have hcC := fun w1 (k : Ext Wz w1) => r_fCheckD _ T1 D w1 (fC.ext k) p1.out qD0.out qD.out
                  have hcD := fun w1 (k : Ext Wz w1) => r_fCheckD _ T2 D w1 (fD.ext k) p2.out qD0.out qD.out
                  have hcAC := fun w1 (k : Ext Wz w1) => r_atMostD _ _ S1 T1 D w1 (fA.ext (k2z.trans k)) (fC.ext k) mo1.out p1.out qD0.out qD.out
                  have hcDB := fun w1 (k : Ext Wz w1) => r_atMostD _ _ T2 S2 D w1 (fD.ext k) (fB.ext (k2z.trans k)) mo2.out q2.out qD0.out qD.out
                  obtain ⟨⟨a0, a1, a2, a3, b0, b1, b2, b3⟩, c0, c1, c2, c3, d0, d1, d2, d3⟩ := hcz.out Wz (Ext.refl Wz)
                  have hEz : Hid (Ext w Wz) := (Ext.trans hE2.out k2z : Ext w Wz)
                  clear hu3 hs3 hu4 hs4 hC5 hbd2 hbt5 hT5 fC fD
                  go_wp2_with (first
                    | (go_at_call 15; (with_reducible refine (hcC _ (Ext.refl _)).mono ?_); rintro e v1 ⟨rfl, k1⟩; clear hcC a0 a1 a2 a3 b0 b1 b2 b3 c0 c1 c2 c3 d0 d1 d2 d3; obtain ⟨⟨a0, a1, a2, a3, b0, b1, b2, b3⟩, c0, c1, c2, c3, d0, d1, d2, d3⟩ := hcz.out v1 k1)
                    | (go_at_call 15; (with_reducible refine (hcD _ k1).mono ?_); rintro e v2 ⟨rfl, k2⟩; have k3 := k1.trans k2; clear a0 a1 a2 a3 b0 b1 b2 b3 c0 c1 c2 c3 d0 d1 d2 d3; obtain ⟨⟨a0, a1, a2, a3, b0, b1, b2, b3⟩, c0, c1, c2, c3, d0, d1, d2, d3⟩ := hcz.out v2 k3)
                    | (go_at_call 16; (with_reducible refine (hcAC _ k3).mono ?_); rintro e v3 ⟨rfl, k4⟩; have k5 := k3.trans k4; clear a0 a1 a2 a3 b0 b1 b2 b3 c0 c1 c2 c3 d0 d1 d2 d3; obtain ⟨⟨a0, a1, a2, a3, b0, b1, b2, b3⟩, c0, c1, c2, c3, d0, d1, d2, d3⟩ := hcz.out v3 k5)
                    | (go_at_call 16; (with_reducible refine (hcDB _ k5).mono ?_); rintro e v4 ⟨rfl, k6⟩))
                  go_ret
                  exact ⟨rfl, Ext.trans hEz.out (Ext.trans k5 k6)⟩
                · have hcg2 : (w9.setCell ⟨g, m, none⟩ (.int .i8 0)).cell? ⟨g, m, none⟩ = some (.int .i8 0) := by rw [cell_sc, if_pos rfl, hcg]; rfl
                  have hfg2 : (w9.setCell ⟨g, m, none⟩ (.int .i8 0)).frozen? ⟨g, m, none⟩ = false := by rw [World.frozen?_setCell]; exact hfg
                  have hw2 : (w9.setCell ⟨g, m, none⟩ (.int .i8 0)).ownsRow d2.heap.size 47 1 (.slice (some ⟨g, 0, none⟩) (2 * n + 1) gc) (2 * n + 1) ((l.set m 0).map (Value.int .i8)) := hown2.out
                  have hown4 := (hw2.stored m (.int .i8 2)).1
                  clear hw2
                  rw [show ((l.set m 0).map (Value.int .i8)).set m (.int .i8 2) = (l.set m 2).map (Value.int .i8) from by rw [← List.map_set, List.set_set]] at hown4
                  have hEk3 : Ext d2 ((w9.setCell ⟨g, m, none⟩ (.int .i8 0)).setCell ⟨g, m, none⟩ (.int .i8 2)) := hEk.setCell (p := ⟨g, m, none⟩) p1 _
                  replace hown4 : Hid _ := hown4
                  go_upto_region 25 with fail
                  refine wp_name fun Wk hWk => ?_
                  have hk9 : (Wk.ownsRow d2.heap.size 47 1 (.slice (some ⟨g, 0, none⟩) (2 * n + 1) gc) (2 * n + 1) ((l.set m 2).map (Value.int .i8))) ∧ Ext d2 Wk := by
                    have e9 : Wk = _ := hWk
                    rw [e9]; exact ⟨hown4.out, hEk3⟩
                  obtain ⟨hown3, hEk2⟩ := hk9
                  have hkw : Hid (Ext t2 Wk) := (Ext.trans hE19.out hEk2 : Ext t2 Wk)
                  replace hown3 : Hid _ := hown3
                  replace hx0 := hx0.out
                  replace hx2 := hx2.out
                  clear hWk hown1 hown2 hown4 hEk hEk2 hEk3 hcg hfg hcm hcg2 hfg2
                  obtain ⟨ok2, len2⟩ := hset.out m 2 hm (by decide)
                  obtain ⟨mo1, mo2⟩ := hmon.out m 2 hm hx0 hx2
                  have hOc : Oc Wk (.slice (some ⟨g, 0, none⟩) (2 * n + 1) gc) (l.set m 2) := by
                    have h9 := Oc.own (l := l.set m 2) (by rw [len2]; exact hown3.out) (fun i hi => by
                      have := ((ok_iff _).1 ok2).2.2 i hi
                      omega)
                    rw [len2] at h9
                    exact h9
                  have hbd2 := w_Bounds _ (l.set m 2) n Wk hOc ok2 len2 hn2
                  obtain ⟨T1, eT1⟩ : ∃ S, wsum isSure (l.set m 2) n (2 * n + 1) = S := ⟨_, rfl⟩
                  obtain ⟨T2, eT2⟩ : ∃ S, wsum isAny (l.set m 2) n (2 * n + 1) = S := ⟨_, rfl⟩
                  have hT12 := wsum_sure_any (l.set m 2) n (2 * n + 1)
                  rw [eT1, eT2, eD.out] at hbd2
                  rw [eT1] at mo1 hT12
                  rw [eT2] at mo2 hT12
                  have p1 : T1 ≤ 70368744177664 := Nat.le_trans hT12 (Nat.le_trans mo2 q2.out)
                  have p2 : T2 ≤ 70368744177664 := Nat.le_trans mo2 q2.out
                  replace p1 : Hid _ := p1
                  replace p2 : Hid _ := p2
                  replace mo1 : Hid _ := mo1
                  replace mo2 : Hid _ := mo2
                  clear hOc eT1 eT2 hT12 ok2 len2 hown3
                  go_upto_region 26 with (go_at_call 6; (with_reducible refine (hbd2).mono ?_); rintro e t5 ⟨_, _, rfl, ⟨u3, s3, rfl, hu3, hs3⟩, ⟨u4, s4, rfl, hu4, hs4⟩, hbt5⟩; obtain ⟨x3a, _, _, z3a, rfl, -⟩ := hu3.view; obtain ⟨x3b, _, _, z3b, rfl, -⟩ := hs3.view; obtain ⟨x4a, _, _, z4a, rfl, -⟩ := hu4.view; obtain ⟨x4b, _, _, z4b, rfl, -⟩ := hs4.view)
                  refine wp_name fun Wz hWz => ?_
                  have hi5 : Ext t5 Wz ∧ t5.heap.size + 1 < Wz.heap.size ∧ (Wz.cell? ⟨t5.heap.size, 0, none⟩ = some (.bool false) ∧ Wz.cell? ⟨t5.heap.size, 1, none⟩ = some (.slice x3a (dig (rn T1 D)).length z3a) ∧ Wz.cell? ⟨t5.heap.size, 2, none⟩ = some (.bool false) ∧ Wz.cell? ⟨t5.heap.size, 3, none⟩ = some (.slice x3b (dig (rd T1 D)).length z3b) ∧ Wz.cell? ⟨t5.heap.size + 1, 0, none⟩ = some (.bool false) ∧ Wz.cell? ⟨t5.heap.size + 1, 1, none⟩ = some (.slice x4a (dig (rn T2 D)).length z4a) ∧ Wz.cell? ⟨t5.heap.size + 1, 2, none⟩ = some (.bool false) ∧ Wz.cell? ⟨t5.heap.size + 1, 3, none⟩ = some (.slice x4b (dig (rd T2 D)).length z4b)) := by
                    have e9 : Wz = _ := hWz
                    rw [e9]
                    refine ⟨((Ext.refl _).alloc _).alloc _, by simp, ?_⟩
                    simp [go_sem, ↓IntWalk.iteOmega]
                  clear hWz
                  obtain ⟨hT5, hZ5, hC5⟩ := hi5
                  replace hC5 : Hid _ := hC5
                  have k2z : Ext t2 Wz := Ext.trans hkw.out (Ext.trans hbt5 hT5)
                  have hcz : Hid (∀ W', Ext Wz W' → (W'.cell? ⟨t1.heap.size, 0, none⟩ = some (.bool false) ∧ W'.cell? ⟨t1.heap.size, 1, none⟩ = some (.slice x1a (dig (rn S1 D)).length z1a) ∧ W'.cell? ⟨t1.heap.size, 2, none⟩ = some (.bool false) ∧ W'.cell? ⟨t1.heap.size, 3, none⟩ = some (.slice x1b (dig (rd S1 D)).length z1b) ∧ W'.cell? ⟨t1.heap.size + 1, 0, none⟩ = some (.bool false) ∧ W'.cell? ⟨t1.heap.size + 1, 1, none⟩ = some (.slice x2a (dig (rn S2 D)).length z2a) ∧ W'.cell? ⟨t1.heap.size + 1, 2, none⟩ = some (.bool false) ∧ W'.cell? ⟨t1.heap.size + 1, 3, none⟩ = some (.slice x2b (dig (rd S2 D)).length z2b)) ∧ (W'.cell? ⟨t5.heap.size, 0, none⟩ = some (.bool false) ∧ W'.cell? ⟨t5.heap.size, 1, none⟩ = some (.slice x3a (dig (rn T1 D)).length z3a) ∧ W'.cell? ⟨t5.heap.size, 2, none⟩ = some (.bool false) ∧ W'.cell? ⟨t5.heap.size, 3, none⟩ = some (.slice x3b (dig (rd T1 D)).length z3b) ∧ W'.cell? ⟨t5.heap.size + 1, 0, none⟩ = some (.bool false) ∧ W'.cell? ⟨t5.heap.size + 1, 1, none⟩ = some (.slice x4a (dig (rn T2 D)).length z4a) ∧ W'.cell? ⟨t5.heap.size + 1, 2, none⟩ = some (.bool false) ∧ W'.cell? ⟨t5.heap.size + 1, 3, none⟩ = some (.slice x4b (dig (rd T2 D)).length z4b))) := (fun W' k => by
                    obtain ⟨c0, c1, c2, c3, d0, d1, d2, d3⟩ := hC5.out
                    have m' := fun bb oo hh => k.cells.1 bb oo hh
                    exact ⟨hcl.out W' (k2z.trans k), (m' _ _ (by omega)).trans c0, (m' _ _ (by omega)).trans c1, (m' _ _ (by omega)).trans c2, (m' _ _ (by omega)).trans c3, (m' _ _ (by omega)).trans d0, (m' _ _ (by omega)).trans d1, (m' _ _ (by omega)).trans d2, (m' _ _ (by omega)).trans d3⟩ : ∀ W', Ext Wz W' → (W'.cell? ⟨t1.heap.size, 0, none⟩ = some (.bool false) ∧ W'.cell? ⟨t1.heap.size, 1, none⟩ = some (.slice x1a (dig (rn S1 D)).length z1a) ∧ W'.cell? ⟨t1.heap.size, 2, none⟩ = some (.bool false) ∧ W'.cell? ⟨t1.heap.size, 3, none⟩ = some (.slice x1b (dig (rd S1 D)).length z1b) ∧ W'.cell? ⟨t1.heap.size + 1, 0, none⟩ = some (.bool false) ∧ W'.cell? ⟨t1.heap.size + 1, 1, none⟩ = some (.slice x2a (dig (rn S2 D)).length z2a) ∧ W'.cell? ⟨t1.heap.size + 1, 2, none⟩ = some (.bool false) ∧ W'.cell? ⟨t1.heap.size + 1, 3, none⟩ = some (.slice x2b (dig (rd S2 D)).length z2b)) ∧ (W'.cell? ⟨t5.heap.size, 0, none⟩ = some (.bool false) ∧ W'.cell? ⟨t5.heap.size, 1, none⟩ = some (.slice x3a (dig (rn T1 D)).length z3a) ∧ W'.cell? ⟨t5.heap.size, 2, none⟩ = some (.bool false) ∧ W'.cell? ⟨t5.heap.size, 3, none⟩ = some (.slice x3b (dig (rd T1 D)).length z3b) ∧ W'.cell? ⟨t5.heap.size + 1, 0, none⟩ = some (.bool false) ∧ W'.cell? ⟨t5.heap.size + 1, 1, none⟩ = some (.slice x4a (dig (rn T2 D)).length z4a) ∧ W'.cell? ⟨t5.heap.size + 1, 2, none⟩ = some (.bool false) ∧ W'.cell? ⟨t5.heap.size + 1, 3, none⟩ = some (.slice x4b (dig (rd T2 D)).length z4b)))
                  have fC : Fq Wz (.agg #[.bool false, .slice x3a (dig (rn T1 D)).length z3a, .bool false, .slice x3b (dig (rd T1 D)).length z3b]) (rn T1 D) (rd T1 D) := ⟨_, _, rfl, hu3.ext hT5, hs3.ext hT5⟩
                  have fD : Fq Wz (.agg #[.bool false, .slice x4a (dig (rn T2 D)).length z4a, .bool false, .slice x4b (dig (rd T2 D)).length z4b]) (rn T2 D) (rd T2 D) := ⟨_, _, rfl, hu4.ext hT5, hs4.ext hT5⟩
                  have hcC := fun w1 (k : Ext Wz w1) => r_fCheckD _ T1 D w1 (fC.ext k) p1.out qD0.out qD.out
                  have hcD := fun w1 (k : Ext Wz w1) => r_fCheckD _ T2 D w1 (fD.ext k) p2.out qD0.out qD.out
                  have hcAC := fun w1 (k : Ext Wz w1) => r_atMostD _ _ S1 T1 D w1 (fA.ext (k2z.trans k)) (fC.ext k) mo1.out p1.out qD0.out qD.out
                  have hcDB := fun w1 (k : Ext Wz w1) => r_atMostD _ _ T2 S2 D w1 (fD.ext k) (fB.ext (k2z.trans k)) mo2.out q2.out qD0.out qD.out
                  obtain ⟨⟨a0, a1, a2, a3, b0, b1, b2, b3⟩, c0, c1, c2, c3, d0, d1, d2, d3⟩ := hcz.out Wz (Ext.refl Wz)
                  have hEz : Hid (Ext w Wz) := (Ext.trans hE2.out k2z : Ext w Wz)
                  clear hu3 hs3 hu4 hs4 hC5 hbd2 hbt5 hT5 fC fD
                  go_wp2_with (first
                    | (go_at_call 15; (with_reducible refine (hcC _ (Ext.refl _)).mono ?_); rintro e v1 ⟨rfl, k1⟩; clear hcC a0 a1 a2 a3 b0 b1 b2 b3 c0 c1 c2 c3 d0 d1 d2 d3; obtain ⟨⟨a0, a1, a2, a3, b0, b1, b2, b3⟩, c0, c1, c2, c3, d0, d1, d2, d3⟩ := hcz.out v1 k1)
                    | (go_at_call 15; (with_reducible refine (hcD _ k1).mono ?_); rintro e v2 ⟨rfl, k2⟩; have k3 := k1.trans k2; clear a0 a1 a2 a3 b0 b1 b2 b3 c0 c1 c2 c3 d0 d1 d2 d3; obtain ⟨⟨a0, a1, a2, a3, b0, b1, b2, b3⟩, c0, c1, c2, c3, d0, d1, d2, d3⟩ := hcz.out v2 k3)
                    | (go_at_call 16; (with_reducible refine (hcAC _ k3).mono ?_); rintro e v3 ⟨rfl, k4⟩; have k5 := k3.trans k4; clear a0 a1 a2 a3 b0 b1 b2 b3 c0 c1 c2 c3 d0 d1 d2 d3; obtain ⟨⟨a0, a1, a2, a3, b0, b1, b2, b3⟩, c0, c1, c2, c3, d0, d1, d2, d3⟩ := hcz.out v3 k5)
                    | (go_at_call 16; (with_reducible refine (hcDB _ k5).mono ?_); rintro e v4 ⟨rfl, k6⟩))
                  go_ret
                  exact ⟨rfl, Ext.trans hEz.out (Ext.trans k5 k6)⟩
          · have dk1 : decide (kx < 0) = false := decide_eq_false (by omega)
            have dk2 : decide (2 * (n : Int) + 1 ≤ kx) = true := decide_eq_true hk1
            go_wp2_with fail
            go_ret
            exact ⟨rfl, hEw19⟩
      · have hc := ((hEw.out.trans h8w).cells.1 b _ hb4').trans (h5 k hk2)
        have hx := ho3.out k hk2
        have hbn := bin_le (2 * n) k
        have h40 : 2 ^ (2 * n) ≤ 2 ^ 40 := Nat.pow_le_pow_right (by decide) (by omega)
        have h402 : 2 ^ 40 = 1099511627776 := by decide
        have hk41 : k * 1099511627776 ≤ 41 * 1099511627776 := Nat.mul_le_mul_right _ (by omega)
        have hs0 := wsum_le isNone l n hn2 k
        have dk1 : decide ((k : Int) < 2 * (n : Int) + 1) = true := decide_eq_true (by omega)
        have hk3 : (k : Int) < 2 * (n : Int) + 1 := by omega
        obtain ⟨x, ex⟩ : ∃ x, l.getD k 0 = x := ⟨_, rfl⟩
        have hnext : Hid (∀ S wz, S = wsum isNone l n k + (if isNone x then bin (2 * n) k else 0) → BnK t8 N (rn S (4 ^ n)) (rd S (4 ^ n)) wz → BnL t8 l n N (.int .i64 ((k : Int) + 1)) wz) := fun S wz e1 h => by
          have f1 : wsum isNone l n (k + 1) = S := by rw [e1, ← ex]; rfl
          refine ⟨k + 1, hk2, by go_num, ?_⟩
          rw [f1]; exact h
        have hwt : ∀ wz, Ext wr wz → ∃ u s, wz.cell? ⟨B, k * 4, none⟩ = some (.bool false) ∧ wz.cell? ⟨B, k * 4 + 1, none⟩ = some u ∧ wz.cell? ⟨B, k * 4 + 2, none⟩ = some (.bool false) ∧ wz.cell? ⟨B, k * 4 + 3, none⟩ = some s ∧ Lim wz u (dig (rn (bin (2 * n) k) (4 ^ n))) ∧ Lim wz s (dig (rd (bin (2 * n) k) (4 ^ n))) := fun wz k1 => (hWR.out.ext (hE8.out.trans (h8w.trans k1))).2 k hk2
        rw [ex] at hc hx
        clear ex
        obtain ⟨T0, eT0⟩ : ∃ S, wsum isNone l n k = S := ⟨_, rfl⟩
        obtain ⟨W1, eW1⟩ : ∃ S, bin (2 * n) k = S := ⟨_, rfl⟩
        rw [eT0] at hs0 HB hnext
        rw [eW1] at hbn hnext hwt
        rw [eD.out] at HB hnext hwt
        replace hs0 : Hid (T0 ≤ 70368744177664) := (by omega : T0 ≤ 70368744177664)
        replace hbn : Hid (W1 ≤ 70368744177664) := (by omega : W1 ≤ 70368744177664)
        replace hwt : Hid _ := hwt
        clear eT0 eW1 h40 h402 hk41
        obtain ⟨u3, s3, e1, e2, e3, e4, e5, e6⟩ := hwt.out wr (Ext.refl wr)
        obtain ⟨x5, _, y5, z5, rfl, -⟩ := e5.view
        obtain ⟨x6, _, y6, z6, rfl, -⟩ := e6.view
        have hck := r_fCheckD _ W1 D wr (fq_mk e5 e6) hbn.out qD0.out qD.out
        have hbw : b < wr.heap.size := Nat.lt_of_lt_of_le hb4' (hEw.out.trans h8w).size
        clear e5 e6
        go_upto_region 14 with (go_at_call 15; (with_reducible refine hck.mono ?_); rintro e td ⟨rfl, hx12⟩)
        clear hck e1 e2 e3 e4
        replace HB : Hid (BnK t8 N (rn T0 D) (rd T0 D) td) := (HB.out.ext hx12 : BnK _ _ _ _ _)
        replace hc := (hx12.cells.1 _ _ hbw).trans hc
        by_cases hx0 : x = 0
        · subst hx0
          obtain ⟨u3, s3, e1, e2, e3, e4, e5, e6⟩ := hwt.out td hx12
          obtain ⟨x5, _, y5, z5, rfl, -⟩ := e5.view
          obtain ⟨x6, _, y6, z6, rfl, -⟩ := e6.view
          obtain ⟨⟨u4, s4, a1, a2, a3, a4, a5, a6⟩, n1, f1, hs11, hB1, hB2⟩ := HB.out
          obtain ⟨x1, _, y1', z1', rfl, -⟩ := a5.view
          obtain ⟨x2, _, y2', z2', rfl, -⟩ := a6.view
          go_wp2_with fail
          go_region_with ((go_at_call 18; (with_reducible refine (r_PlusD _ _ T0 W1 D _ (fq_mk (a5.ext (Ext.refl td).drew) (a6.ext (Ext.refl td).drew)) (fq_mk (e5.ext (Ext.refl td).drew) (e6.ext (Ext.refl td).drew)) hs0.out hbn.out qD0.out qD.out).mono ?_); rintro e w7 ⟨y, rfl, ⟨u7, s7, rfl, hu7, hs7⟩, hb7⟩; obtain ⟨x7, _, y7, z7, rfl, -⟩ := hu7.view; obtain ⟨x8, _, y8, z8, rfl, -⟩ := hs7.view; obtain ⟨_, _, hc7, hf7⟩ := hb7.cells2; have hz7 := hb7.size; have hE7 : Ext td w7 := (Ext.refl td).drew.trans hb7))
          all_goals
            have hrel := hnext.out (T0 + W1) _ rfl ((HB.out.ext hE7).put hu7 hs7)
            replace hrel : Hid _ := hrel
            clear HB a1 a2 a3 a4 a5 a6 e1 e2 e3 e4 e5 e6 n1 f1 hu7 hs7 hc7 hf7 hb7
            go_wp2_with fail
            go_roundw
            case rel => exact hrel.out
            case measure => simp [intOf]; omega
        · have hi0 : isNone x = false := by unfold isNone; exact beq_eq_false_iff_ne.2 hx0
          have hxb : (x == 0) = false := by simp [hx0]
          have hrel := hnext.out T0 td (by rw [hi0]; simp) HB.out
          replace hrel : Hid _ := hrel
          clear HB hnext
          go_wp2_with fail
          go_roundw
          case rel => exact hrel.out
          case measure => simp [intOf]; omega

end Go.Proofs.Ytcalonhphknbbaa
