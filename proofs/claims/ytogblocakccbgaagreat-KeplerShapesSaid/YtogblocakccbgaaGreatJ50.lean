/- planisphereref33: Period (over the contract of shape). -/
import Derived.Test.YtogblocakccbgaaGreatJ00
import Derived.Test.YtogblocakccbgaaGreatJ49
import Derived.Deep.CutRange
set_option linter.unusedSimpArgs false
set_option linter.unusedVariables false
set_option maxRecDepth 100000
set_option maxHeartbeats 4000000
namespace Go.Proofs.YtogblocakccbgaaGreat
open Go.RowKit
theorem T_RPP_15 {p : Prop} (h : p := by
 have rhT20 := hT2.at 0 0 (by decide) rfl
 have fhT20 := hT2.2.1 0
 have rhT21 := hT2.at 1 0 (by decide) rfl
 have fhT21 := hT2.2.1 1
 have zT2 := hT2.2.2
 exact T_RPP_8) : p := h
theorem T_RPP_14 {p : Prop} (h : p := by
 (try go_wp2_with fail)
 go_meet
 exact ⟨_, rfl, hga, (Bn.congr hSl c_49), hT2, (Bn.congr hC c_50), hE⟩) : p := h
theorem T_RPP_13 {p : Prop} (h : p := by
 intro w0 hSw; have qm0 := hSw.1.at 0 m1 (by decide) rfl; have qm1 := hSw.1.at 1 n1 (by decide) rfl; have qa0 := hSw.2.at 0 l6 (by decide) rfl; have qa1 := hSw.2.at 1 u6 (by decide) rfl; go_simp; try with_reducible rfl) : p := h
theorem T_RPP_12 {p : Prop} (h : p := by
 rw [← hU]
 refine ⟨fun o ho => ?_, fun o => by simp [go_sem, ↓IntWalk.iteOmega], by simp <;> omega⟩
 have hoo : o = 0 ∨ o = 1 := by omega
 rcases hoo with rfl | rfl <;> simp [go_sem, ↓IntWalk.iteOmega]) : p := h
theorem T_RPP_11 {p : Prop} (h : p := by
 refine wpAnyH_ready (rs := [6]) c_4 (by simp) ?_
 refine rd1 rfl fun K hK => ?_
 have hN := hHeld
 go_simp
 (go_at_call 49; (have hcc := hC.at 0 (f4) (by decide) rfl); (have hcf := hC.2.1 0); (with_reducible refine (c5.out _ _ hcc hcf).mono ?_); rintro e w1 ⟨rfl, hb⟩; clear hcc hcf; (have hg := GB.trans (GB.set (GB.refl gC _) _) (GB.ext hb)); replace hC := (hC.set 0 f5).ext hb; replace hN := hN.grown hg (by omega); replace hT2 := hT2.grown hg (by omega); replace hSl := hSl.grown hg (by omega); replace hE := GB.pre hE hg (by omega); clear hg)
 refine hK.out _ _ ?_ (fun hHeldN => ?_)
 ·(try dsimp only); exact hN
 clear hK K hHeld
 have hHeld := hHeldN
 clear hHeldN
 try simp only [sx_]
 clear hN hb
 exact T_RPP_1) : p := h
theorem T_RPP_10 {p : Prop} (h : p := by
 refine wpAnyH_ready (rs := [7]) c_4 (by simp) ?_
 refine rd1 rfl fun K hK => ?_
 obtain ⟨hM, hA⟩ := id hHeld
 go_simp
 (go_at_call 45; (have hcc := hC.at 0 (f2) (by decide) rfl); (have hcf := hC.2.1 0); (with_reducible refine (c3.out _ _ hcc hcf).mono ?_); rintro e w1 ⟨rfl, hb⟩; clear hcc hcf; (have hg := GB.trans (GB.set (GB.refl gC _) _) (GB.ext hb)); replace hC := (hC.set 0 f3).ext hb; replace hM := hM.grown hg (by omega); replace hA := hA.grown hg (by omega); replace hT2 := hT2.grown hg (by omega); replace hSl := hSl.grown hg (by omega); replace hE := GB.pre hE hg (by omega); clear hg)
 refine hK.out _ _ ?_ (fun hHeldN => ?_)
 ·(try dsimp only); exact ⟨hM, hA⟩
 clear hK K hHeld
 have hHeld := hHeldN
 clear hHeldN
 try simp only [sx_]
 clear hM hA hb
 exact T_RPP_2) : p := h
theorem T_RPP_9 {p : Prop} (h : p := by
 rw [← hU]
 repeat (first | with_reducible exact Ext.refl _ | with_reducible assumption | with_reducible refine Ext.alloc ?_ _ | with_reducible refine Ext.setCell ?_ c_14 _ | with_reducible refine Ext.drewN ?_ _ | with_reducible refine Ext.drew ?_ | with_reducible refine Ext.trans ?_ c_1)) : p := h
theorem T_RPP_8 {p : Prop} (h : p := by
 go_wp2_with fail
 refine bodyPost_ret (v := .tuple #[.agg #[.int .i64 0, .int .i64 0], .int .i64 24]) ?_ rfl ⟨by simp [hno], ?_⟩
 ·simp [results, Tryz.results18, go_sem, ↓IntWalk.iteOmega, *]
 ·repeat (first | with_reducible exact Ext.refl _ | with_reducible assumption | with_reducible refine Ext.alloc ?_ _ | with_reducible refine Ext.setCell ?_ c_14 _ | with_reducible refine Ext.drewN ?_ _ | with_reducible refine Ext.drew ?_ | with_reducible refine Ext.trans ?_ c_1)) : p := h
theorem T_RPP_7 {p : Prop} (h : p := by
 refine wpAnyH_ready (rs := [10]) c_4 (by simp) ?_
 refine rd1 rfl fun K hK => ?_
 have hN := hHeld
 have c0 := hSl.at 0 0 (by decide) rfl
 have d1 := hSl.at 1 0 (by decide) rfl
 have cf := hSl.2.1
 have hgb := hSl.gb2 0 1 m6 n6
 replace hSl := (hSl.set 0 m6).set 1 n6
 replace hN := hN.grown hgb (by omega)
 replace hT2 := hT2.grown hgb (by omega)
 replace hC := hC.grown hgb (by omega)
 replace hE := GB.pre hE hgb (by omega)
 clear hgb
 go_simp
 refine hK.out _ _ ?_ (fun hHeldN => ?_)
 ·(try dsimp only); exact hN
 clear hK K hHeld
 have hHeld := hHeldN
 clear hHeldN
 try simp only [sx_]
 clear c0 d1 cf hN
 refine wpAnyH_done c_4 ?_ _
 have hN := hHeld
 exact T_RPP_14) : p := h
theorem T_RPP_6 {p : Prop} (h : p := by
 refine wpAnyH_ready (rs := [10]) c_4 (by simp) ?_
 refine rd1 rfl fun K hK => ?_
 obtain ⟨hM, hA⟩ := id hHeld
 have c0 := hSl.at 0 0 (by decide) rfl
 have d1 := hSl.at 1 0 (by decide) rfl
 have cf := hSl.2.1
 have hgb := hSl.gb2 0 1 m4 n4
 replace hSl := (hSl.set 0 m4).set 1 n4
 replace hM := hM.grown hgb (by omega)
 replace hA := hA.grown hgb (by omega)
 replace hT2 := hT2.grown hgb (by omega)
 replace hC := hC.grown hgb (by omega)
 replace hE := GB.pre hE hgb (by omega)
 clear hgb
 go_simp
 refine hK.out _ _ ?_ (fun hHeldN => ?_)
 ·(try dsimp only); exact ⟨hM, hA⟩
 clear hK K hHeld
 have hHeld := hHeldN
 clear hHeldN
 try simp only [sx_]
 clear c0 d1 cf hM hA
 refine wpAnyH_done c_4 ?_ _
 obtain ⟨hM, hA⟩ := hHeld
 exact T_RPP_14) : p := h
theorem T_RPP_5 {p : Prop} (h : p := by
 (try dsimp only); exact hN.ext ex_) : p := h
theorem T_RPP_4 {p : Prop} (h : p := by
 refine wpAnyH_ready (rs := [3]) c_4 (by simp) ?_
 refine rd1 rfl fun K hK => ?_
 have hN := hHeld
 go_simp
 (go_at_call 50; (with_reducible refine (st.out _).mono ?_); rintro e w1 ⟨rfl, hb⟩; replace hC := hC.ext hb; replace hN := hN.ext hb; replace hT2 := hT2.ext hb; replace hSl := hSl.ext hb; replace hE := hE.trans hb)
 refine hK.out _ _ ?_ (fun hHeldN => ?_)
 ·(try dsimp only); exact hN
 clear hK K hHeld
 have hHeld := hHeldN
 clear hHeldN
 try simp only [sx_]
 clear hN hb
 refine tk 4 rfl c_0 ?_
 try simp only [sx_]
 refine tk 5 rfl c_0 ?_
 try simp only [sx_]
 exact T_RPP_11) : p := h
theorem T_RPP_3 {p : Prop} (h : p := by
 (try dsimp only); exact ⟨hM.ext ex_, hA.ext ex_⟩) : p := h
theorem T_RPP_2 {p : Prop} (h : p := by
 refine wpAnyH_ready (rs := [8]) c_4 (by simp) ?_
 refine rd1 rfl fun K hK => ?_
 obtain ⟨hM, hA⟩ := id hHeld
 go_simp
 (go_at_call 47; (have hcc := hC.at 0 (f3) (by decide) rfl); (have hcf := hC.2.1 0); (with_reducible refine (c4.out _ _ hcc hcf).mono ?_); rintro e w1 ⟨rfl, hb⟩; clear hcc hcf; (have hg := GB.trans (GB.set (GB.refl gC _) _) (GB.ext hb)); replace hC := (hC.set 0 f4).ext hb; replace hM := hM.grown hg (by omega); replace hA := hA.grown hg (by omega); replace hT2 := hT2.grown hg (by omega); replace hSl := hSl.grown hg (by omega); replace hE := GB.pre hE hg (by omega); clear hg)
 refine hK.out _ _ ?_ (fun hHeldN => ?_)
 ·(try dsimp only); exact ⟨hM, hA⟩
 clear hK K hHeld
 have hHeld := hHeldN
 clear hHeldN
 try simp only [sx_]
 clear hM hA hb
 exact T_RPP_6) : p := h
theorem T_RPP_1 {p : Prop} (h : p := by
 refine wpAnyH_ready (rs := [8]) c_4 (by simp) ?_
 refine rd1 rfl fun K hK => ?_
 have hN := hHeld
 go_simp
 (go_at_call 48; (have hcc := hC.at 0 (f5) (by decide) rfl); (have hcf := hC.2.1 0); (with_reducible refine (c6.out _ _ hcc hcf).mono ?_); rintro e w1 ⟨rfl, hb⟩; clear hcc hcf; (have hg := GB.trans (GB.set (GB.refl gC _) _) (GB.ext hb)); replace hC := (hC.set 0 f6).ext hb; replace hN := hN.grown hg (by omega); replace hT2 := hT2.grown hg (by omega); replace hSl := hSl.grown hg (by omega); replace hE := GB.pre hE hg (by omega); clear hg)
 refine hK.out _ _ ?_ (fun hHeldN => ?_)
 ·(try dsimp only); exact hN
 clear hK K hHeld
 have hHeld := hHeldN
 clear hHeldN
 try simp only [sx_]
 clear hN hb
 exact T_RPP_7) : p := h
theorem rf_Period0 (t p1 p2 p3 v1 v2 v3 : Int) (hsh0 : ∀ (p : Nat) w1, Bn 1 w1 p (fun _ => 0) → Calls Tryz.prog 40 #[.pointer (some ⟨p, 0, none⟩), .agg #[.int .i64 t, .int .i64 p1, .int .i64 p2, .int .i64 p3, .int .i64 v1, .int .i64 v2, .int .i64 v3]] w1 fun e w2 => e = .returned (.tuple #[.agg #[.int .i64 (rq2 (dia p1 p2 p3)).lo, .int .i64 (rq2 (dia p1 p2 p3)).hi], .agg #[.int .i64 (rq6 (dia p1 p2 p3) (dia v1 v2 v3)).lo, .int .i64 (rq6 (dia p1 p2 p3) (dia v1 v2 v3)).hi], .agg #[.int .i64 (rq11 (dia p1 p2 p3) (dia v1 v2 v3)).lo, .int .i64 (rq11 (dia p1 p2 p3) (dia v1 v2 v3)).hi]]) ∧ GB p w1 w2 ∧ Bn 1 w2 p (fun _ => (rq11 (dia p1 p2 p3) (dia v1 v2 v3)).e)) (w : World) : Calls Tryz.prog 18 #[.agg #[.int .i64 t, .int .i64 p1, .int .i64 p2, .int .i64 p3, .int .i64 v1, .int .i64 v2, .int .i64 v3]] w fun e w' => ((¬ stE t p1 p2 p3 v1 v2 v3 = 0 ∧ e = .returned (.tuple #[.agg #[.int .i64 0, .int .i64 0], .int .i64 (stE t p1 p2 p3 v1 v2 v3)])) ∨ (stE t p1 p2 p3 v1 v2 v3 = 0 ∧ RpOk (dia p1 p2 p3) (dia v1 v2 v3) ∧ e = .returned (.tuple #[.agg #[.int .i64 (rp6 (dia p1 p2 p3) (dia v1 v2 v3)).lo, .int .i64 (rp6 (dia p1 p2 p3) (dia v1 v2 v3)).hi], .int .i64 0])) ∨ (stE t p1 p2 p3 v1 v2 v3 = 0 ∧ ¬ RpOk (dia p1 p2 p3) (dia v1 v2 v3) ∧ e = .returned (.tuple #[.agg #[.int .i64 0, .int .i64 0], .int .i64 24]))) ∧ Ext w w' := by
 obtain ⟨⟨l2, u2, e2⟩, hn2⟩ : ∃ x, rq2 (dia p1 p2 p3) = x := ⟨_, rfl⟩
 obtain ⟨⟨l6, u6, e6⟩, hn6⟩ : ∃ x, rq6 (dia p1 p2 p3) (dia v1 v2 v3) = x := ⟨_, rfl⟩
 obtain ⟨⟨l11, u11, e11⟩, hn11⟩ : ∃ x, rq11 (dia p1 p2 p3) (dia v1 v2 v3) = x := ⟨_, rfl⟩
 obtain ⟨⟨m1, n1, f1⟩, hm1⟩ : ∃ x, rp1 = x := ⟨_, rfl⟩
 obtain ⟨⟨m2, n2, f2⟩, hm2⟩ : ∃ x, rp2 (dia p1 p2 p3) (dia v1 v2 v3) = x := ⟨_, rfl⟩
 obtain ⟨⟨m3, n3, f3⟩, hm3⟩ : ∃ x, rp3 (dia p1 p2 p3) (dia v1 v2 v3) = x := ⟨_, rfl⟩
 obtain ⟨⟨m4, n4, f4⟩, hm4⟩ : ∃ x, rp4 (dia p1 p2 p3) (dia v1 v2 v3) = x := ⟨_, rfl⟩
 obtain ⟨⟨m5, n5, f5⟩, hm5⟩ : ∃ x, rp5 (dia p1 p2 p3) (dia v1 v2 v3) = x := ⟨_, rfl⟩
 obtain ⟨⟨m6, n6, f6⟩, hm6⟩ : ∃ x, rp6 (dia p1 p2 p3) (dia v1 v2 v3) = x := ⟨_, rfl⟩
 obtain ⟨⟨lt, ut, et⟩, hnt⟩ : ∃ x, shT = x := ⟨_, rfl⟩
 have i6 : I64 l6 ∧ I64 u6 := by have h : (rq6 (dia p1 p2 p3) (dia v1 v2 v3)).W := doI_W (subI_W _ _ _ _); rw [hn6] at h; exact h
 have j1 : I64 m1 ∧ I64 n1 := by have h : rp1.W := doI_W (sqrtI_W _ _); rw [hm1] at h; exact h
 have j2 : I64 m2 ∧ I64 n2 := by have h : (rp2 (dia p1 p2 p3) (dia v1 v2 v3)).W := doI_W (mulI_W _ _ _ _); rw [hm2] at h; exact h
 have j3 : I64 m3 ∧ I64 n3 := by have h : (rp3 (dia p1 p2 p3) (dia v1 v2 v3)).W := doI_W (sqrtI_W _ _); rw [hm3] at h; exact h
 have c1 : Hid (∀ p w1, w1.cell? ⟨p, 0, none⟩ = some (.int .i64 0) → w1.frozen? ⟨p, 0, none⟩ = false → Calls Tryz.prog 45 #[.pointer (some ⟨p, 0, none⟩), .agg #[.int .i64 325358913, .int .i64 325358914]] w1 fun e w2 => e = .returned (.agg #[.int .i64 m1, .int .i64 n1]) ∧ Ext (w1.setCell ⟨p, 0, none⟩ (.int .i64 f1)) w2) := by
  unfold Hid
  intro p w1 hc hf
  have hh := hm1
  unfold rp1 at hh
  skip
  have h := c_sqrt p 0 325358913 325358914 w1 hc hf
  rw [hh] at h
  exact h
 have c2 : Hid (∀ p w1, w1.cell? ⟨p, 0, none⟩ = some (.int .i64 f1) → w1.frozen? ⟨p, 0, none⟩ = false → Calls Tryz.prog 47 #[.pointer (some ⟨p, 0, none⟩), .agg #[.int .i64 m1, .int .i64 n1], .agg #[.int .i64 l6, .int .i64 u6]] w1 fun e w2 => e = .returned (.agg #[.int .i64 m2, .int .i64 n2]) ∧ Ext (w1.setCell ⟨p, 0, none⟩ (.int .i64 f2)) w2) := by
  unfold Hid
  intro p w1 hc hf
  have hh := hm2
  unfold rp2 at hh
  rw [hm1, hn6] at hh
  have h := c_mul p f1 m1 n1 l6 u6 w1 hc hf j1 i6
  rw [hh] at h
  exact h
 have c3 : Hid (∀ p w1, w1.cell? ⟨p, 0, none⟩ = some (.int .i64 f2) → w1.frozen? ⟨p, 0, none⟩ = false → Calls Tryz.prog 45 #[.pointer (some ⟨p, 0, none⟩), .agg #[.int .i64 l6, .int .i64 u6]] w1 fun e w2 => e = .returned (.agg #[.int .i64 m3, .int .i64 n3]) ∧ Ext (w1.setCell ⟨p, 0, none⟩ (.int .i64 f3)) w2) := by
  unfold Hid
  intro p w1 hc hf
  have hh := hm3
  unfold rp3 at hh
  rw [hm2, hn6] at hh
  have h := c_sqrt p f2 l6 u6 w1 hc hf
  rw [hh] at h
  exact h
 have c4 : Hid (∀ p w1, w1.cell? ⟨p, 0, none⟩ = some (.int .i64 f3) → w1.frozen? ⟨p, 0, none⟩ = false → Calls Tryz.prog 47 #[.pointer (some ⟨p, 0, none⟩), .agg #[.int .i64 m2, .int .i64 n2], .agg #[.int .i64 m3, .int .i64 n3]] w1 fun e w2 => e = .returned (.agg #[.int .i64 m4, .int .i64 n4]) ∧ Ext (w1.setCell ⟨p, 0, none⟩ (.int .i64 f4)) w2) := by
  unfold Hid
  intro p w1 hc hf
  have hh := hm4
  unfold rp4 at hh
  rw [hm3, hm2] at hh
  have h := c_mul p f3 m2 n2 m3 n3 w1 hc hf j2 j3
  rw [hh] at h
  exact h
 have c5 : Hid (∀ p w1, w1.cell? ⟨p, 0, none⟩ = some (.int .i64 f4) → w1.frozen? ⟨p, 0, none⟩ = false → Calls Tryz.prog 49 #[.pointer (some ⟨p, 0, none⟩), .agg #[.int .i64 lt, .int .i64 ut], .int .i64 et] w1 fun e w2 => e = .returned (.agg #[.int .i64 m5, .int .i64 n5]) ∧ Ext (w1.setCell ⟨p, 0, none⟩ (.int .i64 f5)) w2) := by
  unfold Hid
  intro p w1 hc hf
  have hh := hm5
  unfold rp5 at hh
  rw [hm4, hnt] at hh
  have h := c_keep p f4 lt ut et w1 hc hf
  rw [hh] at h
  exact h
 have c6 : Hid (∀ p w1, w1.cell? ⟨p, 0, none⟩ = some (.int .i64 f5) → w1.frozen? ⟨p, 0, none⟩ = false → Calls Tryz.prog 48 #[.pointer (some ⟨p, 0, none⟩), .agg #[.int .i64 m5, .int .i64 n5], .agg #[.int .i64 m4, .int .i64 n4]] w1 fun e w2 => e = .returned (.agg #[.int .i64 m6, .int .i64 n6]) ∧ Ext (w1.setCell ⟨p, 0, none⟩ (.int .i64 f6)) w2) := by
  unfold Hid
  intro p w1 hc hf
  have hh := hm6
  unfold rp6 at hh
  rw [hm5, hm4] at hh
  have h := c_div p f5 m5 n5 m4 n4 w1 hc hf
  rw [hh] at h
  exact h
 have sg : Hid (∀ w1, Calls Tryz.prog 46 #[] w1 fun e w2 => e = .returned (.agg #[.int .i64 325358913, .int .i64 325358914]) ∧ Ext w1 w2) := by
  unfold Hid
  intro w1
  exact r_grav w1
 have sp : Hid (∀ w1, Calls Tryz.prog 51 #[] w1 fun e w2 => e = .returned (.agg #[.int .i64 3454217652357, .int .i64 3454217652358]) ∧ Ext w1 w2) := by
  unfold Hid
  intro w1
  exact q_Pi w1
 have st : Hid (∀ w1, Calls Tryz.prog 50 #[.agg #[.int .i64 3454217652357, .int .i64 3454217652358], .int .i64 2, .int .i64 1] w1 fun e w2 => e = .returned (.tuple #[.agg #[.int .i64 lt, .int .i64 ut], .int .i64 et]) ∧ Ext w1 w2) := by
  unfold Hid
  intro w1
  have hh : scI 3454217652357 3454217652358 2 1 = ⟨lt, ut, et⟩ := hnt
  have h := ref_sc 3454217652357 3454217652358 2 1 w1 (by unfold I64; decide) (by decide) (by unfold I64; decide) (by decide)
  rw [hh] at h
  exact h
 have hRk0 : RpOk (dia p1 p2 p3) (dia v1 v2 v3) ↔ (e11 = 0 ∧ 0 < l6 ∧ f6 = 0) := by unfold RpOk; rw [hn11, hn6, hm6]
 obtain ⟨Rk, hRkE⟩ : ∃ Ok : Prop, RpOk (dia p1 p2 p3) (dia v1 v2 v3) = Ok := ⟨_, rfl⟩
 rw [hRkE] at hRk0
 have hRk : Rk ↔ (e11 = 0 ∧ 0 < l6 ∧ f6 = 0) := hRk0
 have hck0 := fun w1 => r_CheckS t p1 p2 p3 v1 v2 v3 w1
 obtain ⟨E, hEe⟩ : ∃ x, stE t p1 p2 p3 v1 v2 v3 = x := ⟨_, rfl⟩
 rw [hEe] at hck0
 have hck : Hid (∀ w1, Calls Tryz.prog 39 #[.agg #[.int .i64 t, .int .i64 p1, .int .i64 p2, .int .i64 p3, .int .i64 v1, .int .i64 v2, .int .i64 v3]] w1 fun e w2 => e = .returned (.int .i64 E) ∧ Ext w1 w2) := hck0
 rw [hn2, hn6, hn11] at hsh0
 dsimp only at hsh0
 have hsh : Hid (∀ (p : Nat) w1, Bn 1 w1 p (fun _ => 0) → Calls Tryz.prog 40 #[.pointer (some ⟨p, 0, none⟩), .agg #[.int .i64 t, .int .i64 p1, .int .i64 p2, .int .i64 p3, .int .i64 v1, .int .i64 v2, .int .i64 v3]] w1 fun e w2 => e = .returned (.tuple #[.agg #[.int .i64 l2, .int .i64 u2], .agg #[.int .i64 l6, .int .i64 u6], .agg #[.int .i64 l11, .int .i64 u11]]) ∧ GB p w1 w2 ∧ Bn 1 w2 p (fun _ => e11)) := hsh0
 rw [hm6, hRkE, hEe]
 dsimp only
 clear hn2 hn6 hn11 hm1 hm2 hm3 hm4 hm5 hm6 hnt hsh0 hEe hck0 hRkE hRk0 i6 j1 j2 j3
 have q0 : IntKind.i64.wrap 0 = 0 := rfl
 have q1 : IntKind.i64.wrap 1 = 1 := rfl
 go_enter Tryz.func18, Tryz.ntmps18
 go_upto_region 1 with fail
 refine wp_nameE fun U0 hU => ?_
 have hE : Ext w U0 := by
  exact T_RPP_9
 have h7 : Bn 7 U0 (w.heap.size) (fun o => if o = 0 then t else if o = 1 then p1 else if o = 2 then p2 else if o = 3 then p3 else if o = 4 then v1 else if o = 5 then v2 else v3) := by
  rw [← hU]
  refine ⟨fun o ho => ?_, fun o => by simp [go_sem, ↓IntWalk.iteOmega], by simp <;> omega⟩
  have hoo : o = 0 ∨ o = 1 ∨ o = 2 ∨ o = 3 ∨ o = 4 ∨ o = 5 ∨ o = 6 := by omega
  rcases hoo with rfl | rfl | rfl | rfl | rfl | rfl | rfl <;> simp [go_sem, ↓IntWalk.iteOmega]
 have hT2 : Bn 2 U0 (w.heap.size + 1) (fun _ => 0) := by
  exact T_RPP_12
 clear hU
 have h7q0 := h7.at 0 (t) (by decide) rfl
 have h7q1 := h7.at 1 (p1) (by decide) rfl
 have h7q2 := h7.at 2 (p2) (by decide) rfl
 have h7q3 := h7.at 3 (p3) (by decide) rfl
 have h7q4 := h7.at 4 (v1) (by decide) rfl
 have h7q5 := h7.at 5 (v2) (by decide) rfl
 have h7q6 := h7.at 6 (v3) (by decide) rfl
 by_cases h0 : E = 0
 ·subst h0
  go_upto_region 3 with (go_at_call 39; (with_reducible refine (hck.out _).mono ?_); rintro e w1 ⟨rfl, hb⟩; replace h7 := h7.ext hb; replace hT2 := hT2.ext hb; replace hE := hE.trans hb)
  go_upto_region 4 with fail
  refine wp_nameE fun U1 hU => ?_
  have hx : Ext w1 U1 := by
   exact T_RPP_9
  have hC : Bn 1 U1 (w1.heap.size) (fun _ => 0) := by
   rw [← hU]
   refine ⟨fun o ho => ?_, fun o => by simp [go_sem, ↓IntWalk.iteOmega], by simp <;> omega⟩
   have hoo : o = 0 := by omega
   subst hoo
   simp [go_sem, ↓IntWalk.iteOmega]
  have hl3 := hT2.2.2
  replace h7 := h7.ext hx
  replace hT2 := hT2.ext hx
  replace hE := hE.trans hx
  clear hU hx hb h7q0 h7q1 h7q2 h7q3 h7q4 h7q5 h7q6
  obtain ⟨gC, hgC⟩ : ∃ x, w1.heap.size = x := ⟨_, rfl⟩
  rw [hgC] at hC hl3 ⊢
  clear hgC
  have h7q0 := h7.at 0 (t) (by decide) rfl
  have h7q1 := h7.at 1 (p1) (by decide) rfl
  have h7q2 := h7.at 2 (p2) (by decide) rfl
  have h7q3 := h7.at 3 (p3) (by decide) rfl
  have h7q4 := h7.at 4 (v1) (by decide) rfl
  have h7q5 := h7.at 5 (v2) (by decide) rfl
  have h7q6 := h7.at 6 (v3) (by decide) rfl
  go_upto_region 5 with (go_at_call 40; (with_reducible refine (hsh.out _ _ hC).mono ?_); rintro e w1 ⟨rfl, hg, hC2⟩; replace hT2 := hT2.grown hg (by omega); replace hE := GB.pre hE hg (by omega))
  clear hC
  have hC := hC2
  clear hC2
  refine wp_nameE fun U2 hU => ?_
  have hx : Ext w1 U2 := by
   exact T_RPP_9
  have hA : Bn 2 U2 (w1.heap.size + 1) (fun o => if o = 0 then l6 else u6) := by
   exact T_RPP_12
  have hlC := hC.2.2
  replace hT2 := hT2.ext hx
  replace hC := hC.ext hx
  replace hE := hE.trans hx
  clear hU hx hg h7 h7q0 h7q1 h7q2 h7q3 h7q4 h7q5 h7q6
  obtain ⟨gA, hgA⟩ : ∃ x, w1.heap.size + 1 = x := ⟨_, rfl⟩
  rw [hgA] at hA ⊢
  have hlA : gC < gA := by omega
  clear hgA hlC
  have ce := hC.at 0 e11 (by decide) rfl
  have ca := hA.at 0 l6 (by decide) rfl
  by_cases hz : e11 = 0
  ·subst hz
   have hpos : 0 < l6 ∨ l6 ≤ 0 := by omega
   rcases hpos with hpos | hpos
   ·have ca1 := hA.at 1 u6 (by decide) rfl
    go_upto_region 8 with (first
     | (go_at_call 46; (with_reducible refine (sg.out _).mono ?_); rintro e w1 ⟨rfl, hb⟩; replace hC := hC.ext hb; replace hT2 := hT2.ext hb; replace hA := hA.ext hb; replace hE := hE.trans hb)
     | (go_at_call 45; (have hcc := hC.at 0 (0) (by decide) rfl); (have hcf := hC.2.1 0); (with_reducible refine (c1.out _ _ hcc hcf).mono ?_); rintro e w1 ⟨rfl, hb⟩; clear hcc hcf; (have hg := GB.trans (GB.set (GB.refl gC _) _) (GB.ext hb)); replace hC := (hC.set 0 f1).ext hb; replace hT2 := hT2.grown hg (by omega); replace hA := hA.grown hg (by omega); replace hE := GB.pre hE hg (by omega); clear hg))
    have hlA2 := hA.2.2
    refine wp_nameE fun U3 hU => ?_
    have hx : Ext w1 U3 := by
     exact T_RPP_9
    have hM : Bn 2 U3 (w1.heap.size) (fun o => if o = 0 then m1 else n1) := by
     exact T_RPP_12
    replace hT2 := hT2.ext hx
    replace hA := hA.ext hx
    replace hC := hC.ext hx
    replace hE := hE.trans hx
    clear hU hx hb ce ca ca1
    obtain ⟨gM, hgM⟩ : ∃ x, w1.heap.size = x := ⟨_, rfl⟩
    rw [hgM] at hM hlA2 ⊢
    clear hgM
    go_cut [9] from 40 to 48 (fun s9 wx => ∃ g : Nat, s9 = .pointer (some ⟨g, 0, none⟩) ∧ gM < g ∧ Bn 2 wx g (fun o => if o = 0 then m4 else n4) ∧ Bn 2 wx (w.heap.size + 1) (fun _ => 0) ∧ Bn 1 wx gC (fun _ => f4) ∧ Ext w wx)
    case first =>
     replace hT2 := hT2.ext ((Ext.refl _).drew)
     replace hC := hC.ext ((Ext.refl _).drew)
     replace hE := hE.drew
     refine wp_region_held_drew (S := (fun w0 => Bn 2 w0 (gM) (fun o => if o = 0 then m1 else n1) ∧ Bn 2 w0 (gA) (fun o => if o = 0 then l6 else u6))) c_4 ?_ (fun hHeld => ?_)
     ·exact ⟨hM.ext ((Ext.refl _).drew), hA.ext ((Ext.refl _).drew)⟩
     try simp only [sx_]
     refine wpAnyH_name fun Y8 hY => ?_
     rw [hY] at hHeld hC hE hT2
     clear hY
     clear hM hA
     refine tk 0 rfl c_0 ?_
     try simp only [sx_]
     refine tk 1 rfl c_0 ?_
     try simp only [sx_]
     refine tk (v := ?_) 2 rfl ?_ ?_
     rotate_left
     ·exact T_RPP_13
     try simp only [sx_]
     refine tk (v := ?_) 3 rfl ?_ ?_
     rotate_left
     ·exact T_RPP_13
     try simp only [sx_]
     refine tk 5 rfl c_0 ?_
     try simp only [sx_]
     refine tk (v := ?_) 6 rfl ?_ ?_
     rotate_left
     ·exact T_RPP_13
     try simp only [sx_]
     refine wpAnyH_ready (rs := [4, 9]) c_4 (by simp) ?_
     refine rd2 rfl rfl (fun K hK => ?_) fun K hK => ?_
     ·obtain ⟨hM, hA⟩ := id hHeld
      go_simp
      (go_at_call 47; (have hcc := hC.at 0 (f1) (by decide) rfl); (have hcf := hC.2.1 0); (with_reducible refine (c2.out _ _ hcc hcf).mono ?_); rintro e w1 ⟨rfl, hb⟩; clear hcc hcf; (have hg := GB.trans (GB.set (GB.refl gC _) _) (GB.ext hb)); replace hC := (hC.set 0 f2).ext hb; replace hM := hM.grown hg (by omega); replace hA := hA.grown hg (by omega); replace hT2 := hT2.grown hg (by omega); replace hE := GB.pre hE hg (by omega); clear hg)
      refine hK.out _ _ ?_ (fun hHeldN => ?_)
      ·(try dsimp only); exact ⟨hM, hA⟩
      clear hK K hHeld
      have hHeld := hHeldN
      clear hHeldN
      try simp only [sx_]
      clear hM hA hb
      refine wpAnyH_ready (rs := [7, 9]) c_4 (by simp) ?_
      refine rd2 rfl rfl (fun K hK => ?_) fun K hK => ?_
      ·obtain ⟨hM, hA⟩ := id hHeld
       go_simp
       (go_at_call 45; (have hcc := hC.at 0 (f2) (by decide) rfl); (have hcf := hC.2.1 0); (with_reducible refine (c3.out _ _ hcc hcf).mono ?_); rintro e w1 ⟨rfl, hb⟩; clear hcc hcf; (have hg := GB.trans (GB.set (GB.refl gC _) _) (GB.ext hb)); replace hC := (hC.set 0 f3).ext hb; replace hM := hM.grown hg (by omega); replace hA := hA.grown hg (by omega); replace hT2 := hT2.grown hg (by omega); replace hE := GB.pre hE hg (by omega); clear hg)
       refine hK.out _ _ ?_ (fun hHeldN => ?_)
       ·(try dsimp only); exact ⟨hM, hA⟩
       clear hK K hHeld
       have hHeld := hHeldN
       clear hHeldN
       try simp only [sx_]
       clear hM hA hb
       refine wpAnyH_ready (rs := [8, 9]) c_4 (by simp) ?_
       refine rd2 rfl rfl (fun K hK => ?_) fun K hK => ?_
       ·obtain ⟨hM, hA⟩ := id hHeld
        go_simp
        (go_at_call 47; (have hcc := hC.at 0 (f3) (by decide) rfl); (have hcf := hC.2.1 0); (with_reducible refine (c4.out _ _ hcc hcf).mono ?_); rintro e w1 ⟨rfl, hb⟩; clear hcc hcf; (have hg := GB.trans (GB.set (GB.refl gC _) _) (GB.ext hb)); replace hC := (hC.set 0 f4).ext hb; replace hM := hM.grown hg (by omega); replace hA := hA.grown hg (by omega); replace hT2 := hT2.grown hg (by omega); replace hE := GB.pre hE hg (by omega); clear hg)
        refine hK.out _ _ ?_ (fun hHeldN => ?_)
        ·(try dsimp only); exact ⟨hM, hA⟩
        clear hK K hHeld
        have hHeld := hHeldN
        clear hHeldN
        try simp only [sx_]
        clear hM hA hb
        refine wpAnyH_ready (rs := [9]) c_4 (by simp) ?_
        refine rd1 rfl fun K hK => ?_
        obtain ⟨hM, hA⟩ := id hHeld
        go_simp
        refine hK.out _ _ ?_ (fun hHeldN => ?_)
        ·exact T_RPP_3
        clear hK K hHeld
        have hHeld := hHeldN
        clear hHeldN
        try simp only [sx_]
        have hga := hM.2.2
        refine wpAnyH_name fun Z8 hZ => ?_
        obtain ⟨hSl, hx⟩ := Bn.two hZ
        rw [hZ] at hHeld
        replace hT2 := hT2.ext hx
        replace hC := hC.ext hx
        replace hE := hE.trans hx
        clear hZ hx hM hA
        exact T_RPP_6
       ·obtain ⟨hM, hA⟩ := id hHeld
        go_simp
        refine hK.out _ _ ?_ (fun hHeldN => ?_)
        ·exact T_RPP_3
        clear hK K hHeld
        have hHeld := hHeldN
        clear hHeldN
        try simp only [sx_]
        have hga := hM.2.2
        refine wpAnyH_name fun Z8 hZ => ?_
        obtain ⟨hSl, hx⟩ := Bn.two hZ
        rw [hZ] at hHeld
        replace hT2 := hT2.ext hx
        replace hC := hC.ext hx
        replace hE := hE.trans hx
        clear hZ hx hM hA
        exact T_RPP_2
      ·obtain ⟨hM, hA⟩ := id hHeld
       go_simp
       refine hK.out _ _ ?_ (fun hHeldN => ?_)
       ·exact T_RPP_3
       clear hK K hHeld
       have hHeld := hHeldN
       clear hHeldN
       try simp only [sx_]
       have hga := hM.2.2
       refine wpAnyH_name fun Z8 hZ => ?_
       obtain ⟨hSl, hx⟩ := Bn.two hZ
       rw [hZ] at hHeld
       replace hT2 := hT2.ext hx
       replace hC := hC.ext hx
       replace hE := hE.trans hx
       clear hZ hx hM hA
       exact T_RPP_10
     ·obtain ⟨hM, hA⟩ := id hHeld
      go_simp
      refine hK.out _ _ ?_ (fun hHeldN => ?_)
      ·exact T_RPP_3
      clear hK K hHeld
      have hHeld := hHeldN
      clear hHeldN
      try simp only [sx_]
      have hga := hM.2.2
      refine wpAnyH_name fun Z8 hZ => ?_
      obtain ⟨hSl, hx⟩ := Bn.two hZ
      rw [hZ] at hHeld
      replace hT2 := hT2.ext hx
      replace hC := hC.ext hx
      replace hE := hE.trans hx
      clear hZ hx hM hA
      refine wpAnyH_ready (rs := [4]) c_4 (by simp) ?_
      refine rd1 rfl fun K hK => ?_
      obtain ⟨hM, hA⟩ := id hHeld
      go_simp
      (go_at_call 47; (have hcc := hC.at 0 (f1) (by decide) rfl); (have hcf := hC.2.1 0); (with_reducible refine (c2.out _ _ hcc hcf).mono ?_); rintro e w1 ⟨rfl, hb⟩; clear hcc hcf; (have hg := GB.trans (GB.set (GB.refl gC _) _) (GB.ext hb)); replace hC := (hC.set 0 f2).ext hb; replace hM := hM.grown hg (by omega); replace hA := hA.grown hg (by omega); replace hT2 := hT2.grown hg (by omega); replace hSl := hSl.grown hg (by omega); replace hE := GB.pre hE hg (by omega); clear hg)
      refine hK.out _ _ ?_ (fun hHeldN => ?_)
      ·(try dsimp only); exact ⟨hM, hA⟩
      clear hK K hHeld
      have hHeld := hHeldN
      clear hHeldN
      try simp only [sx_]
      clear hM hA hb
      exact T_RPP_10
    case rest =>
     obtain ⟨gN, rfl, hlN, hN, hT2, hC, hE⟩ := hcut
     go_upto_region 9 with fail
     refine wp_nameE fun U4 hU => ?_
     rw [hU] at hN hT2 hC hE
     clear hU
     go_cut [10] from 49 to 57 (fun s10 wx => ∃ g : Nat, s10 = .pointer (some ⟨g, 0, none⟩) ∧ gN < g ∧ Bn 2 wx g (fun o => if o = 0 then m6 else n6) ∧ Bn 2 wx (w.heap.size + 1) (fun _ => 0) ∧ Bn 1 wx gC (fun _ => f6) ∧ Ext w wx)
     case first =>
      replace hT2 := hT2.ext ((Ext.refl _).drew)
      replace hC := hC.ext ((Ext.refl _).drew)
      replace hE := hE.drew
      refine wp_region_held_drew (S := (fun w0 => Bn 2 w0 (gN) (fun o => if o = 0 then m4 else n4))) c_4 ?_ (fun hHeld => ?_)
      ·exact hN.ext ((Ext.refl _).drew)
      try simp only [sx_]
      refine wpAnyH_name fun Y9 hY => ?_
      rw [hY] at hHeld hC hE hT2
      clear hY
      clear hN
      refine tk 0 rfl c_0 ?_
      try simp only [sx_]
      refine tk 1 rfl c_0 ?_
      try simp only [sx_]
      refine tk (v := ?_) 7 rfl ?_ ?_
      rotate_left
      ·intro w0 hSw; have qn0 := hSw.at 0 m4 (by decide) rfl; have qn1 := hSw.at 1 n4 (by decide) rfl; go_simp; try with_reducible rfl
      try simp only [sx_]
      refine wpAnyH_ready (rs := [2, 9]) c_4 (by simp) ?_
      refine rd2 rfl rfl (fun K hK => ?_) fun K hK => ?_
      ·have hN := hHeld
       go_simp
       (go_at_call 51; (with_reducible refine (sp.out _).mono ?_); rintro e w1 ⟨rfl, hb⟩; replace hC := hC.ext hb; replace hN := hN.ext hb; replace hT2 := hT2.ext hb; replace hE := hE.trans hb)
       refine hK.out _ _ ?_ (fun hHeldN => ?_)
       ·(try dsimp only); exact hN
       clear hK K hHeld
       have hHeld := hHeldN
       clear hHeldN
       try simp only [sx_]
       clear hN hb
       refine wpAnyH_ready (rs := [3, 9]) c_4 (by simp) ?_
       refine rd2 rfl rfl (fun K hK => ?_) fun K hK => ?_
       ·have hN := hHeld
        go_simp
        (go_at_call 50; (with_reducible refine (st.out _).mono ?_); rintro e w1 ⟨rfl, hb⟩; replace hC := hC.ext hb; replace hN := hN.ext hb; replace hT2 := hT2.ext hb; replace hE := hE.trans hb)
        refine hK.out _ _ ?_ (fun hHeldN => ?_)
        ·(try dsimp only); exact hN
        clear hK K hHeld
        have hHeld := hHeldN
        clear hHeldN
        try simp only [sx_]
        clear hN hb
        refine tk 4 rfl c_0 ?_
        try simp only [sx_]
        refine tk 5 rfl c_0 ?_
        try simp only [sx_]
        refine wpAnyH_ready (rs := [6, 9]) c_4 (by simp) ?_
        refine rd2 rfl rfl (fun K hK => ?_) fun K hK => ?_
        ·have hN := hHeld
         go_simp
         (go_at_call 49; (have hcc := hC.at 0 (f4) (by decide) rfl); (have hcf := hC.2.1 0); (with_reducible refine (c5.out _ _ hcc hcf).mono ?_); rintro e w1 ⟨rfl, hb⟩; clear hcc hcf; (have hg := GB.trans (GB.set (GB.refl gC _) _) (GB.ext hb)); replace hC := (hC.set 0 f5).ext hb; replace hN := hN.grown hg (by omega); replace hT2 := hT2.grown hg (by omega); replace hE := GB.pre hE hg (by omega); clear hg)
         refine hK.out _ _ ?_ (fun hHeldN => ?_)
         ·(try dsimp only); exact hN
         clear hK K hHeld
         have hHeld := hHeldN
         clear hHeldN
         try simp only [sx_]
         clear hN hb
         refine wpAnyH_ready (rs := [8, 9]) c_4 (by simp) ?_
         refine rd2 rfl rfl (fun K hK => ?_) fun K hK => ?_
         ·have hN := hHeld
          go_simp
          (go_at_call 48; (have hcc := hC.at 0 (f5) (by decide) rfl); (have hcf := hC.2.1 0); (with_reducible refine (c6.out _ _ hcc hcf).mono ?_); rintro e w1 ⟨rfl, hb⟩; clear hcc hcf; (have hg := GB.trans (GB.set (GB.refl gC _) _) (GB.ext hb)); replace hC := (hC.set 0 f6).ext hb; replace hN := hN.grown hg (by omega); replace hT2 := hT2.grown hg (by omega); replace hE := GB.pre hE hg (by omega); clear hg)
          refine hK.out _ _ ?_ (fun hHeldN => ?_)
          ·(try dsimp only); exact hN
          clear hK K hHeld
          have hHeld := hHeldN
          clear hHeldN
          try simp only [sx_]
          clear hN hb
          refine wpAnyH_ready (rs := [9]) c_4 (by simp) ?_
          refine rd1 rfl fun K hK => ?_
          have hN := hHeld
          go_simp
          refine hK.out _ _ ?_ (fun hHeldN => ?_)
          ·exact T_RPP_5
          clear hK K hHeld
          have hHeld := hHeldN
          clear hHeldN
          try simp only [sx_]
          have hga := hN.2.2
          refine wpAnyH_name fun Z8 hZ => ?_
          obtain ⟨hSl, hx⟩ := Bn.two hZ
          rw [hZ] at hHeld
          replace hT2 := hT2.ext hx
          replace hC := hC.ext hx
          replace hE := hE.trans hx
          clear hZ hx hN
          exact T_RPP_7
         ·have hN := hHeld
          go_simp
          refine hK.out _ _ ?_ (fun hHeldN => ?_)
          ·exact T_RPP_5
          clear hK K hHeld
          have hHeld := hHeldN
          clear hHeldN
          try simp only [sx_]
          have hga := hN.2.2
          refine wpAnyH_name fun Z8 hZ => ?_
          obtain ⟨hSl, hx⟩ := Bn.two hZ
          rw [hZ] at hHeld
          replace hT2 := hT2.ext hx
          replace hC := hC.ext hx
          replace hE := hE.trans hx
          clear hZ hx hN
          exact T_RPP_1
        ·have hN := hHeld
         go_simp
         refine hK.out _ _ ?_ (fun hHeldN => ?_)
         ·exact T_RPP_5
         clear hK K hHeld
         have hHeld := hHeldN
         clear hHeldN
         try simp only [sx_]
         have hga := hN.2.2
         refine wpAnyH_name fun Z8 hZ => ?_
         obtain ⟨hSl, hx⟩ := Bn.two hZ
         rw [hZ] at hHeld
         replace hT2 := hT2.ext hx
         replace hC := hC.ext hx
         replace hE := hE.trans hx
         clear hZ hx hN
         exact T_RPP_11
       ·have hN := hHeld
        go_simp
        refine hK.out _ _ ?_ (fun hHeldN => ?_)
        ·exact T_RPP_5
        clear hK K hHeld
        have hHeld := hHeldN
        clear hHeldN
        try simp only [sx_]
        have hga := hN.2.2
        refine wpAnyH_name fun Z8 hZ => ?_
        obtain ⟨hSl, hx⟩ := Bn.two hZ
        rw [hZ] at hHeld
        replace hT2 := hT2.ext hx
        replace hC := hC.ext hx
        replace hE := hE.trans hx
        clear hZ hx hN
        exact T_RPP_4
      ·have hN := hHeld
       go_simp
       refine hK.out _ _ ?_ (fun hHeldN => ?_)
       ·exact T_RPP_5
       clear hK K hHeld
       have hHeld := hHeldN
       clear hHeldN
       try simp only [sx_]
       have hga := hN.2.2
       refine wpAnyH_name fun Z8 hZ => ?_
       obtain ⟨hSl, hx⟩ := Bn.two hZ
       rw [hZ] at hHeld
       replace hT2 := hT2.ext hx
       replace hC := hC.ext hx
       replace hE := hE.trans hx
       clear hZ hx hN
       refine wpAnyH_ready (rs := [2]) c_4 (by simp) ?_
       refine rd1 rfl fun K hK => ?_
       have hN := hHeld
       go_simp
       (go_at_call 51; (with_reducible refine (sp.out _).mono ?_); rintro e w1 ⟨rfl, hb⟩; replace hC := hC.ext hb; replace hN := hN.ext hb; replace hT2 := hT2.ext hb; replace hSl := hSl.ext hb; replace hE := hE.trans hb)
       refine hK.out _ _ ?_ (fun hHeldN => ?_)
       ·(try dsimp only); exact hN
       clear hK K hHeld
       have hHeld := hHeldN
       clear hHeldN
       try simp only [sx_]
       clear hN hb
       exact T_RPP_4
     case rest =>
      obtain ⟨gX, rfl, hlX, hX, hT2, hC, hE⟩ := hcut
      have ce := hC.at 0 f6 (by decide) rfl
      have x0 := hX.at 0 m6 (by decide) rfl
      have x1 := hX.at 1 n6 (by decide) rfl
      have rhT20 := hT2.at 0 0 (by decide) rfl
      have fhT20 := hT2.2.1 0
      have rhT21 := hT2.at 1 0 (by decide) rfl
      have fhT21 := hT2.2.1 1
      have zT2 := hT2.2.2
      by_cases hf : f6 = 0
      ·have hyk : Rk := hRk.mpr (by simp [hpos, hf])
       subst hf
       go_wp2_with fail
       refine bodyPost_ret (v := .tuple #[.agg #[.int .i64 m6, .int .i64 n6], .int .i64 0]) ?_ rfl ⟨by simp [hyk], ?_⟩
       ·simp [results, Tryz.results18, go_sem, ↓IntWalk.iteOmega, *]
       ·exact ex_
      ·have hno : ¬ Rk := fun h => hf (hRk.mp h).2.2
       exact T_RPP_8
   ·have hno : ¬ Rk := fun h => by have := (hRk.mp h).2.1; omega
    exact T_RPP_15
  ·have hno : ¬ Rk := fun h => hz (hRk.mp h).1
   exact T_RPP_15
 ·go_wp2_with (go_at_call 39; (with_reducible refine (hck.out _).mono ?_); rintro e w1 ⟨rfl, hb⟩; replace h7 := h7.ext hb; replace hT2 := hT2.ext hb; replace hE := hE.trans hb; (have rhT20 := hT2.at 0 0 (by decide) rfl); (have fhT20 := hT2.2.1 0); (have rhT21 := hT2.at 1 0 (by decide) rfl); (have fhT21 := hT2.2.1 1); (have zT2 := hT2.2.2); (have g0 := h7.at 0 t (by decide) rfl); (have g1 := h7.at 1 p1 (by decide) rfl); (have g2 := h7.at 2 p2 (by decide) rfl); (have g3 := h7.at 3 p3 (by decide) rfl); (have g4 := h7.at 4 v1 (by decide) rfl); (have g5 := h7.at 5 v2 (by decide) rfl); (have g6 := h7.at 6 v3 (by decide) rfl))
  refine bodyPost_ret (v := .tuple #[.agg #[.int .i64 0, .int .i64 0], .int .i64 E]) ?_ rfl ⟨by simp [h0], ?_⟩
  ·simp [results, Tryz.results18, go_sem, ↓IntWalk.iteOmega, *]
  ·exact ex_
end Go.Proofs.YtogblocakccbgaaGreat
