/- planisphereref33: shape. -/
import Derived.Test.YtogblocakccbgaaGreatJ00
import Derived.Test.YtogblocakccbgaaGreatJ47
import Derived.Deep.CutRange
set_option linter.unusedSimpArgs false
set_option linter.unusedVariables false
set_option maxRecDepth 100000
set_option maxHeartbeats 4000000
namespace Go.Proofs.YtogblocakccbgaaGreat
open Go.RowKit
theorem T_RS40_18 {p : Prop} (h : p := by
 rw [← hU]
 refine ⟨fun o ho => ?_, fun o => by simp [go_sem, ↓IntWalk.iteOmega], by simp <;> omega⟩
 have hoo : o = 0 ∨ o = 1 ∨ o = 2 ∨ o = 3 ∨ o = 4 ∨ o = 5 := by omega
 rcases hoo with rfl | rfl | rfl | rfl | rfl | rfl <;> simp [go_sem, ↓IntWalk.iteOmega, pf]) : p := h
theorem T_RS40_17 {p : Prop} (h : p := by
 intro w0 hSw; have q00 := hSw.1.at 0 l2 (by decide) rfl; have q01 := hSw.1.at 1 u2 (by decide) rfl; have q10 := hSw.2.1.at 0 l6 (by decide) rfl; have q11 := hSw.2.1.at 1 u6 (by decide) rfl; have q20 := hSw.2.2.at 0 l11 (by decide) rfl; have q21 := hSw.2.2.at 1 u11 (by decide) rfl; go_simp; try with_reducible rfl) : p := h
theorem T_RS40_16 {p : Prop} (h : p := by
 rw [← hU]
 refine ⟨fun o ho => ?_, fun o => by simp [go_sem, ↓IntWalk.iteOmega], by simp <;> omega⟩
 have hoo : o = 0 ∨ o = 1 := by omega
 rcases hoo with rfl | rfl <;> simp [go_sem, ↓IntWalk.iteOmega]) : p := h
theorem T_RS40_15 {p : Prop} (h : p := by
 intro w0 hSw; have qh0 := hSw.1.at 0 x1 (by decide) rfl; have qh1 := hSw.1.at 1 x2 (by decide) rfl; have qh2 := hSw.1.at 2 x3 (by decide) rfl; have qh3 := hSw.1.at 3 x4 (by decide) rfl; have qh4 := hSw.1.at 4 x5 (by decide) rfl; have qh5 := hSw.1.at 5 x6 (by decide) rfl; have qa0 := hSw.2.1.at 0 l6 (by decide) rfl; have qa1 := hSw.2.1.at 1 u6 (by decide) rfl; have qg0 := hSw.2.2.at 0 325358913 (by decide) rfl; have qg1 := hSw.2.2.at 1 325358914 (by decide) rfl; go_simp; try with_reducible rfl) : p := h
theorem T_RS40_14 {p : Prop} (h : p := by
 intro w0 hSw; have qv0 := hSw.1.at 0 v1 (by decide) rfl; have qv1 := hSw.1.at 1 v1 (by decide) rfl; have qv2 := hSw.1.at 2 v2 (by decide) rfl; have qv3 := hSw.1.at 3 v2 (by decide) rfl; have qv4 := hSw.1.at 4 v3 (by decide) rfl; have qv5 := hSw.1.at 5 v3 (by decide) rfl; have qg0 := hSw.2.1.at 0 325358913 (by decide) rfl; have qg1 := hSw.2.1.at 1 325358914 (by decide) rfl; have qr0 := hSw.2.2.at 0 l2 (by decide) rfl; have qr1 := hSw.2.2.at 1 u2 (by decide) rfl; go_simp; try with_reducible rfl) : p := h
theorem T_RS40_13 {p : Prop} (h : p := by
 refine wpAnyH_ready (rs := [8]) c_4 (by simp) ?_
 refine rd1 rfl fun K hK => ?_
 obtain ⟨hV, hG, hR⟩ := id hHeld
 go_simp
 (go_at_call 88; (have hcc := hC.at 0 (e3) (by decide) rfl); (have hcf := hC.2.1 0); (with_reducible refine (c4.out _ hcc hcf).mono ?_); rintro e w1 ⟨rfl, hb⟩; clear hcc hcf; (have hg := GB.trans (GB.set (GB.refl p _) _) (GB.ext hb)); replace hC := (hC.set 0 e4).ext hb; replace hV := hV.grown hg (by omega); replace hG := hG.grown hg (by omega); replace hR := hR.grown hg (by omega); replace hT4 := hT4.grown hg (by omega); replace hT5 := hT5.grown hg (by omega); replace hT6 := hT6.grown hg (by omega); replace hP := hP.grown hg (by omega); replace hSl := hSl.grown hg (by omega); replace hW := hW.trans hg; clear hg)
 refine hK.out _ _ ?_ (fun hHeldN => ?_)
 ·(try dsimp only); exact ⟨hV, hG, hR⟩
 clear hK K hHeld
 have hHeld := hHeldN
 clear hHeldN
 try simp only [sx_]
 clear hV hG hR hb
 exact T_RS40_2) : p := h
theorem T_RS40_12 {p : Prop} (h : p := by
 refine wpAnyH_ready (rs := [8]) c_4 (by simp) ?_
 refine rd1 rfl fun K hK => ?_
 obtain ⟨hH, hA, hG⟩ := id hHeld
 go_simp
 (go_at_call 47; (have hcc := hC.at 0 (e8) (by decide) rfl); (have hcf := hC.2.1 0); (with_reducible refine (c9.out _ hcc hcf).mono ?_); rintro e w1 ⟨rfl, hb⟩; clear hcc hcf; (have hg := GB.trans (GB.set (GB.refl p _) _) (GB.ext hb)); replace hC := (hC.set 0 e9).ext hb; replace hH := hH.grown hg (by omega); replace hA := hA.grown hg (by omega); replace hG := hG.grown hg (by omega); replace hT4 := hT4.grown hg (by omega); replace hT5 := hT5.grown hg (by omega); replace hT6 := hT6.grown hg (by omega); replace hR := hR.grown hg (by omega); replace hSl := hSl.grown hg (by omega); replace hW := hW.trans hg; clear hg)
 refine hK.out _ _ ?_ (fun hHeldN => ?_)
 ·(try dsimp only); exact ⟨hH, hA, hG⟩
 clear hK K hHeld
 have hHeld := hHeldN
 clear hHeldN
 try simp only [sx_]
 clear hH hA hG hb
 exact T_RS40_1) : p := h
theorem T_RS40_11 {p : Prop} (h : p := by
 refine wpAnyH_ready (rs := [11]) c_4 (by simp) ?_
 refine rd1 rfl fun K hK => ?_
 obtain ⟨hV, hG, hR⟩ := id hHeld
 go_simp
 (go_at_call 89; (have hcc := hC.at 0 (e5) (by decide) rfl); (have hcf := hC.2.1 0); (with_reducible refine (c6.out _ hcc hcf).mono ?_); rintro e w1 ⟨rfl, hb⟩; clear hcc hcf; (have hg := GB.trans (GB.set (GB.refl p _) _) (GB.ext hb)); replace hC := (hC.set 0 e6).ext hb; replace hV := hV.grown hg (by omega); replace hG := hG.grown hg (by omega); replace hR := hR.grown hg (by omega); replace hT4 := hT4.grown hg (by omega); replace hT5 := hT5.grown hg (by omega); replace hT6 := hT6.grown hg (by omega); replace hP := hP.grown hg (by omega); replace hSl := hSl.grown hg (by omega); replace hW := hW.trans hg; clear hg)
 refine hK.out _ _ ?_ (fun hHeldN => ?_)
 ·(try dsimp only); exact ⟨hV, hG, hR⟩
 clear hK K hHeld
 have hHeld := hHeldN
 clear hHeldN
 try simp only [sx_]
 clear hV hG hR hb
 exact T_RS40_6) : p := h
theorem T_RS40_10 {p : Prop} (h : p := by
 refine wpAnyH_ready (rs := [11]) c_4 (by simp) ?_
 refine rd1 rfl fun K hK => ?_
 obtain ⟨hH, hA, hG⟩ := id hHeld
 go_simp
 (go_at_call 89; (have hcc := hC.at 0 (e10) (by decide) rfl); (have hcf := hC.2.1 0); (with_reducible refine (c11.out _ hcc hcf).mono ?_); rintro e w1 ⟨rfl, hb⟩; clear hcc hcf; (have hg := GB.trans (GB.set (GB.refl p _) _) (GB.ext hb)); replace hC := (hC.set 0 e11).ext hb; replace hH := hH.grown hg (by omega); replace hA := hA.grown hg (by omega); replace hG := hG.grown hg (by omega); replace hT4 := hT4.grown hg (by omega); replace hT5 := hT5.grown hg (by omega); replace hT6 := hT6.grown hg (by omega); replace hR := hR.grown hg (by omega); replace hSl := hSl.grown hg (by omega); replace hW := hW.trans hg; clear hg)
 refine hK.out _ _ ?_ (fun hHeldN => ?_)
 ·(try dsimp only); exact ⟨hH, hA, hG⟩
 clear hK K hHeld
 have hHeld := hHeldN
 clear hHeldN
 try simp only [sx_]
 clear hH hA hG hb
 exact T_RS40_5) : p := h
theorem T_RS40_9 {p : Prop} (h : p := by
 rw [← hU]
 repeat (first | with_reducible exact Ext.refl _ | with_reducible assumption | with_reducible refine Ext.alloc ?_ _ | with_reducible refine Ext.setCell ?_ c_14 _ | with_reducible refine Ext.drewN ?_ _ | with_reducible refine Ext.drew ?_ | with_reducible refine Ext.trans ?_ c_1)) : p := h
theorem T_RS40_8 {p : Prop} (h : p := by
 refine wpAnyH_ready (rs := [4]) c_4 (by simp) ?_
 refine rd1 rfl fun K hK => ?_
 obtain ⟨hV, hG, hR⟩ := id hHeld
 go_simp
 (go_at_call 48; (have hcc := hC.at 0 (e2) (by decide) rfl); (have hcf := hC.2.1 0); (with_reducible refine (c3.out _ hcc hcf).mono ?_); rintro e w1 ⟨rfl, hb⟩; clear hcc hcf; (have hg := GB.trans (GB.set (GB.refl p _) _) (GB.ext hb)); replace hC := (hC.set 0 e3).ext hb; replace hV := hV.grown hg (by omega); replace hG := hG.grown hg (by omega); replace hR := hR.grown hg (by omega); replace hT4 := hT4.grown hg (by omega); replace hT5 := hT5.grown hg (by omega); replace hT6 := hT6.grown hg (by omega); replace hP := hP.grown hg (by omega); replace hSl := hSl.grown hg (by omega); replace hW := hW.trans hg; clear hg)
 refine hK.out _ _ ?_ (fun hHeldN => ?_)
 ·(try dsimp only); exact ⟨hV, hG, hR⟩
 clear hK K hHeld
 have hHeld := hHeldN
 clear hHeldN
 try simp only [sx_]
 clear hV hG hR hb
 exact T_RS40_13) : p := h
theorem T_RS40_7 {p : Prop} (h : p := by
 refine wpAnyH_ready (rs := [6]) c_4 (by simp) ?_
 refine rd1 rfl fun K hK => ?_
 obtain ⟨hH, hA, hG⟩ := id hHeld
 go_simp
 (go_at_call 88; (have hcc := hC.at 0 (e7) (by decide) rfl); (have hcf := hC.2.1 0); (with_reducible refine (c8.out _ hcc hcf).mono ?_); rintro e w1 ⟨rfl, hb⟩; clear hcc hcf; (have hg := GB.trans (GB.set (GB.refl p _) _) (GB.ext hb)); replace hC := (hC.set 0 e8).ext hb; replace hH := hH.grown hg (by omega); replace hA := hA.grown hg (by omega); replace hG := hG.grown hg (by omega); replace hT4 := hT4.grown hg (by omega); replace hT5 := hT5.grown hg (by omega); replace hT6 := hT6.grown hg (by omega); replace hR := hR.grown hg (by omega); replace hSl := hSl.grown hg (by omega); replace hW := hW.trans hg; clear hg)
 refine hK.out _ _ ?_ (fun hHeldN => ?_)
 ·(try dsimp only); exact ⟨hH, hA, hG⟩
 clear hK K hHeld
 have hHeld := hHeldN
 clear hHeldN
 try simp only [sx_]
 clear hH hA hG hb
 exact T_RS40_12) : p := h
theorem T_RS40_6 {p : Prop} (h : p := by
 refine wpAnyH_ready (rs := [13]) c_4 (by simp) ?_
 refine rd1 rfl fun K hK => ?_
 obtain ⟨hV, hG, hR⟩ := id hHeld
 have hgw := hW.size
 have c0 := hSl.at 0 0 (by decide) rfl
 have d1 := hSl.at 1 0 (by decide) rfl
 have cf := hSl.2.1
 have hW2 := hSl.new2 hW (by omega) l6 u6
 have hgb := hSl.gb2 0 1 l6 u6
 replace hSl := (hSl.set 0 l6).set 1 u6
 replace hV := hV.grown hgb (by omega)
 replace hG := hG.grown hgb (by omega)
 replace hR := hR.grown hgb (by omega)
 replace hT4 := hT4.grown hgb (by omega)
 replace hT5 := hT5.grown hgb (by omega)
 replace hT6 := hT6.grown hgb (by omega)
 replace hP := hP.grown hgb (by omega)
 replace hC := hC.grown hgb (by omega)
 replace hW := hW2
 clear hgb
 go_simp
 refine hK.out _ _ ?_ (fun hHeldN => ?_)
 ·(try dsimp only); exact ⟨hV, hG, hR⟩
 clear hK K hHeld
 have hHeld := hHeldN
 clear hHeldN
 try simp only [sx_]
 clear c0 d1 cf hV hG hR
 refine wpAnyH_done c_4 ?_ _
 obtain ⟨hV, hG, hR⟩ := hHeld
 (try go_wp2_with fail)
 go_meet
 exact ⟨_, rfl, hga, (Bn.congr hSl c_49), ⟨hT4, hT5, hT6⟩, hP, hV, hG, hR, Bn.congr hC c_50, hW⟩) : p := h
theorem T_RS40_5 {p : Prop} (h : p := by
 refine wpAnyH_ready (rs := [13]) c_4 (by simp) ?_
 refine rd1 rfl fun K hK => ?_
 obtain ⟨hH, hA, hG⟩ := id hHeld
 have hgw := hW.size
 have c0 := hSl.at 0 0 (by decide) rfl
 have d1 := hSl.at 1 0 (by decide) rfl
 have cf := hSl.2.1
 have hW2 := hSl.new2 hW (by omega) l11 u11
 have hgb := hSl.gb2 0 1 l11 u11
 replace hSl := (hSl.set 0 l11).set 1 u11
 replace hH := hH.grown hgb (by omega)
 replace hA := hA.grown hgb (by omega)
 replace hG := hG.grown hgb (by omega)
 replace hT4 := hT4.grown hgb (by omega)
 replace hT5 := hT5.grown hgb (by omega)
 replace hT6 := hT6.grown hgb (by omega)
 replace hR := hR.grown hgb (by omega)
 replace hC := hC.grown hgb (by omega)
 replace hW := hW2
 clear hgb
 go_simp
 refine hK.out _ _ ?_ (fun hHeldN => ?_)
 ·(try dsimp only); exact ⟨hH, hA, hG⟩
 clear hK K hHeld
 have hHeld := hHeldN
 clear hHeldN
 try simp only [sx_]
 clear c0 d1 cf hH hA hG
 refine wpAnyH_done c_4 ?_ _
 obtain ⟨hH, hA, hG⟩ := hHeld
 (try go_wp2_with fail)
 go_meet
 exact ⟨_, rfl, hga, (Bn.congr hSl c_49), ⟨hT4, hT5, hT6⟩, hA, hR, Bn.congr hC c_50, hW⟩) : p := h
theorem T_RS40_4 {p : Prop} (h : p := by
 (try dsimp only); exact ⟨hH.ext ex_, hA.ext ex_, hG.ext ex_⟩) : p := h
theorem T_RS40_3 {p : Prop} (h : p := by
 (try dsimp only); exact ⟨hV.ext ex_, hG.ext ex_, hR.ext ex_⟩) : p := h
theorem T_RS40_2 {p : Prop} (h : p := by
 refine wpAnyH_ready (rs := [10]) c_4 (by simp) ?_
 refine rd1 rfl fun K hK => ?_
 obtain ⟨hV, hG, hR⟩ := id hHeld
 go_simp
 (go_at_call 48; (have hcc := hC.at 0 (e4) (by decide) rfl); (have hcf := hC.2.1 0); (with_reducible refine (c5.out _ hcc hcf).mono ?_); rintro e w1 ⟨rfl, hb⟩; clear hcc hcf; (have hg := GB.trans (GB.set (GB.refl p _) _) (GB.ext hb)); replace hC := (hC.set 0 e5).ext hb; replace hV := hV.grown hg (by omega); replace hG := hG.grown hg (by omega); replace hR := hR.grown hg (by omega); replace hT4 := hT4.grown hg (by omega); replace hT5 := hT5.grown hg (by omega); replace hT6 := hT6.grown hg (by omega); replace hP := hP.grown hg (by omega); replace hSl := hSl.grown hg (by omega); replace hW := hW.trans hg; clear hg)
 refine hK.out _ _ ?_ (fun hHeldN => ?_)
 ·(try dsimp only); exact ⟨hV, hG, hR⟩
 clear hK K hHeld
 have hHeld := hHeldN
 clear hHeldN
 try simp only [sx_]
 clear hV hG hR hb
 exact T_RS40_11) : p := h
theorem T_RS40_1 {p : Prop} (h : p := by
 refine wpAnyH_ready (rs := [10]) c_4 (by simp) ?_
 refine rd1 rfl fun K hK => ?_
 obtain ⟨hH, hA, hG⟩ := id hHeld
 go_simp
 (go_at_call 48; (have hcc := hC.at 0 (e9) (by decide) rfl); (have hcf := hC.2.1 0); (with_reducible refine (c10.out _ hcc hcf).mono ?_); rintro e w1 ⟨rfl, hb⟩; clear hcc hcf; (have hg := GB.trans (GB.set (GB.refl p _) _) (GB.ext hb)); replace hC := (hC.set 0 e10).ext hb; replace hH := hH.grown hg (by omega); replace hA := hA.grown hg (by omega); replace hG := hG.grown hg (by omega); replace hT4 := hT4.grown hg (by omega); replace hT5 := hT5.grown hg (by omega); replace hT6 := hT6.grown hg (by omega); replace hR := hR.grown hg (by omega); replace hSl := hSl.grown hg (by omega); replace hW := hW.trans hg; clear hg)
 refine hK.out _ _ ?_ (fun hHeldN => ?_)
 ·(try dsimp only); exact ⟨hH, hA, hG⟩
 clear hK K hHeld
 have hHeld := hHeldN
 clear hHeldN
 try simp only [sx_]
 clear hH hA hG hb
 exact T_RS40_10) : p := h
theorem r_shape (t p1 p2 p3 v1 v2 v3 : Int) (p : Nat) (w : World) (ip1 : I64 p1) (ip2 : I64 p2) (ip3 : I64 p3) (iv1 : I64 v1) (iv2 : I64 v2) (iv3 : I64 v3) (hC : Bn 1 w p (fun _ => 0)) :
    Calls Tryz.prog 40 #[.pointer (some ⟨p, 0, none⟩), .agg #[.int .i64 t, .int .i64 p1, .int .i64 p2, .int .i64 p3, .int .i64 v1, .int .i64 v2, .int .i64 v3]] w fun e w' => e = .returned (.tuple #[.agg #[.int .i64 (rq2 (dia p1 p2 p3)).lo, .int .i64 (rq2 (dia p1 p2 p3)).hi], .agg #[.int .i64 (rq6 (dia p1 p2 p3) (dia v1 v2 v3)).lo, .int .i64 (rq6 (dia p1 p2 p3) (dia v1 v2 v3)).hi], .agg #[.int .i64 (rq11 (dia p1 p2 p3) (dia v1 v2 v3)).lo, .int .i64 (rq11 (dia p1 p2 p3) (dia v1 v2 v3)).hi]]) ∧ GB p w w' ∧ Bn 1 w' p (fun _ => (rq11 (dia p1 p2 p3) (dia v1 v2 v3)).e) := by
 obtain ⟨⟨l1, u1, e1⟩, hn1⟩ : ∃ x, rq1 (dia p1 p2 p3) = x := ⟨_, rfl⟩
 obtain ⟨⟨l2, u2, e2⟩, hn2⟩ : ∃ x, rq2 (dia p1 p2 p3) = x := ⟨_, rfl⟩
 obtain ⟨⟨l3, u3, e3⟩, hn3⟩ : ∃ x, rq3 (dia p1 p2 p3) = x := ⟨_, rfl⟩
 obtain ⟨⟨l4, u4, e4⟩, hn4⟩ : ∃ x, rq4 (dia p1 p2 p3) (dia v1 v2 v3) = x := ⟨_, rfl⟩
 obtain ⟨⟨l5, u5, e5⟩, hn5⟩ : ∃ x, rq5 (dia p1 p2 p3) (dia v1 v2 v3) = x := ⟨_, rfl⟩
 obtain ⟨⟨l6, u6, e6⟩, hn6⟩ : ∃ x, rq6 (dia p1 p2 p3) (dia v1 v2 v3) = x := ⟨_, rfl⟩
 obtain ⟨⟨l7, u7, e7⟩, hn7⟩ : ∃ x, rq7 (dia p1 p2 p3) (dia v1 v2 v3) = x := ⟨_, rfl⟩
 obtain ⟨⟨l8, u8, e8⟩, hn8⟩ : ∃ x, rq8 (dia p1 p2 p3) (dia v1 v2 v3) = x := ⟨_, rfl⟩
 obtain ⟨⟨l9, u9, e9⟩, hn9⟩ : ∃ x, rq9 (dia p1 p2 p3) (dia v1 v2 v3) = x := ⟨_, rfl⟩
 obtain ⟨⟨l10, u10, e10⟩, hn10⟩ : ∃ x, rq10 (dia p1 p2 p3) (dia v1 v2 v3) = x := ⟨_, rfl⟩
 obtain ⟨⟨l11, u11, e11⟩, hn11⟩ : ∃ x, rq11 (dia p1 p2 p3) (dia v1 v2 v3) = x := ⟨_, rfl⟩
 obtain ⟨⟨⟨x1, x2, x3, x4, x5, x6⟩, ex⟩, hnx⟩ : ∃ x, crsV (dia p1 p2 p3) (dia v1 v2 v3) = x := ⟨_, rfl⟩
 have i8 : I64 l8 ∧ I64 u8 := by have h : (rq8 (dia p1 p2 p3) (dia v1 v2 v3)).W := nrmI_W _ _; rw [hn8] at h; exact h
 have i6 : I64 l6 ∧ I64 u6 := by have h : (rq6 (dia p1 p2 p3) (dia v1 v2 v3)).W := doI_W (subI_W _ _ _ _); rw [hn6] at h; exact h
 have c1 : Hid (∀ w1, w1.cell? ⟨p, 0, none⟩ = some (.int .i64 0) → w1.frozen? ⟨p, 0, none⟩ = false → Calls Tryz.prog 88 #[.pointer (some ⟨p, 0, none⟩), .agg #[.int .i64 p1, .int .i64 p1, .int .i64 p2, .int .i64 p2, .int .i64 p3, .int .i64 p3]] w1 fun e w2 => e = .returned (.agg #[.int .i64 l1, .int .i64 u1]) ∧ Ext (w1.setCell ⟨p, 0, none⟩ (.int .i64 e1)) w2) := by
  unfold Hid
  intro w1 hc hf
  have hh := hn1
  unfold rq1 at hh
  skip
  have h := c_nrm p 0 (dia p1 p2 p3) w1 hc hf ⟨⟨ip1, ip1⟩, ⟨ip2, ip2⟩, ⟨ip3, ip3⟩⟩
  rw [hh] at h
  exact h
 have c2 : Hid (∀ w1, w1.cell? ⟨p, 0, none⟩ = some (.int .i64 e1) → w1.frozen? ⟨p, 0, none⟩ = false → Calls Tryz.prog 45 #[.pointer (some ⟨p, 0, none⟩), .agg #[.int .i64 l1, .int .i64 u1]] w1 fun e w2 => e = .returned (.agg #[.int .i64 l2, .int .i64 u2]) ∧ Ext (w1.setCell ⟨p, 0, none⟩ (.int .i64 e2)) w2) := by
  unfold Hid
  intro w1 hc hf
  have hh := hn2
  unfold rq2 at hh
  rw [hn1] at hh
  have h := c_sqrt p e1 l1 u1 w1 hc hf
  rw [hh] at h
  exact h
 have c3 : Hid (∀ w1, w1.cell? ⟨p, 0, none⟩ = some (.int .i64 e2) → w1.frozen? ⟨p, 0, none⟩ = false → Calls Tryz.prog 48 #[.pointer (some ⟨p, 0, none⟩), .agg #[.int .i64 2199023255552, .int .i64 2199023255552], .agg #[.int .i64 l2, .int .i64 u2]] w1 fun e w2 => e = .returned (.agg #[.int .i64 l3, .int .i64 u3]) ∧ Ext (w1.setCell ⟨p, 0, none⟩ (.int .i64 e3)) w2) := by
  unfold Hid
  intro w1 hc hf
  have hh := hn3
  unfold rq3 at hh
  rw [hn2] at hh
  have h := c_div p e2 2199023255552 2199023255552 l2 u2 w1 hc hf
  rw [hh] at h
  exact h
 have c4 : Hid (∀ w1, w1.cell? ⟨p, 0, none⟩ = some (.int .i64 e3) → w1.frozen? ⟨p, 0, none⟩ = false → Calls Tryz.prog 88 #[.pointer (some ⟨p, 0, none⟩), .agg #[.int .i64 v1, .int .i64 v1, .int .i64 v2, .int .i64 v2, .int .i64 v3, .int .i64 v3]] w1 fun e w2 => e = .returned (.agg #[.int .i64 l4, .int .i64 u4]) ∧ Ext (w1.setCell ⟨p, 0, none⟩ (.int .i64 e4)) w2) := by
  unfold Hid
  intro w1 hc hf
  have hh := hn4
  unfold rq4 at hh
  rw [hn3] at hh
  have h := c_nrm p e3 (dia v1 v2 v3) w1 hc hf ⟨⟨iv1, iv1⟩, ⟨iv2, iv2⟩, ⟨iv3, iv3⟩⟩
  rw [hh] at h
  exact h
 have c5 : Hid (∀ w1, w1.cell? ⟨p, 0, none⟩ = some (.int .i64 e4) → w1.frozen? ⟨p, 0, none⟩ = false → Calls Tryz.prog 48 #[.pointer (some ⟨p, 0, none⟩), .agg #[.int .i64 l4, .int .i64 u4], .agg #[.int .i64 325358913, .int .i64 325358914]] w1 fun e w2 => e = .returned (.agg #[.int .i64 l5, .int .i64 u5]) ∧ Ext (w1.setCell ⟨p, 0, none⟩ (.int .i64 e5)) w2) := by
  unfold Hid
  intro w1 hc hf
  have hh := hn5
  unfold rq5 at hh
  rw [hn4] at hh
  have h := c_div p e4 l4 u4 325358913 325358914 w1 hc hf
  rw [hh] at h
  exact h
 have c6 : Hid (∀ w1, w1.cell? ⟨p, 0, none⟩ = some (.int .i64 e5) → w1.frozen? ⟨p, 0, none⟩ = false → Calls Tryz.prog 89 #[.pointer (some ⟨p, 0, none⟩), .agg #[.int .i64 l3, .int .i64 u3], .agg #[.int .i64 l5, .int .i64 u5]] w1 fun e w2 => e = .returned (.agg #[.int .i64 l6, .int .i64 u6]) ∧ Ext (w1.setCell ⟨p, 0, none⟩ (.int .i64 e6)) w2) := by
  unfold Hid
  intro w1 hc hf
  have hh := hn6
  unfold rq6 at hh
  rw [hn5, hn3] at hh
  have h := c_sub p e5 l3 u3 l5 u5 w1 hc hf
  rw [hh] at h
  exact h
 have c7 : Hid (∀ w1, w1.cell? ⟨p, 0, none⟩ = some (.int .i64 e6) → w1.frozen? ⟨p, 0, none⟩ = false → Calls Tryz.prog 49 #[.pointer (some ⟨p, 0, none⟩), .agg #[.int .i64 0, .int .i64 0], .int .i64 ex] w1 fun e w2 => e = .returned (.agg #[.int .i64 l7, .int .i64 u7]) ∧ Ext (w1.setCell ⟨p, 0, none⟩ (.int .i64 e7)) w2) := by
  unfold Hid
  intro w1 hc hf
  have hh := hn7
  unfold rq7 at hh
  rw [hn6, hnx] at hh
  have h := c_keep p e6 0 0 ex w1 hc hf
  rw [hh] at h
  exact h
 have c8 : Hid (∀ w1, w1.cell? ⟨p, 0, none⟩ = some (.int .i64 e7) → w1.frozen? ⟨p, 0, none⟩ = false → Calls Tryz.prog 88 #[.pointer (some ⟨p, 0, none⟩), .agg #[.int .i64 x1, .int .i64 x2, .int .i64 x3, .int .i64 x4, .int .i64 x5, .int .i64 x6]] w1 fun e w2 => e = .returned (.agg #[.int .i64 l8, .int .i64 u8]) ∧ Ext (w1.setCell ⟨p, 0, none⟩ (.int .i64 e8)) w2) := by
  unfold Hid
  intro w1 hc hf
  have hh := hn8
  unfold rq8 at hh
  rw [hn7, hnx] at hh
  have h := c_nrm p e7 ⟨x1, x2, x3, x4, x5, x6⟩ w1 hc hf (by have h := crsV_I (dia p1 p2 p3) (dia v1 v2 v3); rw [hnx] at h; exact h)
  rw [hh] at h
  exact h
 have c9 : Hid (∀ w1, w1.cell? ⟨p, 0, none⟩ = some (.int .i64 e8) → w1.frozen? ⟨p, 0, none⟩ = false → Calls Tryz.prog 47 #[.pointer (some ⟨p, 0, none⟩), .agg #[.int .i64 l8, .int .i64 u8], .agg #[.int .i64 l6, .int .i64 u6]] w1 fun e w2 => e = .returned (.agg #[.int .i64 l9, .int .i64 u9]) ∧ Ext (w1.setCell ⟨p, 0, none⟩ (.int .i64 e9)) w2) := by
  unfold Hid
  intro w1 hc hf
  have hh := hn9
  unfold rq9 at hh
  rw [hn8, hn6] at hh
  have h := c_mul p e8 l8 u8 l6 u6 w1 hc hf i8 i6
  rw [hh] at h
  exact h
 have c10 : Hid (∀ w1, w1.cell? ⟨p, 0, none⟩ = some (.int .i64 e9) → w1.frozen? ⟨p, 0, none⟩ = false → Calls Tryz.prog 48 #[.pointer (some ⟨p, 0, none⟩), .agg #[.int .i64 l9, .int .i64 u9], .agg #[.int .i64 325358913, .int .i64 325358914]] w1 fun e w2 => e = .returned (.agg #[.int .i64 l10, .int .i64 u10]) ∧ Ext (w1.setCell ⟨p, 0, none⟩ (.int .i64 e10)) w2) := by
  unfold Hid
  intro w1 hc hf
  have hh := hn10
  unfold rq10 at hh
  rw [hn9] at hh
  have h := c_div p e9 l9 u9 325358913 325358914 w1 hc hf
  rw [hh] at h
  exact h
 have c11 : Hid (∀ w1, w1.cell? ⟨p, 0, none⟩ = some (.int .i64 e10) → w1.frozen? ⟨p, 0, none⟩ = false → Calls Tryz.prog 89 #[.pointer (some ⟨p, 0, none⟩), .agg #[.int .i64 1099511627776, .int .i64 1099511627776], .agg #[.int .i64 l10, .int .i64 u10]] w1 fun e w2 => e = .returned (.agg #[.int .i64 l11, .int .i64 u11]) ∧ Ext (w1.setCell ⟨p, 0, none⟩ (.int .i64 e11)) w2) := by
  unfold Hid
  intro w1 hc hf
  have hh := hn11
  unfold rq11 at hh
  rw [hn10] at hh
  have h := c_sub p e10 1099511627776 1099511627776 l10 u10 w1 hc hf
  rw [hh] at h
  exact h
 have sa : Hid (∀ w1, Calls Tryz.prog 87 #[.agg #[.int .i64 t, .int .i64 p1, .int .i64 p2, .int .i64 p3, .int .i64 v1, .int .i64 v2, .int .i64 v3]] w1 fun e w2 => e = .returned (.tuple #[.agg #[.int .i64 p1, .int .i64 p1, .int .i64 p2, .int .i64 p2, .int .i64 p3, .int .i64 p3], .agg #[.int .i64 v1, .int .i64 v1, .int .i64 v2, .int .i64 v2, .int .i64 v3, .int .i64 v3]]) ∧ Ext w1 w2) := by
  unfold Hid
  intro w1
  exact r_alone t p1 p2 p3 v1 v2 v3 w1
 have sg : Hid (∀ w1, Calls Tryz.prog 46 #[] w1 fun e w2 => e = .returned (.agg #[.int .i64 325358913, .int .i64 325358914]) ∧ Ext w1 w2) := by
  unfold Hid
  intro w1
  exact r_grav w1
 have sw2 : Hid (∀ w1, Calls Tryz.prog 90 #[.int .i64 2] w1 fun e w2 => e = .returned (.agg #[.int .i64 2199023255552, .int .i64 2199023255552]) ∧ Ext w1 w2) := by
  unfold Hid
  intro w1
  exact r_whole 2 w1 (by decide) (by decide)
 have sw1 : Hid (∀ w1, Calls Tryz.prog 90 #[.int .i64 1] w1 fun e w2 => e = .returned (.agg #[.int .i64 1099511627776, .int .i64 1099511627776]) ∧ Ext w1 w2) := by
  unfold Hid
  intro w1
  exact r_whole 1 w1 (by decide) (by decide)
 have sx : Hid (∀ w1, Calls Tryz.prog 91 #[.agg #[.int .i64 p1, .int .i64 p1, .int .i64 p2, .int .i64 p2, .int .i64 p3, .int .i64 p3], .agg #[.int .i64 v1, .int .i64 v1, .int .i64 v2, .int .i64 v2, .int .i64 v3, .int .i64 v3]] w1 fun e w2 => e = .returned (.tuple #[.agg #[.int .i64 x1, .int .i64 x2, .int .i64 x3, .int .i64 x4, .int .i64 x5, .int .i64 x6], .int .i64 ex]) ∧ Ext w1 w2) := by
  unfold Hid
  intro w1
  have h := r_crs (dia p1 p2 p3) (dia v1 v2 v3) w1 ⟨⟨ip1, ip1⟩, ⟨ip2, ip2⟩, ⟨ip3, ip3⟩⟩ ⟨⟨iv1, iv1⟩, ⟨iv2, iv2⟩, ⟨iv3, iv3⟩⟩
  rw [hnx] at h
  exact h
 rw [hn2, hn6, hn11]
 dsimp only
 clear i8 i6 ip1 ip2 ip3 iv1 iv2 iv3 hnx hn1 hn2 hn3 hn4 hn5 hn6 hn7 hn8 hn9 hn10 hn11
 have l0 : IntKind.i64.wrap 0 = 0 := rfl
 have l1n : IntKind.i64.wrap 1 = 1 := rfl
 have hpw := hC.2.2
 have hW : GB p w w := GB.refl p w
 go_enter Tryz.func40, Tryz.ntmps40
 go_upto_region 1 with fail
 refine wp_nameE fun U0 hU => ?_
 have hx : Ext w U0 := by
  exact T_RS40_9
 have h7 : Bn 7 U0 (w.heap.size) (fun o => if o = 0 then t else if o = 1 then p1 else if o = 2 then p2 else if o = 3 then p3 else if o = 4 then v1 else if o = 5 then v2 else v3) := by
  rw [← hU]
  refine ⟨fun o ho => ?_, fun o => by simp [go_sem, ↓IntWalk.iteOmega], by simp <;> omega⟩
  have hoo : o = 0 ∨ o = 1 ∨ o = 2 ∨ o = 3 ∨ o = 4 ∨ o = 5 ∨ o = 6 := by omega
  rcases hoo with rfl | rfl | rfl | rfl | rfl | rfl | rfl <;> simp [go_sem, ↓IntWalk.iteOmega]
 have hT4 : Bn 2 U0 (w.heap.size + 1) (fun _ => 0) := by
  exact T_RS40_16
 have hT5 : Bn 2 U0 (w.heap.size + 1 + 1) (fun _ => 0) := by
  exact T_RS40_16
 have hT6 : Bn 2 U0 (w.heap.size + 1 + 1 + 1) (fun _ => 0) := by
  exact T_RS40_16
 replace hC := hC.ext hx
 replace hW := hW.trans (GB.ext hx)
 clear hU hx
 have h7q0 := h7.at 0 (t) (by decide) rfl
 have h7q1 := h7.at 1 (p1) (by decide) rfl
 have h7q2 := h7.at 2 (p2) (by decide) rfl
 have h7q3 := h7.at 3 (p3) (by decide) rfl
 have h7q4 := h7.at 4 (v1) (by decide) rfl
 have h7q5 := h7.at 5 (v2) (by decide) rfl
 have h7q6 := h7.at 6 (v3) (by decide) rfl
 go_upto_region 2 with (go_at_call 87; (with_reducible refine (sa.out _).mono ?_); rintro e w1 ⟨rfl, hb⟩; replace hC := hC.ext hb; replace hT4 := hT4.ext hb; replace hT5 := hT5.ext hb; replace hT6 := hT6.ext hb; replace hW := hW.trans (GB.ext hb))
 have hl6 := hT6.2.2
 refine wp_nameE fun U1 hU => ?_
 have hx : Ext w1 U1 := by
  exact T_RS40_9
 have hP : Bn 6 U1 (w1.heap.size) (pf p1 p2 p3) := by
  exact T_RS40_18
 have hV : Bn 6 U1 (w1.heap.size + 1) (pf v1 v2 v3) := by
  exact T_RS40_18
 replace hT4 := hT4.ext hx
 replace hT5 := hT5.ext hx
 replace hT6 := hT6.ext hx
 replace hC := hC.ext hx
 replace hW := hW.trans (GB.ext hx)
 clear h7q0 h7q1 h7q2 h7q3 h7q4 h7q5 h7q6
 clear hU hx h7 hb
 obtain ⟨gP, hgP⟩ : ∃ x, w1.heap.size = x := ⟨_, rfl⟩
 rw [hgP] at hP hV hl6 ⊢
 clear hgP
 go_upto_region 3 with (go_at_call 46; (with_reducible refine (sg.out _).mono ?_); rintro e w1 ⟨rfl, hb⟩; replace hC := hC.ext hb; replace hT4 := hT4.ext hb; replace hT5 := hT5.ext hb; replace hT6 := hT6.ext hb; replace hP := hP.ext hb; replace hV := hV.ext hb; replace hW := hW.trans (GB.ext hb))
 have hlV := hV.2.2
 refine wp_nameE fun U2 hU => ?_
 have hx : Ext w1 U2 := by
  exact T_RS40_9
 have hG : Bn 2 U2 (w1.heap.size) (fun o => if o = 0 then 325358913 else 325358914) := by
  exact T_RS40_16
 replace hT4 := hT4.ext hx
 replace hT5 := hT5.ext hx
 replace hT6 := hT6.ext hx
 replace hP := hP.ext hx
 replace hV := hV.ext hx
 replace hC := hC.ext hx
 replace hW := hW.trans (GB.ext hx)
 clear hU hx hb
 obtain ⟨gG, hgG⟩ : ∃ x, w1.heap.size = x := ⟨_, rfl⟩
 rw [hgG] at hG hlV ⊢
 clear hgG
 have hPq0 := hP.at 0 (p1) (by decide) rfl
 have hPq1 := hP.at 1 (p1) (by decide) rfl
 have hPq2 := hP.at 2 (p2) (by decide) rfl
 have hPq3 := hP.at 3 (p2) (by decide) rfl
 have hPq4 := hP.at 4 (p3) (by decide) rfl
 have hPq5 := hP.at 5 (p3) (by decide) rfl
 go_upto_region 4 with (first
  | (go_at_call 88; (have hcc := hC.at 0 (0) (by decide) rfl); (have hcf := hC.2.1 0); (with_reducible refine (c1.out _ hcc hcf).mono ?_); rintro e w1 ⟨rfl, hb⟩; clear hcc hcf; (have hg := GB.trans (GB.set (GB.refl p _) _) (GB.ext hb)); replace hC := (hC.set 0 e1).ext hb; replace hT4 := hT4.grown hg (by omega); replace hT5 := hT5.grown hg (by omega); replace hT6 := hT6.grown hg (by omega); replace hP := hP.grown hg (by omega); replace hV := hV.grown hg (by omega); replace hG := hG.grown hg (by omega); replace hW := hW.trans hg; clear hg)
  | (go_at_call 45; (have hcc := hC.at 0 (e1) (by decide) rfl); (have hcf := hC.2.1 0); (with_reducible refine (c2.out _ hcc hcf).mono ?_); rintro e w1 ⟨rfl, hb⟩; clear hcc hcf; (have hg := GB.trans (GB.set (GB.refl p _) _) (GB.ext hb)); replace hC := (hC.set 0 e2).ext hb; replace hT4 := hT4.grown hg (by omega); replace hT5 := hT5.grown hg (by omega); replace hT6 := hT6.grown hg (by omega); replace hP := hP.grown hg (by omega); replace hV := hV.grown hg (by omega); replace hG := hG.grown hg (by omega); replace hW := hW.trans hg; clear hg))
 have hlG := hG.2.2
 refine wp_nameE fun U3 hU => ?_
 have hx : Ext w1 U3 := by
  exact T_RS40_9
 have hR : Bn 2 U3 (w1.heap.size) (fun o => if o = 0 then l2 else u2) := by
  exact T_RS40_16
 replace hT4 := hT4.ext hx
 replace hT5 := hT5.ext hx
 replace hT6 := hT6.ext hx
 replace hP := hP.ext hx
 replace hV := hV.ext hx
 replace hG := hG.ext hx
 replace hC := hC.ext hx
 replace hW := hW.trans (GB.ext hx)
 clear hPq0 hPq1 hPq2 hPq3 hPq4 hPq5
 clear hU hx hb
 obtain ⟨gR, hgR⟩ : ∃ x, w1.heap.size = x := ⟨_, rfl⟩
 rw [hgR] at hR hlG ⊢
 clear hgR
 go_cut [11] from 26 to 37 (fun s11 wx => ∃ g : Nat, s11 = .pointer (some ⟨g, 0, none⟩) ∧ gR < g ∧ Bn 2 wx g (fun o => if o = 0 then l6 else u6) ∧ (Bn 2 wx (w.heap.size + 1) (fun _ => 0) ∧ Bn 2 wx (w.heap.size + 1 + 1) (fun _ => 0) ∧ Bn 2 wx (w.heap.size + 1 + 1 + 1) (fun _ => 0)) ∧ Bn 6 wx gP (pf p1 p2 p3) ∧ Bn 6 wx (gP + 1) (pf v1 v2 v3) ∧ Bn 2 wx gG (fun o => if o = 0 then 325358913 else 325358914) ∧ Bn 2 wx gR (fun o => if o = 0 then l2 else u2) ∧ Bn 1 wx p (fun _ => e6) ∧ GB p w wx)
 case first =>
  replace hT4 := hT4.ext ((Ext.refl _).drew)
  replace hT5 := hT5.ext ((Ext.refl _).drew)
  replace hT6 := hT6.ext ((Ext.refl _).drew)
  replace hP := hP.ext ((Ext.refl _).drew)
  replace hC := hC.ext ((Ext.refl _).drew)
  replace hW := hW.drew
  refine wp_region_held_drew (S := (fun w0 => Bn 6 w0 (gP + 1) (pf v1 v2 v3) ∧ Bn 2 w0 gG (fun o => if o = 0 then 325358913 else 325358914) ∧ Bn 2 w0 gR (fun o => if o = 0 then l2 else u2))) c_4 ?_ (fun hHeld => ?_)
  ·exact ⟨hV.ext ((Ext.refl _).drew), hG.ext ((Ext.refl _).drew), hR.ext ((Ext.refl _).drew)⟩
  try simp only [sx_]
  refine wpAnyH_name fun Y4 hY => ?_
  rw [hY] at hHeld hC hW hT4 hT5 hT6 hP
  clear hY
  clear hV hG hR
  refine tk 0 rfl c_0 ?_
  try simp only [sx_]
  refine tk 1 rfl c_0 ?_
  try simp only [sx_]
  refine tk (v := ?_) 3 rfl ?_ ?_
  rotate_left
  ·exact T_RS40_14
  try simp only [sx_]
  refine tk 5 rfl c_0 ?_
  try simp only [sx_]
  refine tk 6 rfl c_0 ?_
  try simp only [sx_]
  refine tk (v := ?_) 7 rfl ?_ ?_
  rotate_left
  ·exact T_RS40_14
  try simp only [sx_]
  refine tk (v := ?_) 9 rfl ?_ ?_
  rotate_left
  ·exact T_RS40_14
  try simp only [sx_]
  refine wpAnyH_ready (rs := [2, 12]) c_4 (by simp) ?_
  refine rd2 rfl rfl (fun K hK => ?_) fun K hK => ?_
  ·obtain ⟨hV, hG, hR⟩ := id hHeld
   go_simp
   (go_at_call 90; (with_reducible refine (sw2.out _).mono ?_); rintro e w1 ⟨rfl, hb⟩; replace hC := hC.ext hb; replace hV := hV.ext hb; replace hG := hG.ext hb; replace hR := hR.ext hb; replace hT4 := hT4.ext hb; replace hT5 := hT5.ext hb; replace hT6 := hT6.ext hb; replace hP := hP.ext hb; replace hW := hW.trans (GB.ext hb))
   refine hK.out _ _ ?_ (fun hHeldN => ?_)
   ·(try dsimp only); exact ⟨hV, hG, hR⟩
   clear hK K hHeld
   have hHeld := hHeldN
   clear hHeldN
   try simp only [sx_]
   clear hV hG hR hb
   refine wpAnyH_ready (rs := [4, 12]) c_4 (by simp) ?_
   refine rd2 rfl rfl (fun K hK => ?_) fun K hK => ?_
   ·obtain ⟨hV, hG, hR⟩ := id hHeld
    go_simp
    (go_at_call 48; (have hcc := hC.at 0 (e2) (by decide) rfl); (have hcf := hC.2.1 0); (with_reducible refine (c3.out _ hcc hcf).mono ?_); rintro e w1 ⟨rfl, hb⟩; clear hcc hcf; (have hg := GB.trans (GB.set (GB.refl p _) _) (GB.ext hb)); replace hC := (hC.set 0 e3).ext hb; replace hV := hV.grown hg (by omega); replace hG := hG.grown hg (by omega); replace hR := hR.grown hg (by omega); replace hT4 := hT4.grown hg (by omega); replace hT5 := hT5.grown hg (by omega); replace hT6 := hT6.grown hg (by omega); replace hP := hP.grown hg (by omega); replace hW := hW.trans hg; clear hg)
    refine hK.out _ _ ?_ (fun hHeldN => ?_)
    ·(try dsimp only); exact ⟨hV, hG, hR⟩
    clear hK K hHeld
    have hHeld := hHeldN
    clear hHeldN
    try simp only [sx_]
    clear hV hG hR hb
    refine wpAnyH_ready (rs := [8, 12]) c_4 (by simp) ?_
    refine rd2 rfl rfl (fun K hK => ?_) fun K hK => ?_
    ·obtain ⟨hV, hG, hR⟩ := id hHeld
     go_simp
     (go_at_call 88; (have hcc := hC.at 0 (e3) (by decide) rfl); (have hcf := hC.2.1 0); (with_reducible refine (c4.out _ hcc hcf).mono ?_); rintro e w1 ⟨rfl, hb⟩; clear hcc hcf; (have hg := GB.trans (GB.set (GB.refl p _) _) (GB.ext hb)); replace hC := (hC.set 0 e4).ext hb; replace hV := hV.grown hg (by omega); replace hG := hG.grown hg (by omega); replace hR := hR.grown hg (by omega); replace hT4 := hT4.grown hg (by omega); replace hT5 := hT5.grown hg (by omega); replace hT6 := hT6.grown hg (by omega); replace hP := hP.grown hg (by omega); replace hW := hW.trans hg; clear hg)
     refine hK.out _ _ ?_ (fun hHeldN => ?_)
     ·(try dsimp only); exact ⟨hV, hG, hR⟩
     clear hK K hHeld
     have hHeld := hHeldN
     clear hHeldN
     try simp only [sx_]
     clear hV hG hR hb
     refine wpAnyH_ready (rs := [10, 12]) c_4 (by simp) ?_
     refine rd2 rfl rfl (fun K hK => ?_) fun K hK => ?_
     ·obtain ⟨hV, hG, hR⟩ := id hHeld
      go_simp
      (go_at_call 48; (have hcc := hC.at 0 (e4) (by decide) rfl); (have hcf := hC.2.1 0); (with_reducible refine (c5.out _ hcc hcf).mono ?_); rintro e w1 ⟨rfl, hb⟩; clear hcc hcf; (have hg := GB.trans (GB.set (GB.refl p _) _) (GB.ext hb)); replace hC := (hC.set 0 e5).ext hb; replace hV := hV.grown hg (by omega); replace hG := hG.grown hg (by omega); replace hR := hR.grown hg (by omega); replace hT4 := hT4.grown hg (by omega); replace hT5 := hT5.grown hg (by omega); replace hT6 := hT6.grown hg (by omega); replace hP := hP.grown hg (by omega); replace hW := hW.trans hg; clear hg)
      refine hK.out _ _ ?_ (fun hHeldN => ?_)
      ·(try dsimp only); exact ⟨hV, hG, hR⟩
      clear hK K hHeld
      have hHeld := hHeldN
      clear hHeldN
      try simp only [sx_]
      clear hV hG hR hb
      refine wpAnyH_ready (rs := [11, 12]) c_4 (by simp) ?_
      refine rd2 rfl rfl (fun K hK => ?_) fun K hK => ?_
      ·obtain ⟨hV, hG, hR⟩ := id hHeld
       go_simp
       (go_at_call 89; (have hcc := hC.at 0 (e5) (by decide) rfl); (have hcf := hC.2.1 0); (with_reducible refine (c6.out _ hcc hcf).mono ?_); rintro e w1 ⟨rfl, hb⟩; clear hcc hcf; (have hg := GB.trans (GB.set (GB.refl p _) _) (GB.ext hb)); replace hC := (hC.set 0 e6).ext hb; replace hV := hV.grown hg (by omega); replace hG := hG.grown hg (by omega); replace hR := hR.grown hg (by omega); replace hT4 := hT4.grown hg (by omega); replace hT5 := hT5.grown hg (by omega); replace hT6 := hT6.grown hg (by omega); replace hP := hP.grown hg (by omega); replace hW := hW.trans hg; clear hg)
       refine hK.out _ _ ?_ (fun hHeldN => ?_)
       ·(try dsimp only); exact ⟨hV, hG, hR⟩
       clear hK K hHeld
       have hHeld := hHeldN
       clear hHeldN
       try simp only [sx_]
       clear hV hG hR hb
       refine wpAnyH_ready (rs := [12]) c_4 (by simp) ?_
       refine rd1 rfl fun K hK => ?_
       obtain ⟨hV, hG, hR⟩ := id hHeld
       go_simp
       refine hK.out _ _ ?_ (fun hHeldN => ?_)
       ·exact T_RS40_3
       clear hK K hHeld
       have hHeld := hHeldN
       clear hHeldN
       try simp only [sx_]
       have hga := hR.2.2
       refine wpAnyH_name fun Z8 hZ => ?_
       obtain ⟨hSl, hx⟩ := Bn.two hZ
       rw [hZ] at hHeld
       replace hT4 := hT4.ext hx
       replace hT5 := hT5.ext hx
       replace hT6 := hT6.ext hx
       replace hP := hP.ext hx
       replace hC := hC.ext hx
       replace hW := hW.trans (GB.ext hx)
       clear hZ hx hV hG hR
       exact T_RS40_6
      ·obtain ⟨hV, hG, hR⟩ := id hHeld
       go_simp
       refine hK.out _ _ ?_ (fun hHeldN => ?_)
       ·exact T_RS40_3
       clear hK K hHeld
       have hHeld := hHeldN
       clear hHeldN
       try simp only [sx_]
       have hga := hR.2.2
       refine wpAnyH_name fun Z8 hZ => ?_
       obtain ⟨hSl, hx⟩ := Bn.two hZ
       rw [hZ] at hHeld
       replace hT4 := hT4.ext hx
       replace hT5 := hT5.ext hx
       replace hT6 := hT6.ext hx
       replace hP := hP.ext hx
       replace hC := hC.ext hx
       replace hW := hW.trans (GB.ext hx)
       clear hZ hx hV hG hR
       exact T_RS40_11
     ·obtain ⟨hV, hG, hR⟩ := id hHeld
      go_simp
      refine hK.out _ _ ?_ (fun hHeldN => ?_)
      ·exact T_RS40_3
      clear hK K hHeld
      have hHeld := hHeldN
      clear hHeldN
      try simp only [sx_]
      have hga := hR.2.2
      refine wpAnyH_name fun Z8 hZ => ?_
      obtain ⟨hSl, hx⟩ := Bn.two hZ
      rw [hZ] at hHeld
      replace hT4 := hT4.ext hx
      replace hT5 := hT5.ext hx
      replace hT6 := hT6.ext hx
      replace hP := hP.ext hx
      replace hC := hC.ext hx
      replace hW := hW.trans (GB.ext hx)
      clear hZ hx hV hG hR
      exact T_RS40_2
    ·obtain ⟨hV, hG, hR⟩ := id hHeld
     go_simp
     refine hK.out _ _ ?_ (fun hHeldN => ?_)
     ·exact T_RS40_3
     clear hK K hHeld
     have hHeld := hHeldN
     clear hHeldN
     try simp only [sx_]
     have hga := hR.2.2
     refine wpAnyH_name fun Z8 hZ => ?_
     obtain ⟨hSl, hx⟩ := Bn.two hZ
     rw [hZ] at hHeld
     replace hT4 := hT4.ext hx
     replace hT5 := hT5.ext hx
     replace hT6 := hT6.ext hx
     replace hP := hP.ext hx
     replace hC := hC.ext hx
     replace hW := hW.trans (GB.ext hx)
     clear hZ hx hV hG hR
     exact T_RS40_13
   ·obtain ⟨hV, hG, hR⟩ := id hHeld
    go_simp
    refine hK.out _ _ ?_ (fun hHeldN => ?_)
    ·exact T_RS40_3
    clear hK K hHeld
    have hHeld := hHeldN
    clear hHeldN
    try simp only [sx_]
    have hga := hR.2.2
    refine wpAnyH_name fun Z8 hZ => ?_
    obtain ⟨hSl, hx⟩ := Bn.two hZ
    rw [hZ] at hHeld
    replace hT4 := hT4.ext hx
    replace hT5 := hT5.ext hx
    replace hT6 := hT6.ext hx
    replace hP := hP.ext hx
    replace hC := hC.ext hx
    replace hW := hW.trans (GB.ext hx)
    clear hZ hx hV hG hR
    exact T_RS40_8
  ·obtain ⟨hV, hG, hR⟩ := id hHeld
   go_simp
   refine hK.out _ _ ?_ (fun hHeldN => ?_)
   ·exact T_RS40_3
   clear hK K hHeld
   have hHeld := hHeldN
   clear hHeldN
   try simp only [sx_]
   have hga := hR.2.2
   refine wpAnyH_name fun Z8 hZ => ?_
   obtain ⟨hSl, hx⟩ := Bn.two hZ
   rw [hZ] at hHeld
   replace hT4 := hT4.ext hx
   replace hT5 := hT5.ext hx
   replace hT6 := hT6.ext hx
   replace hP := hP.ext hx
   replace hC := hC.ext hx
   replace hW := hW.trans (GB.ext hx)
   clear hZ hx hV hG hR
   refine wpAnyH_ready (rs := [2]) c_4 (by simp) ?_
   refine rd1 rfl fun K hK => ?_
   obtain ⟨hV, hG, hR⟩ := id hHeld
   go_simp
   (go_at_call 90; (with_reducible refine (sw2.out _).mono ?_); rintro e w1 ⟨rfl, hb⟩; replace hC := hC.ext hb; replace hV := hV.ext hb; replace hG := hG.ext hb; replace hR := hR.ext hb; replace hT4 := hT4.ext hb; replace hT5 := hT5.ext hb; replace hT6 := hT6.ext hb; replace hP := hP.ext hb; replace hSl := hSl.ext hb; replace hW := hW.trans (GB.ext hb))
   refine hK.out _ _ ?_ (fun hHeldN => ?_)
   ·(try dsimp only); exact ⟨hV, hG, hR⟩
   clear hK K hHeld
   have hHeld := hHeldN
   clear hHeldN
   try simp only [sx_]
   clear hV hG hR hb
   exact T_RS40_8
 case rest =>
  obtain ⟨gA, rfl, hlA, hA, ⟨hT4, hT5, hT6⟩, hP, hV, hG, hR, hC, hW⟩ := hcut
  go_upto_region 5 with fail
  refine wp_nameE fun U4 hU => ?_
  rw [hU] at hC hW hT4 hT5 hT6 hP hV hG hR hA
  clear hU
  have hPq0 := hP.at 0 (p1) (by decide) rfl
  have hPq1 := hP.at 1 (p1) (by decide) rfl
  have hPq2 := hP.at 2 (p2) (by decide) rfl
  have hPq3 := hP.at 3 (p2) (by decide) rfl
  have hPq4 := hP.at 4 (p3) (by decide) rfl
  have hPq5 := hP.at 5 (p3) (by decide) rfl
  have hVq0 := hV.at 0 (v1) (by decide) rfl
  have hVq1 := hV.at 1 (v1) (by decide) rfl
  have hVq2 := hV.at 2 (v2) (by decide) rfl
  have hVq3 := hV.at 3 (v2) (by decide) rfl
  have hVq4 := hV.at 4 (v3) (by decide) rfl
  have hVq5 := hV.at 5 (v3) (by decide) rfl
  go_upto_region 6 with (go_at_call 91; (with_reducible refine (sx.out _).mono ?_); rintro e w1 ⟨rfl, hb⟩; replace hC := hC.ext hb; replace hT4 := hT4.ext hb; replace hT5 := hT5.ext hb; replace hT6 := hT6.ext hb; replace hP := hP.ext hb; replace hV := hV.ext hb; replace hG := hG.ext hb; replace hR := hR.ext hb; replace hA := hA.ext hb; replace hW := hW.trans (GB.ext hb))
  have hlA2 := hA.2.2
  refine wp_nameE fun U5 hU => ?_
  have hx : Ext w1 U5 := by
   exact T_RS40_9
  have hH : Bn 6 U5 (w1.heap.size) (fun o => if o = 0 then x1 else if o = 1 then x2 else if o = 2 then x3 else if o = 3 then x4 else if o = 4 then x5 else x6) := by
   rw [← hU]
   refine ⟨fun o ho => ?_, fun o => by simp [go_sem, ↓IntWalk.iteOmega], by simp <;> omega⟩
   have hoo : o = 0 ∨ o = 1 ∨ o = 2 ∨ o = 3 ∨ o = 4 ∨ o = 5 := by omega
   rcases hoo with rfl | rfl | rfl | rfl | rfl | rfl <;> simp [go_sem, ↓IntWalk.iteOmega]
  replace hT4 := hT4.ext hx
  replace hT5 := hT5.ext hx
  replace hT6 := hT6.ext hx
  replace hP := hP.ext hx
  replace hV := hV.ext hx
  replace hG := hG.ext hx
  replace hR := hR.ext hx
  replace hA := hA.ext hx
  replace hC := hC.ext hx
  replace hW := hW.trans (GB.ext hx)
  clear hPq0 hPq1 hPq2 hPq3 hPq4 hPq5
  clear hVq0 hVq1 hVq2 hVq3 hVq4 hVq5
  clear hU hx hb hP hV
  obtain ⟨gH, hgH⟩ : ∃ x, w1.heap.size = x := ⟨_, rfl⟩
  rw [hgH] at hH hlA2 ⊢
  clear hgH
  go_upto_region 7 with (go_at_call 49; (have hcc := hC.at 0 (e6) (by decide) rfl); (have hcf := hC.2.1 0); (with_reducible refine (c7.out _ hcc hcf).mono ?_); rintro e w1 ⟨rfl, hb⟩; clear hcc hcf; (have hg := GB.trans (GB.set (GB.refl p _) _) (GB.ext hb)); replace hC := (hC.set 0 e7).ext hb; replace hT4 := hT4.grown hg (by omega); replace hT5 := hT5.grown hg (by omega); replace hT6 := hT6.grown hg (by omega); replace hG := hG.grown hg (by omega); replace hR := hR.grown hg (by omega); replace hA := hA.grown hg (by omega); replace hH := hH.grown hg (by omega); replace hW := hW.trans hg; clear hg)
  refine wp_nameE fun U6 hU => ?_
  rw [hU] at hC hW hT4 hT5 hT6 hG hR hA hH
  clear hU
  go_cut [14] from 48 to 59 (fun s14 wx => ∃ g : Nat, s14 = .pointer (some ⟨g, 0, none⟩) ∧ gH < g ∧ Bn 2 wx g (fun o => if o = 0 then l11 else u11) ∧ (Bn 2 wx (w.heap.size + 1) (fun _ => 0) ∧ Bn 2 wx (w.heap.size + 1 + 1) (fun _ => 0) ∧ Bn 2 wx (w.heap.size + 1 + 1 + 1) (fun _ => 0)) ∧ Bn 2 wx gA (fun o => if o = 0 then l6 else u6) ∧ Bn 2 wx gR (fun o => if o = 0 then l2 else u2) ∧ Bn 1 wx p (fun _ => e11) ∧ GB p w wx)
  case first =>
   replace hT4 := hT4.ext ((Ext.refl _).drew)
   replace hT5 := hT5.ext ((Ext.refl _).drew)
   replace hT6 := hT6.ext ((Ext.refl _).drew)
   replace hR := hR.ext ((Ext.refl _).drew)
   replace hC := hC.ext ((Ext.refl _).drew)
   replace hW := hW.drew
   refine wp_region_held_drew (S := (fun w0 => Bn 6 w0 gH (fun o => if o = 0 then x1 else if o = 1 then x2 else if o = 2 then x3 else if o = 3 then x4 else if o = 4 then x5 else x6) ∧ Bn 2 w0 gA (fun o => if o = 0 then l6 else u6) ∧ Bn 2 w0 gG (fun o => if o = 0 then 325358913 else 325358914))) c_4 ?_ (fun hHeld => ?_)
   ·exact ⟨hH.ext ((Ext.refl _).drew), hA.ext ((Ext.refl _).drew), hG.ext ((Ext.refl _).drew)⟩
   try simp only [sx_]
   refine wpAnyH_name fun Y7 hY => ?_
   rw [hY] at hHeld hC hW hT4 hT5 hT6 hR
   clear hY
   clear hH hA hG
   refine tk 0 rfl c_0 ?_
   try simp only [sx_]
   refine tk 2 rfl c_0 ?_
   try simp only [sx_]
   refine tk 3 rfl c_0 ?_
   try simp only [sx_]
   refine tk 4 rfl c_0 ?_
   try simp only [sx_]
   refine tk (v := ?_) 5 rfl ?_ ?_
   rotate_left
   ·exact T_RS40_15
   try simp only [sx_]
   refine tk (v := ?_) 7 rfl ?_ ?_
   rotate_left
   ·exact T_RS40_15
   try simp only [sx_]
   refine tk (v := ?_) 9 rfl ?_ ?_
   rotate_left
   ·exact T_RS40_15
   try simp only [sx_]
   refine wpAnyH_ready (rs := [1, 12]) c_4 (by simp) ?_
   refine rd2 rfl rfl (fun K hK => ?_) fun K hK => ?_
   ·obtain ⟨hH, hA, hG⟩ := id hHeld
    go_simp
    (go_at_call 90; (with_reducible refine (sw1.out _).mono ?_); rintro e w1 ⟨rfl, hb⟩; replace hC := hC.ext hb; replace hH := hH.ext hb; replace hA := hA.ext hb; replace hG := hG.ext hb; replace hT4 := hT4.ext hb; replace hT5 := hT5.ext hb; replace hT6 := hT6.ext hb; replace hR := hR.ext hb; replace hW := hW.trans (GB.ext hb))
    refine hK.out _ _ ?_ (fun hHeldN => ?_)
    ·(try dsimp only); exact ⟨hH, hA, hG⟩
    clear hK K hHeld
    have hHeld := hHeldN
    clear hHeldN
    try simp only [sx_]
    clear hH hA hG hb
    refine wpAnyH_ready (rs := [6, 12]) c_4 (by simp) ?_
    refine rd2 rfl rfl (fun K hK => ?_) fun K hK => ?_
    ·obtain ⟨hH, hA, hG⟩ := id hHeld
     go_simp
     (go_at_call 88; (have hcc := hC.at 0 (e7) (by decide) rfl); (have hcf := hC.2.1 0); (with_reducible refine (c8.out _ hcc hcf).mono ?_); rintro e w1 ⟨rfl, hb⟩; clear hcc hcf; (have hg := GB.trans (GB.set (GB.refl p _) _) (GB.ext hb)); replace hC := (hC.set 0 e8).ext hb; replace hH := hH.grown hg (by omega); replace hA := hA.grown hg (by omega); replace hG := hG.grown hg (by omega); replace hT4 := hT4.grown hg (by omega); replace hT5 := hT5.grown hg (by omega); replace hT6 := hT6.grown hg (by omega); replace hR := hR.grown hg (by omega); replace hW := hW.trans hg; clear hg)
     refine hK.out _ _ ?_ (fun hHeldN => ?_)
     ·(try dsimp only); exact ⟨hH, hA, hG⟩
     clear hK K hHeld
     have hHeld := hHeldN
     clear hHeldN
     try simp only [sx_]
     clear hH hA hG hb
     refine wpAnyH_ready (rs := [8, 12]) c_4 (by simp) ?_
     refine rd2 rfl rfl (fun K hK => ?_) fun K hK => ?_
     ·obtain ⟨hH, hA, hG⟩ := id hHeld
      go_simp
      (go_at_call 47; (have hcc := hC.at 0 (e8) (by decide) rfl); (have hcf := hC.2.1 0); (with_reducible refine (c9.out _ hcc hcf).mono ?_); rintro e w1 ⟨rfl, hb⟩; clear hcc hcf; (have hg := GB.trans (GB.set (GB.refl p _) _) (GB.ext hb)); replace hC := (hC.set 0 e9).ext hb; replace hH := hH.grown hg (by omega); replace hA := hA.grown hg (by omega); replace hG := hG.grown hg (by omega); replace hT4 := hT4.grown hg (by omega); replace hT5 := hT5.grown hg (by omega); replace hT6 := hT6.grown hg (by omega); replace hR := hR.grown hg (by omega); replace hW := hW.trans hg; clear hg)
      refine hK.out _ _ ?_ (fun hHeldN => ?_)
      ·(try dsimp only); exact ⟨hH, hA, hG⟩
      clear hK K hHeld
      have hHeld := hHeldN
      clear hHeldN
      try simp only [sx_]
      clear hH hA hG hb
      refine wpAnyH_ready (rs := [10, 12]) c_4 (by simp) ?_
      refine rd2 rfl rfl (fun K hK => ?_) fun K hK => ?_
      ·obtain ⟨hH, hA, hG⟩ := id hHeld
       go_simp
       (go_at_call 48; (have hcc := hC.at 0 (e9) (by decide) rfl); (have hcf := hC.2.1 0); (with_reducible refine (c10.out _ hcc hcf).mono ?_); rintro e w1 ⟨rfl, hb⟩; clear hcc hcf; (have hg := GB.trans (GB.set (GB.refl p _) _) (GB.ext hb)); replace hC := (hC.set 0 e10).ext hb; replace hH := hH.grown hg (by omega); replace hA := hA.grown hg (by omega); replace hG := hG.grown hg (by omega); replace hT4 := hT4.grown hg (by omega); replace hT5 := hT5.grown hg (by omega); replace hT6 := hT6.grown hg (by omega); replace hR := hR.grown hg (by omega); replace hW := hW.trans hg; clear hg)
       refine hK.out _ _ ?_ (fun hHeldN => ?_)
       ·(try dsimp only); exact ⟨hH, hA, hG⟩
       clear hK K hHeld
       have hHeld := hHeldN
       clear hHeldN
       try simp only [sx_]
       clear hH hA hG hb
       refine wpAnyH_ready (rs := [11, 12]) c_4 (by simp) ?_
       refine rd2 rfl rfl (fun K hK => ?_) fun K hK => ?_
       ·obtain ⟨hH, hA, hG⟩ := id hHeld
        go_simp
        (go_at_call 89; (have hcc := hC.at 0 (e10) (by decide) rfl); (have hcf := hC.2.1 0); (with_reducible refine (c11.out _ hcc hcf).mono ?_); rintro e w1 ⟨rfl, hb⟩; clear hcc hcf; (have hg := GB.trans (GB.set (GB.refl p _) _) (GB.ext hb)); replace hC := (hC.set 0 e11).ext hb; replace hH := hH.grown hg (by omega); replace hA := hA.grown hg (by omega); replace hG := hG.grown hg (by omega); replace hT4 := hT4.grown hg (by omega); replace hT5 := hT5.grown hg (by omega); replace hT6 := hT6.grown hg (by omega); replace hR := hR.grown hg (by omega); replace hW := hW.trans hg; clear hg)
        refine hK.out _ _ ?_ (fun hHeldN => ?_)
        ·(try dsimp only); exact ⟨hH, hA, hG⟩
        clear hK K hHeld
        have hHeld := hHeldN
        clear hHeldN
        try simp only [sx_]
        clear hH hA hG hb
        refine wpAnyH_ready (rs := [12]) c_4 (by simp) ?_
        refine rd1 rfl fun K hK => ?_
        obtain ⟨hH, hA, hG⟩ := id hHeld
        go_simp
        refine hK.out _ _ ?_ (fun hHeldN => ?_)
        ·exact T_RS40_4
        clear hK K hHeld
        have hHeld := hHeldN
        clear hHeldN
        try simp only [sx_]
        have hga := hH.2.2
        refine wpAnyH_name fun Z8 hZ => ?_
        obtain ⟨hSl, hx⟩ := Bn.two hZ
        rw [hZ] at hHeld
        replace hT4 := hT4.ext hx
        replace hT5 := hT5.ext hx
        replace hT6 := hT6.ext hx
        replace hR := hR.ext hx
        replace hC := hC.ext hx
        replace hW := hW.trans (GB.ext hx)
        clear hZ hx hH hA hG
        exact T_RS40_5
       ·obtain ⟨hH, hA, hG⟩ := id hHeld
        go_simp
        refine hK.out _ _ ?_ (fun hHeldN => ?_)
        ·exact T_RS40_4
        clear hK K hHeld
        have hHeld := hHeldN
        clear hHeldN
        try simp only [sx_]
        have hga := hH.2.2
        refine wpAnyH_name fun Z8 hZ => ?_
        obtain ⟨hSl, hx⟩ := Bn.two hZ
        rw [hZ] at hHeld
        replace hT4 := hT4.ext hx
        replace hT5 := hT5.ext hx
        replace hT6 := hT6.ext hx
        replace hR := hR.ext hx
        replace hC := hC.ext hx
        replace hW := hW.trans (GB.ext hx)
        clear hZ hx hH hA hG
        exact T_RS40_10
      ·obtain ⟨hH, hA, hG⟩ := id hHeld
       go_simp
       refine hK.out _ _ ?_ (fun hHeldN => ?_)
       ·exact T_RS40_4
       clear hK K hHeld
       have hHeld := hHeldN
       clear hHeldN
       try simp only [sx_]
       have hga := hH.2.2
       refine wpAnyH_name fun Z8 hZ => ?_
       obtain ⟨hSl, hx⟩ := Bn.two hZ
       rw [hZ] at hHeld
       replace hT4 := hT4.ext hx
       replace hT5 := hT5.ext hx
       replace hT6 := hT6.ext hx
       replace hR := hR.ext hx
       replace hC := hC.ext hx
       replace hW := hW.trans (GB.ext hx)
       clear hZ hx hH hA hG
       exact T_RS40_1
     ·obtain ⟨hH, hA, hG⟩ := id hHeld
      go_simp
      refine hK.out _ _ ?_ (fun hHeldN => ?_)
      ·exact T_RS40_4
      clear hK K hHeld
      have hHeld := hHeldN
      clear hHeldN
      try simp only [sx_]
      have hga := hH.2.2
      refine wpAnyH_name fun Z8 hZ => ?_
      obtain ⟨hSl, hx⟩ := Bn.two hZ
      rw [hZ] at hHeld
      replace hT4 := hT4.ext hx
      replace hT5 := hT5.ext hx
      replace hT6 := hT6.ext hx
      replace hR := hR.ext hx
      replace hC := hC.ext hx
      replace hW := hW.trans (GB.ext hx)
      clear hZ hx hH hA hG
      exact T_RS40_12
    ·obtain ⟨hH, hA, hG⟩ := id hHeld
     go_simp
     refine hK.out _ _ ?_ (fun hHeldN => ?_)
     ·exact T_RS40_4
     clear hK K hHeld
     have hHeld := hHeldN
     clear hHeldN
     try simp only [sx_]
     have hga := hH.2.2
     refine wpAnyH_name fun Z8 hZ => ?_
     obtain ⟨hSl, hx⟩ := Bn.two hZ
     rw [hZ] at hHeld
     replace hT4 := hT4.ext hx
     replace hT5 := hT5.ext hx
     replace hT6 := hT6.ext hx
     replace hR := hR.ext hx
     replace hC := hC.ext hx
     replace hW := hW.trans (GB.ext hx)
     clear hZ hx hH hA hG
     exact T_RS40_7
   ·obtain ⟨hH, hA, hG⟩ := id hHeld
    go_simp
    refine hK.out _ _ ?_ (fun hHeldN => ?_)
    ·exact T_RS40_4
    clear hK K hHeld
    have hHeld := hHeldN
    clear hHeldN
    try simp only [sx_]
    have hga := hH.2.2
    refine wpAnyH_name fun Z8 hZ => ?_
    obtain ⟨hSl, hx⟩ := Bn.two hZ
    rw [hZ] at hHeld
    replace hT4 := hT4.ext hx
    replace hT5 := hT5.ext hx
    replace hT6 := hT6.ext hx
    replace hR := hR.ext hx
    replace hC := hC.ext hx
    replace hW := hW.trans (GB.ext hx)
    clear hZ hx hH hA hG
    refine wpAnyH_ready (rs := [1]) c_4 (by simp) ?_
    refine rd1 rfl fun K hK => ?_
    obtain ⟨hH, hA, hG⟩ := id hHeld
    go_simp
    (go_at_call 90; (with_reducible refine (sw1.out _).mono ?_); rintro e w1 ⟨rfl, hb⟩; replace hC := hC.ext hb; replace hH := hH.ext hb; replace hA := hA.ext hb; replace hG := hG.ext hb; replace hT4 := hT4.ext hb; replace hT5 := hT5.ext hb; replace hT6 := hT6.ext hb; replace hR := hR.ext hb; replace hSl := hSl.ext hb; replace hW := hW.trans (GB.ext hb))
    refine hK.out _ _ ?_ (fun hHeldN => ?_)
    ·(try dsimp only); exact ⟨hH, hA, hG⟩
    clear hK K hHeld
    have hHeld := hHeldN
    clear hHeldN
    try simp only [sx_]
    clear hH hA hG hb
    exact T_RS40_7
  case rest =>
   obtain ⟨gK, rfl, hlK, hK9, ⟨hT4, hT5, hT6⟩, hA, hR, hC, hW⟩ := hcut
   go_upto_region 8 with fail
   refine wp_nameE fun U8 hU => ?_
   rw [hU] at hC hW hR hA hK9 hT4 hT5 hT6
   clear hU
   replace hT4 := hT4.ext ((Ext.refl _).drew)
   replace hT5 := hT5.ext ((Ext.refl _).drew)
   replace hT6 := hT6.ext ((Ext.refl _).drew)
   replace hC := hC.ext ((Ext.refl _).drew)
   replace hW := hW.drew
   refine wp_region_held_drew (S := (fun w0 => Bn 2 w0 gR (fun o => if o = 0 then l2 else u2) ∧ Bn 2 w0 gA (fun o => if o = 0 then l6 else u6) ∧ Bn 2 w0 gK (fun o => if o = 0 then l11 else u11))) c_4 ?_ (fun hHeld => ?_)
   ·exact ⟨hR.ext ((Ext.refl _).drew), hA.ext ((Ext.refl _).drew), hK9.ext ((Ext.refl _).drew)⟩
   try simp only [sx_]
   refine wpAnyH_name fun Y8 hY => ?_
   rw [hY] at hHeld hC hW hT4 hT5 hT6
   clear hY
   clear hR hA hK9
   refine tk (v := ?_) 0 rfl ?_ ?_
   rotate_left
   ·exact T_RS40_17
   try simp only [sx_]
   refine tk (v := ?_) 1 rfl ?_ ?_
   rotate_left
   ·exact T_RS40_17
   try simp only [sx_]
   refine tk (v := ?_) 2 rfl ?_ ?_
   rotate_left
   ·exact T_RS40_17
   try simp only [sx_]
   refine wpAnyH_ready (rs := [3]) c_4 (by simp) ?_
   refine rd1 rfl fun K hK => ?_
   obtain ⟨hR, hA, hK9⟩ := id hHeld
   have c0 := hT4.at 0 0 (by decide) rfl
   have d1 := hT4.at 1 0 (by decide) rfl
   have cf := hT4.2.1
   have hW2 := hT4.new2 hW (by omega) l2 u2
   have hgb := hT4.gb2 0 1 l2 u2
   replace hT4 := (hT4.set 0 l2).set 1 u2
   replace hR := hR.grown hgb (by omega)
   replace hA := hA.grown hgb (by omega)
   replace hK9 := hK9.grown hgb (by omega)
   replace hC := hC.grown hgb (by omega)
   replace hT5 := hT5.grown hgb (by omega)
   replace hT6 := hT6.grown hgb (by omega)
   replace hW := hW2
   clear hgb hW2
   go_simp
   refine hK.out _ _ ?_ (fun hHeldN => ?_)
   ·(try dsimp only); exact ⟨hR, hA, hK9⟩
   clear hK K hHeld
   have hHeld := hHeldN
   clear hHeldN
   try simp only [sx_]
   refine wpAnyH_name fun Z0 hY => ?_
   rw [hY] at hHeld hC hW hT4 hT5 hT6
   clear hY
   clear c0 d1 cf hR hA hK9
   refine wpAnyH_ready (rs := [4]) c_4 (by simp) ?_
   refine rd1 rfl fun K hK => ?_
   obtain ⟨hR, hA, hK9⟩ := id hHeld
   have c0 := hT5.at 0 0 (by decide) rfl
   have d1 := hT5.at 1 0 (by decide) rfl
   have cf := hT5.2.1
   have hW2 := hT5.new2 hW (by omega) l6 u6
   have hgb := hT5.gb2 0 1 l6 u6
   replace hT5 := (hT5.set 0 l6).set 1 u6
   replace hR := hR.grown hgb (by omega)
   replace hA := hA.grown hgb (by omega)
   replace hK9 := hK9.grown hgb (by omega)
   replace hC := hC.grown hgb (by omega)
   replace hT4 := hT4.grown hgb (by omega)
   replace hT6 := hT6.grown hgb (by omega)
   replace hW := hW2
   clear hgb hW2
   go_simp
   refine hK.out _ _ ?_ (fun hHeldN => ?_)
   ·(try dsimp only); exact ⟨hR, hA, hK9⟩
   clear hK K hHeld
   have hHeld := hHeldN
   clear hHeldN
   try simp only [sx_]
   refine wpAnyH_name fun Z1 hY => ?_
   rw [hY] at hHeld hC hW hT4 hT5 hT6
   clear hY
   clear c0 d1 cf hR hA hK9
   refine wpAnyH_ready (rs := [5]) c_4 (by simp) ?_
   refine rd1 rfl fun K hK => ?_
   obtain ⟨hR, hA, hK9⟩ := id hHeld
   have c0 := hT6.at 0 0 (by decide) rfl
   have d1 := hT6.at 1 0 (by decide) rfl
   have cf := hT6.2.1
   have hW2 := hT6.new2 hW (by omega) l11 u11
   have hgb := hT6.gb2 0 1 l11 u11
   replace hT6 := (hT6.set 0 l11).set 1 u11
   replace hR := hR.grown hgb (by omega)
   replace hA := hA.grown hgb (by omega)
   replace hK9 := hK9.grown hgb (by omega)
   replace hC := hC.grown hgb (by omega)
   replace hT4 := hT4.grown hgb (by omega)
   replace hT5 := hT5.grown hgb (by omega)
   replace hW := hW2
   clear hgb hW2
   go_simp
   refine hK.out _ _ ?_ (fun hHeldN => ?_)
   ·(try dsimp only); exact ⟨hR, hA, hK9⟩
   clear hK K hHeld
   have hHeld := hHeldN
   clear hHeldN
   try simp only [sx_]
   refine wpAnyH_name fun Z2 hY => ?_
   rw [hY] at hHeld hC hW hT4 hT5 hT6
   clear hY
   clear c0 d1 cf hR hA hK9
   refine wpAnyH_done c_4 ?_ _
   have rhT40 := hT4.at 0 l2 (by decide) rfl
   have rhT41 := hT4.at 1 u2 (by decide) rfl
   have rhT50 := hT5.at 0 l6 (by decide) rfl
   have rhT51 := hT5.at 1 u6 (by decide) rfl
   have rhT60 := hT6.at 0 l11 (by decide) rfl
   have rhT61 := hT6.at 1 u11 (by decide) rfl
   go_wp2_with fail
   refine bodyPost_ret (v := .tuple #[.agg #[.int .i64 l2, .int .i64 u2], .agg #[.int .i64 l6, .int .i64 u6], .agg #[.int .i64 l11, .int .i64 u11]]) ?_ rfl ⟨rfl, hW, Bn.congr hC c_50⟩
   simp [results, Tryz.results40, go_sem, ↓IntWalk.iteOmega, *]
end Go.Proofs.YtogblocakccbgaaGreat
