/- force.Accel. -/
import Derived.Test.YtbkgakgdbmjmjaaGreatP26
set_option linter.unusedSimpArgs false
set_option linter.unusedVariables false
set_option maxRecDepth 100000
set_option maxHeartbeats 8000000
namespace Go.Proofs.YtbkgakgdbmjmjaaGreat
open Go.RowKit
theorem T_AC3_1 {p : Prop} (h : p := by
 refine hK.out _ _ ?_ fun _ => ?_
 ·(try dsimp only); exact hJ2.2.1
 clear hK K hH
 rename_i hH
 try simp only [sx_]
 refine rb (i := 2) rfl fun K hK => ?_
 go_simp
 (go_at_call 45; (with_reducible refine (hpl _ hJ2.bad).mono ?_); rintro e zp ⟨rfl, hzp⟩)
 have hJ3 := hJ2.now hzp
 have hA3 := (hA2.other (B := P) (j := 0) (Nat.ne_of_gt hPa) _).ext hzp
 refine hK.out _ _ ?_ fun _ => ?_
 ·(try dsimp only); exact hJ3.2.1
 clear hK K hH
 rename_i hH
 try simp only [sx_]
 refine rl (i := 4) rfl fun K hK => ?_
 obtain ⟨c0, c1, c2, c3, c4, c5, cf, cl⟩ := id hA3
 dsimp only at c0 c1 c2 c3 c4 c5
 have cf0 := cf 0
 have cf1 := cf 1
 have cf2 := cf 2
 have cf3 := cf 3
 have cf4 := cf 4
 have cf5 := cf 5
 go_simp
 refine hK.out _ _ trivial (fun _ => ?_)
 clear hK K
 try simp only [sx_]
 refine wpAnyH_done c_16 ?_ _
 go_wp2_with fail
 go_meet
 exact ⟨_, rfl, hPa, AcI.store hJ3 hPa ⟨r0, r1, r2, r3, r4, r5⟩, V6.store hA3 ⟨r0, r1, r2, r3, r4, r5⟩⟩) : p := h
theorem AcI.bad {w c : World} {P sb so : Nat} {ls : List SrcD} {p : V3} {E : Int} (h : AcI w P sb so ls p E c) : Bad c P E := h.2.2.2.1
theorem AcI.lt {w c : World} {P sb so : Nat} {ls : List SrcD} {p : V3} {E : Int} (h : AcI w P sb so ls p E c) : P < c.heap.size := h.2.2.2.2.2.1
theorem p_Accel (v : Value) (l : List BodyD) (E : Int) (fr ti : Int) (p : V3) (w : World) (hB : Bds w v l) (hE : CkE l E) (hS : E = 0 → Sml l) (hp : p.I) :
    Calls Tryz.prog 14 #[.agg #[v], .int .i64 fr, .int .i64 ti, .agg #[.int .i64 p.a, .int .i64 p.b, .int .i64 p.c, .int .i64 p.d, .int .i64 p.e, .int .i64 p.f]] w fun e w' => e = .returned (.tuple #[.agg #[.int .i64 (acR E l fr ti p).v.a, .int .i64 (acR E l fr ti p).v.b, .int .i64 (acR E l fr ti p).v.c, .int .i64 (acR E l fr ti p).v.d, .int .i64 (acR E l fr ti p).v.e, .int .i64 (acR E l fr ti p).v.f], .int .i64 (acR E l fr ti p).e]) ∧ Ext w w' := by
 have hga := fun w1 (k1 : Ext w w1) => p_gather v l E fr ti p w1 (hB.ext k1) hE hS
 have hIs := gaR_I (fr := fr) (ti := ti) (p := p) hE
 obtain ⟨ao, b, o, cap, rfl, ha, hl, hm⟩ := hB.len
 have hR : acR E l fr ti p = if (gaR E l fr ti p).2 ≠ 0 then ⟨V3.O, (gaR E l fr ti p).2⟩ else if (acN p (gaR E l fr ti p).1 (ac0 p)).e ≠ 0 then ⟨V3.O, 24⟩ else ⟨(acN p (gaR E l fr ti p).1 (ac0 p)).v, 0⟩ := rfl
 generalize acR E l fr ti p = R at *
 generalize gaR E l fr ti p = G at *
 obtain ⟨ls, C⟩ := G
 dsimp only at hR hga hIs
 by_cases h0 : C = 0
 ·subst h0
  rw [if_neg (by simp)] at hR
  go_enter Tryz.func14, Tryz.ntmps14
  go_upto_region 5 with (go_at_call 44; (with_reducible refine (hga _ ex_).mono ?_); rintro e w4 ⟨vs, rfl, hs4, hb4⟩; obtain ⟨sao, sb, so, scap, rfl, hsa, hsl, hsm, hsb, hsc⟩ := id hs4; obtain ⟨_, _, ⟨hc4, hf4⟩, hz4⟩ := hb4.c3; (try simp only [wsz] at hz4 hc4 hf4))
  obtain ⟨P, hP⟩ : ∃ P, w4.heap.size = P := ⟨_, rfl⟩
  have hI0 : AcI w P sb so ls p 0 (w4.alloc (.cells #[.bool false] 100)) := by
   have e4 : Ext w w4 := ex_
   have v1 := (V6.lit (w.alloc (.cells #[.slice ao l.length cap] 24)) p.a p.b p.c p.d p.e p.f 28).ext ((Ext.alloc (Ext.refl _) _).trans hb4)
   have v2 := (V6.lit ((w.alloc (.cells #[.slice ao l.length cap] 24)).alloc (.cells #[.int .i64 p.a, .int .i64 p.b, .int .i64 p.c, .int .i64 p.d, .int .i64 p.e, .int .i64 p.f] 28)) 0 0 0 0 0 0 28).ext hb4
   simp only [World.size_alloc] at v1 v2
   have eV : Ext w4 (w4.alloc (.cells #[.bool false] 100)) := (Ext.refl _).alloc _
   refine ⟨e4.trans eV, v1.ext eV, v2.ext eV, ⟨?_, ?_⟩, (show SrC w4 sb so ls from ⟨hsb, hsc⟩).ext eV, ?_, by omega, fun q => by have := hsb q; omega⟩
   ·rw [← hP]; simp [go_sem]; rfl
   ·rw [← hP]; simp [go_sem]
   ·rw [← hP]; simp
  refine wp_name fun V hV => ?_
  rw [← (show V = _ from hV)] at hI0
  have sV : V.heap.size = P + 1 := by have e : V = _ := hV; rw [e]; simp [hP]
  clear hV hga hb4 hs4 hc4 hf4
  have hpl : ∀ w1, Bad w1 P 0 → Calls Tryz.prog 45 #[.pointer (some ⟨P, 0, none⟩), .agg #[.int .i64 325358913, .int .i64 325358914], .agg #[.int .i64 p.a, .int .i64 p.b, .int .i64 p.c, .int .i64 p.d, .int .i64 p.e, .int .i64 p.f]] w1 fun e w' => e = .returned (.agg #[.int .i64 (ac0 p).v.a, .int .i64 (ac0 p).v.b, .int .i64 (ac0 p).v.c, .int .i64 (ac0 p).v.d, .int .i64 (ac0 p).v.e, .int .i64 (ac0 p).v.f]) ∧ Ext (w1.setCell ⟨P, 0, none⟩ (.bool (nz (ac0 p).e))) w' := fun w1 h => f_pull P 0 325358913 325358914 p w1 h.1 h.2 ⟨by unfold I64; omega, by unfold I64; omega⟩ hp
  have hsm1 := fun a => f_more P a
  generalize hR0 : ac0 p = R0 at *
  try rw [hP]
  go_cut [13] from 31 to 33 (fun sx wx => ∃ A : Nat, sx = .pointer (some ⟨A, 0, none⟩) ∧ P < A ∧ AcI w P sb so ls p R0.e wx ∧ V6 wx A R0.v)
  case first =>
   obtain ⟨⟨r0, r1, r2, r3, r4, r5⟩, F0⟩ := R0
   dsimp only at hpl
   have hI0d : AcI w P sb so ls p 0 V.drew := hI0.ext ((Ext.refl _).drew)
   refine wp_region_till (S := (fun w0 => V6 w0 (w.heap.size + 1) p)) (fun i => decide (i = 4)) c_16 ?_ (fun hH => ?_)
   ·exact hI0d.2.1
   try simp only [sx_]
   refine tb 1 rfl (by intro w0 hSw; obtain ⟨c0, c1, c2, c3, c4, c5, cf, cl⟩ := hSw; go_simp; try with_reducible rfl) ?_
   try simp only [sx_]
   refine wpAnyB_ready (rs := [0, 3]) c_16 (by simp) ?_
   refine AllReadyB.cons (o := _) rfl rfl (fun K hK => ?_) (AllReadyB.cons (o := _) rfl rfl (fun K hK => ?_) AllReadyB.nil)
   ·go_simp
    (go_at_call 46; (with_reducible refine (p_sun _).mono ?_); rintro e zs ⟨rfl, hzs⟩)
    have hJ1 := hI0d.ext hzs
    refine hK.out _ _ ?_ fun _ => ?_
    ·(try dsimp only); exact hJ1.2.1
    clear hK K hH
    rename_i hH
    try simp only [sx_]
    refine wpAnyB_ready (rs := [2, 3]) c_16 (by simp) ?_
    refine AllReadyB.cons (o := _) rfl rfl (fun K hK => ?_) (AllReadyB.cons (o := _) rfl rfl (fun K hK => ?_) AllReadyB.nil)
    ·go_simp
     (go_at_call 45; (with_reducible refine (hpl _ hJ1.bad).mono ?_); rintro e zp ⟨rfl, hzp⟩)
     have hJ2 := hJ1.now hzp
     refine hK.out _ _ ?_ fun _ => ?_
     ·(try dsimp only); exact hJ2.2.1
     clear hK K hH
     rename_i hH
     try simp only [sx_]
     refine rb (i := 3) rfl fun K hK => ?_
     go_simp
     have hJ3 := hJ2.ext ((Ext.refl _).alloc (.cells #[.int .i64 0, .int .i64 0, .int .i64 0, .int .i64 0, .int .i64 0, .int .i64 0] 28))
     have hA3 : V6 (zp.alloc (.cells #[.int .i64 0, .int .i64 0, .int .i64 0, .int .i64 0, .int .i64 0, .int .i64 0] 28)) zp.heap.size ⟨0, 0, 0, 0, 0, 0⟩ := V6.lit zp 0 0 0 0 0 0 28
     have hPa : P < zp.heap.size := hJ2.lt
     refine hK.out _ _ ?_ fun _ => ?_
     ·(try dsimp only); exact hJ3.2.1
     clear hK K hH
     rename_i hH
     try simp only [sx_]
     refine rl (i := 4) rfl fun K hK => ?_
     obtain ⟨c0, c1, c2, c3, c4, c5, cf, cl⟩ := id hA3
     dsimp only at c0 c1 c2 c3 c4 c5
     have cf0 := cf 0
     have cf1 := cf 1
     have cf2 := cf 2
     have cf3 := cf 3
     have cf4 := cf 4
     have cf5 := cf 5
     go_simp
     refine hK.out _ _ trivial (fun _ => ?_)
     clear hK K
     try simp only [sx_]
     refine wpAnyH_done c_16 ?_ _
     go_wp2_with fail
     go_meet
     exact ⟨_, rfl, hPa, AcI.ext hJ2 ((Ext.refl _).alloc _), V6.lit zp r0 r1 r2 r3 r4 r5 28⟩
    ·go_simp
     have hJ2 := hJ1.ext ((Ext.refl _).alloc (.cells #[.int .i64 0, .int .i64 0, .int .i64 0, .int .i64 0, .int .i64 0, .int .i64 0] 28))
     have hA2 : V6 (zs.alloc (.cells #[.int .i64 0, .int .i64 0, .int .i64 0, .int .i64 0, .int .i64 0, .int .i64 0] 28)) zs.heap.size ⟨0, 0, 0, 0, 0, 0⟩ := V6.lit zs 0 0 0 0 0 0 28
     have hPa : P < zs.heap.size := hJ1.lt
     exact T_AC3_1
   ·go_simp
    have hJ1 := hI0d.ext ((Ext.refl _).alloc (.cells #[.int .i64 0, .int .i64 0, .int .i64 0, .int .i64 0, .int .i64 0, .int .i64 0] 28))
    have hA1 : V6 (V.drew.alloc (.cells #[.int .i64 0, .int .i64 0, .int .i64 0, .int .i64 0, .int .i64 0, .int .i64 0] 28)) (P + 1) ⟨0, 0, 0, 0, 0, 0⟩ := by rw [← sV]; exact V6.lit V.drew 0 0 0 0 0 0 28
    have hPa : P < (P + 1) := Nat.lt_succ_self _
    refine hK.out _ _ ?_ fun _ => ?_
    ·(try dsimp only); exact hJ1.2.1
    clear hK K hH
    rename_i hH
    try simp only [sx_]
    refine rb (i := 0) rfl fun K hK => ?_
    go_simp
    (go_at_call 46; (with_reducible refine (p_sun _).mono ?_); rintro e zs ⟨rfl, hzs⟩)
    have hJ2 := hJ1.ext hzs
    have hA2 := hA1.ext hzs
    exact T_AC3_1
  obtain ⟨A, rfl, hPA, hIc, hAc⟩ := hcut
  clear hpl hI0 sV
  go_wp2_with fail
  go_loopw [37] (fun i wr => ∃ k : Nat, k ≤ ls.length ∧ i = .int .i64 k ∧ Hid (AcI w P sb so ls p (acN p (ls.take k) R0).e wr ∧ V6 wr A (acN p (ls.take k) R0).v)) (fun i _ => ls.length - (intOf i).toNat)
  case atStart => exact ⟨0, by omega, rfl, Lib.hid ⟨hIc, hAc⟩⟩
  case round =>
   obtain ⟨k, hk, rfl, hq⟩ := hrel
   obtain ⟨hIr, hAr⟩ := hq.out
   clear hIc hAc hq
   have hAlt := hAr.2.2.2.2.2.2.2
   have hPlt := hIr.2.2.2.2.2.1
   rcases Nat.eq_or_lt_of_le hk with rfl | hk2
   ·rw [List.take_length] at hIr hAr
    generalize acN p ls R0 = R1 at *
    obtain ⟨x1, ⟨o0, o1, o2, o3, o4, o5, of, ol⟩, ⟨b0, b1⟩⟩ : Ext w wr ∧ V6 wr (w.heap.size + 1 + 1) V3.O ∧ Bad wr P R1.e := ⟨hIr.1, hIr.2.2.1, hIr.2.2.2.1⟩
    obtain ⟨a0, a1, a2, a3, a4, a5, af, al⟩ := id hAr
    obtain ⟨⟨q0, q1, q2, q3, q4, q5⟩, C1⟩ := R1
    dsimp only at a0 a1 a2 a3 a4 a5 b0 hR
    by_cases h1 : C1 = 0
    ·subst h1
     rw [if_neg (by simp)] at hR
     subst hR
     have nb : nz 0 = false := rfl
     rw [nb] at b0
     go_wp2_with fail
     refine bodyPost_ret (v := .tuple #[.agg #[.int .i64 q0, .int .i64 q1, .int .i64 q2, .int .i64 q3, .int .i64 q4, .int .i64 q5], .int .i64 0]) ?_ rfl ⟨rfl, ?_⟩
     ·simp [results, Tryz.results14, go_sem, ↓IntWalk.iteOmega, *]
     ·exact b_6
    ·have nb : nz C1 = true := by simp [nz, h1]
     rw [nb] at b0
     rw [if_pos h1] at hR
     subst hR
     have her := fun w1 (k1 : Ext wr w1) => f_err P w1 ((k1.cells.1 P 0 hPlt).trans b0)
     go_wp2_with (go_at_call 50; (with_reducible refine (her _ ex_).mono ?_); rintro e w5 ⟨rfl, hb5⟩; obtain ⟨_, _, ⟨hc5, hf5⟩, hz5⟩ := hb5.c3; (try simp only [wsz] at hz5 hc5 hf5))
     refine bodyPost_ret (v := .tuple #[.agg #[.int .i64 0, .int .i64 0, .int .i64 0, .int .i64 0, .int .i64 0, .int .i64 0], .int .i64 24]) ?_ rfl ⟨rfl, ?_⟩
     ·simp [results, Tryz.results14, go_sem, ↓IntWalk.iteOmega, *]
     ·exact b_6
   ·have hst := acN_take p ls R0 k hk2
    obtain ⟨sd, hsd⟩ : ∃ sd, ls[k] = sd := ⟨_, rfl⟩
    obtain ⟨hx1, hv1⟩ := hIs _ (List.getElem_mem hk2)
    rw [hsd] at hx1 hv1 hst
    obtain ⟨g0, g1, g2, g3, g4, g5, g6, g7⟩ := hIr.2.2.2.2.1.at hk2 hsd
    obtain rfl := hsa (by omega)
    have hsp : w.heap.size + 3 ≤ P := hIr.2.2.2.2.2.2.1
    clear hIs hsm1 hsd hsc hsb hR
    generalize acN p (ls.take k) R0 = Ak at *
    obtain ⟨An, hAn⟩ : ∃ An, acN p (ls.take (k + 1)) R0 = An := ⟨_, rfl⟩
    rw [hAn] at hst
    replace hAn := Lib.hid hAn
    obtain ⟨av, F0⟩ := Ak
    dsimp only at hIr hAr
    have hch : chV subI F0 p sd.v = ⟨⟨(doI F0 (subI p.a p.b sd.v.a sd.v.b)).lo, (doI F0 (subI p.a p.b sd.v.a sd.v.b)).hi, (doI (doI F0 (subI p.a p.b sd.v.a sd.v.b)).e (subI p.c p.d sd.v.c sd.v.d)).lo, (doI (doI F0 (subI p.a p.b sd.v.a sd.v.b)).e (subI p.c p.d sd.v.c sd.v.d)).hi, (doI (doI (doI F0 (subI p.a p.b sd.v.a sd.v.b)).e (subI p.c p.d sd.v.c sd.v.d)).e (subI p.e p.f sd.v.e sd.v.f)).lo, (doI (doI (doI F0 (subI p.a p.b sd.v.a sd.v.b)).e (subI p.c p.d sd.v.c sd.v.d)).e (subI p.e p.f sd.v.e sd.v.f)).hi⟩, (doI (doI (doI F0 (subI p.a p.b sd.v.a sd.v.b)).e (subI p.c p.d sd.v.c sd.v.d)).e (subI p.e p.f sd.v.e sd.v.f)).e⟩ := rfl
    have hcI := chV_sub_I F0 p sd.v
    have hst2 : An = chV addI (plR (chV addI (plR (chV subI F0 p sd.v).e sd.x sd.y (chV subI F0 p sd.v).v).e av (plR (chV subI F0 p sd.v).e sd.x sd.y (chV subI F0 p sd.v).v).v).e sd.x sd.y sd.v).e (chV addI (plR (chV subI F0 p sd.v).e sd.x sd.y (chV subI F0 p sd.v).v).e av (plR (chV subI F0 p sd.v).e sd.x sd.y (chV subI F0 p sd.v).v).v).v (plR (chV addI (plR (chV subI F0 p sd.v).e sd.x sd.y (chV subI F0 p sd.v).v).e av (plR (chV subI F0 p sd.v).e sd.x sd.y (chV subI F0 p sd.v).v).v).e sd.x sd.y sd.v).v := hst
    rw [hch] at hcI hst2
    clear hst hch
    have su0 := fun w1 (h : Bad w1 P F0) => f_sub P F0 p.a p.b sd.v.a sd.v.b w1 h.1 h.2
    have su1 := fun E w1 (h : Bad w1 P E) => f_sub P E p.c p.d sd.v.c sd.v.d w1 h.1 h.2
    have su2 := fun E w1 (h : Bad w1 P E) => f_sub P E p.e p.f sd.v.e sd.v.f w1 h.1 h.2
    generalize doI F0 (subI p.a p.b sd.v.a sd.v.b) = Q0 at *
    obtain ⟨q0, q1, F1⟩ := Q0
    try dsimp only at su0 su1 su2 hcI hst2
    replace su1 := su1 F1
    generalize doI F1 (subI p.c p.d sd.v.c sd.v.d) = Q1 at *
    obtain ⟨q2, q3, F2⟩ := Q1
    try dsimp only at su1 su2 hcI hst2
    replace su2 := su2 F2
    generalize doI F2 (subI p.e p.f sd.v.e sd.v.f) = Q2 at *
    obtain ⟨q4, q5, F3⟩ := Q2
    try dsimp only at su2 hcI hst2
    have hm1 : ∀ w1, Bad w1 P F3 → P < w1.heap.size → V6 w1 A av → Calls Tryz.prog 47 #[.agg #[.int .i64 sd.x, .int .i64 sd.y], .agg #[.int .i64 q0, .int .i64 q1, .int .i64 q2, .int .i64 q3, .int .i64 q4, .int .i64 q5], .pointer (some ⟨P, 0, none⟩), .pointer (some ⟨A, 0, none⟩)] w1 fun e w' => (∃ v, e = .returned v) ∧ Bad w' P (chV addI (plR F3 sd.x sd.y ⟨q0, q1, q2, q3, q4, q5⟩).e av (plR F3 sd.x sd.y ⟨q0, q1, q2, q3, q4, q5⟩).v).e ∧ V6 w' A (chV addI (plR F3 sd.x sd.y ⟨q0, q1, q2, q3, q4, q5⟩).e av (plR F3 sd.x sd.y ⟨q0, q1, q2, q3, q4, q5⟩).v).v ∧ Xb w1.heap.size P A w1 w' := fun w1 h hP hA => f_more P A F3 sd.x sd.y ⟨q0, q1, q2, q3, q4, q5⟩ av w1 h hP hA (by omega) hx1 hcI
    generalize chV addI (plR F3 sd.x sd.y ⟨q0, q1, q2, q3, q4, q5⟩).e av (plR F3 sd.x sd.y ⟨q0, q1, q2, q3, q4, q5⟩).v = B1 at *
    obtain ⟨bv, G1⟩ := B1
    dsimp only at hm1 hst2
    have hm2 : ∀ w1, Bad w1 P G1 → P < w1.heap.size → V6 w1 A bv → Calls Tryz.prog 47 #[.agg #[.int .i64 sd.x, .int .i64 sd.y], .agg #[.int .i64 sd.v.a, .int .i64 sd.v.b, .int .i64 sd.v.c, .int .i64 sd.v.d, .int .i64 sd.v.e, .int .i64 sd.v.f], .pointer (some ⟨P, 0, none⟩), .pointer (some ⟨A, 0, none⟩)] w1 fun e w' => (∃ v, e = .returned v) ∧ Bad w' P An.e ∧ V6 w' A An.v ∧ Xb w1.heap.size P A w1 w' := fun w1 h hP hA => by rw [hst2]; exact f_more P A G1 sd.x sd.y sd.v bv w1 h hP hA (by omega) hx1 hv1
    clear hst2 hcI hx1 hv1
    obtain ⟨G, hG⟩ : ∃ G, wr.heap.size = G := ⟨_, rfl⟩
    have hAG : A < G := by omega
    go_wp2_with fail
    refine wp_loop_rounds 4 ?_
    rw [rounds_succ]
    go_upto_region 14 with fail
    refine wp_name fun V hV0 => ?_
    have eV : Ext wr V := Ext.same hV0 ex_
    have vD0 : V6 V (G + 1) ⟨0, 0, 0, 0, 0, 0⟩ := by
     have e : V = _ := hV0
     rw [e, ← hG]
     refine ⟨?_, ?_, ?_, ?_, ?_, ?_, fun o => ?_, ?_⟩ <;> simp [go_sem, ↓IntWalk.iteOmega]
    have vG0 : V8 V G sd := V8.of (by
     have e : V = _ := hV0
     rw [e, ← hG]
     refine ⟨?_, ?_, ?_, ?_, ?_, ?_, ?_, ?_⟩ <;> simp [go_sem, ↓IntWalk.iteOmega])
    have hJ0 := hIr.ext eV
    have hA0 := hAr.ext eV
    clear hIr hAr g0 g1 g2 g3 g4 g5 g6 g7 hV0
    try rw [hG]
    have hJd0 := hJ0.ext ((Ext.refl V).drew)
    have hAd0 := hA0.ext ((Ext.refl V).drew)
    have vDd0 := vD0.ext ((Ext.refl V).drew)
    have vGd0 := vG0.ext ((Ext.refl V).drew)
    have hPd0 := hJd0.2.2.2.2.2.1
    refine wp_region_till (S := (fun w0 => V6 w0 (w.heap.size + 1) p ∧ V8 w0 G sd)) (fun i => decide (i = 10)) c_16 ?_ (fun hH => ?_)
    ·exact ⟨hJ0.2.1, vG0⟩
    try simp only [sx_]
    refine tp 0 rfl c_0 ?_
    try simp only [sx_]
    refine tp 1 rfl c_0 ?_
    try simp only [sx_]
    refine tp 2 rfl c_0 ?_
    try simp only [sx_]
    refine tb 3 rfl c_23 ?_
    try simp only [sx_]
    refine tp 4 rfl c_0 ?_
    try simp only [sx_]
    refine tp 5 rfl c_0 ?_
    try simp only [sx_]
    refine tp 6 rfl c_0 ?_
    try simp only [sx_]
    refine tb 7 rfl c_23 ?_
    try simp only [sx_]
    refine rb (i := 8) rfl fun K hK => ?_
    go_simp
    (go_at_call 49; (with_reducible refine (su0 _ hJd0.bad).mono ?_); rintro e z0 ⟨rfl, hz0⟩)
    have hK0 := hJd0.now hz0
    have hKA0 := (hAd0.other (B := P) (j := 0) (by omega) (.bool (nz F1))).ext hz0
    have hKD0 := (vDd0.other (B := P) (j := 0) (by omega) (.bool (nz F1))).ext hz0
    have hKG0 := (vGd0.other (B := P) (j := 0) (by omega) (.bool (nz F1))).ext hz0
    refine hK.out _ _ ?_ fun _ => ?_
    ·(try dsimp only); exact ⟨hK0.2.1, hKG0⟩
    clear hK K hH
    rename_i hH
    try simp only [sx_]
    refine tp 9 rfl c_0 ?_
    try simp only [sx_]
    refine rl (i := 10) rfl fun K hK => ?_
    obtain ⟨c0, c1, c2, c3, c4, c5, cf, cl⟩ := id hKD0
    dsimp only at c0 c1 c2 c3 c4 c5
    go_simp
    refine hK.out _ _ trivial (fun _ => ?_)
    clear hK K
    try simp only [sx_]
    refine wpAnyH_done c_16 ?_ _
    go_wp2_with fail
    refine wp_name fun X1 hY0 => ?_
    have hJ1 : AcI w P sb so ls p F1 X1 := by have e : X1 = _ := hY0; rw [e]; exact (hK0.set (D := G + 1) (by omega) _).set (D := G + 1) (by omega) _
    have hA1 : V6 X1 A av := by have e : X1 = _ := hY0; rw [e]; exact (hKA0.other (B := G + 1) (by omega) _).other (B := G + 1) (by omega) _
    have vD1 : V6 X1 (G + 1) ⟨q0, q1, 0, 0, 0, 0⟩ := by have e : X1 = _ := hY0; rw [e]; exact (hKD0.s0 _).s1 _
    have vG1 : V8 X1 G sd := by have e : X1 = _ := hY0; rw [e]; exact (hKG0.other (B := G + 1) (by omega) _).other (B := G + 1) (by omega) _
    clear hY0 hK0 hKA0 hKD0 hKG0 hz0 hJd0 hAd0 vDd0 vGd0 hPd0 hJ0 hA0 vD0 vG0 su0 hH
    go_upto_region 14 with fail
    have hJd1 := hJ1.ext ((Ext.refl X1).drew)
    have hAd1 := hA1.ext ((Ext.refl X1).drew)
    have vDd1 := vD1.ext ((Ext.refl X1).drew)
    have vGd1 := vG1.ext ((Ext.refl X1).drew)
    have hPd1 := hJd1.2.2.2.2.2.1
    refine wp_region_till (S := (fun w0 => V6 w0 (w.heap.size + 1) p ∧ V8 w0 G sd)) (fun i => decide (i = 10)) c_16 ?_ (fun hH => ?_)
    ·exact ⟨hJ1.2.1, vG1⟩
    try simp only [sx_]
    refine tp 0 rfl c_0 ?_
    try simp only [sx_]
    refine tp 1 rfl c_0 ?_
    try simp only [sx_]
    refine tp 2 rfl c_0 ?_
    try simp only [sx_]
    refine tb 3 rfl c_23 ?_
    try simp only [sx_]
    refine tp 4 rfl c_0 ?_
    try simp only [sx_]
    refine tp 5 rfl c_0 ?_
    try simp only [sx_]
    refine tp 6 rfl c_0 ?_
    try simp only [sx_]
    refine tb 7 rfl c_23 ?_
    try simp only [sx_]
    refine rb (i := 8) rfl fun K hK => ?_
    go_simp
    (go_at_call 49; (with_reducible refine (su1 _ hJd1.bad).mono ?_); rintro e z1 ⟨rfl, hz1⟩)
    have hK1 := hJd1.now hz1
    have hKA1 := (hAd1.other (B := P) (j := 0) (by omega) (.bool (nz F2))).ext hz1
    have hKD1 := (vDd1.other (B := P) (j := 0) (by omega) (.bool (nz F2))).ext hz1
    have hKG1 := (vGd1.other (B := P) (j := 0) (by omega) (.bool (nz F2))).ext hz1
    refine hK.out _ _ ?_ fun _ => ?_
    ·(try dsimp only); exact ⟨hK1.2.1, hKG1⟩
    clear hK K hH
    rename_i hH
    try simp only [sx_]
    refine tp 9 rfl c_0 ?_
    try simp only [sx_]
    refine rl (i := 10) rfl fun K hK => ?_
    obtain ⟨c0, c1, c2, c3, c4, c5, cf, cl⟩ := id hKD1
    dsimp only at c0 c1 c2 c3 c4 c5
    go_simp
    refine hK.out _ _ trivial (fun _ => ?_)
    clear hK K
    try simp only [sx_]
    refine wpAnyH_done c_16 ?_ _
    go_wp2_with fail
    refine wp_name fun X2 hY0 => ?_
    have hJ2 : AcI w P sb so ls p F2 X2 := by have e : X2 = _ := hY0; rw [e]; exact (hK1.set (D := G + 1) (by omega) _).set (D := G + 1) (by omega) _
    have hA2 : V6 X2 A av := by have e : X2 = _ := hY0; rw [e]; exact (hKA1.other (B := G + 1) (by omega) _).other (B := G + 1) (by omega) _
    have vD2 : V6 X2 (G + 1) ⟨q0, q1, q2, q3, 0, 0⟩ := by have e : X2 = _ := hY0; rw [e]; exact (hKD1.s2 _).s3 _
    have vG2 : V8 X2 G sd := by have e : X2 = _ := hY0; rw [e]; exact (hKG1.other (B := G + 1) (by omega) _).other (B := G + 1) (by omega) _
    clear hY0 hK1 hKA1 hKD1 hKG1 hz1 hJd1 hAd1 vDd1 vGd1 hPd1 hJ1 hA1 vD1 vG1 su1 hH
    go_upto_region 14 with fail
    have hJd2 := hJ2.ext ((Ext.refl X2).drew)
    have hAd2 := hA2.ext ((Ext.refl X2).drew)
    have vDd2 := vD2.ext ((Ext.refl X2).drew)
    have vGd2 := vG2.ext ((Ext.refl X2).drew)
    have hPd2 := hJd2.2.2.2.2.2.1
    refine wp_region_till (S := (fun w0 => V6 w0 (w.heap.size + 1) p ∧ V8 w0 G sd)) (fun i => decide (i = 10)) c_16 ?_ (fun hH => ?_)
    ·exact ⟨hJ2.2.1, vG2⟩
    try simp only [sx_]
    refine tp 0 rfl c_0 ?_
    try simp only [sx_]
    refine tp 1 rfl c_0 ?_
    try simp only [sx_]
    refine tp 2 rfl c_0 ?_
    try simp only [sx_]
    refine tb 3 rfl c_23 ?_
    try simp only [sx_]
    refine tp 4 rfl c_0 ?_
    try simp only [sx_]
    refine tp 5 rfl c_0 ?_
    try simp only [sx_]
    refine tp 6 rfl c_0 ?_
    try simp only [sx_]
    refine tb 7 rfl c_23 ?_
    try simp only [sx_]
    refine rb (i := 8) rfl fun K hK => ?_
    go_simp
    (go_at_call 49; (with_reducible refine (su2 _ hJd2.bad).mono ?_); rintro e z2 ⟨rfl, hz2⟩)
    have hK2 := hJd2.now hz2
    have hKA2 := (hAd2.other (B := P) (j := 0) (by omega) (.bool (nz F3))).ext hz2
    have hKD2 := (vDd2.other (B := P) (j := 0) (by omega) (.bool (nz F3))).ext hz2
    have hKG2 := (vGd2.other (B := P) (j := 0) (by omega) (.bool (nz F3))).ext hz2
    refine hK.out _ _ ?_ fun _ => ?_
    ·(try dsimp only); exact ⟨hK2.2.1, hKG2⟩
    clear hK K hH
    rename_i hH
    try simp only [sx_]
    refine tp 9 rfl c_0 ?_
    try simp only [sx_]
    refine rl (i := 10) rfl fun K hK => ?_
    obtain ⟨c0, c1, c2, c3, c4, c5, cf, cl⟩ := id hKD2
    dsimp only at c0 c1 c2 c3 c4 c5
    go_simp
    refine hK.out _ _ trivial (fun _ => ?_)
    clear hK K
    try simp only [sx_]
    refine wpAnyH_done c_16 ?_ _
    go_wp2_with fail
    refine wp_name fun X3 hY0 => ?_
    have hJ3 : AcI w P sb so ls p F3 X3 := by have e : X3 = _ := hY0; rw [e]; exact (hK2.set (D := G + 1) (by omega) _).set (D := G + 1) (by omega) _
    have hA3 : V6 X3 A av := by have e : X3 = _ := hY0; rw [e]; exact (hKA2.other (B := G + 1) (by omega) _).other (B := G + 1) (by omega) _
    have vD3 : V6 X3 (G + 1) ⟨q0, q1, q2, q3, q4, q5⟩ := by have e : X3 = _ := hY0; rw [e]; exact (hKD2.s4 _).s5 _
    have vG3 : V8 X3 G sd := by have e : X3 = _ := hY0; rw [e]; exact (hKG2.other (B := G + 1) (by omega) _).other (B := G + 1) (by omega) _
    clear hY0 hK2 hKA2 hKD2 hKG2 hz2 hJd2 hAd2 vDd2 vGd2 hPd2 hJ2 hA2 vD2 vG2 su2 hH
    obtain ⟨u0, u1, u2, u3, u4, u5, u6, u7⟩ := vG3.at
    obtain ⟨c0, c1, c2, c3, c4, c5, cf, cl⟩ := id vD3
    dsimp only at c0 c1 c2 c3 c4 c5
    go_wp2_with (first
     | (go_at_call 47; (with_reducible refine (hm1 _ hJ3.bad hJ3.lt hA3).mono ?_); rintro e y1 ⟨⟨z1, rfl⟩, hb1, ha1, hx1⟩; have hJ4 := hJ3.xb hx1 hJ3.2.2.2.2.2.1 (by omega) hb1; have vG4 := vG3.xb hx1 vG3.2 (by omega) (by omega); obtain ⟨u0, u1, u2, u3, u4, u5, u6, u7⟩ := vG4.at)
     | (go_at_call 47; (with_reducible refine (hm2 _ hb1 hJ4.lt ha1).mono ?_); rintro e y2 ⟨⟨z2, rfl⟩, hb2, ha2, hx2⟩; have hJ5 := hJ4.xb hx2 hJ4.2.2.2.2.2.1 (by omega) hb2))
    go_round
    case rel => exact ⟨k + 1, hk2, by go_num, Lib.hid (by rw [hAn.out]; exact ⟨hJ5, ha2⟩)⟩
    case measure => simp [intOf]; omega
 ·rw [if_pos h0] at hR
  subst hR
  go_enter Tryz.func14, Tryz.ntmps14
  go_wp2_with (go_at_call 44; (with_reducible refine (hga _ ex_).mono ?_); rintro e w4 ⟨vs, rfl, hs4, hb4⟩; obtain ⟨sao, sb, so, scap, rfl, hsa, hsl, hsm, hsb, hsc⟩ := id hs4; obtain ⟨_, _, ⟨hc4, hf4⟩, hz4⟩ := hb4.c3; (try simp only [wsz] at hz4 hc4 hf4))
  refine bodyPost_ret (v := .tuple #[.agg #[.int .i64 0, .int .i64 0, .int .i64 0, .int .i64 0, .int .i64 0, .int .i64 0], .int .i64 C]) ?_ rfl ⟨rfl, ?_⟩
  ·simp [results, Tryz.results14, go_sem, ↓IntWalk.iteOmega, *]
  ·exact b_6
end Go.Proofs.YtbkgakgdbmjmjaaGreat
