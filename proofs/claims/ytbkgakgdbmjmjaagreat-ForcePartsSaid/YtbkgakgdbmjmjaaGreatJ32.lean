/- force.Shear. -/
import Derived.Test.YtbkgakgdbmjmjaaGreatJ29
set_option linter.unusedSimpArgs false
set_option linter.unusedVariables false
namespace Go.Proofs.YtbkgakgdbmjmjaaGreat
open Go.RowKit
set_option maxRecDepth 100000 in
set_option maxHeartbeats 16000000 in
theorem p_Shear (v : Value) (l : List BodyD) (E : Int) (fr ti : Int) (p : V3) (w : World) (hB : Bds w v l) (hE : CkE l E) (hS : E = 0 → Sml l) (hp : p.I) :
    Calls Tryz.prog 16 #[.agg #[v], .int .i64 fr, .int .i64 ti, .agg #[.int .i64 p.a, .int .i64 p.b, .int .i64 p.c, .int .i64 p.d, .int .i64 p.e, .int .i64 p.f]] w fun e w' => e = .returned (.tuple #[.agg (mvs (shR E l fr ti p).m), .int .i64 (shR E l fr ti p).e]) ∧ Ext w w' := by
  have hga := fun w1 (k1 : Ext w w1) => p_gather v l E fr ti p w1 (hB.ext k1) hE hS
  have hIs := gaR_I (fr := fr) (ti := ti) (p := p) hE
  obtain ⟨ao, b, o, cap, rfl, ha, hl, hm⟩ := hB.len
  have hR : shR E l fr ti p = if (gaR E l fr ti p).2 ≠ 0 then ⟨M3.O, (gaR E l fr ti p).2⟩ else if (shN p (gaR E l fr ti p).1 (sh0 p)).e ≠ 0 then ⟨M3.O, 24⟩ else ⟨(shN p (gaR E l fr ti p).1 (sh0 p)).m, 0⟩ := rfl
  generalize shR E l fr ti p = R at *
  generalize gaR E l fr ti p = G at *
  obtain ⟨ls, C⟩ := G
  dsimp only at hR hga hIs
  by_cases h0 : C = 0
  · subst h0
    rw [if_neg (by simp)] at hR
    go_enter Tryz.func16, Tryz.ntmps16
    go_upto_region 5 with (go_at_call 44; (with_reducible refine (hga _ (by repeat (first | with_reducible exact Ext.refl _ | with_reducible assumption | with_reducible refine Ext.alloc ?_ _ | with_reducible refine Ext.setCell ?_ (by (try simp only [World.size_alloc, World.size_setCell]); omega) _ | with_reducible refine Ext.drewN ?_ _ | with_reducible refine Ext.drew ?_ | with_reducible refine Ext.trans ?_ (by with_reducible assumption)))).mono ?_); rintro e w4 ⟨vs, rfl, hs4, hb4⟩; obtain ⟨sao, sb, so, scap, rfl, hsa, hsl, hsm, hsb, hsc⟩ := id hs4; obtain ⟨_, _, hc4, hf4⟩ := hb4.cells2; have hz4 := hb4.size; (try simp only [World.size_alloc, World.size_setCell] at hz4 hc4 hf4))
    obtain ⟨P, hP⟩ : ∃ P, w4.heap.size = P := ⟨_, rfl⟩
    have hI0 : ShI w P sb so ls p 0 (w4.alloc (.cells #[.bool false] 100)) := by
      have e4 : Ext w w4 := (by repeat (first | with_reducible exact Ext.refl _ | with_reducible assumption | with_reducible refine Ext.alloc ?_ _ | with_reducible refine Ext.setCell ?_ (by (try simp only [World.size_alloc, World.size_setCell]); omega) _ | with_reducible refine Ext.drewN ?_ _ | with_reducible refine Ext.drew ?_ | with_reducible refine Ext.trans ?_ (by with_reducible assumption)))
      have v1 := (V6.lit (w.alloc (.cells #[.slice ao l.length cap] 24)) p.a p.b p.c p.d p.e p.f 28).ext ((Ext.alloc (Ext.refl _) _).trans hb4)
      have v2 : VB w4 ((w.alloc (.cells #[.slice ao l.length cap] 24)).alloc (.cells #[.int .i64 p.a, .int .i64 p.b, .int .i64 p.c, .int .i64 p.d, .int .i64 p.e, .int .i64 p.f] 28)).heap.size z18 := (VB.lit ((w.alloc (.cells #[.slice ao l.length cap] 24)).alloc (.cells #[.int .i64 p.a, .int .i64 p.b, .int .i64 p.c, .int .i64 p.d, .int .i64 p.e, .int .i64 p.f] 28)) z18 35).ext hb4
      simp only [World.size_alloc] at v1 v2
      have eV : Ext w4 (w4.alloc (.cells #[.bool false] 100)) := (Ext.refl _).alloc _
      refine ⟨e4.trans eV, v1.ext eV, v2.ext eV, ⟨?_, ?_⟩, (show SrC w4 sb so ls from ⟨hsb, hsc⟩).ext eV, ?_, by omega, fun q => by have := hsb q; omega⟩
      · rw [← hP]; simp [go_sem]; rfl
      · rw [← hP]; simp [go_sem]
      · rw [← hP]; simp
    refine wp_name fun V hV => ?_
    rw [← (show V = _ from hV)] at hI0
    have sV : V.heap.size = P + 1 := by have e : V = _ := hV; rw [e]; simp [hP]
    clear hV hga hb4 hs4 hc4 hf4
    have hpl : ∀ w1, Bad w1 P 0 → Calls Tryz.prog 56 #[.pointer (some ⟨P, 0, none⟩), .agg #[.int .i64 325358913, .int .i64 325358914], .agg #[.int .i64 p.a, .int .i64 p.b, .int .i64 p.c, .int .i64 p.d, .int .i64 p.e, .int .i64 p.f]] w1 fun e w' => e = .returned (.agg (mvs (sh0 p).m)) ∧ Ext (w1.setCell ⟨P, 0, none⟩ (.bool (nz (sh0 p).e))) w' := fun w1 h => f_tide P 0 325358913 325358914 p w1 h.1 h.2 ⟨by unfold I64; omega, by unfold I64; omega⟩ hp
    generalize hR0 : sh0 p = R0 at *
    try rw [hP]
    go_cut [13] from 34 to 36 (fun sx wx => ∃ A : Nat, sx = .pointer (some ⟨A, 0, none⟩) ∧ P < A ∧ ShI w P sb so ls p R0.e wx ∧ VB wx A (mL R0.m))
    case first =>
      obtain ⟨⟨⟨r0, r1, r2, r3, r4, r5⟩, ⟨r6, r7, r8, r9, r10, r11⟩, ⟨r12, r13, r14, r15, r16, r17⟩⟩, F0⟩ := R0
      unfold mvs at hpl
      dsimp only at hpl
      have hI0d : ShI w P sb so ls p 0 V.drew := hI0.ext ((Ext.refl _).drew)
      refine wp_region_till (S := (fun w0 => V6 w0 (w.heap.size + 1) p)) (fun i => decide (i = 4)) (by kernel_rfl) ?_ (fun hHeld => ?_)
      · exact hI0d.2.1
      try simp only [Act.put, List.setIfInBounds_toArray, List.set_cons_zero, List.set_cons_succ, List.getElem_toArray, List.getElem_cons_succ, List.getElem_cons_zero]
      refine wpAnyB_take (i := 1) (oi := _) (v := ?_) rfl (by kernel_rfl) (by kernel_rfl) (by kernel_rfl) (by kernel_rfl) (fun _ _ _ h => h) (Or.inl ⟨by rfl, ?_⟩) (by assumption) ?_
      rotate_left
      · intro w0 hSw; obtain ⟨c0, c1, c2, c3, c4, c5, cf, cl⟩ := hSw; go_simp; try with_reducible rfl
      try simp only [Act.put, List.setIfInBounds_toArray, List.set_cons_zero, List.set_cons_succ, List.getElem_toArray, List.getElem_cons_succ, List.getElem_cons_zero]
      refine wpAnyB_ready (rs := [0, 3]) (by kernel_rfl) (by simp) ?_
      refine AllReadyB.cons (o := _) rfl rfl (fun K hK => ?_) (AllReadyB.cons (o := _) rfl rfl (fun K hK => ?_) AllReadyB.nil)
      · go_simp
        (go_at_call 46; (with_reducible refine (p_sun _).mono ?_); rintro e zs ⟨rfl, hzs⟩)
        have hJ1 := hI0d.ext hzs
        refine hK.out _ _ ?_ (fun hHeldN => ?_)
        · (try dsimp only); exact hJ1.2.1
        clear hK K hHeld
        have hHeld := hHeldN
        clear hHeldN
        try simp only [Act.put, List.setIfInBounds_toArray, List.set_cons_zero, List.set_cons_succ, List.getElem_toArray, List.getElem_cons_succ, List.getElem_cons_zero]
        refine wpAnyB_ready (rs := [2, 3]) (by kernel_rfl) (by simp) ?_
        refine AllReadyB.cons (o := _) rfl rfl (fun K hK => ?_) (AllReadyB.cons (o := _) rfl rfl (fun K hK => ?_) AllReadyB.nil)
        · go_simp
          (go_at_call 56; (with_reducible refine (hpl _ hJ1.bad).mono ?_); rintro e zp ⟨rfl, hzp⟩)
          have hJ2 := hJ1.now hzp
          refine hK.out _ _ ?_ (fun hHeldN => ?_)
          · (try dsimp only); exact hJ2.2.1
          clear hK K hHeld
          have hHeld := hHeldN
          clear hHeldN
          try simp only [Act.put, List.setIfInBounds_toArray, List.set_cons_zero, List.set_cons_succ, List.getElem_toArray, List.getElem_cons_succ, List.getElem_cons_zero]
          refine wpAnyB_ready (rs := [3]) (by kernel_rfl) (by simp) ?_
          refine AllReadyB.cons (o := _) rfl rfl (fun K hK => ?_) AllReadyB.nil
          go_simp
          have hJ3 := hJ2.ext ((Ext.refl _).alloc (.cells #[.int .i64 0, .int .i64 0, .int .i64 0, .int .i64 0, .int .i64 0, .int .i64 0, .int .i64 0, .int .i64 0, .int .i64 0, .int .i64 0, .int .i64 0, .int .i64 0, .int .i64 0, .int .i64 0, .int .i64 0, .int .i64 0, .int .i64 0, .int .i64 0] 35))
          have hA3 : VB (zp.alloc (.cells #[.int .i64 0, .int .i64 0, .int .i64 0, .int .i64 0, .int .i64 0, .int .i64 0, .int .i64 0, .int .i64 0, .int .i64 0, .int .i64 0, .int .i64 0, .int .i64 0, .int .i64 0, .int .i64 0, .int .i64 0, .int .i64 0, .int .i64 0, .int .i64 0] 35)) zp.heap.size z18 := VB.lit zp z18 35
          have hPa : P < zp.heap.size := hJ2.lt
          refine hK.out _ _ ?_ (fun hHeldN => ?_)
          · (try dsimp only); exact hJ3.2.1
          clear hK K hHeld
          have hHeld := hHeldN
          clear hHeldN
          try simp only [Act.put, List.setIfInBounds_toArray, List.set_cons_zero, List.set_cons_succ, List.getElem_toArray, List.getElem_cons_succ, List.getElem_cons_zero]
          refine wpAnyB_ready (rs := [4]) (by kernel_rfl) (by simp) ?_
          refine AllReadyB.last (o := _) rfl rfl (fun K hK => ?_) AllReadyB.nil
          rw [if_pos (by rfl)]
          refine Go.Proofs.YtbkgakgdbmjmjaaGreat.wp_store_row 35 (.tmp 13) (.tmp 36) rfl (zp.heap.size) #[.int .i64 r0, .int .i64 r1, .int .i64 r2, .int .i64 r3, .int .i64 r4, .int .i64 r5, .int .i64 r6, .int .i64 r7, .int .i64 r8, .int .i64 r9, .int .i64 r10, .int .i64 r11, .int .i64 r12, .int .i64 r13, .int .i64 r14, .int .i64 r15, .int .i64 r16, .int .i64 r17] rfl rfl (hA3.there 18 rfl) tyI35 (by kernel_rfl) (fun Ws hWs => ?_)
          try simp only [Act.put, List.setIfInBounds_toArray, List.set_cons_zero, List.set_cons_succ, List.getElem_toArray, List.getElem_cons_succ, List.getElem_cons_zero]
          refine hK.out _ _ trivial (fun _ => ?_)
          clear hK K
          try simp only [Act.put, List.setIfInBounds_toArray, List.set_cons_zero, List.set_cons_succ, List.getElem_toArray, List.getElem_cons_succ, List.getElem_cons_zero]
          refine wpAnyH_done (by kernel_rfl) ?_ _
          go_wp2_with fail
          go_meet
          exact ⟨_, rfl, hPa, ShI.row hJ3 hPa hWs, VB.row (m := [r0, r1, r2, r3, r4, r5, r6, r7, r8, r9, r10, r11, r12, r13, r14, r15, r16, r17]) hA3 hWs⟩
        · go_simp
          have hJ2 := hJ1.ext ((Ext.refl _).alloc (.cells #[.int .i64 0, .int .i64 0, .int .i64 0, .int .i64 0, .int .i64 0, .int .i64 0, .int .i64 0, .int .i64 0, .int .i64 0, .int .i64 0, .int .i64 0, .int .i64 0, .int .i64 0, .int .i64 0, .int .i64 0, .int .i64 0, .int .i64 0, .int .i64 0] 35))
          have hA2 : VB (zs.alloc (.cells #[.int .i64 0, .int .i64 0, .int .i64 0, .int .i64 0, .int .i64 0, .int .i64 0, .int .i64 0, .int .i64 0, .int .i64 0, .int .i64 0, .int .i64 0, .int .i64 0, .int .i64 0, .int .i64 0, .int .i64 0, .int .i64 0, .int .i64 0, .int .i64 0] 35)) zs.heap.size z18 := VB.lit zs z18 35
          have hPa : P < zs.heap.size := hJ1.lt
          refine hK.out _ _ ?_ (fun hHeldN => ?_)
          · (try dsimp only); exact hJ2.2.1
          clear hK K hHeld
          have hHeld := hHeldN
          clear hHeldN
          try simp only [Act.put, List.setIfInBounds_toArray, List.set_cons_zero, List.set_cons_succ, List.getElem_toArray, List.getElem_cons_succ, List.getElem_cons_zero]
          refine wpAnyB_ready (rs := [2]) (by kernel_rfl) (by simp) ?_
          refine AllReadyB.cons (o := _) rfl rfl (fun K hK => ?_) AllReadyB.nil
          go_simp
          (go_at_call 56; (with_reducible refine (hpl _ hJ2.bad).mono ?_); rintro e zp ⟨rfl, hzp⟩)
          have hJ3 := hJ2.now hzp
          have hA3 := (hA2.other (B := P) (j := 0) (Nat.ne_of_gt hPa) _).ext hzp
          refine hK.out _ _ ?_ (fun hHeldN => ?_)
          · (try dsimp only); exact hJ3.2.1
          clear hK K hHeld
          have hHeld := hHeldN
          clear hHeldN
          try simp only [Act.put, List.setIfInBounds_toArray, List.set_cons_zero, List.set_cons_succ, List.getElem_toArray, List.getElem_cons_succ, List.getElem_cons_zero]
          refine wpAnyB_ready (rs := [4]) (by kernel_rfl) (by simp) ?_
          refine AllReadyB.last (o := _) rfl rfl (fun K hK => ?_) AllReadyB.nil
          rw [if_pos (by rfl)]
          refine Go.Proofs.YtbkgakgdbmjmjaaGreat.wp_store_row 35 (.tmp 13) (.tmp 36) rfl (zs.heap.size) #[.int .i64 r0, .int .i64 r1, .int .i64 r2, .int .i64 r3, .int .i64 r4, .int .i64 r5, .int .i64 r6, .int .i64 r7, .int .i64 r8, .int .i64 r9, .int .i64 r10, .int .i64 r11, .int .i64 r12, .int .i64 r13, .int .i64 r14, .int .i64 r15, .int .i64 r16, .int .i64 r17] rfl rfl (hA3.there 18 rfl) tyI35 (by kernel_rfl) (fun Ws hWs => ?_)
          try simp only [Act.put, List.setIfInBounds_toArray, List.set_cons_zero, List.set_cons_succ, List.getElem_toArray, List.getElem_cons_succ, List.getElem_cons_zero]
          refine hK.out _ _ trivial (fun _ => ?_)
          clear hK K
          try simp only [Act.put, List.setIfInBounds_toArray, List.set_cons_zero, List.set_cons_succ, List.getElem_toArray, List.getElem_cons_succ, List.getElem_cons_zero]
          refine wpAnyH_done (by kernel_rfl) ?_ _
          go_wp2_with fail
          go_meet
          exact ⟨_, rfl, hPa, ShI.row hJ3 hPa hWs, VB.row (m := [r0, r1, r2, r3, r4, r5, r6, r7, r8, r9, r10, r11, r12, r13, r14, r15, r16, r17]) hA3 hWs⟩
      · go_simp
        have hJ1 := hI0d.ext ((Ext.refl _).alloc (.cells #[.int .i64 0, .int .i64 0, .int .i64 0, .int .i64 0, .int .i64 0, .int .i64 0, .int .i64 0, .int .i64 0, .int .i64 0, .int .i64 0, .int .i64 0, .int .i64 0, .int .i64 0, .int .i64 0, .int .i64 0, .int .i64 0, .int .i64 0, .int .i64 0] 35))
        have hA1 : VB (V.drew.alloc (.cells #[.int .i64 0, .int .i64 0, .int .i64 0, .int .i64 0, .int .i64 0, .int .i64 0, .int .i64 0, .int .i64 0, .int .i64 0, .int .i64 0, .int .i64 0, .int .i64 0, .int .i64 0, .int .i64 0, .int .i64 0, .int .i64 0, .int .i64 0, .int .i64 0] 35)) (P + 1) z18 := by rw [← sV]; exact VB.lit V.drew z18 35
        have hPa : P < (P + 1) := Nat.lt_succ_self _
        refine hK.out _ _ ?_ (fun hHeldN => ?_)
        · (try dsimp only); exact hJ1.2.1
        clear hK K hHeld
        have hHeld := hHeldN
        clear hHeldN
        try simp only [Act.put, List.setIfInBounds_toArray, List.set_cons_zero, List.set_cons_succ, List.getElem_toArray, List.getElem_cons_succ, List.getElem_cons_zero]
        refine wpAnyB_ready (rs := [0]) (by kernel_rfl) (by simp) ?_
        refine AllReadyB.cons (o := _) rfl rfl (fun K hK => ?_) AllReadyB.nil
        go_simp
        (go_at_call 46; (with_reducible refine (p_sun _).mono ?_); rintro e zs ⟨rfl, hzs⟩)
        have hJ2 := hJ1.ext hzs
        have hA2 := hA1.ext hzs
        refine hK.out _ _ ?_ (fun hHeldN => ?_)
        · (try dsimp only); exact hJ2.2.1
        clear hK K hHeld
        have hHeld := hHeldN
        clear hHeldN
        try simp only [Act.put, List.setIfInBounds_toArray, List.set_cons_zero, List.set_cons_succ, List.getElem_toArray, List.getElem_cons_succ, List.getElem_cons_zero]
        refine wpAnyB_ready (rs := [2]) (by kernel_rfl) (by simp) ?_
        refine AllReadyB.cons (o := _) rfl rfl (fun K hK => ?_) AllReadyB.nil
        go_simp
        (go_at_call 56; (with_reducible refine (hpl _ hJ2.bad).mono ?_); rintro e zp ⟨rfl, hzp⟩)
        have hJ3 := hJ2.now hzp
        have hA3 := (hA2.other (B := P) (j := 0) (Nat.ne_of_gt hPa) _).ext hzp
        refine hK.out _ _ ?_ (fun hHeldN => ?_)
        · (try dsimp only); exact hJ3.2.1
        clear hK K hHeld
        have hHeld := hHeldN
        clear hHeldN
        try simp only [Act.put, List.setIfInBounds_toArray, List.set_cons_zero, List.set_cons_succ, List.getElem_toArray, List.getElem_cons_succ, List.getElem_cons_zero]
        refine wpAnyB_ready (rs := [4]) (by kernel_rfl) (by simp) ?_
        refine AllReadyB.last (o := _) rfl rfl (fun K hK => ?_) AllReadyB.nil
        rw [if_pos (by rfl)]
        refine Go.Proofs.YtbkgakgdbmjmjaaGreat.wp_store_row 35 (.tmp 13) (.tmp 36) rfl ((P + 1)) #[.int .i64 r0, .int .i64 r1, .int .i64 r2, .int .i64 r3, .int .i64 r4, .int .i64 r5, .int .i64 r6, .int .i64 r7, .int .i64 r8, .int .i64 r9, .int .i64 r10, .int .i64 r11, .int .i64 r12, .int .i64 r13, .int .i64 r14, .int .i64 r15, .int .i64 r16, .int .i64 r17] rfl rfl (hA3.there 18 rfl) tyI35 (by kernel_rfl) (fun Ws hWs => ?_)
        try simp only [Act.put, List.setIfInBounds_toArray, List.set_cons_zero, List.set_cons_succ, List.getElem_toArray, List.getElem_cons_succ, List.getElem_cons_zero]
        refine hK.out _ _ trivial (fun _ => ?_)
        clear hK K
        try simp only [Act.put, List.setIfInBounds_toArray, List.set_cons_zero, List.set_cons_succ, List.getElem_toArray, List.getElem_cons_succ, List.getElem_cons_zero]
        refine wpAnyH_done (by kernel_rfl) ?_ _
        go_wp2_with fail
        go_meet
        exact ⟨_, rfl, hPa, ShI.row hJ3 hPa hWs, VB.row (m := [r0, r1, r2, r3, r4, r5, r6, r7, r8, r9, r10, r11, r12, r13, r14, r15, r16, r17]) hA3 hWs⟩
    obtain ⟨A, rfl, hPA, hIc, hAc⟩ := hcut
    clear hpl hI0 sV
    go_wp2_with fail
    go_loopw [39] (fun i wr => ∃ k : Nat, k ≤ ls.length ∧ i = .int .i64 k ∧ Hid (ShI w P sb so ls p (shN p (ls.take k) R0).e wr ∧ VB wr A (mL (shN p (ls.take k) R0).m))) (fun i _ => ls.length - (intOf i).toNat)
    case atStart => exact ⟨0, by omega, rfl, Lib.hid ⟨hIc, hAc⟩⟩
    case round =>
      obtain ⟨k, hk, rfl, hq⟩ := hrel
      obtain ⟨hIr, hAr⟩ := hq.out
      clear hIc hAc hq
      have hAlt := hAr.2.2
      have hPlt := hIr.2.2.2.2.2.1
      rcases Nat.eq_or_lt_of_le hk with rfl | hk2
      · rw [List.take_length] at hIr hAr
        generalize shN p ls R0 = R1 at *
        obtain ⟨x1, o9, ⟨b0, b1⟩⟩ : Ext w wr ∧ VB wr (w.heap.size + 1 + 1) z18 ∧ Bad wr P R1.e := ⟨hIr.1, hIr.2.2.1, hIr.2.2.2.1⟩
        obtain ⟨⟨⟨q0, q1, q2, q3, q4, q5⟩, ⟨q6, q7, q8, q9, q10, q11⟩, ⟨q12, q13, q14, q15, q16, q17⟩⟩, C1⟩ := R1
        unfold mL at hAr
        dsimp only at hAr b0 hR
        have hAq : wr.rangeAt A 0 [.int .i64 q0, .int .i64 q1, .int .i64 q2, .int .i64 q3, .int .i64 q4, .int .i64 q5, .int .i64 q6, .int .i64 q7, .int .i64 q8, .int .i64 q9, .int .i64 q10, .int .i64 q11, .int .i64 q12, .int .i64 q13, .int .i64 q14, .int .i64 q15, .int .i64 q16, .int .i64 q17] := hAr.range
        have hth : wr.there (w.heap.size + 1 + 1) 0 18 := o9.there 18 rfl
        by_cases h1 : C1 = 0
        · subst h1
          rw [if_neg (by simp)] at hR
          subst hR
          have nb : nz 0 = false := rfl
          rw [nb] at b0
          go_wp2_with (first
            | ((with_reducible show wpList _ _ _ _ _ _); refine wpList_load_mid rfl 35 (.tmp 13) rfl A 0 rfl [.int .i64 q0, .int .i64 q1, .int .i64 q2, .int .i64 q3, .int .i64 q4, .int .i64 q5, .int .i64 q6, .int .i64 q7, .int .i64 q8, .int .i64 q9, .int .i64 q10, .int .i64 q11, .int .i64 q12, .int .i64 q13, .int .i64 q14, .int .i64 q15, .int .i64 q16, .int .i64 q17] (.array 3 27) hAq tyU35 rfl tyI35 ?_)
            | ((with_reducible show wpList _ _ _ _ _ _); refine store_row rfl 35 (.tmp 8) (.tmp 88) rfl (w.heap.size + 1 + 1) #[.int .i64 q0, .int .i64 q1, .int .i64 q2, .int .i64 q3, .int .i64 q4, .int .i64 q5, .int .i64 q6, .int .i64 q7, .int .i64 q8, .int .i64 q9, .int .i64 q10, .int .i64 q11, .int .i64 q12, .int .i64 q13, .int .i64 q14, .int .i64 q15, .int .i64 q16, .int .i64 q17] rfl rfl hth tyI35 (by kernel_rfl) (fun W5 hW5 => ?_)))
          refine bodyPost_ret (results_cell_tmp (a := ⟨w.heap.size + 1 + 1, 0, none⟩) rfl rfl rfl (run_load_row W5 _ 35 [.int .i64 q0, .int .i64 q1, .int .i64 q2, .int .i64 q3, .int .i64 q4, .int .i64 q5, .int .i64 q6, .int .i64 q7, .int .i64 q8, .int .i64 q9, .int .i64 q10, .int .i64 q11, .int .i64 q12, .int .i64 q13, .int .i64 q14, .int .i64 q15, .int .i64 q16, .int .i64 q17] (.array 3 27) hW5.range tyU35 rfl tyI35)) rfl ⟨rfl, hW5.ext x1 (by omega)⟩
        · have nb : nz C1 = true := by simp [nz, h1]
          rw [nb] at b0
          rw [if_pos h1] at hR
          subst hR
          have her := fun w1 (k1 : Ext wr w1) => f_err P w1 ((k1.cells.1 P 0 hPlt).trans b0)
          go_wp2_with (first
            | (go_at_call 50; (with_reducible refine (her _ (by repeat (first | with_reducible exact Ext.refl _ | with_reducible assumption | with_reducible refine Ext.alloc ?_ _ | with_reducible refine Ext.setCell ?_ (by (try simp only [World.size_alloc, World.size_setCell]); omega) _ | with_reducible refine Ext.drewN ?_ _ | with_reducible refine Ext.drew ?_ | with_reducible refine Ext.trans ?_ (by with_reducible assumption)))).mono ?_); rintro e w5 ⟨rfl, hb5⟩; have hth5 := (o9.ext hb5).there 18 rfl)
            | ((with_reducible show wpList _ _ _ _ _ _); refine store_row rfl 35 (.tmp 8) (.tmp 86) rfl (w.heap.size + 1 + 1) #[.int .i64 0, .int .i64 0, .int .i64 0, .int .i64 0, .int .i64 0, .int .i64 0, .int .i64 0, .int .i64 0, .int .i64 0, .int .i64 0, .int .i64 0, .int .i64 0, .int .i64 0, .int .i64 0, .int .i64 0, .int .i64 0, .int .i64 0, .int .i64 0] rfl rfl hth5 tyI35 (by kernel_rfl) (fun W5 hW5 => ?_)))
          refine bodyPost_ret (results_cell_tmp (a := ⟨w.heap.size + 1 + 1, 0, none⟩) rfl rfl rfl (run_load_row W5 _ 35 [.int .i64 0, .int .i64 0, .int .i64 0, .int .i64 0, .int .i64 0, .int .i64 0, .int .i64 0, .int .i64 0, .int .i64 0, .int .i64 0, .int .i64 0, .int .i64 0, .int .i64 0, .int .i64 0, .int .i64 0, .int .i64 0, .int .i64 0, .int .i64 0] (.array 3 27) hW5.range tyU35 rfl tyI35)) rfl ⟨rfl, hW5.ext (x1.trans hb5) (by omega)⟩
      · have hst := shN_take p ls R0 k hk2
        obtain ⟨sd, hsd⟩ : ∃ sd, ls[k] = sd := ⟨_, rfl⟩
        obtain ⟨hx1, hv1⟩ := hIs _ (List.getElem_mem hk2)
        rw [hsd] at hx1 hv1 hst
        obtain ⟨g0, g1, g2, g3, g4, g5, g6, g7⟩ := hIr.2.2.2.2.1.at hk2 hsd
        obtain rfl := hsa (by omega)
        have hsp : w.heap.size + 3 ≤ P := hIr.2.2.2.2.2.2.1
        clear hIs hsd hsc hsb hR
        generalize shN p (ls.take k) R0 = Ak at *
        obtain ⟨An, hAn⟩ : ∃ An, shN p (ls.take (k + 1)) R0 = An := ⟨_, rfl⟩
        rw [hAn] at hst
        replace hAn := Lib.hid hAn
        obtain ⟨⟨⟨a0, a1, a2, a3, a4, a5⟩, ⟨a6, a7, a8, a9, a10, a11⟩, ⟨a12, a13, a14, a15, a16, a17⟩⟩, F0⟩ := Ak
        unfold mL at hAr
        dsimp only at hIr hAr
        have hch : chV subI F0 p sd.v = ⟨⟨(doI F0 (subI p.a p.b sd.v.a sd.v.b)).lo, (doI F0 (subI p.a p.b sd.v.a sd.v.b)).hi, (doI (doI F0 (subI p.a p.b sd.v.a sd.v.b)).e (subI p.c p.d sd.v.c sd.v.d)).lo, (doI (doI F0 (subI p.a p.b sd.v.a sd.v.b)).e (subI p.c p.d sd.v.c sd.v.d)).hi, (doI (doI (doI F0 (subI p.a p.b sd.v.a sd.v.b)).e (subI p.c p.d sd.v.c sd.v.d)).e (subI p.e p.f sd.v.e sd.v.f)).lo, (doI (doI (doI F0 (subI p.a p.b sd.v.a sd.v.b)).e (subI p.c p.d sd.v.c sd.v.d)).e (subI p.e p.f sd.v.e sd.v.f)).hi⟩, (doI (doI (doI F0 (subI p.a p.b sd.v.a sd.v.b)).e (subI p.c p.d sd.v.c sd.v.d)).e (subI p.e p.f sd.v.e sd.v.f)).e⟩ := rfl
        have hcI := chV_sub_I F0 p sd.v
        have hst2 : An = maR (tiR (chV subI F0 p sd.v).e sd.x sd.y (chV subI F0 p sd.v).v) ⟨⟨a0, a1, a2, a3, a4, a5⟩, ⟨a6, a7, a8, a9, a10, a11⟩, ⟨a12, a13, a14, a15, a16, a17⟩⟩ := hst
        rw [hch] at hcI hst2
        clear hst hch
        have su0 := fun w1 (h : Bad w1 P F0) => f_sub P F0 p.a p.b sd.v.a sd.v.b w1 h.1 h.2
        have su1 := fun E w1 (h : Bad w1 P E) => f_sub P E p.c p.d sd.v.c sd.v.d w1 h.1 h.2
        have su2 := fun E w1 (h : Bad w1 P E) => f_sub P E p.e p.f sd.v.e sd.v.f w1 h.1 h.2
        generalize doI F0 (subI p.a p.b sd.v.a sd.v.b) = Q0 at *
        obtain ⟨q0, q1, F1⟩ := Q0
        try dsimp only at su0 su1 su2 hcI hst2
        replace su1 := su1 F1
        generalize doI F1 (subI p.c p.d sd.v.c sd.v.d) = Q1 at *
        obtain ⟨q2, q3, F2⟩ := Q1
        try dsimp only at su1 su2 hcI hst2
        replace su2 := su2 F2
        generalize doI F2 (subI p.e p.f sd.v.e sd.v.f) = Q2 at *
        obtain ⟨q4, q5, F3⟩ := Q2
        try dsimp only at su2 hcI hst2
        have hti : ∀ w1, Bad w1 P F3 → Calls Tryz.prog 56 #[.pointer (some ⟨P, 0, none⟩), .agg #[.int .i64 sd.x, .int .i64 sd.y], .agg #[.int .i64 q0, .int .i64 q1, .int .i64 q2, .int .i64 q3, .int .i64 q4, .int .i64 q5]] w1 fun e w' => e = .returned (.agg (mvs (tiR F3 sd.x sd.y ⟨q0, q1, q2, q3, q4, q5⟩).m)) ∧ Ext (w1.setCell ⟨P, 0, none⟩ (.bool (nz (tiR F3 sd.x sd.y ⟨q0, q1, q2, q3, q4, q5⟩).e))) w' := fun w1 h => f_tide P F3 sd.x sd.y ⟨q0, q1, q2, q3, q4, q5⟩ w1 h.1 h.2 hx1 hcI
        generalize tiR F3 sd.x sd.y ⟨q0, q1, q2, q3, q4, q5⟩ = Tm at *
        obtain ⟨⟨⟨t0, t1, t2, t3, t4, t5⟩, ⟨t6, t7, t8, t9, t10, t11⟩, ⟨t12, t13, t14, t15, t16, t17⟩⟩, D0⟩ := Tm
        unfold mvs at hti
        dsimp only at hti
        obtain ⟨⟨n0, n1, D1⟩, hQ0⟩ : ∃ Q, doI D0 (addI a0 a1 t0 t1) = Q := ⟨_, rfl⟩
        obtain ⟨⟨n2, n3, D2⟩, hQ1⟩ : ∃ Q, doI D1 (addI a2 a3 t2 t3) = Q := ⟨_, rfl⟩
        obtain ⟨⟨n4, n5, D3⟩, hQ2⟩ : ∃ Q, doI D2 (addI a4 a5 t4 t5) = Q := ⟨_, rfl⟩
        obtain ⟨⟨n6, n7, D4⟩, hQ3⟩ : ∃ Q, doI D3 (addI a6 a7 t6 t7) = Q := ⟨_, rfl⟩
        obtain ⟨⟨n8, n9, D5⟩, hQ4⟩ : ∃ Q, doI D4 (addI a8 a9 t8 t9) = Q := ⟨_, rfl⟩
        obtain ⟨⟨n10, n11, D6⟩, hQ5⟩ : ∃ Q, doI D5 (addI a10 a11 t10 t11) = Q := ⟨_, rfl⟩
        obtain ⟨⟨n12, n13, D7⟩, hQ6⟩ : ∃ Q, doI D6 (addI a12 a13 t12 t13) = Q := ⟨_, rfl⟩
        obtain ⟨⟨n14, n15, D8⟩, hQ7⟩ : ∃ Q, doI D7 (addI a14 a15 t14 t15) = Q := ⟨_, rfl⟩
        obtain ⟨⟨n16, n17, D9⟩, hQ8⟩ : ∃ Q, doI D8 (addI a16 a17 t16 t17) = Q := ⟨_, rfl⟩
        have hma : maR ⟨⟨⟨t0, t1, t2, t3, t4, t5⟩, ⟨t6, t7, t8, t9, t10, t11⟩, ⟨t12, t13, t14, t15, t16, t17⟩⟩, D0⟩ ⟨⟨a0, a1, a2, a3, a4, a5⟩, ⟨a6, a7, a8, a9, a10, a11⟩, ⟨a12, a13, a14, a15, a16, a17⟩⟩ = ⟨⟨⟨n0, n1, n2, n3, n4, n5⟩, ⟨n6, n7, n8, n9, n10, n11⟩, ⟨n12, n13, n14, n15, n16, n17⟩⟩, D9⟩ := by simp only [maR, chV, ch0, ch1, ch2, v3, hQ0, hQ1, hQ2, hQ3, hQ4, hQ5, hQ6, hQ7, hQ8]
        rw [hma] at hst2
        clear hma
        have ad0 := fun w1 (h : Bad w1 P D0) => f_add P D0 a0 a1 t0 t1 w1 h.1 h.2
        rw [hQ0] at ad0
        have ad1 := fun w1 (h : Bad w1 P D1) => f_add P D1 a2 a3 t2 t3 w1 h.1 h.2
        rw [hQ1] at ad1
        have ad2 := fun w1 (h : Bad w1 P D2) => f_add P D2 a4 a5 t4 t5 w1 h.1 h.2
        rw [hQ2] at ad2
        have ad3 := fun w1 (h : Bad w1 P D3) => f_add P D3 a6 a7 t6 t7 w1 h.1 h.2
        rw [hQ3] at ad3
        have ad4 := fun w1 (h : Bad w1 P D4) => f_add P D4 a8 a9 t8 t9 w1 h.1 h.2
        rw [hQ4] at ad4
        have ad5 := fun w1 (h : Bad w1 P D5) => f_add P D5 a10 a11 t10 t11 w1 h.1 h.2
        rw [hQ5] at ad5
        have ad6 := fun w1 (h : Bad w1 P D6) => f_add P D6 a12 a13 t12 t13 w1 h.1 h.2
        rw [hQ6] at ad6
        have ad7 := fun w1 (h : Bad w1 P D7) => f_add P D7 a14 a15 t14 t15 w1 h.1 h.2
        rw [hQ7] at ad7
        have ad8 := fun w1 (h : Bad w1 P D8) => f_add P D8 a16 a17 t16 t17 w1 h.1 h.2
        rw [hQ8] at ad8
        clear hQ0 hQ1 hQ2 hQ3 hQ4 hQ5 hQ6 hQ7 hQ8
        have ir0 := fun w => idx35_0 (.int .i64 t0) (.int .i64 t1) (.int .i64 t2) (.int .i64 t3) (.int .i64 t4) (.int .i64 t5) (.int .i64 t6) (.int .i64 t7) (.int .i64 t8) (.int .i64 t9) (.int .i64 t10) (.int .i64 t11) (.int .i64 t12) (.int .i64 t13) (.int .i64 t14) (.int .i64 t15) (.int .i64 t16) (.int .i64 t17) w
        have ir1 := fun w => idx35_1 (.int .i64 t0) (.int .i64 t1) (.int .i64 t2) (.int .i64 t3) (.int .i64 t4) (.int .i64 t5) (.int .i64 t6) (.int .i64 t7) (.int .i64 t8) (.int .i64 t9) (.int .i64 t10) (.int .i64 t11) (.int .i64 t12) (.int .i64 t13) (.int .i64 t14) (.int .i64 t15) (.int .i64 t16) (.int .i64 t17) w
        have ir2 := fun w => idx35_2 (.int .i64 t0) (.int .i64 t1) (.int .i64 t2) (.int .i64 t3) (.int .i64 t4) (.int .i64 t5) (.int .i64 t6) (.int .i64 t7) (.int .i64 t8) (.int .i64 t9) (.int .i64 t10) (.int .i64 t11) (.int .i64 t12) (.int .i64 t13) (.int .i64 t14) (.int .i64 t15) (.int .i64 t16) (.int .i64 t17) w
        have ic00 := fun w => idx27_0 (.int .i64 t0) (.int .i64 t1) (.int .i64 t2) (.int .i64 t3) (.int .i64 t4) (.int .i64 t5) w
        have ic01 := fun w => idx27_1 (.int .i64 t0) (.int .i64 t1) (.int .i64 t2) (.int .i64 t3) (.int .i64 t4) (.int .i64 t5) w
        have ic02 := fun w => idx27_2 (.int .i64 t0) (.int .i64 t1) (.int .i64 t2) (.int .i64 t3) (.int .i64 t4) (.int .i64 t5) w
        have ic10 := fun w => idx27_0 (.int .i64 t6) (.int .i64 t7) (.int .i64 t8) (.int .i64 t9) (.int .i64 t10) (.int .i64 t11) w
        have ic11 := fun w => idx27_1 (.int .i64 t6) (.int .i64 t7) (.int .i64 t8) (.int .i64 t9) (.int .i64 t10) (.int .i64 t11) w
        have ic12 := fun w => idx27_2 (.int .i64 t6) (.int .i64 t7) (.int .i64 t8) (.int .i64 t9) (.int .i64 t10) (.int .i64 t11) w
        have ic20 := fun w => idx27_0 (.int .i64 t12) (.int .i64 t13) (.int .i64 t14) (.int .i64 t15) (.int .i64 t16) (.int .i64 t17) w
        have ic21 := fun w => idx27_1 (.int .i64 t12) (.int .i64 t13) (.int .i64 t14) (.int .i64 t15) (.int .i64 t16) (.int .i64 t17) w
        have ic22 := fun w => idx27_2 (.int .i64 t12) (.int .i64 t13) (.int .i64 t14) (.int .i64 t15) (.int .i64 t16) (.int .i64 t17) w
        clear hcI hx1 hv1
        obtain ⟨G, hG⟩ : ∃ G, wr.heap.size = G := ⟨_, rfl⟩
        have hAG : A < G := by omega
        go_wp2_with fail
        refine wp_loop_rounds 4 ?_
        rw [rounds_succ]
        go_upto_region 13 with fail
        refine wp_name fun V hV0 => ?_
        have eV : Ext wr V := Ext.same hV0 (by repeat (first | with_reducible exact Ext.refl _ | with_reducible assumption | with_reducible refine Ext.alloc ?_ _ | with_reducible refine Ext.setCell ?_ (by (try simp only [World.size_alloc, World.size_setCell]); omega) _ | with_reducible refine Ext.drewN ?_ _ | with_reducible refine Ext.drew ?_ | with_reducible refine Ext.trans ?_ (by with_reducible assumption)))
        have vD0 : V6 V (G + 1) ⟨0, 0, 0, 0, 0, 0⟩ := by
          have e : V = _ := hV0
          rw [e, ← hG]
          refine ⟨?_, ?_, ?_, ?_, ?_, ?_, fun o => ?_, ?_⟩ <;> simp [go_sem, ↓IntWalk.iteOmega]
        have vG0 : V8 V G sd := V8.of (by
          have e : V = _ := hV0
          rw [e, ← hG]
          refine ⟨?_, ?_, ?_, ?_, ?_, ?_, ?_, ?_⟩ <;> simp [go_sem, ↓IntWalk.iteOmega])
        have hJ0 := hIr.ext eV
        have hA0 := hAr.ext eV
        clear hIr hAr g0 g1 g2 g3 g4 g5 g6 g7 hV0
        try rw [hG]
        have hJd0 := hJ0.ext ((Ext.refl V).drew)
        have hAd0 := hA0.ext ((Ext.refl V).drew)
        have vDd0 := vD0.ext ((Ext.refl V).drew)
        have vGd0 := vG0.ext ((Ext.refl V).drew)
        have hPd0 := hJd0.lt
        refine wp_region_till (S := (fun w0 => V6 w0 (w.heap.size + 1) p ∧ V8 w0 G sd)) (fun i => decide (i = 10)) (by kernel_rfl) ?_ (fun hHeld => ?_)
        · exact ⟨hJ0.2.1, vG0⟩
        try simp only [Act.put, List.setIfInBounds_toArray, List.set_cons_zero, List.set_cons_succ, List.getElem_toArray, List.getElem_cons_succ, List.getElem_cons_zero]
        refine wpAnyB_pure (i := 0) (oi := _) (v := ?_) rfl (by kernel_rfl) (by kernel_rfl) (by kernel_rfl) (by kernel_rfl) (fun _ _ _ h => h) (Or.inl ⟨by rfl, ?_⟩) (by assumption) ?_
        rotate_left
        · intro w0 _; go_simp; try with_reducible rfl
        try simp only [Act.put, List.setIfInBounds_toArray, List.set_cons_zero, List.set_cons_succ, List.getElem_toArray, List.getElem_cons_succ, List.getElem_cons_zero]
        refine wpAnyB_pure (i := 1) (oi := _) (v := ?_) rfl (by kernel_rfl) (by kernel_rfl) (by kernel_rfl) (by kernel_rfl) (fun _ _ _ h => h) (Or.inl ⟨by rfl, ?_⟩) (by assumption) ?_
        rotate_left
        · intro w0 _; go_simp; try with_reducible rfl
        try simp only [Act.put, List.setIfInBounds_toArray, List.set_cons_zero, List.set_cons_succ, List.getElem_toArray, List.getElem_cons_succ, List.getElem_cons_zero]
        refine wpAnyB_pure (i := 2) (oi := _) (v := ?_) rfl (by kernel_rfl) (by kernel_rfl) (by kernel_rfl) (by kernel_rfl) (fun _ _ _ h => h) (Or.inl ⟨by rfl, ?_⟩) (by assumption) ?_
        rotate_left
        · intro w0 _; go_simp; try with_reducible rfl
        try simp only [Act.put, List.setIfInBounds_toArray, List.set_cons_zero, List.set_cons_succ, List.getElem_toArray, List.getElem_cons_succ, List.getElem_cons_zero]
        refine wpAnyB_take (i := 3) (oi := _) (v := ?_) rfl (by kernel_rfl) (by kernel_rfl) (by kernel_rfl) (by kernel_rfl) (fun _ _ _ h => h) (Or.inl ⟨by rfl, ?_⟩) (by assumption) ?_
        rotate_left
        · intro w0 hSw; obtain ⟨⟨c0, c1, c2, c3, c4, c5, cf, cl⟩, hv8⟩ := hSw; obtain ⟨u0, u1, u2, u3, u4, u5, u6, u7⟩ := hv8.at; go_simp; try with_reducible rfl
        try simp only [Act.put, List.setIfInBounds_toArray, List.set_cons_zero, List.set_cons_succ, List.getElem_toArray, List.getElem_cons_succ, List.getElem_cons_zero]
        refine wpAnyB_pure (i := 4) (oi := _) (v := ?_) rfl (by kernel_rfl) (by kernel_rfl) (by kernel_rfl) (by kernel_rfl) (fun _ _ _ h => h) (Or.inl ⟨by rfl, ?_⟩) (by assumption) ?_
        rotate_left
        · intro w0 _; go_simp; try with_reducible rfl
        try simp only [Act.put, List.setIfInBounds_toArray, List.set_cons_zero, List.set_cons_succ, List.getElem_toArray, List.getElem_cons_succ, List.getElem_cons_zero]
        refine wpAnyB_pure (i := 5) (oi := _) (v := ?_) rfl (by kernel_rfl) (by kernel_rfl) (by kernel_rfl) (by kernel_rfl) (fun _ _ _ h => h) (Or.inl ⟨by rfl, ?_⟩) (by assumption) ?_
        rotate_left
        · intro w0 _; go_simp; try with_reducible rfl
        try simp only [Act.put, List.setIfInBounds_toArray, List.set_cons_zero, List.set_cons_succ, List.getElem_toArray, List.getElem_cons_succ, List.getElem_cons_zero]
        refine wpAnyB_pure (i := 6) (oi := _) (v := ?_) rfl (by kernel_rfl) (by kernel_rfl) (by kernel_rfl) (by kernel_rfl) (fun _ _ _ h => h) (Or.inl ⟨by rfl, ?_⟩) (by assumption) ?_
        rotate_left
        · intro w0 _; go_simp; try with_reducible rfl
        try simp only [Act.put, List.setIfInBounds_toArray, List.set_cons_zero, List.set_cons_succ, List.getElem_toArray, List.getElem_cons_succ, List.getElem_cons_zero]
        refine wpAnyB_take (i := 7) (oi := _) (v := ?_) rfl (by kernel_rfl) (by kernel_rfl) (by kernel_rfl) (by kernel_rfl) (fun _ _ _ h => h) (Or.inl ⟨by rfl, ?_⟩) (by assumption) ?_
        rotate_left
        · intro w0 hSw; obtain ⟨⟨c0, c1, c2, c3, c4, c5, cf, cl⟩, hv8⟩ := hSw; obtain ⟨u0, u1, u2, u3, u4, u5, u6, u7⟩ := hv8.at; go_simp; try with_reducible rfl
        try simp only [Act.put, List.setIfInBounds_toArray, List.set_cons_zero, List.set_cons_succ, List.getElem_toArray, List.getElem_cons_succ, List.getElem_cons_zero]
        refine wpAnyB_ready (rs := [8]) (by kernel_rfl) (by simp) ?_
        refine AllReadyB.cons (o := _) rfl rfl (fun K hK => ?_) AllReadyB.nil
        go_simp
        (go_at_call 49; (with_reducible refine (su0 _ hJd0.bad).mono ?_); rintro e z0 ⟨rfl, hz0⟩)
        have hK0 := hJd0.now hz0
        have hKA0 := (hAd0.other (B := P) (j := 0) (by omega) (.bool (nz F1))).ext hz0
        have hKD0 := (vDd0.other (B := P) (j := 0) (by omega) (.bool (nz F1))).ext hz0
        have hKG0 := (vGd0.other (B := P) (j := 0) (by omega) (.bool (nz F1))).ext hz0
        refine hK.out _ _ ?_ (fun hHeldN => ?_)
        · (try dsimp only); exact ⟨hK0.2.1, hKG0⟩
        clear hK K hHeld
        have hHeld := hHeldN
        clear hHeldN
        try simp only [Act.put, List.setIfInBounds_toArray, List.set_cons_zero, List.set_cons_succ, List.getElem_toArray, List.getElem_cons_succ, List.getElem_cons_zero]
        refine wpAnyB_pure (i := 9) (oi := _) (v := ?_) rfl (by kernel_rfl) (by kernel_rfl) (by kernel_rfl) (by kernel_rfl) (fun _ _ _ h => h) (Or.inl ⟨by rfl, ?_⟩) (by assumption) ?_
        rotate_left
        · intro w0 _; go_simp; try with_reducible rfl
        try simp only [Act.put, List.setIfInBounds_toArray, List.set_cons_zero, List.set_cons_succ, List.getElem_toArray, List.getElem_cons_succ, List.getElem_cons_zero]
        refine wpAnyB_ready (rs := [10]) (by kernel_rfl) (by simp) ?_
        refine AllReadyB.last (o := _) rfl rfl (fun K hK => ?_) AllReadyB.nil
        obtain ⟨c0, c1, c2, c3, c4, c5, cf, cl⟩ := id hKD0
        dsimp only at c0 c1 c2 c3 c4 c5
        go_simp
        refine hK.out _ _ trivial (fun _ => ?_)
        clear hK K
        try simp only [Act.put, List.setIfInBounds_toArray, List.set_cons_zero, List.set_cons_succ, List.getElem_toArray, List.getElem_cons_succ, List.getElem_cons_zero]
        refine wpAnyH_done (by kernel_rfl) ?_ _
        go_wp2_with fail
        refine wp_name fun X1 hY0 => ?_
        have hJ1 : ShI w P sb so ls p F1 X1 := by have e : X1 = _ := hY0; rw [e]; exact (hK0.set (D := G + 1) (by omega) _).set (D := G + 1) (by omega) _
        have hA1 : VB X1 A [a0, a1, a2, a3, a4, a5, a6, a7, a8, a9, a10, a11, a12, a13, a14, a15, a16, a17] := by have e : X1 = _ := hY0; rw [e]; exact (hKA0.other (B := G + 1) (by omega) _).other (B := G + 1) (by omega) _
        have vD1 : V6 X1 (G + 1) ⟨q0, q1, 0, 0, 0, 0⟩ := by have e : X1 = _ := hY0; rw [e]; exact (hKD0.s0 _).s1 _
        have vG1 : V8 X1 G sd := by have e : X1 = _ := hY0; rw [e]; exact (hKG0.other (B := G + 1) (by omega) _).other (B := G + 1) (by omega) _
        clear hY0 hK0 hKA0 hKD0 hKG0 hz0 hJd0 hAd0 vDd0 vGd0 hPd0 hJ0 hA0 vD0 vG0 su0 hHeld
        go_upto_region 13 with fail
        have hJd1 := hJ1.ext ((Ext.refl X1).drew)
        have hAd1 := hA1.ext ((Ext.refl X1).drew)
        have vDd1 := vD1.ext ((Ext.refl X1).drew)
        have vGd1 := vG1.ext ((Ext.refl X1).drew)
        have hPd1 := hJd1.lt
        refine wp_region_till (S := (fun w0 => V6 w0 (w.heap.size + 1) p ∧ V8 w0 G sd)) (fun i => decide (i = 10)) (by kernel_rfl) ?_ (fun hHeld => ?_)
        · exact ⟨hJ1.2.1, vG1⟩
        try simp only [Act.put, List.setIfInBounds_toArray, List.set_cons_zero, List.set_cons_succ, List.getElem_toArray, List.getElem_cons_succ, List.getElem_cons_zero]
        refine wpAnyB_pure (i := 0) (oi := _) (v := ?_) rfl (by kernel_rfl) (by kernel_rfl) (by kernel_rfl) (by kernel_rfl) (fun _ _ _ h => h) (Or.inl ⟨by rfl, ?_⟩) (by assumption) ?_
        rotate_left
        · intro w0 _; go_simp; try with_reducible rfl
        try simp only [Act.put, List.setIfInBounds_toArray, List.set_cons_zero, List.set_cons_succ, List.getElem_toArray, List.getElem_cons_succ, List.getElem_cons_zero]
        refine wpAnyB_pure (i := 1) (oi := _) (v := ?_) rfl (by kernel_rfl) (by kernel_rfl) (by kernel_rfl) (by kernel_rfl) (fun _ _ _ h => h) (Or.inl ⟨by rfl, ?_⟩) (by assumption) ?_
        rotate_left
        · intro w0 _; go_simp; try with_reducible rfl
        try simp only [Act.put, List.setIfInBounds_toArray, List.set_cons_zero, List.set_cons_succ, List.getElem_toArray, List.getElem_cons_succ, List.getElem_cons_zero]
        refine wpAnyB_pure (i := 2) (oi := _) (v := ?_) rfl (by kernel_rfl) (by kernel_rfl) (by kernel_rfl) (by kernel_rfl) (fun _ _ _ h => h) (Or.inl ⟨by rfl, ?_⟩) (by assumption) ?_
        rotate_left
        · intro w0 _; go_simp; try with_reducible rfl
        try simp only [Act.put, List.setIfInBounds_toArray, List.set_cons_zero, List.set_cons_succ, List.getElem_toArray, List.getElem_cons_succ, List.getElem_cons_zero]
        refine wpAnyB_take (i := 3) (oi := _) (v := ?_) rfl (by kernel_rfl) (by kernel_rfl) (by kernel_rfl) (by kernel_rfl) (fun _ _ _ h => h) (Or.inl ⟨by rfl, ?_⟩) (by assumption) ?_
        rotate_left
        · intro w0 hSw; obtain ⟨⟨c0, c1, c2, c3, c4, c5, cf, cl⟩, hv8⟩ := hSw; obtain ⟨u0, u1, u2, u3, u4, u5, u6, u7⟩ := hv8.at; go_simp; try with_reducible rfl
        try simp only [Act.put, List.setIfInBounds_toArray, List.set_cons_zero, List.set_cons_succ, List.getElem_toArray, List.getElem_cons_succ, List.getElem_cons_zero]
        refine wpAnyB_pure (i := 4) (oi := _) (v := ?_) rfl (by kernel_rfl) (by kernel_rfl) (by kernel_rfl) (by kernel_rfl) (fun _ _ _ h => h) (Or.inl ⟨by rfl, ?_⟩) (by assumption) ?_
        rotate_left
        · intro w0 _; go_simp; try with_reducible rfl
        try simp only [Act.put, List.setIfInBounds_toArray, List.set_cons_zero, List.set_cons_succ, List.getElem_toArray, List.getElem_cons_succ, List.getElem_cons_zero]
        refine wpAnyB_pure (i := 5) (oi := _) (v := ?_) rfl (by kernel_rfl) (by kernel_rfl) (by kernel_rfl) (by kernel_rfl) (fun _ _ _ h => h) (Or.inl ⟨by rfl, ?_⟩) (by assumption) ?_
        rotate_left
        · intro w0 _; go_simp; try with_reducible rfl
        try simp only [Act.put, List.setIfInBounds_toArray, List.set_cons_zero, List.set_cons_succ, List.getElem_toArray, List.getElem_cons_succ, List.getElem_cons_zero]
        refine wpAnyB_pure (i := 6) (oi := _) (v := ?_) rfl (by kernel_rfl) (by kernel_rfl) (by kernel_rfl) (by kernel_rfl) (fun _ _ _ h => h) (Or.inl ⟨by rfl, ?_⟩) (by assumption) ?_
        rotate_left
        · intro w0 _; go_simp; try with_reducible rfl
        try simp only [Act.put, List.setIfInBounds_toArray, List.set_cons_zero, List.set_cons_succ, List.getElem_toArray, List.getElem_cons_succ, List.getElem_cons_zero]
        refine wpAnyB_take (i := 7) (oi := _) (v := ?_) rfl (by kernel_rfl) (by kernel_rfl) (by kernel_rfl) (by kernel_rfl) (fun _ _ _ h => h) (Or.inl ⟨by rfl, ?_⟩) (by assumption) ?_
        rotate_left
        · intro w0 hSw; obtain ⟨⟨c0, c1, c2, c3, c4, c5, cf, cl⟩, hv8⟩ := hSw; obtain ⟨u0, u1, u2, u3, u4, u5, u6, u7⟩ := hv8.at; go_simp; try with_reducible rfl
        try simp only [Act.put, List.setIfInBounds_toArray, List.set_cons_zero, List.set_cons_succ, List.getElem_toArray, List.getElem_cons_succ, List.getElem_cons_zero]
        refine wpAnyB_ready (rs := [8]) (by kernel_rfl) (by simp) ?_
        refine AllReadyB.cons (o := _) rfl rfl (fun K hK => ?_) AllReadyB.nil
        go_simp
        (go_at_call 49; (with_reducible refine (su1 _ hJd1.bad).mono ?_); rintro e z1 ⟨rfl, hz1⟩)
        have hK1 := hJd1.now hz1
        have hKA1 := (hAd1.other (B := P) (j := 0) (by omega) (.bool (nz F2))).ext hz1
        have hKD1 := (vDd1.other (B := P) (j := 0) (by omega) (.bool (nz F2))).ext hz1
        have hKG1 := (vGd1.other (B := P) (j := 0) (by omega) (.bool (nz F2))).ext hz1
        refine hK.out _ _ ?_ (fun hHeldN => ?_)
        · (try dsimp only); exact ⟨hK1.2.1, hKG1⟩
        clear hK K hHeld
        have hHeld := hHeldN
        clear hHeldN
        try simp only [Act.put, List.setIfInBounds_toArray, List.set_cons_zero, List.set_cons_succ, List.getElem_toArray, List.getElem_cons_succ, List.getElem_cons_zero]
        refine wpAnyB_pure (i := 9) (oi := _) (v := ?_) rfl (by kernel_rfl) (by kernel_rfl) (by kernel_rfl) (by kernel_rfl) (fun _ _ _ h => h) (Or.inl ⟨by rfl, ?_⟩) (by assumption) ?_
        rotate_left
        · intro w0 _; go_simp; try with_reducible rfl
        try simp only [Act.put, List.setIfInBounds_toArray, List.set_cons_zero, List.set_cons_succ, List.getElem_toArray, List.getElem_cons_succ, List.getElem_cons_zero]
        refine wpAnyB_ready (rs := [10]) (by kernel_rfl) (by simp) ?_
        refine AllReadyB.last (o := _) rfl rfl (fun K hK => ?_) AllReadyB.nil
        obtain ⟨c0, c1, c2, c3, c4, c5, cf, cl⟩ := id hKD1
        dsimp only at c0 c1 c2 c3 c4 c5
        go_simp
        refine hK.out _ _ trivial (fun _ => ?_)
        clear hK K
        try simp only [Act.put, List.setIfInBounds_toArray, List.set_cons_zero, List.set_cons_succ, List.getElem_toArray, List.getElem_cons_succ, List.getElem_cons_zero]
        refine wpAnyH_done (by kernel_rfl) ?_ _
        go_wp2_with fail
        refine wp_name fun X2 hY0 => ?_
        have hJ2 : ShI w P sb so ls p F2 X2 := by have e : X2 = _ := hY0; rw [e]; exact (hK1.set (D := G + 1) (by omega) _).set (D := G + 1) (by omega) _
        have hA2 : VB X2 A [a0, a1, a2, a3, a4, a5, a6, a7, a8, a9, a10, a11, a12, a13, a14, a15, a16, a17] := by have e : X2 = _ := hY0; rw [e]; exact (hKA1.other (B := G + 1) (by omega) _).other (B := G + 1) (by omega) _
        have vD2 : V6 X2 (G + 1) ⟨q0, q1, q2, q3, 0, 0⟩ := by have e : X2 = _ := hY0; rw [e]; exact (hKD1.s2 _).s3 _
        have vG2 : V8 X2 G sd := by have e : X2 = _ := hY0; rw [e]; exact (hKG1.other (B := G + 1) (by omega) _).other (B := G + 1) (by omega) _
        clear hY0 hK1 hKA1 hKD1 hKG1 hz1 hJd1 hAd1 vDd1 vGd1 hPd1 hJ1 hA1 vD1 vG1 su1 hHeld
        go_upto_region 13 with fail
        have hJd2 := hJ2.ext ((Ext.refl X2).drew)
        have hAd2 := hA2.ext ((Ext.refl X2).drew)
        have vDd2 := vD2.ext ((Ext.refl X2).drew)
        have vGd2 := vG2.ext ((Ext.refl X2).drew)
        have hPd2 := hJd2.lt
        refine wp_region_till (S := (fun w0 => V6 w0 (w.heap.size + 1) p ∧ V8 w0 G sd)) (fun i => decide (i = 10)) (by kernel_rfl) ?_ (fun hHeld => ?_)
        · exact ⟨hJ2.2.1, vG2⟩
        try simp only [Act.put, List.setIfInBounds_toArray, List.set_cons_zero, List.set_cons_succ, List.getElem_toArray, List.getElem_cons_succ, List.getElem_cons_zero]
        refine wpAnyB_pure (i := 0) (oi := _) (v := ?_) rfl (by kernel_rfl) (by kernel_rfl) (by kernel_rfl) (by kernel_rfl) (fun _ _ _ h => h) (Or.inl ⟨by rfl, ?_⟩) (by assumption) ?_
        rotate_left
        · intro w0 _; go_simp; try with_reducible rfl
        try simp only [Act.put, List.setIfInBounds_toArray, List.set_cons_zero, List.set_cons_succ, List.getElem_toArray, List.getElem_cons_succ, List.getElem_cons_zero]
        refine wpAnyB_pure (i := 1) (oi := _) (v := ?_) rfl (by kernel_rfl) (by kernel_rfl) (by kernel_rfl) (by kernel_rfl) (fun _ _ _ h => h) (Or.inl ⟨by rfl, ?_⟩) (by assumption) ?_
        rotate_left
        · intro w0 _; go_simp; try with_reducible rfl
        try simp only [Act.put, List.setIfInBounds_toArray, List.set_cons_zero, List.set_cons_succ, List.getElem_toArray, List.getElem_cons_succ, List.getElem_cons_zero]
        refine wpAnyB_pure (i := 2) (oi := _) (v := ?_) rfl (by kernel_rfl) (by kernel_rfl) (by kernel_rfl) (by kernel_rfl) (fun _ _ _ h => h) (Or.inl ⟨by rfl, ?_⟩) (by assumption) ?_
        rotate_left
        · intro w0 _; go_simp; try with_reducible rfl
        try simp only [Act.put, List.setIfInBounds_toArray, List.set_cons_zero, List.set_cons_succ, List.getElem_toArray, List.getElem_cons_succ, List.getElem_cons_zero]
        refine wpAnyB_take (i := 3) (oi := _) (v := ?_) rfl (by kernel_rfl) (by kernel_rfl) (by kernel_rfl) (by kernel_rfl) (fun _ _ _ h => h) (Or.inl ⟨by rfl, ?_⟩) (by assumption) ?_
        rotate_left
        · intro w0 hSw; obtain ⟨⟨c0, c1, c2, c3, c4, c5, cf, cl⟩, hv8⟩ := hSw; obtain ⟨u0, u1, u2, u3, u4, u5, u6, u7⟩ := hv8.at; go_simp; try with_reducible rfl
        try simp only [Act.put, List.setIfInBounds_toArray, List.set_cons_zero, List.set_cons_succ, List.getElem_toArray, List.getElem_cons_succ, List.getElem_cons_zero]
        refine wpAnyB_pure (i := 4) (oi := _) (v := ?_) rfl (by kernel_rfl) (by kernel_rfl) (by kernel_rfl) (by kernel_rfl) (fun _ _ _ h => h) (Or.inl ⟨by rfl, ?_⟩) (by assumption) ?_
        rotate_left
        · intro w0 _; go_simp; try with_reducible rfl
        try simp only [Act.put, List.setIfInBounds_toArray, List.set_cons_zero, List.set_cons_succ, List.getElem_toArray, List.getElem_cons_succ, List.getElem_cons_zero]
        refine wpAnyB_pure (i := 5) (oi := _) (v := ?_) rfl (by kernel_rfl) (by kernel_rfl) (by kernel_rfl) (by kernel_rfl) (fun _ _ _ h => h) (Or.inl ⟨by rfl, ?_⟩) (by assumption) ?_
        rotate_left
        · intro w0 _; go_simp; try with_reducible rfl
        try simp only [Act.put, List.setIfInBounds_toArray, List.set_cons_zero, List.set_cons_succ, List.getElem_toArray, List.getElem_cons_succ, List.getElem_cons_zero]
        refine wpAnyB_pure (i := 6) (oi := _) (v := ?_) rfl (by kernel_rfl) (by kernel_rfl) (by kernel_rfl) (by kernel_rfl) (fun _ _ _ h => h) (Or.inl ⟨by rfl, ?_⟩) (by assumption) ?_
        rotate_left
        · intro w0 _; go_simp; try with_reducible rfl
        try simp only [Act.put, List.setIfInBounds_toArray, List.set_cons_zero, List.set_cons_succ, List.getElem_toArray, List.getElem_cons_succ, List.getElem_cons_zero]
        refine wpAnyB_take (i := 7) (oi := _) (v := ?_) rfl (by kernel_rfl) (by kernel_rfl) (by kernel_rfl) (by kernel_rfl) (fun _ _ _ h => h) (Or.inl ⟨by rfl, ?_⟩) (by assumption) ?_
        rotate_left
        · intro w0 hSw; obtain ⟨⟨c0, c1, c2, c3, c4, c5, cf, cl⟩, hv8⟩ := hSw; obtain ⟨u0, u1, u2, u3, u4, u5, u6, u7⟩ := hv8.at; go_simp; try with_reducible rfl
        try simp only [Act.put, List.setIfInBounds_toArray, List.set_cons_zero, List.set_cons_succ, List.getElem_toArray, List.getElem_cons_succ, List.getElem_cons_zero]
        refine wpAnyB_ready (rs := [8]) (by kernel_rfl) (by simp) ?_
        refine AllReadyB.cons (o := _) rfl rfl (fun K hK => ?_) AllReadyB.nil
        go_simp
        (go_at_call 49; (with_reducible refine (su2 _ hJd2.bad).mono ?_); rintro e z2 ⟨rfl, hz2⟩)
        have hK2 := hJd2.now hz2
        have hKA2 := (hAd2.other (B := P) (j := 0) (by omega) (.bool (nz F3))).ext hz2
        have hKD2 := (vDd2.other (B := P) (j := 0) (by omega) (.bool (nz F3))).ext hz2
        have hKG2 := (vGd2.other (B := P) (j := 0) (by omega) (.bool (nz F3))).ext hz2
        refine hK.out _ _ ?_ (fun hHeldN => ?_)
        · (try dsimp only); exact ⟨hK2.2.1, hKG2⟩
        clear hK K hHeld
        have hHeld := hHeldN
        clear hHeldN
        try simp only [Act.put, List.setIfInBounds_toArray, List.set_cons_zero, List.set_cons_succ, List.getElem_toArray, List.getElem_cons_succ, List.getElem_cons_zero]
        refine wpAnyB_pure (i := 9) (oi := _) (v := ?_) rfl (by kernel_rfl) (by kernel_rfl) (by kernel_rfl) (by kernel_rfl) (fun _ _ _ h => h) (Or.inl ⟨by rfl, ?_⟩) (by assumption) ?_
        rotate_left
        · intro w0 _; go_simp; try with_reducible rfl
        try simp only [Act.put, List.setIfInBounds_toArray, List.set_cons_zero, List.set_cons_succ, List.getElem_toArray, List.getElem_cons_succ, List.getElem_cons_zero]
        refine wpAnyB_ready (rs := [10]) (by kernel_rfl) (by simp) ?_
        refine AllReadyB.last (o := _) rfl rfl (fun K hK => ?_) AllReadyB.nil
        obtain ⟨c0, c1, c2, c3, c4, c5, cf, cl⟩ := id hKD2
        dsimp only at c0 c1 c2 c3 c4 c5
        go_simp
        refine hK.out _ _ trivial (fun _ => ?_)
        clear hK K
        try simp only [Act.put, List.setIfInBounds_toArray, List.set_cons_zero, List.set_cons_succ, List.getElem_toArray, List.getElem_cons_succ, List.getElem_cons_zero]
        refine wpAnyH_done (by kernel_rfl) ?_ _
        go_wp2_with fail
        refine wp_name fun X3 hY0 => ?_
        have hJ3 : ShI w P sb so ls p F3 X3 := by have e : X3 = _ := hY0; rw [e]; exact (hK2.set (D := G + 1) (by omega) _).set (D := G + 1) (by omega) _
        have hA3 : VB X3 A [a0, a1, a2, a3, a4, a5, a6, a7, a8, a9, a10, a11, a12, a13, a14, a15, a16, a17] := by have e : X3 = _ := hY0; rw [e]; exact (hKA2.other (B := G + 1) (by omega) _).other (B := G + 1) (by omega) _
        have vD3 : V6 X3 (G + 1) ⟨q0, q1, q2, q3, q4, q5⟩ := by have e : X3 = _ := hY0; rw [e]; exact (hKD2.s4 _).s5 _
        have vG3 : V8 X3 G sd := by have e : X3 = _ := hY0; rw [e]; exact (hKG2.other (B := G + 1) (by omega) _).other (B := G + 1) (by omega) _
        clear hY0 hK2 hKA2 hKD2 hKG2 hz2 hJd2 hAd2 vDd2 vGd2 hPd2 hJ2 hA2 vD2 vG2 su2 hHeld
        obtain ⟨u0, u1, u2, u3, u4, u5, u6, u7⟩ := vG3.at
        obtain ⟨c0, c1, c2, c3, c4, c5, cf, cl⟩ := id vD3
        dsimp only at c0 c1 c2 c3 c4 c5
        go_wp2_with (go_at_call 56; (with_reducible refine (hti _ hJ3.bad).mono ?_); rintro e Y0 ⟨rfl, hb1⟩; have hL0 := hJ3.now hb1; have hM0 := (hA3.other (B := P) (j := 0) (by omega) (.bool (nz D0))).ext hb1)
        clear hJ3 hA3 vD3 vG3 u0 u1 u2 u3 u4 u5 u6 u7 c0 c1 c2 c3 c4 c5 cf cl hb1 hti
        refine wp_loop_rounds 4 ?_
        rw [rounds_succ]
        go_wp2_with fail
        refine wp_loop_rounds 4 ?_
        rw [rounds_succ]
        go_upto_region 21 with fail
        refine wp_name fun V hV0 => ?_
        obtain ⟨T, hT⟩ : ∃ T, Y0.heap.size + 1 = T := ⟨_, rfl⟩
        have tc0 : V.cell? ⟨T, 0, none⟩ = some (.int .i64 t0) := by have e : V = _ := hV0; rw [e, ← hT]; simp [go_sem, ↓IntWalk.iteOmega]
        have tc1 : V.cell? ⟨T, 1, none⟩ = some (.int .i64 t1) := by have e : V = _ := hV0; rw [e, ← hT]; simp [go_sem, ↓IntWalk.iteOmega]
        have eV : Ext Y0 V := Ext.same hV0 (by repeat (first | with_reducible exact Ext.refl _ | with_reducible assumption | with_reducible refine Ext.alloc ?_ _ | with_reducible refine Ext.setCell ?_ (by (try simp only [World.size_alloc, World.size_setCell]); omega) _ | with_reducible refine Ext.drewN ?_ _ | with_reducible refine Ext.drew ?_ | with_reducible refine Ext.trans ?_ (by with_reducible assumption)))
        have eVd : Ext Y0 V.drew := eV.drew
        have hJd := hL0.ext eVd
        have hAd := hM0.ext eVd
        have tT : T < V.heap.size := World.block_lt_of_cell? V _ tc0
        have hAX := hM0.2.2
        have nTP : T ≠ P := by omega
        have nTA : T ≠ A := by omega
        have t0d : V.drew.cell? ⟨T, 0, none⟩ = some (.int .i64 t0) := tc0
        have t1d : V.drew.cell? ⟨T, 1, none⟩ = some (.int .i64 t1) := tc1
        try rw [hT]
        clear hV0
        refine wp_region_till (S := (fun w0 => VB w0 A [a0, a1, a2, a3, a4, a5, a6, a7, a8, a9, a10, a11, a12, a13, a14, a15, a16, a17] ∧ w0.cell? ⟨T, 0, none⟩ = some (.int .i64 t0) ∧ w0.cell? ⟨T, 1, none⟩ = some (.int .i64 t1))) (fun i => decide (i = 11)) (by kernel_rfl) ?_ (fun hHeld => ?_)
        · exact ⟨hM0.ext eVd, tc0, tc1⟩
        try simp only [Act.put, List.setIfInBounds_toArray, List.set_cons_zero, List.set_cons_succ, List.getElem_toArray, List.getElem_cons_succ, List.getElem_cons_zero]
        refine wpAnyB_pure (i := 0) (oi := _) (v := ?_) rfl (by kernel_rfl) (by kernel_rfl) (by kernel_rfl) (by kernel_rfl) (fun _ _ _ h => h) (Or.inl ⟨by rfl, ?_⟩) (by assumption) ?_
        rotate_left
        · intro w0 _; go_simp; try with_reducible rfl
        try simp only [Act.put, List.setIfInBounds_toArray, List.set_cons_zero, List.set_cons_succ, List.getElem_toArray, List.getElem_cons_succ, List.getElem_cons_zero]
        refine wpAnyB_pure (i := 1) (oi := _) (v := ?_) rfl (by kernel_rfl) (by kernel_rfl) (by kernel_rfl) (by kernel_rfl) (fun _ _ _ h => h) (Or.inl ⟨by rfl, ?_⟩) (by assumption) ?_
        rotate_left
        · intro w0 _; go_simp; try with_reducible rfl
        try simp only [Act.put, List.setIfInBounds_toArray, List.set_cons_zero, List.set_cons_succ, List.getElem_toArray, List.getElem_cons_succ, List.getElem_cons_zero]
        refine wpAnyB_pure (i := 2) (oi := _) (v := ?_) rfl (by kernel_rfl) (by kernel_rfl) (by kernel_rfl) (by kernel_rfl) (fun _ _ _ h => h) (Or.inl ⟨by rfl, ?_⟩) (by assumption) ?_
        rotate_left
        · intro w0 _; go_simp; try with_reducible rfl
        try simp only [Act.put, List.setIfInBounds_toArray, List.set_cons_zero, List.set_cons_succ, List.getElem_toArray, List.getElem_cons_succ, List.getElem_cons_zero]
        refine wpAnyB_pure (i := 3) (oi := _) (v := ?_) rfl (by kernel_rfl) (by kernel_rfl) (by kernel_rfl) (by kernel_rfl) (fun _ _ _ h => h) (Or.inl ⟨by rfl, ?_⟩) (by assumption) ?_
        rotate_left
        · intro w0 _; go_simp; try with_reducible rfl
        try simp only [Act.put, List.setIfInBounds_toArray, List.set_cons_zero, List.set_cons_succ, List.getElem_toArray, List.getElem_cons_succ, List.getElem_cons_zero]
        refine wpAnyB_pure (i := 4) (oi := _) (v := ?_) rfl (by kernel_rfl) (by kernel_rfl) (by kernel_rfl) (by kernel_rfl) (fun _ _ _ h => h) (Or.inl ⟨by rfl, ?_⟩) (by assumption) ?_
        rotate_left
        · intro w0 _; go_simp; try with_reducible rfl
        try simp only [Act.put, List.setIfInBounds_toArray, List.set_cons_zero, List.set_cons_succ, List.getElem_toArray, List.getElem_cons_succ, List.getElem_cons_zero]
        refine wpAnyB_pure (i := 5) (oi := _) (v := ?_) rfl (by kernel_rfl) (by kernel_rfl) (by kernel_rfl) (by kernel_rfl) (fun _ _ _ h => h) (Or.inl ⟨by rfl, ?_⟩) (by assumption) ?_
        rotate_left
        · intro w0 _; go_simp; try with_reducible rfl
        try simp only [Act.put, List.setIfInBounds_toArray, List.set_cons_zero, List.set_cons_succ, List.getElem_toArray, List.getElem_cons_succ, List.getElem_cons_zero]
        refine wpAnyB_take (i := 6) (oi := _) (v := ?_) rfl (by kernel_rfl) (by kernel_rfl) (by kernel_rfl) (by kernel_rfl) (fun _ _ _ h => h) (Or.inl ⟨by rfl, ?_⟩) (by assumption) ?_
        rotate_left
        · intro w0 hSw; obtain ⟨⟨hcv, hcf, hcl⟩, u0, u1⟩ := hSw; have cA : w0.cell? ⟨A, 0, none⟩ = some (.int .i64 a0) := hcv 0 a0 rfl; have cB : w0.cell? ⟨A, 1, none⟩ = some (.int .i64 a1) := hcv 1 a1 rfl; go_simp; try with_reducible rfl
        try simp only [Act.put, List.setIfInBounds_toArray, List.set_cons_zero, List.set_cons_succ, List.getElem_toArray, List.getElem_cons_succ, List.getElem_cons_zero]
        refine wpAnyB_take (i := 7) (oi := _) (v := ?_) rfl (by kernel_rfl) (by kernel_rfl) (by kernel_rfl) (by kernel_rfl) (fun _ _ _ h => h) (Or.inl ⟨by rfl, ?_⟩) (by assumption) ?_
        rotate_left
        · intro w0 hSw; obtain ⟨⟨hcv, hcf, hcl⟩, u0, u1⟩ := hSw; have cA : w0.cell? ⟨A, 0, none⟩ = some (.int .i64 a0) := hcv 0 a0 rfl; have cB : w0.cell? ⟨A, 1, none⟩ = some (.int .i64 a1) := hcv 1 a1 rfl; go_simp; try with_reducible rfl
        try simp only [Act.put, List.setIfInBounds_toArray, List.set_cons_zero, List.set_cons_succ, List.getElem_toArray, List.getElem_cons_succ, List.getElem_cons_zero]
        refine wpAnyB_pure (i := 9) (oi := _) (v := ?_) rfl (by kernel_rfl) (by kernel_rfl) (by kernel_rfl) (by kernel_rfl) (fun _ _ _ h => h) (Or.inl ⟨by rfl, ?_⟩) (by assumption) ?_
        rotate_left
        · intro w0 _; go_simp; try with_reducible rfl
        try simp only [Act.put, List.setIfInBounds_toArray, List.set_cons_zero, List.set_cons_succ, List.getElem_toArray, List.getElem_cons_succ, List.getElem_cons_zero]
        refine wpAnyB_ready (rs := [8]) (by kernel_rfl) (by simp) ?_
        refine AllReadyB.cons (o := _) rfl rfl (fun K hK => ?_) AllReadyB.nil
        go_simp
        (go_at_call 48; (with_reducible refine (ad0 _ hJd.bad).mono ?_); rintro e z1 ⟨rfl, hz1⟩)
        have hKJ := hJd.now hz1
        have hKA := (hAd.other (B := P) (j := 0) (by omega) (.bool (nz D1))).ext hz1
        have uz0 : z1.cell? ⟨T, 0, none⟩ = some (.int .i64 t0) := (hz1.cells.1 T 0 (by simpa using tT)).trans (by rw [cell_sc, if_neg (fun h => nTP (by have := congrArg Addr.block h; simpa using this))]; exact t0d)
        have uz1 : z1.cell? ⟨T, 1, none⟩ = some (.int .i64 t1) := (hz1.cells.1 T 1 (by simpa using tT)).trans (by rw [cell_sc, if_neg (fun h => nTP (by have := congrArg Addr.block h; simpa using this))]; exact t1d)
        refine hK.out _ _ ?_ (fun hHeldN => ?_)
        · (try dsimp only); exact ⟨hKA, uz0, uz1⟩
        clear hK K hHeld
        have hHeld := hHeldN
        clear hHeldN
        try simp only [Act.put, List.setIfInBounds_toArray, List.set_cons_zero, List.set_cons_succ, List.getElem_toArray, List.getElem_cons_succ, List.getElem_cons_zero]
        refine wpAnyB_pure (i := 10) (oi := _) (v := ?_) rfl (by kernel_rfl) (by kernel_rfl) (by kernel_rfl) (by kernel_rfl) (fun _ _ _ h => h) (Or.inl ⟨by rfl, ?_⟩) (by assumption) ?_
        rotate_left
        · intro w0 _; go_simp; try with_reducible rfl
        try simp only [Act.put, List.setIfInBounds_toArray, List.set_cons_zero, List.set_cons_succ, List.getElem_toArray, List.getElem_cons_succ, List.getElem_cons_zero]
        refine wpAnyB_ready (rs := [11]) (by kernel_rfl) (by simp) ?_
        refine AllReadyB.last (o := _) rfl rfl (fun K hK => ?_) AllReadyB.nil
        have cA : z1.cell? ⟨A, 0, none⟩ = some (.int .i64 a0) := hKA.1 0 a0 rfl
        have cB : z1.cell? ⟨A, 1, none⟩ = some (.int .i64 a1) := hKA.1 1 a1 rfl
        have cf := hKA.2.1
        go_simp
        refine hK.out _ _ trivial (fun _ => ?_)
        clear hK K
        try simp only [Act.put, List.setIfInBounds_toArray, List.set_cons_zero, List.set_cons_succ, List.getElem_toArray, List.getElem_cons_succ, List.getElem_cons_zero]
        refine wpAnyH_done (by kernel_rfl) ?_ _
        go_wp2_with fail
        refine wp_name fun Y1 hY0 => ?_
        have hM1 : VB Y1 A [n0, n1, a2, a3, a4, a5, a6, a7, a8, a9, a10, a11, a12, a13, a14, a15, a16, a17] := by have e : Y1 = _ := hY0; rw [e]; exact (hKA.set 0 n0 (by simp)).set 1 n1 (by simp)
        have hL1 : ShI w P sb so ls p D1 Y1 := by have e : Y1 = _ := hY0; rw [e]; exact (hKJ.set (D := A) hPA _).set (D := A) hPA _
        clear hY0 cA cB cf hz1 hKJ hKA uz0 uz1 t0d t1d tc0 tc1 eV eVd hJd hAd tT nTP nTA hAX hM0 hL0 ad0 hHeld hT
        go_upto_region 21 with fail
        refine wp_name fun V hV0 => ?_
        obtain ⟨T, hT⟩ : ∃ T, Y1.heap.size = T := ⟨_, rfl⟩
        have tc0 : V.cell? ⟨T, 0, none⟩ = some (.int .i64 t2) := by have e : V = _ := hV0; rw [e, ← hT]; simp [go_sem, ↓IntWalk.iteOmega]
        have tc1 : V.cell? ⟨T, 1, none⟩ = some (.int .i64 t3) := by have e : V = _ := hV0; rw [e, ← hT]; simp [go_sem, ↓IntWalk.iteOmega]
        have eV : Ext Y1 V := Ext.same hV0 (by repeat (first | with_reducible exact Ext.refl _ | with_reducible assumption | with_reducible refine Ext.alloc ?_ _ | with_reducible refine Ext.setCell ?_ (by (try simp only [World.size_alloc, World.size_setCell]); omega) _ | with_reducible refine Ext.drewN ?_ _ | with_reducible refine Ext.drew ?_ | with_reducible refine Ext.trans ?_ (by with_reducible assumption)))
        have eVd : Ext Y1 V.drew := eV.drew
        have hJd := hL1.ext eVd
        have hAd := hM1.ext eVd
        have tT : T < V.heap.size := World.block_lt_of_cell? V _ tc0
        have hAX := hM1.2.2
        have nTP : T ≠ P := by omega
        have nTA : T ≠ A := by omega
        have t0d : V.drew.cell? ⟨T, 0, none⟩ = some (.int .i64 t2) := tc0
        have t1d : V.drew.cell? ⟨T, 1, none⟩ = some (.int .i64 t3) := tc1
        try rw [hT]
        clear hV0
        refine wp_region_till (S := (fun w0 => VB w0 A [n0, n1, a2, a3, a4, a5, a6, a7, a8, a9, a10, a11, a12, a13, a14, a15, a16, a17] ∧ w0.cell? ⟨T, 0, none⟩ = some (.int .i64 t2) ∧ w0.cell? ⟨T, 1, none⟩ = some (.int .i64 t3))) (fun i => decide (i = 11)) (by kernel_rfl) ?_ (fun hHeld => ?_)
        · exact ⟨hM1.ext eVd, tc0, tc1⟩
        try simp only [Act.put, List.setIfInBounds_toArray, List.set_cons_zero, List.set_cons_succ, List.getElem_toArray, List.getElem_cons_succ, List.getElem_cons_zero]
        refine wpAnyB_pure (i := 0) (oi := _) (v := ?_) rfl (by kernel_rfl) (by kernel_rfl) (by kernel_rfl) (by kernel_rfl) (fun _ _ _ h => h) (Or.inl ⟨by rfl, ?_⟩) (by assumption) ?_
        rotate_left
        · intro w0 _; go_simp; try with_reducible rfl
        try simp only [Act.put, List.setIfInBounds_toArray, List.set_cons_zero, List.set_cons_succ, List.getElem_toArray, List.getElem_cons_succ, List.getElem_cons_zero]
        refine wpAnyB_pure (i := 1) (oi := _) (v := ?_) rfl (by kernel_rfl) (by kernel_rfl) (by kernel_rfl) (by kernel_rfl) (fun _ _ _ h => h) (Or.inl ⟨by rfl, ?_⟩) (by assumption) ?_
        rotate_left
        · intro w0 _; go_simp; try with_reducible rfl
        try simp only [Act.put, List.setIfInBounds_toArray, List.set_cons_zero, List.set_cons_succ, List.getElem_toArray, List.getElem_cons_succ, List.getElem_cons_zero]
        refine wpAnyB_pure (i := 2) (oi := _) (v := ?_) rfl (by kernel_rfl) (by kernel_rfl) (by kernel_rfl) (by kernel_rfl) (fun _ _ _ h => h) (Or.inl ⟨by rfl, ?_⟩) (by assumption) ?_
        rotate_left
        · intro w0 _; go_simp; try with_reducible rfl
        try simp only [Act.put, List.setIfInBounds_toArray, List.set_cons_zero, List.set_cons_succ, List.getElem_toArray, List.getElem_cons_succ, List.getElem_cons_zero]
        refine wpAnyB_pure (i := 3) (oi := _) (v := ?_) rfl (by kernel_rfl) (by kernel_rfl) (by kernel_rfl) (by kernel_rfl) (fun _ _ _ h => h) (Or.inl ⟨by rfl, ?_⟩) (by assumption) ?_
        rotate_left
        · intro w0 _; go_simp; try with_reducible rfl
        try simp only [Act.put, List.setIfInBounds_toArray, List.set_cons_zero, List.set_cons_succ, List.getElem_toArray, List.getElem_cons_succ, List.getElem_cons_zero]
        refine wpAnyB_pure (i := 4) (oi := _) (v := ?_) rfl (by kernel_rfl) (by kernel_rfl) (by kernel_rfl) (by kernel_rfl) (fun _ _ _ h => h) (Or.inl ⟨by rfl, ?_⟩) (by assumption) ?_
        rotate_left
        · intro w0 _; go_simp; try with_reducible rfl
        try simp only [Act.put, List.setIfInBounds_toArray, List.set_cons_zero, List.set_cons_succ, List.getElem_toArray, List.getElem_cons_succ, List.getElem_cons_zero]
        refine wpAnyB_pure (i := 5) (oi := _) (v := ?_) rfl (by kernel_rfl) (by kernel_rfl) (by kernel_rfl) (by kernel_rfl) (fun _ _ _ h => h) (Or.inl ⟨by rfl, ?_⟩) (by assumption) ?_
        rotate_left
        · intro w0 _; go_simp; try with_reducible rfl
        try simp only [Act.put, List.setIfInBounds_toArray, List.set_cons_zero, List.set_cons_succ, List.getElem_toArray, List.getElem_cons_succ, List.getElem_cons_zero]
        refine wpAnyB_take (i := 6) (oi := _) (v := ?_) rfl (by kernel_rfl) (by kernel_rfl) (by kernel_rfl) (by kernel_rfl) (fun _ _ _ h => h) (Or.inl ⟨by rfl, ?_⟩) (by assumption) ?_
        rotate_left
        · intro w0 hSw; obtain ⟨⟨hcv, hcf, hcl⟩, u0, u1⟩ := hSw; have cA : w0.cell? ⟨A, 2, none⟩ = some (.int .i64 a2) := hcv 2 a2 rfl; have cB : w0.cell? ⟨A, 3, none⟩ = some (.int .i64 a3) := hcv 3 a3 rfl; go_simp; try with_reducible rfl
        try simp only [Act.put, List.setIfInBounds_toArray, List.set_cons_zero, List.set_cons_succ, List.getElem_toArray, List.getElem_cons_succ, List.getElem_cons_zero]
        refine wpAnyB_take (i := 7) (oi := _) (v := ?_) rfl (by kernel_rfl) (by kernel_rfl) (by kernel_rfl) (by kernel_rfl) (fun _ _ _ h => h) (Or.inl ⟨by rfl, ?_⟩) (by assumption) ?_
        rotate_left
        · intro w0 hSw; obtain ⟨⟨hcv, hcf, hcl⟩, u0, u1⟩ := hSw; have cA : w0.cell? ⟨A, 2, none⟩ = some (.int .i64 a2) := hcv 2 a2 rfl; have cB : w0.cell? ⟨A, 3, none⟩ = some (.int .i64 a3) := hcv 3 a3 rfl; go_simp; try with_reducible rfl
        try simp only [Act.put, List.setIfInBounds_toArray, List.set_cons_zero, List.set_cons_succ, List.getElem_toArray, List.getElem_cons_succ, List.getElem_cons_zero]
        refine wpAnyB_pure (i := 9) (oi := _) (v := ?_) rfl (by kernel_rfl) (by kernel_rfl) (by kernel_rfl) (by kernel_rfl) (fun _ _ _ h => h) (Or.inl ⟨by rfl, ?_⟩) (by assumption) ?_
        rotate_left
        · intro w0 _; go_simp; try with_reducible rfl
        try simp only [Act.put, List.setIfInBounds_toArray, List.set_cons_zero, List.set_cons_succ, List.getElem_toArray, List.getElem_cons_succ, List.getElem_cons_zero]
        refine wpAnyB_ready (rs := [8]) (by kernel_rfl) (by simp) ?_
        refine AllReadyB.cons (o := _) rfl rfl (fun K hK => ?_) AllReadyB.nil
        go_simp
        (go_at_call 48; (with_reducible refine (ad1 _ hJd.bad).mono ?_); rintro e z1 ⟨rfl, hz1⟩)
        have hKJ := hJd.now hz1
        have hKA := (hAd.other (B := P) (j := 0) (by omega) (.bool (nz D2))).ext hz1
        have uz0 : z1.cell? ⟨T, 0, none⟩ = some (.int .i64 t2) := (hz1.cells.1 T 0 (by simpa using tT)).trans (by rw [cell_sc, if_neg (fun h => nTP (by have := congrArg Addr.block h; simpa using this))]; exact t0d)
        have uz1 : z1.cell? ⟨T, 1, none⟩ = some (.int .i64 t3) := (hz1.cells.1 T 1 (by simpa using tT)).trans (by rw [cell_sc, if_neg (fun h => nTP (by have := congrArg Addr.block h; simpa using this))]; exact t1d)
        refine hK.out _ _ ?_ (fun hHeldN => ?_)
        · (try dsimp only); exact ⟨hKA, uz0, uz1⟩
        clear hK K hHeld
        have hHeld := hHeldN
        clear hHeldN
        try simp only [Act.put, List.setIfInBounds_toArray, List.set_cons_zero, List.set_cons_succ, List.getElem_toArray, List.getElem_cons_succ, List.getElem_cons_zero]
        refine wpAnyB_pure (i := 10) (oi := _) (v := ?_) rfl (by kernel_rfl) (by kernel_rfl) (by kernel_rfl) (by kernel_rfl) (fun _ _ _ h => h) (Or.inl ⟨by rfl, ?_⟩) (by assumption) ?_
        rotate_left
        · intro w0 _; go_simp; try with_reducible rfl
        try simp only [Act.put, List.setIfInBounds_toArray, List.set_cons_zero, List.set_cons_succ, List.getElem_toArray, List.getElem_cons_succ, List.getElem_cons_zero]
        refine wpAnyB_ready (rs := [11]) (by kernel_rfl) (by simp) ?_
        refine AllReadyB.last (o := _) rfl rfl (fun K hK => ?_) AllReadyB.nil
        have cA : z1.cell? ⟨A, 2, none⟩ = some (.int .i64 a2) := hKA.1 2 a2 rfl
        have cB : z1.cell? ⟨A, 3, none⟩ = some (.int .i64 a3) := hKA.1 3 a3 rfl
        have cf := hKA.2.1
        go_simp
        refine hK.out _ _ trivial (fun _ => ?_)
        clear hK K
        try simp only [Act.put, List.setIfInBounds_toArray, List.set_cons_zero, List.set_cons_succ, List.getElem_toArray, List.getElem_cons_succ, List.getElem_cons_zero]
        refine wpAnyH_done (by kernel_rfl) ?_ _
        go_wp2_with fail
        refine wp_name fun Y2 hY0 => ?_
        have hM2 : VB Y2 A [n0, n1, n2, n3, a4, a5, a6, a7, a8, a9, a10, a11, a12, a13, a14, a15, a16, a17] := by have e : Y2 = _ := hY0; rw [e]; exact (hKA.set 2 n2 (by simp)).set 3 n3 (by simp)
        have hL2 : ShI w P sb so ls p D2 Y2 := by have e : Y2 = _ := hY0; rw [e]; exact (hKJ.set (D := A) hPA _).set (D := A) hPA _
        clear hY0 cA cB cf hz1 hKJ hKA uz0 uz1 t0d t1d tc0 tc1 eV eVd hJd hAd tT nTP nTA hAX hM1 hL1 ad1 hHeld hT
        go_upto_region 21 with fail
        refine wp_name fun V hV0 => ?_
        obtain ⟨T, hT⟩ : ∃ T, Y2.heap.size = T := ⟨_, rfl⟩
        have tc0 : V.cell? ⟨T, 0, none⟩ = some (.int .i64 t4) := by have e : V = _ := hV0; rw [e, ← hT]; simp [go_sem, ↓IntWalk.iteOmega]
        have tc1 : V.cell? ⟨T, 1, none⟩ = some (.int .i64 t5) := by have e : V = _ := hV0; rw [e, ← hT]; simp [go_sem, ↓IntWalk.iteOmega]
        have eV : Ext Y2 V := Ext.same hV0 (by repeat (first | with_reducible exact Ext.refl _ | with_reducible assumption | with_reducible refine Ext.alloc ?_ _ | with_reducible refine Ext.setCell ?_ (by (try simp only [World.size_alloc, World.size_setCell]); omega) _ | with_reducible refine Ext.drewN ?_ _ | with_reducible refine Ext.drew ?_ | with_reducible refine Ext.trans ?_ (by with_reducible assumption)))
        have eVd : Ext Y2 V.drew := eV.drew
        have hJd := hL2.ext eVd
        have hAd := hM2.ext eVd
        have tT : T < V.heap.size := World.block_lt_of_cell? V _ tc0
        have hAX := hM2.2.2
        have nTP : T ≠ P := by omega
        have nTA : T ≠ A := by omega
        have t0d : V.drew.cell? ⟨T, 0, none⟩ = some (.int .i64 t4) := tc0
        have t1d : V.drew.cell? ⟨T, 1, none⟩ = some (.int .i64 t5) := tc1
        try rw [hT]
        clear hV0
        refine wp_region_till (S := (fun w0 => VB w0 A [n0, n1, n2, n3, a4, a5, a6, a7, a8, a9, a10, a11, a12, a13, a14, a15, a16, a17] ∧ w0.cell? ⟨T, 0, none⟩ = some (.int .i64 t4) ∧ w0.cell? ⟨T, 1, none⟩ = some (.int .i64 t5))) (fun i => decide (i = 11)) (by kernel_rfl) ?_ (fun hHeld => ?_)
        · exact ⟨hM2.ext eVd, tc0, tc1⟩
        try simp only [Act.put, List.setIfInBounds_toArray, List.set_cons_zero, List.set_cons_succ, List.getElem_toArray, List.getElem_cons_succ, List.getElem_cons_zero]
        refine wpAnyB_pure (i := 0) (oi := _) (v := ?_) rfl (by kernel_rfl) (by kernel_rfl) (by kernel_rfl) (by kernel_rfl) (fun _ _ _ h => h) (Or.inl ⟨by rfl, ?_⟩) (by assumption) ?_
        rotate_left
        · intro w0 _; go_simp; try with_reducible rfl
        try simp only [Act.put, List.setIfInBounds_toArray, List.set_cons_zero, List.set_cons_succ, List.getElem_toArray, List.getElem_cons_succ, List.getElem_cons_zero]
        refine wpAnyB_pure (i := 1) (oi := _) (v := ?_) rfl (by kernel_rfl) (by kernel_rfl) (by kernel_rfl) (by kernel_rfl) (fun _ _ _ h => h) (Or.inl ⟨by rfl, ?_⟩) (by assumption) ?_
        rotate_left
        · intro w0 _; go_simp; try with_reducible rfl
        try simp only [Act.put, List.setIfInBounds_toArray, List.set_cons_zero, List.set_cons_succ, List.getElem_toArray, List.getElem_cons_succ, List.getElem_cons_zero]
        refine wpAnyB_pure (i := 2) (oi := _) (v := ?_) rfl (by kernel_rfl) (by kernel_rfl) (by kernel_rfl) (by kernel_rfl) (fun _ _ _ h => h) (Or.inl ⟨by rfl, ?_⟩) (by assumption) ?_
        rotate_left
        · intro w0 _; go_simp; try with_reducible rfl
        try simp only [Act.put, List.setIfInBounds_toArray, List.set_cons_zero, List.set_cons_succ, List.getElem_toArray, List.getElem_cons_succ, List.getElem_cons_zero]
        refine wpAnyB_pure (i := 3) (oi := _) (v := ?_) rfl (by kernel_rfl) (by kernel_rfl) (by kernel_rfl) (by kernel_rfl) (fun _ _ _ h => h) (Or.inl ⟨by rfl, ?_⟩) (by assumption) ?_
        rotate_left
        · intro w0 _; go_simp; try with_reducible rfl
        try simp only [Act.put, List.setIfInBounds_toArray, List.set_cons_zero, List.set_cons_succ, List.getElem_toArray, List.getElem_cons_succ, List.getElem_cons_zero]
        refine wpAnyB_pure (i := 4) (oi := _) (v := ?_) rfl (by kernel_rfl) (by kernel_rfl) (by kernel_rfl) (by kernel_rfl) (fun _ _ _ h => h) (Or.inl ⟨by rfl, ?_⟩) (by assumption) ?_
        rotate_left
        · intro w0 _; go_simp; try with_reducible rfl
        try simp only [Act.put, List.setIfInBounds_toArray, List.set_cons_zero, List.set_cons_succ, List.getElem_toArray, List.getElem_cons_succ, List.getElem_cons_zero]
        refine wpAnyB_pure (i := 5) (oi := _) (v := ?_) rfl (by kernel_rfl) (by kernel_rfl) (by kernel_rfl) (by kernel_rfl) (fun _ _ _ h => h) (Or.inl ⟨by rfl, ?_⟩) (by assumption) ?_
        rotate_left
        · intro w0 _; go_simp; try with_reducible rfl
        try simp only [Act.put, List.setIfInBounds_toArray, List.set_cons_zero, List.set_cons_succ, List.getElem_toArray, List.getElem_cons_succ, List.getElem_cons_zero]
        refine wpAnyB_take (i := 6) (oi := _) (v := ?_) rfl (by kernel_rfl) (by kernel_rfl) (by kernel_rfl) (by kernel_rfl) (fun _ _ _ h => h) (Or.inl ⟨by rfl, ?_⟩) (by assumption) ?_
        rotate_left
        · intro w0 hSw; obtain ⟨⟨hcv, hcf, hcl⟩, u0, u1⟩ := hSw; have cA : w0.cell? ⟨A, 4, none⟩ = some (.int .i64 a4) := hcv 4 a4 rfl; have cB : w0.cell? ⟨A, 5, none⟩ = some (.int .i64 a5) := hcv 5 a5 rfl; go_simp; try with_reducible rfl
        try simp only [Act.put, List.setIfInBounds_toArray, List.set_cons_zero, List.set_cons_succ, List.getElem_toArray, List.getElem_cons_succ, List.getElem_cons_zero]
        refine wpAnyB_take (i := 7) (oi := _) (v := ?_) rfl (by kernel_rfl) (by kernel_rfl) (by kernel_rfl) (by kernel_rfl) (fun _ _ _ h => h) (Or.inl ⟨by rfl, ?_⟩) (by assumption) ?_
        rotate_left
        · intro w0 hSw; obtain ⟨⟨hcv, hcf, hcl⟩, u0, u1⟩ := hSw; have cA : w0.cell? ⟨A, 4, none⟩ = some (.int .i64 a4) := hcv 4 a4 rfl; have cB : w0.cell? ⟨A, 5, none⟩ = some (.int .i64 a5) := hcv 5 a5 rfl; go_simp; try with_reducible rfl
        try simp only [Act.put, List.setIfInBounds_toArray, List.set_cons_zero, List.set_cons_succ, List.getElem_toArray, List.getElem_cons_succ, List.getElem_cons_zero]
        refine wpAnyB_pure (i := 9) (oi := _) (v := ?_) rfl (by kernel_rfl) (by kernel_rfl) (by kernel_rfl) (by kernel_rfl) (fun _ _ _ h => h) (Or.inl ⟨by rfl, ?_⟩) (by assumption) ?_
        rotate_left
        · intro w0 _; go_simp; try with_reducible rfl
        try simp only [Act.put, List.setIfInBounds_toArray, List.set_cons_zero, List.set_cons_succ, List.getElem_toArray, List.getElem_cons_succ, List.getElem_cons_zero]
        refine wpAnyB_ready (rs := [8]) (by kernel_rfl) (by simp) ?_
        refine AllReadyB.cons (o := _) rfl rfl (fun K hK => ?_) AllReadyB.nil
        go_simp
        (go_at_call 48; (with_reducible refine (ad2 _ hJd.bad).mono ?_); rintro e z1 ⟨rfl, hz1⟩)
        have hKJ := hJd.now hz1
        have hKA := (hAd.other (B := P) (j := 0) (by omega) (.bool (nz D3))).ext hz1
        have uz0 : z1.cell? ⟨T, 0, none⟩ = some (.int .i64 t4) := (hz1.cells.1 T 0 (by simpa using tT)).trans (by rw [cell_sc, if_neg (fun h => nTP (by have := congrArg Addr.block h; simpa using this))]; exact t0d)
        have uz1 : z1.cell? ⟨T, 1, none⟩ = some (.int .i64 t5) := (hz1.cells.1 T 1 (by simpa using tT)).trans (by rw [cell_sc, if_neg (fun h => nTP (by have := congrArg Addr.block h; simpa using this))]; exact t1d)
        refine hK.out _ _ ?_ (fun hHeldN => ?_)
        · (try dsimp only); exact ⟨hKA, uz0, uz1⟩
        clear hK K hHeld
        have hHeld := hHeldN
        clear hHeldN
        try simp only [Act.put, List.setIfInBounds_toArray, List.set_cons_zero, List.set_cons_succ, List.getElem_toArray, List.getElem_cons_succ, List.getElem_cons_zero]
        refine wpAnyB_pure (i := 10) (oi := _) (v := ?_) rfl (by kernel_rfl) (by kernel_rfl) (by kernel_rfl) (by kernel_rfl) (fun _ _ _ h => h) (Or.inl ⟨by rfl, ?_⟩) (by assumption) ?_
        rotate_left
        · intro w0 _; go_simp; try with_reducible rfl
        try simp only [Act.put, List.setIfInBounds_toArray, List.set_cons_zero, List.set_cons_succ, List.getElem_toArray, List.getElem_cons_succ, List.getElem_cons_zero]
        refine wpAnyB_ready (rs := [11]) (by kernel_rfl) (by simp) ?_
        refine AllReadyB.last (o := _) rfl rfl (fun K hK => ?_) AllReadyB.nil
        have cA : z1.cell? ⟨A, 4, none⟩ = some (.int .i64 a4) := hKA.1 4 a4 rfl
        have cB : z1.cell? ⟨A, 5, none⟩ = some (.int .i64 a5) := hKA.1 5 a5 rfl
        have cf := hKA.2.1
        go_simp
        refine hK.out _ _ trivial (fun _ => ?_)
        clear hK K
        try simp only [Act.put, List.setIfInBounds_toArray, List.set_cons_zero, List.set_cons_succ, List.getElem_toArray, List.getElem_cons_succ, List.getElem_cons_zero]
        refine wpAnyH_done (by kernel_rfl) ?_ _
        go_wp2_with fail
        refine wp_name fun Y3 hY0 => ?_
        have hM3 : VB Y3 A [n0, n1, n2, n3, n4, n5, a6, a7, a8, a9, a10, a11, a12, a13, a14, a15, a16, a17] := by have e : Y3 = _ := hY0; rw [e]; exact (hKA.set 4 n4 (by simp)).set 5 n5 (by simp)
        have hL3 : ShI w P sb so ls p D3 Y3 := by have e : Y3 = _ := hY0; rw [e]; exact (hKJ.set (D := A) hPA _).set (D := A) hPA _
        clear hY0 cA cB cf hz1 hKJ hKA uz0 uz1 t0d t1d tc0 tc1 eV eVd hJd hAd tT nTP nTA hAX hM2 hL2 ad2 hHeld hT
        go_wp2_with fail
        rw [rounds_succ]
        go_wp2_with fail
        refine wp_loop_rounds 4 ?_
        rw [rounds_succ]
        go_upto_region 21 with fail
        refine wp_name fun V hV0 => ?_
        obtain ⟨T, hT⟩ : ∃ T, Y3.heap.size + 1 = T := ⟨_, rfl⟩
        have tc0 : V.cell? ⟨T, 0, none⟩ = some (.int .i64 t6) := by have e : V = _ := hV0; rw [e, ← hT]; simp [go_sem, ↓IntWalk.iteOmega]
        have tc1 : V.cell? ⟨T, 1, none⟩ = some (.int .i64 t7) := by have e : V = _ := hV0; rw [e, ← hT]; simp [go_sem, ↓IntWalk.iteOmega]
        have eV : Ext Y3 V := Ext.same hV0 (by repeat (first | with_reducible exact Ext.refl _ | with_reducible assumption | with_reducible refine Ext.alloc ?_ _ | with_reducible refine Ext.setCell ?_ (by (try simp only [World.size_alloc, World.size_setCell]); omega) _ | with_reducible refine Ext.drewN ?_ _ | with_reducible refine Ext.drew ?_ | with_reducible refine Ext.trans ?_ (by with_reducible assumption)))
        have eVd : Ext Y3 V.drew := eV.drew
        have hJd := hL3.ext eVd
        have hAd := hM3.ext eVd
        have tT : T < V.heap.size := World.block_lt_of_cell? V _ tc0
        have hAX := hM3.2.2
        have nTP : T ≠ P := by omega
        have nTA : T ≠ A := by omega
        have t0d : V.drew.cell? ⟨T, 0, none⟩ = some (.int .i64 t6) := tc0
        have t1d : V.drew.cell? ⟨T, 1, none⟩ = some (.int .i64 t7) := tc1
        try rw [hT]
        clear hV0
        refine wp_region_till (S := (fun w0 => VB w0 A [n0, n1, n2, n3, n4, n5, a6, a7, a8, a9, a10, a11, a12, a13, a14, a15, a16, a17] ∧ w0.cell? ⟨T, 0, none⟩ = some (.int .i64 t6) ∧ w0.cell? ⟨T, 1, none⟩ = some (.int .i64 t7))) (fun i => decide (i = 11)) (by kernel_rfl) ?_ (fun hHeld => ?_)
        · exact ⟨hM3.ext eVd, tc0, tc1⟩
        try simp only [Act.put, List.setIfInBounds_toArray, List.set_cons_zero, List.set_cons_succ, List.getElem_toArray, List.getElem_cons_succ, List.getElem_cons_zero]
        refine wpAnyB_pure (i := 0) (oi := _) (v := ?_) rfl (by kernel_rfl) (by kernel_rfl) (by kernel_rfl) (by kernel_rfl) (fun _ _ _ h => h) (Or.inl ⟨by rfl, ?_⟩) (by assumption) ?_
        rotate_left
        · intro w0 _; go_simp; try with_reducible rfl
        try simp only [Act.put, List.setIfInBounds_toArray, List.set_cons_zero, List.set_cons_succ, List.getElem_toArray, List.getElem_cons_succ, List.getElem_cons_zero]
        refine wpAnyB_pure (i := 1) (oi := _) (v := ?_) rfl (by kernel_rfl) (by kernel_rfl) (by kernel_rfl) (by kernel_rfl) (fun _ _ _ h => h) (Or.inl ⟨by rfl, ?_⟩) (by assumption) ?_
        rotate_left
        · intro w0 _; go_simp; try with_reducible rfl
        try simp only [Act.put, List.setIfInBounds_toArray, List.set_cons_zero, List.set_cons_succ, List.getElem_toArray, List.getElem_cons_succ, List.getElem_cons_zero]
        refine wpAnyB_pure (i := 2) (oi := _) (v := ?_) rfl (by kernel_rfl) (by kernel_rfl) (by kernel_rfl) (by kernel_rfl) (fun _ _ _ h => h) (Or.inl ⟨by rfl, ?_⟩) (by assumption) ?_
        rotate_left
        · intro w0 _; go_simp; try with_reducible rfl
        try simp only [Act.put, List.setIfInBounds_toArray, List.set_cons_zero, List.set_cons_succ, List.getElem_toArray, List.getElem_cons_succ, List.getElem_cons_zero]
        refine wpAnyB_pure (i := 3) (oi := _) (v := ?_) rfl (by kernel_rfl) (by kernel_rfl) (by kernel_rfl) (by kernel_rfl) (fun _ _ _ h => h) (Or.inl ⟨by rfl, ?_⟩) (by assumption) ?_
        rotate_left
        · intro w0 _; go_simp; try with_reducible rfl
        try simp only [Act.put, List.setIfInBounds_toArray, List.set_cons_zero, List.set_cons_succ, List.getElem_toArray, List.getElem_cons_succ, List.getElem_cons_zero]
        refine wpAnyB_pure (i := 4) (oi := _) (v := ?_) rfl (by kernel_rfl) (by kernel_rfl) (by kernel_rfl) (by kernel_rfl) (fun _ _ _ h => h) (Or.inl ⟨by rfl, ?_⟩) (by assumption) ?_
        rotate_left
        · intro w0 _; go_simp; try with_reducible rfl
        try simp only [Act.put, List.setIfInBounds_toArray, List.set_cons_zero, List.set_cons_succ, List.getElem_toArray, List.getElem_cons_succ, List.getElem_cons_zero]
        refine wpAnyB_pure (i := 5) (oi := _) (v := ?_) rfl (by kernel_rfl) (by kernel_rfl) (by kernel_rfl) (by kernel_rfl) (fun _ _ _ h => h) (Or.inl ⟨by rfl, ?_⟩) (by assumption) ?_
        rotate_left
        · intro w0 _; go_simp; try with_reducible rfl
        try simp only [Act.put, List.setIfInBounds_toArray, List.set_cons_zero, List.set_cons_succ, List.getElem_toArray, List.getElem_cons_succ, List.getElem_cons_zero]
        refine wpAnyB_take (i := 6) (oi := _) (v := ?_) rfl (by kernel_rfl) (by kernel_rfl) (by kernel_rfl) (by kernel_rfl) (fun _ _ _ h => h) (Or.inl ⟨by rfl, ?_⟩) (by assumption) ?_
        rotate_left
        · intro w0 hSw; obtain ⟨⟨hcv, hcf, hcl⟩, u0, u1⟩ := hSw; have cA : w0.cell? ⟨A, 6, none⟩ = some (.int .i64 a6) := hcv 6 a6 rfl; have cB : w0.cell? ⟨A, 7, none⟩ = some (.int .i64 a7) := hcv 7 a7 rfl; go_simp; try with_reducible rfl
        try simp only [Act.put, List.setIfInBounds_toArray, List.set_cons_zero, List.set_cons_succ, List.getElem_toArray, List.getElem_cons_succ, List.getElem_cons_zero]
        refine wpAnyB_take (i := 7) (oi := _) (v := ?_) rfl (by kernel_rfl) (by kernel_rfl) (by kernel_rfl) (by kernel_rfl) (fun _ _ _ h => h) (Or.inl ⟨by rfl, ?_⟩) (by assumption) ?_
        rotate_left
        · intro w0 hSw; obtain ⟨⟨hcv, hcf, hcl⟩, u0, u1⟩ := hSw; have cA : w0.cell? ⟨A, 6, none⟩ = some (.int .i64 a6) := hcv 6 a6 rfl; have cB : w0.cell? ⟨A, 7, none⟩ = some (.int .i64 a7) := hcv 7 a7 rfl; go_simp; try with_reducible rfl
        try simp only [Act.put, List.setIfInBounds_toArray, List.set_cons_zero, List.set_cons_succ, List.getElem_toArray, List.getElem_cons_succ, List.getElem_cons_zero]
        refine wpAnyB_pure (i := 9) (oi := _) (v := ?_) rfl (by kernel_rfl) (by kernel_rfl) (by kernel_rfl) (by kernel_rfl) (fun _ _ _ h => h) (Or.inl ⟨by rfl, ?_⟩) (by assumption) ?_
        rotate_left
        · intro w0 _; go_simp; try with_reducible rfl
        try simp only [Act.put, List.setIfInBounds_toArray, List.set_cons_zero, List.set_cons_succ, List.getElem_toArray, List.getElem_cons_succ, List.getElem_cons_zero]
        refine wpAnyB_ready (rs := [8]) (by kernel_rfl) (by simp) ?_
        refine AllReadyB.cons (o := _) rfl rfl (fun K hK => ?_) AllReadyB.nil
        go_simp
        (go_at_call 48; (with_reducible refine (ad3 _ hJd.bad).mono ?_); rintro e z1 ⟨rfl, hz1⟩)
        have hKJ := hJd.now hz1
        have hKA := (hAd.other (B := P) (j := 0) (by omega) (.bool (nz D4))).ext hz1
        have uz0 : z1.cell? ⟨T, 0, none⟩ = some (.int .i64 t6) := (hz1.cells.1 T 0 (by simpa using tT)).trans (by rw [cell_sc, if_neg (fun h => nTP (by have := congrArg Addr.block h; simpa using this))]; exact t0d)
        have uz1 : z1.cell? ⟨T, 1, none⟩ = some (.int .i64 t7) := (hz1.cells.1 T 1 (by simpa using tT)).trans (by rw [cell_sc, if_neg (fun h => nTP (by have := congrArg Addr.block h; simpa using this))]; exact t1d)
        refine hK.out _ _ ?_ (fun hHeldN => ?_)
        · (try dsimp only); exact ⟨hKA, uz0, uz1⟩
        clear hK K hHeld
        have hHeld := hHeldN
        clear hHeldN
        try simp only [Act.put, List.setIfInBounds_toArray, List.set_cons_zero, List.set_cons_succ, List.getElem_toArray, List.getElem_cons_succ, List.getElem_cons_zero]
        refine wpAnyB_pure (i := 10) (oi := _) (v := ?_) rfl (by kernel_rfl) (by kernel_rfl) (by kernel_rfl) (by kernel_rfl) (fun _ _ _ h => h) (Or.inl ⟨by rfl, ?_⟩) (by assumption) ?_
        rotate_left
        · intro w0 _; go_simp; try with_reducible rfl
        try simp only [Act.put, List.setIfInBounds_toArray, List.set_cons_zero, List.set_cons_succ, List.getElem_toArray, List.getElem_cons_succ, List.getElem_cons_zero]
        refine wpAnyB_ready (rs := [11]) (by kernel_rfl) (by simp) ?_
        refine AllReadyB.last (o := _) rfl rfl (fun K hK => ?_) AllReadyB.nil
        have cA : z1.cell? ⟨A, 6, none⟩ = some (.int .i64 a6) := hKA.1 6 a6 rfl
        have cB : z1.cell? ⟨A, 7, none⟩ = some (.int .i64 a7) := hKA.1 7 a7 rfl
        have cf := hKA.2.1
        go_simp
        refine hK.out _ _ trivial (fun _ => ?_)
        clear hK K
        try simp only [Act.put, List.setIfInBounds_toArray, List.set_cons_zero, List.set_cons_succ, List.getElem_toArray, List.getElem_cons_succ, List.getElem_cons_zero]
        refine wpAnyH_done (by kernel_rfl) ?_ _
        go_wp2_with fail
        refine wp_name fun Y4 hY0 => ?_
        have hM4 : VB Y4 A [n0, n1, n2, n3, n4, n5, n6, n7, a8, a9, a10, a11, a12, a13, a14, a15, a16, a17] := by have e : Y4 = _ := hY0; rw [e]; exact (hKA.set 6 n6 (by simp)).set 7 n7 (by simp)
        have hL4 : ShI w P sb so ls p D4 Y4 := by have e : Y4 = _ := hY0; rw [e]; exact (hKJ.set (D := A) hPA _).set (D := A) hPA _
        clear hY0 cA cB cf hz1 hKJ hKA uz0 uz1 t0d t1d tc0 tc1 eV eVd hJd hAd tT nTP nTA hAX hM3 hL3 ad3 hHeld hT
        go_upto_region 21 with fail
        refine wp_name fun V hV0 => ?_
        obtain ⟨T, hT⟩ : ∃ T, Y4.heap.size = T := ⟨_, rfl⟩
        have tc0 : V.cell? ⟨T, 0, none⟩ = some (.int .i64 t8) := by have e : V = _ := hV0; rw [e, ← hT]; simp [go_sem, ↓IntWalk.iteOmega]
        have tc1 : V.cell? ⟨T, 1, none⟩ = some (.int .i64 t9) := by have e : V = _ := hV0; rw [e, ← hT]; simp [go_sem, ↓IntWalk.iteOmega]
        have eV : Ext Y4 V := Ext.same hV0 (by repeat (first | with_reducible exact Ext.refl _ | with_reducible assumption | with_reducible refine Ext.alloc ?_ _ | with_reducible refine Ext.setCell ?_ (by (try simp only [World.size_alloc, World.size_setCell]); omega) _ | with_reducible refine Ext.drewN ?_ _ | with_reducible refine Ext.drew ?_ | with_reducible refine Ext.trans ?_ (by with_reducible assumption)))
        have eVd : Ext Y4 V.drew := eV.drew
        have hJd := hL4.ext eVd
        have hAd := hM4.ext eVd
        have tT : T < V.heap.size := World.block_lt_of_cell? V _ tc0
        have hAX := hM4.2.2
        have nTP : T ≠ P := by omega
        have nTA : T ≠ A := by omega
        have t0d : V.drew.cell? ⟨T, 0, none⟩ = some (.int .i64 t8) := tc0
        have t1d : V.drew.cell? ⟨T, 1, none⟩ = some (.int .i64 t9) := tc1
        try rw [hT]
        clear hV0
        refine wp_region_till (S := (fun w0 => VB w0 A [n0, n1, n2, n3, n4, n5, n6, n7, a8, a9, a10, a11, a12, a13, a14, a15, a16, a17] ∧ w0.cell? ⟨T, 0, none⟩ = some (.int .i64 t8) ∧ w0.cell? ⟨T, 1, none⟩ = some (.int .i64 t9))) (fun i => decide (i = 11)) (by kernel_rfl) ?_ (fun hHeld => ?_)
        · exact ⟨hM4.ext eVd, tc0, tc1⟩
        try simp only [Act.put, List.setIfInBounds_toArray, List.set_cons_zero, List.set_cons_succ, List.getElem_toArray, List.getElem_cons_succ, List.getElem_cons_zero]
        refine wpAnyB_pure (i := 0) (oi := _) (v := ?_) rfl (by kernel_rfl) (by kernel_rfl) (by kernel_rfl) (by kernel_rfl) (fun _ _ _ h => h) (Or.inl ⟨by rfl, ?_⟩) (by assumption) ?_
        rotate_left
        · intro w0 _; go_simp; try with_reducible rfl
        try simp only [Act.put, List.setIfInBounds_toArray, List.set_cons_zero, List.set_cons_succ, List.getElem_toArray, List.getElem_cons_succ, List.getElem_cons_zero]
        refine wpAnyB_pure (i := 1) (oi := _) (v := ?_) rfl (by kernel_rfl) (by kernel_rfl) (by kernel_rfl) (by kernel_rfl) (fun _ _ _ h => h) (Or.inl ⟨by rfl, ?_⟩) (by assumption) ?_
        rotate_left
        · intro w0 _; go_simp; try with_reducible rfl
        try simp only [Act.put, List.setIfInBounds_toArray, List.set_cons_zero, List.set_cons_succ, List.getElem_toArray, List.getElem_cons_succ, List.getElem_cons_zero]
        refine wpAnyB_pure (i := 2) (oi := _) (v := ?_) rfl (by kernel_rfl) (by kernel_rfl) (by kernel_rfl) (by kernel_rfl) (fun _ _ _ h => h) (Or.inl ⟨by rfl, ?_⟩) (by assumption) ?_
        rotate_left
        · intro w0 _; go_simp; try with_reducible rfl
        try simp only [Act.put, List.setIfInBounds_toArray, List.set_cons_zero, List.set_cons_succ, List.getElem_toArray, List.getElem_cons_succ, List.getElem_cons_zero]
        refine wpAnyB_pure (i := 3) (oi := _) (v := ?_) rfl (by kernel_rfl) (by kernel_rfl) (by kernel_rfl) (by kernel_rfl) (fun _ _ _ h => h) (Or.inl ⟨by rfl, ?_⟩) (by assumption) ?_
        rotate_left
        · intro w0 _; go_simp; try with_reducible rfl
        try simp only [Act.put, List.setIfInBounds_toArray, List.set_cons_zero, List.set_cons_succ, List.getElem_toArray, List.getElem_cons_succ, List.getElem_cons_zero]
        refine wpAnyB_pure (i := 4) (oi := _) (v := ?_) rfl (by kernel_rfl) (by kernel_rfl) (by kernel_rfl) (by kernel_rfl) (fun _ _ _ h => h) (Or.inl ⟨by rfl, ?_⟩) (by assumption) ?_
        rotate_left
        · intro w0 _; go_simp; try with_reducible rfl
        try simp only [Act.put, List.setIfInBounds_toArray, List.set_cons_zero, List.set_cons_succ, List.getElem_toArray, List.getElem_cons_succ, List.getElem_cons_zero]
        refine wpAnyB_pure (i := 5) (oi := _) (v := ?_) rfl (by kernel_rfl) (by kernel_rfl) (by kernel_rfl) (by kernel_rfl) (fun _ _ _ h => h) (Or.inl ⟨by rfl, ?_⟩) (by assumption) ?_
        rotate_left
        · intro w0 _; go_simp; try with_reducible rfl
        try simp only [Act.put, List.setIfInBounds_toArray, List.set_cons_zero, List.set_cons_succ, List.getElem_toArray, List.getElem_cons_succ, List.getElem_cons_zero]
        refine wpAnyB_take (i := 6) (oi := _) (v := ?_) rfl (by kernel_rfl) (by kernel_rfl) (by kernel_rfl) (by kernel_rfl) (fun _ _ _ h => h) (Or.inl ⟨by rfl, ?_⟩) (by assumption) ?_
        rotate_left
        · intro w0 hSw; obtain ⟨⟨hcv, hcf, hcl⟩, u0, u1⟩ := hSw; have cA : w0.cell? ⟨A, 8, none⟩ = some (.int .i64 a8) := hcv 8 a8 rfl; have cB : w0.cell? ⟨A, 9, none⟩ = some (.int .i64 a9) := hcv 9 a9 rfl; go_simp; try with_reducible rfl
        try simp only [Act.put, List.setIfInBounds_toArray, List.set_cons_zero, List.set_cons_succ, List.getElem_toArray, List.getElem_cons_succ, List.getElem_cons_zero]
        refine wpAnyB_take (i := 7) (oi := _) (v := ?_) rfl (by kernel_rfl) (by kernel_rfl) (by kernel_rfl) (by kernel_rfl) (fun _ _ _ h => h) (Or.inl ⟨by rfl, ?_⟩) (by assumption) ?_
        rotate_left
        · intro w0 hSw; obtain ⟨⟨hcv, hcf, hcl⟩, u0, u1⟩ := hSw; have cA : w0.cell? ⟨A, 8, none⟩ = some (.int .i64 a8) := hcv 8 a8 rfl; have cB : w0.cell? ⟨A, 9, none⟩ = some (.int .i64 a9) := hcv 9 a9 rfl; go_simp; try with_reducible rfl
        try simp only [Act.put, List.setIfInBounds_toArray, List.set_cons_zero, List.set_cons_succ, List.getElem_toArray, List.getElem_cons_succ, List.getElem_cons_zero]
        refine wpAnyB_pure (i := 9) (oi := _) (v := ?_) rfl (by kernel_rfl) (by kernel_rfl) (by kernel_rfl) (by kernel_rfl) (fun _ _ _ h => h) (Or.inl ⟨by rfl, ?_⟩) (by assumption) ?_
        rotate_left
        · intro w0 _; go_simp; try with_reducible rfl
        try simp only [Act.put, List.setIfInBounds_toArray, List.set_cons_zero, List.set_cons_succ, List.getElem_toArray, List.getElem_cons_succ, List.getElem_cons_zero]
        refine wpAnyB_ready (rs := [8]) (by kernel_rfl) (by simp) ?_
        refine AllReadyB.cons (o := _) rfl rfl (fun K hK => ?_) AllReadyB.nil
        go_simp
        (go_at_call 48; (with_reducible refine (ad4 _ hJd.bad).mono ?_); rintro e z1 ⟨rfl, hz1⟩)
        have hKJ := hJd.now hz1
        have hKA := (hAd.other (B := P) (j := 0) (by omega) (.bool (nz D5))).ext hz1
        have uz0 : z1.cell? ⟨T, 0, none⟩ = some (.int .i64 t8) := (hz1.cells.1 T 0 (by simpa using tT)).trans (by rw [cell_sc, if_neg (fun h => nTP (by have := congrArg Addr.block h; simpa using this))]; exact t0d)
        have uz1 : z1.cell? ⟨T, 1, none⟩ = some (.int .i64 t9) := (hz1.cells.1 T 1 (by simpa using tT)).trans (by rw [cell_sc, if_neg (fun h => nTP (by have := congrArg Addr.block h; simpa using this))]; exact t1d)
        refine hK.out _ _ ?_ (fun hHeldN => ?_)
        · (try dsimp only); exact ⟨hKA, uz0, uz1⟩
        clear hK K hHeld
        have hHeld := hHeldN
        clear hHeldN
        try simp only [Act.put, List.setIfInBounds_toArray, List.set_cons_zero, List.set_cons_succ, List.getElem_toArray, List.getElem_cons_succ, List.getElem_cons_zero]
        refine wpAnyB_pure (i := 10) (oi := _) (v := ?_) rfl (by kernel_rfl) (by kernel_rfl) (by kernel_rfl) (by kernel_rfl) (fun _ _ _ h => h) (Or.inl ⟨by rfl, ?_⟩) (by assumption) ?_
        rotate_left
        · intro w0 _; go_simp; try with_reducible rfl
        try simp only [Act.put, List.setIfInBounds_toArray, List.set_cons_zero, List.set_cons_succ, List.getElem_toArray, List.getElem_cons_succ, List.getElem_cons_zero]
        refine wpAnyB_ready (rs := [11]) (by kernel_rfl) (by simp) ?_
        refine AllReadyB.last (o := _) rfl rfl (fun K hK => ?_) AllReadyB.nil
        have cA : z1.cell? ⟨A, 8, none⟩ = some (.int .i64 a8) := hKA.1 8 a8 rfl
        have cB : z1.cell? ⟨A, 9, none⟩ = some (.int .i64 a9) := hKA.1 9 a9 rfl
        have cf := hKA.2.1
        go_simp
        refine hK.out _ _ trivial (fun _ => ?_)
        clear hK K
        try simp only [Act.put, List.setIfInBounds_toArray, List.set_cons_zero, List.set_cons_succ, List.getElem_toArray, List.getElem_cons_succ, List.getElem_cons_zero]
        refine wpAnyH_done (by kernel_rfl) ?_ _
        go_wp2_with fail
        refine wp_name fun Y5 hY0 => ?_
        have hM5 : VB Y5 A [n0, n1, n2, n3, n4, n5, n6, n7, n8, n9, a10, a11, a12, a13, a14, a15, a16, a17] := by have e : Y5 = _ := hY0; rw [e]; exact (hKA.set 8 n8 (by simp)).set 9 n9 (by simp)
        have hL5 : ShI w P sb so ls p D5 Y5 := by have e : Y5 = _ := hY0; rw [e]; exact (hKJ.set (D := A) hPA _).set (D := A) hPA _
        clear hY0 cA cB cf hz1 hKJ hKA uz0 uz1 t0d t1d tc0 tc1 eV eVd hJd hAd tT nTP nTA hAX hM4 hL4 ad4 hHeld hT
        go_upto_region 21 with fail
        refine wp_name fun V hV0 => ?_
        obtain ⟨T, hT⟩ : ∃ T, Y5.heap.size = T := ⟨_, rfl⟩
        have tc0 : V.cell? ⟨T, 0, none⟩ = some (.int .i64 t10) := by have e : V = _ := hV0; rw [e, ← hT]; simp [go_sem, ↓IntWalk.iteOmega]
        have tc1 : V.cell? ⟨T, 1, none⟩ = some (.int .i64 t11) := by have e : V = _ := hV0; rw [e, ← hT]; simp [go_sem, ↓IntWalk.iteOmega]
        have eV : Ext Y5 V := Ext.same hV0 (by repeat (first | with_reducible exact Ext.refl _ | with_reducible assumption | with_reducible refine Ext.alloc ?_ _ | with_reducible refine Ext.setCell ?_ (by (try simp only [World.size_alloc, World.size_setCell]); omega) _ | with_reducible refine Ext.drewN ?_ _ | with_reducible refine Ext.drew ?_ | with_reducible refine Ext.trans ?_ (by with_reducible assumption)))
        have eVd : Ext Y5 V.drew := eV.drew
        have hJd := hL5.ext eVd
        have hAd := hM5.ext eVd
        have tT : T < V.heap.size := World.block_lt_of_cell? V _ tc0
        have hAX := hM5.2.2
        have nTP : T ≠ P := by omega
        have nTA : T ≠ A := by omega
        have t0d : V.drew.cell? ⟨T, 0, none⟩ = some (.int .i64 t10) := tc0
        have t1d : V.drew.cell? ⟨T, 1, none⟩ = some (.int .i64 t11) := tc1
        try rw [hT]
        clear hV0
        refine wp_region_till (S := (fun w0 => VB w0 A [n0, n1, n2, n3, n4, n5, n6, n7, n8, n9, a10, a11, a12, a13, a14, a15, a16, a17] ∧ w0.cell? ⟨T, 0, none⟩ = some (.int .i64 t10) ∧ w0.cell? ⟨T, 1, none⟩ = some (.int .i64 t11))) (fun i => decide (i = 11)) (by kernel_rfl) ?_ (fun hHeld => ?_)
        · exact ⟨hM5.ext eVd, tc0, tc1⟩
        try simp only [Act.put, List.setIfInBounds_toArray, List.set_cons_zero, List.set_cons_succ, List.getElem_toArray, List.getElem_cons_succ, List.getElem_cons_zero]
        refine wpAnyB_pure (i := 0) (oi := _) (v := ?_) rfl (by kernel_rfl) (by kernel_rfl) (by kernel_rfl) (by kernel_rfl) (fun _ _ _ h => h) (Or.inl ⟨by rfl, ?_⟩) (by assumption) ?_
        rotate_left
        · intro w0 _; go_simp; try with_reducible rfl
        try simp only [Act.put, List.setIfInBounds_toArray, List.set_cons_zero, List.set_cons_succ, List.getElem_toArray, List.getElem_cons_succ, List.getElem_cons_zero]
        refine wpAnyB_pure (i := 1) (oi := _) (v := ?_) rfl (by kernel_rfl) (by kernel_rfl) (by kernel_rfl) (by kernel_rfl) (fun _ _ _ h => h) (Or.inl ⟨by rfl, ?_⟩) (by assumption) ?_
        rotate_left
        · intro w0 _; go_simp; try with_reducible rfl
        try simp only [Act.put, List.setIfInBounds_toArray, List.set_cons_zero, List.set_cons_succ, List.getElem_toArray, List.getElem_cons_succ, List.getElem_cons_zero]
        refine wpAnyB_pure (i := 2) (oi := _) (v := ?_) rfl (by kernel_rfl) (by kernel_rfl) (by kernel_rfl) (by kernel_rfl) (fun _ _ _ h => h) (Or.inl ⟨by rfl, ?_⟩) (by assumption) ?_
        rotate_left
        · intro w0 _; go_simp; try with_reducible rfl
        try simp only [Act.put, List.setIfInBounds_toArray, List.set_cons_zero, List.set_cons_succ, List.getElem_toArray, List.getElem_cons_succ, List.getElem_cons_zero]
        refine wpAnyB_pure (i := 3) (oi := _) (v := ?_) rfl (by kernel_rfl) (by kernel_rfl) (by kernel_rfl) (by kernel_rfl) (fun _ _ _ h => h) (Or.inl ⟨by rfl, ?_⟩) (by assumption) ?_
        rotate_left
        · intro w0 _; go_simp; try with_reducible rfl
        try simp only [Act.put, List.setIfInBounds_toArray, List.set_cons_zero, List.set_cons_succ, List.getElem_toArray, List.getElem_cons_succ, List.getElem_cons_zero]
        refine wpAnyB_pure (i := 4) (oi := _) (v := ?_) rfl (by kernel_rfl) (by kernel_rfl) (by kernel_rfl) (by kernel_rfl) (fun _ _ _ h => h) (Or.inl ⟨by rfl, ?_⟩) (by assumption) ?_
        rotate_left
        · intro w0 _; go_simp; try with_reducible rfl
        try simp only [Act.put, List.setIfInBounds_toArray, List.set_cons_zero, List.set_cons_succ, List.getElem_toArray, List.getElem_cons_succ, List.getElem_cons_zero]
        refine wpAnyB_pure (i := 5) (oi := _) (v := ?_) rfl (by kernel_rfl) (by kernel_rfl) (by kernel_rfl) (by kernel_rfl) (fun _ _ _ h => h) (Or.inl ⟨by rfl, ?_⟩) (by assumption) ?_
        rotate_left
        · intro w0 _; go_simp; try with_reducible rfl
        try simp only [Act.put, List.setIfInBounds_toArray, List.set_cons_zero, List.set_cons_succ, List.getElem_toArray, List.getElem_cons_succ, List.getElem_cons_zero]
        refine wpAnyB_take (i := 6) (oi := _) (v := ?_) rfl (by kernel_rfl) (by kernel_rfl) (by kernel_rfl) (by kernel_rfl) (fun _ _ _ h => h) (Or.inl ⟨by rfl, ?_⟩) (by assumption) ?_
        rotate_left
        · intro w0 hSw; obtain ⟨⟨hcv, hcf, hcl⟩, u0, u1⟩ := hSw; have cA : w0.cell? ⟨A, 10, none⟩ = some (.int .i64 a10) := hcv 10 a10 rfl; have cB : w0.cell? ⟨A, 11, none⟩ = some (.int .i64 a11) := hcv 11 a11 rfl; go_simp; try with_reducible rfl
        try simp only [Act.put, List.setIfInBounds_toArray, List.set_cons_zero, List.set_cons_succ, List.getElem_toArray, List.getElem_cons_succ, List.getElem_cons_zero]
        refine wpAnyB_take (i := 7) (oi := _) (v := ?_) rfl (by kernel_rfl) (by kernel_rfl) (by kernel_rfl) (by kernel_rfl) (fun _ _ _ h => h) (Or.inl ⟨by rfl, ?_⟩) (by assumption) ?_
        rotate_left
        · intro w0 hSw; obtain ⟨⟨hcv, hcf, hcl⟩, u0, u1⟩ := hSw; have cA : w0.cell? ⟨A, 10, none⟩ = some (.int .i64 a10) := hcv 10 a10 rfl; have cB : w0.cell? ⟨A, 11, none⟩ = some (.int .i64 a11) := hcv 11 a11 rfl; go_simp; try with_reducible rfl
        try simp only [Act.put, List.setIfInBounds_toArray, List.set_cons_zero, List.set_cons_succ, List.getElem_toArray, List.getElem_cons_succ, List.getElem_cons_zero]
        refine wpAnyB_pure (i := 9) (oi := _) (v := ?_) rfl (by kernel_rfl) (by kernel_rfl) (by kernel_rfl) (by kernel_rfl) (fun _ _ _ h => h) (Or.inl ⟨by rfl, ?_⟩) (by assumption) ?_
        rotate_left
        · intro w0 _; go_simp; try with_reducible rfl
        try simp only [Act.put, List.setIfInBounds_toArray, List.set_cons_zero, List.set_cons_succ, List.getElem_toArray, List.getElem_cons_succ, List.getElem_cons_zero]
        refine wpAnyB_ready (rs := [8]) (by kernel_rfl) (by simp) ?_
        refine AllReadyB.cons (o := _) rfl rfl (fun K hK => ?_) AllReadyB.nil
        go_simp
        (go_at_call 48; (with_reducible refine (ad5 _ hJd.bad).mono ?_); rintro e z1 ⟨rfl, hz1⟩)
        have hKJ := hJd.now hz1
        have hKA := (hAd.other (B := P) (j := 0) (by omega) (.bool (nz D6))).ext hz1
        have uz0 : z1.cell? ⟨T, 0, none⟩ = some (.int .i64 t10) := (hz1.cells.1 T 0 (by simpa using tT)).trans (by rw [cell_sc, if_neg (fun h => nTP (by have := congrArg Addr.block h; simpa using this))]; exact t0d)
        have uz1 : z1.cell? ⟨T, 1, none⟩ = some (.int .i64 t11) := (hz1.cells.1 T 1 (by simpa using tT)).trans (by rw [cell_sc, if_neg (fun h => nTP (by have := congrArg Addr.block h; simpa using this))]; exact t1d)
        refine hK.out _ _ ?_ (fun hHeldN => ?_)
        · (try dsimp only); exact ⟨hKA, uz0, uz1⟩
        clear hK K hHeld
        have hHeld := hHeldN
        clear hHeldN
        try simp only [Act.put, List.setIfInBounds_toArray, List.set_cons_zero, List.set_cons_succ, List.getElem_toArray, List.getElem_cons_succ, List.getElem_cons_zero]
        refine wpAnyB_pure (i := 10) (oi := _) (v := ?_) rfl (by kernel_rfl) (by kernel_rfl) (by kernel_rfl) (by kernel_rfl) (fun _ _ _ h => h) (Or.inl ⟨by rfl, ?_⟩) (by assumption) ?_
        rotate_left
        · intro w0 _; go_simp; try with_reducible rfl
        try simp only [Act.put, List.setIfInBounds_toArray, List.set_cons_zero, List.set_cons_succ, List.getElem_toArray, List.getElem_cons_succ, List.getElem_cons_zero]
        refine wpAnyB_ready (rs := [11]) (by kernel_rfl) (by simp) ?_
        refine AllReadyB.last (o := _) rfl rfl (fun K hK => ?_) AllReadyB.nil
        have cA : z1.cell? ⟨A, 10, none⟩ = some (.int .i64 a10) := hKA.1 10 a10 rfl
        have cB : z1.cell? ⟨A, 11, none⟩ = some (.int .i64 a11) := hKA.1 11 a11 rfl
        have cf := hKA.2.1
        go_simp
        refine hK.out _ _ trivial (fun _ => ?_)
        clear hK K
        try simp only [Act.put, List.setIfInBounds_toArray, List.set_cons_zero, List.set_cons_succ, List.getElem_toArray, List.getElem_cons_succ, List.getElem_cons_zero]
        refine wpAnyH_done (by kernel_rfl) ?_ _
        go_wp2_with fail
        refine wp_name fun Y6 hY0 => ?_
        have hM6 : VB Y6 A [n0, n1, n2, n3, n4, n5, n6, n7, n8, n9, n10, n11, a12, a13, a14, a15, a16, a17] := by have e : Y6 = _ := hY0; rw [e]; exact (hKA.set 10 n10 (by simp)).set 11 n11 (by simp)
        have hL6 : ShI w P sb so ls p D6 Y6 := by have e : Y6 = _ := hY0; rw [e]; exact (hKJ.set (D := A) hPA _).set (D := A) hPA _
        clear hY0 cA cB cf hz1 hKJ hKA uz0 uz1 t0d t1d tc0 tc1 eV eVd hJd hAd tT nTP nTA hAX hM5 hL5 ad5 hHeld hT
        go_wp2_with fail
        rw [rounds_succ]
        go_wp2_with fail
        refine wp_loop_rounds 4 ?_
        rw [rounds_succ]
        go_upto_region 21 with fail
        refine wp_name fun V hV0 => ?_
        obtain ⟨T, hT⟩ : ∃ T, Y6.heap.size + 1 = T := ⟨_, rfl⟩
        have tc0 : V.cell? ⟨T, 0, none⟩ = some (.int .i64 t12) := by have e : V = _ := hV0; rw [e, ← hT]; simp [go_sem, ↓IntWalk.iteOmega]
        have tc1 : V.cell? ⟨T, 1, none⟩ = some (.int .i64 t13) := by have e : V = _ := hV0; rw [e, ← hT]; simp [go_sem, ↓IntWalk.iteOmega]
        have eV : Ext Y6 V := Ext.same hV0 (by repeat (first | with_reducible exact Ext.refl _ | with_reducible assumption | with_reducible refine Ext.alloc ?_ _ | with_reducible refine Ext.setCell ?_ (by (try simp only [World.size_alloc, World.size_setCell]); omega) _ | with_reducible refine Ext.drewN ?_ _ | with_reducible refine Ext.drew ?_ | with_reducible refine Ext.trans ?_ (by with_reducible assumption)))
        have eVd : Ext Y6 V.drew := eV.drew
        have hJd := hL6.ext eVd
        have hAd := hM6.ext eVd
        have tT : T < V.heap.size := World.block_lt_of_cell? V _ tc0
        have hAX := hM6.2.2
        have nTP : T ≠ P := by omega
        have nTA : T ≠ A := by omega
        have t0d : V.drew.cell? ⟨T, 0, none⟩ = some (.int .i64 t12) := tc0
        have t1d : V.drew.cell? ⟨T, 1, none⟩ = some (.int .i64 t13) := tc1
        try rw [hT]
        clear hV0
        refine wp_region_till (S := (fun w0 => VB w0 A [n0, n1, n2, n3, n4, n5, n6, n7, n8, n9, n10, n11, a12, a13, a14, a15, a16, a17] ∧ w0.cell? ⟨T, 0, none⟩ = some (.int .i64 t12) ∧ w0.cell? ⟨T, 1, none⟩ = some (.int .i64 t13))) (fun i => decide (i = 11)) (by kernel_rfl) ?_ (fun hHeld => ?_)
        · exact ⟨hM6.ext eVd, tc0, tc1⟩
        try simp only [Act.put, List.setIfInBounds_toArray, List.set_cons_zero, List.set_cons_succ, List.getElem_toArray, List.getElem_cons_succ, List.getElem_cons_zero]
        refine wpAnyB_pure (i := 0) (oi := _) (v := ?_) rfl (by kernel_rfl) (by kernel_rfl) (by kernel_rfl) (by kernel_rfl) (fun _ _ _ h => h) (Or.inl ⟨by rfl, ?_⟩) (by assumption) ?_
        rotate_left
        · intro w0 _; go_simp; try with_reducible rfl
        try simp only [Act.put, List.setIfInBounds_toArray, List.set_cons_zero, List.set_cons_succ, List.getElem_toArray, List.getElem_cons_succ, List.getElem_cons_zero]
        refine wpAnyB_pure (i := 1) (oi := _) (v := ?_) rfl (by kernel_rfl) (by kernel_rfl) (by kernel_rfl) (by kernel_rfl) (fun _ _ _ h => h) (Or.inl ⟨by rfl, ?_⟩) (by assumption) ?_
        rotate_left
        · intro w0 _; go_simp; try with_reducible rfl
        try simp only [Act.put, List.setIfInBounds_toArray, List.set_cons_zero, List.set_cons_succ, List.getElem_toArray, List.getElem_cons_succ, List.getElem_cons_zero]
        refine wpAnyB_pure (i := 2) (oi := _) (v := ?_) rfl (by kernel_rfl) (by kernel_rfl) (by kernel_rfl) (by kernel_rfl) (fun _ _ _ h => h) (Or.inl ⟨by rfl, ?_⟩) (by assumption) ?_
        rotate_left
        · intro w0 _; go_simp; try with_reducible rfl
        try simp only [Act.put, List.setIfInBounds_toArray, List.set_cons_zero, List.set_cons_succ, List.getElem_toArray, List.getElem_cons_succ, List.getElem_cons_zero]
        refine wpAnyB_pure (i := 3) (oi := _) (v := ?_) rfl (by kernel_rfl) (by kernel_rfl) (by kernel_rfl) (by kernel_rfl) (fun _ _ _ h => h) (Or.inl ⟨by rfl, ?_⟩) (by assumption) ?_
        rotate_left
        · intro w0 _; go_simp; try with_reducible rfl
        try simp only [Act.put, List.setIfInBounds_toArray, List.set_cons_zero, List.set_cons_succ, List.getElem_toArray, List.getElem_cons_succ, List.getElem_cons_zero]
        refine wpAnyB_pure (i := 4) (oi := _) (v := ?_) rfl (by kernel_rfl) (by kernel_rfl) (by kernel_rfl) (by kernel_rfl) (fun _ _ _ h => h) (Or.inl ⟨by rfl, ?_⟩) (by assumption) ?_
        rotate_left
        · intro w0 _; go_simp; try with_reducible rfl
        try simp only [Act.put, List.setIfInBounds_toArray, List.set_cons_zero, List.set_cons_succ, List.getElem_toArray, List.getElem_cons_succ, List.getElem_cons_zero]
        refine wpAnyB_pure (i := 5) (oi := _) (v := ?_) rfl (by kernel_rfl) (by kernel_rfl) (by kernel_rfl) (by kernel_rfl) (fun _ _ _ h => h) (Or.inl ⟨by rfl, ?_⟩) (by assumption) ?_
        rotate_left
        · intro w0 _; go_simp; try with_reducible rfl
        try simp only [Act.put, List.setIfInBounds_toArray, List.set_cons_zero, List.set_cons_succ, List.getElem_toArray, List.getElem_cons_succ, List.getElem_cons_zero]
        refine wpAnyB_take (i := 6) (oi := _) (v := ?_) rfl (by kernel_rfl) (by kernel_rfl) (by kernel_rfl) (by kernel_rfl) (fun _ _ _ h => h) (Or.inl ⟨by rfl, ?_⟩) (by assumption) ?_
        rotate_left
        · intro w0 hSw; obtain ⟨⟨hcv, hcf, hcl⟩, u0, u1⟩ := hSw; have cA : w0.cell? ⟨A, 12, none⟩ = some (.int .i64 a12) := hcv 12 a12 rfl; have cB : w0.cell? ⟨A, 13, none⟩ = some (.int .i64 a13) := hcv 13 a13 rfl; go_simp; try with_reducible rfl
        try simp only [Act.put, List.setIfInBounds_toArray, List.set_cons_zero, List.set_cons_succ, List.getElem_toArray, List.getElem_cons_succ, List.getElem_cons_zero]
        refine wpAnyB_take (i := 7) (oi := _) (v := ?_) rfl (by kernel_rfl) (by kernel_rfl) (by kernel_rfl) (by kernel_rfl) (fun _ _ _ h => h) (Or.inl ⟨by rfl, ?_⟩) (by assumption) ?_
        rotate_left
        · intro w0 hSw; obtain ⟨⟨hcv, hcf, hcl⟩, u0, u1⟩ := hSw; have cA : w0.cell? ⟨A, 12, none⟩ = some (.int .i64 a12) := hcv 12 a12 rfl; have cB : w0.cell? ⟨A, 13, none⟩ = some (.int .i64 a13) := hcv 13 a13 rfl; go_simp; try with_reducible rfl
        try simp only [Act.put, List.setIfInBounds_toArray, List.set_cons_zero, List.set_cons_succ, List.getElem_toArray, List.getElem_cons_succ, List.getElem_cons_zero]
        refine wpAnyB_pure (i := 9) (oi := _) (v := ?_) rfl (by kernel_rfl) (by kernel_rfl) (by kernel_rfl) (by kernel_rfl) (fun _ _ _ h => h) (Or.inl ⟨by rfl, ?_⟩) (by assumption) ?_
        rotate_left
        · intro w0 _; go_simp; try with_reducible rfl
        try simp only [Act.put, List.setIfInBounds_toArray, List.set_cons_zero, List.set_cons_succ, List.getElem_toArray, List.getElem_cons_succ, List.getElem_cons_zero]
        refine wpAnyB_ready (rs := [8]) (by kernel_rfl) (by simp) ?_
        refine AllReadyB.cons (o := _) rfl rfl (fun K hK => ?_) AllReadyB.nil
        go_simp
        (go_at_call 48; (with_reducible refine (ad6 _ hJd.bad).mono ?_); rintro e z1 ⟨rfl, hz1⟩)
        have hKJ := hJd.now hz1
        have hKA := (hAd.other (B := P) (j := 0) (by omega) (.bool (nz D7))).ext hz1
        have uz0 : z1.cell? ⟨T, 0, none⟩ = some (.int .i64 t12) := (hz1.cells.1 T 0 (by simpa using tT)).trans (by rw [cell_sc, if_neg (fun h => nTP (by have := congrArg Addr.block h; simpa using this))]; exact t0d)
        have uz1 : z1.cell? ⟨T, 1, none⟩ = some (.int .i64 t13) := (hz1.cells.1 T 1 (by simpa using tT)).trans (by rw [cell_sc, if_neg (fun h => nTP (by have := congrArg Addr.block h; simpa using this))]; exact t1d)
        refine hK.out _ _ ?_ (fun hHeldN => ?_)
        · (try dsimp only); exact ⟨hKA, uz0, uz1⟩
        clear hK K hHeld
        have hHeld := hHeldN
        clear hHeldN
        try simp only [Act.put, List.setIfInBounds_toArray, List.set_cons_zero, List.set_cons_succ, List.getElem_toArray, List.getElem_cons_succ, List.getElem_cons_zero]
        refine wpAnyB_pure (i := 10) (oi := _) (v := ?_) rfl (by kernel_rfl) (by kernel_rfl) (by kernel_rfl) (by kernel_rfl) (fun _ _ _ h => h) (Or.inl ⟨by rfl, ?_⟩) (by assumption) ?_
        rotate_left
        · intro w0 _; go_simp; try with_reducible rfl
        try simp only [Act.put, List.setIfInBounds_toArray, List.set_cons_zero, List.set_cons_succ, List.getElem_toArray, List.getElem_cons_succ, List.getElem_cons_zero]
        refine wpAnyB_ready (rs := [11]) (by kernel_rfl) (by simp) ?_
        refine AllReadyB.last (o := _) rfl rfl (fun K hK => ?_) AllReadyB.nil
        have cA : z1.cell? ⟨A, 12, none⟩ = some (.int .i64 a12) := hKA.1 12 a12 rfl
        have cB : z1.cell? ⟨A, 13, none⟩ = some (.int .i64 a13) := hKA.1 13 a13 rfl
        have cf := hKA.2.1
        go_simp
        refine hK.out _ _ trivial (fun _ => ?_)
        clear hK K
        try simp only [Act.put, List.setIfInBounds_toArray, List.set_cons_zero, List.set_cons_succ, List.getElem_toArray, List.getElem_cons_succ, List.getElem_cons_zero]
        refine wpAnyH_done (by kernel_rfl) ?_ _
        go_wp2_with fail
        refine wp_name fun Y7 hY0 => ?_
        have hM7 : VB Y7 A [n0, n1, n2, n3, n4, n5, n6, n7, n8, n9, n10, n11, n12, n13, a14, a15, a16, a17] := by have e : Y7 = _ := hY0; rw [e]; exact (hKA.set 12 n12 (by simp)).set 13 n13 (by simp)
        have hL7 : ShI w P sb so ls p D7 Y7 := by have e : Y7 = _ := hY0; rw [e]; exact (hKJ.set (D := A) hPA _).set (D := A) hPA _
        clear hY0 cA cB cf hz1 hKJ hKA uz0 uz1 t0d t1d tc0 tc1 eV eVd hJd hAd tT nTP nTA hAX hM6 hL6 ad6 hHeld hT
        go_upto_region 21 with fail
        refine wp_name fun V hV0 => ?_
        obtain ⟨T, hT⟩ : ∃ T, Y7.heap.size = T := ⟨_, rfl⟩
        have tc0 : V.cell? ⟨T, 0, none⟩ = some (.int .i64 t14) := by have e : V = _ := hV0; rw [e, ← hT]; simp [go_sem, ↓IntWalk.iteOmega]
        have tc1 : V.cell? ⟨T, 1, none⟩ = some (.int .i64 t15) := by have e : V = _ := hV0; rw [e, ← hT]; simp [go_sem, ↓IntWalk.iteOmega]
        have eV : Ext Y7 V := Ext.same hV0 (by repeat (first | with_reducible exact Ext.refl _ | with_reducible assumption | with_reducible refine Ext.alloc ?_ _ | with_reducible refine Ext.setCell ?_ (by (try simp only [World.size_alloc, World.size_setCell]); omega) _ | with_reducible refine Ext.drewN ?_ _ | with_reducible refine Ext.drew ?_ | with_reducible refine Ext.trans ?_ (by with_reducible assumption)))
        have eVd : Ext Y7 V.drew := eV.drew
        have hJd := hL7.ext eVd
        have hAd := hM7.ext eVd
        have tT : T < V.heap.size := World.block_lt_of_cell? V _ tc0
        have hAX := hM7.2.2
        have nTP : T ≠ P := by omega
        have nTA : T ≠ A := by omega
        have t0d : V.drew.cell? ⟨T, 0, none⟩ = some (.int .i64 t14) := tc0
        have t1d : V.drew.cell? ⟨T, 1, none⟩ = some (.int .i64 t15) := tc1
        try rw [hT]
        clear hV0
        refine wp_region_till (S := (fun w0 => VB w0 A [n0, n1, n2, n3, n4, n5, n6, n7, n8, n9, n10, n11, n12, n13, a14, a15, a16, a17] ∧ w0.cell? ⟨T, 0, none⟩ = some (.int .i64 t14) ∧ w0.cell? ⟨T, 1, none⟩ = some (.int .i64 t15))) (fun i => decide (i = 11)) (by kernel_rfl) ?_ (fun hHeld => ?_)
        · exact ⟨hM7.ext eVd, tc0, tc1⟩
        try simp only [Act.put, List.setIfInBounds_toArray, List.set_cons_zero, List.set_cons_succ, List.getElem_toArray, List.getElem_cons_succ, List.getElem_cons_zero]
        refine wpAnyB_pure (i := 0) (oi := _) (v := ?_) rfl (by kernel_rfl) (by kernel_rfl) (by kernel_rfl) (by kernel_rfl) (fun _ _ _ h => h) (Or.inl ⟨by rfl, ?_⟩) (by assumption) ?_
        rotate_left
        · intro w0 _; go_simp; try with_reducible rfl
        try simp only [Act.put, List.setIfInBounds_toArray, List.set_cons_zero, List.set_cons_succ, List.getElem_toArray, List.getElem_cons_succ, List.getElem_cons_zero]
        refine wpAnyB_pure (i := 1) (oi := _) (v := ?_) rfl (by kernel_rfl) (by kernel_rfl) (by kernel_rfl) (by kernel_rfl) (fun _ _ _ h => h) (Or.inl ⟨by rfl, ?_⟩) (by assumption) ?_
        rotate_left
        · intro w0 _; go_simp; try with_reducible rfl
        try simp only [Act.put, List.setIfInBounds_toArray, List.set_cons_zero, List.set_cons_succ, List.getElem_toArray, List.getElem_cons_succ, List.getElem_cons_zero]
        refine wpAnyB_pure (i := 2) (oi := _) (v := ?_) rfl (by kernel_rfl) (by kernel_rfl) (by kernel_rfl) (by kernel_rfl) (fun _ _ _ h => h) (Or.inl ⟨by rfl, ?_⟩) (by assumption) ?_
        rotate_left
        · intro w0 _; go_simp; try with_reducible rfl
        try simp only [Act.put, List.setIfInBounds_toArray, List.set_cons_zero, List.set_cons_succ, List.getElem_toArray, List.getElem_cons_succ, List.getElem_cons_zero]
        refine wpAnyB_pure (i := 3) (oi := _) (v := ?_) rfl (by kernel_rfl) (by kernel_rfl) (by kernel_rfl) (by kernel_rfl) (fun _ _ _ h => h) (Or.inl ⟨by rfl, ?_⟩) (by assumption) ?_
        rotate_left
        · intro w0 _; go_simp; try with_reducible rfl
        try simp only [Act.put, List.setIfInBounds_toArray, List.set_cons_zero, List.set_cons_succ, List.getElem_toArray, List.getElem_cons_succ, List.getElem_cons_zero]
        refine wpAnyB_pure (i := 4) (oi := _) (v := ?_) rfl (by kernel_rfl) (by kernel_rfl) (by kernel_rfl) (by kernel_rfl) (fun _ _ _ h => h) (Or.inl ⟨by rfl, ?_⟩) (by assumption) ?_
        rotate_left
        · intro w0 _; go_simp; try with_reducible rfl
        try simp only [Act.put, List.setIfInBounds_toArray, List.set_cons_zero, List.set_cons_succ, List.getElem_toArray, List.getElem_cons_succ, List.getElem_cons_zero]
        refine wpAnyB_pure (i := 5) (oi := _) (v := ?_) rfl (by kernel_rfl) (by kernel_rfl) (by kernel_rfl) (by kernel_rfl) (fun _ _ _ h => h) (Or.inl ⟨by rfl, ?_⟩) (by assumption) ?_
        rotate_left
        · intro w0 _; go_simp; try with_reducible rfl
        try simp only [Act.put, List.setIfInBounds_toArray, List.set_cons_zero, List.set_cons_succ, List.getElem_toArray, List.getElem_cons_succ, List.getElem_cons_zero]
        refine wpAnyB_take (i := 6) (oi := _) (v := ?_) rfl (by kernel_rfl) (by kernel_rfl) (by kernel_rfl) (by kernel_rfl) (fun _ _ _ h => h) (Or.inl ⟨by rfl, ?_⟩) (by assumption) ?_
        rotate_left
        · intro w0 hSw; obtain ⟨⟨hcv, hcf, hcl⟩, u0, u1⟩ := hSw; have cA : w0.cell? ⟨A, 14, none⟩ = some (.int .i64 a14) := hcv 14 a14 rfl; have cB : w0.cell? ⟨A, 15, none⟩ = some (.int .i64 a15) := hcv 15 a15 rfl; go_simp; try with_reducible rfl
        try simp only [Act.put, List.setIfInBounds_toArray, List.set_cons_zero, List.set_cons_succ, List.getElem_toArray, List.getElem_cons_succ, List.getElem_cons_zero]
        refine wpAnyB_take (i := 7) (oi := _) (v := ?_) rfl (by kernel_rfl) (by kernel_rfl) (by kernel_rfl) (by kernel_rfl) (fun _ _ _ h => h) (Or.inl ⟨by rfl, ?_⟩) (by assumption) ?_
        rotate_left
        · intro w0 hSw; obtain ⟨⟨hcv, hcf, hcl⟩, u0, u1⟩ := hSw; have cA : w0.cell? ⟨A, 14, none⟩ = some (.int .i64 a14) := hcv 14 a14 rfl; have cB : w0.cell? ⟨A, 15, none⟩ = some (.int .i64 a15) := hcv 15 a15 rfl; go_simp; try with_reducible rfl
        try simp only [Act.put, List.setIfInBounds_toArray, List.set_cons_zero, List.set_cons_succ, List.getElem_toArray, List.getElem_cons_succ, List.getElem_cons_zero]
        refine wpAnyB_pure (i := 9) (oi := _) (v := ?_) rfl (by kernel_rfl) (by kernel_rfl) (by kernel_rfl) (by kernel_rfl) (fun _ _ _ h => h) (Or.inl ⟨by rfl, ?_⟩) (by assumption) ?_
        rotate_left
        · intro w0 _; go_simp; try with_reducible rfl
        try simp only [Act.put, List.setIfInBounds_toArray, List.set_cons_zero, List.set_cons_succ, List.getElem_toArray, List.getElem_cons_succ, List.getElem_cons_zero]
        refine wpAnyB_ready (rs := [8]) (by kernel_rfl) (by simp) ?_
        refine AllReadyB.cons (o := _) rfl rfl (fun K hK => ?_) AllReadyB.nil
        go_simp
        (go_at_call 48; (with_reducible refine (ad7 _ hJd.bad).mono ?_); rintro e z1 ⟨rfl, hz1⟩)
        have hKJ := hJd.now hz1
        have hKA := (hAd.other (B := P) (j := 0) (by omega) (.bool (nz D8))).ext hz1
        have uz0 : z1.cell? ⟨T, 0, none⟩ = some (.int .i64 t14) := (hz1.cells.1 T 0 (by simpa using tT)).trans (by rw [cell_sc, if_neg (fun h => nTP (by have := congrArg Addr.block h; simpa using this))]; exact t0d)
        have uz1 : z1.cell? ⟨T, 1, none⟩ = some (.int .i64 t15) := (hz1.cells.1 T 1 (by simpa using tT)).trans (by rw [cell_sc, if_neg (fun h => nTP (by have := congrArg Addr.block h; simpa using this))]; exact t1d)
        refine hK.out _ _ ?_ (fun hHeldN => ?_)
        · (try dsimp only); exact ⟨hKA, uz0, uz1⟩
        clear hK K hHeld
        have hHeld := hHeldN
        clear hHeldN
        try simp only [Act.put, List.setIfInBounds_toArray, List.set_cons_zero, List.set_cons_succ, List.getElem_toArray, List.getElem_cons_succ, List.getElem_cons_zero]
        refine wpAnyB_pure (i := 10) (oi := _) (v := ?_) rfl (by kernel_rfl) (by kernel_rfl) (by kernel_rfl) (by kernel_rfl) (fun _ _ _ h => h) (Or.inl ⟨by rfl, ?_⟩) (by assumption) ?_
        rotate_left
        · intro w0 _; go_simp; try with_reducible rfl
        try simp only [Act.put, List.setIfInBounds_toArray, List.set_cons_zero, List.set_cons_succ, List.getElem_toArray, List.getElem_cons_succ, List.getElem_cons_zero]
        refine wpAnyB_ready (rs := [11]) (by kernel_rfl) (by simp) ?_
        refine AllReadyB.last (o := _) rfl rfl (fun K hK => ?_) AllReadyB.nil
        have cA : z1.cell? ⟨A, 14, none⟩ = some (.int .i64 a14) := hKA.1 14 a14 rfl
        have cB : z1.cell? ⟨A, 15, none⟩ = some (.int .i64 a15) := hKA.1 15 a15 rfl
        have cf := hKA.2.1
        go_simp
        refine hK.out _ _ trivial (fun _ => ?_)
        clear hK K
        try simp only [Act.put, List.setIfInBounds_toArray, List.set_cons_zero, List.set_cons_succ, List.getElem_toArray, List.getElem_cons_succ, List.getElem_cons_zero]
        refine wpAnyH_done (by kernel_rfl) ?_ _
        go_wp2_with fail
        refine wp_name fun Y8 hY0 => ?_
        have hM8 : VB Y8 A [n0, n1, n2, n3, n4, n5, n6, n7, n8, n9, n10, n11, n12, n13, n14, n15, a16, a17] := by have e : Y8 = _ := hY0; rw [e]; exact (hKA.set 14 n14 (by simp)).set 15 n15 (by simp)
        have hL8 : ShI w P sb so ls p D8 Y8 := by have e : Y8 = _ := hY0; rw [e]; exact (hKJ.set (D := A) hPA _).set (D := A) hPA _
        clear hY0 cA cB cf hz1 hKJ hKA uz0 uz1 t0d t1d tc0 tc1 eV eVd hJd hAd tT nTP nTA hAX hM7 hL7 ad7 hHeld hT
        go_upto_region 21 with fail
        refine wp_name fun V hV0 => ?_
        obtain ⟨T, hT⟩ : ∃ T, Y8.heap.size = T := ⟨_, rfl⟩
        have tc0 : V.cell? ⟨T, 0, none⟩ = some (.int .i64 t16) := by have e : V = _ := hV0; rw [e, ← hT]; simp [go_sem, ↓IntWalk.iteOmega]
        have tc1 : V.cell? ⟨T, 1, none⟩ = some (.int .i64 t17) := by have e : V = _ := hV0; rw [e, ← hT]; simp [go_sem, ↓IntWalk.iteOmega]
        have eV : Ext Y8 V := Ext.same hV0 (by repeat (first | with_reducible exact Ext.refl _ | with_reducible assumption | with_reducible refine Ext.alloc ?_ _ | with_reducible refine Ext.setCell ?_ (by (try simp only [World.size_alloc, World.size_setCell]); omega) _ | with_reducible refine Ext.drewN ?_ _ | with_reducible refine Ext.drew ?_ | with_reducible refine Ext.trans ?_ (by with_reducible assumption)))
        have eVd : Ext Y8 V.drew := eV.drew
        have hJd := hL8.ext eVd
        have hAd := hM8.ext eVd
        have tT : T < V.heap.size := World.block_lt_of_cell? V _ tc0
        have hAX := hM8.2.2
        have nTP : T ≠ P := by omega
        have nTA : T ≠ A := by omega
        have t0d : V.drew.cell? ⟨T, 0, none⟩ = some (.int .i64 t16) := tc0
        have t1d : V.drew.cell? ⟨T, 1, none⟩ = some (.int .i64 t17) := tc1
        try rw [hT]
        clear hV0
        refine wp_region_till (S := (fun w0 => VB w0 A [n0, n1, n2, n3, n4, n5, n6, n7, n8, n9, n10, n11, n12, n13, n14, n15, a16, a17] ∧ w0.cell? ⟨T, 0, none⟩ = some (.int .i64 t16) ∧ w0.cell? ⟨T, 1, none⟩ = some (.int .i64 t17))) (fun i => decide (i = 11)) (by kernel_rfl) ?_ (fun hHeld => ?_)
        · exact ⟨hM8.ext eVd, tc0, tc1⟩
        try simp only [Act.put, List.setIfInBounds_toArray, List.set_cons_zero, List.set_cons_succ, List.getElem_toArray, List.getElem_cons_succ, List.getElem_cons_zero]
        refine wpAnyB_pure (i := 0) (oi := _) (v := ?_) rfl (by kernel_rfl) (by kernel_rfl) (by kernel_rfl) (by kernel_rfl) (fun _ _ _ h => h) (Or.inl ⟨by rfl, ?_⟩) (by assumption) ?_
        rotate_left
        · intro w0 _; go_simp; try with_reducible rfl
        try simp only [Act.put, List.setIfInBounds_toArray, List.set_cons_zero, List.set_cons_succ, List.getElem_toArray, List.getElem_cons_succ, List.getElem_cons_zero]
        refine wpAnyB_pure (i := 1) (oi := _) (v := ?_) rfl (by kernel_rfl) (by kernel_rfl) (by kernel_rfl) (by kernel_rfl) (fun _ _ _ h => h) (Or.inl ⟨by rfl, ?_⟩) (by assumption) ?_
        rotate_left
        · intro w0 _; go_simp; try with_reducible rfl
        try simp only [Act.put, List.setIfInBounds_toArray, List.set_cons_zero, List.set_cons_succ, List.getElem_toArray, List.getElem_cons_succ, List.getElem_cons_zero]
        refine wpAnyB_pure (i := 2) (oi := _) (v := ?_) rfl (by kernel_rfl) (by kernel_rfl) (by kernel_rfl) (by kernel_rfl) (fun _ _ _ h => h) (Or.inl ⟨by rfl, ?_⟩) (by assumption) ?_
        rotate_left
        · intro w0 _; go_simp; try with_reducible rfl
        try simp only [Act.put, List.setIfInBounds_toArray, List.set_cons_zero, List.set_cons_succ, List.getElem_toArray, List.getElem_cons_succ, List.getElem_cons_zero]
        refine wpAnyB_pure (i := 3) (oi := _) (v := ?_) rfl (by kernel_rfl) (by kernel_rfl) (by kernel_rfl) (by kernel_rfl) (fun _ _ _ h => h) (Or.inl ⟨by rfl, ?_⟩) (by assumption) ?_
        rotate_left
        · intro w0 _; go_simp; try with_reducible rfl
        try simp only [Act.put, List.setIfInBounds_toArray, List.set_cons_zero, List.set_cons_succ, List.getElem_toArray, List.getElem_cons_succ, List.getElem_cons_zero]
        refine wpAnyB_pure (i := 4) (oi := _) (v := ?_) rfl (by kernel_rfl) (by kernel_rfl) (by kernel_rfl) (by kernel_rfl) (fun _ _ _ h => h) (Or.inl ⟨by rfl, ?_⟩) (by assumption) ?_
        rotate_left
        · intro w0 _; go_simp; try with_reducible rfl
        try simp only [Act.put, List.setIfInBounds_toArray, List.set_cons_zero, List.set_cons_succ, List.getElem_toArray, List.getElem_cons_succ, List.getElem_cons_zero]
        refine wpAnyB_pure (i := 5) (oi := _) (v := ?_) rfl (by kernel_rfl) (by kernel_rfl) (by kernel_rfl) (by kernel_rfl) (fun _ _ _ h => h) (Or.inl ⟨by rfl, ?_⟩) (by assumption) ?_
        rotate_left
        · intro w0 _; go_simp; try with_reducible rfl
        try simp only [Act.put, List.setIfInBounds_toArray, List.set_cons_zero, List.set_cons_succ, List.getElem_toArray, List.getElem_cons_succ, List.getElem_cons_zero]
        refine wpAnyB_take (i := 6) (oi := _) (v := ?_) rfl (by kernel_rfl) (by kernel_rfl) (by kernel_rfl) (by kernel_rfl) (fun _ _ _ h => h) (Or.inl ⟨by rfl, ?_⟩) (by assumption) ?_
        rotate_left
        · intro w0 hSw; obtain ⟨⟨hcv, hcf, hcl⟩, u0, u1⟩ := hSw; have cA : w0.cell? ⟨A, 16, none⟩ = some (.int .i64 a16) := hcv 16 a16 rfl; have cB : w0.cell? ⟨A, 17, none⟩ = some (.int .i64 a17) := hcv 17 a17 rfl; go_simp; try with_reducible rfl
        try simp only [Act.put, List.setIfInBounds_toArray, List.set_cons_zero, List.set_cons_succ, List.getElem_toArray, List.getElem_cons_succ, List.getElem_cons_zero]
        refine wpAnyB_take (i := 7) (oi := _) (v := ?_) rfl (by kernel_rfl) (by kernel_rfl) (by kernel_rfl) (by kernel_rfl) (fun _ _ _ h => h) (Or.inl ⟨by rfl, ?_⟩) (by assumption) ?_
        rotate_left
        · intro w0 hSw; obtain ⟨⟨hcv, hcf, hcl⟩, u0, u1⟩ := hSw; have cA : w0.cell? ⟨A, 16, none⟩ = some (.int .i64 a16) := hcv 16 a16 rfl; have cB : w0.cell? ⟨A, 17, none⟩ = some (.int .i64 a17) := hcv 17 a17 rfl; go_simp; try with_reducible rfl
        try simp only [Act.put, List.setIfInBounds_toArray, List.set_cons_zero, List.set_cons_succ, List.getElem_toArray, List.getElem_cons_succ, List.getElem_cons_zero]
        refine wpAnyB_pure (i := 9) (oi := _) (v := ?_) rfl (by kernel_rfl) (by kernel_rfl) (by kernel_rfl) (by kernel_rfl) (fun _ _ _ h => h) (Or.inl ⟨by rfl, ?_⟩) (by assumption) ?_
        rotate_left
        · intro w0 _; go_simp; try with_reducible rfl
        try simp only [Act.put, List.setIfInBounds_toArray, List.set_cons_zero, List.set_cons_succ, List.getElem_toArray, List.getElem_cons_succ, List.getElem_cons_zero]
        refine wpAnyB_ready (rs := [8]) (by kernel_rfl) (by simp) ?_
        refine AllReadyB.cons (o := _) rfl rfl (fun K hK => ?_) AllReadyB.nil
        go_simp
        (go_at_call 48; (with_reducible refine (ad8 _ hJd.bad).mono ?_); rintro e z1 ⟨rfl, hz1⟩)
        have hKJ := hJd.now hz1
        have hKA := (hAd.other (B := P) (j := 0) (by omega) (.bool (nz D9))).ext hz1
        have uz0 : z1.cell? ⟨T, 0, none⟩ = some (.int .i64 t16) := (hz1.cells.1 T 0 (by simpa using tT)).trans (by rw [cell_sc, if_neg (fun h => nTP (by have := congrArg Addr.block h; simpa using this))]; exact t0d)
        have uz1 : z1.cell? ⟨T, 1, none⟩ = some (.int .i64 t17) := (hz1.cells.1 T 1 (by simpa using tT)).trans (by rw [cell_sc, if_neg (fun h => nTP (by have := congrArg Addr.block h; simpa using this))]; exact t1d)
        refine hK.out _ _ ?_ (fun hHeldN => ?_)
        · (try dsimp only); exact ⟨hKA, uz0, uz1⟩
        clear hK K hHeld
        have hHeld := hHeldN
        clear hHeldN
        try simp only [Act.put, List.setIfInBounds_toArray, List.set_cons_zero, List.set_cons_succ, List.getElem_toArray, List.getElem_cons_succ, List.getElem_cons_zero]
        refine wpAnyB_pure (i := 10) (oi := _) (v := ?_) rfl (by kernel_rfl) (by kernel_rfl) (by kernel_rfl) (by kernel_rfl) (fun _ _ _ h => h) (Or.inl ⟨by rfl, ?_⟩) (by assumption) ?_
        rotate_left
        · intro w0 _; go_simp; try with_reducible rfl
        try simp only [Act.put, List.setIfInBounds_toArray, List.set_cons_zero, List.set_cons_succ, List.getElem_toArray, List.getElem_cons_succ, List.getElem_cons_zero]
        refine wpAnyB_ready (rs := [11]) (by kernel_rfl) (by simp) ?_
        refine AllReadyB.last (o := _) rfl rfl (fun K hK => ?_) AllReadyB.nil
        have cA : z1.cell? ⟨A, 16, none⟩ = some (.int .i64 a16) := hKA.1 16 a16 rfl
        have cB : z1.cell? ⟨A, 17, none⟩ = some (.int .i64 a17) := hKA.1 17 a17 rfl
        have cf := hKA.2.1
        go_simp
        refine hK.out _ _ trivial (fun _ => ?_)
        clear hK K
        try simp only [Act.put, List.setIfInBounds_toArray, List.set_cons_zero, List.set_cons_succ, List.getElem_toArray, List.getElem_cons_succ, List.getElem_cons_zero]
        refine wpAnyH_done (by kernel_rfl) ?_ _
        go_wp2_with fail
        refine wp_name fun Y9 hY0 => ?_
        have hM9 : VB Y9 A [n0, n1, n2, n3, n4, n5, n6, n7, n8, n9, n10, n11, n12, n13, n14, n15, n16, n17] := by have e : Y9 = _ := hY0; rw [e]; exact (hKA.set 16 n16 (by simp)).set 17 n17 (by simp)
        have hL9 : ShI w P sb so ls p D9 Y9 := by have e : Y9 = _ := hY0; rw [e]; exact (hKJ.set (D := A) hPA _).set (D := A) hPA _
        clear hY0 cA cB cf hz1 hKJ hKA uz0 uz1 t0d t1d tc0 tc1 eV eVd hJd hAd tT nTP nTA hAX hM8 hL8 ad8 hHeld hT
        go_wp2_with fail
        rw [rounds_succ]
        go_wp2_with fail
        go_round
        case rel => exact ⟨k + 1, hk2, by go_num, Lib.hid (by rw [hAn.out, hst2]; exact ⟨hL9, hM9⟩)⟩
        case measure => simp [intOf]; omega
  · rw [if_pos h0] at hR
    subst hR
    go_enter Tryz.func16, Tryz.ntmps16
    go_upto_region 3 with (go_at_call 44; (with_reducible refine (hga _ (by repeat (first | with_reducible exact Ext.refl _ | with_reducible assumption | with_reducible refine Ext.alloc ?_ _ | with_reducible refine Ext.setCell ?_ (by (try simp only [World.size_alloc, World.size_setCell]); omega) _ | with_reducible refine Ext.drewN ?_ _ | with_reducible refine Ext.drew ?_ | with_reducible refine Ext.trans ?_ (by with_reducible assumption)))).mono ?_); rintro e w4 ⟨vs, rfl, hs4, hb4⟩; obtain ⟨sao, sb, so, scap, rfl, hsa, hsl, hsm, hsb, hsc⟩ := id hs4)
    have v2 : VB w4 (w.heap.size + 1 + 1) z18 := by have v2 : VB w4 ((w.alloc (.cells #[.slice ao l.length cap] 24)).alloc (.cells #[.int .i64 p.a, .int .i64 p.b, .int .i64 p.c, .int .i64 p.d, .int .i64 p.e, .int .i64 p.f] 28)).heap.size z18 := (VB.lit ((w.alloc (.cells #[.slice ao l.length cap] 24)).alloc (.cells #[.int .i64 p.a, .int .i64 p.b, .int .i64 p.c, .int .i64 p.d, .int .i64 p.e, .int .i64 p.f] 28)) z18 35).ext hb4; simpa only [World.size_alloc] using v2
    have hth4 := v2.there 18 rfl
    have x4 : Ext w w4 := (by repeat (first | with_reducible exact Ext.refl _ | with_reducible assumption | with_reducible refine Ext.alloc ?_ _ | with_reducible refine Ext.setCell ?_ (by (try simp only [World.size_alloc, World.size_setCell]); omega) _ | with_reducible refine Ext.drewN ?_ _ | with_reducible refine Ext.drew ?_ | with_reducible refine Ext.trans ?_ (by with_reducible assumption)))
    go_wp2_with ((with_reducible show wpList _ _ _ _ _ _); refine store_row rfl 35 (.tmp 8) (.tmp 32) rfl (w.heap.size + 1 + 1) #[.int .i64 0, .int .i64 0, .int .i64 0, .int .i64 0, .int .i64 0, .int .i64 0, .int .i64 0, .int .i64 0, .int .i64 0, .int .i64 0, .int .i64 0, .int .i64 0, .int .i64 0, .int .i64 0, .int .i64 0, .int .i64 0, .int .i64 0, .int .i64 0] rfl rfl hth4 tyI35 (by kernel_rfl) (fun W5 hW5 => ?_))
    refine bodyPost_ret (results_cell_tmp (a := ⟨w.heap.size + 1 + 1, 0, none⟩) rfl rfl rfl (run_load_row W5 _ 35 [.int .i64 0, .int .i64 0, .int .i64 0, .int .i64 0, .int .i64 0, .int .i64 0, .int .i64 0, .int .i64 0, .int .i64 0, .int .i64 0, .int .i64 0, .int .i64 0, .int .i64 0, .int .i64 0, .int .i64 0, .int .i64 0, .int .i64 0, .int .i64 0] (.array 3 27) hW5.range tyU35 rfl tyI35)) rfl ⟨rfl, hW5.ext x4 (by omega)⟩
end Go.Proofs.YtbkgakgdbmjmjaaGreat
