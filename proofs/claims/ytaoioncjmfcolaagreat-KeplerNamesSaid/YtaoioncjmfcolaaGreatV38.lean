/- sphere: the cross product. -/
import Derived.Test.YtaoioncjmfcolaaGreatV30
set_option linter.unusedSimpArgs false
set_option linter.unusedVariables false
set_option maxRecDepth 100000
set_option maxHeartbeats 8000000
namespace Go.Proofs.YtaoioncjmfcolaaGreat
open Go.RowKit
theorem p_crs (a b:V3) (w:World) (ha:a.I) (hb0:b.I):
    K_ 125 #[.agg #[O a.a,O a.b,O a.c,O a.d,O a.e,O a.f],.agg #[O b.a,O b.b,O b.c,O b.d,O b.e,O b.f]] w fun e w'=>e=.returned (.tuple #[.agg #[O ((crsV a b).v).a,O ((crsV a b).v).b,O ((crsV a b).v).c,O ((crsV a b).v).d,O ((crsV a b).v).e,O ((crsV a b).v).f],O (crsV a b).e])∧Ext w w':=by
 obtain⟨ka1,ka2,ka3⟩:=ha
 obtain⟨kb1,kb2,kb3⟩:=hb0
 have l0:IntKind.i64.wrap 0=0:=rfl
 have l1:IntKind.i64.wrap 1=1:=rfl
 have l2:IntKind.i64.wrap 2=2:=rfl
 have l3:IntKind.i64.wrap 3=3:=rfl
 go_enter Tryz.func125,Tryz.ntmps125
 go_wp2_with (first| (go_at_call 38;(with_reducible refine(s_look a b _).mono ?_);rintro e w1 ⟨rfl,hb⟩;obtain⟨_,_,⟨hc,hf⟩,hz⟩:=hb.c3;(try simp only[World.size_alloc]at hz hc hf);(try have zz:=q_4 w.heap.size w1.heap.size);(try have zz:=q_4 (w.heap.size+1) w1.heap.size);(try have zz:=q_4 (w.heap.size+1+1) w1.heap.size))| (go_at_call 30;(with_reducible refine(s_begin _).mono ?_);rintro e w2 ⟨rfl,rfl⟩))
 ·-- the error
  refine bodyPost_ret (v:=.tuple #[.agg #[O ((crsV a b).v).a,O ((crsV a b).v).b,O ((crsV a b).v).c,O ((crsV a b).v).d,O ((crsV a b).v).e,O ((crsV a b).v).f],O (crsV a b).e]) ?_ rfl ⟨rfl, ?_⟩
  ·(try simp only[bne_iff_ne,ne_eq]at*)
   simp[results,Tryz.results125,go_sem,crsV,V3.O, *]
  ·exact b_18
 ·-- the rounds
  refine wp_loop_rounds 4 ?_
  rw[rounds_succ]
  go_upto_region 10 with fail
  refine wp_name fun V hV=> ?_
  obtain⟨hVc,hVf,hVz⟩:=hV.cells
  have hVe:ExtP w w1.heap.size 4 V:=ExtP.same hV c_10
  (try simp only[World.size_alloc]at hVz)
  replace hVz:=And.intro (Nat.le_of_eq hVz) (Nat.le_of_eq hVz.symm)
  have hlv:=q_2 w.heap.size V.heap.size (w.heap.size+1) (w.heap.size+1+1) w1.heap.size (w1.heap.size+1)
  have hd:=q_9 w.heap.size (w.heap.size+1) (w.heap.size+1+1) w1.heap.size (w1.heap.size+1)
  have hnv:=q_12 w.heap.size V.heap.size (w.heap.size+1) (w.heap.size+1+1) w1.heap.size (w1.heap.size+1)
  go_cut [12] (fun sx wx=>∃(g:Nat) (r0:R3),sx=.pointer (some ⟨g,0,none⟩)∧(doI (0) (mulI a.c a.d b.e b.f)=r0)∧ExtP V w1.heap.size 4 wx∧V.heap.size≤g∧g<wx.heap.size∧(∀o,wx.frozen? ⟨g,o,none⟩=false)∧wx.cell? ⟨w1.heap.size,4,none⟩=some (O (r0.e))∧wx.frozen? ⟨w1.heap.size,4,none⟩=false∧wx.cell? ⟨g,0,none⟩=some (O r0.lo)∧wx.cell? ⟨g,1,none⟩=some (O r0.hi))
  case first=>
   have hWe:ExtP V w1.heap.size 4 V:=ExtP.of _ _ (Ext.refl V)
   go_region_held3 (fun w'=>(∀b o,b<V.heap.size→w'.cell? ⟨b,o,none⟩=if b=w1.heap.size∧0≤o∧o<0∨b=w1.heap.size∧o=4 then(V.cell? ⟨b,o,none⟩).map (obx w' b o)else V.cell? ⟨b,o,none⟩)∧(∀b o,b<V.heap.size→w'.frozen? ⟨b,o,none⟩=V.frozen? ⟨b,o,none⟩)∧V.heap.size≤w'.heap.size∧ExtP V w1.heap.size 4 w') (exact k_3) ((first| (go_at_call 32;(with_reducible refine(d_mul w1.heap.size (0) a.c a.d b.e b.f _ c_16 c_32 ka2 kb3).mono ?_);(generalize hr0:doI (0) (mulI a.c a.d b.e b.f)=r0);rintro e w2 ⟨rfl,hb0⟩;have hz0:=hb0.size;obtain⟨hg0,hh0⟩:=hb0.got (u:=O (0)) c_16;have hob0:=obx_of hg0;(try simp only[frozen_drew]at hh0);obtain⟨hq0,hv0⟩:=hb0.cells;(try simp only[wsd]at hz0 hq0 hv0);(try have hlx0:=q_5 w.heap.size w2.heap.size (w.heap.size+1) (w.heap.size+1+1) w1.heap.size (w1.heap.size+1));(try have hly0:V.heap.size<w2.heap.size:=by omega))))
   all_goals
    rename_i hOld
    clear hOld
    go_wp2_with fail
    go_meet
    refine⟨_,_,rfl,hr0, ?_, ?_, ?_, ?_, ?_, ?_, ?_, ?_⟩
    ·exact b_29
    ·(try simp only[wsz]);omega
    ·(try simp only[wsz]);omega
    ·intro o;simp[go_sem, *]
    ·simp[go_sem, *]
    ·simp[go_sem, *]
    all_goals simp[go_sem, *]
  case rest=>
   obtain⟨g,r0,rfl,hr0,hx,hg1,hg2,hgf,hpc,hpf,hv0,hv1⟩:=hcut
   obtain⟨hcc,hcf,hcz⟩:=ExtP.cells2 hx hpc
   replace hVe:=hVe.trans hx
   have hlv2:=q_1 w.heap.size wc.heap.size (w.heap.size+1) (w.heap.size+1+1) w1.heap.size (w1.heap.size+1)
   have hlg:=q_7 w.heap.size g (w.heap.size+1) (w.heap.size+1+1) w1.heap.size (w1.heap.size+1)
   clear hx
   go_wp2_with fail
   refine wp_name fun W hW=> ?_
   obtain⟨hWc,hWf,hWz⟩:=hW.cells
   have hWe:ExtP w w1.heap.size 4 W:=ExtP.same hW c_10
   (try simp only[wsz]at hWz)
   replace hWz:=And.intro (Nat.le_of_eq hWz) (Nat.le_of_eq hWz.symm)
   have hlt:=q_3 w.heap.size W.heap.size (w.heap.size+1) (w.heap.size+1+1) w1.heap.size (w1.heap.size+1) g
   have hd:=q_8 w.heap.size (w.heap.size+1) (w.heap.size+1+1) w1.heap.size (w1.heap.size+1) g
   go_region_held3 (fun w'=>(∀b o,b<W.heap.size→w'.cell? ⟨b,o,none⟩=if b=w1.heap.size+1∧0≤o∧o<2∨b=w1.heap.size∧o=4 then(W.cell? ⟨b,o,none⟩).map (obx w' b o)else W.cell? ⟨b,o,none⟩)∧(∀b o,b<W.heap.size→w'.frozen? ⟨b,o,none⟩=W.frozen? ⟨b,o,none⟩)∧W.heap.size≤w'.heap.size∧ExtP w w1.heap.size 4 w') (exact k_3) ((first| (go_at_call 32;(with_reducible refine(d_mul w1.heap.size r0.e a.e a.f b.c b.d _ c_16 c_32 ka3 kb2).mono ?_);(generalize hr1:doI r0.e (mulI a.e a.f b.c b.d)=r1);rintro e w2 ⟨rfl,hb0⟩;have hz0:=hb0.size;(try simp only[size_drew,World.size_setCell]at hz0);obtain⟨hg0,hh0⟩:=hb0.got (u:=O (r0.e)) c_16;have hob0:=obx_of hg0;(try simp only[frozen_drew]at hh0))| (go_at_call 32;(with_reducible refine(d_sub w1.heap.size r1.e r0.lo r0.hi r1.lo r1.hi _ c_24 c_49).mono ?_);(generalize hr2:doI r1.e (subI r0.lo r0.hi r1.lo r1.hi)=r2);rintro e w3 ⟨rfl,hb1⟩;have hz1:=hb1.size;(try simp only[World.size_setCell]at hz1);obtain⟨hg1,hh1⟩:=hb1.got (u:=O (r1.e)) c_24;have hob1:=obx_of hg1;(try simp only[frozen_drew]at hh1))))
   rename_i hOld
   have hE:=hOld.2.2.2
   have hO:=And.intro hOld.1 (And.intro hOld.2.1 hOld.2.2.1)
   clear hOld
   replace hO:=helBack hO c_4
   replace hO:=helBack hO c_4
   obtain⟨hOc,hOf,hOz⟩:=helEnd hO
   clear hO
   have hlu:=q_3 w.heap.size w3.heap.size (w.heap.size+1) (w.heap.size+1+1) w1.heap.size (w1.heap.size+1) g
   go_wp2_with fail
   rw[rounds_succ]
   go_upto_region 10 with fail
   refine wp_name fun V hV=> ?_
   obtain⟨hVc,hVf,hVz⟩:=hV.cells
   have hVe:ExtP w w1.heap.size 4 V:=ExtP.same hV c_19
   (try simp only[World.size_setCell]at hVz)
   replace hVz:=And.intro (Nat.le_of_eq hVz) (Nat.le_of_eq hVz.symm)
   have hlv:=q_2 w.heap.size V.heap.size (w.heap.size+1) (w.heap.size+1+1) w1.heap.size (w1.heap.size+1)
   have hd:=q_9 w.heap.size (w.heap.size+1) (w.heap.size+1+1) w1.heap.size (w1.heap.size+1)
   have hnv:=q_12 w.heap.size V.heap.size (w.heap.size+1) (w.heap.size+1+1) w1.heap.size (w1.heap.size+1)
   go_cut [12] (fun sx wx=>∃(g:Nat) (r3:R3),sx=.pointer (some ⟨g,0,none⟩)∧(doI (r2.e) (mulI a.e a.f b.a b.b)=r3)∧ExtP V w1.heap.size 4 wx∧V.heap.size≤g∧g<wx.heap.size∧(∀o,wx.frozen? ⟨g,o,none⟩=false)∧wx.cell? ⟨w1.heap.size,4,none⟩=some (O (r3.e))∧wx.frozen? ⟨w1.heap.size,4,none⟩=false∧wx.cell? ⟨g,0,none⟩=some (O r3.lo)∧wx.cell? ⟨g,1,none⟩=some (O r3.hi))
   case first=>
    have hWe:ExtP V w1.heap.size 4 V:=ExtP.of _ _ (Ext.refl V)
    go_region_held3 (fun w'=>(∀b o,b<V.heap.size→w'.cell? ⟨b,o,none⟩=if b=w1.heap.size∧0≤o∧o<0∨b=w1.heap.size∧o=4 then(V.cell? ⟨b,o,none⟩).map (obx w' b o)else V.cell? ⟨b,o,none⟩)∧(∀b o,b<V.heap.size→w'.frozen? ⟨b,o,none⟩=V.frozen? ⟨b,o,none⟩)∧V.heap.size≤w'.heap.size∧ExtP V w1.heap.size 4 w') (exact k_3) ((first| (go_at_call 32;(with_reducible refine(d_mul w1.heap.size (r2.e) a.e a.f b.a b.b _ c_16 c_32 ka3 kb1).mono ?_);(generalize hr3:doI (r2.e) (mulI a.e a.f b.a b.b)=r3);rintro e w2 ⟨rfl,hb0⟩;have hz0:=hb0.size;obtain⟨hg0,hh0⟩:=hb0.got (u:=O (r2.e)) c_16;have hob0:=obx_of hg0;(try simp only[frozen_drew]at hh0);obtain⟨hq0,hv0⟩:=hb0.cells;(try simp only[wsd]at hz0 hq0 hv0);(try have hlx0:=q_5 w.heap.size w2.heap.size (w.heap.size+1) (w.heap.size+1+1) w1.heap.size (w1.heap.size+1));(try have hly0:V.heap.size<w2.heap.size:=by omega))))
    all_goals
     rename_i hOld
     clear hOld
     go_wp2_with fail
     go_meet
     refine⟨_,_,rfl,hr3, ?_, ?_, ?_, ?_, ?_, ?_, ?_, ?_⟩
     ·exact b_29
     ·(try simp only[wsz]);omega
     ·(try simp only[wsz]);omega
     ·intro o;simp[go_sem, *]
     ·simp[go_sem, *]
     ·simp[go_sem, *]
     all_goals simp[go_sem, *]
   case rest=>
    obtain⟨g,r3,rfl,hr3,hx,hg1,hg2,hgf,hpc,hpf,hv0,hv1⟩:=hcut
    obtain⟨hcc,hcf,hcz⟩:=ExtP.cells2 hx hpc
    replace hVe:=hVe.trans hx
    have hlv2:=q_1 w.heap.size wc.heap.size (w.heap.size+1) (w.heap.size+1+1) w1.heap.size (w1.heap.size+1)
    have hlg:=q_7 w.heap.size g (w.heap.size+1) (w.heap.size+1+1) w1.heap.size (w1.heap.size+1)
    clear hx
    go_wp2_with fail
    refine wp_name fun W hW=> ?_
    obtain⟨hWc,hWf,hWz⟩:=hW.cells
    have hWe:ExtP w w1.heap.size 4 W:=ExtP.same hW c_10
    (try simp only[wsz]at hWz)
    replace hWz:=And.intro (Nat.le_of_eq hWz) (Nat.le_of_eq hWz.symm)
    have hlt:=q_3 w.heap.size W.heap.size (w.heap.size+1) (w.heap.size+1+1) w1.heap.size (w1.heap.size+1) g
    have hd:=q_8 w.heap.size (w.heap.size+1) (w.heap.size+1+1) w1.heap.size (w1.heap.size+1) g
    go_region_held3 (fun w'=>(∀b o,b<W.heap.size→w'.cell? ⟨b,o,none⟩=if b=w1.heap.size+1∧2≤o∧o<4∨b=w1.heap.size∧o=4 then(W.cell? ⟨b,o,none⟩).map (obx w' b o)else W.cell? ⟨b,o,none⟩)∧(∀b o,b<W.heap.size→w'.frozen? ⟨b,o,none⟩=W.frozen? ⟨b,o,none⟩)∧W.heap.size≤w'.heap.size∧ExtP w w1.heap.size 4 w') (exact k_3) ((first| (go_at_call 32;(with_reducible refine(d_mul w1.heap.size r3.e a.a a.b b.e b.f _ c_16 c_32 ka1 kb3).mono ?_);(generalize hr4:doI r3.e (mulI a.a a.b b.e b.f)=r4);rintro e w2 ⟨rfl,hb0⟩;have hz0:=hb0.size;(try simp only[size_drew,World.size_setCell]at hz0);obtain⟨hg0,hh0⟩:=hb0.got (u:=O (r3.e)) c_16;have hob0:=obx_of hg0;(try simp only[frozen_drew]at hh0))| (go_at_call 32;(with_reducible refine(d_sub w1.heap.size r4.e r3.lo r3.hi r4.lo r4.hi _ c_24 c_49).mono ?_);(generalize hr5:doI r4.e (subI r3.lo r3.hi r4.lo r4.hi)=r5);rintro e w3 ⟨rfl,hb1⟩;have hz1:=hb1.size;(try simp only[World.size_setCell]at hz1);obtain⟨hg1,hh1⟩:=hb1.got (u:=O (r4.e)) c_24;have hob1:=obx_of hg1;(try simp only[frozen_drew]at hh1))))
    rename_i hOld
    have hE:=hOld.2.2.2
    have hO:=And.intro hOld.1 (And.intro hOld.2.1 hOld.2.2.1)
    clear hOld
    replace hO:=helBack hO c_4
    replace hO:=helBack hO c_4
    obtain⟨hOc,hOf,hOz⟩:=helEnd hO
    clear hO
    have hlu:=q_3 w.heap.size w3.heap.size (w.heap.size+1) (w.heap.size+1+1) w1.heap.size (w1.heap.size+1) g
    go_wp2_with fail
    rw[rounds_succ]
    go_upto_region 10 with fail
    refine wp_name fun V hV=> ?_
    obtain⟨hVc,hVf,hVz⟩:=hV.cells
    have hVe:ExtP w w1.heap.size 4 V:=ExtP.same hV c_19
    (try simp only[World.size_setCell]at hVz)
    replace hVz:=And.intro (Nat.le_of_eq hVz) (Nat.le_of_eq hVz.symm)
    have hlv:=q_2 w.heap.size V.heap.size (w.heap.size+1) (w.heap.size+1+1) w1.heap.size (w1.heap.size+1)
    have hd:=q_9 w.heap.size (w.heap.size+1) (w.heap.size+1+1) w1.heap.size (w1.heap.size+1)
    have hnv:=q_12 w.heap.size V.heap.size (w.heap.size+1) (w.heap.size+1+1) w1.heap.size (w1.heap.size+1)
    go_cut [12] (fun sx wx=>∃(g:Nat) (r6:R3),sx=.pointer (some ⟨g,0,none⟩)∧(doI (r5.e) (mulI a.a a.b b.c b.d)=r6)∧ExtP V w1.heap.size 4 wx∧V.heap.size≤g∧g<wx.heap.size∧(∀o,wx.frozen? ⟨g,o,none⟩=false)∧wx.cell? ⟨w1.heap.size,4,none⟩=some (O (r6.e))∧wx.frozen? ⟨w1.heap.size,4,none⟩=false∧wx.cell? ⟨g,0,none⟩=some (O r6.lo)∧wx.cell? ⟨g,1,none⟩=some (O r6.hi))
    case first=>
     have hWe:ExtP V w1.heap.size 4 V:=ExtP.of _ _ (Ext.refl V)
     go_region_held3 (fun w'=>(∀b o,b<V.heap.size→w'.cell? ⟨b,o,none⟩=if b=w1.heap.size∧0≤o∧o<0∨b=w1.heap.size∧o=4 then(V.cell? ⟨b,o,none⟩).map (obx w' b o)else V.cell? ⟨b,o,none⟩)∧(∀b o,b<V.heap.size→w'.frozen? ⟨b,o,none⟩=V.frozen? ⟨b,o,none⟩)∧V.heap.size≤w'.heap.size∧ExtP V w1.heap.size 4 w') (exact k_3) ((first| (go_at_call 32;(with_reducible refine(d_mul w1.heap.size (r5.e) a.a a.b b.c b.d _ c_16 c_32 ka1 kb2).mono ?_);(generalize hr6:doI (r5.e) (mulI a.a a.b b.c b.d)=r6);rintro e w2 ⟨rfl,hb0⟩;have hz0:=hb0.size;obtain⟨hg0,hh0⟩:=hb0.got (u:=O (r5.e)) c_16;have hob0:=obx_of hg0;(try simp only[frozen_drew]at hh0);obtain⟨hq0,hv0⟩:=hb0.cells;(try simp only[wsd]at hz0 hq0 hv0);(try have hlx0:=q_5 w.heap.size w2.heap.size (w.heap.size+1) (w.heap.size+1+1) w1.heap.size (w1.heap.size+1));(try have hly0:V.heap.size<w2.heap.size:=by omega))))
     all_goals
      rename_i hOld
      clear hOld
      go_wp2_with fail
      go_meet
      refine⟨_,_,rfl,hr6, ?_, ?_, ?_, ?_, ?_, ?_, ?_, ?_⟩
      ·exact b_29
      ·(try simp only[wsz]);omega
      ·(try simp only[wsz]);omega
      ·intro o;simp[go_sem, *]
      ·simp[go_sem, *]
      ·simp[go_sem, *]
      all_goals simp[go_sem, *]
    case rest=>
     obtain⟨g,r6,rfl,hr6,hx,hg1,hg2,hgf,hpc,hpf,hv0,hv1⟩:=hcut
     obtain⟨hcc,hcf,hcz⟩:=ExtP.cells2 hx hpc
     replace hVe:=hVe.trans hx
     have hlv2:=q_1 w.heap.size wc.heap.size (w.heap.size+1) (w.heap.size+1+1) w1.heap.size (w1.heap.size+1)
     have hlg:=q_7 w.heap.size g (w.heap.size+1) (w.heap.size+1+1) w1.heap.size (w1.heap.size+1)
     clear hx
     go_wp2_with fail
     refine wp_name fun W hW=> ?_
     obtain⟨hWc,hWf,hWz⟩:=hW.cells
     have hWe:ExtP w w1.heap.size 4 W:=ExtP.same hW c_10
     (try simp only[wsz]at hWz)
     replace hWz:=And.intro (Nat.le_of_eq hWz) (Nat.le_of_eq hWz.symm)
     have hlt:=q_3 w.heap.size W.heap.size (w.heap.size+1) (w.heap.size+1+1) w1.heap.size (w1.heap.size+1) g
     have hd:=q_8 w.heap.size (w.heap.size+1) (w.heap.size+1+1) w1.heap.size (w1.heap.size+1) g
     go_region_held3 (fun w'=>(∀b o,b<W.heap.size→w'.cell? ⟨b,o,none⟩=if b=w1.heap.size+1∧4≤o∧o<6∨b=w1.heap.size∧o=4 then(W.cell? ⟨b,o,none⟩).map (obx w' b o)else W.cell? ⟨b,o,none⟩)∧(∀b o,b<W.heap.size→w'.frozen? ⟨b,o,none⟩=W.frozen? ⟨b,o,none⟩)∧W.heap.size≤w'.heap.size∧ExtP w w1.heap.size 4 w') (exact k_3) ((first| (go_at_call 32;(with_reducible refine(d_mul w1.heap.size r6.e a.c a.d b.a b.b _ c_16 c_32 ka2 kb1).mono ?_);(generalize hr7:doI r6.e (mulI a.c a.d b.a b.b)=r7);rintro e w2 ⟨rfl,hb0⟩;have hz0:=hb0.size;(try simp only[size_drew,World.size_setCell]at hz0);obtain⟨hg0,hh0⟩:=hb0.got (u:=O (r6.e)) c_16;have hob0:=obx_of hg0;(try simp only[frozen_drew]at hh0))| (go_at_call 32;(with_reducible refine(d_sub w1.heap.size r7.e r6.lo r6.hi r7.lo r7.hi _ c_24 c_49).mono ?_);(generalize hr8:doI r7.e (subI r6.lo r6.hi r7.lo r7.hi)=r8);rintro e w3 ⟨rfl,hb1⟩;have hz1:=hb1.size;(try simp only[World.size_setCell]at hz1);obtain⟨hg1,hh1⟩:=hb1.got (u:=O (r7.e)) c_24;have hob1:=obx_of hg1;(try simp only[frozen_drew]at hh1))))
     rename_i hOld
     have hE:=hOld.2.2.2
     have hO:=And.intro hOld.1 (And.intro hOld.2.1 hOld.2.2.1)
     clear hOld
     replace hO:=helBack hO c_4
     replace hO:=helBack hO c_4
     obtain⟨hOc,hOf,hOz⟩:=helEnd hO
     clear hO
     have hlu:=q_3 w.heap.size w3.heap.size (w.heap.size+1) (w.heap.size+1+1) w1.heap.size (w1.heap.size+1) g
     go_wp2_with fail
     rw[rounds_succ]
     go_wp2_with (first| (go_at_call 90;(with_reducible refine(s_vec6 w1.heap.size (r8.e) (r2.lo) (r2.hi) (r5.lo) (r5.hi) (r8.lo) (r8.hi) _ c_45).mono ?_);rintro e w9 ⟨rfl,hb⟩;obtain⟨_,_,⟨hc,hf⟩,hz⟩:=hb.c3;(try simp only[World.size_setCell]at hz hc hf)))
     refine bodyPost_ret (v:=.tuple #[.agg #[O ((crsV a b).v).a,O ((crsV a b).v).b,O ((crsV a b).v).c,O ((crsV a b).v).d,O ((crsV a b).v).e,O ((crsV a b).v).f],O (crsV a b).e]) ?_ rfl ⟨rfl, ?_⟩
     ·(try simp only[bne_eq_false_iff_eq]at*)
      simp[results,Tryz.results125,go_sem,crsV,crs2,crs1,crs0,mmI,mm1,mm0,v3, *]
     ·refine ExtP.out (p:=w1.heap.size) (k:=4) ?_ (by omega)
      (repeat(first|with_reducible refine ExtP.set ?_| (with_reducible refine ExtP.store ?_ ?_;rotate_left;(focus ((try simp only[]);omega)))|with_reducible refine ExtP.ext ?_ ((Ext.refl _).alloc _)|with_reducible refine ExtP.ext ?_ ((Ext.refl _).drew)|with_reducible assumption|with_reducible exact ExtP.of _ _ (Ext.refl w)|with_reducible refine ExtP.ext ?_ c_7))
end Go.Proofs.YtaoioncjmfcolaaGreat
