/- span.Scale. -/
import Derived.Test.YtaoioncjmfcolaaGreatV40
set_option linter.unusedSimpArgs false
set_option linter.unusedVariables false
set_option maxRecDepth 100000
set_option maxHeartbeats 4000000
namespace Go.Proofs.YtaoioncjmfcolaaGreat
open Go.RowKit
theorem ssc_p (a b n d:Int) (w:World) (hk:ckI a b=0) (kn:I64 n) (kn0:0≤n) (kd:I64 d) (kd0:0<d):
    K_ 60 #[.agg #[O a,O b],O n,O d] w fun e w'=>e=.returned (.tuple #[.agg #[O (madeI (dnT (a*n) d) (upT (b*n) d)).lo,O (madeI (dnT (a*n) d) (upT (b*n) d)).hi],O (madeI (dnT (a*n) d) (upT (b*n) d)).e])∧Ext w w':=by
 obtain⟨ka1,ka2,ka3⟩:=ckI_ok hk
 have hA:I64 a:=by unfold I64;omega
 have hB:I64 b:=by unfold I64;omega
 have hle:a*n≤b*n:=Int.mul_le_mul_of_nonneg_right ka1 kn0
 have d63:d<9223372036854775808:=kd.2
 have d64:d<18446744073709551616:=by omega
 have e1:IntKind.u64.wrap d=d:=by rw[IntKind.wrap_u64];omega
 have dn0:decide (d<0)=false:=by simp;omega
 have dz:¬d=0:=by omega
 have m1:min2 (a*n) (b*n)=a*n:=by unfold min2;omega
 have m2:max2 (a*n) (b*n)=b*n:=by unfold max2;omega
 go_enter Tryz.func60,Tryz.ntmps60
 go_upto_region 6 with(first| (go_at_call 91;(with_reducible refine(check_1 _ _ _ _ c_43).mono ?_);rintro e w1 ⟨rfl,hb⟩;obtain⟨_,_,⟨hc,hf⟩,hz⟩:=hb.c3;(try simp only[wsz]at hz hc hf);(try have zz:=q_4 w.heap.size w1.heap.size);(try have zz:=q_4 (w.heap.size+1) w1.heap.size);(try have zz:=q_4 (w.heap.size+1+1) w1.heap.size)))
 refine wp_name fun V hV=> ?_
 obtain⟨hVc,hVf,hVz⟩:=hV.cells
 have hVe:Ext w V:=Ext.same hV ex_
 (try simp only[wsz]at hVz)
 replace hVz:=And.intro (Nat.le_of_eq hVz) (Nat.le_of_eq hVz.symm)
 have hlv:w.heap.size<V.heap.size∧w.heap.size+1<V.heap.size:=(by refine⟨?_, ?_⟩<;>omega)
 have hd:¬w.heap.size=w.heap.size+1∧¬w.heap.size+1=w.heap.size:=(by refine⟨?_, ?_⟩<;>omega)
 have hnv:¬w.heap.size=V.heap.size∧¬w.heap.size+1=V.heap.size:=(by omega)
 go_cut [9,10] (fun sx0 sx1 wx=>∃g h:Nat,sx0=.pointer (some ⟨g,0,none⟩)∧sx1=.pointer (some ⟨h,0,none⟩)∧Ext V wx∧V.heap.size≤g∧g<wx.heap.size∧(∀o,wx.frozen? ⟨g,o,none⟩=false)∧V.heap.size≤h∧h<wx.heap.size∧(∀o,wx.frozen? ⟨h,o,none⟩=false)∧g≠h∧wx.cell? ⟨g,0,none⟩=some (O ((a*n)/18446744073709551616))∧wx.cell? ⟨g,1,none⟩=some (.int .u64 ((a*n)%18446744073709551616))∧wx.cell? ⟨h,0,none⟩=some (O ((b*n)/18446744073709551616))∧wx.cell? ⟨h,1,none⟩=some (.int .u64 ((b*n)%18446744073709551616)))
 case first=>
  have hWe:Ext V V:=Ext.refl V
  go_region_held3 (fun w'=>(∀b o,b<V.heap.size→w'.cell? ⟨b,o,none⟩=if b=V.heap.size∧0≤o∧o<0 then(V.cell? ⟨b,o,none⟩).map (obx w' b o)else V.cell? ⟨b,o,none⟩)∧(∀b o,b<V.heap.size→w'.frozen? ⟨b,o,none⟩=V.frozen? ⟨b,o,none⟩)∧V.heap.size≤w'.heap.size∧Ext V w') (exact k_1) ((first| (go_at_call 95;(with_reducible refine(times_any a n _ hA kn).mono ?_);rintro e w2 ⟨rfl,hb0⟩;obtain⟨hq0,hr0⟩:=hb0.cells;have hz0:=hb0.size;(try simp only[wsd]at hz0 hq0 hr0);(try have hly0:V.heap.size<w2.heap.size:=by omega);(try have hly1:V.heap.size+1<w2.heap.size:=by omega))| (go_at_call 95;(with_reducible refine(times_any b n _ hB kn).mono ?_);rintro e w3 ⟨rfl,hb1⟩;obtain⟨hq1,hr1⟩:=hb1.cells;have hz1:=hb1.size;(try simp only[wsd]at hz1 hq1 hr1);(try have hly0:V.heap.size<w3.heap.size:=by omega);(try have hly1:V.heap.size+1<w3.heap.size:=by omega);(try have hly2:w2.heap.size<w3.heap.size:=by omega);(try have hly3:w2.heap.size+1<w3.heap.size:=by omega))))
  all_goals
   rename_i hOld
   clear hOld
   go_wp2_with fail
   go_meet
   refine⟨_,_,rfl,rfl, ?_, ?_, ?_, ?_, ?_, ?_, ?_, ?_, ?_, ?_, ?_, ?_⟩
   ·exact b_20
   all_goals first| ((try simp only[wsz]);omega)| (intro o;simp[go_sem, ↓IntWalk.iteOmega, *];done)| (simp[go_sem, ↓IntWalk.iteOmega, *];done)
 case rest=>
  obtain⟨g,h,rfl,rfl,hx,hg01,hg02,hgf0,hg11,hg12,hgf1,hgh,hv00,hv01,hv10,hv11⟩:=hcut
  obtain⟨_,_,hcc,hcf⟩:=hx.cells2
  have hcz:=hx.size
  replace hVe:=hVe.trans hx
  have hlv2:w.heap.size<wc.heap.size∧w.heap.size+1<wc.heap.size:=(by omega)
  have hlg:w.heap.size<g∧¬w.heap.size=g∧¬g=w.heap.size∧w.heap.size<h∧¬w.heap.size=h∧¬h=w.heap.size∧w.heap.size+1<g∧¬w.heap.size+1=g∧¬g=w.heap.size+1∧w.heap.size+1<h∧¬w.heap.size+1=h∧¬h=w.heap.size+1:=(by omega)
  clear hx
  go_wp2_with fail
  refine wp_name fun W hW=> ?_
  obtain⟨hWc,hWf,hWz⟩:=hW.cells
  have hWe:Ext w W:=Ext.same hW ex_
  (try simp only[wsz]at hWz)
  (try simp only[size_drew,size_drewN,World.size_alloc,World.size_setCell]at hWz)
  replace hWz:=And.intro (Nat.le_of_eq hWz) (Nat.le_of_eq hWz.symm)
  have hlt:=q_0 w.heap.size W.heap.size (w.heap.size+1) g h
  have hd:=q_10 w.heap.size (w.heap.size+1) g h
  go_region_held3 (fun w'=>(∀b o,b<W.heap.size→w'.cell? ⟨b,o,none⟩=if b=w.heap.size+1∧0≤o∧o<2 then(W.cell? ⟨b,o,none⟩).map (obx w' b o)else W.cell? ⟨b,o,none⟩)∧(∀b o,b<W.heap.size→w'.frozen? ⟨b,o,none⟩=W.frozen? ⟨b,o,none⟩)∧W.heap.size≤w'.heap.size∧Ext w w') (exact k_1) ((first| (go_at_call 101;(with_reducible refine(least_1 (a*n) (b*n) _ _ _ c_61 c_61).mono ?_);simp only[m1];rintro e w2 ⟨rfl,hb0⟩;obtain⟨hq0,hr0⟩:=hb0.cells;have hz0:=hb0.size;(try simp only[wsd]at hz0 hq0 hr0);(try have hly0:W.heap.size<w2.heap.size:=by omega);(try have hly1:W.heap.size+1<w2.heap.size:=by omega))| (go_at_call 102;(with_reducible refine(greatest_1 (a*n) (b*n) _ _ _ c_61 c_61).mono ?_);simp only[m2];rintro e w4 ⟨rfl,hb2⟩;obtain⟨hq2,hr2⟩:=hb2.cells;have hz2:=hb2.size;(try simp only[wsd]at hz2 hq2 hr2);(try have hly0:W.heap.size<w4.heap.size:=by omega);(try have hly1:W.heap.size+1<w4.heap.size:=by omega);(try have hly2:w2.heap.size<w4.heap.size:=by omega);(try have hly3:w3.heap.size<w4.heap.size:=by omega))| (go_at_call 96;(with_reducible refine(down_any _ d _ (abs_mul_bound hA kn).1 (abs_mul_bound hA kn).2 kd0 d64).mono ?_);rintro e w3 ⟨rfl,hb1⟩;obtain⟨hq1,hr1⟩:=hb1.cells;have hz1:=hb1.size;(try simp only[wsd]at hz1 hq1 hr1);(try have hly0:W.heap.size<w3.heap.size:=by omega);(try have hly1:W.heap.size+1<w3.heap.size:=by omega);(try have hly2:w2.heap.size<w3.heap.size:=by omega))| (go_at_call 97;(with_reducible refine(up_any _ d _ (abs_mul_bound hB kn).1 (abs_mul_bound hB kn).2 kd0 d64).mono ?_);rintro e w5 ⟨rfl,hb3⟩;obtain⟨hq3,hr3⟩:=hb3.cells;have hz3:=hb3.size;(try simp only[wsd]at hz3 hq3 hr3);(try have hly0:W.heap.size<w5.heap.size:=by omega);(try have hly1:W.heap.size+1<w5.heap.size:=by omega);(try have hly2:w2.heap.size<w5.heap.size:=by omega);(try have hly3:w3.heap.size<w5.heap.size:=by omega);(try have hly4:w4.heap.size<w5.heap.size:=by omega))| (go_at_call 92;(with_reducible refine(span_made _ _ _).mono ?_);rintro e w6 ⟨rfl,hb4⟩;obtain⟨hq4,hr4⟩:=hb4.cells;have hz4:=hb4.size;(try simp only[wsd]at hz4 hq4 hr4);(try have hly0:W.heap.size<w6.heap.size:=by omega);(try have hly1:W.heap.size+1<w6.heap.size:=by omega);(try have hly2:w2.heap.size<w6.heap.size:=by omega);(try have hly3:w3.heap.size<w6.heap.size:=by omega);(try have hly4:w4.heap.size<w6.heap.size:=by omega);(try have hly5:w5.heap.size<w6.heap.size:=by omega))))
  all_goals
   rename_i hOld
   have hE:=hOld.2.2.2
   have hO:=And.intro hOld.1 (And.intro hOld.2.1 hOld.2.2.1)
   clear hOld
   replace hO:=heldBack hO c_14
   replace hO:=heldBack hO c_14
   obtain⟨hOc,hOf,hOz⟩:=heldEnd hO
   clear hO
   go_wp2_with fail
   refine bodyPost_ret (v:=.tuple #[.agg #[O (madeI (dnT (a*n) d) (upT (b*n) d)).lo,O (madeI (dnT (a*n) d) (upT (b*n) d)).hi],O (madeI (dnT (a*n) d) (upT (b*n) d)).e]) ?_ rfl ⟨rfl, ?_⟩
   ·(try simp only[bn_,bm_]at*)
    simp[results,Tryz.results60,go_sem, ↓IntWalk.iteOmega,ne_eq, *]
   ·exact b_1
theorem ssc_e (a b n d:Int) (w:World) (hk:¬ckI a b=0):
    K_ 60 #[.agg #[O a,O b],O n,O d] w fun e w'=>e=.returned (.tuple #[.agg #[O (R3.mk 0 0 (ckI a b)).lo,O (R3.mk 0 0 (ckI a b)).hi],O (R3.mk 0 0 (ckI a b)).e])∧Ext w w':=by
 go_enter Tryz.func60,Tryz.ntmps60
 go_wp2_with (first| (go_at_call 91;(with_reducible refine(check_1 _ _ _ _ c_43).mono ?_);rintro e w1 ⟨rfl,hb⟩;obtain⟨_,_,⟨hc,hf⟩,hz⟩:=hb.c3;(try simp only[wsz]at hz hc hf);(try have zz:=q_4 w.heap.size w1.heap.size);(try have zz:=q_4 (w.heap.size+1) w1.heap.size);(try have zz:=q_4 (w.heap.size+1+1) w1.heap.size)))
 all_goals
  refine bodyPost_ret (v:=.tuple #[.agg #[O (R3.mk 0 0 (ckI a b)).lo,O (R3.mk 0 0 (ckI a b)).hi],O (R3.mk 0 0 (ckI a b)).e]) ?_ rfl ⟨rfl, ?_⟩
  ·(try simp only[bn_,bm_]at*)
   simp[results,Tryz.results60,go_sem, ↓IntWalk.iteOmega,ne_eq, *]
  ·exact b_1
theorem span_sc (a b n d:Int) (w:World) (kn:I64 n) (kn0:0≤n) (kd:I64 d) (kd0:0<d):
    K_ 60 #[.agg #[O a,O b],O n,O d] w fun e w'=>e=.returned (.tuple #[.agg #[O (scI a b n d).lo,O (scI a b n d).hi],O (scI a b n d).e])∧Ext w w':=by
 by_cases hk:ckI a b=0
 ·have e:scI a b n d=madeI (dnT (a*n) d) (upT (b*n) d):=by unfold scI;rw[if_neg c_60]
  rw[e];exact ssc_p a b n d w hk kn kn0 kd kd0
 ·have e:scI a b n d=⟨0,0,ckI a b⟩:=by unfold scI;rw[if_pos c_60]
  rw[e];exact ssc_e a b n d w hk
theorem T_KPP_1 {p:Prop} (h:p:=by
 rw[←hU]
 repeat(first|with_reducible exact Ext.refl _|with_reducible assumption|with_reducible refine Ext.alloc ?_ _|with_reducible refine Ext.setCell ?_ c_27 _|with_reducible refine Ext.drewN ?_ _|with_reducible refine Ext.drew ?_|with_reducible refine Ext.trans ?_ c_7)):p:=h
@[go_sem] theorem fld74 (a b:Int) (w:World):(Instr.field 104 (.agg #[O a,O b]) 0).run Tryz.prog w=.ok (.agg #[O a,O b]) w:=by kernel_rfl
def shT:R3:=scI 3454217652357 3454217652358 2 1
noncomputable def shE (P V:V3):R3:=divI shT.lo shT.hi (shU P V).lo (shU P V).hi
def PdOk (P V:V3):Prop:=ClOk P V∧shT.e=0∧(shE P V).e=0
theorem k_Period0 (t p1 p2 p3 v1 v2 v3:Int) (hcl0:∀w1,K_ 58 #[.agg #[O t,O p1,O p2,O p3,O v1,O v2,O v3]] w1 fun e w2=>((ClOk (dia p1 p2 p3) (dia v1 v2 v3)∧e=.returned (.agg #[O (shR (dia p1 p2 p3)).lo,O (shR (dia p1 p2 p3)).hi,O (shA (dia p1 p2 p3) (dia v1 v2 v3)).lo,O (shA (dia p1 p2 p3) (dia v1 v2 v3)).hi,O (shK (dia p1 p2 p3) (dia v1 v2 v3)).lo,O (shK (dia p1 p2 p3) (dia v1 v2 v3)).hi,O (shZ).lo,O (shZ).hi,O (shQ (dia p1 p2 p3) (dia v1 v2 v3)).lo,O (shQ (dia p1 p2 p3) (dia v1 v2 v3)).hi,O (shU (dia p1 p2 p3) (dia v1 v2 v3)).lo,O (shU (dia p1 p2 p3) (dia v1 v2 v3)).hi,O 0,O 0,O 0,O 0]))∨(¬ClOk (dia p1 p2 p3) (dia v1 v2 v3)∧e=.panicked FALL))∧Ext w1 w2) (w:World):K_ 21 #[.agg #[O t,O p1,O p2,O p3,O v1,O v2,O v3]] w fun e w'=>((¬stE t p1 p2 p3 v1 v2 v3=0∧e=.returned (.tuple #[.agg #[O 0,O 0],O (stE t p1 p2 p3 v1 v2 v3)]))∨(stE t p1 p2 p3 v1 v2 v3=0∧PdOk (dia p1 p2 p3) (dia v1 v2 v3)∧e=.returned (.tuple #[.agg #[O (shE (dia p1 p2 p3) (dia v1 v2 v3)).lo,O (shE (dia p1 p2 p3) (dia v1 v2 v3)).hi],O 0]))∨(stE t p1 p2 p3 v1 v2 v3=0∧¬PdOk (dia p1 p2 p3) (dia v1 v2 v3)∧e=.returned (.tuple #[.agg #[O 0,O 0],O 24])))∧Ext w w':=by
 obtain⟨⟨l2,u2,e2⟩,hn2⟩:∃x,shR (dia p1 p2 p3)=x:=⟨_,rfl⟩
 obtain⟨⟨l6,u6,e6⟩,hn6⟩:∃x,shA (dia p1 p2 p3) (dia v1 v2 v3)=x:=⟨_,rfl⟩
 obtain⟨⟨l11,u11,e11⟩,hn11⟩:∃x,shK (dia p1 p2 p3) (dia v1 v2 v3)=x:=⟨_,rfl⟩
 obtain⟨⟨l12,u12,e12⟩,hn12⟩:∃x,shZ=x:=⟨_,rfl⟩
 obtain⟨⟨l13,u13,e13⟩,hn13⟩:∃x,shQ (dia p1 p2 p3) (dia v1 v2 v3)=x:=⟨_,rfl⟩
 obtain⟨⟨l14,u14,e14⟩,hn14⟩:∃x,shU (dia p1 p2 p3) (dia v1 v2 v3)=x:=⟨_,rfl⟩
 obtain⟨⟨l15,u15,e15⟩,hn15⟩:∃x,shT=x:=⟨_,rfl⟩
 obtain⟨⟨l16,u16,e16⟩,hn16⟩:∃x,shE (dia p1 p2 p3) (dia v1 v2 v3)=x:=⟨_,rfl⟩
 have hOk1:PdOk (dia p1 p2 p3) (dia v1 v2 v3)↔(ClOk (dia p1 p2 p3) (dia v1 v2 v3)∧e15=0∧e16=0):=by unfold PdOk;rw[hn15,hn16]
 obtain⟨Sk,hSk⟩:∃Ok:Prop,ClOk (dia p1 p2 p3) (dia v1 v2 v3)=Ok:=⟨_,rfl⟩
 obtain⟨Pk,hPk⟩:∃Ok:Prop,PdOk (dia p1 p2 p3) (dia v1 v2 v3)=Ok:=⟨_,rfl⟩
 rw[hSk,hPk]at hOk1
 have s15:Hid (∀w1,K_ 60 #[.agg #[O 3454217652357,O 3454217652358],O 2,O 1] w1 fun e w2=>e=.returned (.tuple #[.agg #[O l15,O u15],O e15])∧Ext w1 w2):=by
  unfold Hid
  intro w1
  have hh:scI 3454217652357 3454217652358 2 1=⟨l15,u15,e15⟩:=hn15
  have h:=span_sc 3454217652357 3454217652358 2 1 w1 c_11 (by decide) c_11 (by decide)
  rw[hh]at h
  exact h
 have m15:Hid (∀w1,K_ 59 #[.agg #[O l15,O u15],O e15] w1 fun e w2=>((e15=0∧e=.returned (.agg #[O l15,O u15]))∨(¬e15=0∧e=.panicked FALL))∧Ext w1 w2):=fun w1=>k_must ⟨l15,u15,e15⟩ w1
 have s16:Hid (∀w1,K_ 62 #[.agg #[O l15,O u15],.agg #[O l14,O u14]] w1 fun e w2=>((e16=0∧e=.returned (.agg #[O l16,O u16]))∨(¬e16=0∧e=.panicked FALL))∧Ext w1 w2):=by
  unfold Hid
  intro w1
  have hh:divI shT.lo shT.hi (shU (dia p1 p2 p3) (dia v1 v2 v3)).lo (shU (dia p1 p2 p3) (dia v1 v2 v3)).hi=⟨l16,u16,e16⟩:=hn16
  rw[hn15,hn14]at hh
  have h:=k_div l15 u15 l14 u14 w1
  rw[hh]at h
  exact h
 have sp:Hid (∀w1,K_ 61 #[] w1 fun e w2=>e=.returned (.agg #[O 3454217652357,O 3454217652358])∧Ext w1 w2):=fun w1=>t_Pi w1
 have hck0:=fun w1=>k_Check t p1 p2 p3 v1 v2 v3 w1
 obtain⟨E,hEe⟩:∃x,stE t p1 p2 p3 v1 v2 v3=x:=⟨_,rfl⟩
 rw[hEe]at hck0
 have hck:Hid (∀w1,K_ 16 #[.agg #[O t,O p1,O p2,O p3,O v1,O v2,O v3]] w1 fun e w2=>e=.returned (O E)∧Ext w1 w2):=hck0
 rw[hSk,hn2,hn6,hn11,hn12,hn13,hn14]at hcl0
 dsimp only at hcl0
 have hcl:Hid (∀w1,K_ 58 #[.agg #[O t,O p1,O p2,O p3,O v1,O v2,O v3]] w1 fun e w2=>((Sk∧e=.returned (.agg #[O l2,O u2,O l6,O u6,O l11,O u11,O l12,O u12,O l13,O u13,O l14,O u14,O 0,O 0,O 0,O 0]))∨(¬Sk∧e=.panicked FALL))∧Ext w1 w2):=hcl0
 rw[hn16,hPk,hEe]
 dsimp only
 clear hSk hPk hn2 hn6 hn11 hn12 hn13 hn14 hn15 hn16 hcl0 hEe hck0
 have hno1:¬Sk→¬Pk:=fun h k=>h (hOk1.mp k).1
 have hno2:¬e15=0→¬Pk:=fun h k=>h (hOk1.mp k).2.1
 have hno3:¬e16=0→¬Pk:=fun h k=>h (hOk1.mp k).2.2
 have hyes:Sk→e15=0→e16=0→Pk:=fun a b c=>hOk1.mpr ⟨a,b,c⟩
 clear hOk1
 have q0:IntKind.i64.wrap 0=0:=rfl
 have q1:IntKind.i64.wrap 1=1:=rfl
 go_enter_defers Tryz.func21,Tryz.ntmps21
 go_upto_region 1 with fail
 refine wp_nameE fun U0 hU=> ?_
 have hE:Ext w U0:=by
  exact T_KPP_1
 have h7:Bn 7 U0 (w.heap.size) (fun o=>if o=0 then t else if o=1 then p1 else if o=2 then p2 else if o=3 then p3 else if o=4 then v1 else if o=5 then v2 else v3):=by
  rw[←hU]
  refine⟨fun o ho=> ?_,fun o=>by simp[go_sem, ↓IntWalk.iteOmega],by simp<;>omega⟩
  have hoo:o=0∨o=1∨o=2∨o=3∨o=4∨o=5∨o=6:=by omega
  rcases hoo with rfl|rfl|rfl|rfl|rfl|rfl|rfl<;>simp[go_sem, ↓IntWalk.iteOmega]
 have hT2:Bn 2 U0 (w.heap.size+1) (fun _=>0):=by
  rw[←hU]
  refine⟨fun o ho=> ?_,fun o=>by simp[go_sem, ↓IntWalk.iteOmega],by simp<;>omega⟩
  have hoo:o=0∨o=1:=by omega
  rcases hoo with rfl|rfl<;>simp[go_sem, ↓IntWalk.iteOmega]
 have hT3:Bn 1 U0 (w.heap.size+1+1) (fun _=>0):=by
  rw[←hU]
  refine⟨fun o ho=> ?_,fun o=>by simp[go_sem, ↓IntWalk.iteOmega],by simp<;>omega⟩
  have hoo:o=0:=by omega
  subst hoo
  simp[go_sem, ↓IntWalk.iteOmega]
 clear hU
 have h7q0:=h7.at 0 (t) (by decide) rfl
 have h7q1:=h7.at 1 (p1) (by decide) rfl
 have h7q2:=h7.at 2 (p2) (by decide) rfl
 have h7q3:=h7.at 3 (p3) (by decide) rfl
 have h7q4:=h7.at 4 (v1) (by decide) rfl
 have h7q5:=h7.at 5 (v2) (by decide) rfl
 have h7q6:=h7.at 6 (v3) (by decide) rfl
 by_cases h0:E=0
 ·subst h0
  go_upto_region 5 with(go_at_call 16;(with_reducible refine(hck.out _).mono ?_);rintro e w1 ⟨rfl,hb⟩;replace h7:=h7.ext hb;replace hT2:=hT2.ext hb;replace hT3:=hT3.ext hb;replace hE:=hE.trans hb)
  clear h7q0 h7q1 h7q2 h7q3 h7q4 h7q5 h7q6
  have h7q0:=h7.at 0 (t) (by decide) rfl
  have h7q1:=h7.at 1 (p1) (by decide) rfl
  have h7q2:=h7.at 2 (p2) (by decide) rfl
  have h7q3:=h7.at 3 (p3) (by decide) rfl
  have h7q4:=h7.at 4 (v1) (by decide) rfl
  have h7q5:=h7.at 5 (v2) (by decide) rfl
  have h7q6:=h7.at 6 (v3) (by decide) rfl
  go_upto_region 6 with(go_at_call 58;(with_reducible refine(hcl.out _).mono ?_);rintro e w1 ⟨⟨hzS,rfl⟩| ⟨hzS,rfl⟩,hb⟩;rotate_left;(focus (replace h7:=h7.ext hb;replace hT2:=hT2.ext hb;replace hT3:=hT3.ext hb;replace hE:=hE.trans hb;(have hnk:¬Pk:=hno1 hzS);(try go_wp2_with fail);refine leaves_cons (f:=57) (args:=#[.pointer (some ⟨w.heap.size+1+1,0,none⟩)]) (by simp) c_47 ?_;refine(k_caught _ _ (hT3.at 0 0 (by decide) rfl) (hT3.2.1 0)).mono ?_;rintro e u' w'' ⟨rfl,rfl,rfl⟩;(have rhT20:=hT2.at 0 (0) (by decide) rfl);(have fhT20:=hT2.2.1 0);(have rhT21:=hT2.at 1 (0) (by decide) rfl);(have fhT21:=hT2.2.1 1);(have rhT30:=hT3.at 0 (0) (by decide) rfl);(have fhT30:=hT3.2.1 0);(have zT2:=hT2.2.2);(have zT3:=hT3.2.2);(have d23:¬w.heap.size+1=w.heap.size+1+1:=by omega);refine⟨.tuple #[.agg #[O 0,O 0],O 24], ?_,by simp[hnk], ?_⟩;(simp[results,Tryz.results21,go_sem, ↓IntWalk.iteOmega, *]);(have hgg:=(GB.refl (w.heap.size+1+1) w1).set (j:=0) (O 24));exact GB.pre hE (hgg.alloc _) (by omega)));replace h7:=h7.ext hb;replace hT2:=hT2.ext hb;replace hT3:=hT3.ext hb;replace hE:=hE.trans hb)
  refine wp_nameE fun U1 hU=> ?_
  have hx:Ext w1 U1:=by
   exact T_KPP_1
  have hA:Bn 16 U1 (w1.heap.size) (fun o=>if o=0 then l2 else if o=1 then u2 else if o=2 then l6 else if o=3 then u6 else if o=4 then l11 else if o=5 then u11 else if o=6 then l12 else if o=7 then u12 else if o=8 then l13 else if o=9 then u13 else if o=10 then l14 else if o=11 then u14 else if o=12 then 0 else if o=13 then 0 else if o=14 then 0 else 0):=by
   rw[←hU]
   refine⟨fun o ho=> ?_,fun o=>by simp[go_sem, ↓IntWalk.iteOmega],by simp<;>omega⟩
   have hoo:o=0∨o=1∨o=2∨o=3∨o=4∨o=5∨o=6∨o=7∨o=8∨o=9∨o=10∨o=11∨o=12∨o=13∨o=14∨o=15:=by omega
   rcases hoo with rfl|rfl|rfl|rfl|rfl|rfl|rfl|rfl|rfl|rfl|rfl|rfl|rfl|rfl|rfl|rfl<;>simp[go_sem, ↓IntWalk.iteOmega]
  have hOl:=hT3.2.2
  replace hT2:=hT2.ext hx
  replace hT3:=hT3.ext hx
  replace hE:=hE.trans hx
  clear hU hx hb h7 h7q0 h7q1 h7q2 h7q3 h7q4 h7q5 h7q6
  obtain⟨gA,hgA⟩:∃x,w1.heap.size=x:=⟨_,rfl⟩
  rw[hgA]at hA hOl ⊢
  clear hgA
  replace hT2:=hT2.ext ((Ext.refl _).drew)
  replace hT3:=hT3.ext ((Ext.refl _).drew)
  refine wp_region_held_drew (S:=(fun w0=>Bn 16 w0 gA (fun o=>if o=0 then l2 else if o=1 then u2 else if o=2 then l6 else if o=3 then u6 else if o=4 then l11 else if o=5 then u11 else if o=6 then l12 else if o=7 then u12 else if o=8 then l13 else if o=9 then u13 else if o=10 then l14 else if o=11 then u14 else if o=12 then 0 else if o=13 then 0 else if o=14 then 0 else 0)∧Ext w w0)) c_3 ?_ (fun hH=> ?_)
  ·exact⟨hA.ext ((Ext.refl _).drew),hE.drew⟩
  try simp only[sx_]
  refine wpAnyH_name fun Y0 hY=> ?_
  rw[hY]at hH hT2 hT3
  clear hY
  clear hA hE
  refine wpAnyH_take (i:=5) (oi:=_) (v:= ?_) rfl c_3 c_3 c_3 (fun _ _ _ h=>leaves_congr (res17 _ 19 _ (by decide) (by decide)) _ _ _ h) (Or.inl ⟨by rfl, ?_⟩) c_40 ?_
  rotate_left
  ·exact b_31
  try simp only[sx_]
  refine wpAnyH_take (i:=6) (oi:=_) (v:= ?_) rfl c_3 c_3 c_3 (fun _ _ _ h=>leaves_congr (res17 _ 20 _ (by decide) (by decide)) _ _ _ h) (Or.inl ⟨by rfl, ?_⟩) c_40 ?_
  rotate_left
  ·intro w0 hSw;have qa10:=hSw.1.at 10 l14 (by decide) rfl;have qa11:=hSw.1.at 11 u14 (by decide) rfl;go_simp;try with_reducible rfl
  try simp only[sx_]
  refine rh1 0 rfl fun K hK=> ?_
  obtain⟨kA,hE⟩:=id hH
  go_simp
  (go_at_call 61;(with_reducible refine(sp.out _).mono ?_);rintro e w1 ⟨rfl,hb⟩;replace hT2:=hT2.ext hb;replace hT3:=hT3.ext hb;replace kA:=kA.ext hb;replace hE:=hE.trans hb)
  refine hK.out _ _ ?_ fun _=> ?_
  ·(try dsimp only);exact⟨kA,hE⟩
  clear hK K hH
  rename_i hH
  try simp only[sx_]
  clear kA hE hb
  refine rh1 1 rfl fun K hK=> ?_
  obtain⟨kA,hE⟩:=id hH
  go_simp
  (go_at_call 60;(with_reducible refine(s15.out _).mono ?_);rintro e w1 ⟨rfl,hb⟩;replace hT2:=hT2.ext hb;replace hT3:=hT3.ext hb;replace kA:=kA.ext hb;replace hE:=hE.trans hb)
  refine hK.out _ _ ?_ fun _=> ?_
  ·(try dsimp only);exact⟨kA,hE⟩
  clear hK K hH
  rename_i hH
  try simp only[sx_]
  clear kA hE hb
  refine wpAnyH_take (i:=2) (oi:=_) (v:= ?_) rfl c_3 c_3 c_3 (fun _ _ _ h=>leaves_congr (res17 _ 16 _ (by decide) (by decide)) _ _ _ h) (Or.inl ⟨by rfl, ?_⟩) c_40 ?_
  rotate_left
  ·exact b_31
  try simp only[sx_]
  refine wpAnyH_take (i:=3) (oi:=_) (v:= ?_) rfl c_3 c_3 c_3 (fun _ _ _ h=>leaves_congr (res17 _ 17 _ (by decide) (by decide)) _ _ _ h) (Or.inl ⟨by rfl, ?_⟩) c_40 ?_
  rotate_left
  ·exact b_31
  try simp only[sx_]
  refine rh1 4 rfl fun K hK=> ?_
  obtain⟨kA,hE⟩:=id hH
  go_simp
  (go_at_call 59;(with_reducible refine(m15.out _).mono ?_);rintro e w1 ⟨⟨hzm15,rfl⟩| ⟨hzm15,rfl⟩,hb⟩;rotate_left;(focus (replace hT2:=hT2.ext hb;replace hT3:=hT3.ext hb;replace kA:=kA.ext hb;replace hE:=hE.trans hb;(have hnk:¬Pk:=hno2 hzm15);(try go_wp2_with fail);refine leaves_cons (f:=57) (args:=#[.pointer (some ⟨w.heap.size+1+1,0,none⟩)]) (by simp) c_47 ?_;refine(k_caught _ _ (hT3.at 0 0 (by decide) rfl) (hT3.2.1 0)).mono ?_;rintro e u' w'' ⟨rfl,rfl,rfl⟩;(have rhT20:=hT2.at 0 (0) (by decide) rfl);(have fhT20:=hT2.2.1 0);(have rhT21:=hT2.at 1 (0) (by decide) rfl);(have fhT21:=hT2.2.1 1);(have rhT30:=hT3.at 0 (0) (by decide) rfl);(have fhT30:=hT3.2.1 0);(have zT2:=hT2.2.2);(have zT3:=hT3.2.2);(have d23:¬w.heap.size+1=w.heap.size+1+1:=by omega);refine⟨.tuple #[.agg #[O 0,O 0],O 24], ?_,by simp[hnk], ?_⟩;(simp[results,Tryz.results21,go_sem, ↓IntWalk.iteOmega, *]);(have hgg:=(GB.refl (w.heap.size+1+1) w1).set (j:=0) (O 24));exact GB.pre hE (hgg.alloc _) (by omega)));replace hT2:=hT2.ext hb;replace hT3:=hT3.ext hb;replace kA:=kA.ext hb;replace hE:=hE.trans hb)
  refine hK.out _ _ ?_ fun _=> ?_
  ·(try dsimp only);exact⟨kA,hE⟩
  clear hK K hH
  rename_i hH
  try simp only[sx_]
  clear kA hE hb
  refine rh1 7 rfl fun K hK=> ?_
  obtain⟨kA,hE⟩:=id hH
  go_simp
  (go_at_call 62;(with_reducible refine(s16.out _).mono ?_);rintro e w1 ⟨⟨hzs16,rfl⟩| ⟨hzs16,rfl⟩,hb⟩;rotate_left;(focus (replace hT2:=hT2.ext hb;replace hT3:=hT3.ext hb;replace kA:=kA.ext hb;replace hE:=hE.trans hb;(have hnk:¬Pk:=hno3 hzs16);(try go_wp2_with fail);refine leaves_cons (f:=57) (args:=#[.pointer (some ⟨w.heap.size+1+1,0,none⟩)]) (by simp) c_47 ?_;refine(k_caught _ _ (hT3.at 0 0 (by decide) rfl) (hT3.2.1 0)).mono ?_;rintro e u' w'' ⟨rfl,rfl,rfl⟩;(have rhT20:=hT2.at 0 (0) (by decide) rfl);(have fhT20:=hT2.2.1 0);(have rhT21:=hT2.at 1 (0) (by decide) rfl);(have fhT21:=hT2.2.1 1);(have rhT30:=hT3.at 0 (0) (by decide) rfl);(have fhT30:=hT3.2.1 0);(have zT2:=hT2.2.2);(have zT3:=hT3.2.2);(have d23:¬w.heap.size+1=w.heap.size+1+1:=by omega);refine⟨.tuple #[.agg #[O 0,O 0],O 24], ?_,by simp[hnk], ?_⟩;(simp[results,Tryz.results21,go_sem, ↓IntWalk.iteOmega, *]);(have hgg:=(GB.refl (w.heap.size+1+1) w1).set (j:=0) (O 24));exact GB.pre hE (hgg.alloc _) (by omega)));replace hT2:=hT2.ext hb;replace hT3:=hT3.ext hb;replace kA:=kA.ext hb;replace hE:=hE.trans hb)
  refine hK.out _ _ ?_ fun _=> ?_
  ·(try dsimp only);exact⟨kA,hE⟩
  clear hK K hH
  rename_i hH
  try simp only[sx_]
  clear kA hE hb
  refine wpAnyH_take (i:=8) (oi:=_) (v:= ?_) rfl c_3 c_3 c_3 (fun _ _ _ h=>leaves_congr (res17 _ 22 _ (by decide) (by decide)) _ _ _ h) (Or.inl ⟨by rfl, ?_⟩) c_40 ?_
  rotate_left
  ·exact b_31
  try simp only[sx_]
  refine rh1 9 rfl fun K hK=> ?_
  obtain⟨kA,hE⟩:=id hH
  have c0:=hT2.at 0 0 (by decide) rfl
  have c1:=hT2.at 1 0 (by decide) rfl
  have cf:=hT2.2.1
  have hgb:=hT2.gb2 0 1 l16 u16
  replace hT2:=(hT2.set 0 l16).set 1 u16
  replace hT3:=hT3.grown hgb (by omega)
  replace kA:=kA.grown hgb (by omega)
  replace hE:=GB.pre hE hgb (by omega)
  clear hgb
  go_simp
  refine hK.out _ _ ?_ fun _=> ?_
  ·(try dsimp only);exact⟨kA,hE⟩
  clear hK K hH
  rename_i hH
  try simp only[sx_]
  refine wpAnyH_name fun Y1 hY=> ?_
  rw[hY]at hH hT2 hT3
  clear hY
  clear c0 c1 cf kA hE
  refine rh1 10 rfl fun K hK=> ?_
  obtain⟨kA,hE⟩:=id hH
  have c0:=hT3.at 0 0 (by decide) rfl
  have cf:=hT3.2.1
  have hgb:=(GB.refl (w.heap.size+1+1) _).set (a:=Y1) (j:=0) (O 0)
  replace hT3:=hT3.set 0 0
  replace hT2:=hT2.grown hgb (by omega)
  replace kA:=kA.grown hgb (by omega)
  replace hE:=GB.pre hE hgb (by omega)
  clear hgb
  go_simp
  refine hK.out _ _ ?_ fun _=> ?_
  ·(try dsimp only);exact⟨kA,hE⟩
  clear hK K hH
  rename_i hH
  try simp only[sx_]
  refine wpAnyH_name fun Y2 hY=> ?_
  rw[hY]at hH hT2 hT3
  clear hY
  clear c0 cf kA hE
  refine wpAnyH_done c_3 ?_ _
  obtain⟨kA,hE⟩:=hH
  have rhT20:=hT2.at 0 (l16) (by decide) rfl
  have fhT20:=hT2.2.1 0
  have rhT21:=hT2.at 1 (u16) (by decide) rfl
  have fhT21:=hT2.2.1 1
  have rhT30:=hT3.at 0 (0) (by decide) rfl
  have fhT30:=hT3.2.1 0
  have zT2:=hT2.2.2
  have zT3:=hT3.2.2
  go_wp2_with fail
  refine leaves_cons (f:=57) (args:=#[.pointer (some ⟨w.heap.size+1+1,0,none⟩)]) (by simp) c_47 ?_
  refine(k_catch _ _).mono ?_
  rintro e u' w'' ⟨rfl,rfl,rfl⟩
  have hyk:=hyes hzS hzm15 hzs16
  refine⟨.tuple #[.agg #[O l16,O u16],O 0], ?_, ?_,hE⟩
  ·simp[results,Tryz.results21,go_sem, ↓IntWalk.iteOmega, *]
  ·simp[hyk]
 ·go_wp2_with (go_at_call 16;(with_reducible refine(hck.out _).mono ?_);rintro e w1 ⟨rfl,hb⟩;replace h7:=h7.ext hb;replace hT2:=hT2.ext hb;replace hT3:=hT3.ext hb;replace hE:=hE.trans hb;(have rhT20:=hT2.at 0 (0) (by decide) rfl);(have fhT20:=hT2.2.1 0);(have rhT21:=hT2.at 1 (0) (by decide) rfl);(have fhT21:=hT2.2.1 1);(have rhT30:=hT3.at 0 (0) (by decide) rfl);(have fhT30:=hT3.2.1 0);(have zT2:=hT2.2.2);(have zT3:=hT3.2.2))
  have d23:¬w.heap.size+1=w.heap.size+1+1:=by omega
  refine⟨.tuple #[.agg #[O 0,O 0],O E], ?_,Or.inl ⟨h0,rfl⟩, ?_⟩
  ·simp[results,Tryz.results21,go_sem, ↓IntWalk.iteOmega, *]
  ·exact b_1
theorem k_closed (t p1 p2 p3 v1 v2 v3:Int) (w:World) (ip1:I64 p1) (ip2:I64 p2) (ip3:I64 p3) (iv1:I64 v1) (iv2:I64 v2) (iv3:I64 v3):K_ 58 #[.agg #[O t,O p1,O p2,O p3,O v1,O v2,O v3]] w fun e w'=>((ClOk (dia p1 p2 p3) (dia v1 v2 v3)∧e=.returned (.agg #[O (shR (dia p1 p2 p3)).lo,O (shR (dia p1 p2 p3)).hi,O (shA (dia p1 p2 p3) (dia v1 v2 v3)).lo,O (shA (dia p1 p2 p3) (dia v1 v2 v3)).hi,O (shK (dia p1 p2 p3) (dia v1 v2 v3)).lo,O (shK (dia p1 p2 p3) (dia v1 v2 v3)).hi,O (shZ).lo,O (shZ).hi,O (shQ (dia p1 p2 p3) (dia v1 v2 v3)).lo,O (shQ (dia p1 p2 p3) (dia v1 v2 v3)).hi,O (shU (dia p1 p2 p3) (dia v1 v2 v3)).lo,O (shU (dia p1 p2 p3) (dia v1 v2 v3)).hi,O 0,O 0,O 0,O 0]))∨(¬ClOk (dia p1 p2 p3) (dia v1 v2 v3)∧e=.panicked FALL))∧Ext w w':=
 k_closed0 t p1 p2 p3 v1 v2 v3 (fun w1=>k_shape t p1 p2 p3 v1 v2 v3 w1 ip1 ip2 ip3 iv1 iv2 iv3) w
theorem k_Shape (t p1 p2 p3 v1 v2 v3:Int) (w:World) (ip1:I64 p1) (ip2:I64 p2) (ip3:I64 p3) (iv1:I64 v1) (iv2:I64 v2) (iv3:I64 v3):K_ 22 #[.agg #[O t,O p1,O p2,O p3,O v1,O v2,O v3]] w fun e w'=>((¬stE t p1 p2 p3 v1 v2 v3=0∧e=.returned (.tuple #[.agg #[O 0,O 0],.agg #[O 0,O 0],O (stE t p1 p2 p3 v1 v2 v3)]))∨(stE t p1 p2 p3 v1 v2 v3=0∧ShOk (dia p1 p2 p3) (dia v1 v2 v3)∧e=.returned (.tuple #[.agg #[O (shA (dia p1 p2 p3) (dia v1 v2 v3)).lo,O (shA (dia p1 p2 p3) (dia v1 v2 v3)).hi],.agg #[O (shK (dia p1 p2 p3) (dia v1 v2 v3)).lo,O (shK (dia p1 p2 p3) (dia v1 v2 v3)).hi],O 0]))∨(stE t p1 p2 p3 v1 v2 v3=0∧¬ShOk (dia p1 p2 p3) (dia v1 v2 v3)∧e=.returned (.tuple #[.agg #[O 0,O 0],.agg #[O 0,O 0],O 24])))∧Ext w w':=
 k_Shape0 t p1 p2 p3 v1 v2 v3 (fun w1=>k_shape t p1 p2 p3 v1 v2 v3 w1 ip1 ip2 ip3 iv1 iv2 iv3) w
theorem k_Period (t p1 p2 p3 v1 v2 v3:Int) (w:World) (ip1:I64 p1) (ip2:I64 p2) (ip3:I64 p3) (iv1:I64 v1) (iv2:I64 v2) (iv3:I64 v3):K_ 21 #[.agg #[O t,O p1,O p2,O p3,O v1,O v2,O v3]] w fun e w'=>((¬stE t p1 p2 p3 v1 v2 v3=0∧e=.returned (.tuple #[.agg #[O 0,O 0],O (stE t p1 p2 p3 v1 v2 v3)]))∨(stE t p1 p2 p3 v1 v2 v3=0∧PdOk (dia p1 p2 p3) (dia v1 v2 v3)∧e=.returned (.tuple #[.agg #[O (shE (dia p1 p2 p3) (dia v1 v2 v3)).lo,O (shE (dia p1 p2 p3) (dia v1 v2 v3)).hi],O 0]))∨(stE t p1 p2 p3 v1 v2 v3=0∧¬PdOk (dia p1 p2 p3) (dia v1 v2 v3)∧e=.returned (.tuple #[.agg #[O 0,O 0],O 24])))∧Ext w w':=
 k_Period0 t p1 p2 p3 v1 v2 v3 (fun w1=>k_closed t p1 p2 p3 v1 v2 v3 w1 ip1 ip2 ip3 iv1 iv2 iv3) w
theorem sqrtI_of {a b r s t:Int} (ha:IsRoot a r) (hb:IsRoot b s) (h:ckI a b=0) (h0:0≤a) (ht:(if s*s=b*1099511627776 then s else s+1)=t):sqrtI a b=⟨r,t,0⟩:=by
 unfold sqrtI
 rw[if_neg (by rw[h];decide),if_neg (by omega), ←ha.eq, ←hb.eq,ht]
theorem re_R:shR (dia 1099511627776 0 0)=⟨1099511627776,1099511627776,0⟩:=by
 unfold shR
 rw[show nrmV (dia 1099511627776 0 0)=⟨1099511627776,1099511627776,0⟩ by kernel_rfl]
 exact sqrtI_of (r:=1099511627776) (s:=1099511627776) c_55 c_55 (by decide) (by decide) (by decide)
theorem re_I:shI (dia 1099511627776 0 0)=⟨2199023255552,2199023255552,0⟩:=by
 unfold shI
 rw[re_R]
 kernel_rfl
theorem re_A:shA (dia 1099511627776 0 0) (dia 0 0 0)=⟨2199023255552,2199023255552,0⟩:=by
 unfold shA
 rw[re_I]
 kernel_rfl
theorem re_M:shM (dia 1099511627776 0 0) (dia 0 0 0)=⟨0,0,0⟩:=by
 unfold shM
 rw[re_A]
 kernel_rfl
theorem re_D:shD (dia 1099511627776 0 0) (dia 0 0 0)=⟨0,0,0⟩:=by
 unfold shD
 rw[re_M]
 kernel_rfl
theorem re_K:shK (dia 1099511627776 0 0) (dia 0 0 0)=⟨1099511627776,1099511627776,0⟩:=by
 unfold shK
 rw[re_D]
 kernel_rfl
theorem re_Z:shZ=⟨18913907794,18913907824,0⟩:=by
 unfold shZ
 exact sqrtI_of (r:=18913907794) (s:=18913907823) c_55 c_55 (by decide) (by decide) (by decide)
theorem re_Q:shQ (dia 1099511627776 0 0) (dia 0 0 0)=⟨1554944255987,1554944255988,0⟩:=by
 unfold shQ
 rw[re_A]
 exact sqrtI_of (r:=1554944255987) (s:=1554944255987) c_55 c_55 (by decide) (by decide) (by decide)
theorem re_U:shU (dia 1099511627776 0 0) (dia 0 0 0)=⟨53496609839,53496609925,0⟩:=by
 unfold shU
 rw[re_Z,re_A,re_Q]
 kernel_rfl
theorem re_ok:ShOk (dia 1099511627776 0 0) (dia 0 0 0):=⟨by kernel_rfl,by rw[re_R],by rw[re_I],by kernel_rfl,by kernel_rfl,by rw[re_A],by kernel_rfl,by kernel_rfl,by rw[re_M],by rw[re_D],by rw[re_K]⟩
theorem re_cl:ClOk (dia 1099511627776 0 0) (dia 0 0 0):=⟨re_ok,by rw[re_A];decide,by rw[re_Q],by rw[re_U]⟩
theorem re_closed (w:World):K_ 58 #[.agg #[O 0,O 1099511627776,O 0,O 0,O 0,O 0,O 0]] w fun e w'=>e=.returned (.agg #[O 1099511627776,O 1099511627776,O 2199023255552,O 2199023255552,O 1099511627776,O 1099511627776,O 18913907794,O 18913907824,O 1554944255987,O 1554944255988,O 53496609839,O 53496609925,O 0,O 0,O 0,O 0])∧Ext w w':=by
 have h:=k_closed 0 1099511627776 0 0 0 0 0 w c_11 c_11 c_11 c_11 c_11 c_11
 rw[re_R,re_A,re_K,re_Z,re_Q,re_U]at h
 refine h.mono ?_
 rintro e w' ⟨⟨-,h1⟩| ⟨h1, -⟩,k⟩
 ·exact⟨h1,k⟩
 ·exact absurd re_cl h1
theorem fa_A:(shA (dia 1099511627776 0 0) (dia 0 68719476736 0)).lo≤0:=by
 unfold shA
 rw[re_I]
 exact of_decide_eq_true c_3
theorem fa_cl:¬ClOk (dia 1099511627776 0 0) (dia 0 68719476736 0):=fun h=>by have:=fa_A;have:=h.2.1;omega
theorem fa_closed (w:World):K_ 58 #[.agg #[O 0,O 1099511627776,O 0,O 0,O 0,O 68719476736,O 0]] w fun e w'=>e=.panicked FALL∧Ext w w':=by
 refine(k_closed 0 1099511627776 0 0 0 68719476736 0 w c_11 c_11 c_11 c_11 c_11 c_11).mono ?_
 rintro e w' ⟨⟨h1, -⟩| ⟨-,h1⟩,k⟩
 ·exact absurd h1 fa_cl
 ·exact⟨h1,k⟩
theorem fa_Period (w:World):K_ 21 #[.agg #[O 0,O 1099511627776,O 0,O 0,O 0,O 68719476736,O 0]] w fun e w'=>e=.returned (.tuple #[.agg #[O 0,O 0],O 24])∧Ext w w':=by
 refine(k_Period 0 1099511627776 0 0 0 68719476736 0 w c_11 c_11 c_11 c_11 c_11 c_11).mono ?_
 rintro e w' ⟨⟨h1, -⟩| ⟨-,h1, -⟩| ⟨-, -,h1⟩,k⟩
 ·exact absurd c_3 h1
 ·exact absurd h1.1 fa_cl
 ·exact⟨h1,k⟩
theorem on_R:shR (dia 1 0 0)=⟨0,1048576,0⟩:=by
 unfold shR
 rw[show nrmV (dia 1 0 0)=⟨0,1,0⟩ by kernel_rfl]
 exact sqrtI_of (r:=0) (s:=1048576) c_55 c_55 (by decide) (by decide) (by decide)
theorem on_ok:¬ShOk (dia 1 0 0) (dia 0 0 0):=fun h=>by
 have h1:=h.2.2.1
 unfold shI at h1
 rw[on_R]at h1
 exact absurd h1 (of_decide_eq_false c_3)
theorem on_Shape (w:World):K_ 22 #[.agg #[O 0,O 1,O 0,O 0,O 0,O 0,O 0]] w fun e w'=>e=.returned (.tuple #[.agg #[O 0,O 0],.agg #[O 0,O 0],O 24])∧Ext w w':=by
 refine(k_Shape 0 1 0 0 0 0 0 w c_11 c_11 c_11 c_11 c_11 c_11).mono ?_
 rintro e w' ⟨⟨h1, -⟩| ⟨-,h1, -⟩| ⟨-, -,h1⟩,k⟩
 ·exact absurd c_3 h1
 ·exact absurd h1 on_ok
 ·exact⟨h1,k⟩
theorem re_Shape (w:World):K_ 22 #[.agg #[O 0,O 1099511627776,O 0,O 0,O 0,O 0,O 0]] w fun e w'=>e=.returned (.tuple #[.agg #[O 2199023255552,O 2199023255552],.agg #[O 1099511627776,O 1099511627776],O 0])∧Ext w w':=by
 have h:=k_Shape 0 1099511627776 0 0 0 0 0 w c_11 c_11 c_11 c_11 c_11 c_11
 rw[re_A,re_K]at h
 refine h.mono ?_
 rintro e w' ⟨⟨h1, -⟩| ⟨-, -,h1⟩| ⟨-,h1, -⟩,k⟩
 ·exact absurd c_3 h1
 ·exact⟨h1,k⟩
 ·exact absurd re_ok h1
end Go.Proofs.YtaoioncjmfcolaaGreat
