/- kepler.closed. -/
import Derived.Test.YtaoioncjmfcolaaGreatV39
set_option linter.unusedSimpArgs false
set_option linter.unusedVariables false
set_option maxRecDepth 100000
set_option maxHeartbeats 4000000
namespace Go.Proofs.YtaoioncjmfcolaaGreat
open Go.RowKit
theorem T_KL_2 {p:Prop} (h:p:=by
 rw[←hU]
 repeat(first|with_reducible exact Ext.refl _|with_reducible assumption|with_reducible refine Ext.alloc ?_ _|with_reducible refine Ext.setCell ?_ c_27 _|with_reducible refine Ext.drewN ?_ _|with_reducible refine Ext.drew ?_|with_reducible refine Ext.trans ?_ c_7)):p:=h
theorem T_KL_1 {p:Prop} (h:p:=by
 rw[←hU]
 refine⟨fun o ho=> ?_,fun o=>by simp[go_sem, ↓IntWalk.iteOmega],by simp<;>omega⟩
 have hoo:o=0∨o=1∨o=2∨o=3∨o=4∨o=5∨o=6∨o=7∨o=8∨o=9∨o=10∨o=11∨o=12∨o=13∨o=14∨o=15:=by omega
 rcases hoo with rfl|rfl|rfl|rfl|rfl|rfl|rfl|rfl|rfl|rfl|rfl|rfl|rfl|rfl|rfl|rfl<;>simp[go_sem, ↓IntWalk.iteOmega]):p:=h
theorem k_closed0 (t p1 p2 p3 v1 v2 v3:Int) (hsh0:∀w1,K_ 63 #[.agg #[O t,O p1,O p2,O p3,O v1,O v2,O v3]] w1 fun e w2=>((ShOk (dia p1 p2 p3) (dia v1 v2 v3)∧e=.returned (.agg #[O (shR (dia p1 p2 p3)).lo,O (shR (dia p1 p2 p3)).hi,O (shA (dia p1 p2 p3) (dia v1 v2 v3)).lo,O (shA (dia p1 p2 p3) (dia v1 v2 v3)).hi,O (shK (dia p1 p2 p3) (dia v1 v2 v3)).lo,O (shK (dia p1 p2 p3) (dia v1 v2 v3)).hi,O (shZ).lo,O (shZ).hi,O 0,O 0,O 0,O 0,O 0,O 0,O 0,O 0]))∨(¬ShOk (dia p1 p2 p3) (dia v1 v2 v3)∧e=.panicked FALL))∧Ext w1 w2) (w:World):K_ 58 #[.agg #[O t,O p1,O p2,O p3,O v1,O v2,O v3]] w fun e w'=>((ClOk (dia p1 p2 p3) (dia v1 v2 v3)∧e=.returned (.agg #[O (shR (dia p1 p2 p3)).lo,O (shR (dia p1 p2 p3)).hi,O (shA (dia p1 p2 p3) (dia v1 v2 v3)).lo,O (shA (dia p1 p2 p3) (dia v1 v2 v3)).hi,O (shK (dia p1 p2 p3) (dia v1 v2 v3)).lo,O (shK (dia p1 p2 p3) (dia v1 v2 v3)).hi,O (shZ).lo,O (shZ).hi,O (shQ (dia p1 p2 p3) (dia v1 v2 v3)).lo,O (shQ (dia p1 p2 p3) (dia v1 v2 v3)).hi,O (shU (dia p1 p2 p3) (dia v1 v2 v3)).lo,O (shU (dia p1 p2 p3) (dia v1 v2 v3)).hi,O 0,O 0,O 0,O 0]))∨(¬ClOk (dia p1 p2 p3) (dia v1 v2 v3)∧e=.panicked FALL))∧Ext w w':=by
 obtain⟨⟨l2,u2,e2⟩,hn2⟩:∃x,shR (dia p1 p2 p3)=x:=⟨_,rfl⟩
 obtain⟨⟨l6,u6,e6⟩,hn6⟩:∃x,shA (dia p1 p2 p3) (dia v1 v2 v3)=x:=⟨_,rfl⟩
 obtain⟨⟨l11,u11,e11⟩,hn11⟩:∃x,shK (dia p1 p2 p3) (dia v1 v2 v3)=x:=⟨_,rfl⟩
 obtain⟨⟨l12,u12,e12⟩,hn12⟩:∃x,shZ=x:=⟨_,rfl⟩
 obtain⟨⟨l13,u13,e13⟩,hn13⟩:∃x,shQ (dia p1 p2 p3) (dia v1 v2 v3)=x:=⟨_,rfl⟩
 obtain⟨⟨l14,u14,e14⟩,hn14⟩:∃x,shU (dia p1 p2 p3) (dia v1 v2 v3)=x:=⟨_,rfl⟩
 have i12:I64 l12∧I64 u12:=by have h:=sqrtI_W 325358913 325358914;have hh:sqrtI 325358913 325358914=⟨l12,u12,e12⟩:=hn12;rw[hh]at h;exact h
 have i6:I64 l6∧I64 u6:=by have h:=subI_W (shI (dia p1 p2 p3)).lo (shI (dia p1 p2 p3)).hi (shB (dia v1 v2 v3)).lo (shB (dia v1 v2 v3)).hi;have hh:subI (shI (dia p1 p2 p3)).lo (shI (dia p1 p2 p3)).hi (shB (dia v1 v2 v3)).lo (shB (dia v1 v2 v3)).hi=⟨l6,u6,e6⟩:=hn6;rw[hh]at h;exact h
 have i13:I64 l13∧I64 u13:=by have h:=sqrtI_W (shA (dia p1 p2 p3) (dia v1 v2 v3)).lo (shA (dia p1 p2 p3) (dia v1 v2 v3)).hi;have hh:sqrtI (shA (dia p1 p2 p3) (dia v1 v2 v3)).lo (shA (dia p1 p2 p3) (dia v1 v2 v3)).hi=⟨l13,u13,e13⟩:=hn13;rw[hh]at h;exact h
 have s13:Hid (∀w1,K_ 122 #[.agg #[O l6,O u6]] w1 fun e w2=>((e13=0∧e=.returned (.agg #[O l13,O u13]))∨(¬e13=0∧e=.panicked FALL))∧Ext w1 w2):=by
  unfold Hid
  intro w1
  have hh:sqrtI (shA (dia p1 p2 p3) (dia v1 v2 v3)).lo (shA (dia p1 p2 p3) (dia v1 v2 v3)).hi=⟨l13,u13,e13⟩:=hn13
  rw[hn6]at hh
  have h:=k_root l6 u6 w1
  rw[hh]at h
  exact h
 have s14:Hid (∀(g cap:Nat) w1,Bn 4 w1 g (fun o=>if o=0 then l6 else if o=1 then u6 else if o=2 then l13 else u13)→K_ 115 #[.agg #[O l12,O u12],.slice (some ⟨g,0,none⟩) 2 cap] w1 fun e w2=>((e14=0∧e=.returned (.agg #[O l14,O u14]))∨(¬e14=0∧e=.panicked FALL))∧Ext w1 w2):=by
  unfold Hid
  intro g cap w1 hb
  have hh:mul2I shZ.lo shZ.hi (shA (dia p1 p2 p3) (dia v1 v2 v3)).lo (shA (dia p1 p2 p3) (dia v1 v2 v3)).hi (shQ (dia p1 p2 p3) (dia v1 v2 v3)).lo (shQ (dia p1 p2 p3) (dia v1 v2 v3)).hi=⟨l14,u14,e14⟩:=hn14
  rw[hn12,hn6,hn13]at hh
  have h:=k_mul2 l12 u12 l6 u6 l13 u13 g cap w1 i12 i6 i13 (hb.at 0 l6 (by decide) rfl) (hb.at 1 u6 (by decide) rfl) (hb.at 2 l13 (by decide) rfl) (hb.at 3 u13 (by decide) rfl)
  rw[hh]at h
  exact h
 have hOk1:ClOk (dia p1 p2 p3) (dia v1 v2 v3)↔(ShOk (dia p1 p2 p3) (dia v1 v2 v3)∧0<l6∧e13=0∧e14=0):=by unfold ClOk;rw[hn6,hn13,hn14]
 obtain⟨Ok,hOk⟩:∃Ok:Prop,ClOk (dia p1 p2 p3) (dia v1 v2 v3)=Ok:=⟨_,rfl⟩
 obtain⟨Sk,hSk⟩:∃Ok:Prop,ShOk (dia p1 p2 p3) (dia v1 v2 v3)=Ok:=⟨_,rfl⟩
 rw[hOk,hSk]at hOk1
 rw[hSk,hn2,hn6,hn11,hn12]at hsh0
 dsimp only at hsh0
 have hsh:Hid (∀w1,K_ 63 #[.agg #[O t,O p1,O p2,O p3,O v1,O v2,O v3]] w1 fun e w2=>((Sk∧e=.returned (.agg #[O l2,O u2,O l6,O u6,O l11,O u11,O l12,O u12,O 0,O 0,O 0,O 0,O 0,O 0,O 0,O 0]))∨(¬Sk∧e=.panicked FALL))∧Ext w1 w2):=hsh0
 rw[hn2,hn6,hn11,hn12,hn13,hn14,hOk]
 dsimp only
 clear hOk hSk hn2 hn6 hn11 hn12 hn13 hn14 i12 i6 i13 hsh0
 have hno1:¬Sk→¬Ok:=fun h k=>h (hOk1.mp k).1
 have hno13:¬e13=0→¬Ok:=fun h k=>h (hOk1.mp k).2.2.1
 have hno14:¬e14=0→¬Ok:=fun h k=>h (hOk1.mp k).2.2.2
 have hnoA:l6≤0→¬Ok:=fun h k=>by have:=(hOk1.mp k).2.1;omega
 have hyes:Sk→0<l6→e13=0→e14=0→Ok:=fun a b c d=>hOk1.mpr ⟨a,b,c,d⟩
 clear hOk1
 have q0:IntKind.i64.wrap 0=0:=rfl
 have q1:IntKind.i64.wrap 1=1:=rfl
 go_enter Tryz.func58,Tryz.ntmps58
 go_upto_region 1 with fail
 refine wp_nameE fun U0 hU=> ?_
 have hE:Ext w U0:=by
  exact T_KL_2
 have h7:Bn 7 U0 (w.heap.size) (fun o=>if o=0 then t else if o=1 then p1 else if o=2 then p2 else if o=3 then p3 else if o=4 then v1 else if o=5 then v2 else v3):=by
  rw[←hU]
  refine⟨fun o ho=> ?_,fun o=>by simp[go_sem, ↓IntWalk.iteOmega],by simp<;>omega⟩
  have hoo:o=0∨o=1∨o=2∨o=3∨o=4∨o=5∨o=6:=by omega
  rcases hoo with rfl|rfl|rfl|rfl|rfl|rfl|rfl<;>simp[go_sem, ↓IntWalk.iteOmega]
 have hO:Bn 16 U0 (w.heap.size+1) (fun _=>0):=by
  exact T_KL_1
 clear hU
 have h7q0:=h7.at 0 (t) (by decide) rfl
 have h7q1:=h7.at 1 (p1) (by decide) rfl
 have h7q2:=h7.at 2 (p2) (by decide) rfl
 have h7q3:=h7.at 3 (p3) (by decide) rfl
 have h7q4:=h7.at 4 (v1) (by decide) rfl
 have h7q5:=h7.at 5 (v2) (by decide) rfl
 have h7q6:=h7.at 6 (v3) (by decide) rfl
 go_upto_region 2 with(go_at_call 63;(with_reducible refine(hsh.out _).mono ?_);rintro e w1 ⟨⟨hzS,rfl⟩| ⟨hzS,rfl⟩,hb⟩;(rotate_left;(focus ((try go_wp2_with fail);refine⟨rfl,Or.inr ⟨?_,rfl⟩, ?_⟩;(exact hno1 hzS);(exact hE.trans hb))));replace hO:=hO.ext hb;replace hE:=hE.trans hb)
 refine wp_nameE fun U1 hU=> ?_
 have hx:Ext w1 U1:=by
  exact T_KL_2
 have hA:Bn 16 U1 (w1.heap.size) (fun o=>if o=0 then l2 else if o=1 then u2 else if o=2 then l6 else if o=3 then u6 else if o=4 then l11 else if o=5 then u11 else if o=6 then l12 else if o=7 then u12 else if o=8 then 0 else if o=9 then 0 else if o=10 then 0 else if o=11 then 0 else if o=12 then 0 else if o=13 then 0 else if o=14 then 0 else 0):=by
  exact T_KL_1
 have hOl:=hO.2.2
 replace hO:=hO.ext hx
 replace hE:=hE.trans hx
 clear hU hx hb h7 h7q0 h7q1 h7q2 h7q3 h7q4 h7q5 h7q6
 obtain⟨gA,hgA⟩:∃x,w1.heap.size=x:=⟨_,rfl⟩
 rw[hgA]at hA hOl ⊢
 clear hgA
 have a2:=hA.at 2 l6 (by decide) rfl
 have hpos:0<l6∨l6≤0:=by omega
 rcases hpos with hpos|hpos
 rotate_left
 ·go_wp2_with fail
  refine⟨rfl,Or.inr ⟨hnoA hpos,rfl⟩, ?_⟩
  exact hE
 have a3:=hA.at 3 u6 (by decide) rfl
 go_upto_region 5 with(go_at_call 122;(with_reducible refine(s13.out _).mono ?_);rintro e w1 ⟨⟨hz13,rfl⟩| ⟨hz13,rfl⟩,hb⟩;(rotate_left;(focus ((try go_wp2_with fail);refine⟨rfl,Or.inr ⟨?_,rfl⟩, ?_⟩;(exact hno13 hz13);(exact hE.trans hb))));replace hO:=hO.ext hb;replace hA:=hA.ext hb;replace hE:=hE.trans hb;(have c0:=hA.at 8 0 (by decide) rfl);(have c1:=hA.at 9 0 (by decide) rfl);(have cf0:=hA.2.1 8);(have cf1:=hA.2.1 9))
 refine wp_nameE fun U2 hU=> ?_
 have hgb:=hA.gb2 8 9 l13 u13
 have hAn:=(hA.set 8 l13).set 9 u13
 rw[hU]at hgb hAn
 replace hO:=hO.grown hgb (by omega)
 replace hE:=GB.pre hE hgb (by omega)
 replace hA:=hAn
 clear hU hgb hAn c0 c1 cf0 cf1 a2 a3 hb
 have hAq0:=hA.at 0 (l2) (by decide) rfl
 have hAq1:=hA.at 1 (u2) (by decide) rfl
 have hAq2:=hA.at 2 (l6) (by decide) rfl
 have hAq3:=hA.at 3 (u6) (by decide) rfl
 have hAq4:=hA.at 4 (l11) (by decide) rfl
 have hAq5:=hA.at 5 (u11) (by decide) rfl
 have hAq6:=hA.at 6 (l12) (by decide) rfl
 have hAq7:=hA.at 7 (u12) (by decide) rfl
 have hAq8:=hA.at 8 (l13) (by decide) rfl
 have hAq9:=hA.at 9 (u13) (by decide) rfl
 go_upto_region 6 with(go_at_call 115;(have hq:=s14.out _ 2 _ (Bn.four U2 l6 u6 l13 u13 104));(with_reducible refine hq.mono ?_);rintro e w1 ⟨⟨hz14,rfl⟩| ⟨hz14,rfl⟩,hb0⟩;(rotate_left;(focus ((try go_wp2_with fail);refine⟨rfl,Or.inr ⟨?_,rfl⟩, ?_⟩;(exact hno14 hz14);(exact hE.trans (Ext.trans (Ext.alloc (Ext.refl U2) _) hb0)))));(have hb:=Ext.trans (Ext.alloc (Ext.refl U2) _) hb0);replace hO:=hO.ext hb;replace hA:=hA.ext hb;replace hE:=hE.trans hb;(have c0:=hA.at 10 0 (by decide) rfl);(have c1:=hA.at 11 0 (by decide) rfl);(have cf0:=hA.2.1 10);(have cf1:=hA.2.1 11))
 refine wp_nameE fun U3 hU=> ?_
 have hgb:=hA.gb2 10 11 l14 u14
 have hAn:=(hA.set 10 l14).set 11 u14
 rw[hU]at hgb hAn
 replace hO:=hO.grown hgb (by omega)
 replace hE:=GB.pre hE hgb (by omega)
 replace hA:=hAn
 clear hU hgb hAn c0 c1 cf0 cf1 hb hb0 hAq0 hAq1 hAq2 hAq3 hAq4 hAq5 hAq6 hAq7 hAq8 hAq9
 have hAq0:=hA.at 0 (l2) (by decide) rfl
 have hAq1:=hA.at 1 (u2) (by decide) rfl
 have hAq2:=hA.at 2 (l6) (by decide) rfl
 have hAq3:=hA.at 3 (u6) (by decide) rfl
 have hAq4:=hA.at 4 (l11) (by decide) rfl
 have hAq5:=hA.at 5 (u11) (by decide) rfl
 have hAq6:=hA.at 6 (l12) (by decide) rfl
 have hAq7:=hA.at 7 (u12) (by decide) rfl
 have hAq8:=hA.at 8 (l13) (by decide) rfl
 have hAq9:=hA.at 9 (u13) (by decide) rfl
 have hAq10:=hA.at 10 (l14) (by decide) rfl
 have hAq11:=hA.at 11 (u14) (by decide) rfl
 have hAq12:=hA.at 12 (0) (by decide) rfl
 have hAq13:=hA.at 13 (0) (by decide) rfl
 have hAq14:=hA.at 14 (0) (by decide) rfl
 have hAq15:=hA.at 15 (0) (by decide) rfl
 have o0:=hO.at 0 0 (by decide) rfl
 have of0:=hO.2.1 0
 have o1:=hO.at 1 0 (by decide) rfl
 have of1:=hO.2.1 1
 have o2:=hO.at 2 0 (by decide) rfl
 have of2:=hO.2.1 2
 have o3:=hO.at 3 0 (by decide) rfl
 have of3:=hO.2.1 3
 have o4:=hO.at 4 0 (by decide) rfl
 have of4:=hO.2.1 4
 have o5:=hO.at 5 0 (by decide) rfl
 have of5:=hO.2.1 5
 have o6:=hO.at 6 0 (by decide) rfl
 have of6:=hO.2.1 6
 have o7:=hO.at 7 0 (by decide) rfl
 have of7:=hO.2.1 7
 have o8:=hO.at 8 0 (by decide) rfl
 have of8:=hO.2.1 8
 have o9:=hO.at 9 0 (by decide) rfl
 have of9:=hO.2.1 9
 have o10:=hO.at 10 0 (by decide) rfl
 have of10:=hO.2.1 10
 have o11:=hO.at 11 0 (by decide) rfl
 have of11:=hO.2.1 11
 have o12:=hO.at 12 0 (by decide) rfl
 have of12:=hO.2.1 12
 have o13:=hO.at 13 0 (by decide) rfl
 have of13:=hO.2.1 13
 have o14:=hO.at 14 0 (by decide) rfl
 have of14:=hO.2.1 14
 have o15:=hO.at 15 0 (by decide) rfl
 have of15:=hO.2.1 15
 go_wp2_with fail
 refine bodyPost_ret (v:=.agg #[O l2,O u2,O l6,O u6,O l11,O u11,O l12,O u12,O l13,O u13,O l14,O u14,O 0,O 0,O 0,O 0]) ?_ rfl ⟨Or.inl ⟨hyes hzS hpos hz13 hz14,rfl⟩, ?_⟩
 ·simp[results,Tryz.results58,go_sem, ↓IntWalk.iteOmega, *]
 ·exact b_30
theorem T_KD_1 {p:Prop} (h:p:=by
 refine callsD_of_wpS Tryz.func57 rfl fun c₀ cs hu=> ?_
 apply wpS_seq
 apply wpS_region
 simp[wpOpsS,go_sem,recoverD,hu,Tryz.ntmps57,Exit.thenS]
 refine wpS_of_wp ?_
 go_wp2
 cases c₀
 simp_all [bodyPostS,results,Tryz.results57]):p:=h
@[go_sem] theorem as119 (v:Value) (w:World):(Instr.typeAssert (.iface 168 v) 20 168 true).run Tryz.prog w=.ok (.tuple #[v,.bool true]) w:=by kernel_rfl
theorem k_catch (p:Value) (w:World):
    CallsD Tryz.prog 57 #[p] .returning w fun e u' w'=>e=.returned (.tuple #[])∧u'=.returning∧w'=w:=by
 exact T_KD_1
theorem k_caught (g:Nat) (w:World) (hc:w.cell? ⟨g,0,none⟩=some (O 0)) (hz:w.frozen? ⟨g,0,none⟩=false):
    CallsD Tryz.prog 57 #[.pointer (some ⟨g,0,none⟩)] (.panicking [{v:=.iface 168 (.agg #[]),recovered:=false}]) w fun e u' w'=>
      e=.returned (.tuple #[])∧u'=.panicking [{v:=.iface 168 (.agg #[]),recovered:=true}]∧w'=(w.setCell ⟨g,0,none⟩ (O 24)).alloc (.cells #[] 168):=by
 have hgl:g<w.heap.size:=World.block_lt_of_cell? w _ hc
 exact T_KD_1
end Go.Proofs.YtaoioncjmfcolaaGreat
set_option linter.unusedSimpArgs false
namespace Go.Proofs.YtaoioncjmfcolaaGreat
open Go.RowKit
theorem leaves_congr {P:Program} {fn:Func} {t1 t2:Array Value} {R:Ending→World→Prop} (h:results fn t1=results fn t2) (ds:List Deferred) (u:FrameMode) (w:World) (k:Leaves P fn t1 R ds u w):Leaves P fn t2 R ds u w:=by
 have he:∀ds u w,Leaves P fn t1 R ds u w=Leaves P fn t2 R ds u w:=by
  intro ds
  induction ds with
  |nil=>intro u w;cases u<;>simp[Leaves,h]
  |cons d ds ih=>intro u w;simp only[Leaves,ih]
 rw[←he];exact k
theorem res15 (t:Array Value) (i:Nat) (v:Value) (h2:i≠2) (h3:i≠3) (h4:i≠4):results Tryz.f22 (t.setIfInBounds i v)=results Tryz.f22 t:=by
 simp[results,Tryz.results22,Array.getElem?_setIfInBounds,h2,h3,h4]
theorem res17 (t:Array Value) (i:Nat) (v:Value) (h2:i≠2) (h3:i≠3):results Tryz.f21 (t.setIfInBounds i v)=results Tryz.f21 t:=by
 simp[results,Tryz.results21,Array.getElem?_setIfInBounds,h2,h3]
end Go.Proofs.YtaoioncjmfcolaaGreat
namespace Go.Proofs.YtaoioncjmfcolaaGreat
open Go.RowKit
def outB (a b c M:Int):Bool:=decide (M<a∨M<b∨M<c∨a< -M∨b< -M∨c< -M)
theorem k_out1 (a b c:Int) (w:World):K_ 50 #[.agg #[O a,O b,O c],O 8796093022208] w fun e w'=>e=.returned (.bool (outB a b c 8796093022208))∧Ext w w':=by
 have l0:IntKind.i64.wrap 0=0:=rfl
 have l1:IntKind.i64.wrap 1=1:=rfl
 have l2:IntKind.i64.wrap 2=2:=rfl
 go_enter Tryz.func50,Tryz.ntmps50
 go_wp2
 all_goals(
  refine bodyPost_ret (v:=.bool (outB a b c 8796093022208)) ?_ rfl ⟨rfl, ?_⟩
  ·simp[results,Tryz.results50,go_sem,outB]
   (try rw[Bool.eq_iff_iff])
   (try simp only[Bool.or_eq_true,decide_eq_true_eq])
   have hmm:(if b<a then b else a)≤a∧(if b<a then b else a)≤b∧((if b<a then b else a)=a∨(if b<a then b else a)=b):=by split<;>omega
   generalize(if b<a then b else a)=mm at*
   (try omega)
  ·repeat(first|with_reducible exact Ext.refl _|with_reducible assumption|with_reducible refine Ext.alloc ?_ _|with_reducible refine Ext.setCell ?_ c_27 _|with_reducible refine Ext.drewN ?_ _|with_reducible refine Ext.drew ?_|with_reducible refine Ext.trans ?_ c_7))
theorem k_out2 (a b c:Int) (w:World):K_ 50 #[.agg #[O a,O b,O c],O 1099511627776] w fun e w'=>e=.returned (.bool (outB a b c 1099511627776))∧Ext w w':=by
 have l0:IntKind.i64.wrap 0=0:=rfl
 have l1:IntKind.i64.wrap 1=1:=rfl
 have l2:IntKind.i64.wrap 2=2:=rfl
 go_enter Tryz.func50,Tryz.ntmps50
 go_wp2
 all_goals(
  refine bodyPost_ret (v:=.bool (outB a b c 1099511627776)) ?_ rfl ⟨rfl, ?_⟩
  ·simp[results,Tryz.results50,go_sem,outB]
   (try rw[Bool.eq_iff_iff])
   (try simp only[Bool.or_eq_true,decide_eq_true_eq])
   have hmm:(if b<a then b else a)≤a∧(if b<a then b else a)≤b∧((if b<a then b else a)=a∨(if b<a then b else a)=b):=by split<;>omega
   generalize(if b<a then b else a)=mm at*
   (try omega)
  ·repeat(first|with_reducible exact Ext.refl _|with_reducible assumption|with_reducible refine Ext.alloc ?_ _|with_reducible refine Ext.setCell ?_ c_27 _|with_reducible refine Ext.drewN ?_ _|with_reducible refine Ext.drew ?_|with_reducible refine Ext.trans ?_ c_7))
theorem T_KE_1 {p:Prop} (h:p:=by
 go_enter Tryz.func16,Tryz.ntmps16
 go_wp2_with (first| (go_at_call 50;(with_reducible refine(hs1 _).mono ?_);rintro e w1 ⟨rfl,hb⟩;obtain⟨_,_,⟨hc,hf⟩,hz⟩:=hb.c3;(try simp only[wsz]at hz hc hf))| (go_at_call 50;(with_reducible refine(hs2 _).mono ?_);rintro e w1 ⟨rfl,hb⟩;obtain⟨_,_,⟨hc,hf⟩,hz⟩:=hb.c3;(try simp only[wsz]at hz hc hf)))
 all_goals(
  refine bodyPost_ret (v:=O 8) ?_ rfl ⟨by simp[*], ?_⟩
  ·simp[results,Tryz.results16,go_sem, ↓IntWalk.iteOmega, *]
  ·repeat(first|with_reducible exact Ext.refl _|with_reducible assumption|with_reducible refine Ext.alloc ?_ _|with_reducible refine Ext.setCell ?_ c_27 _|with_reducible refine Ext.drewN ?_ _|with_reducible refine Ext.drew ?_|with_reducible refine Ext.trans ?_ c_7))):p:=h
def stB (t p1 p2 p3 v1 v2 v3:Int):Bool:=decide (t< -5000000000000000) || decide (5000000000000000<t) || decide (p1=0∧p2=0∧p3=0) || outB p1 p2 p3 8796093022208 || outB v1 v2 v3 1099511627776
def stE (t p1 p2 p3 v1 v2 v3:Int):Int:=if stB t p1 p2 p3 v1 v2 v3 then 8 else 0
theorem k_Check (t p1 p2 p3 v1 v2 v3:Int) (w:World):K_ 16 #[.agg #[O t,O p1,O p2,O p3,O v1,O v2,O v3]] w fun e w'=>e=.returned (O (stE t p1 p2 p3 v1 v2 v3))∧Ext w w':=by
 have l0:IntKind.i64.wrap 0=0:=rfl
 have l1:IntKind.i64.wrap 1=1:=rfl
 have l2:IntKind.i64.wrap 2=2:=rfl
 have hs1:=fun w1=>k_out1 p1 p2 p3 w1
 have hs2:=fun w1=>k_out2 v1 v2 v3 w1
 unfold stE stB
 have hq:=eqA4 p1 p2 p3
 generalize decide (p1=0∧p2=0∧p3=0)=o3 at hq ⊢
 generalize outB p1 p2 p3 8796093022208=o1 at hs1 ⊢
 generalize outB v1 v2 v3 1099511627776=o2 at hs2 ⊢
 by_cases h1:t< -5000000000000000
 ·exact T_KE_1
 by_cases h2:5000000000000000<t
 ·exact T_KE_1
 cases o3
 rotate_left
 ·exact T_KE_1
 cases o1
 ·cases o2
  ·go_enter Tryz.func16,Tryz.ntmps16
   go_wp2_with (first| (go_at_call 50;(with_reducible refine(hs1 _).mono ?_);rintro e w1 ⟨rfl,hb⟩;obtain⟨_,_,⟨hc,hf⟩,hz⟩:=hb.c3;(try simp only[wsz]at hz hc hf))| (go_at_call 50;(with_reducible refine(hs2 _).mono ?_);rintro e w1 ⟨rfl,hb⟩;obtain⟨_,_,⟨hc,hf⟩,hz⟩:=hb.c3;(try simp only[wsz]at hz hc hf)))
   all_goals(
    refine bodyPost_ret (v:=O 0) ?_ rfl ⟨by simp[*], ?_⟩
    ·simp[results,Tryz.results16,go_sem, ↓IntWalk.iteOmega, *]
    ·repeat(first|with_reducible exact Ext.refl _|with_reducible assumption|with_reducible refine Ext.alloc ?_ _|with_reducible refine Ext.setCell ?_ c_27 _|with_reducible refine Ext.drewN ?_ _|with_reducible refine Ext.drew ?_|with_reducible refine Ext.trans ?_ c_7))
  ·exact T_KE_1
 ·exact T_KE_1
theorem T_KPS_3 {p:Prop} (h:p:=by
 intro w0 hSw;have qa2:=hSw.1.at 2 l6 (by decide) rfl;have qa3:=hSw.1.at 3 u6 (by decide) rfl;have qa4:=hSw.1.at 4 l11 (by decide) rfl;have qa5:=hSw.1.at 5 u11 (by decide) rfl;go_simp;try with_reducible rfl):p:=h
theorem T_KPS_2 {p:Prop} (h:p:=by
 rw[←hU]
 refine⟨fun o ho=> ?_,fun o=>by simp[go_sem, ↓IntWalk.iteOmega],by simp<;>omega⟩
 have hoo:o=0∨o=1:=by omega
 rcases hoo with rfl|rfl<;>simp[go_sem, ↓IntWalk.iteOmega]):p:=h
theorem T_KPS_1 {p:Prop} (h:p:=by
 rw[←hU]
 repeat(first|with_reducible exact Ext.refl _|with_reducible assumption|with_reducible refine Ext.alloc ?_ _|with_reducible refine Ext.setCell ?_ c_27 _|with_reducible refine Ext.drewN ?_ _|with_reducible refine Ext.drew ?_|with_reducible refine Ext.trans ?_ c_7)):p:=h
theorem k_Shape0 (t p1 p2 p3 v1 v2 v3:Int) (hsh0:∀w1,K_ 63 #[.agg #[O t,O p1,O p2,O p3,O v1,O v2,O v3]] w1 fun e w2=>((ShOk (dia p1 p2 p3) (dia v1 v2 v3)∧e=.returned (.agg #[O (shR (dia p1 p2 p3)).lo,O (shR (dia p1 p2 p3)).hi,O (shA (dia p1 p2 p3) (dia v1 v2 v3)).lo,O (shA (dia p1 p2 p3) (dia v1 v2 v3)).hi,O (shK (dia p1 p2 p3) (dia v1 v2 v3)).lo,O (shK (dia p1 p2 p3) (dia v1 v2 v3)).hi,O (shZ).lo,O (shZ).hi,O 0,O 0,O 0,O 0,O 0,O 0,O 0,O 0]))∨(¬ShOk (dia p1 p2 p3) (dia v1 v2 v3)∧e=.panicked FALL))∧Ext w1 w2) (w:World):K_ 22 #[.agg #[O t,O p1,O p2,O p3,O v1,O v2,O v3]] w fun e w'=>((¬stE t p1 p2 p3 v1 v2 v3=0∧e=.returned (.tuple #[.agg #[O 0,O 0],.agg #[O 0,O 0],O (stE t p1 p2 p3 v1 v2 v3)]))∨(stE t p1 p2 p3 v1 v2 v3=0∧ShOk (dia p1 p2 p3) (dia v1 v2 v3)∧e=.returned (.tuple #[.agg #[O (shA (dia p1 p2 p3) (dia v1 v2 v3)).lo,O (shA (dia p1 p2 p3) (dia v1 v2 v3)).hi],.agg #[O (shK (dia p1 p2 p3) (dia v1 v2 v3)).lo,O (shK (dia p1 p2 p3) (dia v1 v2 v3)).hi],O 0]))∨(stE t p1 p2 p3 v1 v2 v3=0∧¬ShOk (dia p1 p2 p3) (dia v1 v2 v3)∧e=.returned (.tuple #[.agg #[O 0,O 0],.agg #[O 0,O 0],O 24])))∧Ext w w':=by
 obtain⟨⟨l2,u2,e2⟩,hn2⟩:∃x,shR (dia p1 p2 p3)=x:=⟨_,rfl⟩
 obtain⟨⟨l6,u6,e6⟩,hn6⟩:∃x,shA (dia p1 p2 p3) (dia v1 v2 v3)=x:=⟨_,rfl⟩
 obtain⟨⟨l11,u11,e11⟩,hn11⟩:∃x,shK (dia p1 p2 p3) (dia v1 v2 v3)=x:=⟨_,rfl⟩
 obtain⟨⟨l12,u12,e12⟩,hn12⟩:∃x,shZ=x:=⟨_,rfl⟩
 obtain⟨Sk,hSk⟩:∃Ok:Prop,ShOk (dia p1 p2 p3) (dia v1 v2 v3)=Ok:=⟨_,rfl⟩
 have hck0:=fun w1=>k_Check t p1 p2 p3 v1 v2 v3 w1
 obtain⟨E,hEe⟩:∃x,stE t p1 p2 p3 v1 v2 v3=x:=⟨_,rfl⟩
 rw[hEe]at hck0
 have hck:Hid (∀w1,K_ 16 #[.agg #[O t,O p1,O p2,O p3,O v1,O v2,O v3]] w1 fun e w2=>e=.returned (O E)∧Ext w1 w2):=hck0
 rw[hSk,hn2,hn6,hn11,hn12]at hsh0
 dsimp only at hsh0
 have hsh:Hid (∀w1,K_ 63 #[.agg #[O t,O p1,O p2,O p3,O v1,O v2,O v3]] w1 fun e w2=>((Sk∧e=.returned (.agg #[O l2,O u2,O l6,O u6,O l11,O u11,O l12,O u12,O 0,O 0,O 0,O 0,O 0,O 0,O 0,O 0]))∨(¬Sk∧e=.panicked FALL))∧Ext w1 w2):=hsh0
 rw[hn6,hn11,hSk,hEe]
 dsimp only
 clear hSk hn2 hn6 hn11 hn12 hsh0 hEe hck0
 have q0:IntKind.i64.wrap 0=0:=rfl
 have q1:IntKind.i64.wrap 1=1:=rfl
 go_enter_defers Tryz.func22,Tryz.ntmps22
 go_upto_region 1 with fail
 refine wp_nameE fun U0 hU=> ?_
 have hE:Ext w U0:=by
  exact T_KPS_1
 have h7:Bn 7 U0 (w.heap.size) (fun o=>if o=0 then t else if o=1 then p1 else if o=2 then p2 else if o=3 then p3 else if o=4 then v1 else if o=5 then v2 else v3):=by
  rw[←hU]
  refine⟨fun o ho=> ?_,fun o=>by simp[go_sem, ↓IntWalk.iteOmega],by simp<;>omega⟩
  have hoo:o=0∨o=1∨o=2∨o=3∨o=4∨o=5∨o=6:=by omega
  rcases hoo with rfl|rfl|rfl|rfl|rfl|rfl|rfl<;>simp[go_sem, ↓IntWalk.iteOmega]
 have hT2:Bn 2 U0 (w.heap.size+1) (fun _=>0):=by
  exact T_KPS_2
 have hT3:Bn 2 U0 (w.heap.size+1+1) (fun _=>0):=by
  exact T_KPS_2
 have hT4:Bn 1 U0 (w.heap.size+1+1+1) (fun _=>0):=by
  rw[←hU]
  refine⟨fun o ho=> ?_,fun o=>by simp[go_sem, ↓IntWalk.iteOmega],by simp<;>omega⟩
  have hoo:o=0:=by omega
  subst hoo
  simp[go_sem, ↓IntWalk.iteOmega]
 clear hU
 have h7q0:=h7.at 0 (t) (by decide) rfl
 have h7q1:=h7.at 1 (p1) (by decide) rfl
 have h7q2:=h7.at 2 (p2) (by decide) rfl
 have h7q3:=h7.at 3 (p3) (by decide) rfl
 have h7q4:=h7.at 4 (v1) (by decide) rfl
 have h7q5:=h7.at 5 (v2) (by decide) rfl
 have h7q6:=h7.at 6 (v3) (by decide) rfl
 by_cases h0:E=0
 ·subst h0
  go_upto_region 5 with(go_at_call 16;(with_reducible refine(hck.out _).mono ?_);rintro e w1 ⟨rfl,hb⟩;replace h7:=h7.ext hb;replace hT2:=hT2.ext hb;replace hT3:=hT3.ext hb;replace hT4:=hT4.ext hb;replace hE:=hE.trans hb)
  clear h7q0 h7q1 h7q2 h7q3 h7q4 h7q5 h7q6
  have h7q0:=h7.at 0 (t) (by decide) rfl
  have h7q1:=h7.at 1 (p1) (by decide) rfl
  have h7q2:=h7.at 2 (p2) (by decide) rfl
  have h7q3:=h7.at 3 (p3) (by decide) rfl
  have h7q4:=h7.at 4 (v1) (by decide) rfl
  have h7q5:=h7.at 5 (v2) (by decide) rfl
  have h7q6:=h7.at 6 (v3) (by decide) rfl
  go_upto_region 6 with(go_at_call 63;(with_reducible refine(hsh.out _).mono ?_);rintro e w1 ⟨⟨hzS,rfl⟩| ⟨hzS,rfl⟩,hb⟩;rotate_left;(focus (replace h7:=h7.ext hb;replace hT2:=hT2.ext hb;replace hT3:=hT3.ext hb;replace hT4:=hT4.ext hb;replace hE:=hE.trans hb;(try go_wp2_with fail);refine leaves_cons (f:=57) (args:=#[.pointer (some ⟨w.heap.size+1+1+1,0,none⟩)]) (by simp) c_47 ?_;refine(k_caught _ _ (hT4.at 0 0 (by decide) rfl) (hT4.2.1 0)).mono ?_;rintro e u' w'' ⟨rfl,rfl,rfl⟩;(have rhT20:=hT2.at 0 (0) (by decide) rfl);(have fhT20:=hT2.2.1 0);(have rhT21:=hT2.at 1 (0) (by decide) rfl);(have fhT21:=hT2.2.1 1);(have rhT30:=hT3.at 0 (0) (by decide) rfl);(have fhT30:=hT3.2.1 0);(have rhT31:=hT3.at 1 (0) (by decide) rfl);(have fhT31:=hT3.2.1 1);(have rhT40:=hT4.at 0 (0) (by decide) rfl);(have fhT40:=hT4.2.1 0);(have zT2:=hT2.2.2);(have zT3:=hT3.2.2);(have zT4:=hT4.2.2);(have d23:¬w.heap.size+1=w.heap.size+1+1:=by omega);(have d34:¬w.heap.size+1+1=w.heap.size+1+1+1:=by omega);(have d24:¬w.heap.size+1=w.heap.size+1+1+1:=by omega);refine⟨.tuple #[.agg #[O 0,O 0],.agg #[O 0,O 0],O 24], ?_,rfl, ?_⟩;(simp[results,Tryz.results22,go_sem, ↓IntWalk.iteOmega, *]);(have hgg:=(GB.refl (w.heap.size+1+1+1) w1).set (j:=0) (O 24));exact GB.pre hE (hgg.alloc _) (by omega)));replace h7:=h7.ext hb;replace hT2:=hT2.ext hb;replace hT3:=hT3.ext hb;replace hT4:=hT4.ext hb;replace hE:=hE.trans hb)
  refine wp_nameE fun U1 hU=> ?_
  have hx:Ext w1 U1:=by
   exact T_KPS_1
  have hA:Bn 16 U1 (w1.heap.size) (fun o=>if o=0 then l2 else if o=1 then u2 else if o=2 then l6 else if o=3 then u6 else if o=4 then l11 else if o=5 then u11 else if o=6 then l12 else if o=7 then u12 else if o=8 then 0 else if o=9 then 0 else if o=10 then 0 else if o=11 then 0 else if o=12 then 0 else if o=13 then 0 else if o=14 then 0 else 0):=by
   rw[←hU]
   refine⟨fun o ho=> ?_,fun o=>by simp[go_sem, ↓IntWalk.iteOmega],by simp<;>omega⟩
   have hoo:o=0∨o=1∨o=2∨o=3∨o=4∨o=5∨o=6∨o=7∨o=8∨o=9∨o=10∨o=11∨o=12∨o=13∨o=14∨o=15:=by omega
   rcases hoo with rfl|rfl|rfl|rfl|rfl|rfl|rfl|rfl|rfl|rfl|rfl|rfl|rfl|rfl|rfl|rfl<;>simp[go_sem, ↓IntWalk.iteOmega]
  have hOl:=hT4.2.2
  replace hT2:=hT2.ext hx
  replace hT3:=hT3.ext hx
  replace hT4:=hT4.ext hx
  replace hE:=hE.trans hx
  clear hU hx hb h7 h7q0 h7q1 h7q2 h7q3 h7q4 h7q5 h7q6
  obtain⟨gA,hgA⟩:∃x,w1.heap.size=x:=⟨_,rfl⟩
  rw[hgA]at hA hOl ⊢
  clear hgA
  replace hT2:=hT2.ext ((Ext.refl _).drew)
  replace hT3:=hT3.ext ((Ext.refl _).drew)
  replace hT4:=hT4.ext ((Ext.refl _).drew)
  refine wp_region_held_drew (S:=(fun w0=>Bn 16 w0 gA (fun o=>if o=0 then l2 else if o=1 then u2 else if o=2 then l6 else if o=3 then u6 else if o=4 then l11 else if o=5 then u11 else if o=6 then l12 else if o=7 then u12 else if o=8 then 0 else if o=9 then 0 else if o=10 then 0 else if o=11 then 0 else if o=12 then 0 else if o=13 then 0 else if o=14 then 0 else 0)∧Ext w w0)) c_3 ?_ (fun hH=> ?_)
  ·exact⟨hA.ext ((Ext.refl _).drew),hE.drew⟩
  try simp only[sx_]
  refine wpAnyH_name fun Y0 hY=> ?_
  rw[hY]at hH hT2 hT3 hT4
  clear hY
  clear hA hE
  refine wpAnyH_take (i:=0) (oi:=_) (v:= ?_) rfl c_3 c_3 c_3 (fun _ _ _ h=>leaves_congr (res15 _ 16 _ (by decide) (by decide) (by decide)) _ _ _ h) (Or.inl ⟨by rfl, ?_⟩) c_40 ?_
  rotate_left
  ·exact b_31
  try simp only[sx_]
  refine wpAnyH_take (i:=1) (oi:=_) (v:= ?_) rfl c_3 c_3 c_3 (fun _ _ _ h=>leaves_congr (res15 _ 17 _ (by decide) (by decide) (by decide)) _ _ _ h) (Or.inl ⟨by rfl, ?_⟩) c_40 ?_
  rotate_left
  ·exact b_31
  try simp only[sx_]
  refine wpAnyH_take (i:=2) (oi:=_) (v:= ?_) rfl c_3 c_3 c_3 (fun _ _ _ h=>leaves_congr (res15 _ 18 _ (by decide) (by decide) (by decide)) _ _ _ h) (Or.inl ⟨by rfl, ?_⟩) c_40 ?_
  rotate_left
  ·exact T_KPS_3
  try simp only[sx_]
  refine wpAnyH_take (i:=3) (oi:=_) (v:= ?_) rfl c_3 c_3 c_3 (fun _ _ _ h=>leaves_congr (res15 _ 19 _ (by decide) (by decide) (by decide)) _ _ _ h) (Or.inl ⟨by rfl, ?_⟩) c_40 ?_
  rotate_left
  ·exact b_31
  try simp only[sx_]
  refine wpAnyH_take (i:=4) (oi:=_) (v:= ?_) rfl c_3 c_3 c_3 (fun _ _ _ h=>leaves_congr (res15 _ 20 _ (by decide) (by decide) (by decide)) _ _ _ h) (Or.inl ⟨by rfl, ?_⟩) c_40 ?_
  rotate_left
  ·exact b_31
  try simp only[sx_]
  refine wpAnyH_take (i:=5) (oi:=_) (v:= ?_) rfl c_3 c_3 c_3 (fun _ _ _ h=>leaves_congr (res15 _ 21 _ (by decide) (by decide) (by decide)) _ _ _ h) (Or.inl ⟨by rfl, ?_⟩) c_40 ?_
  rotate_left
  ·exact T_KPS_3
  try simp only[sx_]
  refine rh1 6 rfl fun K hK=> ?_
  obtain⟨kA,hE⟩:=id hH
  have c0:=hT2.at 0 0 (by decide) rfl
  have c1:=hT2.at 1 0 (by decide) rfl
  have cf:=hT2.2.1
  have hgb:=hT2.gb2 0 1 l6 u6
  replace hT2:=(hT2.set 0 l6).set 1 u6
  replace hT3:=hT3.grown hgb (by omega)
  replace hT4:=hT4.grown hgb (by omega)
  replace kA:=kA.grown hgb (by omega)
  replace hE:=GB.pre hE hgb (by omega)
  clear hgb
  go_simp
  refine hK.out _ _ ?_ fun _=> ?_
  ·(try dsimp only);exact⟨kA,hE⟩
  clear hK K hH
  rename_i hH
  try simp only[sx_]
  refine wpAnyH_name fun Y1 hY=> ?_
  rw[hY]at hH hT2 hT3 hT4
  clear hY
  clear c0 c1 cf kA hE
  refine rh1 7 rfl fun K hK=> ?_
  obtain⟨kA,hE⟩:=id hH
  have c0:=hT3.at 0 0 (by decide) rfl
  have c1:=hT3.at 1 0 (by decide) rfl
  have cf:=hT3.2.1
  have hgb:=hT3.gb2 0 1 l11 u11
  replace hT3:=(hT3.set 0 l11).set 1 u11
  replace hT2:=hT2.grown hgb (by omega)
  replace hT4:=hT4.grown hgb (by omega)
  replace kA:=kA.grown hgb (by omega)
  replace hE:=GB.pre hE hgb (by omega)
  clear hgb
  go_simp
  refine hK.out _ _ ?_ fun _=> ?_
  ·(try dsimp only);exact⟨kA,hE⟩
  clear hK K hH
  rename_i hH
  try simp only[sx_]
  refine wpAnyH_name fun Y2 hY=> ?_
  rw[hY]at hH hT2 hT3 hT4
  clear hY
  clear c0 c1 cf kA hE
  refine rh1 8 rfl fun K hK=> ?_
  obtain⟨kA,hE⟩:=id hH
  have c0:=hT4.at 0 0 (by decide) rfl
  have cf:=hT4.2.1
  have hgb:=(GB.refl (w.heap.size+1+1+1) _).set (a:=Y2) (j:=0) (O 0)
  replace hT4:=hT4.set 0 0
  replace hT2:=hT2.grown hgb (by omega)
  replace hT3:=hT3.grown hgb (by omega)
  replace kA:=kA.grown hgb (by omega)
  replace hE:=GB.pre hE hgb (by omega)
  clear hgb
  go_simp
  refine hK.out _ _ ?_ fun _=> ?_
  ·(try dsimp only);exact⟨kA,hE⟩
  clear hK K hH
  rename_i hH
  try simp only[sx_]
  refine wpAnyH_name fun Y3 hY=> ?_
  rw[hY]at hH hT2 hT3 hT4
  clear hY
  clear c0 cf kA hE
  refine wpAnyH_done c_3 ?_ _
  obtain⟨kA,hE⟩:=hH
  have rhT20:=hT2.at 0 (l6) (by decide) rfl
  have fhT20:=hT2.2.1 0
  have rhT21:=hT2.at 1 (u6) (by decide) rfl
  have fhT21:=hT2.2.1 1
  have rhT30:=hT3.at 0 (l11) (by decide) rfl
  have fhT30:=hT3.2.1 0
  have rhT31:=hT3.at 1 (u11) (by decide) rfl
  have fhT31:=hT3.2.1 1
  have rhT40:=hT4.at 0 (0) (by decide) rfl
  have fhT40:=hT4.2.1 0
  have zT2:=hT2.2.2
  have zT3:=hT3.2.2
  have zT4:=hT4.2.2
  go_wp2_with fail
  refine leaves_cons (f:=57) (args:=#[.pointer (some ⟨w.heap.size+1+1+1,0,none⟩)]) (by simp) c_47 ?_
  refine(k_catch _ _).mono ?_
  rintro e u' w'' ⟨rfl,rfl,rfl⟩
  refine⟨.tuple #[.agg #[O l6,O u6],.agg #[O l11,O u11],O 0], ?_, ?_,hE⟩
  ·simp[results,Tryz.results22,go_sem, ↓IntWalk.iteOmega, *]
  ·simp[hzS]
 ·go_wp2_with (go_at_call 16;(with_reducible refine(hck.out _).mono ?_);rintro e w1 ⟨rfl,hb⟩;replace h7:=h7.ext hb;replace hT2:=hT2.ext hb;replace hT3:=hT3.ext hb;replace hT4:=hT4.ext hb;replace hE:=hE.trans hb;(have rhT20:=hT2.at 0 (0) (by decide) rfl);(have fhT20:=hT2.2.1 0);(have rhT21:=hT2.at 1 (0) (by decide) rfl);(have fhT21:=hT2.2.1 1);(have rhT30:=hT3.at 0 (0) (by decide) rfl);(have fhT30:=hT3.2.1 0);(have rhT31:=hT3.at 1 (0) (by decide) rfl);(have fhT31:=hT3.2.1 1);(have rhT40:=hT4.at 0 (0) (by decide) rfl);(have fhT40:=hT4.2.1 0);(have zT2:=hT2.2.2);(have zT3:=hT3.2.2);(have zT4:=hT4.2.2))
  have d23:¬w.heap.size+1=w.heap.size+1+1:=by omega
  have d34:¬w.heap.size+1+1=w.heap.size+1+1+1:=by omega
  have d24:¬w.heap.size+1=w.heap.size+1+1+1:=by omega
  refine⟨.tuple #[.agg #[O 0,O 0],.agg #[O 0,O 0],O E], ?_,Or.inl ⟨h0,rfl⟩, ?_⟩
  ·simp[results,Tryz.results22,go_sem, ↓IntWalk.iteOmega, *]
  ·exact b_1
theorem t_unit120 (vb:Value) (x r q:Int) (w:World) (hb0:Ball w vb x r) (hr0:0≤r) (hr1:r≤1000000000000) (hk0:okN x=true) (hk1:okN (x+ -r)=true) (hk2:okN (x+r)=true) (hq1:(x+ -r)/2^80=q) (hq2:(x+r)/2^80=q) (hq3:0≤q∧q≤9000000000000000000):
    K_ 89 #[vb,O 120] w fun e w'=>e=.returned (.tuple #[.agg #[O q,O (q+1)],.bool true])∧Ext w w':=by
 obtain⟨sb,aob,nb,capb,rfl,hWx⟩:=hb0.open
 have hfl:=fun w1 (k1:Ext w w1)=>t_floor120 _ x r q w1 (hb0.ext k1) hr0 hr1 hk0 hk1 hk2 hq1 hq2 hq3
 clear hq1 hq2 hWx hb0
 go_enter Tryz.func89,Tryz.ntmps89
 go_wp2_with (go_at_call 147;(with_reducible refine(hfl _ ex_).mono ?_);rintro e w1 ⟨rfl,hb⟩;obtain⟨_,_,⟨hc,hf⟩,hz⟩:=hb.c3;(try simp only[wsz]at hz hc hf))
 refine bodyPost_ret (v:=.tuple #[.agg #[O q,O (q+1)],.bool true]) ?_ rfl ⟨rfl, ?_⟩
 ·simp[results,Tryz.results89,go_sem, ↓IntWalk.iteOmega, *]
 ·exact b_1
theorem t_Pi (w:World):K_ 61 #[] w fun e w'=>e=.returned (.agg #[O 3454217652357,O 3454217652358])∧Ext w w':=by
 have hpi:∀w,K_ 124 #[O 120] w fun e w'=>∃u,e=.returned u∧Ball w' u 4175892906503776358826876457663557616 2664∧Ext w w':=fun w=>
  t_pi 120 60 73770166896822829355237547328900946 23317397332039735124298028429839709 (5561590958449548710103136193927924) 14 10 7 w (by decide) (by decide) (by decide) (by decide) (by decide) c_3 c_3 c_3 c_3 c_3 c_3 c_3 c_3
 have hun:=fun v w1 (hb:Ball w1 v 4175892906503776358826876457663557616 2664)=>t_unit120 v 4175892906503776358826876457663557616 2664 3454217652357 w1 hb (by decide) (by decide) c_3 c_3 c_3 c_3 c_3 (by decide)
 obtain⟨X,hX⟩:∃X:Int,X=4175892906503776358826876457663557616:=⟨_,rfl⟩
 rw[←hX]at hpi hun
 clear hX
 go_enter Tryz.func61,Tryz.ntmps61
 go_wp2_with (first
  | (go_at_call 124;(with_reducible refine(hpi _).mono ?_);rintro e w1 ⟨y1,rfl,hy1,hb⟩;obtain⟨_,_,⟨hc,hf⟩,hz⟩:=hb.c3;(try simp only[wsz]at hz hc hf))
  | (go_at_call 89;(with_reducible refine(hun _ _ hy1).mono ?_);rintro e w2 ⟨rfl,hb2⟩;obtain⟨_,_,⟨hc2,hf2⟩,hz2⟩:=hb2.c3;(try simp only[wsz]at hz2 hc2 hf2)))
 refine bodyPost_ret (v:=.agg #[O 3454217652357,O 3454217652358]) ?_ rfl ⟨rfl, ?_⟩
 ·simp[results,Tryz.results61,go_sem, ↓IntWalk.iteOmega, *]
 ·exact b_1
def scI (a b n d:Int):R3:=if ckI a b≠0 then⟨0,0,ckI a b⟩else madeI (dnT (a*n) d) (upT (b*n) d)
end Go.Proofs.YtaoioncjmfcolaaGreat
