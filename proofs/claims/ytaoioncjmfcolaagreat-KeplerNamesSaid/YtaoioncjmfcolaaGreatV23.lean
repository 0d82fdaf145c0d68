/- Numbers with signs, divided by positive ones. -/
import Derived.Test.YtaoioncjmfcolaaGreatV22
set_option linter.unusedSimpArgs false
set_option linter.unusedVariables false
set_option maxRecDepth 100000
set_option maxHeartbeats 4000000
namespace Go.Proofs.YtaoioncjmfcolaaGreat
open Go.RowKit
theorem T_ZDM_4 {p:Prop} (h:p:=by
 intro p hp
 simp only[List.mem_cons,List.mem_nil_iff,or_false]at hp
 rcases hp with rfl|rfl|rfl|rfl<;>simp[go_sem, ↓IntWalk.iteOmega]):p:=h
theorem T_ZDM_3 {p:Prop} (h:p:=by
 intro p hp
 simp only[List.mem_cons,List.mem_nil_iff,or_false]at hp
 rcases hp with rfl|rfl|rfl|rfl<;>(dsimp only;omega)):p:=h
theorem T_ZDM_2 {p:Prop} (h:p:=by
 rw[←hW4]
 refine⟨hW4▸hEW, ?_, ?_, ?_, ?_, ?_,by simp⟩
 ·exact T_ZDM_4
 ·exact b_2
 ·exact b_3
 ·exact b_4
 ·have:=NoU.new (((w.alloc (.cells #[.bool true,.slice ao (dig m).length cap1] 24)).alloc (.cells #[.bool false,.slice bo (dig k).length cap2] 24)).alloc (.cells #[.bool false,.slice none 0 0] 24)) #[.bool false,.slice none 0 0] 24 (noU2 (by simp) (by simp))
  simpa using this):p:=h
theorem T_ZDM_1 {p:Prop} (h:p:=by
 rw[←hW4]
 refine⟨hW4▸hEW, ?_, ?_, ?_, ?_, ?_,by simp⟩
 ·exact T_ZDM_4
 ·exact b_2
 ·exact b_3
 ·exact b_4
 ·have:=(NoU.new ((w.alloc (.cells #[.bool true,.slice ao (dig m).length cap1] 24)).alloc (.cells #[.bool false,.slice bo (dig k).length cap2] 24)) #[.bool false,.slice none 0 0] 24 (noU2 (by simp) (by simp))).alloc (by simp) #[.bool false,.slice none 0 0] 24
  simpa using this):p:=h
theorem z_DivTr (va vb:Value) (m k:Nat) (w:World) (ha:Sm w va true m) (hb0:Nn w vb k) (hs:Small m) (hz:m=0→true=false) (hk0:0<k) (hs2:Small k) (hr0:0<m%k):
    K_ 98 #[va,vb] w fun e w'=>∃u v,e=.returned (.tuple #[u,v,O 0])∧Wid w' u (sg true (m/k+1))∧Nn w' v (k-m%k)∧Ext w w':=by
 obtain⟨u,rfl,hu⟩:=ha
 obtain⟨s,rfl,hv⟩:=hb0
 obtain⟨ao,b1,o1,cap1,rfl,v1,v2,v3,v4,v5,v6⟩:=hu.view
 obtain⟨bo,b2,o2,cap2,rfl,y1,y2,y3,y4,y5,y6⟩:=hv.view
 have hlen:(dig m).length≤49999:=by unfold Small at hs;omega
 have hl1:=dig_pos.2 hk0
 have hlk:(dig k).length≤49999:=by unfold Small at hs2;omega
 obtain⟨W4,hW4⟩:∃W4,(((w.alloc (.cells #[.bool true,.slice ao (dig m).length cap1] 24)).alloc (.cells #[.bool false,.slice bo (dig k).length cap2] 24)).alloc (.cells #[.bool false,.slice none 0 0] 24)).alloc (.cells #[.bool false,.slice none 0 0] 24)=W4:=⟨_,rfl⟩
 have hWs:W4.heap.size=w.heap.size+1+1+1+1:=by rw[←hW4];simp
 have hEW:Ext w W4:=by rw[←hW4];exact((((Ext.refl w).alloc _).alloc _).alloc _).alloc _
 have hA0:BX w (w.heap.size+1+1) [(w.heap.size,0,.bool true),(w.heap.size,1,.slice ao (dig m).length cap1),(w.heap.size+1,0,.bool false),(w.heap.size+1,1,.slice bo (dig k).length cap2)] W4:=by
  exact T_ZDM_1
 have hB0:BX w (w.heap.size+1+1+1) [(w.heap.size,0,.bool true),(w.heap.size,1,.slice ao (dig m).length cap1),(w.heap.size+1,0,.bool false),(w.heap.size+1,1,.slice bo (dig k).length cap2)] W4:=by
  exact T_ZDM_2
 have hL2:∀p∈([(w.heap.size,0,.bool true),(w.heap.size,1,.slice ao (dig m).length cap1),(w.heap.size+1,0,.bool false),(w.heap.size+1,1,.slice bo (dig k).length cap2)]:List (Nat×Nat×Value)),p.1≠w.heap.size+1+1:=by
  exact T_ZDM_3
 have hL3:∀p∈([(w.heap.size,0,.bool true),(w.heap.size,1,.slice ao (dig m).length cap1),(w.heap.size+1,0,.bool false),(w.heap.size+1,1,.slice bo (dig k).length cap2)]:List (Nat×Nat×Value)),p.1≠w.heap.size+1+1+1:=by
  exact T_ZDM_3
 have hck:=z_check_two W4 _ _ true false m k (hu.ext hEW) (hv.ext hEW) hs hs2 hz (fun _=>rfl)
 rw[hWs]at hck
 subst hW4
 clear v1 v4 v5 y1 y4 y5 hWs hEW
 have z0:(((dig k).length:Int)==0)=false:=by simp;intro e;rw[e]at hl1;simp at hl1
 have hdv:=fun w1 (k1:Ext w w1)=>w_divideA _ _ (dig m) (dig k) w1 (hu.ext k1) (hv.ext k1) (dig_nz m) (dig_nz k) hlen hl1
 have hl2:=hl1
 clear hl1
 obtain⟨Q,hQ⟩:∃Q,(m/k+1)=Q:=⟨_,rfl⟩
 obtain⟨R,hR⟩:∃R,(k-m%k)=R:=⟨_,rfl⟩
 rw[hQ,hR]
 go_enter Tryz.func98,Tryz.ntmps98
 go_upto_region 7 with(first
  | (go_at_call 77;(with_reducible refine hck.mono ?_);rintro e w1 ⟨rfl,hb⟩;have hA:=hA0.ext (((Ext.refl _).alloc _).trans hb);have hB:=hB0.ext (((Ext.refl _).alloc _).trans hb);have q0:=BX.get hA 0 rfl;have q1:=BX.get hA 1 rfl;have q2:=BX.get hA 2 rfl;have q3:=BX.get hA 3 rfl;clear hA0 hB0 hck hb)
  | (go_at_call 83;(with_reducible refine(hdv _ hA.base).mono ?_);rintro e w2 ⟨y14,y15,qs,rs,rfl,hq,hr,nq,nr,hval,hlt,hb5⟩;obtain⟨ao6,b6,o6,cap6,rfl, -⟩:=hr.view;obtain⟨ao5,b5,o5,cap5,rfl, -⟩:=hq.view;replace hA:=hA.ext hb5;replace hB:=hB.ext hb5;replace q0:=BX.get hA 0 rfl;replace q1:=BX.get hA 1 rfl;replace q2:=BX.get hA 2 rfl;replace q3:=BX.get hA 3 rfl))
 obtain⟨eq,er⟩:=div_dig hq.lb hr.lb nq nr hval hlt
 subst eq
 subst er
 have hmk:m/k≤m:=Nat.div_le_self _ _
 have hrk:m%k<k:=Nat.mod_lt _ hk0
 have hlq:(dig (m/k)).length≤49999:=Nat.le_trans (dig_mono hmk) hlen
 have hsq0:(dig (m/k+1)).length≤4096:=Nat.le_trans (dig_mono (Nat.div_lt_self (Nat.pos_of_ne_zero (by rintro rfl;simp at hr0)) (by omega))) hs
 have hsr0:(dig (k-m%k)).length≤4096:=Nat.le_trans (dig_mono (by omega)) hs2
 have hrp:0<(dig (m%k)).length:=dig_pos.2 hr0
 have hsq:(dig Q).length≤4096:=hQ▸hsq0
 have hsr:(dig R).length≤4096:=hR▸hsr0
 clear hdv hval hlt nq nr hb5 hsq0 hsr0
 go_upto_region 10 with(first
  | (go_at_call 85;(with_reducible refine(w_plus _ _ _ [1] _ (hq.ext ((Ext.refl _).alloc _)) (lim_one _ 1 u32_one) c_26).mono ?_);rintro e w3 ⟨y3,zs,rfl,hz3,hval3,hb3⟩;obtain⟨zo,_,_,zc,rfl, -⟩:=hz3.view;have hb3':=((Ext.refl w2).alloc _).trans hb3;replace hA:=hA.ext hb3';replace hB:=hB.ext hb3';replace q0:=BX.get hA 0 rfl;replace q1:=BX.get hA 1 rfl;replace q2:=BX.get hA 2 rfl;replace q3:=BX.get hA 3 rfl;have hr3:=hr.ext hb3')
  | (go_at_call 135;(with_reducible refine(w_minus _ _ (dig k) (dig (m%k)) _ (hv.ext hA.base) hr3 (by omega) (dig_mono (Nat.le_of_lt hrk)) (by rw[dig_val,dig_val];omega)).mono ?_);rintro e w4 ⟨y4,ts,rfl,ht4,hval4,hb4⟩;obtain⟨to_,_,_,tc,rfl, -⟩:=ht4.view;replace hA:=hA.ext hb4;replace hB:=hB.ext hb4;replace q0:=BX.get hA 0 rfl;replace q1:=BX.get hA 1 rfl;replace q2:=BX.get hA 2 rfl;replace q3:=BX.get hA 3 rfl;replace hz3:=hz3.ext hb4))
 have hvq:val zs=((m/k+1:Nat):Int):=by rw[hval3,dig_val];simp[val]
 have hvr:val ts=((k-m%k:Nat):Int):=by rw[hval4,dig_val,dig_val];omega
 go_upto_region 11 with(go_at_call 76;go_loud (with_reducible refine(w_madeS true _ _ Q _ hz3 (by rw[hvq,hQ]) hsq).mono ?_);rintro e w5 ⟨y16,boq,rfl,hq5,hboq,hb6⟩;replace hboq:Hid _:=hboq;obtain⟨ao7,b7,o7,cap7,rfl, -⟩:=hq5.view;replace hA:=hA.ext hb6;replace hB:=hB.ext hb6;replace q0:=BX.get hA 0 rfl;replace q1:=BX.get hA 1 rfl;replace q2:=BX.get hA 2 rfl;replace q3:=BX.get hA 3 rfl;obtain⟨⟨xa,h3a⟩,⟨xb,h3b⟩,h3f,hnu,hsl⟩:=hA.box;have hr6:=ht4.ext hb6)
 obtain⟨Wq,hWq⟩:∃Wq,(w5.setCell ⟨w.heap.size+1+1,0,none⟩ (.bool boq)).setCell ⟨w.heap.size+1+1,1,none⟩ (.slice ao7 (dig Q).length cap7)=Wq:=⟨_,rfl⟩
 have hAq:BX w (w.heap.size+1+1) [(w.heap.size,0,.bool true),(w.heap.size,1,.slice ao (dig m).length cap1),(w.heap.size+1,0,.bool false),(w.heap.size+1,1,.slice bo (dig k).length cap2)] Wq:=hWq▸(hA.set (by omega) hL2 (fun z e=>by cases e)).set (by omega) hL2 (fun z e=>by cases e)
 have hBq:BX w (w.heap.size+1+1+1) [(w.heap.size,0,.bool true),(w.heap.size,1,.slice ao (dig m).length cap1),(w.heap.size+1,0,.bool false),(w.heap.size+1,1,.slice bo (dig k).length cap2)] Wq:=hWq▸(hB.other (by omega) hL2 (by omega) (fun z e=>by cases e)).other (by omega) hL2 (by omega) (fun z e=>by cases e)
 have hqq:Lim Wq (.slice ao7 (dig Q).length cap7) (dig Q):=hWq▸Lim.box (Lim.box hq5 hnu) (NoU.set hnu (fun z e=>by cases e))
 have hrq:Lim Wq _ _:=hWq▸Lim.box (Lim.box hr6 hnu) (NoU.set hnu (fun z e=>by cases e))
 have c20:Wq.cell? ⟨w.heap.size+1+1,0,none⟩=some (.bool boq):=by rw[←hWq];simp[go_sem,h3a,h3b]
 have c21:Wq.cell? ⟨w.heap.size+1+1,1,none⟩=some (.slice ao7 (dig Q).length cap7):=by rw[←hWq];simp[go_sem,h3a,h3b]
 rw[hWq]
 replace q0:=BX.get hAq 0 rfl
 replace q1:=BX.get hAq 1 rfl
 replace q2:=BX.get hAq 2 rfl
 replace q3:=BX.get hAq 3 rfl
 clear hWq hA hB hq5 hr6 h3a h3b h3f hnu hsl
 go_upto_region 14 with(go_at_call 76;(with_reducible refine(w_madeN _ _ R _ hrq (by rw[hvr,hR]) hsr).mono ?_);rintro e w6 ⟨y17,rfl,hr7,hb7⟩;obtain⟨ao8,b8,o8,cap8,rfl, -⟩:=hr7.view;have hA6:=hAq.ext hb7;have hB6:=hBq.ext hb7;obtain⟨⟨xa,h4a⟩,⟨xb,h4b⟩,h4f,hnv,hsm⟩:=hB6.box;have hsl:=hAq.box.2.2.2.2;have h3f:=hA6.box.2.2.1;have d20:=(hb7.cells.1 _ 0 hsl).trans c20;have d21:=(hb7.cells.1 _ 1 hsl).trans c21;clear c20 c21 q0 q1 q2 q3)
 have h4f0:=h4f 0
 have h4f1:=h4f 1
 have h3f0:=h3f 0
 have h3f1:=h3f 1
 go_region
 all_goals
  have hE6:=hA6.base
  have hnu:=hA6.box.2.2.2.1
  have hq6:=hqq.ext hb7
  go_wp2_with fail
  refine bodyPost_ret (v:=.tuple #[.agg #[.bool boq,.slice ao7 (dig Q).length cap7],.agg #[.bool false,.slice ao8 (dig R).length cap8],O 0]) ?_ rfl ⟨_,_,rfl, ?_,⟨_,rfl, ?_⟩, ?_⟩
  ·simp[results,Tryz.results98,go_sem, ↓IntWalk.iteOmega,h4a,h4b,d20,d21]
  ·refine Wid.mk' (Lim.ext ?_ ((Ext.refl _).drew)) hboq.out
   refine Lim.box (Lim.box (Lim.box (Lim.box (Lim.box (Lim.box hq6 ?_) ?_) ?_) ?_) ?_) ?_<;>(repeat(first|with_reducible exact hnu|with_reducible exact hnv|with_reducible refine NoU.set ?_ (fun z e=>by cases e)))
  ·refine Lim.ext ?_ ((Ext.refl _).drew)
   refine Lim.box (Lim.box (Lim.box (Lim.box (Lim.box (Lim.box hr7 ?_) ?_) ?_) ?_) ?_) ?_<;>(repeat(first|with_reducible exact hnu|with_reducible exact hnv|with_reducible refine NoU.set ?_ (fun z e=>by cases e)))
  ·exact b_1
theorem z_DivTn (va vb:Value) (m k:Nat) (w:World) (ha:Sm w va true m) (hb0:Nn w vb k) (hs:Small m) (hz:m=0→true=false) (hk0:0<k) (hs2:Small k) (hr0:¬0<m%k):
    K_ 98 #[va,vb] w fun e w'=>∃u v,e=.returned (.tuple #[u,v,O 0])∧Wid w' u (sg true (m/k))∧Nn w' v (m%k)∧Ext w w':=by
 obtain⟨u,rfl,hu⟩:=ha
 obtain⟨s,rfl,hv⟩:=hb0
 obtain⟨ao,b1,o1,cap1,rfl,v1,v2,v3,v4,v5,v6⟩:=hu.view
 obtain⟨bo,b2,o2,cap2,rfl,y1,y2,y3,y4,y5,y6⟩:=hv.view
 have hlen:(dig m).length≤49999:=by unfold Small at hs;omega
 have hl1:=dig_pos.2 hk0
 have hlk:(dig k).length≤49999:=by unfold Small at hs2;omega
 obtain⟨W4,hW4⟩:∃W4,(((w.alloc (.cells #[.bool true,.slice ao (dig m).length cap1] 24)).alloc (.cells #[.bool false,.slice bo (dig k).length cap2] 24)).alloc (.cells #[.bool false,.slice none 0 0] 24)).alloc (.cells #[.bool false,.slice none 0 0] 24)=W4:=⟨_,rfl⟩
 have hWs:W4.heap.size=w.heap.size+1+1+1+1:=by rw[←hW4];simp
 have hEW:Ext w W4:=by rw[←hW4];exact((((Ext.refl w).alloc _).alloc _).alloc _).alloc _
 have hA0:BX w (w.heap.size+1+1) [(w.heap.size,0,.bool true),(w.heap.size,1,.slice ao (dig m).length cap1),(w.heap.size+1,0,.bool false),(w.heap.size+1,1,.slice bo (dig k).length cap2)] W4:=by
  exact T_ZDM_1
 have hB0:BX w (w.heap.size+1+1+1) [(w.heap.size,0,.bool true),(w.heap.size,1,.slice ao (dig m).length cap1),(w.heap.size+1,0,.bool false),(w.heap.size+1,1,.slice bo (dig k).length cap2)] W4:=by
  exact T_ZDM_2
 have hL2:∀p∈([(w.heap.size,0,.bool true),(w.heap.size,1,.slice ao (dig m).length cap1),(w.heap.size+1,0,.bool false),(w.heap.size+1,1,.slice bo (dig k).length cap2)]:List (Nat×Nat×Value)),p.1≠w.heap.size+1+1:=by
  exact T_ZDM_3
 have hL3:∀p∈([(w.heap.size,0,.bool true),(w.heap.size,1,.slice ao (dig m).length cap1),(w.heap.size+1,0,.bool false),(w.heap.size+1,1,.slice bo (dig k).length cap2)]:List (Nat×Nat×Value)),p.1≠w.heap.size+1+1+1:=by
  exact T_ZDM_3
 have hck:=z_check_two W4 _ _ true false m k (hu.ext hEW) (hv.ext hEW) hs hs2 hz (fun _=>rfl)
 rw[hWs]at hck
 subst hW4
 clear v1 v4 v5 y1 y4 y5 hWs hEW
 have z0:(((dig k).length:Int)==0)=false:=by simp;intro e;rw[e]at hl1;simp at hl1
 have hdv:=fun w1 (k1:Ext w w1)=>w_divideA _ _ (dig m) (dig k) w1 (hu.ext k1) (hv.ext k1) (dig_nz m) (dig_nz k) hlen hl1
 have hl2:=hl1
 clear hl1
 obtain⟨Q,hQ⟩:∃Q,(m/k)=Q:=⟨_,rfl⟩
 obtain⟨R,hR⟩:∃R,(m%k)=R:=⟨_,rfl⟩
 rw[hQ,hR]
 go_enter Tryz.func98,Tryz.ntmps98
 go_upto_region 7 with(first
  | (go_at_call 77;(with_reducible refine hck.mono ?_);rintro e w1 ⟨rfl,hb⟩;have hA:=hA0.ext (((Ext.refl _).alloc _).trans hb);have hB:=hB0.ext (((Ext.refl _).alloc _).trans hb);have q0:=BX.get hA 0 rfl;have q1:=BX.get hA 1 rfl;have q2:=BX.get hA 2 rfl;have q3:=BX.get hA 3 rfl;clear hA0 hB0 hck hb)
  | (go_at_call 83;(with_reducible refine(hdv _ hA.base).mono ?_);rintro e w2 ⟨y14,y15,qs,rs,rfl,hq,hr,nq,nr,hval,hlt,hb5⟩;obtain⟨ao6,b6,o6,cap6,rfl, -⟩:=hr.view;obtain⟨ao5,b5,o5,cap5,rfl, -⟩:=hq.view;replace hA:=hA.ext hb5;replace hB:=hB.ext hb5;replace q0:=BX.get hA 0 rfl;replace q1:=BX.get hA 1 rfl;replace q2:=BX.get hA 2 rfl;replace q3:=BX.get hA 3 rfl))
 obtain⟨eq,er⟩:=div_dig hq.lb hr.lb nq nr hval hlt
 subst eq
 subst er
 have hmk:m/k≤m:=Nat.div_le_self _ _
 have hrk:m%k<k:=Nat.mod_lt _ hk0
 have hlq:(dig (m/k)).length≤49999:=Nat.le_trans (dig_mono hmk) hlen
 have hsq0:(dig (m/k)).length≤4096:=Nat.le_trans (dig_mono hmk) hs
 have hsr0:(dig (m%k)).length≤4096:=Nat.le_trans (dig_mono (by omega)) hs2
 have hrp:(dig (m%k)).length=0:=by
  have:m%k=0:=by omega
  rw[this];rfl
 have hsq:(dig Q).length≤4096:=hQ▸hsq0
 have hsr:(dig R).length≤4096:=hR▸hsr0
 clear hdv hval hlt nq nr hb5 hsq0 hsr0
 rw[hQ]at hq
 rw[hR]at hr hrp
 go_upto_region 11 with(go_at_call 76;go_loud (with_reducible refine(w_madeS true _ _ Q _ hq (dig_val _) hsq).mono ?_);rintro e w5 ⟨y16,boq,rfl,hq5,hboq,hb6⟩;replace hboq:Hid _:=hboq;obtain⟨ao7,b7,o7,cap7,rfl, -⟩:=hq5.view;replace hA:=hA.ext hb6;replace hB:=hB.ext hb6;replace q0:=BX.get hA 0 rfl;replace q1:=BX.get hA 1 rfl;replace q2:=BX.get hA 2 rfl;replace q3:=BX.get hA 3 rfl;obtain⟨⟨xa,h3a⟩,⟨xb,h3b⟩,h3f,hnu,hsl⟩:=hA.box;have hr6:=hr.ext hb6)
 obtain⟨Wq,hWq⟩:∃Wq,(w5.setCell ⟨w.heap.size+1+1,0,none⟩ (.bool boq)).setCell ⟨w.heap.size+1+1,1,none⟩ (.slice ao7 (dig Q).length cap7)=Wq:=⟨_,rfl⟩
 have hAq:BX w (w.heap.size+1+1) [(w.heap.size,0,.bool true),(w.heap.size,1,.slice ao (dig m).length cap1),(w.heap.size+1,0,.bool false),(w.heap.size+1,1,.slice bo (dig k).length cap2)] Wq:=hWq▸(hA.set (by omega) hL2 (fun z e=>by cases e)).set (by omega) hL2 (fun z e=>by cases e)
 have hBq:BX w (w.heap.size+1+1+1) [(w.heap.size,0,.bool true),(w.heap.size,1,.slice ao (dig m).length cap1),(w.heap.size+1,0,.bool false),(w.heap.size+1,1,.slice bo (dig k).length cap2)] Wq:=hWq▸(hB.other (by omega) hL2 (by omega) (fun z e=>by cases e)).other (by omega) hL2 (by omega) (fun z e=>by cases e)
 have hqq:Lim Wq (.slice ao7 (dig Q).length cap7) (dig Q):=hWq▸Lim.box (Lim.box hq5 hnu) (NoU.set hnu (fun z e=>by cases e))
 have hrq:Lim Wq _ _:=hWq▸Lim.box (Lim.box hr6 hnu) (NoU.set hnu (fun z e=>by cases e))
 have c20:Wq.cell? ⟨w.heap.size+1+1,0,none⟩=some (.bool boq):=by rw[←hWq];simp[go_sem,h3a,h3b]
 have c21:Wq.cell? ⟨w.heap.size+1+1,1,none⟩=some (.slice ao7 (dig Q).length cap7):=by rw[←hWq];simp[go_sem,h3a,h3b]
 rw[hWq]
 replace q0:=BX.get hAq 0 rfl
 replace q1:=BX.get hAq 1 rfl
 replace q2:=BX.get hAq 2 rfl
 replace q3:=BX.get hAq 3 rfl
 clear hWq hA hB hq5 hr6 h3a h3b h3f hnu hsl
 rw[hrp]at hrq
 go_upto_region 14 with(go_at_call 76;(with_reducible refine(w_madeN _ _ R _ hrq (dig_val _) hsr).mono ?_);rintro e w6 ⟨y17,rfl,hr7,hb7⟩;obtain⟨ao8,b8,o8,cap8,rfl, -⟩:=hr7.view;have hA6:=hAq.ext hb7;have hB6:=hBq.ext hb7;obtain⟨⟨xa,h4a⟩,⟨xb,h4b⟩,h4f,hnv,hsm⟩:=hB6.box;have hsl:=hAq.box.2.2.2.2;have h3f:=hA6.box.2.2.1;have d20:=(hb7.cells.1 _ 0 hsl).trans c20;have d21:=(hb7.cells.1 _ 1 hsl).trans c21;clear c20 c21 q0 q1 q2 q3)
 have h4f0:=h4f 0
 have h4f1:=h4f 1
 have h3f0:=h3f 0
 have h3f1:=h3f 1
 go_region
 all_goals
  have hE6:=hA6.base
  have hnu:=hA6.box.2.2.2.1
  have hq6:=hqq.ext hb7
  go_wp2_with fail
  refine bodyPost_ret (v:=.tuple #[.agg #[.bool boq,.slice ao7 (dig Q).length cap7],.agg #[.bool false,.slice ao8 (dig R).length cap8],O 0]) ?_ rfl ⟨_,_,rfl, ?_,⟨_,rfl, ?_⟩, ?_⟩
  ·simp[results,Tryz.results98,go_sem, ↓IntWalk.iteOmega,h4a,h4b,d20,d21]<;>exact hrp.symm
  ·refine Wid.mk' (Lim.ext ?_ ((Ext.refl _).drew)) hboq.out
   refine Lim.box (Lim.box (Lim.box (Lim.box (Lim.box (Lim.box hq6 ?_) ?_) ?_) ?_) ?_) ?_<;>(repeat(first|with_reducible exact hnu|with_reducible exact hnv|with_reducible refine NoU.set ?_ (fun z e=>by cases e)))
  ·refine Lim.ext ?_ ((Ext.refl _).drew)
   refine Lim.box (Lim.box (Lim.box (Lim.box (Lim.box (Lim.box hr7 ?_) ?_) ?_) ?_) ?_) ?_<;>(repeat(first|with_reducible exact hnu|with_reducible exact hnv|with_reducible refine NoU.set ?_ (fun z e=>by cases e)))
  ·exact b_1
theorem neg_divN (m k:Nat) (hk:0<k):(-(m:Int))/k=(if 0<m%k then -((m/k+1:Nat):Int)else -((m/k:Nat):Int))∧(-(m:Int))%k=(if 0<m%k then((k-m%k:Nat):Int)else 0):=by
 have hd:=Nat.div_add_mod m k
 have hm:=Nat.mod_lt m hk
 generalize m/k=q at*
 generalize m%k=r at*
 have e:(m:Int)=k*q+r:=by exact_mod_cast hd.symm
 split
 ·rename_i h0
  refine(Int.ediv_emod_unique (a:= -(m:Int)) (b:=k) (r:=((k-r:Nat):Int)) (q:= -((q+1:Nat):Int)) (by omega)).2 ⟨?_,by omega,by omega⟩
  rw[e,Int.natCast_add,Int.mul_neg,Int.mul_add];omega
 ·rename_i h0
  refine(Int.ediv_emod_unique (a:= -(m:Int)) (b:=k) (r:=0) (q:= -(q:Int)) (by omega)).2 ⟨?_,by omega,by omega⟩
  rw[e,Int.mul_neg];omega
theorem z_DivMod (va vb:Value) (n:Int) (k:Nat) (w:World) (ha:Wid w va n) (hb0:Nn w vb k) (hs:Sz n) (hk0:0<k) (hs2:Small k):
    K_ 98 #[va,vb] w fun e w'=>∃u v,e=.returned (.tuple #[u,v,O 0])∧Wid w' u (n/k)∧Nn w' v (n%k).toNat∧Ext w w':=by
 by_cases h:n<0
 ·obtain⟨u,rfl,hu⟩:=ha
  have hd:decide (n<0)=true:=decide_eq_true h
  rw[hd]
  obtain⟨e1,e2⟩:=neg_divN n.natAbs k hk0
  have e: -(n.natAbs:Int)=n:=by omega
  rw[e]at e1 e2
  rw[e1,e2]
  by_cases hr:0<n.natAbs%k
  ·rw[if_pos hr,if_pos hr,Int.toNat_natCast]
   exact z_DivTr _ _ n.natAbs k w ⟨u,rfl,hu⟩ hb0 hs (by omega) hk0 hs2 hr
  ·rw[if_neg hr,if_neg hr]
   have h0:n.natAbs%k=0:=by omega
   have:=z_DivTn _ _ n.natAbs k w ⟨u,rfl,hu⟩ hb0 hs (by omega) hk0 hs2 hr
   rw[h0]at this
   exact this
 ·have h1:((n.natAbs:Nat):Int)=n:=by omega
  have e1:n/k=((n.natAbs/k:Nat):Int):=by rw[←h1];simp
  have e2:(n%k).toNat=n.natAbs%k:=by rw[←h1];simp;omega
  rw[e1,e2]
  refine(w_DivMod va vb n.natAbs k w (ha.nn (by omega)) hb0 hs hk0 hs2).mono ?_
  rintro e w' ⟨u,v,rfl,hu,hv,hb⟩
  exact⟨u,v,rfl,hu.wid,hv,hb⟩
theorem t_divZ (va vb:Value) (n:Int) (k:Nat) (w:World) (ha:Wid w va n) (hb0:Nn w vb k) (hs:Sz n) (hs2:Small k) (hk0:0<k):K_ 145 #[va,vb] w fun e w'=>∃u,e=.returned u∧Wid w' u (n/k)∧Ext w w':=by
 obtain⟨sa,ao,la,cap1,rfl⟩:∃sa ao la cap1,va=.agg #[.bool sa,.slice ao la cap1]:=by
  obtain⟨u,rfl,hu⟩:=ha;obtain⟨ao,b1,o1,cap1,rfl, -⟩:=hu.view;exact⟨_,_,_,_,rfl⟩
 obtain⟨bo,lb,cap2,rfl⟩:∃bo lb cap2,vb=.agg #[.bool false,.slice bo lb cap2]:=by
  obtain⟨u,rfl,hu⟩:=hb0;obtain⟨ao,b1,o1,cap1,rfl, -⟩:=hu.view;exact⟨_,_,_,rfl⟩
 have hm:=fun w1 (k1:Ext w w1)=>z_DivMod _ _ n k w1 (ha.ext k1) (hb0.ext k1) hs hk0 hs2
 obtain⟨R,hR⟩:∃R,n/(k:Int)=R:=⟨_,rfl⟩
 obtain⟨M,hM⟩:∃M,(n%(k:Int)).toNat=M:=⟨_,rfl⟩
 rw[hR,hM]at hm
 rw[hR]
 clear hR hM ha hb0
 go_enter Tryz.func145,Tryz.ntmps145
 go_wp2_with (go_at_call 98;(with_reducible refine(hm _ ex_).mono ?_);rintro e w1 ⟨y1,y3,rfl,hx,⟨y4,rfl,hy⟩,hb⟩;obtain⟨xs,xo,xl,xc,rfl⟩:∃xs xo xl xc,y1=.agg #[.bool xs,.slice xo xl xc]:=(by obtain⟨u,rfl,hu⟩:=hx;obtain⟨ao,b1,o1,cap1,rfl, -⟩:=hu.view;exact⟨_,_,_,_,rfl⟩);obtain⟨yo,_,_,yc,rfl, -⟩:=hy.view;obtain⟨_,_,⟨hc,hf⟩,hz⟩:=hb.c3;(try simp only[wsz]at hz hc hf))
 have hnu:NoU ((w1.alloc (.cells #[.bool xs,.slice xo xl xc] 24)).alloc (.cells #[.bool false,.slice yo (dig M).length yc] 24)) (w.heap.size+1+1):=by
  have h0:=NoU.new ((w.alloc (.cells #[.bool sa,.slice ao la cap1] 24)).alloc (.cells #[.bool false,.slice bo lb cap2] 24)) #[.bool false,.slice none 0 0] 24 (noU2 (by simp) (by simp))
  simp only[World.size_alloc]at h0
  exact h0.ext (by simp) ((hb.alloc _).alloc _)
 refine bodyPost_ret (v:=.agg #[.bool xs,.slice xo xl xc]) ?_ rfl ⟨_,rfl, ?_, ?_⟩
 ·simp[results,Tryz.results145,go_sem, ↓IntWalk.iteOmega, *]
 ·exact Wid.box (Wid.box (hx.ext (((Ext.refl w1).alloc _).alloc _)) hnu) (NoU.set hnu (fun z e=>by cases e))
 ·exact b_1
def radiF (a:Int):Option Int:=(piF 120).bind fun P=>
 if okN (P.v*(2*a))=true then floorF (P.v*(2*a)/1296000000000) (200*P.r+1) 120 else none
def radQ (n:Int) (P:Bl):Int:=n*2^90*2^1/P.v
def radB (n:Int) (P:Bl):Bl:=⟨n*2^90-radQ n P*P.v/2,100*P.r+1⟩
def radF (n m:Int):Option (Int×Int):=(piF 130).bind fun P=>
 if 0<P.v∧ -100000000000≤radQ n P∧radQ n P≤100000000000∧okN (n*2^90)=true∧okN (n*2^90*2^1)=true∧okN (radQ n P*P.v)=true∧okN (radQ n P*P.v/2)=true∧okN (radB n P).v=true∧okN (P.v/2)=true∧okN (P.v/2-(radB n P).v)=true∧(radB n P).r<(radB n P).v∧2*(radB n P).r<P.v/2-(radB n P).v then
  (turnF ((radQ n P+m)%4) (radB n P) P 130).bind fun T=>if 0≤T.r∧T.r≤9000000000000000000 then(floorF T.v T.r 130).bind fun f=>some (radQ n P,f)else none
 else none
theorem tmod4 (q:Int):(q.tmod 4+4).tmod 4=q%4∧ -4<q.tmod 4∧q.tmod 4<4:=by
 rcases Int.le_total 0 q with h|h
 ·rw[Int.tmod_eq_emod_of_nonneg h,Int.tmod_eq_emod_of_nonneg (by omega)];omega
 ·obtain⟨c,rfl⟩:∃c,q= -c:=⟨-q,by omega⟩
  rw[Int.neg_tmod,Int.tmod_eq_emod_of_nonneg (a:=c) (by omega),Int.tmod_eq_emod_of_nonneg (by omega)];omega
theorem t_radian (n m q f:Int) (w:World) (h0: -9000000000000000000≤n) (h1:n≤9000000000000000000) (hn:¬n=0) (hm:m=0∨m=1) (hF:radF n m=some (q,f)):
    K_ 173 #[O n,O m] w fun e w'=>e=.returned (.tuple #[O q,.agg #[O f,O (f+1)]])∧Ext w w':=by
 unfold radF at hF
 rw[Option.bind_eq_some_iff]at hF
 obtain⟨P,hP,hF⟩:=hF
 split at hF
 case isFalse=>cases hF
 rename_i k0
 obtain⟨z0,z1,z2,z3,z4,z5,z6,z7,z8,z9,z10,z11⟩:=k0
 rw[Option.bind_eq_some_iff]at hF
 obtain⟨T,hT,hF⟩:=hF
 split at hF
 case isFalse=>cases hF
 rename_i k1
 rw[Option.bind_eq_some_iff]at hF
 obtain⟨f',hf,hF⟩:=hF
 have hF2:=Option.some.inj hF
 have e1:radQ n P=q:=congrArg Prod.fst hF2
 have e2:f'=f:=congrArg Prod.snd hF2
 subst e2
 rw[e1]at z1 z2 z5 z6 hT
 clear hF hF2
 obtain⟨b,hb⟩:∃b,radB n P=b:=⟨_,rfl⟩
 have hbv:n*2^90-q*P.v/2=b.v:=by rw[←hb, ←e1];rfl
 have hbr0:100*P.r+1=b.r:=by rw[←hb];rfl
 rw[hb]at z7 z9 z10 z11 hT
 unfold radQ at e1
 obtain⟨x,hx⟩:∃x,n*2^90=x:=⟨_,rfl⟩
 rw[hx]at z3 z4 hbv e1
 obtain⟨h,hh⟩:∃h,q*P.v/2=h:=⟨_,rfl⟩
 rw[hh]at z6 hbv
 obtain⟨ph,hph0⟩:∃ph,P.v/2=ph:=⟨_,rfl⟩
 rw[hph0]at z8 z9 z11
 obtain⟨o,ho⟩:∃o,ph-b.v=o:=⟨_,rfl⟩
 rw[ho]at z9 z11
 obtain⟨-,kP,kP0,kr0,kr1, -⟩:=t_piF w hP
 have hpi:∀w1 u,u=O 130→K_ 124 #[u] w1 fun e w'=>∃u,e=.returned u∧Ball w' u P.v P.r∧Ext w1 w':=fun w1 u hu=>by subst hu;exact(t_piF w1 hP).1
 have hnn:∀(w1:World) (u1:Value),u1=O n→K_ 134 #[u1] w1 fun e w'=>∃u,e=.returned u∧Wid w' u n∧Ext w1 w':=fun w1 u1 k=>by subst k;exact t_numZ _ _ (by omega) (by omega)
 have hbr:∀(w1:World) (u1:Value),u1=O b.r→K_ 134 #[u1] w1 fun e w'=>∃u,e=.returned u∧Wid w' u b.r∧Ext w1 w':=fun w1 u1 k=>by subst k;exact t_numZ _ _ (by omega) (by omega)
 have hb2:∀(w1:World) (u1:Value),u1=O (2*b.r)→K_ 134 #[u1] w1 fun e w'=>∃u,e=.returned u∧Wid w' u (2*b.r)∧Ext w1 w':=fun w1 u1 k=>by subst k;exact t_numZ _ _ (by omega) (by omega)
 have szn:Sz n:=dig_bits (k:=64) (L:=4096) (by omega) (by decide)
 have szr:Sz b.r:=dig_bits (k:=64) (L:=4096) (by omega) (by decide)
 have szr2:Sz (2*b.r):=dig_bits (k:=64) (L:=4096) (by omega) (by decide)
 have szq:Sz q:=dig_bits (k:=64) (L:=4096) (by omega) (by decide)
 have hxs:∀(w1:World) (u1 u2:Value),Wid w1 u1 n→u2=O 90→K_ 169 #[u1,u2] w1 fun e w'=>∃u,e=.returned u∧Wid w' u x∧Ext w1 w':=fun w1 u1 u2 k1 k2=>by
  subst k2
  have:=t_shiftU u1 n 90 w1 k1 szn (by decide) (by rw[hx];exact okN.sz z3)
  rw[hx]at this
  exact this
 have hx2:∀(w1:World) (u1:Value),Wid w1 u1 x→K_ 169 #[u1,O 1] w1 fun e w'=>∃u,e=.returned u∧Wid w' u (x*2^1)∧Ext w1 w':=fun w1 u1 k1=>t_shiftU u1 x 1 w1 k1 (okN.sz z3) (by decide) (okN.sz z4)
 have hqd:∀(w1:World) (u1 u2:Value),Wid w1 u1 (x*2^1)→Wid w1 u2 P.v→K_ 145 #[u1,u2] w1 fun e w'=>∃u,e=.returned u∧Wid w' u q∧Ext w1 w':=fun w1 u1 u2 k1 k2=>by
  rw[←e1]
  have e:P.v=((P.v.natAbs:Nat):Int):=by omega
  have:=t_divZ u1 u2 _ P.v.natAbs w1 k1 (k2.nn (by omega)) (okN.sz z4) (okN.sz kP) (by omega)
  rw[←e]at this
  exact this
 have hqi:∀(w1:World) (u1:Value),Wid w1 u1 q→K_ 99 #[u1] w1 fun e w'=>∃u,e=.returned u∧u=.tuple #[O q,O 0]∧Ext w1 w':=fun w1 u1 k1=>calls_eq (z_Int u1 q w1 k1 (by omega) (by omega))
 have hqp:∀(w1:World) (u1 u2:Value),Wid w1 u1 q→Wid w1 u2 P.v→K_ 132 #[u1,u2] w1 fun e w'=>∃u,e=.returned u∧Wid w' u (q*P.v)∧Ext w1 w':=fun w1 u1 u2 k1 k2=>t_mulZ u1 u2 _ _ w1 k1 k2 szq (okN.sz kP) (okN.sz z5)
 have hhf:∀(w1:World) (u1:Value),Wid w1 u1 (q*P.v)→K_ 169 #[u1,O (-1)] w1 fun e w'=>∃u,e=.returned u∧Wid w' u h∧Ext w1 w':=fun w1 u1 k=>by
  have:=t_shiftD u1 (q*P.v) 1 w1 k (okN.sz z5) (by decide) (by decide)
  rw[Int.pow_one,hh]at this
  exact this
 have hbs:∀(w1:World) (u1 u2:Value),Wid w1 u1 x→Wid w1 u2 h→K_ 131 #[u1,u2] w1 fun e w'=>∃u,e=.returned u∧Wid w' u b.v∧Ext w1 w':=fun w1 u1 u2 k1 k2=>by
  have:=t_subZ u1 u2 _ _ w1 k1 k2 (okN.sz z3) (okN.sz z6) (by rw[hbv];exact okN.sz z7)
  rw[hbv]at this
  exact this
 have hph:∀(w1:World) (u1:Value),Wid w1 u1 P.v→K_ 169 #[u1,O (-1)] w1 fun e w'=>∃u,e=.returned u∧Wid w' u ph∧Ext w1 w':=fun w1 u1 k=>by
  have:=t_shiftD u1 P.v 1 w1 k (okN.sz kP) (by decide) (by decide)
  rw[Int.pow_one,hph0]at this
  exact this
 have hos:∀(w1:World) (u1 u2:Value),Wid w1 u1 ph→Wid w1 u2 b.v→K_ 131 #[u1,u2] w1 fun e w'=>∃u,e=.returned u∧Wid w' u o∧Ext w1 w':=fun w1 u1 u2 k1 k2=>by
  have:=t_subZ u1 u2 _ _ w1 k1 k2 (okN.sz z8) (okN.sz z7) (by rw[ho];exact okN.sz z9)
  rw[ho]at this
  exact this
 have hc1:∀(w1:World) (u1 u2:Value),Wid w1 u1 b.v→Wid w1 u2 b.r→K_ 52 #[u1,u2] w1 fun e w'=>∃u,e=.returned u∧u=.tuple #[O 1,O 0]∧Ext w1 w':=fun w1 u1 u2 k1 k2=>by
  have:=z_Cmp u1 u2 _ _ w1 k1 k2 (okN.sz z7) szr
  rw[cmp_gt z10]at this
  exact calls_eq this
 have hc2:∀(w1:World) (u1 u2:Value),Wid w1 u1 o→Wid w1 u2 (2*b.r)→K_ 52 #[u1,u2] w1 fun e w'=>∃u,e=.returned u∧u=.tuple #[O 1,O 0]∧Ext w1 w':=fun w1 u1 u2 k1 k2=>by
  have:=z_Cmp u1 u2 _ _ w1 k1 k2 (okN.sz z9) szr2
  rw[cmp_gt z11]at this
  exact calls_eq this
 obtain⟨r1,hr1⟩:∃r1,(q+m).tmod 4=r1:=⟨_,rfl⟩
 obtain⟨k,hk⟩:∃k,(r1+4).tmod 4=k:=⟨_,rfl⟩
 obtain⟨t4,hr4⟩:=tmod4 (q+m)
 rw[hr1]at t4 hr4
 rw[hk]at t4
 rw[←t4]at hT
 have hk4:k=0∨k=1∨k=2∨k=3:=by omega
 have htu:∀(w1:World) (u0 u1 u2:Value),u0=O k→Ball w1 u1 b.v b.r→u2=O 130→K_ 146 #[u0,u1,u2] w1 fun e w'=>∃u,e=.returned u∧Ball w' u T.v T.r∧Ext w1 w':=fun w1 u0 u1 u2 k0 k1 k2=>by
  subst k0 k2
  exact t_turned u1 _ b P T 130 w1 k1 hk4 (by decide) hP hT
 have hun:∀(w1:World) (u1 u2:Value),Ball w1 u1 T.v T.r→u2=O 130→K_ 89 #[u1,u2] w1 fun e w'=>∃u,e=.returned u∧u=.tuple #[.agg #[O f',O (f'+1)],.bool true]∧Ext w1 w':=fun w1 u1 u2 j1 j2=>by
  subst j2
  exact calls_eq (t_unit u1 T.v T.r f' 130 w1 j1 k1.1 k1.2 (by decide) (by decide) hf)
 clear hP hT hf hb hbv hx e1 hh hph0 ho z3 z4 z5 z6 z7 z8 z9 z10 z11 k1 kP szn szr szr2 szq t4 hk4
 obtain⟨f,hf⟩:∃f,f'=f:=⟨_,rfl⟩
 rw[hf]at hun ⊢
 clear hf
 have I0:KBd w [] w:=⟨Ext.refl w,trivial,by simp,by simp⟩
 have I:=I0.new [O 0,O 0] 30 (by simp)
 simp only[List.nil_append]at I
 clear I0
 go_enter Tryz.func173,Tryz.ntmps173
 go_upto_region 1 with fail
 go_step3
 go_wp2_with fail
 go_step3
 go_upto_region 4 with fail
 refine rB [] [⟨5,some 6,.b2,(.wat x)⟩] [.eq (O (n)),.wid (n),.eq (O (130)),.eq (O (90)),.wid (x)] [] I (fun hc=>⟨ob_mv hc (.inl rfl),ob_call (fun v=>[v 0]) hc rfl fun vs gs w1 c=>hnn _ _ (c.v 0),ob_mv hc (.inl rfl),oTN 29 2 (.const (O 40)) (O 40) hc (hs:=c_1),ob_call (fun v=>[v 1,v 3]) hc rfl fun vs gs w1 c=>hxs _ _ _ (c.v 1) (c.v 3),ob_allocW (n:=1) rfl hc rfl rfl rfl,ob_putW (n:=1) rfl 4 hc rfl 0,trivial⟩) fun gx vs W=>tl ?_
 clear I
 intro I
 go_upto_region 5 with fail
 refine rB [] [⟨2,some 3,.own [.bool false,.slice none 0 0,O 0],(.bat P.v P.r)⟩] [.eq (O (130)),.ball (P.v) (P.r)] [] I (fun hc=>⟨ob_mv hc (.inl rfl),ob_call (fun v=>[v 0]) hc rfl fun vs gs w1 c=>hpi _ _ (c.v 0),ob_new (n:=2) [.bool false,.slice none 0 0,O 0] 137 rfl hc rfl rfl rfl,ob_putB (n:=2) rfl 1 hc rfl 0,trivial⟩) fun gp vs W=>tl ?_
 clear I
 intro I
 go_upto_region 6 with fail
 refine rB [] [⟨5,some 6,.b2,(.wat q)⟩] [.wid (x),.wid (x*2^1),.eq (.pointer (some ⟨gp,0,none⟩)),.wid (P.v),.wid (q)] [] I (fun hc=>⟨ob_getW gx (x) hc rfl fun vs gs w1 c=>c.b0 1,ob_call (fun v=>[v 0,O 1]) hc rfl fun vs gs w1 c=>hx2 _ _ (c.v 0),oN (.tmp 8) (.pointer (some ⟨gp,0,none⟩)) hc,ob_getN gp P.v P.r (some 2) hc rfl fun vs gs w1 c=>c.b0 2,ob_call (fun v=>[v 1,v 3]) hc rfl fun vs gs w1 c=>hqd _ _ _ (c.v 1) (c.v 3),ob_allocW (n:=3) rfl hc rfl rfl rfl,ob_putW (n:=3) rfl 4 hc rfl 0,trivial⟩) fun gq vs W=>tl ?_
 clear I
 intro I
 go_upto_region 7 with fail
 refine rB [] [] [.wid (q),.eq (.tuple #[O q,O 0]),.eq (.tuple #[O q,O 0]),.eq (O (q)),.eq (O (0)),.eq (O (q)),.eq (O (0))] [5,6] I (fun hc=>⟨ob_getW gq (q) hc rfl fun vs gs w1 c=>c.b0 3,ob_call (fun v=>[v 0]) hc rfl fun vs gs w1 c=>hqi _ _ (c.v 0),ob_cp 1 hc (.inl rfl),oT 39 2 hc,oT 39 2 hc,ob_cp 3 hc (.inr rfl),ob_cp 4 hc (.inr rfl),trivial⟩) fun vs W=>tl ?_
 clear I
 intro I
 go_upto_region 8 with fail
 refine rB [] [⟨12,some 13,.own [.bool false,.slice none 0 0,O 0],(.bat b.v b.r)⟩] [.wid (x),.wid (q),.eq (.pointer (some ⟨gp,0,none⟩)),.wid (P.v),.wid (q*P.v),.wid (h),.wid (b.v),.eq (.pointer (some ⟨gp,2,none⟩)),.eq (O (P.r)),.eq (O (100*P.r)),.eq (O (b.r)),.ball (b.v) (b.r)] [] I (fun hc=>⟨ob_getW gx (x) hc rfl fun vs gs w1 c=>c.b0 1,ob_getW gq (q) hc rfl fun vs gs w1 c=>c.b0 3,oN (.tmp 8) (.pointer (some ⟨gp,0,none⟩)) hc,ob_getN gp P.v P.r (some 2) hc rfl fun vs gs w1 c=>c.b0 2,ob_call (fun v=>[v 1,v 3]) hc rfl fun vs gs w1 c=>hqp _ _ _ (c.v 1) (c.v 3),ob_call (fun v=>[v 4,O (-1)]) hc rfl fun vs gs w1 c=>hhf _ _ (c.v 4),ob_call (fun v=>[v 0,v 5]) hc rfl fun vs gs w1 c=>hbs _ _ _ (c.v 0) (c.v 5),oN (.tmp 8) (.pointer (some ⟨gp,0,none⟩)) hc,oL 51 7 hc fun vs gs w1 c=>BatP.r (c.b0 2),oNT (.const (O 100)) (O 100) 52 8 hc (hs:=c_1),oTN 53 9 (.const (O 1)) (O 1) hc (hs:=c_1),ob_buildB (q:=b.v) (r:=b.r) 6 (some 10) hc rfl,ob_new (n:=4) [.bool false,.slice none 0 0,O 0] 137 rfl hc rfl rfl rfl,ob_putB (n:=4) rfl 11 hc rfl 0,trivial⟩) fun gb vs W=>tl ?_
 clear I
 intro I
 go_upto_region 9 with fail
 refine rB [] [⟨6,some 7,.b2,(.wat o)⟩] [.eq (.pointer (some ⟨gp,0,none⟩)),.wid (P.v),.wid (ph),.eq (.pointer (some ⟨gb,0,none⟩)),.wid (b.v),.wid (o)] [] I (fun hc=>⟨oN (.tmp 8) (.pointer (some ⟨gp,0,none⟩)) hc,ob_getN gp P.v P.r (some 0) hc rfl fun vs gs w1 c=>c.b0 2,ob_call (fun v=>[v 1,O (-1)]) hc rfl fun vs gs w1 c=>hph _ _ (c.v 1),oN (.tmp 12) (.pointer (some ⟨gb,0,none⟩)) hc,ob_getN gb b.v b.r (some 3) hc rfl fun vs gs w1 c=>c.b0 4,ob_call (fun v=>[v 2,v 4]) hc rfl fun vs gs w1 c=>hos _ _ _ (c.v 2) (c.v 4),ob_allocW (n:=5) rfl hc rfl rfl rfl,ob_putW (n:=5) rfl 5 hc rfl 0,trivial⟩) fun go vs W=>tl ?_
 clear I
 intro I
 go_upto_region 10 with fail
 refine rB [] [] [.eq (.pointer (some ⟨gb,0,none⟩)),.wid (b.v),.eq (.pointer (some ⟨gb,2,none⟩)),.eq (O (b.r)),.wid (b.r),.eq (.tuple #[O 1,O 0]),.eq (.tuple #[O 1,O 0]),.eq (O (1)),.eq (O (0)),.eq (O (1)),.eq (O (0))] [9,10] I (fun hc=>⟨oN (.tmp 12) (.pointer (some ⟨gb,0,none⟩)) hc,ob_getN gb b.v b.r (some 0) hc rfl fun vs gs w1 c=>c.b0 4,oN (.tmp 12) (.pointer (some ⟨gb,0,none⟩)) hc,oL 65 2 hc fun vs gs w1 c=>BatP.r (c.b0 4),ob_call (fun v=>[v 3]) hc rfl fun vs gs w1 c=>hbr _ _ (c.v 3),ob_call (fun v=>[v 1,v 4]) hc rfl fun vs gs w1 c=>hc1 _ _ _ (c.v 1) (c.v 4),ob_cp 5 hc (.inl rfl),oT 62 6 hc,oT 62 6 hc,ob_cp 7 hc (.inr rfl),ob_cp 8 hc (.inr rfl),trivial⟩) fun vs W=>tl ?_
 clear I
 intro I
 go_upto_region 13 with fail
 refine rB [] [] [.wid (o),.eq (.pointer (some ⟨gb,2,none⟩)),.eq (O (b.r)),.eq (O (2*b.r)),.wid (2*b.r),.eq (.tuple #[O 1,O 0]),.eq (.tuple #[O 1,O 0]),.eq (O (1)),.eq (O (0)),.eq (O (1)),.eq (O (0))] [9,10] I (fun hc=>⟨ob_getW go (o) hc rfl fun vs gs w1 c=>c.b0 5,oN (.tmp 12) (.pointer (some ⟨gb,0,none⟩)) hc,oL 77 1 hc fun vs gs w1 c=>BatP.r (c.b0 4),oNT (.const (O 2)) (O 2) 78 2 hc (hs:=c_1),ob_call (fun v=>[v 3]) hc rfl fun vs gs w1 c=>hb2 _ _ (c.v 3),ob_call (fun v=>[v 0,v 4]) hc rfl fun vs gs w1 c=>hc2 _ _ _ (c.v 0) (c.v 4),ob_cp 5 hc (.inl rfl),oT 75 6 hc,oT 75 6 hc,ob_cp 7 hc (.inr rfl),ob_cp 8 hc (.inr rfl),trivial⟩) fun vs W=>tl ?_
 clear I
 intro I
 go_upto_region 16 with fail
 refine rB [] [⟨14,some 15,.own [O 0,O 0],(.own [O f,O (f+1)])⟩] [.eq (O (q)),.eq (O (m)),.eq (O (q+m)),.eq (O (r1)),.eq (O (r1+4)),.eq (O (k)),.ball (b.v) (b.r),.eq (O (130)),.ball (T.v) (T.r),.eq (O (130)),.eq (.tuple #[.agg #[O f,O (f+1)],.bool true]),.eq (.tuple #[.agg #[O f,O (f+1)],.bool true]),.eq (.agg #[O f,O (f+1)]),.eq (.bool true),.any,.any,.eq (.bool true)] [16] I (fun hc=>⟨ob_mv hc (.inl rfl),ob_mv hc (.inl rfl),oTT 89 0 90 1 hc (hs:=c_1),oTN 91 2 (.const (O 4)) (O 4) hc (hs:=c_54),oTN 92 3 (.const (O 4)) (O 4) hc (hs:=c_1),oTN 93 4 (.const (O 4)) (O 4) hc (hs:=(by intro ρ w1 h k;go_simp;first|done|exact hk)),ob_getB gb (b.v) (b.r) hc rfl fun vs gs w1 c=>c.b0 4,ob_mv hc (.inl rfl),ob_call (fun v=>[v 5,v 6,v 7]) hc rfl fun vs gs w1 c=>htu _ _ _ _ (c.v 5) (c.v 6) (c.v 7),ob_mv hc (.inl rfl),ob_call (fun v=>[v 8,v 9]) hc rfl fun vs gs w1 c=>hun _ _ _ (c.v 8) (c.v 9),ob_cp 10 hc (.inl rfl),oT 88 11 hc,oT 88 11 hc,ob_new (n:=6) [O 0,O 0] 30 rfl hc rfl rfl rfl,ob_put2 (n:=6) 0 rfl (some 12) hc rfl,ob_cp 13 hc (.inr rfl),trivial⟩) fun gi vs W=>tl ?_
 clear I
 intro I
 go_upto_region 19 with fail
 refine rB [[(3,.own [O f,O (f+1)])]] [] [.eq (O (q)),.eq (.agg #[O f,O (f+1)]),.eq (O (q))] [2] I (fun hc=>⟨ob_mv hc (.inl rfl),ob_ld2 (x:=.tmp 18) (g:=gi) (f:=0) none hc rfl fun vs gs w1 c=>⟨c.own 6 0,c.own 6 1⟩,ob_cp 0 hc (.inr rfl),ob_put2 (n:=0) 0 rfl (some 1) hc rfl,trivial⟩) fun vs W=>tl ?_
 clear I
 intro I
 have d0:=I.own 0 0
 have d1:=I.own 0 1
 have hE:=I.e
 clear I hpi hnn hbr hb2 hxs hx2 hqd hqi hqp hhf hbs hph hos hc1 hc2 htu hun
 go_wp2_with fail
 try rw[Exit.noGoto_ret]
 refine bodyPost_ret (v:=.tuple #[O q,.agg #[O f,O (f+1)]]) ?_ rfl ⟨rfl, ?_⟩
 ·simp[results,Tryz.results173,go_sem, ↓IntWalk.iteOmega, *]
 ·exact b_1
theorem k_chk (a b:Int) (n:Nat) (w:World) (hn:n=w.heap.size):
    K_ 91 #[.slice (some ⟨n,0,none⟩) 1 1] (w.alloc (.cells #[O a,O b] 30)) fun e w'=>e=.returned (O (ckI a b))∧Ext (w.alloc (.cells #[O a,O b] 30)) w':=by
 subst hn
 go_enter Tryz.func91,Tryz.ntmps91
 go_wp2
 refine wp_loop_rounds 2 ?_
 repeat
  any_goals
   rw[rounds_succ]
   go_wp2
 all_goals
  go_ret
  refine⟨?_, ?_⟩
  ·first| (simp[ckI, *];done)| (simp[ckI, *];omega)
  ·exact b_1
theorem k_span (a b:Int) (w:World):
    K_ 93 #[.agg #[O a,O b]] w fun e w'=>e=.returned (O (ckI a b))∧Ext w w':=by
 have l0:IntKind.i64.wrap 0=0:=rfl
 have l1:IntKind.i64.wrap 1=1:=rfl
 go_enter Tryz.func93,Tryz.ntmps93
 go_wp2_with (go_at_call 91;(with_reducible refine(k_chk _ _ _ _ c_43).mono ?_);rintro e w1 ⟨rfl,hb⟩;obtain⟨_,_,⟨hc,hf⟩,hz⟩:=hb.c3;(try simp only[wsz]at hz hc hf))
 all_goals
  go_ret
  refine⟨?_, ?_⟩
  ·first| (simp[ckI, *];done)| (simp[ckI, *];omega)
  ·exact b_1
end Go.Proofs.YtaoioncjmfcolaaGreat
