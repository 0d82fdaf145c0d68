/- Numbers: the greatest common divisor. -/
import Derived.Test.YtaoioncjmfcolaaGreatV08
import Derived.Test.YtaoioncjmfcolaaGreatV07
set_option linter.unusedSimpArgs false
set_option linter.unusedVariables false
set_option maxRecDepth 100000
set_option maxHeartbeats 4000000
namespace Go.Proofs.YtaoioncjmfcolaaGreat
open Go.RowKit
theorem w_Gcd (va vb:Value) (m k:Nat) (w:World) (ha:Nn w va m) (hb0:Nn w vb k) (hs:Small m) (hs2:Small k):
    K_ 103 #[va,vb] w fun e w'=>∃u,e=.returned (.tuple #[u,O 0])∧Nn w' u (Nat.gcd m k)∧Ext w w':=by
 obtain⟨u,rfl,hu⟩:=ha
 obtain⟨s,rfl,hv⟩:=hb0
 obtain⟨ao,b1,o1,cap1,rfl,v1,v2,v3,v4,v5,v6⟩:=hu.view
 obtain⟨bo,b2,o2,cap2,rfl,y1,y2,y3,y4,y5,y6⟩:=hv.view
 have hlen:(dig m).length≤100000∧(dig k).length≤100000:=by unfold Small at hs hs2;omega
 obtain⟨W3,hW3⟩:∃W3,((w.alloc (.cells #[.bool false,.slice ao (dig m).length cap1] 24)).alloc (.cells #[.bool false,.slice bo (dig k).length cap2] 24)).alloc (.cells #[.bool false,.slice none 0 0] 24)=W3:=⟨_,rfl⟩
 have hWs:W3.heap.size=w.heap.size+1+1+1:=by rw[←hW3];simp
 have hEW:Ext w W3:=by rw[←hW3];exact(((Ext.refl w).alloc _).alloc _).alloc _
 have hS:BX w (w.heap.size+1+1) [(w.heap.size,0,.bool false),(w.heap.size,1,.slice ao (dig m).length cap1),(w.heap.size+1,0,.bool false),(w.heap.size+1,1,.slice bo (dig k).length cap2)] W3:=by
  rw[←hW3]
  refine⟨hW3▸hEW, ?_, ?_, ?_, ?_, ?_,by simp⟩
  ·intro p hp
   simp only[List.mem_cons,List.mem_nil_iff,or_false]at hp
   rcases hp with rfl|rfl|rfl|rfl<;>simp[go_sem, ↓IntWalk.iteOmega]
  ·exact b_2
  ·exact b_3
  ·exact b_4
  ·have:=NoU.new ((w.alloc (.cells #[.bool false,.slice ao (dig m).length cap1] 24)).alloc (.cells #[.bool false,.slice bo (dig k).length cap2] 24)) #[.bool false,.slice none 0 0] 24 (noU2 (by simp) (by simp))
   simpa using this
 have hLn:∀p∈([(w.heap.size,0,.bool false),(w.heap.size,1,.slice ao (dig m).length cap1),(w.heap.size+1,0,.bool false),(w.heap.size+1,1,.slice bo (dig k).length cap2)]:List (Nat×Nat×Value)),p.1≠w.heap.size+1+1:=by
  intro p hp
  simp only[List.mem_cons,List.mem_nil_iff,or_false]at hp
  rcases hp with rfl|rfl|rfl|rfl<;>(dsimp only;omega)
 have hck:=w_check_two W3 _ _ m k (hu.ext hEW) (hv.ext hEW) hs hs2
 rw[hWs]at hck
 subst hW3
 clear v1 v4 v5 y1 y4 y5 hWs hEW
 go_enter Tryz.func103,Tryz.ntmps103
 go_upto_region 4 with(go_at_call 77;(with_reducible refine hck.mono ?_);rintro e w1 ⟨rfl,hb⟩)
 have hS0:=hS.ext (((Ext.refl _).alloc _).trans hb)
 clear hS hck hb
 refine wp_region_held_drew (S:=(fun w0=>BX w (w.heap.size+1+1) [(w.heap.size,0,.bool false),(w.heap.size,1,.slice ao (dig m).length cap1),(w.heap.size+1,0,.bool false),(w.heap.size+1,1,.slice bo (dig k).length cap2)] w0)) c_3 ?_ (fun hH=> ?_)
 ·exact hS0.drew
 try simp only[sx_]
 refine sK 0 ?_
 refine tk 1 rfl c_0 ?_
 try simp only[sx_]
 refine sK 3 ?_
 refine tk 4 rfl c_0 ?_
 try simp only[sx_]
 refine rh1 2 rfl fun K hK=> ?_
 go_simp
 (go_at_call 130;(with_reducible refine(w_Clone _ _ _ (hu.ext hH.base) hlen.1).mono ?_);rintro e t2 ⟨s2,rfl,hu4,hx2⟩)
 refine hK.out _ _ ?_ fun _=> ?_
 ·exact b_5
 clear hK K hH
 rename_i hH
 try simp only[sx_]
 refine sK 5 ?_
 refine sK 6 ?_
 refine wpAnyH_done c_3 ?_ _
 go_wp2_with fail
 have hE4:=hH
 clear hH
 go_loopw [7,8] (fun p q wr=>∃a c:Nat,Small a∧Small c∧Hid (Nat.gcd a c=Nat.gcd m k)∧Hid (Lim wr p (dig a))∧Hid (Lim wr q (dig c))∧Hid (BX w (w.heap.size+1+1) [(w.heap.size,0,.bool false),(w.heap.size,1,.slice ao (dig m).length cap1),(w.heap.size+1,0,.bool false),(w.heap.size+1,1,.slice bo (dig k).length cap2)] wr)) (fun _ q wr=>lmeas wr q)
 case atStart=>exact⟨m,k,hs,hs2,rfl,hu4,hv.ext hE4.base,hE4⟩
 case round=>
  obtain⟨a,c,a1,c1,hg,HA,HC,HB⟩:=hrel
  obtain⟨ao4,b4,o4,cap4,rfl,p1,p2,p3,p4,p5,p6⟩:=HA.out.view
  obtain⟨ao5,b5,o5,cap5,rfl,q1,q2,q3,q4,q5,q6⟩:=HC.out.view
  rcases Nat.eq_zero_or_pos c with h0|h0
  ·subst h0
   have hl0:(dig 0).length=0:=rfl
   have hga:Hid (a=Nat.gcd m k):=by show a=_;rw[←hg.out,Nat.gcd_zero_right]
   clear p1 p4 p5 q1 q4 q5
   rw[hl0]
   have hcl:=fun w2 (k2:Ext wr w2)=>w_Clone _ (dig a) w2 (HA.out.ext k2) (by unfold Small at a1;omega)
   have hla:(dig a).length≤4096:=a1
   go_wp2_with (first
    | (go_at_call 130;(with_reducible refine(hcl _ (Ext.refl _)).mono ?_);rintro e w4 ⟨y14,rfl,hu5,hb5⟩;obtain⟨ao6,b6,o6,cap6,rfl,_⟩:=hu5.view)
    | (go_at_call 76;(with_reducible refine(w_madeN _ (dig a) a _ hu5 (dig_val a) hla).mono ?_);rintro e w5 ⟨y16,rfl,hu6,hb6⟩;obtain⟨ao7,b7,o7,cap7,rfl,_⟩:=hu6.view;have hS6:=(HB.out.ext hb5).ext hb6;obtain⟨⟨xa,h3a⟩,⟨xb,h3b⟩,h3f,hnu,hsl⟩:=hS6.box))
   rw[←hga.out]
   refine bodyPost_ret (v:=.tuple #[.agg #[.bool false,.slice ao7 (dig a).length cap7],O 0]) ?_ rfl ⟨_,rfl,⟨_,rfl, ?_⟩, ?_⟩
   ·simp[results,Tryz.results103,go_sem, ↓IntWalk.iteOmega,h3a,h3b]
   ·exact Lim.box (Lim.box hu6 hnu) (NoU.set hnu (fun z e=>by cases e))
   ·exact((hS6.set (by omega) hLn (fun z e=>by cases e)).set (by omega) hLn (fun z e=>by cases e)).base
  ·have hl1:0<(dig c).length:=dig_pos.2 h0
   have hdv:=w_divideA _ _ (dig a) (dig c) wr HA.out HC.out (dig_nz a) (dig_nz c) (by unfold Small at a1;omega) hl1
   have hmeas:lmeas wr (.slice ao5 (dig c).length cap5)=c:=HC.out.meas
   clear p1 p4 p5 q1 q4 q5
   go_wp2_with (go_at_call 83;(with_reducible refine hdv.mono ?_);rintro e w4 ⟨y14,y15,qs,rs,rfl,hq,hr,nq,nr,hval,hlt,hb5⟩)
   obtain⟨eq,er⟩:=div_dig hq.lb hr.lb nq nr hval hlt
   rw[er]at hr
   have hrc:a%c<c:=Nat.mod_lt _ h0
   have hm2:lmeas w4 y15=a%c:=hr.meas
   go_roundw
   case rel=>exact⟨c,a%c,c1,Nat.le_trans (dig_mono (Nat.le_of_lt hrc)) c1,(by rw[Nat.gcd_comm, ←Nat.gcd_rec,Nat.gcd_comm,hg.out]:_=_),HC.out.ext hb5,hr,HB.out.ext hb5⟩
   case measure=>rw[hm2,hmeas];exact hrc
theorem T_WN_3 {p:Prop} (h:p:=by
 intro p hp
 simp only[List.mem_cons,List.mem_nil_iff,or_false]at hp
 rcases hp with rfl|rfl|rfl|rfl<;>(dsimp only;omega)):p:=h
theorem T_WN_2 {p:Prop} (h:p:=by
 intro p hp
 simp only[List.mem_cons,List.mem_nil_iff,or_false]at hp
 rcases hp with rfl|rfl|rfl|rfl<;>simp[go_sem, ↓IntWalk.iteOmega]):p:=h
theorem T_WN_1 {p:Prop} (h:p:=by
 go_upto_region 11 with(go_at_call 76;(with_reducible refine(w_madeN _ (dig (m/k)) (m/k) _ hq (dig_val _) hsq).mono ?_);rintro e w5 ⟨y16,rfl,hq5,hb6⟩;obtain⟨ao7,b7,o7,cap7,rfl, -⟩:=hq5.view;replace hA:=hA.ext hb6;replace hB:=hB.ext hb6;replace q0:=BX.get hA 0 rfl;replace q1:=BX.get hA 1 rfl;replace q2:=BX.get hA 2 rfl;replace q3:=BX.get hA 3 rfl;obtain⟨⟨xa,h3a⟩,⟨xb,h3b⟩,h3f,hnu,hsl⟩:=hA.box;replace hr:=hr.ext hb6)
 obtain⟨Wq,hWq⟩:∃Wq,(w5.setCell ⟨w.heap.size+1+1,0,none⟩ (.bool false)).setCell ⟨w.heap.size+1+1,1,none⟩ (.slice ao7 (dig (m/k)).length cap7)=Wq:=⟨_,rfl⟩
 have hAq:BX w (w.heap.size+1+1) [(w.heap.size,0,.bool false),(w.heap.size,1,.slice ao (dig m).length cap1),(w.heap.size+1,0,.bool false),(w.heap.size+1,1,.slice bo (dig k).length cap2)] Wq:=hWq▸(hA.set (by omega) hL2 (fun z e=>by cases e)).set (by omega) hL2 (fun z e=>by cases e)
 have hBq:BX w (w.heap.size+1+1+1) [(w.heap.size,0,.bool false),(w.heap.size,1,.slice ao (dig m).length cap1),(w.heap.size+1,0,.bool false),(w.heap.size+1,1,.slice bo (dig k).length cap2)] Wq:=hWq▸(hB.other (by omega) hL2 (by omega) (fun z e=>by cases e)).other (by omega) hL2 (by omega) (fun z e=>by cases e)
 have hqq:Lim Wq (.slice ao7 (dig (m/k)).length cap7) (dig (m/k)):=hWq▸Lim.box (Lim.box hq5 hnu) (NoU.set hnu (fun z e=>by cases e))
 have hrq:Lim Wq (.slice ao6 (dig (m%k)).length cap6) (dig (m%k)):=hWq▸Lim.box (Lim.box hr hnu) (NoU.set hnu (fun z e=>by cases e))
 have c20:Wq.cell? ⟨w.heap.size+1+1,0,none⟩=some (.bool false):=by rw[←hWq];simp[go_sem,h3a,h3b]
 have c21:Wq.cell? ⟨w.heap.size+1+1,1,none⟩=some (.slice ao7 (dig (m/k)).length cap7):=by rw[←hWq];simp[go_sem,h3a,h3b]
 rw[hWq]
 replace q0:=BX.get hAq 0 rfl
 replace q1:=BX.get hAq 1 rfl
 replace q2:=BX.get hAq 2 rfl
 replace q3:=BX.get hAq 3 rfl
 clear hWq hA hB hq5 hr h3a h3b h3f hnu hsl
 go_upto_region 14 with(go_at_call 76;(with_reducible refine(w_madeN _ (dig (m%k)) (m%k) _ hrq (dig_val _) hsr).mono ?_);rintro e w6 ⟨y17,rfl,hr6,hb7⟩;obtain⟨ao8,b8,o8,cap8,rfl, -⟩:=hr6.view;have hA6:=hAq.ext hb7;have hB6:=hBq.ext hb7;obtain⟨⟨xa,h4a⟩,⟨xb,h4b⟩,h4f,hnv,hsm⟩:=hB6.box;have hsl:=hAq.box.2.2.2.2;have h3f:=hA6.box.2.2.1;have d20:=(hb7.cells.1 _ 0 hsl).trans c20;have d21:=(hb7.cells.1 _ 1 hsl).trans c21;clear c20 c21 q0 q1 q2 q3)
 have h4f0:=h4f 0
 have h4f1:=h4f 1
 have h3f0:=h3f 0
 have h3f1:=h3f 1
 go_region
 all_goals
  have hE6:=hA6.base
  have hnu:=hA6.box.2.2.2.1
  have hq6:=hqq.ext hb7
  go_wp2_with fail
  refine bodyPost_ret (v:=.tuple #[.agg #[.bool false,.slice ao7 (dig (m/k)).length cap7],.agg #[.bool false,.slice ao8 (dig (m%k)).length cap8],O 0]) ?_ rfl ⟨_,_,rfl,⟨_,rfl, ?_⟩,⟨_,rfl, ?_⟩, ?_⟩
  ·simp[results,Tryz.results98,go_sem, ↓IntWalk.iteOmega,h4a,h4b,d20,d21]
  ·refine Lim.ext ?_ ((Ext.refl _).drew)
   refine Lim.box (Lim.box (Lim.box (Lim.box (Lim.box (Lim.box hq6 ?_) ?_) ?_) ?_) ?_) ?_<;>(repeat(first|with_reducible exact hnu|with_reducible exact hnv|with_reducible refine NoU.set ?_ (fun z e=>by cases e)))
  ·refine Lim.ext ?_ ((Ext.refl _).drew)
   refine Lim.box (Lim.box (Lim.box (Lim.box (Lim.box (Lim.box hr6 ?_) ?_) ?_) ?_) ?_) ?_<;>(repeat(first|with_reducible exact hnu|with_reducible exact hnv|with_reducible refine NoU.set ?_ (fun z e=>by cases e)))
  ·repeat(first|with_reducible exact Ext.refl _|with_reducible assumption|with_reducible refine Ext.alloc ?_ _|with_reducible refine Ext.setCell ?_ c_27 _|with_reducible refine Ext.drewN ?_ _|with_reducible refine Ext.drew ?_|with_reducible refine Ext.trans ?_ c_7)):p:=h
theorem w_DivMod (va vb:Value) (m k:Nat) (w:World) (ha:Nn w va m) (hb0:Nn w vb k) (hs:Small m) (hk0:0<k) (hs2:Small k):
    K_ 98 #[va,vb] w fun e w'=>∃u v,e=.returned (.tuple #[u,v,O 0])∧Nn w' u (m/k)∧Nn w' v (m%k)∧Ext w w':=by
 obtain⟨u,rfl,hu⟩:=ha
 obtain⟨s,rfl,hv⟩:=hb0
 obtain⟨ao,b1,o1,cap1,rfl,v1,v2,v3,v4,v5,v6⟩:=hu.view
 obtain⟨bo,b2,o2,cap2,rfl,y1,y2,y3,y4,y5,y6⟩:=hv.view
 have hlen:(dig m).length≤49999:=by unfold Small at hs;omega
 have hl1:=dig_pos.2 hk0
 obtain⟨W4,hW4⟩:∃W4,(((w.alloc (.cells #[.bool false,.slice ao (dig m).length cap1] 24)).alloc (.cells #[.bool false,.slice bo (dig k).length cap2] 24)).alloc (.cells #[.bool false,.slice none 0 0] 24)).alloc (.cells #[.bool false,.slice none 0 0] 24)=W4:=⟨_,rfl⟩
 have hWs:W4.heap.size=w.heap.size+1+1+1+1:=by rw[←hW4];simp
 have hEW:Ext w W4:=by rw[←hW4];exact((((Ext.refl w).alloc _).alloc _).alloc _).alloc _
 have hA0:BX w (w.heap.size+1+1) [(w.heap.size,0,.bool false),(w.heap.size,1,.slice ao (dig m).length cap1),(w.heap.size+1,0,.bool false),(w.heap.size+1,1,.slice bo (dig k).length cap2)] W4:=by
  rw[←hW4]
  refine⟨hW4▸hEW, ?_, ?_, ?_, ?_, ?_,by simp⟩
  ·exact T_WN_2
  ·exact b_2
  ·exact b_3
  ·exact b_4
  ·have:=(NoU.new ((w.alloc (.cells #[.bool false,.slice ao (dig m).length cap1] 24)).alloc (.cells #[.bool false,.slice bo (dig k).length cap2] 24)) #[.bool false,.slice none 0 0] 24 (noU2 (by simp) (by simp))).alloc (by simp) #[.bool false,.slice none 0 0] 24
   simpa using this
 have hB0:BX w (w.heap.size+1+1+1) [(w.heap.size,0,.bool false),(w.heap.size,1,.slice ao (dig m).length cap1),(w.heap.size+1,0,.bool false),(w.heap.size+1,1,.slice bo (dig k).length cap2)] W4:=by
  rw[←hW4]
  refine⟨hW4▸hEW, ?_, ?_, ?_, ?_, ?_,by simp⟩
  ·exact T_WN_2
  ·exact b_2
  ·exact b_3
  ·exact b_4
  ·have:=NoU.new (((w.alloc (.cells #[.bool false,.slice ao (dig m).length cap1] 24)).alloc (.cells #[.bool false,.slice bo (dig k).length cap2] 24)).alloc (.cells #[.bool false,.slice none 0 0] 24)) #[.bool false,.slice none 0 0] 24 (noU2 (by simp) (by simp))
   simpa using this
 have hL2:∀p∈([(w.heap.size,0,.bool false),(w.heap.size,1,.slice ao (dig m).length cap1),(w.heap.size+1,0,.bool false),(w.heap.size+1,1,.slice bo (dig k).length cap2)]:List (Nat×Nat×Value)),p.1≠w.heap.size+1+1:=by
  exact T_WN_3
 have hL3:∀p∈([(w.heap.size,0,.bool false),(w.heap.size,1,.slice ao (dig m).length cap1),(w.heap.size+1,0,.bool false),(w.heap.size+1,1,.slice bo (dig k).length cap2)]:List (Nat×Nat×Value)),p.1≠w.heap.size+1+1+1:=by
  exact T_WN_3
 have hck:=w_check_two W4 _ _ m k (hu.ext hEW) (hv.ext hEW) hs hs2
 rw[hWs]at hck
 subst hW4
 clear v1 v4 v5 y1 y4 y5 hWs hEW
 have z0:(((dig k).length:Int)==0)=false:=by simp;intro e;rw[e]at hl1;simp at hl1
 have hdv:=fun w1 (k1:Ext w w1)=>w_divideA _ _ (dig m) (dig k) w1 (hu.ext k1) (hv.ext k1) (dig_nz m) (dig_nz k) hlen hl1
 clear hl1
 go_enter Tryz.func98,Tryz.ntmps98
 go_upto_region 7 with(first
  | (go_at_call 77;(with_reducible refine hck.mono ?_);rintro e w1 ⟨rfl,hb⟩;have hA:=hA0.ext (((Ext.refl _).alloc _).trans hb);have hB:=hB0.ext (((Ext.refl _).alloc _).trans hb);have q0:=BX.get hA 0 rfl;have q1:=BX.get hA 1 rfl;have q2:=BX.get hA 2 rfl;have q3:=BX.get hA 3 rfl;clear hA0 hB0 hck hb)
  | (go_at_call 83;(with_reducible refine(hdv _ hA.base).mono ?_);rintro e w2 ⟨y14,y15,qs,rs,rfl,hq,hr,nq,nr,hval,hlt,hb5⟩;obtain⟨ao6,b6,o6,cap6,rfl, -⟩:=hr.view;obtain⟨ao5,b5,o5,cap5,rfl, -⟩:=hq.view;replace hA:=hA.ext hb5;replace hB:=hB.ext hb5;replace q0:=BX.get hA 0 rfl;replace q1:=BX.get hA 1 rfl;replace q2:=BX.get hA 2 rfl;replace q3:=BX.get hA 3 rfl))
 obtain⟨eq,er⟩:=div_dig hq.lb hr.lb nq nr hval hlt
 subst eq
 subst er
 have hmk:m/k≤m:=Nat.div_le_self _ _
 have hrk:m%k<k:=Nat.mod_lt _ hk0
 have hsq:(dig (m/k)).length≤4096:=Nat.le_trans (dig_mono hmk) hs
 have hsr:(dig (m%k)).length≤4096:=Nat.le_trans (dig_mono (Nat.le_of_lt hrk)) hs2
 clear hdv hval hlt nq nr hb5
 by_cases hr0:0<(dig (m%k)).length
 ·skip
  exact T_WN_1
 ·skip
  exact T_WN_1
theorem T_WO_1 {p:Prop} (h:p:=by
 exact⟨rfl,ex_⟩):p:=h
theorem w_to (va vb:Value) (m k:Nat) (w:World) (ha:Nn w va m) (hb0:Nn w vb k):
    K_ 107 #[va,vb] w fun e w'=>e=.returned (O (cmpI m k))∧Ext w w':=by
 obtain⟨u,rfl,hu⟩:=ha
 obtain⟨s,rfl,hv⟩:=hb0
 obtain⟨ao,b1,o1,cap1,rfl, -⟩:=hu.view
 obtain⟨bo,b2,o2,cap2,rfl, -⟩:=hv.view
 have hcm:=fun w1 (k1:Ext w w1)=>w_compare _ _ (dig m) (dig k) w1 (hu.ext k1) (hv.ext k1) (dig_nz m) (dig_nz k)
 rw[dig_val,dig_val]at hcm
 go_enter Tryz.func107,Tryz.ntmps107
 go_wp2_with (go_at_call 86;(with_reducible refine(hcm _ ex_).mono ?_);rintro e w1 ⟨rfl,hb⟩)
 go_ret
 exact T_WO_1
theorem w_Cmp (va vb:Value) (m k:Nat) (w:World) (ha:Nn w va m) (hb0:Nn w vb k) (hs:Small m) (hs2:Small k):
    K_ 52 #[va,vb] w fun e w'=>e=.returned (.tuple #[O (cmpI m k),O 0])∧Ext w w':=by
 obtain⟨u,rfl,hu⟩:=ha
 obtain⟨s,rfl,hv⟩:=hb0
 obtain⟨ao,b1,o1,cap1,rfl, -⟩:=hu.view
 obtain⟨bo,b2,o2,cap2,rfl, -⟩:=hv.view
 have hck:=w_check_two ((w.alloc (.cells #[.bool false,.slice ao (dig m).length cap1] 24)).alloc (.cells #[.bool false,.slice bo (dig k).length cap2] 24)) _ _ m k ((hu.alloc _).alloc _) ((hv.alloc _).alloc _) hs hs2
 simp only[World.size_alloc]at hck
 have hto:=fun w1 (k1:Ext w w1)=>w_to (.agg #[.bool false,.slice ao (dig m).length cap1]) (.agg #[.bool false,.slice bo (dig k).length cap2]) m k w1 ⟨_,rfl,hu.ext k1⟩ ⟨_,rfl,hv.ext k1⟩
 have hmf:∀(fn:Fn) (first cap:Array Value) (w:World),(Instr.makeFunc fn first cap).run Tryz.prog w=.ok (.func fn first cap) w:=fun _ _ _ _=>rfl
 go_enter Tryz.func52,Tryz.ntmps52
 go_wp2_with (first
  | (go_at_call 77;(with_reducible refine hck.mono ?_);rintro e w1 ⟨rfl,hb⟩;obtain⟨_,_,⟨hc,hf⟩,hz⟩:=hb.c3;(try simp only[wsz]at hz hc hf))
  | (go_at_call 107;(with_reducible refine(hto _ ex_).mono ?_);rintro e w2 ⟨rfl,hb2⟩))
 go_ret2
 exact T_WO_1
theorem w_same (va vb:Value) (m k:Nat) (w:World) (ha:Nn w va m) (hb0:Nn w vb k) (hs:Small m) (hs2:Small k):
    K_ 105 #[va,vb] w fun e w'=>e=.returned (.bool (decide (m=k)))∧Ext w w':=by
 have hq:(cmpI m k==0)=decide (m=k):=by
  unfold cmpI
  by_cases h1:(m:Int)<k
  ·rw[if_pos h1];simp;omega
  ·rw[if_neg h1]
   by_cases h2:(k:Int)<m
   ·rw[if_pos h2];simp;omega
   ·rw[if_neg h2];simp;omega
 generalize decide (m=k)=bb at hq ⊢
 obtain⟨u,rfl,hu⟩:=ha
 obtain⟨s,rfl,hv⟩:=hb0
 obtain⟨ao,b1,o1,cap1,rfl, -⟩:=hu.view
 obtain⟨bo,b2,o2,cap2,rfl, -⟩:=hv.view
 have hcp:=fun w1 (k1:Ext w w1)=>w_Cmp (.agg #[.bool false,.slice ao (dig m).length cap1]) (.agg #[.bool false,.slice bo (dig k).length cap2]) m k w1 ⟨_,rfl,hu.ext k1⟩ ⟨_,rfl,hv.ext k1⟩ hs hs2
 go_enter Tryz.func105,Tryz.ntmps105
 go_wp2_with (go_at_call 52;(with_reducible refine(hcp _ ex_).mono ?_);rintro e w2 ⟨rfl,hb2⟩)
 go_ret
 exact T_WO_1
theorem w_want0 (w:World):K_ 187 #[O 0] w fun e w'=>e=.returned (.tuple #[])∧w'=w:=by
 go_enter Tryz.func187,Tryz.ntmps187
 go_wp2
 go_end0
 exact⟨rfl,rfl⟩
theorem w_zero (va:Value) (m:Nat) (w:World) (ha:Nn w va m):
    K_ 104 #[va] w fun e w'=>e=.returned (.bool (decide (m=0)))∧Ext w w':=by
 have hq:(((dig m).length:Int)==0)=decide (m=0):=by
  have:=dig_pos (m:=m)
  by_cases h:m=0
  ·subst h;rfl
  ·have h1:=this.2 (by omega)
   simp[h];intro e;rw[e]at h1;simp at h1
 generalize decide (m=0)=bb at hq ⊢
 obtain⟨u,rfl,hu⟩:=ha
 obtain⟨ao,b1,o1,cap1,rfl, -⟩:=hu.view
 go_enter Tryz.func104,Tryz.ntmps104
 go_wp2
 go_ret
 exact T_WO_1
theorem T_ZT_3 {p:Prop} (h:p:=by
 obtain⟨u,rfl,hu⟩:=ha
 obtain⟨s,rfl,hv⟩:=hb0
 obtain⟨ao,b1,o1,cap1,rfl, -⟩:=hu.view
 obtain⟨bo,b2,o2,cap2,rfl, -⟩:=hv.view
 go_enter Tryz.func107,Tryz.ntmps107
 go_wp2
 go_ret
 exact T_ZT_1):p:=h
theorem T_ZT_2 {p:Prop} (h:p:=by
 rw[dig_val,dig_val]at hcm
 go_enter Tryz.func107,Tryz.ntmps107
 go_wp2_with (go_at_call 86;(with_reducible refine(hcm _ ex_).mono ?_);rintro e w1 ⟨rfl,hb⟩)
 go_ret
 exact T_ZT_1):p:=h
theorem T_ZT_1 {p:Prop} (h:p:=by
 exact⟨rfl,ex_⟩):p:=h
theorem z_toFF (va vb:Value) (m k:Nat) (w:World) (ha:Sm w va false m) (hb0:Sm w vb false k):
    K_ 107 #[va,vb] w fun e w'=>e=.returned (O (cmpI m k))∧Ext w w':=by
 obtain⟨u,rfl,hu⟩:=ha
 obtain⟨s,rfl,hv⟩:=hb0
 obtain⟨ao,b1,o1,cap1,rfl, -⟩:=hu.view
 obtain⟨bo,b2,o2,cap2,rfl, -⟩:=hv.view
 have hcm:=fun w1 (k1:Ext w w1)=>w_compare _ _ (dig m) (dig k) w1 (hu.ext k1) (hv.ext k1) (dig_nz m) (dig_nz k)
 exact T_ZT_2
theorem z_toTT (va vb:Value) (m k:Nat) (w:World) (ha:Sm w va true m) (hb0:Sm w vb true k):
    K_ 107 #[va,vb] w fun e w'=>e=.returned (O (cmpI k m))∧Ext w w':=by
 obtain⟨u,rfl,hu⟩:=ha
 obtain⟨s,rfl,hv⟩:=hb0
 obtain⟨ao,b1,o1,cap1,rfl, -⟩:=hu.view
 obtain⟨bo,b2,o2,cap2,rfl, -⟩:=hv.view
 have hcm:=fun w1 (k1:Ext w w1)=>w_compare _ _ (dig k) (dig m) w1 (hv.ext k1) (hu.ext k1) (dig_nz k) (dig_nz m)
 exact T_ZT_2
theorem z_toTF (va vb:Value) (m k:Nat) (w:World) (ha:Sm w va true m) (hb0:Sm w vb false k):
    K_ 107 #[va,vb] w fun e w'=>e=.returned (O (-1))∧Ext w w':=by
 exact T_ZT_3
theorem z_toFT (va vb:Value) (m k:Nat) (w:World) (ha:Sm w va false m) (hb0:Sm w vb true k):
    K_ 107 #[va,vb] w fun e w'=>e=.returned (O (1))∧Ext w w':=by
 exact T_ZT_3
theorem z_to (va vb:Value) (m k:Int) (w:World) (ha:Wid w va m) (hb0:Wid w vb k):
    K_ 107 #[va,vb] w fun e w'=>e=.returned (O (cmpI m k))∧Ext w w':=by
 have ha':Sm w va (decide (m<0)) m.natAbs:=ha
 have hb':Sm w vb (decide (k<0)) k.natAbs:=hb0
 by_cases h1:m<0<;>by_cases h2:k<0
 ·rw[decide_eq_true h1]at ha'
  rw[decide_eq_true h2]at hb'
  have e:cmpI m k=cmpI (k.natAbs:Int) (m.natAbs:Int):=by
   rw[show(k.natAbs:Int)= -k by omega,show(m.natAbs:Int)= -m by omega]
   unfold cmpI
   split<;>split<;>(try split)<;>(try split)<;>first|rfl|omega
  rw[e];exact z_toTT va vb _ _ w ha' hb'
 ·rw[decide_eq_true h1]at ha'
  rw[decide_eq_false h2]at hb'
  rw[cmp_lt (show m<k by omega)];exact z_toTF va vb _ _ w ha' hb'
 ·rw[decide_eq_false h1]at ha'
  rw[decide_eq_true h2]at hb'
  rw[cmp_gt (show k<m by omega)];exact z_toFT va vb _ _ w ha' hb'
 ·rw[decide_eq_false h1]at ha'
  rw[decide_eq_false h2]at hb'
  have e:cmpI m k=cmpI (m.natAbs:Int) (k.natAbs:Int):=by
   rw[show(k.natAbs:Int)=k by omega,show(m.natAbs:Int)=m by omega]
  rw[e];exact z_toFF va vb _ _ w ha' hb'
theorem z_Cmp (va vb:Value) (m k:Int) (w:World) (ha:Wid w va m) (hb0:Wid w vb k) (hs:Sz m) (hs2:Sz k):
    K_ 52 #[va,vb] w fun e w'=>e=.returned (.tuple #[O (cmpI m k),O 0])∧Ext w w':=by
 obtain⟨u,rfl,hu⟩:=ha
 obtain⟨s,rfl,hv⟩:=hb0
 obtain⟨ao,b1,o1,cap1,rfl, -⟩:=hu.view
 obtain⟨bo,b2,o2,cap2,rfl, -⟩:=hv.view
 have hck:=fun w1 (k1:Ext w w1)=>z_check_two w1 _ _ (decide (m<0)) (decide (k<0)) m.natAbs k.natAbs (hu.ext k1) (hv.ext k1) hs hs2 (wid_s _ rfl) (wid_s _ rfl)
 have hto:=fun w1 (k1:Ext w w1)=>z_to (.agg #[.bool (decide (m<0)),.slice ao (dig m.natAbs).length cap1]) (.agg #[.bool (decide (k<0)),.slice bo (dig k.natAbs).length cap2]) m k w1 ⟨_,rfl,hu.ext k1⟩ ⟨_,rfl,hv.ext k1⟩
 have hmf:∀(fn:Fn) (first cap:Array Value) (w:World),(Instr.makeFunc fn first cap).run Tryz.prog w=.ok (.func fn first cap) w:=fun _ _ _ _=>rfl
 generalize cmpI m k=R at hto ⊢
 generalize decide (m<0)=sa at hck hto ⊢
 generalize decide (k<0)=sb at hck hto ⊢
 generalize(dig m.natAbs).length=la at hck hto ⊢
 generalize(dig k.natAbs).length=lb at hck hto ⊢
 clear hu hv hs hs2
 have hck3:=hck ((w.alloc (.cells #[.bool sa,.slice ao la cap1] 24)).alloc (.cells #[.bool sb,.slice bo lb cap2] 24)) ex_
 simp only[World.size_alloc]at hck3
 clear hck
 go_enter Tryz.func52,Tryz.ntmps52
 go_wp2_with (first
  | (go_at_call 77;(with_reducible refine hck3.mono ?_);rintro e w1 ⟨rfl,hb⟩;obtain⟨_,_,⟨hc,hf⟩,hz⟩:=hb.c3;(try simp only[wsz]at hz hc hf))
  | (go_at_call 107;(with_reducible refine(hto _ ex_).mono ?_);rintro e w2 ⟨rfl,hb2⟩))
 go_ret2
 exact T_ZT_1
theorem sz0:Sz 0:=by unfold Sz Small;simp[dig_nil.2]
theorem wid0 (w:World):Wid w (.agg #[.bool false,.slice none 0 0]) 0:=⟨_,rfl,Lim.nil w⟩
theorem z_Sign (va:Value) (m:Int) (w:World) (ha:Wid w va m) (hs:Sz m):
    K_ 110 #[va] w fun e w'=>e=.returned (.tuple #[O (cmpI m 0),O 0])∧Ext w w':=by
 obtain⟨u,rfl,hu⟩:=ha
 obtain⟨ao,b1,o1,cap1,rfl, -⟩:=hu.view
 have hto:=fun w1 (k1:Ext w w1)=>z_Cmp (.agg #[.bool (decide (m<0)),.slice ao (dig m.natAbs).length cap1]) (.agg #[.bool false,.slice none 0 0]) m 0 w1 ⟨_,rfl,hu.ext k1⟩ (wid0 w1) hs sz0
 generalize cmpI m 0=R at hto ⊢
 generalize decide (m<0)=sa at hto ⊢
 generalize(dig m.natAbs).length=la at hto ⊢
 go_enter Tryz.func110,Tryz.ntmps110
 go_wp2_with (go_at_call 52;(with_reducible refine(hto _ ex_).mono ?_);rintro e w2 ⟨rfl,hb2⟩)
 go_ret2
 exact T_ZT_1
theorem z_FromN (n:Nat) (w:World) (h0:0<n) (hn:n≤9223372036854775808):
    K_ 34 #[O (-(n:Int))] w fun e w'=>∃u,e=.returned u∧Wid w' u (-(n:Int))∧Ext w w':=by
 have hL:=lim_two (w.alloc (.cells #[.bool false,.slice none 0 0] 24)) ((n:Int)%4294967296) ((n:Int)/4294967296) c_59 c_59
 rw[World.size_alloc]at hL
 have hv:val [(n:Int)%4294967296,(n:Int)/4294967296]=n:=by simp only[val];unfold BB;omega
 have hl:(dig n).length≤4096:=dig_bits (k:=64) (L:=4096) (by omega) (by decide)
 have hd:decide (-(n:Int)<0)=true:=decide_eq_true (by omega)
 have hwu:IntKind.u64.wrap (-(IntKind.u64.wrap (-(n:Int))))=n:=by rw[IntKind.wrap_u64,IntKind.wrap_u64];omega
 have hw2:(n:Int)/4294967296%4294967296=(n:Int)/4294967296:=by omega
 have hlen:=dig_pos.2 h0
 have hmd:=(w_madeS true _ _ n _ hL hv hl).mono (R':=fun e w'=>∃u,e=.returned (.tuple #[.agg #[.bool true,u],O 0])∧Lim w' u (dig n)∧Ext ((w.alloc (.cells #[.bool false,.slice none 0 0] 24)).alloc (.cells #[.int .u32 ((n:Int)%4294967296),.int .u32 ((n:Int)/4294967296)] 54)) w') (by
  rintro e w1 ⟨s,bo,rfl,hs,hbo,hb⟩
  rw[decide_eq_true hlen]at hbo
  subst hbo
  exact⟨s,rfl,hs,hb⟩)
 clear hL hv hl
 go_enter Tryz.func34,Tryz.ntmps34
 go_wp2_with (go_at_call 76;(with_reducible refine hmd.mono ?_);rintro e w1 ⟨s,rfl,hs,hb⟩;obtain⟨ao,b1,o1,cap1,rfl, -⟩:=hs.view;obtain⟨_,_,⟨hc,hf⟩,hz⟩:=hb.c3;(try simp only[wsz]at hz hc hf))
 clear hwu hw2 hmd
 have hB:NoU w1 w.heap.size:=((NoU.new w _ _ (noU2 (by simp) (by simp))).alloc (by simp) _ _).ext c_26 hb
 refine bodyPost_ret (v:=.agg #[.bool true,.slice ao (dig n).length cap1]) ?_ rfl ⟨_,rfl,⟨_,by rw[hd], ?_⟩, ?_⟩
 ·simp[results,Tryz.results34,go_sem, ↓IntWalk.iteOmega, *]
 ·rw[Int.natAbs_neg,Int.natAbs_natCast]
  have hB3:=hB.alloc (c:=#[.bool true,.slice ao (dig n).length cap1]) (t:=24) (by omega)
  exact Lim.box (Lim.box (hs.alloc _) hB3) (NoU.set hB3 (fun z e=>by cases e))
 ·exact b_1
theorem z_From (n:Int) (w:World) (h0: -9223372036854775808≤n) (h1:n≤9223372036854775807):
    K_ 34 #[O n] w fun e w'=>∃u,e=.returned u∧Wid w' u n∧Ext w w':=by
 by_cases h:n<0
 ·obtain⟨m,hm⟩:∃m:Nat,n= -(m:Int):=⟨n.natAbs,by omega⟩
  subst hm
  exact z_FromN m w (by omega) (by omega)
 ·obtain⟨m,hm⟩:∃m:Nat,n=(m:Int):=⟨n.natAbs,by omega⟩
  subst hm
  refine(w_From m w (by omega)).mono ?_
  rintro e w' ⟨u,rfl,hu,hb⟩
  exact⟨u,rfl,hu.wid,hb⟩
theorem z_MulS (va vb:Value) (sa sb:Bool) (m k:Nat) (w:World) (ha:Sm w va sa m) (hb0:Sm w vb sb k) (hs:Small m) (hs2:Small k) (hs3:Small (m*k)) (hz:m=0→sa=false) (hz2:k=0→sb=false):
    K_ 79 #[va,vb] w fun e w'=>∃u,e=.returned (.tuple #[u,O 0])∧Wid w' u (sg (!sa==sb) (m*k))∧Ext w w':=by
 obtain⟨u,rfl,hu⟩:=ha
 obtain⟨s,rfl,hv⟩:=hb0
 obtain⟨ao,b1,o1,cap1,rfl,v1,v2,v3,v4,v5,v6⟩:=hu.view
 obtain⟨bo,b2,o2,cap2,rfl,y1,y2,y3,y4,y5,y6⟩:=hv.view
 have hlen:(dig m).length≤100000∧(dig k).length≤100000:=by unfold Small at hs hs2;omega
 obtain⟨W3,hW3⟩:∃W3,((w.alloc (.cells #[.bool sa,.slice ao (dig m).length cap1] 24)).alloc (.cells #[.bool sb,.slice bo (dig k).length cap2] 24)).alloc (.cells #[.bool false,.slice none 0 0] 24)=W3:=⟨_,rfl⟩
 have hWs:W3.heap.size=w.heap.size+1+1+1:=by rw[←hW3];simp
 have hEW:Ext w W3:=by rw[←hW3];exact(((Ext.refl w).alloc _).alloc _).alloc _
 have hS:BX w (w.heap.size+1+1) [(w.heap.size,0,.bool sa),(w.heap.size,1,.slice ao (dig m).length cap1),(w.heap.size+1,0,.bool sb),(w.heap.size+1,1,.slice bo (dig k).length cap2)] W3:=by
  rw[←hW3]
  refine⟨hW3▸hEW, ?_, ?_, ?_, ?_, ?_,by simp⟩
  ·intro p hp
   simp only[List.mem_cons,List.mem_nil_iff,or_false]at hp
   rcases hp with rfl|rfl|rfl|rfl<;>simp[go_sem, ↓IntWalk.iteOmega]
  ·exact b_2
  ·exact b_3
  ·exact b_4
  ·have:=NoU.new ((w.alloc (.cells #[.bool sa,.slice ao (dig m).length cap1] 24)).alloc (.cells #[.bool sb,.slice bo (dig k).length cap2] 24)) #[.bool false,.slice none 0 0] 24 (noU2 (by simp) (by simp))
   simpa using this
 have hLn:∀p∈([(w.heap.size,0,.bool sa),(w.heap.size,1,.slice ao (dig m).length cap1),(w.heap.size+1,0,.bool sb),(w.heap.size+1,1,.slice bo (dig k).length cap2)]:List (Nat×Nat×Value)),p.1≠w.heap.size+1+1:=by
  intro p hp
  simp only[List.mem_cons,List.mem_nil_iff,or_false]at hp
  rcases hp with rfl|rfl|rfl|rfl<;>(dsimp only;omega)
 have hck:=z_check_two W3 _ _ sa sb m k (hu.ext hEW) (hv.ext hEW) hs hs2 hz hz2
 rw[hWs]at hck
 subst hW3
 clear v1 v4 v5 y1 y4 y5 hWs hEW hz hz2
 go_enter Tryz.func79,Tryz.ntmps79
 go_upto_region 4 with(go_at_call 77;(with_reducible refine hck.mono ?_);rintro e w1 ⟨rfl,hb⟩)
 have hs4:(dig (m*k)).length≤4096:=hs3
 have hS0:=hS.ext (((Ext.refl _).alloc _).trans hb)
 clear hS hck hb
 refine wp_region_held_drew (S:=(fun w0=>BX w (w.heap.size+1+1) [(w.heap.size,0,.bool sa),(w.heap.size,1,.slice ao (dig m).length cap1),(w.heap.size+1,0,.bool sb),(w.heap.size+1,1,.slice bo (dig k).length cap2)] w0)) c_3 ?_ (fun hH=> ?_)
 ·exact hS0.drew
 try simp only[sx_]
 refine sK 0 ?_
 refine tk 1 rfl c_0 ?_
 try simp only[sx_]
 refine sK 2 ?_
 refine tk 3 rfl c_0 ?_
 try simp only[sx_]
 refine sK 4 ?_
 refine sK 5 ?_
 refine tk 6 rfl c_0 ?_
 try simp only[sx_]
 refine sK 7 ?_
 refine tk 8 rfl c_0 ?_
 try simp only[sx_]
 refine rh1 9 rfl fun K hK=> ?_
 go_simp
 (go_at_call 136;(with_reducible refine(w_times _ _ _ _ _ (hu.ext hH.base) (hv.ext hH.base) hlen).mono ?_);rintro e t2 ⟨s2,zs,rfl,hz2,hval,hx2⟩;obtain⟨ao2,bb2,oo2,cc2,rfl,_⟩:=hz2.view)
 have hv2:val zs=((m*k:Nat):Int):=by rw[hval,dig_val,dig_val];exact(Int.natCast_mul m k).symm
 refine hK.out _ _ ?_ fun _=> ?_
 ·exact b_5
 clear hK K hH
 rename_i hH
 try simp only[sx_]
 refine rh1 10 rfl fun K hK=> ?_
 go_simp
 (go_at_call 76;(with_reducible refine(w_madeS (!sa==sb) _ _ (m*k) _ hz2 hv2 hs4).mono ?_);rintro e t3 ⟨s3,bo3,rfl,hz3,hbo3,hx3⟩;obtain⟨ao3,bb3,oo3,cc3,rfl,_⟩:=hz3.view)
 refine hK.out _ _ ?_ fun _=> ?_
 ·exact b_6
 clear hK K hH
 rename_i hH
 try simp only[sx_]
 refine sK 11 ?_
 refine sK 12 ?_
 refine rh1 13 rfl fun K hK=> ?_
 obtain⟨⟨xa,h3a⟩,⟨xb,h3b⟩,h3f,hnu,hsl⟩:=hH.box
 go_simp
 refine hK.out _ _ ?_ fun _=> ?_
 ·exact b_7
 clear hK K hH
 rename_i hH
 try simp only[sx_]
 refine sK 14 ?_
 refine wpAnyH_done c_3 ?_ _
 go_wp2_with fail
 refine bodyPost_ret (v:=.tuple #[.agg #[.bool bo3,.slice ao3 (dig (m*k)).length cc3],O 0]) ?_ rfl ⟨_,rfl,Wid.mk' (Lim.box (Lim.box hz3 hnu) (NoU.set hnu (fun z e=>by cases e))) hbo3, ?_⟩
 ·simp[results,Tryz.results79,go_sem, ↓IntWalk.iteOmega,h3a,h3b]<;>first|exact hbo3.symm|simp[hbo3]
 ·exact hH.base
theorem z_Mul (va vb:Value) (m k:Int) (w:World) (ha:Wid w va m) (hb0:Wid w vb k) (hs:Sz m) (hs2:Sz k) (hs3:Sz (m*k)):
    K_ 79 #[va,vb] w fun e w'=>∃u,e=.returned (.tuple #[u,O 0])∧Wid w' u (m*k)∧Ext w w':=by
 unfold Sz at hs3
 rw[Int.natAbs_mul]at hs3
 have h:=z_MulS va vb (decide (m<0)) (decide (k<0)) m.natAbs k.natAbs w ha hb0 hs hs2 hs3 (wid_s _ rfl) (wid_s _ rfl)
 have e:sg (!decide (m<0)==decide (k<0)) (m.natAbs*k.natAbs)=m*k:=by
  have h0:∀(s t:Bool) (a b:Nat),sg (!s==t) (a*b)=sg s a*sg t b:=by
   intro s t a b;cases s<;>cases t<;>simp[sg,Int.neg_mul,Int.mul_neg]
  rw[h0,sg_wid,sg_wid]
 rw[e]at h
 exact h
theorem z_shiftU0 (va:Value) (sa:Bool) (m d s:Nat) (w:World) (ha:Sm w va sa m) (hs:Small m) (hz:m=0→sa=false) (hs5:s<32) (hd:32*d+s≤131072) (hs3:Small (m*2^(32*d+s))):
    K_ 109 #[va,O (32*(d:Int)+s)] w fun e w'=>∃u,e=.returned (.tuple #[u,O 0])∧Wid w' u (sg sa (m*2^(32*d+s)))∧Ext w w':=by
 obtain⟨u,rfl,hu⟩:=ha
 obtain⟨ao,b1,o1,cap1,rfl,v1,v2,v3,v4,v5,v6⟩:=hu.view
 have hlen:(dig m).length≤4096:=hs
 obtain⟨W3,hW3⟩:∃W3,(w.alloc (.cells #[.bool sa,.slice ao (dig m).length cap1] 24)).alloc (.cells #[.bool false,.slice none 0 0] 24)=W3:=⟨_,rfl⟩
 have hWs:W3.heap.size=w.heap.size+1+1:=by rw[←hW3];simp
 have hEW:Ext w W3:=by rw[←hW3];exact((Ext.refl w).alloc _).alloc _
 have hS:BX w (w.heap.size+1) [(w.heap.size,0,.bool sa),(w.heap.size,1,.slice ao (dig m).length cap1)] W3:=by
  rw[←hW3]
  refine⟨hW3▸hEW, ?_, ?_, ?_, ?_, ?_,by simp⟩
  ·intro p hp
   simp only[List.mem_cons,List.mem_nil_iff,or_false]at hp
   rcases hp with rfl|rfl<;>simp[go_sem, ↓IntWalk.iteOmega]
  ·exact b_2
  ·exact b_3
  ·exact b_4
  ·have:=NoU.new (w.alloc (.cells #[.bool sa,.slice ao (dig m).length cap1] 24)) #[.bool false,.slice none 0 0] 24 (noU2 (by simp) (by simp))
   simpa using this
 have hLn:∀p∈([(w.heap.size,0,.bool sa),(w.heap.size,1,.slice ao (dig m).length cap1)]:List (Nat×Nat×Value)),p.1≠w.heap.size+1:=by
  intro p hp
  simp only[List.mem_cons,List.mem_nil_iff,or_false]at hp
  rcases hp with rfl|rfl<;>(dsimp only;omega)
 have hck:=z_check_one W3 _ sa m (hu.ext hEW) hs hz
 rw[hWs]at hck
 subst hW3
 clear v1 v4 v5 hWs hEW
 have hd1:d≤1000000:=by omega
 have hs4:(dig (m*2^(32*d+s))).length≤4096:=hs3
 go_enter Tryz.func109,Tryz.ntmps109
 go_upto_region 8 with(go_at_call 77;(with_reducible refine hck.mono ?_);rintro e w1 ⟨rfl,hb⟩;have q0:=BX.get (hS.ext (((Ext.refl _).alloc _).trans hb)) 0 rfl)
 have hS0:=hS.ext (((Ext.refl _).alloc _).trans hb)
 clear hS hb hck
 refine wp_region_held_drew (S:=(fun w0=>BX w (w.heap.size+1) [(w.heap.size,0,.bool sa),(w.heap.size,1,.slice ao (dig m).length cap1)] w0)) c_3 ?_ (fun hH=> ?_)
 ·exact hS0.drew
 try simp only[sx_]
 refine sK 0 ?_
 refine tk 1 rfl (by intro w0 hSw;have q0:=BX.get hSw 0 rfl;have q1:=BX.get hSw 1 rfl;go_simp;try with_reducible rfl) ?_
 try simp only[sx_]
 refine sK 2 ?_
 refine tk 3 rfl (by intro w0 hSw;have q0:=BX.get hSw 0 rfl;have q1:=BX.get hSw 1 rfl;go_simp;try with_reducible rfl) ?_
 try simp only[sx_]
 refine sK 4 ?_
 refine rh1 5 rfl fun K hK=> ?_
 go_simp
 (go_at_call 82;(with_reducible refine(w_left _ (dig m) d s _ (hu.ext hH.base) (by omega) hs5 hd1).mono ?_);rintro e t2 ⟨g,cc,zs,rfl,hO,lz,hval,hzl,hx2⟩;have hz2:=hO.lim lz (by omega);rw[hzl]at hz2)
 have hv2:val zs=((m*2^(32*d+s):Nat):Int):=by rw[hval,dig_val];simp
 refine hK.out _ _ ?_ fun _=> ?_
 ·exact b_5
 clear hK K hH
 rename_i hH
 try simp only[sx_]
 refine rh1 6 rfl fun K hK=> ?_
 go_simp
 (go_at_call 76;(with_reducible refine(w_madeS sa _ _ (m*2^(32*d+s)) _ hz2 hv2 hs4).mono ?_);rintro e t3 ⟨s3,bo3,rfl,hz3,hbo3,hx3⟩;obtain⟨ao3,bb3,oo3,cc3,rfl,_⟩:=hz3.view)
 refine hK.out _ _ ?_ fun _=> ?_
 ·exact b_6
 clear hK K hH
 rename_i hH
 try simp only[sx_]
 refine sK 7 ?_
 refine sK 8 ?_
 refine rh1 9 rfl fun K hK=> ?_
 obtain⟨⟨xa,h3a⟩,⟨xb,h3b⟩,h3f,hnu,hsl⟩:=hH.box
 go_simp
 refine hK.out _ _ ?_ fun _=> ?_
 ·exact b_7
 clear hK K hH
 rename_i hH
 try simp only[sx_]
 refine sK 10 ?_
 refine wpAnyH_done c_3 ?_ _
 go_wp2_with fail
 refine bodyPost_ret (v:=.tuple #[.agg #[.bool bo3,.slice ao3 (dig (m*2^(32*d+s))).length cc3],O 0]) ?_ rfl ⟨_,rfl,Wid.mk' (Lim.box (Lim.box hz3 hnu) (NoU.set hnu (fun z e=>by cases e))) hbo3, ?_⟩
 ·simp[results,Tryz.results109,go_sem, ↓IntWalk.iteOmega,h3a,h3b]<;>first|exact hbo3.symm|simp[hbo3]
 ·exact hH.base
theorem z_shiftU (va:Value) (n:Int) (k:Nat) (w:World) (ha:Wid w va n) (hs:Sz n) (hk:k≤131072) (hs3:Sz (n*2^k)):
    K_ 109 #[va,O (k:Int)] w fun e w'=>∃u,e=.returned (.tuple #[u,O 0])∧Wid w' u (n*2^k)∧Ext w w':=by
 obtain⟨u,rfl,hu⟩:=ha
 have e1:32*(k/32)+k%32=k:=Nat.div_add_mod k 32
 have e2:(n*2^k).natAbs=n.natAbs*2^k:=by rw[Int.natAbs_mul,Int.natAbs_pow];rfl
 have e3:sg (decide (n<0)) (n.natAbs*2^k)=n*2^k:=by
  have h:=sg_wid (n:=n)
  have h2:((n.natAbs*2^k:Nat):Int)=(n.natAbs:Int)*2^k:=by rw[Int.natCast_mul,Int.natCast_pow];rfl
  unfold sg at h ⊢
  rw[h2]
  split at h
  ·rename_i hh;rw[if_pos hh, ←Int.neg_mul,h]
  ·rename_i hh;rw[if_neg hh,h]
 have h:=z_shiftU0 (.agg #[.bool (decide (n<0)),u]) (decide (n<0)) n.natAbs (k/32) (k%32) w ⟨u,rfl,hu⟩ hs (wid_s _ rfl) (Nat.mod_lt _ (by decide)) (by rw[e1];exact hk) (by rw[e1, ←e2];exact hs3)
 rw[e1,e3]at h
 have e4:32*((k/32:Nat):Int)+((k%32:Nat):Int)=(k:Int):=by omega
 rw[e4]at h
 exact h
theorem val_zero {Z:List Int} (h:∀i,i<Z.length→Z.getD i 0=0):val Z=0:=by
 induction Z with
 |nil=>rfl
 |cons x r ih=>
  have h0:=h 0 (by simp)
  have h1:=ih (fun i hi=>by have:=h (i+1) (by simpa using hi);simpa using this)
  simp only[List.getD_cons_zero]at h0
  simp only[val,h0,h1];rfl
theorem val_some {Z:List Int} (hl:Lb Z) (i:Nat) (hi:i<Z.length) (h:0<Z.getD i 0):0<val Z:=by
 induction Z generalizing i with
 |nil=>simp at hi
 |cons x r ih=>
  have hx:=hl.head
  have hr:=val_nonneg hl.tail
  have hB:BB=4294967296:=rfl
  match i,hi,h with
  |0,_,h=>simp only[List.getD_cons_zero]at h;simp only[val];rw[hB];omega
  |i+1,hi,h=>
   have:=ih hl.tail i (by simpa using hi) (by simpa using h)
   simp only[val];rw[hB];omega
theorem w_right1 (x:Int) (w:World):K_ 142 #[.int .u32 x] w fun e w'=>e=.returned (.bool (decide (0<x)))∧w'=w:=by
 go_enter Tryz.func142,Tryz.ntmps142
 go_wp2
 go_ret
 exact⟨rfl,rfl⟩
theorem w_index (v:Value) (Z:List Int) (w:World) (h:Lim w v Z):K_ 167 #[v,.func (.func 142) #[] #[]] w fun e w'=>∃r:Int,e=.returned (O r)∧decide (0≤r)=decide (0<val Z)∧w'=w:=by
 have lZ:=h.lb
 obtain⟨aoA,bA,oA,cA,rfl,a1,a2,a3,a4,a5,a6⟩:=h.view
 go_enter Tryz.func167,Tryz.ntmps167
 go_wp2_with fail
 go_loopw [8] (fun i wr=>∃k:Nat,k≤Z.length∧i=O k∧wr=w∧Hid (∀i,i<k→Z.getD i 0=0)) (fun i _=>Z.length-(intOf i).toNat)
 case atStart=>exact⟨0,Nat.zero_le _,rfl,rfl,fun i hi=>absurd hi (Nat.not_lt_zero _)⟩
 case round=>
  obtain⟨k,hk,rfl,rfl,hz⟩:=hrel
  by_cases hkn:k<Z.length
  ·have e:=a1 (by omega)
   subst e
   have hl:=a5 k hkn
   have hx:0≤Z.getD k 0:=(lZ.getD k).1
   obtain⟨x,ex⟩:∃x,Z.getD k 0=x:=⟨_,rfl⟩
   rw[ex]at hl hx
   have hsm:0<x→decide ((0:Int)≤k)=decide (0<val Z):=fun h0=>by
    rw[decide_eq_true (by omega),decide_eq_true (val_some lZ k hkn (by rw[ex];exact h0))]
   have hnx:x=0→Hid (∀i,i<k+1→Z.getD i 0=0):=fun h0 i hi=>by
    rcases Nat.lt_or_ge i k with h1|h1
    ·exact hz.out i h1
    ·have:i=k:=by omega
     subst this;rw[ex];exact h0
   clear a1 a5
   by_cases h0:0<x
   ·have hd:decide (0<x)=true:=decide_eq_true h0
    go_wp2_with (go_at_call 142;(with_reducible refine(w_right1 _ _).mono ?_);rintro e w' ⟨rfl,rfl⟩)
    go_ret
    exact⟨k,rfl,hsm h0,rfl⟩
   ·have hd:decide (0<x)=false:=decide_eq_false h0
    go_wp2_with (go_at_call 142;(with_reducible refine(w_right1 _ _).mono ?_);rintro e w' ⟨rfl,rfl⟩)
    go_roundw
    case rel=>exact⟨k+1,hkn,by go_num,(by first|rfl|trivial),hnx (by omega)⟩
    case measure=>simp[intOf];omega
  ·have hkl:k=Z.length:=by omega
   subst hkl
   have hv:=val_zero hz.out
   go_wp2_with fail
   go_ret
   exact⟨-1,rfl,by rw[hv];rfl,rfl⟩
theorem w_contains (v:Value) (Z:List Int) (w:World) (h:Lim w v Z):K_ 141 #[v,.func (.func 142) #[] #[]] w fun e w'=>e=.returned (.bool (decide (0<val Z)))∧w'=w:=by
 have hI:=w_index v Z w h
 obtain⟨aoA,bA,oA,cA,rfl, -⟩:=h.view
 generalize decide (0<val Z)=bo at hI ⊢
 go_enter Tryz.func141,Tryz.ntmps141
 go_wp2_with (go_at_call 167;(with_reducible refine hI.mono ?_);rintro e w' ⟨r,rfl,hr,rfl⟩)
 rw[←hr]
 go_ret
 first|exact⟨rfl,rfl⟩|simp
end Go.Proofs.YtaoioncjmfcolaaGreat
