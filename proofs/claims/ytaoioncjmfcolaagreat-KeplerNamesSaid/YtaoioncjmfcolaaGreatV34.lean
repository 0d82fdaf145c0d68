/- The reference: signed numbers divided. -/
import Derived.Test.YtaoioncjmfcolaaGreatV33
set_option linter.unusedSimpArgs false
set_option linter.unusedVariables false
set_option maxRecDepth 100000
set_option maxHeartbeats 4000000
namespace Go.Proofs.YtaoioncjmfcolaaGreat
open Go.RowKit
theorem T_RZ5_3 {p:Prop} (h:p:=by
 have:=(NoU.new (((w.alloc (.cells #[.bool true,.slice ao (dig m).length cap1] 24)).alloc (.cells #[.bool false,.slice bo (dig k).length cap2] 24)).alloc (.cells #[.bool false,.slice none 0 0] 24)) #[.bool false,.slice none 0 0] 24 (noU2 (by simp) (by simp))).ext (by simp) hA0
 simpa using this):p:=h
theorem T_RZ5_2 {p:Prop} (h:p:=by
 have:=((NoU.new ((w.alloc (.cells #[.bool true,.slice ao (dig m).length cap1] 24)).alloc (.cells #[.bool false,.slice bo (dig k).length cap2] 24)) #[.bool false,.slice none 0 0] 24 (noU2 (by simp) (by simp))).alloc (by simp) #[.bool false,.slice none 0 0] 24).ext (by simp) hA0
 simpa using this):p:=h
theorem T_RZ5_1 {p:Prop} (h:p:=by
 clear hK K hH
 rename_i hH
 try simp only[sx_]
 refine rh1 2 rfl fun K hK=> ?_
 go_simp
 (go_at_call 163;(with_reducible refine(hs9 _ _ _ hWd9 hm1).mono ?_);rintro e x2 ⟨y21,rfl,hs21,hx⟩)
 obtain⟨s21,a21,n21,c21,rfl,hs22⟩:=hs21.open
 replace hT9:=hT9.ext hx
 replace hT11:=hT11.ext hx
 refine hK.out _ _ ?_ fun _=> ?_
 ·(try dsimp only);exact hH.trans (GB.ext hx)
 clear hK K hH
 rename_i hH
 try simp only[sx_]
 refine sK 3 ?_
 refine sK 4 ?_
 refine sK 5 ?_
 refine rh1 6 rfl fun K hK=> ?_
 obtain⟨⟨xa,h3a⟩,⟨xb,h3b⟩,h3f,hnu9,hsl⟩:=hT9.box
 have hst:=Bx2.store hT9.box hs22
 go_simp
 refine hK.out _ _ ?_ fun _=> ?_
 ·exact b_13
 clear hK K hH
 rename_i hH
 try simp only[sx_]
 refine sK 7 ?_
 refine wpAnyH_done c_3 ?_ _
 go_wp2_with fail
 go_meet
 exact⟨rfl,hst,(hT11.other (by omega) hnu9).other (by omega) (NoU.set hnu9 (fun z e=>by cases e)),hH⟩):p:=h
theorem sg_t (m:Nat):sg true m= -(m:Int):=by simp[sg]
theorem r_DivTn (va vb:Value) (m k:Nat) (w:World) (ha:Sm w va true m) (hb0:Nn w vb k) (hs:Small m) (hk0:0<k) (hs2:Small k) (hm0:0<m) (hr0:¬0<m%k) (hbq:∀w1,Ext w w1→K_ 161 #[va,vb] w1 fun e w'=>e=.returned (O 0)∧Ext w1 w'):
    K_ 128 #[va,vb] w fun e w'=>∃u v,e=.returned (.tuple #[u,v,O 0])∧Wid w' u (sg true (m/k))∧Wid w' v (sg true (m%k))∧Ext w w':=by
 obtain⟨u,rfl,hu⟩:=ha
 obtain⟨s,rfl,hv⟩:=hb0
 obtain⟨ao,b1,o1,cap1,rfl, -⟩:=hu.view
 obtain⟨bo,b2,o2,cap2,rfl, -⟩:=hv.view
 have hl1:=dig_pos.2 hk0
 have z0:(((dig k).length:Int)==0)=false:=by simp;intro e;rw[e]at hl1;simp at hl1
 have hdv:=fun w1 (k1:Ext w w1)=>r_over _ _ (dig m) (dig k) w1 (hu.ext k1) (hv.ext k1) (dig_nz m) (dig_nz k) (by unfold Small at hs;omega) hl1
 have hmk:m/k≤m:=Nat.div_le_self _ _
 have hrk:m%k<k:=Nat.mod_lt _ hk0
 have hsq:(dig (m/k)).length≤4096:=Nat.le_trans (dig_mono hmk) hs
 have hsr:(dig (m%k)).length≤4096:=Nat.le_trans (dig_mono (Nat.le_of_lt hrk)) hs2
 clear hl1
 go_enter Tryz.func128,Tryz.ntmps128
 go_upto_region 6 with(first
  | (go_at_call 161;(with_reducible refine(hbq _ ex_).mono ?_);rintro e w1 ⟨rfl,hb1⟩;obtain⟨_,_,⟨hc1,hf1⟩,hz1⟩:=hb1.c3;(try simp only[wsz]at hz1 hc1 hf1);clear hbq)
  | (go_at_call 162;(with_reducible refine(hdv _ ex_).mono ?_);rintro e w2 ⟨y14,y15,qs,rs,rfl,hq,hr,nq,nr,hval,hlt,hb2⟩;obtain⟨ao6,b6,o6,cap6,rfl, -⟩:=hr.view;obtain⟨ao5,b5,o5,cap5,rfl, -⟩:=hq.view;obtain⟨_,_,⟨hc2,hf2⟩,hz2⟩:=hb2.c3;(try simp only[wsz]at hz2 hc2 hf2);clear hdv))
 obtain⟨eq,er⟩:=div_dig hq.lb hr.lb nq nr hval hlt
 subst eq
 subst er
 clear hval hlt nq nr
 go_upto_region 8 with(first
  | (go_at_call 67;(with_reducible refine(r_madeS true _ (dig (m/k)) (m/k) _ hq (dig_val _) hsq).mono ?_);rintro e w3 ⟨y16,bq,rfl,hq3,hbq,hb3⟩;replace hbq:Hid _:=hbq;obtain⟨ao7,b7,o7,cap7,rfl, -⟩:=hq3.view;obtain⟨_,_,⟨hc3,hf3⟩,hz3⟩:=hb3.c3;(try simp only[wsz]at hz3 hc3 hf3);have hAx3:Ext ((((w.alloc (.cells #[.bool true,.slice ao (dig m).length cap1] 24)).alloc (.cells #[.bool false,.slice bo (dig k).length cap2] 24)).alloc (.cells #[.bool false,.slice none 0 0] 24)).alloc (.cells #[.bool false,.slice none 0 0] 24)) w3:=ex_;replace hr:=hr.ext hb3;clear hq)
  | (go_at_call 67;(with_reducible refine(r_madeS true _ (dig (m%k)) (m%k) _ (hr.alloc _) (dig_val _) hsr).mono ?_);rintro e w4 ⟨y17,br,rfl,hr4,hbr,hb4⟩;replace hbr:Hid _:=hbr;obtain⟨ao8,b8,o8,cap8,rfl, -⟩:=hr4.view;obtain⟨_,_,⟨hc4,hf4⟩,hz4⟩:=hb4.c3;(try simp only[wsz]at hz4 hc4 hf4);clear hr))
 have hlr0:(dig (m%k)).length=0:=by
  have:m%k=0:=by omega
  rw[this];rfl
 have hlr:decide ((0:Int)<((dig (m%k)).length:Int))=false:=decide_eq_false (by omega)
 have hlr2:decide (0<(dig (m%k)).length)=false:=decide_eq_false (by omega)
 clear hlr0
 go_upto_region 13 with fail
 refine wp_name fun W hW=> ?_
 have hWE:Ext w W:=Ext.same hW ex_
 have hA0:Ext ((((w.alloc (.cells #[.bool true,.slice ao (dig m).length cap1] 24)).alloc (.cells #[.bool false,.slice bo (dig k).length cap2] 24)).alloc (.cells #[.bool false,.slice none 0 0] 24)).alloc (.cells #[.bool false,.slice none 0 0] 24)) W:=Ext.same hW ex_
 have hE3:Ext w3 W:=Ext.same hW ex_
 have hE4:Ext w4 W:=Ext.same hW ex_
 have e9:Ext (w3.alloc (.cells #[.bool bq,.slice ao7 (dig (m/k)).length cap7] 24)) W:=Ext.same hW ex_
 have hz9:=e9.size
 simp only[World.size_alloc]at hz9
 have hzW:W.heap.size=w4.heap.size+1:=by rw[hW.cells.2.2];simp
 have hz3:w.heap.size+1+1+1<w3.heap.size:=by have:=hAx3.size;simp only[World.size_alloc]at this;omega
 have hz4:w3.heap.size<w4.heap.size:=by have:=hb4.size;simp only[World.size_alloc]at this;omega
 have hT9:WAt W w3.heap.size (sg true (m/k)):=(WAt.lit (Wid.mk' hq3 hbq.out)).ext e9
 have hT11:WAt W w4.heap.size (sg true (m%k)):=(WAt.lit (Wid.mk' hr4 hbr.out)).ext (Ext.same hW ex_)
 have bB0:W.cell? ⟨w.heap.size+1,0,none⟩=some (.bool false):=(hA0.cells.1 _ 0 c_30).trans c_12
 have bB1:W.cell? ⟨w.heap.size+1,1,none⟩=some (.slice bo (dig k).length cap2):=(hA0.cells.1 _ 1 c_30).trans c_12
 have p0:W.cell? ⟨w.heap.size+1+1,0,none⟩=some (.bool false):=(hA0.cells.1 _ 0 c_30).trans c_12
 have p1:W.cell? ⟨w.heap.size+1+1,1,none⟩=some (.slice none 0 0):=(hA0.cells.1 _ 1 c_30).trans c_12
 have p2:W.cell? ⟨w.heap.size+1+1+1,0,none⟩=some (.bool false):=(hA0.cells.1 _ 0 (by simp)).trans c_12
 have p3:W.cell? ⟨w.heap.size+1+1+1,1,none⟩=some (.slice none 0 0):=(hA0.cells.1 _ 1 (by simp)).trans c_12
 have p4:∀o,W.frozen? ⟨w.heap.size+1+1,o,none⟩=false:=fun o=>(hA0.cells.2 _ o c_30).trans c_12
 have p5:∀o,W.frozen? ⟨w.heap.size+1+1+1,o,none⟩=false:=fun o=>(hA0.cells.2 _ o (by simp)).trans c_12
 have hnu:NoU W (w.heap.size+1+1):=by
  exact T_RZ5_2
 have hnv:NoU W (w.heap.size+1+1+1):=by
  exact T_RZ5_3
 have nB:Nn W (.agg #[.bool false,.slice bo (dig k).length cap2]) k:=⟨_,rfl,hv.ext hWE⟩
 clear hW hA0 e9 hE3 hE4 hAx3 hq3 hr4 hlr hlr2
 obtain⟨aq,cq,d0,d1,hWq, -⟩:=hT9.open
 obtain⟨ar,cr,d2,d3,hWr, -⟩:=hT11.open
 have hl9:=hT9.lt
 have hl11:=hT11.lt
 have p40:=p4 0
 have p41:=p4 1
 have p50:=p5 0
 have p51:=p5 1
 go_region
 all_goals
  go_wp2_with fail
  refine bodyPost_ret (v:=.tuple #[.agg #[.bool (decide ((sg true (m/k))<0)),.slice aq (dig ((sg true (m/k))).natAbs).length cq],.agg #[.bool (decide ((sg true (m%k))<0)),.slice ar (dig ((sg true (m%k))).natAbs).length cr],O 0]) ?_ rfl ⟨_,_,rfl, ?_, ?_, ?_⟩
  ·exact b_28
  ·refine Wid.ext ?_ ((Ext.refl _).drew)
   refine Wid.box (Wid.box (Wid.box (Wid.box hWq ?_) ?_) ?_) ?_<;>(repeat(first|with_reducible exact hnu|with_reducible exact hnv|with_reducible refine NoU.set ?_ (fun z e=>by cases e)))
  ·refine Wid.ext ?_ ((Ext.refl _).drew)
   refine Wid.box (Wid.box (Wid.box (Wid.box hWr ?_) ?_) ?_) ?_<;>(repeat(first|with_reducible exact hnu|with_reducible exact hnv|with_reducible refine NoU.set ?_ (fun z e=>by cases e)))
  ·exact b_1
theorem r_DivTr (va vb:Value) (m k:Nat) (w:World) (ha:Sm w va true m) (hb0:Nn w vb k) (hs:Small m) (hk0:0<k) (hs2:Small k) (hm0:0<m) (hr0:0<m%k) (hs1:Small (m+1)) (hbq:∀w1,Ext w w1→K_ 161 #[va,vb] w1 fun e w'=>e=.returned (O 0)∧Ext w1 w'):
    K_ 128 #[va,vb] w fun e w'=>∃u v,e=.returned (.tuple #[u,v,O 0])∧Wid w' u (sg true (m/k)+ -1)∧Wid w' v (sg true (m%k)+k)∧Ext w w':=by
 obtain⟨u,rfl,hu⟩:=ha
 obtain⟨s,rfl,hv⟩:=hb0
 obtain⟨ao,b1,o1,cap1,rfl, -⟩:=hu.view
 obtain⟨bo,b2,o2,cap2,rfl, -⟩:=hv.view
 have hl1:=dig_pos.2 hk0
 have z0:(((dig k).length:Int)==0)=false:=by simp;intro e;rw[e]at hl1;simp at hl1
 have hdv:=fun w1 (k1:Ext w w1)=>r_over _ _ (dig m) (dig k) w1 (hu.ext k1) (hv.ext k1) (dig_nz m) (dig_nz k) (by unfold Small at hs;omega) hl1
 have hmk:m/k≤m:=Nat.div_le_self _ _
 have hrk:m%k<k:=Nat.mod_lt _ hk0
 have hsq:(dig (m/k)).length≤4096:=Nat.le_trans (dig_mono hmk) hs
 have hsr:(dig (m%k)).length≤4096:=Nat.le_trans (dig_mono (Nat.le_of_lt hrk)) hs2
 have hfm:∀w1,K_ 26 #[O (-1)] w1 fun e w'=>∃u,e=.returned u∧Wid w' u (-1)∧Ext w1 w':=fun w1=>r_FromZ (-1) w1 (by decide) (by decide)
 have hs9:∀va vb w1,Wid w1 va (sg true (m/k))→Wid w1 vb (-1)→K_ 163 #[va,vb] w1 fun e w'=>∃u,e=.returned (.tuple #[u,O 0])∧Wid w' u (sg true (m/k)+ -1)∧Ext w1 w':=fun va vb w1 h1 h2=>by
  have hle:m/k+1≤m+1:=Nat.succ_le_succ hmk
  have:=r_sumZ va vb _ _ _ _ w1 h1 h2 (by rw[sg_abs];exact hsq) (by unfold Small;decide) (by rw[sg_wid,sg_wid,sg_t];unfold Sz;exact Small.le (Small.le hs1 hle) ((show ∀q:Nat,(-(q:Int)+ -1).natAbs≤q+1 from fun q=>by omega) _))
  rw[sg_wid,sg_wid]at this
  exact this
 have hs10:∀va vb w1,Wid w1 va (sg true (m%k))→Nn w1 vb k→K_ 163 #[va,vb] w1 fun e w'=>∃u,e=.returned (.tuple #[u,O 0])∧Wid w' u (sg true (m%k)+k)∧Ext w1 w':=fun va vb w1 h1 h2=>by
  have:=r_sumZ va vb _ _ _ _ w1 h1 h2.wid (by rw[sg_abs];exact hsr) (by simpa using hs2) (by rw[sg_wid,sg_wid,sg_t];unfold Sz;exact Small.le hs2 ((show ∀q:Nat,q<k→(-(q:Int)+k).natAbs≤k from fun q h=>by omega) _ hrk))
  rw[sg_wid,sg_wid]at this
  exact this
 clear hl1
 go_enter Tryz.func128,Tryz.ntmps128
 go_upto_region 6 with(first
  | (go_at_call 161;(with_reducible refine(hbq _ ex_).mono ?_);rintro e w1 ⟨rfl,hb1⟩;obtain⟨_,_,⟨hc1,hf1⟩,hz1⟩:=hb1.c3;(try simp only[wsz]at hz1 hc1 hf1);clear hbq)
  | (go_at_call 162;(with_reducible refine(hdv _ ex_).mono ?_);rintro e w2 ⟨y14,y15,qs,rs,rfl,hq,hr,nq,nr,hval,hlt,hb2⟩;obtain⟨ao6,b6,o6,cap6,rfl, -⟩:=hr.view;obtain⟨ao5,b5,o5,cap5,rfl, -⟩:=hq.view;obtain⟨_,_,⟨hc2,hf2⟩,hz2⟩:=hb2.c3;(try simp only[wsz]at hz2 hc2 hf2);clear hdv))
 obtain⟨eq,er⟩:=div_dig hq.lb hr.lb nq nr hval hlt
 subst eq
 subst er
 clear hval hlt nq nr
 go_upto_region 8 with(first
  | (go_at_call 67;(with_reducible refine(r_madeS true _ (dig (m/k)) (m/k) _ hq (dig_val _) hsq).mono ?_);rintro e w3 ⟨y16,bq,rfl,hq3,hbq,hb3⟩;replace hbq:Hid _:=hbq;obtain⟨ao7,b7,o7,cap7,rfl, -⟩:=hq3.view;obtain⟨_,_,⟨hc3,hf3⟩,hz3⟩:=hb3.c3;(try simp only[wsz]at hz3 hc3 hf3);have hAx3:Ext ((((w.alloc (.cells #[.bool true,.slice ao (dig m).length cap1] 24)).alloc (.cells #[.bool false,.slice bo (dig k).length cap2] 24)).alloc (.cells #[.bool false,.slice none 0 0] 24)).alloc (.cells #[.bool false,.slice none 0 0] 24)) w3:=ex_;replace hr:=hr.ext hb3;clear hq)
  | (go_at_call 67;(with_reducible refine(r_madeS true _ (dig (m%k)) (m%k) _ (hr.alloc _) (dig_val _) hsr).mono ?_);rintro e w4 ⟨y17,br,rfl,hr4,hbr,hb4⟩;replace hbr:Hid _:=hbr;obtain⟨ao8,b8,o8,cap8,rfl, -⟩:=hr4.view;obtain⟨_,_,⟨hc4,hf4⟩,hz4⟩:=hb4.c3;(try simp only[wsz]at hz4 hc4 hf4);clear hr))
 have hlr0:0<(dig (m%k)).length:=dig_pos.2 hr0
 have hlr:decide ((0:Int)<((dig (m%k)).length:Int))=true:=decide_eq_true (by omega)
 have hlr2:decide (0<(dig (m%k)).length)=true:=decide_eq_true hlr0
 clear hlr0
 go_upto_region 9 with fail
 refine wp_name fun W hW=> ?_
 have hWE:Ext w W:=Ext.same hW ex_
 have hA0:Ext ((((w.alloc (.cells #[.bool true,.slice ao (dig m).length cap1] 24)).alloc (.cells #[.bool false,.slice bo (dig k).length cap2] 24)).alloc (.cells #[.bool false,.slice none 0 0] 24)).alloc (.cells #[.bool false,.slice none 0 0] 24)) W:=Ext.same hW ex_
 have hE3:Ext w3 W:=Ext.same hW ex_
 have hE4:Ext w4 W:=Ext.same hW ex_
 have e9:Ext (w3.alloc (.cells #[.bool bq,.slice ao7 (dig (m/k)).length cap7] 24)) W:=Ext.same hW ex_
 have hz9:=e9.size
 simp only[World.size_alloc]at hz9
 have hzW:W.heap.size=w4.heap.size+1:=by rw[hW.cells.2.2];simp
 have hz3:w.heap.size+1+1+1<w3.heap.size:=by have:=hAx3.size;simp only[World.size_alloc]at this;omega
 have hz4:w3.heap.size<w4.heap.size:=by have:=hb4.size;simp only[World.size_alloc]at this;omega
 have hT9:WAt W w3.heap.size (sg true (m/k)):=(WAt.lit (Wid.mk' hq3 hbq.out)).ext e9
 have hT11:WAt W w4.heap.size (sg true (m%k)):=(WAt.lit (Wid.mk' hr4 hbr.out)).ext (Ext.same hW ex_)
 have bB0:W.cell? ⟨w.heap.size+1,0,none⟩=some (.bool false):=(hA0.cells.1 _ 0 c_30).trans c_12
 have bB1:W.cell? ⟨w.heap.size+1,1,none⟩=some (.slice bo (dig k).length cap2):=(hA0.cells.1 _ 1 c_30).trans c_12
 have p0:W.cell? ⟨w.heap.size+1+1,0,none⟩=some (.bool false):=(hA0.cells.1 _ 0 c_30).trans c_12
 have p1:W.cell? ⟨w.heap.size+1+1,1,none⟩=some (.slice none 0 0):=(hA0.cells.1 _ 1 c_30).trans c_12
 have p2:W.cell? ⟨w.heap.size+1+1+1,0,none⟩=some (.bool false):=(hA0.cells.1 _ 0 (by simp)).trans c_12
 have p3:W.cell? ⟨w.heap.size+1+1+1,1,none⟩=some (.slice none 0 0):=(hA0.cells.1 _ 1 (by simp)).trans c_12
 have p4:∀o,W.frozen? ⟨w.heap.size+1+1,o,none⟩=false:=fun o=>(hA0.cells.2 _ o c_30).trans c_12
 have p5:∀o,W.frozen? ⟨w.heap.size+1+1+1,o,none⟩=false:=fun o=>(hA0.cells.2 _ o (by simp)).trans c_12
 have hnu:NoU W (w.heap.size+1+1):=by
  exact T_RZ5_2
 have hnv:NoU W (w.heap.size+1+1+1):=by
  exact T_RZ5_3
 have nB:Nn W (.agg #[.bool false,.slice bo (dig k).length cap2]) k:=⟨_,rfl,hv.ext hWE⟩
 clear hW hA0 e9 hE3 hE4 hAx3 hq3 hr4 hlr hlr2 hb1 hb2 hb3 hb4
 have hnW9:=hT9.noU
 go_cut [10]from 63 to 68 (fun s10 wx=>s10=O 0∧WAt wx w3.heap.size (sg true (m/k)+ -1)∧WAt wx w4.heap.size (sg true (m%k))∧GB w3.heap.size W wx)
 case first=>
  replace hT9:=hT9.ext ((Ext.refl _).drew)
  replace hT11:=hT11.ext ((Ext.refl _).drew)
  refine wp_region_held_drew (S:=(fun w0=>GB w3.heap.size W w0)) c_3 ?_ (fun hH=> ?_)
  ·exact(GB.refl _ _).drew
  try simp only[sx_]
  refine rh2 0 1 rfl rfl (fun K hK=> ?_) fun K hK=> ?_
  ·obtain⟨ao9,cap9,t90,t91,hWd9,f9⟩:=hT9.open
   go_simp
   refine hK.out _ _ ?_ fun _=> ?_
   ·(try dsimp only);exact hH
   clear hK K hH
   rename_i hH
   try simp only[sx_]
   refine rh1 1 rfl fun K hK=> ?_
   go_simp
   (go_at_call 26;(with_reducible refine(hfm _).mono ?_);rintro e x1 ⟨y20,rfl,hm1,hx⟩)
   replace hT9:=hT9.ext hx
   replace hT11:=hT11.ext hx
   replace hWd9:=hWd9.ext hx
   refine hK.out _ _ ?_ fun _=> ?_
   ·(try dsimp only);exact hH.trans (GB.ext hx)
   exact T_RZ5_1
  ·go_simp
   (go_at_call 26;(with_reducible refine(hfm _).mono ?_);rintro e x1 ⟨y20,rfl,hm1,hx⟩)
   replace hT9:=hT9.ext hx
   replace hT11:=hT11.ext hx
   refine hK.out _ _ ?_ fun _=> ?_
   ·(try dsimp only);exact hH.trans (GB.ext hx)
   clear hK K hH
   rename_i hH
   try simp only[sx_]
   refine rh1 0 rfl fun K hK=> ?_
   obtain⟨ao9,cap9,t90,t91,hWd9,f9⟩:=hT9.open
   go_simp
   refine hK.out _ _ ?_ fun _=> ?_
   ·(try dsimp only);exact hH
   exact T_RZ5_1
 case rest=>
  obtain⟨rfl,hT9,hT11,hG⟩:=hcut
  obtain⟨ar,cr,d2,d3,hWr,f11⟩:=hT11.open
  have hl11:=hT11.lt
  have hn9:=hT9.noU
  have bB0:=(hG.cell (o:=0) (by omega) (by omega)).trans bB0
  have bB1:=(hG.cell (o:=1) (by omega) (by omega)).trans bB1
  have q0:=(hG.cell (B:=w.heap.size+1+1) (o:=0) (by omega) (by omega)).trans p0
  have q1:=(hG.cell (B:=w.heap.size+1+1) (o:=1) (by omega) (by omega)).trans p1
  have q2:=(hG.cell (B:=w.heap.size+1+1+1) (o:=0) (by omega) (by omega)).trans p2
  have q3:=(hG.cell (B:=w.heap.size+1+1+1) (o:=1) (by omega) (by omega)).trans p3
  have q4:∀o,wc.frozen? ⟨w.heap.size+1+1,o,none⟩=false:=fun o=>(hG.frozen (by omega) (by omega)).trans (p4 o)
  have q5:∀o,wc.frozen? ⟨w.heap.size+1+1+1,o,none⟩=false:=fun o=>(hG.frozen (by omega) (by omega)).trans (p5 o)
  replace hnu:=hnu.grown hG (by omega) (by omega)
  replace hnv:=hnv.grown hG (by omega) (by omega)
  have nB2:Nn wc (.agg #[.bool false,.slice bo (dig k).length cap2]) k:=by
   obtain⟨u,e,hu⟩:=nB
   exact⟨u,e,hu.grown hnW9 hG⟩
  have hEx:Ext w wc:=GB.pre hWE hG (by omega)
  have hsz:=hG.size
  clear p0 p1 p2 p3 p4 p5 hG hnW9 nB hWE
  go_upto_region 11 with(go_at_call 163;(with_reducible refine(hs10 _ _ _ hWr nB2).mono ?_);rintro e w7 ⟨y22,rfl,hs11,hb7⟩;obtain⟨s22,a22,n22,c22,rfl,hs12⟩:=hs11.open;have hT11':=hT11.ext hb7;have hst11:=Bx2.store hT11'.box hs12;obtain⟨⟨xa,h3a⟩,⟨xb,h3b⟩,h3f,hnu11,hsl⟩:=hT11'.box)
  have hGX:GB w4.heap.size w7 ((w7.setCell ⟨w4.heap.size,0,none⟩ (.bool s22)).setCell ⟨w4.heap.size,1,none⟩ (.slice a22 n22 c22)):=((GB.refl _ _).set _).set _
  obtain⟨X,hX⟩:∃X,(w7.setCell ⟨w4.heap.size,0,none⟩ (.bool s22)).setCell ⟨w4.heap.size,1,none⟩ (.slice a22 n22 c22)=X:=⟨_,rfl⟩
  rw[hX]at hst11 hGX ⊢
  clear hX h3a h3b h3f
  replace hT9:=(hT9.ext hb7).grown hnu11 hGX (by omega)
  have hz7:=hb7.size
  have hl9:=hn9
  have p0:=(hGX.cell (B:=w.heap.size+1+1) (o:=0) (by omega) (by omega)).trans ((hb7.cells.1 _ 0 (by omega)).trans q0)
  have p1:=(hGX.cell (B:=w.heap.size+1+1) (o:=1) (by omega) (by omega)).trans ((hb7.cells.1 _ 1 (by omega)).trans q1)
  have p2:=(hGX.cell (B:=w.heap.size+1+1+1) (o:=0) (by omega) (by omega)).trans ((hb7.cells.1 _ 0 (by omega)).trans q2)
  have p3:=(hGX.cell (B:=w.heap.size+1+1+1) (o:=1) (by omega) (by omega)).trans ((hb7.cells.1 _ 1 (by omega)).trans q3)
  have p40:=(hGX.frozen (B:=w.heap.size+1+1) (o:=0) (by omega) (by omega)).trans ((hb7.cells.2 _ 0 (by omega)).trans (q4 0))
  have p41:=(hGX.frozen (B:=w.heap.size+1+1) (o:=1) (by omega) (by omega)).trans ((hb7.cells.2 _ 1 (by omega)).trans (q4 1))
  have p50:=(hGX.frozen (B:=w.heap.size+1+1+1) (o:=0) (by omega) (by omega)).trans ((hb7.cells.2 _ 0 (by omega)).trans (q5 0))
  have p51:=(hGX.frozen (B:=w.heap.size+1+1+1) (o:=1) (by omega) (by omega)).trans ((hb7.cells.2 _ 1 (by omega)).trans (q5 1))
  replace hnu:=(hnu.ext (by omega) hb7).grown hGX (by omega) (by omega)
  replace hnv:=(hnv.ext (by omega) hb7).grown hGX (by omega) (by omega)
  have hEX:Ext w X:=GB.pre (hEx.trans hb7) hGX (by omega)
  clear q0 q1 q2 q3 q4 q5 hGX hb7 hEx bB0 bB1 d2 d3 hWr f11 hT11' nB2 hs11 hs12
  go_upto_region 13 with fail
  obtain⟨aq,cq,d0,d1,hWq, -⟩:=hT9.open
  obtain⟨ar2,cr2,d2,d3,hWr, -⟩:=hst11.open
  have hlX:=hst11.lt
  go_region
  all_goals
   go_wp2_with fail
   refine bodyPost_ret (v:=.tuple #[.agg #[.bool (decide ((sg true (m/k)+ -1)<0)),.slice aq (dig ((sg true (m/k)+ -1)).natAbs).length cq],.agg #[.bool (decide ((sg true (m%k)+k)<0)),.slice ar2 (dig ((sg true (m%k)+k)).natAbs).length cr2],O 0]) ?_ rfl ⟨_,_,rfl, ?_, ?_, ?_⟩
   ·exact b_28
   ·refine Wid.ext ?_ ((Ext.refl _).drew)
    refine Wid.box (Wid.box (Wid.box (Wid.box hWq ?_) ?_) ?_) ?_<;>(repeat(first|with_reducible exact hnu|with_reducible exact hnv|with_reducible refine NoU.set ?_ (fun z e=>by cases e)))
   ·refine Wid.ext ?_ ((Ext.refl _).drew)
    refine Wid.box (Wid.box (Wid.box (Wid.box hWr ?_) ?_) ?_) ?_<;>(repeat(first|with_reducible exact hnu|with_reducible exact hnv|with_reducible refine NoU.set ?_ (fun z e=>by cases e)))
   ·exact b_1
theorem r_DivModZ (va vb:Value) (n:Int) (k:Nat) (w:World) (ha:Wid w va n) (hb0:Nn w vb k) (hs:Sz n) (hk0:0<k) (hs2:Small k) (hs1:Small (n.natAbs+1)):
    K_ 128 #[va,vb] w fun e w'=>∃u v,e=.returned (.tuple #[u,v,O 0])∧Wid w' u (n/k)∧Nn w' v (n%k).toNat∧Ext w w':=by
 by_cases h:n<0
 ·have hbq:=fun w1 (k1:Ext w w1)=>r_bothZ va vb n k w1 (ha.ext k1) (hb0.ext k1).wid hs hs2
  obtain⟨u,rfl,hu⟩:=ha
  have hd:decide (n<0)=true:=decide_eq_true h
  rw[hd]at hbq ⊢
  obtain⟨e1,e2⟩:=neg_divN n.natAbs k hk0
  have e: -(n.natAbs:Int)=n:=by omega
  rw[e]at e1 e2
  rw[e1,e2]
  have hrk:=Nat.mod_lt n.natAbs hk0
  by_cases hr:0<n.natAbs%k
  ·rw[if_pos hr,if_pos hr,Int.toNat_natCast]
   refine(r_DivTr _ _ n.natAbs k w ⟨u,rfl,hu⟩ hb0 hs hk0 hs2 (by omega) hr hs1 hbq).mono ?_
   rintro e w' ⟨u,v,rfl,hu,hv,hb⟩
   rw[sg_t]at hu hv
   refine⟨u,v,rfl, ?_,hv.natE (by omega),hb⟩
   rw[show -((n.natAbs/k+1:Nat):Int)= -((n.natAbs/k:Nat):Int)+ -1 by rw[Int.natCast_add];omega]
   exact hu
  ·rw[if_neg hr,if_neg hr]
   refine(r_DivTn _ _ n.natAbs k w ⟨u,rfl,hu⟩ hb0 hs hk0 hs2 (by omega) hr hbq).mono ?_
   rintro e w' ⟨u,v,rfl,hu,hv,hb⟩
   rw[sg_t]at hu hv
   exact⟨u,v,rfl,hu,hv.natE (by omega),hb⟩
 ·have h1:((n.natAbs:Nat):Int)=n:=by omega
  have e1:n/k=((n.natAbs/k:Nat):Int):=by rw[←h1];simp
  have e2:(n%k).toNat=n.natAbs%k:=by rw[←h1];simp;omega
  rw[e1,e2]
  refine(r_DivMod va vb n.natAbs k w (ha.nn (by omega)) hb0 hs hk0 hs2).mono ?_
  rintro e w' ⟨u,v,rfl,hu,hv,hb⟩
  exact⟨u,v,rfl,hu.wid,hv,hb⟩
theorem T_RZ6_2 {p:Prop} (h:p:=by
 refine Lim.box (Lim.box (Lim.box (Lim.box hy ?_) ?_) ?_) ?_<;>(repeat(first|with_reducible exact hnu|with_reducible refine NoU.set ?_ (fun z e=>by cases e)))):p:=h
theorem T_RZ6_1 {p:Prop} (h:p:=by
 refine Lim.box (Lim.box (Lim.box (Lim.box hx ?_) ?_) ?_) ?_<;>(repeat(first|with_reducible exact hnu|with_reducible refine NoU.set ?_ (fun z e=>by cases e)))):p:=h
theorem r_ReducedZ (va vb:Value) (n:Int) (k:Nat) (w:World) (ha:Wid w va n) (hb0:Nn w vb k) (hs:Sz n) (hs2:Small k) (hk0:0<k) (hs1:Small (n.natAbs+1)):
    K_ 66 #[va,vb] w fun e w'=>∃u,e=.returned u∧Fr w' u (mkRat n k)∧Ext w w':=by
 have ha0:=ha
 have hb00:=hb0
 obtain⟨u,rfl,hu⟩:=ha
 obtain⟨s,rfl,hv⟩:=hb0
 obtain⟨sa,hsa⟩:∃sa,decide (n<0)=sa:=⟨_,rfl⟩
 obtain⟨m,hm⟩:∃m,n.natAbs=m:=⟨_,rfl⟩
 rw[hsa]at ha0
 rw[hm]at hu
 rw[hsa]
 obtain⟨ao,b1,o1,cap1,rfl, -⟩:=hu.view
 obtain⟨bo,b2,o2,cap2,rfl, -⟩:=hv.view
 obtain⟨g,hg⟩:∃g,Nat.gcd n.natAbs k=g:=⟨_,rfl⟩
 have hg0:0<g:=hg▸Nat.gcd_pos_of_pos_right _ hk0
 have hsg:Small g:=Nat.le_trans (dig_mono (hg▸Nat.gcd_le_right _ hk0)) hs2
 have h1:=fun w1 (k1:Ext w w1)=>r_GcdZ (.agg #[.bool sa,.slice ao (dig m).length cap1]) (.agg #[.bool false,.slice bo (dig k).length cap2]) n k w1 (ha0.ext k1) (hb00.ext k1) hs hs2
 obtain⟨e1,e2⟩:=mk_parts n hk0
 rw[hg]at h1 e1 e2
 have h2:=fun w1 (k1:Ext w w1) vg (hn:Nn w1 vg g)=>r_DivModZ (.agg #[.bool sa,.slice ao (dig m).length cap1]) vg n g w1 (ha0.ext k1) hn hs hg0 hsg hs1
 have h3:=fun w1 (k1:Ext w w1) vg (hn:Nn w1 vg g)=>r_DivMod (.agg #[.bool false,.slice bo (dig k).length cap2]) vg k g w1 (hb00.ext k1) hn hs2 hg0 hsg
 rw[show n/(g:Int)=(mkRat n k).num from e1.symm]at h2
 rw[show k/g=(mkRat n k).den from e2.symm]at h3
 obtain⟨X,hX⟩:∃X,mkRat n k=X:=⟨_,rfl⟩
 rw[hX]at h2 h3 ⊢
 have hX0:X.num.natAbs=0→decide (X.num<0)=false:=num_zero_neg
 obtain⟨sx,hsx⟩:∃sx,decide (X.num<0)=sx:=⟨_,rfl⟩
 obtain⟨P,hP⟩:∃P,X.num.natAbs=P:=⟨_,rfl⟩
 obtain⟨Q,hQ⟩:∃Q,X.den=Q:=⟨_,rfl⟩
 unfold Wid Fr at*
 rw[hsx,hP]at h2
 rw[hsx,hP,hQ]
 rw[hQ]at h3
 clear hX hg e1 e2 hX0 hsx hP hQ hsa hm ha0 hb00
 go_enter Tryz.func66,Tryz.ntmps66
 go_upto_region 6 with(first
  | (go_at_call 126;(with_reducible refine(h1 _ ex_).mono ?_);rintro e w1 ⟨y1,rfl,hng,hb1⟩;have hngb:=hng;obtain⟨y2,rfl,hgu⟩:=hngb;obtain⟨ao3,b3,o3,cap3,rfl, -⟩:=hgu.view;obtain⟨_,_,⟨hc1,hf1⟩,hz1⟩:=hb1.c3;(try simp only[wsz]at hz1 hc1 hf1))
  | (go_at_call 128;(with_reducible refine(h2 _ ex_ _ (hng.ext ex_)).mono ?_);rintro e w3 ⟨y3,y4,rfl,⟨y5,rfl,hx⟩,⟨y6,rfl,hxr⟩,hb3⟩;obtain⟨ao5,b5,o5,cap5,rfl, -⟩:=hx.view;obtain⟨ao6,b6,o6,cap6,rfl, -⟩:=hxr.view;obtain⟨_,_,⟨hc3,hf3⟩,hz3⟩:=hb3.c3;(try simp only[wsz]at hz3 hc3 hf3);clear h2)
  | (go_at_call 128;(with_reducible refine(h3 _ ex_ _ (hng.ext ex_)).mono ?_);rintro e w4 ⟨y7,y8,rfl,⟨y9,rfl,hy⟩,⟨y10,rfl,hyr⟩,hb4⟩;obtain⟨ao7,b7,o7,cap7,rfl, -⟩:=hy.view;obtain⟨ao8,b8,o8,cap8,rfl, -⟩:=hyr.view;obtain⟨_,_,⟨hc4,hf4⟩,hz4⟩:=hb4.c3;(try simp only[wsz]at hz4 hc4 hf4)))
 refine wp_name fun W hW=> ?_
 obtain⟨hWc,hWf,hWz⟩:=hW.cells
 have hWE:Ext w W:=Ext.same hW ex_
 have hA0:Ext (((w.alloc (.cells #[.bool sa,.slice ao (dig m).length cap1] 24)).alloc (.cells #[.bool false,.slice bo (dig k).length cap2] 24)).alloc (.cells #[.bool false,.slice none 0 0,.bool false,.slice none 0 0] 26)) W:=Ext.same hW ex_
 have hnu:NoU W (w.heap.size+1+1):=by
  have:=(NoU.new ((w.alloc (.cells #[.bool sa,.slice ao (dig m).length cap1] 24)).alloc (.cells #[.bool false,.slice bo (dig k).length cap2] 24)) #[.bool false,.slice none 0 0,.bool false,.slice none 0 0] 26 (noU4 (by simp) (by simp) (by simp) (by simp))).ext (by simp) hA0
  simpa using this
 have hxW:=hx.ext (Ext.same hW ex_:Ext w3 W)
 have hyW:=hy.ext (Ext.same hW ex_:Ext w4 W)
 clear hW
 go_wp2_with fail
 refine bodyPost_ret (v:=.agg #[.bool sx,.slice ao5 (dig P).length cap5,.bool false,.slice ao7 (dig Q).length cap7]) ?_ rfl ⟨_,rfl,⟨_,_,rfl, ?_, ?_⟩, ?_⟩
 ·simp[results,Tryz.results66,go_sem, ↓IntWalk.iteOmega, *]
 ·exact b_21
 ·exact b_22
 ·exact b_1
theorem r_MakeZ (va vb:Value) (n:Int) (k:Nat) (w:World) (ha:Wid w va n) (hb0:Nn w vb k) (hs:Sz n) (hs2:Small k) (hk0:0<k) (hs1:Small (n.natAbs+1)):
    K_ 25 #[va,vb] w fun e w'=>∃u,e=.returned (.tuple #[u,O 0])∧Fr w' u (mkRat n k)∧Ext w w':=by
 have hl1:=dig_pos.2 hk0
 have z0:(((dig k).length:Int)==0)=false:=by simp;intro e;rw[e]at hl1;simp at hl1
 clear hl1
 have h1:=fun w1 (k1:Ext w w1)=>r_CheckZ va n w1 (ha.ext k1) hs
 have h2:=fun w1 (k1:Ext w w1)=>r_Check vb k w1 (hb0.ext k1) hs2
 have h4:=fun w1 (k1:Ext w w1)=>r_ReducedZ va vb n k w1 (ha.ext k1) (hb0.ext k1) hs hs2 hk0 hs1
 obtain⟨sa,ao,na,cap1,rfl, -⟩:=ha.open
 obtain⟨bo,cap2,rfl, -⟩:=hb0.open
 clear ha hb0
 obtain⟨X,hX⟩:∃X,mkRat n k=X:=⟨_,rfl⟩
 rw[hX]at h4 ⊢
 obtain⟨sx,hsx⟩:∃sx,decide (X.num<0)=sx:=⟨_,rfl⟩
 obtain⟨P,hP⟩:∃P,X.num.natAbs=P:=⟨_,rfl⟩
 obtain⟨Q,hQ⟩:∃Q,X.den=Q:=⟨_,rfl⟩
 unfold Fr at*
 rw[hsx,hP,hQ]at h4 ⊢
 clear hX hsx hP hQ
 go_enter Tryz.func25,Tryz.ntmps25
 go_wp2_with (first
  | (go_at_call 65;(with_reducible refine(h1 _ ex_).mono ?_);rintro e w1 ⟨rfl,hb1⟩;obtain⟨_,_,⟨hc1,hf1⟩,hz1⟩:=hb1.c3;(try simp only[wsz]at hz1 hc1 hf1);clear h1)
  | (go_at_call 65;(with_reducible refine(h2 _ ex_).mono ?_);rintro e w2 ⟨rfl,hb2⟩;obtain⟨_,_,⟨hc2,hf2⟩,hz2⟩:=hb2.c3;(try simp only[wsz]at hz2 hc2 hf2);clear h2)
  | (go_at_call 66;(with_reducible refine(h4 _ ex_).mono ?_);rintro e w4 ⟨y4,rfl,⟨y5,y6,rfl,hx,hy⟩,hb4⟩;obtain⟨ao5,b5,o5,cap5,rfl, -⟩:=hx.view;obtain⟨ao7,b7,o7,cap7,rfl, -⟩:=hy.view;obtain⟨_,_,⟨hc4,hf4⟩,hz4⟩:=hb4.c3;(try simp only[wsz]at hz4 hc4 hf4)))
 have hA0:Ext (((w.alloc (.cells #[.bool sa,.slice ao na cap1] 24)).alloc (.cells #[.bool false,.slice bo (dig k).length cap2] 24)).alloc (.cells #[.bool false,.slice none 0 0,.bool false,.slice none 0 0] 26)) w4:=ex_
 have hnu:NoU w4 (w.heap.size+1+1):=by
  have:=(NoU.new ((w.alloc (.cells #[.bool sa,.slice ao na cap1] 24)).alloc (.cells #[.bool false,.slice bo (dig k).length cap2] 24)) #[.bool false,.slice none 0 0,.bool false,.slice none 0 0] 26 (noU4 (by simp) (by simp) (by simp) (by simp))).ext (by simp) hA0
  simpa using this
 refine bodyPost_ret (v:=.tuple #[.agg #[.bool sx,.slice ao5 (dig P).length cap5,.bool false,.slice ao7 (dig Q).length cap7],O 0]) ?_ rfl ⟨_,rfl,⟨_,_,rfl, ?_, ?_⟩, ?_⟩
 ·simp[results,Tryz.results25,go_sem, ↓IntWalk.iteOmega, *]
 ·exact T_RZ6_1
 ·exact T_RZ6_2
 ·exact b_1
theorem r_OfZ (n:Int) (d:Nat) (w:World) (hn: -9223372036854775808≤n) (hn2:n≤9223372036854775807) (hd:d<9223372036854775808) (h0:0<d):
    K_ 5 #[O n,O d] w fun e w'=>∃u,e=.returned (.tuple #[u,O 0])∧Fr w' u (mkRat n d)∧Ext w w':=by
 have hsn:Sz n:=dig_bits (k:=64) (L:=4096) (by omega) (by decide)
 have hsn1:Small (n.natAbs+1):=dig_bits (k:=64) (L:=4096) (by omega) (by decide)
 have h1:=fun w1 va vb (ha:Wid w1 va n) (hb:Nn w1 vb d)=>r_MakeZ va vb n d w1 ha hb hsn (dig_len2 hd) h0 hsn1
 have hf:=fun w1=>r_FromZ n w1 hn hn2
 obtain⟨X,hX⟩:∃X,mkRat n d=X:=⟨_,rfl⟩
 rw[hX]at h1 ⊢
 obtain⟨sx,hsx⟩:∃sx,decide (X.num<0)=sx:=⟨_,rfl⟩
 obtain⟨P,hP⟩:∃P,X.num.natAbs=P:=⟨_,rfl⟩
 obtain⟨Q,hQ⟩:∃Q,X.den=Q:=⟨_,rfl⟩
 unfold Fr at*
 rw[hsx,hP,hQ]at h1 ⊢
 clear hX hsx hP hQ hsn
 go_enter Tryz.func5,Tryz.ntmps5
 go_wp2_with (first
  | (go_at_call 26;(with_reducible refine(hf _).mono ?_);rintro e w1 ⟨y1,rfl,hn1,hb1⟩;obtain⟨_,_,⟨hc1,hf1⟩,hz1⟩:=hb1.c3;(try simp only[wsz]at hz1 hc1 hf1))
  | (go_at_call 26;(with_reducible refine(r_From d _ hd).mono ?_);rintro e w2 ⟨y2,rfl,hn2,hb2⟩;obtain⟨_,_,⟨hc2,hf2⟩,hz2⟩:=hb2.c3;(try simp only[wsz]at hz2 hc2 hf2);replace hn1:=hn1.ext hb2)
  | (go_at_call 25;(with_reducible refine(h1 _ _ _ hn1 hn2).mono ?_);rintro e w3 ⟨y3,rfl,⟨y4,y5,rfl,hx,hy⟩,hb3⟩;obtain⟨ao5,b5,o5,cap5,rfl, -⟩:=hx.view;obtain⟨ao7,b7,o7,cap7,rfl, -⟩:=hy.view;obtain⟨_,_,⟨hc3,hf3⟩,hz3⟩:=hb3.c3;(try simp only[wsz]at hz3 hc3 hf3)))
 have hnu:NoU w3 w.heap.size:=(NoU.new w _ _ (noU4 (by simp) (by simp) (by simp) (by simp))).ext (by simp) (ex_:Ext (w.alloc (.cells #[.bool false,.slice none 0 0,.bool false,.slice none 0 0] 26)) w3)
 refine bodyPost_ret (v:=.tuple #[.agg #[.bool sx,.slice ao5 (dig P).length cap5,.bool false,.slice ao7 (dig Q).length cap7],O 0]) ?_ rfl ⟨_,rfl,⟨_,_,rfl, ?_, ?_⟩, ?_⟩
 ·simp[results,Tryz.results5,go_sem, ↓IntWalk.iteOmega, *]
 ·exact T_RZ6_1
 ·exact T_RZ6_2
 ·exact b_1
theorem eq_iv (a b:Int) (d:Nat) (w:World):(Op.equalIn (d+1+1) 30 (.agg #[O a,O b]) (.agg #[O a,O b])).run Tryz.prog w=.ok true w:=by
 rw[run_equalIn_agg w (d+1) 30 _ _ (by simp[Program.fieldsOf,Tryz.underlying30]) c_3]
 simp[Op.eqFields,Program.fieldsOf,Tryz.underlying30,go_sem,Tryz.underlying2]
def sinF2 (a:Int):Option (Int×Int):=
 match plainF a with
 | (_,true)=>none
 | (_,false)=>(sineF a 90).bind fun b=>if 0≤b.r∧b.r≤9000000000000000000∧floorN b.v b.r 90=true then(sineF a 180).bind fun c=>if 0≤c.r∧c.r≤9000000000000000000 then(floorF c.v c.r 180).bind fun q=>some (q,q+1)else none else none
theorem iv_ {a b:Int} (h:(decide (-9223372036854775808≤a)&&(decide (a<9223372036854775808)&&(decide (-9223372036854775808≤b)&&decide (b<9223372036854775808))))=true:=by rfl):I64 a∧I64 b:=by
 simp only[Bool.and_eq_true,decide_eq_true_eq]at h
 exact⟨⟨h.1,h.2.1⟩,⟨h.2.2.1,h.2.2.2⟩⟩
def pj8D:R3:=dotS 0 ⟨777472127993,777472127994,777472127993,777472127994,0,0⟩ ⟨1099511627776,1099511627776,0,0,0,0⟩
def pj8X:R3:=dotS pj8D.e ⟨777472127993,777472127994,777472127993,777472127994,0,0⟩ ⟨0,0,1099511627776,1099511627776,0,0⟩
def pj8Q:R3:=doI pj8X.e (divI pj8X.lo pj8X.hi pj8D.lo pj8D.hi)
def pj8Y:R3:=dotS pj8Q.e ⟨777472127993,777472127994,777472127993,777472127994,0,0⟩ ⟨0,0,0,0,1099511627776,1099511627776⟩
def pj8R:R3:=doI pj8Y.e (divI pj8Y.lo pj8Y.hi pj8D.lo pj8D.hi)
theorem fr_pair {w:World} {v:Value} {n d:Int} {x:Rat} (h:PairV w v n d) (hn:x.num=n) (hd:(x.den:Int)=d):Fr w v x:=by
 obtain⟨s,u,t,z,rfl,h1,h2⟩:=h
 subst hn hd
 obtain⟨u',e1,l1⟩:=h1
 obtain⟨z',e2,l2⟩:=h2
 cases e1
 cases e2
 rw[decide_eq_false (show ¬(x.den:Int)<0 by omega)]
 rw[Int.natAbs_natCast]at l2
 exact⟨_,_,rfl,l1,l2⟩
theorem pair_fr {w:World} {v:Value} {x:Rat} (h:Fr w v x):PairV w v x.num (x.den:Int):=by
 obtain⟨u,s,rfl,h1,h2⟩:=h.num
 exact⟨_,_,_,_,rfl,h1,h2.wid⟩
theorem k_of (n:Int) (d:Nat) (N D:Int) (w:World) (hn: -9223372036854775808≤n) (hn2:n≤9223372036854775807) (hd:d<9223372036854775808) (h0:0<d) (hN:(mkRat n d).num=N) (hD:((mkRat n d).den:Int)=D):
    K_ 5 #[O n,O d] w fun e w'=>∃u,e=.returned u∧((VF.pair N D).err 0).p u w'∧Ext w w':=by
 subst hN hD
 exact calls_err ((r_OfZ n d w hn hn2 hd h0).mono fun e w' ⟨u,h1,h2,h3⟩=>⟨u,h1,(show(VF.pair _ _).p u w' from pair_fr h2),h3⟩)
end Go.Proofs.YtaoioncjmfcolaaGreat
