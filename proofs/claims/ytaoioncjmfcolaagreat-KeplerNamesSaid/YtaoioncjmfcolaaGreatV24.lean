/- trig: floor that is not told. -/
import Derived.Test.YtaoioncjmfcolaaGreatV23
set_option linter.unusedSimpArgs false
set_option linter.unusedVariables false
set_option maxRecDepth 100000
set_option maxHeartbeats 4000000
namespace Go.Proofs.YtaoioncjmfcolaaGreat
open Go.RowKit
def floorN (x r:Int) (p:Nat):Bool:=okN x&&(okN (x+ -r)&&(okN (x+r)&&(okN ((x+ -r)/2^(p-40))&&(okN ((x+r)/2^(p-40))&&decide ((x+ -r)/2^(p-40)<(x+r)/2^(p-40))))))
theorem t_floorNo (vb:Value) (x r:Int) (p:Nat) (w:World) (hb0:Ball w vb x r) (hr0:0≤r) (hr1:r≤9000000000000000000) (hp0:41≤p) (hp:p≤1000) (hF:floorN x r p=true):
    K_ 147 #[vb,O p] w fun e w'=>e=.returned (.tuple #[O 0,.bool false])∧Ext w w':=by
 unfold floorN at hF
 rw[Bool.and_eq_true,Bool.and_eq_true,Bool.and_eq_true,Bool.and_eq_true,Bool.and_eq_true,decide_eq_true_eq]at hF
 obtain⟨hk0,hk1,hk2,hka,hkb,hqq⟩:=hF
 obtain⟨qa,hq1⟩:∃q,(x+ -r)/2^(p-40)=q:=⟨_,rfl⟩
 obtain⟨qb,hq2⟩:∃q,(x+r)/2^(p-40)=q:=⟨_,rfl⟩
 rw[hq1]at hka hqq
 rw[hq2]at hkb hqq
 have hszqa:Sz qa:=okN.sz hka
 have hszqb:Sz qb:=okN.sz hkb
 clear hka hkb
 obtain⟨sb,aob,nb,capb,rfl,hWx⟩:=hb0.open
 have hsz0:Sz (-r):=dig_bits (k:=64) (L:=4096) (by omega) (by decide)
 have hsz1:Sz r:=dig_bits (k:=64) (L:=4096) (by omega) (by decide)
 have hpk:40-(p:Int)= -((p-40:Nat):Int):=by omega
 have hsh0:∀v w2,Wid w2 v (x+ -r)→K_ 169 #[v,O (40-(p:Int))] w2 fun e w'=>∃u,e=.returned u∧Wid w' u qa∧Ext w2 w':=fun v w2 hv=>by
  have:=t_shiftD v (x+ -r) (p-40) w2 hv (okN.sz hk1) (by omega) (by omega)
  rw[hq1]at this;rw[hpk];exact this
 have hsh1:∀v w2,Wid w2 v (x+r)→K_ 169 #[v,O (40-(p:Int))] w2 fun e w'=>∃u,e=.returned u∧Wid w' u qb∧Ext w2 w':=fun v w2 hv=>by
  have:=t_shiftD v (x+r) (p-40) w2 hv (okN.sz hk2) (by omega) (by omega)
  rw[hq2]at this;rw[hpk];exact this
 clear hq1 hq2 hpk
 have hwk:Hid (IntKind.i64.wrap (40-(p:Int))=40-(p:Int)):=by show _=_;rw[IntKind.wrap_i64];omega
 have i0:∀w,(Instr.index 152 (.agg #[O (-r),O r]) (O 0)).run Tryz.prog w=.ok (O (-r)) w:=fun _=>by kernel_rfl
 have i1:∀w,(Instr.index 152 (.agg #[O (-r),O r]) (O 1)).run Tryz.prog w=.ok (O r) w:=fun _=>by kernel_rfl
 go_enter Tryz.func147,Tryz.ntmps147
 go_wp2_with fail
 refine wp_loop_rounds 3 ?_
 rw[rounds_succ]
 go_upto_region 5 with fail
 obtain⟨U,hU⟩:∃U,(w.alloc (.cells #[.bool sb,.slice aob nb capb,O r] 137)).alloc (.cells #[.bool false,.slice none 0 0,.bool false,.slice none 0 0] 119)=U:=⟨_,rfl⟩
 rw[hU]
 have hGU:GB (w.heap.size+1) w U:=GB.ext (by rw[←hU];exact((Ext.refl w).alloc _).alloc _)
 have b0:U.cell? ⟨w.heap.size,0,none⟩=some (.bool sb):=by rw[←hU];simp[go_sem, ↓IntWalk.iteOmega]
 have b1:U.cell? ⟨w.heap.size,1,none⟩=some (.slice aob nb capb):=by rw[←hU];simp[go_sem, ↓IntWalk.iteOmega]
 have hl0:U.cell? ⟨w.heap.size+1,0,none⟩=some (.bool false):=by rw[←hU];simp[go_sem, ↓IntWalk.iteOmega]
 have hl1:U.cell? ⟨w.heap.size+1,1,none⟩=some (.slice none 0 0):=by rw[←hU];simp[go_sem, ↓IntWalk.iteOmega]
 have hl2:U.cell? ⟨w.heap.size+1,2,none⟩=some (.bool false):=by rw[←hU];simp[go_sem, ↓IntWalk.iteOmega]
 have hl3:U.cell? ⟨w.heap.size+1,3,none⟩=some (.slice none 0 0):=by rw[←hU];simp[go_sem, ↓IntWalk.iteOmega]
 have hUs:U.heap.size=w.heap.size+1+1:=by rw[←hU];simp
 have hbl:w.heap.size<U.heap.size:=by omega
 have hUn:NoU U (w.heap.size+1):=by
  have:=NoU.new (w.alloc (.cells #[.bool sb,.slice aob nb capb,O r] 137)) #[.bool false,.slice none 0 0,.bool false,.slice none 0 0] 119 (noU4 (by simp) (by simp) (by simp) (by simp))
  rw[←hU];simpa using this
 have hUf:∀o,U.frozen? ⟨w.heap.size+1,o,none⟩=false:=fun o=>by rw[←hU];simp[go_sem, ↓IntWalk.iteOmega]
 replace hWx:=hWx.ext (show Ext w U by rw[←hU];exact((Ext.refl w).alloc _).alloc _)
 have hL:Bx2 U (w.heap.size+1):=⟨⟨_,hl0⟩,⟨_,hl1⟩,hUf,hUn,by omega⟩
 have hL2:BxO U (w.heap.size+1) 2:=⟨⟨_,hl2⟩,⟨_,hl3⟩,hUf,hUn,by omega⟩
 clear hU hUn hUf hl0 hl1 hl2 hl3
 replace hL2:=hL2.ext ((Ext.refl U).drew)
 replace hL:=hL.ext ((Ext.refl U).drew)
 replace hWx:=hWx.ext ((Ext.refl U).drew)
 refine wp_region_held_drew (S:=(fun w0=>GB (w.heap.size+1) U w0)) c_3 ?_ (fun hH=> ?_)
 ·exact(GB.refl _ _).drew
 try simp only[sx_]
 refine sK 0 ?_
 refine sK 1 ?_
 refine tk 2 rfl c_38 ?_
 try simp only[sx_]
 refine sK 3 ?_
 refine sK 6 ?_
 refine sK 7 ?_
 refine rh1 4 rfl fun K hK=> ?_
 go_simp
 (go_at_call 134;(with_reducible refine(t_numZ (-r) _ (by omega) (by omega)).mono ?_);rintro e w1 ⟨y1,rfl,hf1,hx⟩)
 replace hWx:=hWx.ext hx
 replace hL:=hL.ext hx
 replace hL2:=hL2.ext hx
 refine hK.out _ _ ?_ fun _=> ?_
 ·exact b_12
 clear hK K hH
 rename_i hH
 try simp only[sx_]
 refine rh1 5 rfl fun K hK=> ?_
 go_simp
 (go_at_call 133;(with_reducible refine(t_addZ _ _ x (-r) _ hWx hf1 (okN.sz hk0) hsz0 (okN.sz hk1)).mono ?_);rintro e w2 ⟨y2,rfl,hf2,hx⟩)
 replace hWx:=hWx.ext hx
 replace hL:=hL.ext hx
 replace hL2:=hL2.ext hx
 replace hf1:=hf1.ext hx
 refine hK.out _ _ ?_ fun _=> ?_
 ·exact b_12
 clear hK K hH
 rename_i hH
 try simp only[sx_]
 refine rh1 8 rfl fun K hK=> ?_
 go_simp
 rw[hwk.out]
 (go_at_call 169;(with_reducible refine(hsh0 _ _ hf2).mono ?_);rintro e w3 ⟨y3,rfl,hf3,hx⟩)
 replace hWx:=hWx.ext hx
 replace hL:=hL.ext hx
 replace hL2:=hL2.ext hx
 replace hf1:=hf1.ext hx
 replace hf2:=hf2.ext hx
 obtain⟨y9,rfl,hf9⟩:=hf3
 obtain⟨ao5,_,_,cap5,rfl, -⟩:=hf9.view
 have hf4:Wid w3 (.agg #[.bool (decide (qa<0)),.slice ao5 (dig qa.natAbs).length cap5]) qa:=⟨_,rfl,hf9⟩
 clear hf9
 refine hK.out _ _ ?_ fun _=> ?_
 ·exact b_12
 clear hK K hH
 rename_i hH
 try simp only[sx_]
 refine sK 9 ?_
 refine rh1 10 rfl fun K hK=> ?_
 obtain⟨⟨xa,h3a⟩,⟨xb,h3b⟩,h3f,hnu,hsl⟩:=hL
 go_simp
 refine hK.out _ _ ?_ fun _=> ?_
 ·exact b_13
 clear hK K hH
 rename_i hH
 try simp only[sx_]
 refine wpAnyH_done c_3 ?_ _
 have hLn0:=NoU.set (j:=0) (B':=w.heap.size+1) (x:=.bool (decide (qa<0))) hnu (fun z e=>by cases e)
 have hLn:=NoU.set (j:=1) (B':=w.heap.size+1) (x:=.slice ao5 (dig qa.natAbs).length cap5) hLn0 (fun z e=>by cases e)
 have hV0:=(Wid.box (j:=0) (x:=.bool (decide (qa<0))) hf4 hnu).box (j:=1) (x:=.slice ao5 (dig qa.natAbs).length cap5) hLn0
 have hWx2:=(Wid.box (j:=0) (x:=.bool (decide (qa<0))) hWx hnu).box (j:=1) (x:=.slice ao5 (dig qa.natAbs).length cap5) hLn0
 obtain⟨U1,hU1⟩:∃U1,(w3.setCell ⟨w.heap.size+1,0,none⟩ (.bool (decide (qa<0)))).setCell ⟨w.heap.size+1,1,none⟩ (.slice ao5 (dig qa.natAbs).length cap5)=U1:=⟨_,rfl⟩
 have e0:U1.cell? ⟨w.heap.size+1,0,none⟩=some (.bool (decide (qa<0))):=by rw[←hU1];simp[go_sem, ↓IntWalk.iteOmega,h3a]
 have e1:U1.cell? ⟨w.heap.size+1,1,none⟩=some (.slice ao5 (dig qa.natAbs).length cap5):=by rw[←hU1];simp[go_sem, ↓IntWalk.iteOmega,h3b]
 have hL2:=BxO.set (BxO.set (j:=0) (v:=.bool (decide (qa<0))) hL2 (fun z e=>by cases e)) (j:=1) (v:=.slice ao5 (dig qa.natAbs).length cap5) (fun z e=>by cases e)
 have hs1:U1.heap.size=w3.heap.size:=by rw[←hU1];simp
 rw[hU1]at hLn hV0 hWx2 hH hL2 ⊢
 have b0':=(GB.cell (o:=0) hH hbl (by omega)).trans b0
 have b1':=(GB.cell (o:=1) hH hbl (by omega)).trans b1
 have hUU:GB (w.heap.size+1) w U1:=hGU.trans hH
 have hsU:w.heap.size+1+1≤U1.heap.size:=by have:=hH.size;omega
 clear hU1 hH hWx hLn0 h3a h3b h3f hnu hsl b0 b1 hGU
 go_wp2_with fail
 rw[rounds_succ]
 go_upto_region 5 with fail
 have hbl1:w.heap.size<U1.heap.size:=by omega
 have hL1:C2 U1 (w.heap.size+1) (.bool (decide (qa<0))) (.slice ao5 (dig qa.natAbs).length cap5):=⟨e0,e1,by omega⟩
 replace hL2:=hL2.ext ((Ext.refl U1).drew)
 replace hL1:=hL1.ext ((Ext.refl U1).drew)
 replace hWx2:=hWx2.ext ((Ext.refl U1).drew)
 replace hV0:=hV0.ext ((Ext.refl U1).drew)
 refine wp_region_held_drew (S:=(fun w0=>GB (w.heap.size+1) U1 w0)) c_3 ?_ (fun hH=> ?_)
 ·exact(GB.refl _ _).drew
 try simp only[sx_]
 refine sK 0 ?_
 refine sK 1 ?_
 refine tk 2 rfl c_36 ?_
 try simp only[sx_]
 refine sK 3 ?_
 refine sK 6 ?_
 refine sK 7 ?_
 refine rh1 4 rfl fun K hK=> ?_
 go_simp
 (go_at_call 134;(with_reducible refine(t_numZ r _ (by omega) (by omega)).mono ?_);rintro e w1 ⟨y1,rfl,hf1,hx⟩)
 replace hWx2:=hWx2.ext hx
 replace hL2:=hL2.ext hx
 replace hV0:=hV0.ext hx
 replace hL1:=hL1.ext hx
 refine hK.out _ _ ?_ fun _=> ?_
 ·exact b_12
 clear hK K hH
 rename_i hH
 try simp only[sx_]
 refine rh1 5 rfl fun K hK=> ?_
 go_simp
 (go_at_call 133;(with_reducible refine(t_addZ _ _ x r _ hWx2 hf1 (okN.sz hk0) hsz1 (okN.sz hk2)).mono ?_);rintro e w2 ⟨y2,rfl,hf2,hx⟩)
 replace hWx2:=hWx2.ext hx
 replace hL2:=hL2.ext hx
 replace hV0:=hV0.ext hx
 replace hL1:=hL1.ext hx
 replace hf1:=hf1.ext hx
 refine hK.out _ _ ?_ fun _=> ?_
 ·exact b_12
 clear hK K hH
 rename_i hH
 try simp only[sx_]
 refine rh1 8 rfl fun K hK=> ?_
 go_simp
 rw[hwk.out]
 (go_at_call 169;(with_reducible refine(hsh1 _ _ hf2).mono ?_);rintro e w3 ⟨y3,rfl,hf3,hx⟩)
 replace hWx2:=hWx2.ext hx
 replace hL2:=hL2.ext hx
 replace hV0:=hV0.ext hx
 replace hL1:=hL1.ext hx
 replace hf1:=hf1.ext hx
 replace hf2:=hf2.ext hx
 obtain⟨y9,rfl,hf9⟩:=hf3
 obtain⟨ao6,_,_,cap6,rfl, -⟩:=hf9.view
 have hf4:Wid w3 (.agg #[.bool (decide (qb<0)),.slice ao6 (dig qb.natAbs).length cap6]) qb:=⟨_,rfl,hf9⟩
 clear hf9
 refine hK.out _ _ ?_ fun _=> ?_
 ·exact b_12
 clear hK K hH
 rename_i hH
 try simp only[sx_]
 refine sK 9 ?_
 refine rh1 10 rfl fun K hK=> ?_
 obtain⟨⟨xa,h3a⟩,⟨xb,h3b⟩,h3f,hnu,hsl⟩:=hL2
 go_simp
 refine hK.out _ _ ?_ fun _=> ?_
 ·exact b_13
 clear hK K hH
 rename_i hH
 try simp only[sx_]
 refine wpAnyH_done c_3 ?_ _
 have hLn0:=NoU.set (j:=2) (B':=w.heap.size+1) (x:=.bool (decide (qb<0))) hnu (fun z e=>by cases e)
 have hV1:=(Wid.box (j:=2) (x:=.bool (decide (qb<0))) hf4 hnu).box (j:=3) (x:=.slice ao6 (dig qb.natAbs).length cap6) hLn0
 have hV2:=(Wid.box (j:=2) (x:=.bool (decide (qb<0))) hV0 hnu).box (j:=3) (x:=.slice ao6 (dig qb.natAbs).length cap6) hLn0
 obtain⟨X2,hX2⟩:∃X2,(w3.setCell ⟨w.heap.size+1,2,none⟩ (.bool (decide (qb<0)))).setCell ⟨w.heap.size+1,3,none⟩ (.slice ao6 (dig qb.natAbs).length cap6)=X2:=⟨_,rfl⟩
 have f0:X2.cell? ⟨w.heap.size+1,0,none⟩=some (.bool (decide (qa<0))):=by rw[←hX2];simp[go_sem, ↓IntWalk.iteOmega,hL1.1]
 have f1:X2.cell? ⟨w.heap.size+1,1,none⟩=some (.slice ao5 (dig qa.natAbs).length cap5):=by rw[←hX2];simp[go_sem, ↓IntWalk.iteOmega,hL1.2.1]
 have f2:X2.cell? ⟨w.heap.size+1,2,none⟩=some (.bool (decide (qb<0))):=by rw[←hX2];simp[go_sem, ↓IntWalk.iteOmega,h3a]
 have f3:X2.cell? ⟨w.heap.size+1,3,none⟩=some (.slice ao6 (dig qb.natAbs).length cap6):=by rw[←hX2];simp[go_sem, ↓IntWalk.iteOmega,h3b]
 rw[hX2]at hV1 hV2 hH ⊢
 have hE2:Ext w X2:=(hUU.trans hH).out (by omega)
 have hsX:w.heap.size+1+1≤X2.heap.size:=by have:=hH.size;omega
 have hcm:=z_Cmp _ _ qa qb X2 hV2 hV1 hszqa hszqb
 rw[cmp_lt hqq]at hcm
 clear hX2 hH hWx2 hLn0 h3a h3b h3f hnu hsl hV1 hV2
 go_wp2_with fail
 rw[rounds_succ]
 go_wp2_with (go_at_call 52;(with_reducible refine hcm.mono ?_);rintro e w7 ⟨rfl,hb7⟩;obtain⟨_,_,⟨hc7,hf7⟩,hz7⟩:=hb7.c3;(try simp only[wsz]at hz7 hc7 hf7))
 go_ret2
 exact⟨rfl,ex_⟩
theorem t_unitNo (vb:Value) (x r:Int) (p:Nat) (w:World) (hb0:Ball w vb x r) (hr0:0≤r) (hr1:r≤9000000000000000000) (hp0:41≤p) (hp:p≤1000) (hF:floorN x r p=true):
    K_ 89 #[vb,O p] w fun e w'=>e=.returned (.tuple #[.agg #[O 0,O 1],.bool false])∧Ext w w':=by
 obtain⟨sb,aob,nb,capb,rfl,hWx⟩:=hb0.open
 have hfl:=fun w1 (k1:Ext w w1)=>t_floorNo _ x r p w1 (hb0.ext k1) hr0 hr1 hp0 hp hF
 clear hF hWx hb0
 go_enter Tryz.func89,Tryz.ntmps89
 go_wp2_with (go_at_call 147;(with_reducible refine(hfl _ ex_).mono ?_);rintro e w1 ⟨rfl,hb⟩;obtain⟨_,_,⟨hc,hf⟩,hz⟩:=hb.c3;(try simp only[wsz]at hz hc hf))
 refine bodyPost_ret (v:=.tuple #[.agg #[O 0,O 1],.bool false]) ?_ rfl ⟨rfl, ?_⟩
 ·simp[results,Tryz.results89,go_sem, ↓IntWalk.iteOmega, *]
 ·exact b_1
end Go.Proofs.YtaoioncjmfcolaaGreat
