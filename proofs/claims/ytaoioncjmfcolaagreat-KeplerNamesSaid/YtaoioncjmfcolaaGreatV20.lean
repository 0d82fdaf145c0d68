/- trig: floor. -/
import Derived.Test.YtaoioncjmfcolaaGreatV19
set_option linter.unusedSimpArgs false
set_option linter.unusedVariables false
set_option maxRecDepth 100000
set_option maxHeartbeats 4000000
namespace Go.Proofs.YtaoioncjmfcolaaGreat
open Go.RowKit
def BxO (w:World) (g o:Nat):Prop:=(∃a,w.cell? ⟨g,o,none⟩=some a)∧(∃a,w.cell? ⟨g,o+1,none⟩=some a)∧(∀o,w.frozen? ⟨g,o,none⟩=false)∧NoU w g∧g<w.heap.size
theorem BxO.ext {g o:Nat} {a b:World} (h:BxO a g o) (k:Ext a b):BxO b g o:=by
 obtain⟨⟨x,h1⟩,⟨y,h2⟩,h4,h5,h6⟩:=h
 exact⟨⟨x,(k.cells.1 g o h6).trans h1⟩,⟨y,(k.cells.1 g (o+1) h6).trans h2⟩,fun o=>(k.cells.2 g o h6).trans (h4 o),h5.ext h6 k,Nat.lt_of_lt_of_le h6 k.size⟩
theorem BxO.set {w:World} {g o j:Nat} {v:Value} (h:BxO w g o) (hx:∀z,v≠ .int .u32 z):BxO (w.setCell ⟨g,j,none⟩ v) g o:=by
 obtain⟨⟨x,h1⟩,⟨y,h2⟩,h4,h5,h6⟩:=h
 have some':∀o a,w.cell? ⟨g,o,none⟩=some a→∃c,(w.setCell ⟨g,j,none⟩ v).cell? ⟨g,o,none⟩=some c:=fun o a ha=>by
  rw[cell_sc]
  split
  ·rename_i e
   have:o=j:=by have:=congrArg Addr.off e;simpa using this
   subst this
   rw[ha];exact⟨v,rfl⟩
  ·exact⟨a,ha⟩
 exact⟨some' o x h1,some' (o+1) y h2,fun o=>by rw[World.frozen?_setCell];exact h4 o,h5.set hx,by simpa using h6⟩
def C2 (w:World) (g:Nat) (a b:Value):Prop:=w.cell? ⟨g,0,none⟩=some a∧w.cell? ⟨g,1,none⟩=some b∧g<w.heap.size
theorem C2.ext {g:Nat} {a b:World} {x y:Value} (h:C2 a g x y) (k:Ext a b):C2 b g x y:=
 ⟨(k.cells.1 g 0 h.2.2).trans h.1,(k.cells.1 g 1 h.2.2).trans h.2.1,Nat.lt_of_lt_of_le h.2.2 k.size⟩
theorem t_floor120 (vb:Value) (x r q:Int) (w:World) (hb0:Ball w vb x r) (hr0:0≤r) (hr1:r≤1000000000000) (hk0:okN x=true) (hk1:okN (x+ -r)=true) (hk2:okN (x+r)=true) (hq1:(x+ -r)/2^80=q) (hq2:(x+r)/2^80=q) (hq3:0≤q∧q≤9000000000000000000):
    K_ 147 #[vb,O 120] w fun e w'=>e=.returned (.tuple #[O q,.bool true])∧Ext w w':=by
 obtain⟨sb,aob,nb,capb,rfl,hWx⟩:=hb0.open
 have hsz0:Sz (-r):=dig_bits (k:=64) (L:=4096) (by omega) (by decide)
 have hsz1:Sz r:=dig_bits (k:=64) (L:=4096) (by omega) (by decide)
 have hszq:Sz q:=dig_bits (k:=64) (L:=4096) (by omega) (by decide)
 have hsh0:∀v w2,Wid w2 v (x+ -r)→K_ 169 #[v,O (-80)] w2 fun e w'=>∃u,e=.returned u∧Wid w' u q∧Ext w2 w':=fun v w2 hv=>by
  have:=t_shiftD v (x+ -r) 80 w2 hv (okN.sz hk1) (by decide) (by decide)
  rw[hq1]at this;exact this
 have hsh1:∀v w2,Wid w2 v (x+r)→K_ 169 #[v,O (-80)] w2 fun e w'=>∃u,e=.returned u∧Wid w' u q∧Ext w2 w':=fun v w2 hv=>by
  have:=t_shiftD v (x+r) 80 w2 hv (okN.sz hk2) (by decide) (by decide)
  rw[hq2]at this;exact this
 clear hq1 hq2
 have hwk:Hid (IntKind.i64.wrap (-80)= -80):=by show _=_;rw[IntKind.wrap_i64];rfl
 have i0:∀w,(Instr.index 152 (.agg #[O (-r),O r]) (O 0)).run Tryz.prog w=.ok (O (-r)) w:=fun _=>by kernel_rfl
 have i1:∀w,(Instr.index 152 (.agg #[O (-r),O r]) (O 1)).run Tryz.prog w=.ok (O r) w:=fun _=>by kernel_rfl
 go_enter Tryz.func147,Tryz.ntmps147
 go_wp2_with fail
 refine wp_loop_rounds 3 ?_
 rw[rounds_succ]
 go_upto_region 5 with fail
 obtain⟨U,hU⟩:∃U,(w.alloc (.cells #[.bool sb,.slice aob nb capb,O r] 137)).alloc (.cells #[.bool false,.slice none 0 0,.bool false,.slice none 0 0] 119)=U:=⟨_,rfl⟩
 rw[hU]
 have hGU:GB (w.heap.size+1) w U:=GB.ext (by rw[←hU];exact((Ext.refl w).alloc _).alloc _)
 have b0:U.cell? ⟨w.heap.size,0,none⟩=some (.bool sb):=by rw[←hU];simp[go_sem, ↓IntWalk.iteOmega]
 have b1:U.cell? ⟨w.heap.size,1,none⟩=some (.slice aob nb capb):=by rw[←hU];simp[go_sem, ↓IntWalk.iteOmega]
 have hl0:U.cell? ⟨w.heap.size+1,0,none⟩=some (.bool false):=by rw[←hU];simp[go_sem, ↓IntWalk.iteOmega]
 have hl1:U.cell? ⟨w.heap.size+1,1,none⟩=some (.slice none 0 0):=by rw[←hU];simp[go_sem, ↓IntWalk.iteOmega]
 have hl2:U.cell? ⟨w.heap.size+1,2,none⟩=some (.bool false):=by rw[←hU];simp[go_sem, ↓IntWalk.iteOmega]
 have hl3:U.cell? ⟨w.heap.size+1,3,none⟩=some (.slice none 0 0):=by rw[←hU];simp[go_sem, ↓IntWalk.iteOmega]
 have hUs:U.heap.size=w.heap.size+1+1:=by rw[←hU];simp
 have hbl:w.heap.size<U.heap.size:=by omega
 have hUn:NoU U (w.heap.size+1):=by
  have:=NoU.new (w.alloc (.cells #[.bool sb,.slice aob nb capb,O r] 137)) #[.bool false,.slice none 0 0,.bool false,.slice none 0 0] 119 (noU4 (by simp) (by simp) (by simp) (by simp))
  rw[←hU];simpa using this
 have hUf:∀o,U.frozen? ⟨w.heap.size+1,o,none⟩=false:=fun o=>by rw[←hU];simp[go_sem, ↓IntWalk.iteOmega]
 replace hWx:=hWx.ext (show Ext w U by rw[←hU];exact((Ext.refl w).alloc _).alloc _)
 have hL:Bx2 U (w.heap.size+1):=⟨⟨_,hl0⟩,⟨_,hl1⟩,hUf,hUn,by omega⟩
 have hL2:BxO U (w.heap.size+1) 2:=⟨⟨_,hl2⟩,⟨_,hl3⟩,hUf,hUn,by omega⟩
 clear hU hUn hUf hl0 hl1 hl2 hl3
 replace hL2:=hL2.ext ((Ext.refl U).drew)
 replace hL:=hL.ext ((Ext.refl U).drew)
 replace hWx:=hWx.ext ((Ext.refl U).drew)
 refine wp_region_held_drew (S:=(fun w0=>GB (w.heap.size+1) U w0)) c_3 ?_ (fun hH=> ?_)
 ·exact(GB.refl _ _).drew
 try simp only[sx_]
 refine sK 0 ?_
 refine sK 1 ?_
 refine tk 2 rfl c_38 ?_
 try simp only[sx_]
 refine sK 3 ?_
 refine sK 6 ?_
 refine sK 7 ?_
 refine rh1 4 rfl fun K hK=> ?_
 go_simp
 (go_at_call 134;(with_reducible refine(t_numZ (-r) _ (by omega) (by omega)).mono ?_);rintro e w1 ⟨y1,rfl,hf1,hx⟩)
 replace hWx:=hWx.ext hx
 replace hL:=hL.ext hx
 replace hL2:=hL2.ext hx
 refine hK.out _ _ ?_ fun _=> ?_
 ·exact b_12
 clear hK K hH
 rename_i hH
 try simp only[sx_]
 refine rh1 5 rfl fun K hK=> ?_
 go_simp
 (go_at_call 133;(with_reducible refine(t_addZ _ _ x (-r) _ hWx hf1 (okN.sz hk0) hsz0 (okN.sz hk1)).mono ?_);rintro e w2 ⟨y2,rfl,hf2,hx⟩)
 replace hWx:=hWx.ext hx
 replace hL:=hL.ext hx
 replace hL2:=hL2.ext hx
 replace hf1:=hf1.ext hx
 refine hK.out _ _ ?_ fun _=> ?_
 ·exact b_12
 clear hK K hH
 rename_i hH
 try simp only[sx_]
 refine rh1 8 rfl fun K hK=> ?_
 go_simp
 rw[hwk.out]
 (go_at_call 169;(with_reducible refine(hsh0 _ _ hf2).mono ?_);rintro e w3 ⟨y3,rfl,hf3,hx⟩)
 replace hWx:=hWx.ext hx
 replace hL:=hL.ext hx
 replace hL2:=hL2.ext hx
 replace hf1:=hf1.ext hx
 replace hf2:=hf2.ext hx
 obtain⟨y9,rfl,hf9⟩:=hf3
 obtain⟨ao5,_,_,cap5,rfl, -⟩:=hf9.view
 have hf4:Wid w3 (.agg #[.bool (decide (q<0)),.slice ao5 (dig q.natAbs).length cap5]) q:=⟨_,rfl,hf9⟩
 clear hf9
 refine hK.out _ _ ?_ fun _=> ?_
 ·exact b_12
 clear hK K hH
 rename_i hH
 try simp only[sx_]
 refine sK 9 ?_
 refine rh1 10 rfl fun K hK=> ?_
 obtain⟨⟨xa,h3a⟩,⟨xb,h3b⟩,h3f,hnu,hsl⟩:=hL
 go_simp
 refine hK.out _ _ ?_ fun _=> ?_
 ·exact b_13
 clear hK K hH
 rename_i hH
 try simp only[sx_]
 refine wpAnyH_done c_3 ?_ _
 have hLn0:=NoU.set (j:=0) (B':=w.heap.size+1) (x:=.bool (decide (q<0))) hnu (fun z e=>by cases e)
 have hLn:=NoU.set (j:=1) (B':=w.heap.size+1) (x:=.slice ao5 (dig q.natAbs).length cap5) hLn0 (fun z e=>by cases e)
 have hV0:=(Wid.box (j:=0) (x:=.bool (decide (q<0))) hf4 hnu).box (j:=1) (x:=.slice ao5 (dig q.natAbs).length cap5) hLn0
 have hWx2:=(Wid.box (j:=0) (x:=.bool (decide (q<0))) hWx hnu).box (j:=1) (x:=.slice ao5 (dig q.natAbs).length cap5) hLn0
 obtain⟨U1,hU1⟩:∃U1,(w3.setCell ⟨w.heap.size+1,0,none⟩ (.bool (decide (q<0)))).setCell ⟨w.heap.size+1,1,none⟩ (.slice ao5 (dig q.natAbs).length cap5)=U1:=⟨_,rfl⟩
 have e0:U1.cell? ⟨w.heap.size+1,0,none⟩=some (.bool (decide (q<0))):=by rw[←hU1];simp[go_sem, ↓IntWalk.iteOmega,h3a]
 have e1:U1.cell? ⟨w.heap.size+1,1,none⟩=some (.slice ao5 (dig q.natAbs).length cap5):=by rw[←hU1];simp[go_sem, ↓IntWalk.iteOmega,h3b]
 have hL2:=BxO.set (BxO.set (j:=0) (v:=.bool (decide (q<0))) hL2 (fun z e=>by cases e)) (j:=1) (v:=.slice ao5 (dig q.natAbs).length cap5) (fun z e=>by cases e)
 have hs1:U1.heap.size=w3.heap.size:=by rw[←hU1];simp
 rw[hU1]at hLn hV0 hWx2 hH hL2 ⊢
 have b0':=(GB.cell (o:=0) hH hbl (by omega)).trans b0
 have b1':=(GB.cell (o:=1) hH hbl (by omega)).trans b1
 have hUU:GB (w.heap.size+1) w U1:=hGU.trans hH
 have hsU:w.heap.size+1+1≤U1.heap.size:=by have:=hH.size;omega
 clear hU1 hH hWx hLn0 h3a h3b h3f hnu hsl b0 b1 hGU
 go_wp2_with fail
 rw[rounds_succ]
 go_upto_region 5 with fail
 have hbl1:w.heap.size<U1.heap.size:=by omega
 have hL1:C2 U1 (w.heap.size+1) (.bool (decide (q<0))) (.slice ao5 (dig q.natAbs).length cap5):=⟨e0,e1,by omega⟩
 replace hL2:=hL2.ext ((Ext.refl U1).drew)
 replace hL1:=hL1.ext ((Ext.refl U1).drew)
 replace hWx2:=hWx2.ext ((Ext.refl U1).drew)
 replace hV0:=hV0.ext ((Ext.refl U1).drew)
 refine wp_region_held_drew (S:=(fun w0=>GB (w.heap.size+1) U1 w0)) c_3 ?_ (fun hH=> ?_)
 ·exact(GB.refl _ _).drew
 try simp only[sx_]
 refine sK 0 ?_
 refine sK 1 ?_
 refine tk 2 rfl c_36 ?_
 try simp only[sx_]
 refine sK 3 ?_
 refine sK 6 ?_
 refine sK 7 ?_
 refine rh1 4 rfl fun K hK=> ?_
 go_simp
 (go_at_call 134;(with_reducible refine(t_numZ r _ (by omega) (by omega)).mono ?_);rintro e w1 ⟨y1,rfl,hf1,hx⟩)
 replace hWx2:=hWx2.ext hx
 replace hL2:=hL2.ext hx
 replace hV0:=hV0.ext hx
 replace hL1:=hL1.ext hx
 refine hK.out _ _ ?_ fun _=> ?_
 ·exact b_12
 clear hK K hH
 rename_i hH
 try simp only[sx_]
 refine rh1 5 rfl fun K hK=> ?_
 go_simp
 (go_at_call 133;(with_reducible refine(t_addZ _ _ x r _ hWx2 hf1 (okN.sz hk0) hsz1 (okN.sz hk2)).mono ?_);rintro e w2 ⟨y2,rfl,hf2,hx⟩)
 replace hWx2:=hWx2.ext hx
 replace hL2:=hL2.ext hx
 replace hV0:=hV0.ext hx
 replace hL1:=hL1.ext hx
 replace hf1:=hf1.ext hx
 refine hK.out _ _ ?_ fun _=> ?_
 ·exact b_12
 clear hK K hH
 rename_i hH
 try simp only[sx_]
 refine rh1 8 rfl fun K hK=> ?_
 go_simp
 rw[hwk.out]
 (go_at_call 169;(with_reducible refine(hsh1 _ _ hf2).mono ?_);rintro e w3 ⟨y3,rfl,hf3,hx⟩)
 replace hWx2:=hWx2.ext hx
 replace hL2:=hL2.ext hx
 replace hV0:=hV0.ext hx
 replace hL1:=hL1.ext hx
 replace hf1:=hf1.ext hx
 replace hf2:=hf2.ext hx
 obtain⟨y9,rfl,hf9⟩:=hf3
 obtain⟨ao6,_,_,cap6,rfl, -⟩:=hf9.view
 have hf4:Wid w3 (.agg #[.bool (decide (q<0)),.slice ao6 (dig q.natAbs).length cap6]) q:=⟨_,rfl,hf9⟩
 clear hf9
 refine hK.out _ _ ?_ fun _=> ?_
 ·exact b_12
 clear hK K hH
 rename_i hH
 try simp only[sx_]
 refine sK 9 ?_
 refine rh1 10 rfl fun K hK=> ?_
 obtain⟨⟨xa,h3a⟩,⟨xb,h3b⟩,h3f,hnu,hsl⟩:=hL2
 go_simp
 refine hK.out _ _ ?_ fun _=> ?_
 ·exact b_13
 clear hK K hH
 rename_i hH
 try simp only[sx_]
 refine wpAnyH_done c_3 ?_ _
 have hLn0:=NoU.set (j:=2) (B':=w.heap.size+1) (x:=.bool (decide (q<0))) hnu (fun z e=>by cases e)
 have hV1:=(Wid.box (j:=2) (x:=.bool (decide (q<0))) hf4 hnu).box (j:=3) (x:=.slice ao6 (dig q.natAbs).length cap6) hLn0
 have hV2:=(Wid.box (j:=2) (x:=.bool (decide (q<0))) hV0 hnu).box (j:=3) (x:=.slice ao6 (dig q.natAbs).length cap6) hLn0
 obtain⟨X2,hX2⟩:∃X2,(w3.setCell ⟨w.heap.size+1,2,none⟩ (.bool (decide (q<0)))).setCell ⟨w.heap.size+1,3,none⟩ (.slice ao6 (dig q.natAbs).length cap6)=X2:=⟨_,rfl⟩
 have f0:X2.cell? ⟨w.heap.size+1,0,none⟩=some (.bool (decide (q<0))):=by rw[←hX2];simp[go_sem, ↓IntWalk.iteOmega,hL1.1]
 have f1:X2.cell? ⟨w.heap.size+1,1,none⟩=some (.slice ao5 (dig q.natAbs).length cap5):=by rw[←hX2];simp[go_sem, ↓IntWalk.iteOmega,hL1.2.1]
 have f2:X2.cell? ⟨w.heap.size+1,2,none⟩=some (.bool (decide (q<0))):=by rw[←hX2];simp[go_sem, ↓IntWalk.iteOmega,h3a]
 have f3:X2.cell? ⟨w.heap.size+1,3,none⟩=some (.slice ao6 (dig q.natAbs).length cap6):=by rw[←hX2];simp[go_sem, ↓IntWalk.iteOmega,h3b]
 rw[hX2]at hV1 hV2 hH ⊢
 have hE2:Ext w X2:=(hUU.trans hH).out (by omega)
 have hsX:w.heap.size+1+1≤X2.heap.size:=by have:=hH.size;omega
 have hcm:=z_Cmp _ _ q q X2 hV2 hV1 hszq hszq
 rw[cmp_eq rfl]at hcm
 have hin:=fun w1 (k1:Ext X2 w1)=>z_Int _ q w1 (hV2.ext k1) (by omega) (by omega)
 clear hX2 hH hWx2 hLn0 h3a h3b h3f hnu hsl hV1 hV2
 go_wp2_with fail
 rw[rounds_succ]
 go_wp2_with (first
  | (go_at_call 52;(with_reducible refine hcm.mono ?_);rintro e w7 ⟨rfl,hb7⟩;obtain⟨_,_,⟨hc7,hf7⟩,hz7⟩:=hb7.c3;(try simp only[wsz]at hz7 hc7 hf7))
  | (go_at_call 99;(with_reducible refine(hin _ ex_).mono ?_);rintro e w8 ⟨rfl,hb8⟩))
 go_ret2
 exact⟨rfl,ex_⟩
def floorF (x r:Int) (p:Nat):Option Int:=
 if okN x=true∧okN (x+ -r)=true∧okN (x+r)=true∧(x+ -r)/2^(p-40)=(x+r)/2^(p-40)∧ -9000000000000000000≤(x+r)/2^(p-40)∧(x+r)/2^(p-40)≤9000000000000000000 then some ((x+r)/2^(p-40))else none
theorem floorF_spec {x r q:Int} {p:Nat} (h:floorF x r p=some q):okN x=true∧okN (x+ -r)=true∧okN (x+r)=true∧(x+ -r)/2^(p-40)=q∧(x+r)/2^(p-40)=q∧ -9000000000000000000≤q∧q≤9000000000000000000:=by
 unfold floorF at h
 by_cases k:okN x=true∧okN (x+ -r)=true∧okN (x+r)=true∧(x+ -r)/2^(p-40)=(x+r)/2^(p-40)∧ -9000000000000000000≤(x+r)/2^(p-40)∧(x+r)/2^(p-40)≤9000000000000000000
 ·rw[if_pos k]at h
  obtain rfl:=Option.some.inj h
  exact⟨k.1,k.2.1,k.2.2.1,k.2.2.2.1,rfl,k.2.2.2.2.1,k.2.2.2.2.2⟩
 ·rw[if_neg k]at h;cases h
theorem t_floor (vb:Value) (x r q:Int) (p:Nat) (w:World) (hb0:Ball w vb x r) (hr0:0≤r) (hr1:r≤9000000000000000000) (hp0:41≤p) (hp:p≤1000) (hF:floorF x r p=some q):
    K_ 147 #[vb,O p] w fun e w'=>e=.returned (.tuple #[O q,.bool true])∧Ext w w':=by
 obtain⟨hk0,hk1,hk2,hq1,hq2,hq3⟩:=floorF_spec hF
 clear hF
 obtain⟨sb,aob,nb,capb,rfl,hWx⟩:=hb0.open
 have hsz0:Sz (-r):=dig_bits (k:=64) (L:=4096) (by omega) (by decide)
 have hsz1:Sz r:=dig_bits (k:=64) (L:=4096) (by omega) (by decide)
 have hszq:Sz q:=dig_bits (k:=64) (L:=4096) (by omega) (by decide)
 have hpk:40-(p:Int)= -((p-40:Nat):Int):=by omega
 have hsh0:∀v w2,Wid w2 v (x+ -r)→K_ 169 #[v,O (40-(p:Int))] w2 fun e w'=>∃u,e=.returned u∧Wid w' u q∧Ext w2 w':=fun v w2 hv=>by
  have:=t_shiftD v (x+ -r) (p-40) w2 hv (okN.sz hk1) (by omega) (by omega)
  rw[hq1]at this;rw[hpk];exact this
 have hsh1:∀v w2,Wid w2 v (x+r)→K_ 169 #[v,O (40-(p:Int))] w2 fun e w'=>∃u,e=.returned u∧Wid w' u q∧Ext w2 w':=fun v w2 hv=>by
  have:=t_shiftD v (x+r) (p-40) w2 hv (okN.sz hk2) (by omega) (by omega)
  rw[hq2]at this;rw[hpk];exact this
 clear hq1 hq2 hpk
 have hwk:Hid (IntKind.i64.wrap (40-(p:Int))=40-(p:Int)):=by show _=_;rw[IntKind.wrap_i64];omega
 have i0:∀w,(Instr.index 152 (.agg #[O (-r),O r]) (O 0)).run Tryz.prog w=.ok (O (-r)) w:=fun _=>by kernel_rfl
 have i1:∀w,(Instr.index 152 (.agg #[O (-r),O r]) (O 1)).run Tryz.prog w=.ok (O r) w:=fun _=>by kernel_rfl
 go_enter Tryz.func147,Tryz.ntmps147
 go_wp2_with fail
 refine wp_loop_rounds 3 ?_
 rw[rounds_succ]
 go_upto_region 5 with fail
 obtain⟨U,hU⟩:∃U,(w.alloc (.cells #[.bool sb,.slice aob nb capb,O r] 137)).alloc (.cells #[.bool false,.slice none 0 0,.bool false,.slice none 0 0] 119)=U:=⟨_,rfl⟩
 rw[hU]
 have hGU:GB (w.heap.size+1) w U:=GB.ext (by rw[←hU];exact((Ext.refl w).alloc _).alloc _)
 have b0:U.cell? ⟨w.heap.size,0,none⟩=some (.bool sb):=by rw[←hU];simp[go_sem, ↓IntWalk.iteOmega]
 have b1:U.cell? ⟨w.heap.size,1,none⟩=some (.slice aob nb capb):=by rw[←hU];simp[go_sem, ↓IntWalk.iteOmega]
 have hl0:U.cell? ⟨w.heap.size+1,0,none⟩=some (.bool false):=by rw[←hU];simp[go_sem, ↓IntWalk.iteOmega]
 have hl1:U.cell? ⟨w.heap.size+1,1,none⟩=some (.slice none 0 0):=by rw[←hU];simp[go_sem, ↓IntWalk.iteOmega]
 have hl2:U.cell? ⟨w.heap.size+1,2,none⟩=some (.bool false):=by rw[←hU];simp[go_sem, ↓IntWalk.iteOmega]
 have hl3:U.cell? ⟨w.heap.size+1,3,none⟩=some (.slice none 0 0):=by rw[←hU];simp[go_sem, ↓IntWalk.iteOmega]
 have hUs:U.heap.size=w.heap.size+1+1:=by rw[←hU];simp
 have hbl:w.heap.size<U.heap.size:=by omega
 have hUn:NoU U (w.heap.size+1):=by
  have:=NoU.new (w.alloc (.cells #[.bool sb,.slice aob nb capb,O r] 137)) #[.bool false,.slice none 0 0,.bool false,.slice none 0 0] 119 (noU4 (by simp) (by simp) (by simp) (by simp))
  rw[←hU];simpa using this
 have hUf:∀o,U.frozen? ⟨w.heap.size+1,o,none⟩=false:=fun o=>by rw[←hU];simp[go_sem, ↓IntWalk.iteOmega]
 replace hWx:=hWx.ext (show Ext w U by rw[←hU];exact((Ext.refl w).alloc _).alloc _)
 have hL:Bx2 U (w.heap.size+1):=⟨⟨_,hl0⟩,⟨_,hl1⟩,hUf,hUn,by omega⟩
 have hL2:BxO U (w.heap.size+1) 2:=⟨⟨_,hl2⟩,⟨_,hl3⟩,hUf,hUn,by omega⟩
 clear hU hUn hUf hl0 hl1 hl2 hl3
 replace hL2:=hL2.ext ((Ext.refl U).drew)
 replace hL:=hL.ext ((Ext.refl U).drew)
 replace hWx:=hWx.ext ((Ext.refl U).drew)
 refine wp_region_held_drew (S:=(fun w0=>GB (w.heap.size+1) U w0)) c_3 ?_ (fun hH=> ?_)
 ·exact(GB.refl _ _).drew
 try simp only[sx_]
 refine sK 0 ?_
 refine sK 1 ?_
 refine tk 2 rfl c_38 ?_
 try simp only[sx_]
 refine sK 3 ?_
 refine sK 6 ?_
 refine sK 7 ?_
 refine rh1 4 rfl fun K hK=> ?_
 go_simp
 (go_at_call 134;(with_reducible refine(t_numZ (-r) _ (by omega) (by omega)).mono ?_);rintro e w1 ⟨y1,rfl,hf1,hx⟩)
 replace hWx:=hWx.ext hx
 replace hL:=hL.ext hx
 replace hL2:=hL2.ext hx
 refine hK.out _ _ ?_ fun _=> ?_
 ·exact b_12
 clear hK K hH
 rename_i hH
 try simp only[sx_]
 refine rh1 5 rfl fun K hK=> ?_
 go_simp
 (go_at_call 133;(with_reducible refine(t_addZ _ _ x (-r) _ hWx hf1 (okN.sz hk0) hsz0 (okN.sz hk1)).mono ?_);rintro e w2 ⟨y2,rfl,hf2,hx⟩)
 replace hWx:=hWx.ext hx
 replace hL:=hL.ext hx
 replace hL2:=hL2.ext hx
 replace hf1:=hf1.ext hx
 refine hK.out _ _ ?_ fun _=> ?_
 ·exact b_12
 clear hK K hH
 rename_i hH
 try simp only[sx_]
 refine rh1 8 rfl fun K hK=> ?_
 go_simp
 rw[hwk.out]
 (go_at_call 169;(with_reducible refine(hsh0 _ _ hf2).mono ?_);rintro e w3 ⟨y3,rfl,hf3,hx⟩)
 replace hWx:=hWx.ext hx
 replace hL:=hL.ext hx
 replace hL2:=hL2.ext hx
 replace hf1:=hf1.ext hx
 replace hf2:=hf2.ext hx
 obtain⟨y9,rfl,hf9⟩:=hf3
 obtain⟨ao5,_,_,cap5,rfl, -⟩:=hf9.view
 have hf4:Wid w3 (.agg #[.bool (decide (q<0)),.slice ao5 (dig q.natAbs).length cap5]) q:=⟨_,rfl,hf9⟩
 clear hf9
 refine hK.out _ _ ?_ fun _=> ?_
 ·exact b_12
 clear hK K hH
 rename_i hH
 try simp only[sx_]
 refine sK 9 ?_
 refine rh1 10 rfl fun K hK=> ?_
 obtain⟨⟨xa,h3a⟩,⟨xb,h3b⟩,h3f,hnu,hsl⟩:=hL
 go_simp
 refine hK.out _ _ ?_ fun _=> ?_
 ·exact b_13
 clear hK K hH
 rename_i hH
 try simp only[sx_]
 refine wpAnyH_done c_3 ?_ _
 have hLn0:=NoU.set (j:=0) (B':=w.heap.size+1) (x:=.bool (decide (q<0))) hnu (fun z e=>by cases e)
 have hLn:=NoU.set (j:=1) (B':=w.heap.size+1) (x:=.slice ao5 (dig q.natAbs).length cap5) hLn0 (fun z e=>by cases e)
 have hV0:=(Wid.box (j:=0) (x:=.bool (decide (q<0))) hf4 hnu).box (j:=1) (x:=.slice ao5 (dig q.natAbs).length cap5) hLn0
 have hWx2:=(Wid.box (j:=0) (x:=.bool (decide (q<0))) hWx hnu).box (j:=1) (x:=.slice ao5 (dig q.natAbs).length cap5) hLn0
 obtain⟨U1,hU1⟩:∃U1,(w3.setCell ⟨w.heap.size+1,0,none⟩ (.bool (decide (q<0)))).setCell ⟨w.heap.size+1,1,none⟩ (.slice ao5 (dig q.natAbs).length cap5)=U1:=⟨_,rfl⟩
 have e0:U1.cell? ⟨w.heap.size+1,0,none⟩=some (.bool (decide (q<0))):=by rw[←hU1];simp[go_sem, ↓IntWalk.iteOmega,h3a]
 have e1:U1.cell? ⟨w.heap.size+1,1,none⟩=some (.slice ao5 (dig q.natAbs).length cap5):=by rw[←hU1];simp[go_sem, ↓IntWalk.iteOmega,h3b]
 have hL2:=BxO.set (BxO.set (j:=0) (v:=.bool (decide (q<0))) hL2 (fun z e=>by cases e)) (j:=1) (v:=.slice ao5 (dig q.natAbs).length cap5) (fun z e=>by cases e)
 have hs1:U1.heap.size=w3.heap.size:=by rw[←hU1];simp
 rw[hU1]at hLn hV0 hWx2 hH hL2 ⊢
 have b0':=(GB.cell (o:=0) hH hbl (by omega)).trans b0
 have b1':=(GB.cell (o:=1) hH hbl (by omega)).trans b1
 have hUU:GB (w.heap.size+1) w U1:=hGU.trans hH
 have hsU:w.heap.size+1+1≤U1.heap.size:=by have:=hH.size;omega
 clear hU1 hH hWx hLn0 h3a h3b h3f hnu hsl b0 b1 hGU
 go_wp2_with fail
 rw[rounds_succ]
 go_upto_region 5 with fail
 have hbl1:w.heap.size<U1.heap.size:=by omega
 have hL1:C2 U1 (w.heap.size+1) (.bool (decide (q<0))) (.slice ao5 (dig q.natAbs).length cap5):=⟨e0,e1,by omega⟩
 replace hL2:=hL2.ext ((Ext.refl U1).drew)
 replace hL1:=hL1.ext ((Ext.refl U1).drew)
 replace hWx2:=hWx2.ext ((Ext.refl U1).drew)
 replace hV0:=hV0.ext ((Ext.refl U1).drew)
 refine wp_region_held_drew (S:=(fun w0=>GB (w.heap.size+1) U1 w0)) c_3 ?_ (fun hH=> ?_)
 ·exact(GB.refl _ _).drew
 try simp only[sx_]
 refine sK 0 ?_
 refine sK 1 ?_
 refine tk 2 rfl c_36 ?_
 try simp only[sx_]
 refine sK 3 ?_
 refine sK 6 ?_
 refine sK 7 ?_
 refine rh1 4 rfl fun K hK=> ?_
 go_simp
 (go_at_call 134;(with_reducible refine(t_numZ r _ (by omega) (by omega)).mono ?_);rintro e w1 ⟨y1,rfl,hf1,hx⟩)
 replace hWx2:=hWx2.ext hx
 replace hL2:=hL2.ext hx
 replace hV0:=hV0.ext hx
 replace hL1:=hL1.ext hx
 refine hK.out _ _ ?_ fun _=> ?_
 ·exact b_12
 clear hK K hH
 rename_i hH
 try simp only[sx_]
 refine rh1 5 rfl fun K hK=> ?_
 go_simp
 (go_at_call 133;(with_reducible refine(t_addZ _ _ x r _ hWx2 hf1 (okN.sz hk0) hsz1 (okN.sz hk2)).mono ?_);rintro e w2 ⟨y2,rfl,hf2,hx⟩)
 replace hWx2:=hWx2.ext hx
 replace hL2:=hL2.ext hx
 replace hV0:=hV0.ext hx
 replace hL1:=hL1.ext hx
 replace hf1:=hf1.ext hx
 refine hK.out _ _ ?_ fun _=> ?_
 ·exact b_12
 clear hK K hH
 rename_i hH
 try simp only[sx_]
 refine rh1 8 rfl fun K hK=> ?_
 go_simp
 rw[hwk.out]
 (go_at_call 169;(with_reducible refine(hsh1 _ _ hf2).mono ?_);rintro e w3 ⟨y3,rfl,hf3,hx⟩)
 replace hWx2:=hWx2.ext hx
 replace hL2:=hL2.ext hx
 replace hV0:=hV0.ext hx
 replace hL1:=hL1.ext hx
 replace hf1:=hf1.ext hx
 replace hf2:=hf2.ext hx
 obtain⟨y9,rfl,hf9⟩:=hf3
 obtain⟨ao6,_,_,cap6,rfl, -⟩:=hf9.view
 have hf4:Wid w3 (.agg #[.bool (decide (q<0)),.slice ao6 (dig q.natAbs).length cap6]) q:=⟨_,rfl,hf9⟩
 clear hf9
 refine hK.out _ _ ?_ fun _=> ?_
 ·exact b_12
 clear hK K hH
 rename_i hH
 try simp only[sx_]
 refine sK 9 ?_
 refine rh1 10 rfl fun K hK=> ?_
 obtain⟨⟨xa,h3a⟩,⟨xb,h3b⟩,h3f,hnu,hsl⟩:=hL2
 go_simp
 refine hK.out _ _ ?_ fun _=> ?_
 ·exact b_13
 clear hK K hH
 rename_i hH
 try simp only[sx_]
 refine wpAnyH_done c_3 ?_ _
 have hLn0:=NoU.set (j:=2) (B':=w.heap.size+1) (x:=.bool (decide (q<0))) hnu (fun z e=>by cases e)
 have hV1:=(Wid.box (j:=2) (x:=.bool (decide (q<0))) hf4 hnu).box (j:=3) (x:=.slice ao6 (dig q.natAbs).length cap6) hLn0
 have hV2:=(Wid.box (j:=2) (x:=.bool (decide (q<0))) hV0 hnu).box (j:=3) (x:=.slice ao6 (dig q.natAbs).length cap6) hLn0
 obtain⟨X2,hX2⟩:∃X2,(w3.setCell ⟨w.heap.size+1,2,none⟩ (.bool (decide (q<0)))).setCell ⟨w.heap.size+1,3,none⟩ (.slice ao6 (dig q.natAbs).length cap6)=X2:=⟨_,rfl⟩
 have f0:X2.cell? ⟨w.heap.size+1,0,none⟩=some (.bool (decide (q<0))):=by rw[←hX2];simp[go_sem, ↓IntWalk.iteOmega,hL1.1]
 have f1:X2.cell? ⟨w.heap.size+1,1,none⟩=some (.slice ao5 (dig q.natAbs).length cap5):=by rw[←hX2];simp[go_sem, ↓IntWalk.iteOmega,hL1.2.1]
 have f2:X2.cell? ⟨w.heap.size+1,2,none⟩=some (.bool (decide (q<0))):=by rw[←hX2];simp[go_sem, ↓IntWalk.iteOmega,h3a]
 have f3:X2.cell? ⟨w.heap.size+1,3,none⟩=some (.slice ao6 (dig q.natAbs).length cap6):=by rw[←hX2];simp[go_sem, ↓IntWalk.iteOmega,h3b]
 rw[hX2]at hV1 hV2 hH ⊢
 have hE2:Ext w X2:=(hUU.trans hH).out (by omega)
 have hsX:w.heap.size+1+1≤X2.heap.size:=by have:=hH.size;omega
 have hcm:=z_Cmp _ _ q q X2 hV2 hV1 hszq hszq
 rw[cmp_eq rfl]at hcm
 have hin:=fun w1 (k1:Ext X2 w1)=>z_Int _ q w1 (hV2.ext k1) (by omega) (by omega)
 clear hX2 hH hWx2 hLn0 h3a h3b h3f hnu hsl hV1 hV2
 go_wp2_with fail
 rw[rounds_succ]
 go_wp2_with (first
  | (go_at_call 52;(with_reducible refine hcm.mono ?_);rintro e w7 ⟨rfl,hb7⟩;obtain⟨_,_,⟨hc7,hf7⟩,hz7⟩:=hb7.c3;(try simp only[wsz]at hz7 hc7 hf7))
  | (go_at_call 99;(with_reducible refine(hin _ ex_).mono ?_);rintro e w8 ⟨rfl,hb8⟩))
 go_ret2
 exact⟨rfl,ex_⟩
theorem t_ser1 (T Y Q K i t y k p:Nat) (w:World) (hT0:WAt w T (t:Int)) (hY:WAt w Y (y:Int)) (hQ:w.cell? ⟨Q,0,none⟩=some (O p)) (hKb:(BF.own [O k]).p K w) (hYT:Y≠T) (hQT:Q≠T) (hKT:K≠T)
    (hs1:Small t) (hs2:Small y) (hs3:Small (t*y)) (hk:k≤1000000) (hp0:0<p) (hp:p≤1000):
    K_ 184 #[O i,.pointer (some ⟨T,0,none⟩),.pointer (some ⟨Y,0,none⟩),.pointer (some ⟨Q,0,none⟩),.pointer (some ⟨K,0,none⟩)] w fun e w'=>∃u,e=.returned u∧Wid w' u (t:Int)∧WAt w' T ((t*y/2^p/((k+1)*(k+2)):Nat):Int)∧(BF.own [O ((k+2:Nat):Int)]).p K w'∧Fr2 T K w w'∧KpW T K w w':=by
 have hQl:Q<w.heap.size:=World.block_lt_of_cell? w _ hQ
 have hK0:=hKb.1 0 _ rfl
 have hKf:=hKb.2.1
 have hKl:=hKb.2.2.2
 have hTl:=hT0.lt
 have hsz:∀n:Nat,Small n→Sz (n:Int):=fun n h=>by unfold Sz;rw[Int.natAbs_natCast];exact h
 have hkk:(k+1)*(k+2)≤1000001*1000002:=Nat.mul_le_mul (by omega) (by omega)
 have hw3:IntKind.i64.wrap (((k:Int)+1)*((k:Int)+2))=((k:Int)+1)*((k:Int)+2):=by
  have e:((k:Int)+1)*((k:Int)+2)=(((k+1)*(k+2):Nat):Int):=by push_cast;rfl
  rw[e,IntKind.wrap_i64];omega
 have hmul:∀(w1:World) (u1 u2:Value),Wid w1 u1 (t:Int)→Wid w1 u2 (y:Int)→K_ 132 #[u1,u2] w1 fun e w'=>∃u,e=.returned u∧Wid w' u ((t*y:Nat):Int)∧Ext w1 w':=fun w1 u1 u2 a b=>by
  have:=t_mulZ u1 u2 _ _ w1 a b (hsz _ hs1) (hsz _ hs2) (by rw[←Int.natCast_mul];exact hsz _ hs3)
  rw[←Int.natCast_mul]at this
  exact this
 have hsh:∀(w1:World) (u1 u2:Value),Wid w1 u1 ((t*y:Nat):Int)→u2=O (-(p:Int))→K_ 169 #[u1,u2] w1 fun e w'=>∃u,e=.returned u∧Wid w' u ((t*y/2^p:Nat):Int)∧Ext w1 w':=fun w1 u1 u2 a b=>by
  subst b
  have:=t_shiftD u1 _ p w1 a (hsz _ hs3) hp0 (by omega)
  have e:((t*y:Nat):Int)/2^p=((t*y/2^p:Nat):Int):=by rw[Int.natCast_ediv,Int.natCast_pow];rfl
  rw[e]at this
  exact this
 have hnm:∀(w1:World) (u1:Value),u1=O (((k:Int)+1)*((k:Int)+2))→K_ 134 #[u1] w1 fun e w'=>∃u,e=.returned u∧Wid w' u (((k+1)*(k+2):Nat):Int)∧Ext w1 w':=fun w1 u1 a=>by
  subst a
  have e:((k:Int)+1)*((k:Int)+2)=(((k+1)*(k+2):Nat):Int):=by push_cast;rfl
  rw[e]
  exact t_numZ _ w1 (by omega) (by omega)
 have hdv:∀(w1:World) (u1 u2:Value),Wid w1 u1 ((t*y/2^p:Nat):Int)→Wid w1 u2 (((k+1)*(k+2):Nat):Int)→K_ 145 #[u1,u2] w1 fun e w'=>∃u,e=.returned u∧Wid w' u ((t*y/2^p/((k+1)*(k+2)):Nat):Int)∧Ext w1 w':=fun w1 u1 u2 a b=>by
  refine(t_div u1 u2 _ _ w1 a.nat b.nat (Small.le hs3 (Nat.div_le_self _ _)) (small_bits (k:=64) (by omega) (by decide)) (Nat.mul_pos (by omega) (by omega))).mono ?_
  rintro e w' ⟨u,rfl,hu,h⟩
  exact⟨u,rfl,hu.wid,h⟩
 have I0:KBp T w [(T,BF.wat (t:Int))] w:=⟨GB.refl T w,⟨hT0,trivial⟩,by simp,fun x hx=>by rw[List.mem_singleton.1 hx];exact .inr rfl⟩
 have I:=I0.new [.bool false,.slice none 0 0] 24 (by simp)
 simp only[List.nil_append,List.cons_append]at I
 clear I0
 go_enter Tryz.func184,Tryz.ntmps184
 go_upto_region 1 with fail
 refine rP [] [⟨1,some 2,.b2,(.wat (t:Int))⟩] [.wid ((t:Int))] [] I (fun hc=>⟨ob_getW T ((t:Int)) hc rfl fun vs gs w1 c=>c.b0 0,ob_allocW (n:=2) rfl hc rfl rfl rfl,ob_putW (n:=2) rfl 0 hc rfl 0,trivial⟩) fun g7 vs W=>tl ?_
 clear I
 intro I
 go_upto_region 2 with fail
 refine rP [[(13,.wat ((t*y/2^p/((k+1)*(k+2)):Nat):Int))]] [] [.wid ((t:Int)),.wid ((y:Int)),.wid (((t*y:Nat):Int)),.eq (O (p)),.eq (O (-(p:Int))),.wid (((t*y/2^p:Nat):Int)),.eq (O (k)),.eq (O ((k:Int)+1)),.eq (O (k)),.eq (O ((k:Int)+2)),.eq (O (((k:Int)+1)*((k:Int)+2))),.wid ((((k+1)*(k+2):Nat):Int)),.wid (((t*y/2^p/((k+1)*(k+2)):Nat):Int))] [] I (fun hc=>⟨ob_getW T ((t:Int)) hc rfl fun vs gs w1 c=>c.b0 0,ob_getW Y ((y:Int)) hc rfl fun vs gs w1 c=>hY.grown hT0.noU c.k hYT,ob_call (fun v=>[v 0,v 1]) hc rfl fun vs gs w1 c=>hmul _ _ _ (c.v 0) (c.v 1),ob_ld (x:=.tmp 3) (g:=Q) (f:=0) (u:=O (p)) none hc fun vs gs w1 c=>(c.k.cell hQl hQT).trans hQ,oT 12 3 hc (hs:=c_53),ob_call (fun v=>[v 2,v 4]) hc rfl fun vs gs w1 c=>hsh _ _ _ (c.v 2) (c.v 4),ob_ld (x:=.tmp 4) (g:=K) (f:=0) (u:=O (k)) none hc fun vs gs w1 c=>(c.k.cell hKl hKT).trans hK0,oTN 15 6 (.const (O 1)) (O 1) hc (hs:=c_1),ob_ld (x:=.tmp 4) (g:=K) (f:=0) (u:=O (k)) none hc fun vs gs w1 c=>(c.k.cell hKl hKT).trans hK0,oTN 17 8 (.const (O 2)) (O 2) hc (hs:=c_1),oTT 16 7 18 9 hc (hs:=(by intro ρ w1 h k;go_simp;first|done|exact hw3)),ob_call (fun v=>[v 10]) hc rfl fun vs gs w1 c=>hnm _ _ (c.v 10),ob_call (fun v=>[v 5,v 11]) hc rfl fun vs gs w1 c=>hdv _ _ _ (c.v 5) (c.v 11),ob_putW (n:=0) rfl 12 hc rfl 0,trivial⟩) fun vs W=>tl ?_
 clear I
 intro I
 have hTW:WAt W T _:=I.at 0
 obtain⟨sx,ux,x0,x1,x2,x3,x4,x5⟩:=(show WAt W g7 (t:Int)from I.at 2)
 obtain⟨sx',ao,nx,cx,e2, -⟩:=Wid.open x2
 obtain⟨rfl,rfl⟩:sx=sx'∧ux=.slice ao nx cx:=by injection e2 with e3;simpa using e3
 clear e2
 have r0:=I.own 1 0
 have r1:=I.own 1 1
 have rb:(BF.own [.bool false,.slice none 0 0]).p w.heap.size W:=I.at 1
 have rf:∀o,W.frozen? ⟨w.heap.size,o,none⟩=false:=rb.2.1
 have kn:=I.e.frozen (o:=0) hKl hKT
 have hKW:W.cell? ⟨K,0,none⟩=some (O k):=(I.e.cell hKl hKT).trans hK0
 have hKfW:∀o,W.frozen? ⟨K,o,none⟩=false:=fun o=>(I.e.frozen hKl hKT).trans (hKf o)
 have hKn:NoU W K:=hKb.2.2.1.grown I.e hKl hKT
 have hg7:w.heap.size≤g7:=by
  rcases I.ge _ (List.mem_cons_of_mem _ (List.mem_cons_of_mem _ (List.mem_cons_self ..)))with h|h
  ·exact h
  ·have:=I.nd;simp at this;omega
 have hg72:g7≠w.heap.size:=by have:=I.nd;simp at this;omega
 have hGB:=I.e
 have hlt:=rb.2.2.2
 clear I
 have hK2:IntKind.i64.wrap ((k:Int)+2)=(k:Int)+2:=by rw[IntKind.wrap_i64];omega
 have n0:=rb.2.2.1
 have n1:=NoU.set (j:=0) (B':=K) (x:=O ((k:Int)+2)) n0 (fun z e=>by cases e)
 have n2:=NoU.set (j:=0) (B':=w.heap.size) (x:=.bool sx) n1 (fun z e=>by cases e)
 have y1:=((Wid.box (B:=K) (j:=0) (x:=O ((k:Int)+2)) x2 hKn).box (B:=w.heap.size) (j:=0) (x:=.bool sx) n1).box (B:=w.heap.size) (j:=1) (x:=.slice ao nx cx) n2
 have y2:=((WAt.other (B:=K) (j:=0) (v:=O ((k:Int)+2)) hTW (Ne.symm hKT) hKn).other (B:=w.heap.size) (j:=0) (v:=.bool sx) (by omega) n1).other (B:=w.heap.size) (j:=1) (v:=.slice ao nx cx) (by omega) n2
 have y3:(BF.own [O ((k:Int)+2)]).p K (((W.setCell ⟨K,0,none⟩ (O ((k:Int)+2))).setCell ⟨w.heap.size,0,none⟩ (.bool sx)).setCell ⟨w.heap.size,1,none⟩ (.slice ao nx cx)):=by
  have z1:(BF.own [O k]).p K W:=(BF.own _).gb _ _ _ _ hKb hT0.noU hGB hKT
  have z2:=own_set z1 (k:=0) (v:=O ((k:Int)+2)) (by simp) (by simp)
  exact(BF.own _).gb _ _ _ _ z2 n1 (((GB.refl _ _).set _).set _) (by omega)
 have y4:Fr2 T K w (((W.setCell ⟨K,0,none⟩ (O ((k:Int)+2))).setCell ⟨w.heap.size,0,none⟩ (.bool sx)).setCell ⟨w.heap.size,1,none⟩ (.slice ao nx cx)):=(((Fr2.gbT hGB).trans (Fr2.gbK ((GB.refl K W).set _))).new (Nat.le_refl _) _).new (Nat.le_refl _) _
 have y5:KpW T K w (((W.setCell ⟨K,0,none⟩ (O ((k:Int)+2))).setCell ⟨w.heap.size,0,none⟩ (.bool sx)).setCell ⟨w.heap.size,1,none⟩ (.slice ao nx cx)):=fun g z h1 h2 hg=>by
  have:=hg.lt
  exact(((hg.grown hT0.noU hGB h1).other h2 hKn).other (by omega) n1).other (by omega) n2
 have c1:((k+2:Nat):Int)=(k:Int)+2:=by push_cast;rfl
 clear hTW x2 hGB hKb hT0 hY hmul hsh hnm hdv n0 n1 n2 hKn
 go_wp2_with fail
 refine bodyPost_ret (v:=.agg #[.bool sx,.slice ao nx cx]) ?_ rfl ⟨_,rfl,y1,y2,(by first|exact y3| (rw[c1];exact y3)),y4,y5⟩
 simp[results,Tryz.results184,go_sem, ↓IntWalk.iteOmega, *]
end Go.Proofs.YtaoioncjmfcolaaGreat
