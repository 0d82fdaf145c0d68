/- kepler: passes, search. -/
import Derived.Test.YtaoioncjmfcolaaGreatV27
set_option linter.unusedSimpArgs false
set_option linter.unusedVariables false
set_option maxRecDepth 100000
set_option maxHeartbeats 4000000
namespace Go.Proofs.YtaoioncjmfcolaaGreat
open Go.RowKit
theorem T_KB4_1 {p:Prop} (h:p:=by
 unfold cmpI;by_cases h:a<b
 ·rw[if_pos h];simp;omega
 ·rw[if_neg h];by_cases h2:b<a
  ·rw[if_pos h2];simp;omega
  ·rw[if_neg h2];simp;omega):p:=h
def passF (k m nu de:Int):Option Bool:=if k=0 then some (decide (0≤m))else(ksinF k 110).bind fun R=>
 if okN R.1=true∧ -9000000000000000000≤R.2∧R.2≤9000000000000000000∧okN (de*(k-m))=true∧okN (de*(k-m)*2^70)=true∧okN (nu*R.1)=true∧okN (nu*R.2)=true∧okN (de*(k-m)*2^70-nu*R.1)=true∧okN (de*(k-m)*2^70-nu*R.1+nu*R.2)=true then
  (if nu*R.2<de*(k-m)*2^70-nu*R.1 then some false else if de*(k-m)*2^70-nu*R.1+nu*R.2<0 then some true else none)else none
theorem cmpI_gt (a b:Int):decide (0<cmpI a b)=decide (b<a):=by
 exact T_KB4_1
theorem cmpI_lt (a b:Int):decide (cmpI a b<0)=decide (a<b):=by
 exact T_KB4_1
theorem k_passes (vf:Value) (k m nu de:Int) (bo:Bool) (w:World) (hf:PairV w vf nu de) (on:okN nu=true) (od:okN de=true) (h0: -4000000000000000000≤k∧k≤4000000000000000000) (h1: -4000000000000000000≤m∧m≤4000000000000000000) (hF:passF k m nu de=some bo):
    K_ 55 #[O k,O m,vf] w fun e w'=>e=.returned (.bool bo)∧Ext w w':=by
 obtain⟨sa,aoa,na,capa,sb,aob,nb,capb,rfl,hA,hB⟩:=hf.open
 have I0:KBd w [] w:=⟨Ext.refl w,trivial,by simp,by simp⟩
 have I:=I0.push ((Ext.refl w).alloc (.cells #[.bool sa,.slice aoa na capa,.bool sb,.slice aob nb capb] 26)) (BF.pat nu de) (PatP.new hA hB)
 simp only[World.size_alloc,List.nil_append,List.cons_append]at I
 clear I0 hA hB hf
 unfold passF at hF
 by_cases hk:k=0
 ·subst hk
  rw[if_pos rfl]at hF
  obtain rfl:=Option.some.inj hF
  have hE:=I.e
  clear I hF
  go_enter Tryz.func55,Tryz.ntmps55
  go_wp2_with fail
  go_ret
  exact⟨rfl,hE⟩
 rw[if_neg hk]at hF
 rw[Option.bind_eq_some_iff]at hF
 obtain⟨R,hR,hF⟩:=hF
 split at hF
 case isFalse=>cases hF
 rename_i k0
 obtain⟨o1,o2,o3,o4,o5,o6,o7,o8,o9⟩:=k0
 obtain⟨l0,hl0⟩:∃x,de*(k-m)=x:=⟨_,rfl⟩
 rw[hl0]at o4 o5 o8 o9 hF
 obtain⟨l1,hl1⟩:∃x,l0*2^70=x:=⟨_,rfl⟩
 rw[hl1]at o5 o8 o9 hF
 obtain⟨rt,hrt⟩:∃x,nu*R.1=x:=⟨_,rfl⟩
 rw[hrt]at o6 o8 o9 hF
 obtain⟨mo,hmo⟩:∃x,nu*R.2=x:=⟨_,rfl⟩
 rw[hmo]at o7 o9 hF
 obtain⟨d,hd⟩:∃x,l1-rt=x:=⟨_,rfl⟩
 rw[hd]at o8 o9 hF
 obtain⟨d2,hd2⟩:∃x,d+mo=x:=⟨_,rfl⟩
 rw[hd2]at o9 hF
 obtain⟨c1,hc1⟩:∃x,cmpI d mo=x:=⟨_,rfl⟩
 obtain⟨c2,hc2⟩:∃x,cmpI d2 0=x:=⟨_,rfl⟩
 have g1:=cmpI_gt d mo
 rw[hc1]at g1
 have g2:=cmpI_lt d2 0
 rw[hc2]at g2
 have skm:Sz (k-m):=dig_bits (k:=64) (L:=4096) (by omega) (by decide)
 have sR2:Sz R.2:=dig_bits (k:=64) (L:=4096) (by omega) (by decide)
 have hsi:∀(w1:World) (u1 u2:Value),u1=O k→u2=O 110→K_ 108 #[u1,u2] w1 fun e w'=>∃u,e=.returned u∧((VF.wid R.1).err R.2).p u w'∧Ext w1 w':=fun w1 u1 u2 a b=>by subst a b;exact calls_err (k_sine k 110 R w1 (by omega) (by omega) hR)
 have hfk:∀(w1:World) (u1:Value),u1=O (k-m)→K_ 34 #[u1] w1 fun e w'=>∃u,e=.returned u∧Wid w' u (k-m)∧Ext w1 w':=fun w1 u1 a=>by subst a;exact z_From _ w1 (by omega) (by omega)
 have hfo:∀(w1:World) (u1:Value),u1=O (R.2)→K_ 34 #[u1] w1 fun e w'=>∃u,e=.returned u∧Wid w' u R.2∧Ext w1 w':=fun w1 u1 a=>by subst a;exact z_From _ w1 (by omega) (by omega)
 have hm0:∀(w1:World) (u1 u2:Value),Wid w1 u1 (de)→Wid w1 u2 (k-m)→K_ 79 #[u1,u2] w1 fun e w'=>∃u,e=.returned u∧((VF.wid (l0)).err 0).p u w'∧Ext w1 w':=fun w1 u1 u2 a b=>by have:=z_Mul u1 u2 _ _ w1 a b (okN.sz od) skm (by rw[hl0];exact okN.sz o4);rw[hl0]at this;exact calls_err this
 have hsh:∀(w1:World) (u1 u2:Value),Wid w1 u1 l0→u2=O 70→K_ 109 #[u1,u2] w1 fun e w'=>∃u,e=.returned u∧((VF.wid (l1)).err 0).p u w'∧Ext w1 w':=fun w1 u1 u2 a b=>by
  subst b
  have:=z_shiftU u1 l0 70 w1 a (okN.sz o4) (by decide) (by rw[hl1];exact okN.sz o5)
  rw[hl1]at this
  exact calls_err this
 have hm1:∀(w1:World) (u1 u2:Value),Wid w1 u1 (nu)→Wid w1 u2 (R.1)→K_ 79 #[u1,u2] w1 fun e w'=>∃u,e=.returned u∧((VF.wid (rt)).err 0).p u w'∧Ext w1 w':=fun w1 u1 u2 a b=>by have:=z_Mul u1 u2 _ _ w1 a b (okN.sz on) (okN.sz o1) (by rw[hrt];exact okN.sz o6);rw[hrt]at this;exact calls_err this
 have hm2:∀(w1:World) (u1 u2:Value),Wid w1 u1 (nu)→Wid w1 u2 (R.2)→K_ 79 #[u1,u2] w1 fun e w'=>∃u,e=.returned u∧((VF.wid (mo)).err 0).p u w'∧Ext w1 w':=fun w1 u1 u2 a b=>by have:=z_Mul u1 u2 _ _ w1 a b (okN.sz on) sR2 (by rw[hmo];exact okN.sz o7);rw[hmo]at this;exact calls_err this
 have hsb:∀(w1:World) (u1 u2:Value),Wid w1 u1 (l1)→Wid w1 u2 (rt)→K_ 100 #[u1,u2] w1 fun e w'=>∃u,e=.returned u∧((VF.wid (d)).err 0).p u w'∧Ext w1 w':=fun w1 u1 u2 a b=>by have:=z_Sub u1 u2 _ _ w1 a b (okN.sz o5) (okN.sz o6) (by rw[hd];exact okN.sz o8);rw[hd]at this;exact calls_err this
 have hcm:∀(w1:World) (u1 u2:Value),Wid w1 u1 (d)→Wid w1 u2 (mo)→K_ 52 #[u1,u2] w1 fun e w'=>∃u,e=.returned u∧u=.tuple #[O c1,O 0]∧Ext w1 w':=fun w1 u1 u2 a b=>by have:=z_Cmp u1 u2 _ _ w1 a b (okN.sz o8) (okN.sz o7);rw[hc1]at this;exact calls_eq this
 have had:∀(w1:World) (u1 u2:Value),Wid w1 u1 (d)→Wid w1 u2 (mo)→K_ 35 #[u1,u2] w1 fun e w'=>∃u,e=.returned u∧((VF.wid (d2)).err 0).p u w'∧Ext w1 w':=fun w1 u1 u2 a b=>by have:=z_Add u1 u2 _ _ w1 a b (okN.sz o8) (okN.sz o7) (by rw[hd2];exact okN.sz o9);rw[hd2]at this;exact calls_err this
 have hsg:∀(w1:World) (u1:Value),Wid w1 u1 d2→K_ 110 #[u1] w1 fun e w'=>∃u,e=.returned u∧u=.tuple #[O c2,O 0]∧Ext w1 w':=fun w1 u1 a=>by have:=z_Sign u1 d2 w1 a (okN.sz o9);rw[hc2]at this;exact calls_eq this
 clear hl0 hl1 hrt hmo hd hd2 hc1 hc2 skm sR2 hR o1 o2 o3 o4 o5 o6 o7 o8 o9 on od
 go_enter Tryz.func55,Tryz.ntmps55
 go_wp2_with fail
 refine wp_loop_rounds 1 ?_
 rw[rounds_succ]
 go_upto_region 5 with fail
 refine rB [] [⟨6,some 7,.b2,(.wat R.1)⟩] [.eq (O (k)),.eq (O (110)),(VF.wid R.1).err R.2,(VF.wid R.1).err R.2,.wid (R.1),.eq (O (R.2)),.any,.any,.eq (O (R.2))] [8] I (fun hc=>⟨ob_mv hc (.inl rfl),ob_mv hc (.inl rfl),ob_call (fun v=>[v 0,v 1]) hc rfl fun vs gs w1 c=>hsi _ _ _ (c.v 0) (c.v 1),ob_cp 2 hc (.inl rfl),ob_ext0 3 hc rfl,ob_ext1 3 hc rfl,ob_allocW (n:=1) rfl hc rfl rfl rfl,ob_putW (n:=1) rfl 4 hc rfl 0,ob_cp 5 hc (.inr rfl),trivial⟩) fun g8 vs W=>tl ?_
 clear I
 intro I
 go_upto_region 6 with fail
 refine rB [] [⟨10,some 11,.b2,(.wat l0)⟩] [.eq (.pointer (some ⟨w.heap.size,2,none⟩)),.wid (de),.eq (O (k)),.eq (O (m)),.eq (O (k-m)),.wid (k-m),(VF.wid (l0)).err 0,(VF.wid (l0)).err 0,.wid (l0),.eq (O (0)),.any,.any,.eq (O (0))] [] I (fun hc=>⟨oN (.tmp 5) (.pointer (some ⟨w.heap.size,0,none⟩)) hc,ob_getP2 w.heap.size nu de (some 0) hc rfl fun vs gs w1 c=>c.b0 0,ob_mv hc (.inl rfl),ob_mv hc (.inl rfl),oTT 37 2 38 3 hc (hs:=c_1),ob_call (fun v=>[v 4]) hc rfl fun vs gs w1 c=>hfk _ _ (c.v 4),ob_call (fun v=>[v 1,v 5]) hc rfl fun vs gs w1 c=>hm0 _ _ _ (c.v 1) (c.v 5),ob_cp 6 hc (.inl rfl),ob_ext0 7 hc rfl,ob_ext1 7 hc rfl,ob_allocW (n:=2) rfl hc rfl rfl rfl,ob_putW (n:=2) rfl 8 hc rfl 0,ob_cp 9 hc (.inr rfl),trivial⟩) fun g10 vs W=>tl ?_
 clear I
 intro I
 go_upto_region 7 with fail
 refine rB [[],[],[(7,.wat l1)]] [] [.wid (l0),.eq (O (110)),.eq (O (70)),(VF.wid (l1)).err 0,(VF.wid (l1)).err 0,.wid (l1),.eq (O (0))] [] I (fun hc=>⟨ob_getW g10 (l0) hc rfl fun vs gs w1 c=>c.b0 2,ob_mv hc (.inl rfl),oTN 46 1 (.const (O 40)) (O 40) hc (hs:=c_51),ob_call (fun v=>[v 0,v 2]) hc rfl fun vs gs w1 c=>hsh _ _ _ (c.v 0) (c.v 2),ob_cp 3 hc (.inl rfl),ob_ext0 4 hc rfl,ob_ext1 4 hc rfl,ob_putW (n:=2) rfl 5 hc rfl 0,trivial⟩) fun vs W=>tl ?_
 clear I
 intro I
 go_upto_region 8 with fail
 refine rB [] [⟨7,some 8,.b2,(.wat rt)⟩] [.eq (.pointer (some ⟨w.heap.size,0,none⟩)),.wid (nu),.wid (R.1),(VF.wid (rt)).err 0,(VF.wid (rt)).err 0,.wid (rt),.eq (O (0)),.any,.any,.eq (O (0))] [] I (fun hc=>⟨oN (.tmp 5) (.pointer (some ⟨w.heap.size,0,none⟩)) hc,ob_getP0 w.heap.size nu de (some 0) hc rfl fun vs gs w1 c=>c.b0 0,ob_getW g8 (R.1) hc rfl fun vs gs w1 c=>c.b0 1,ob_call (fun v=>[v 1,v 2]) hc rfl fun vs gs w1 c=>hm1 _ _ _ (c.v 1) (c.v 2),ob_cp 3 hc (.inl rfl),ob_ext0 4 hc rfl,ob_ext1 4 hc rfl,ob_allocW (n:=3) rfl hc rfl rfl rfl,ob_putW (n:=3) rfl 5 hc rfl 0,ob_cp 6 hc (.inr rfl),trivial⟩) fun g12 vs W=>tl ?_
 clear I
 intro I
 go_upto_region 9 with fail
 refine rB [] [⟨8,some 9,.b2,(.wat mo)⟩] [.eq (.pointer (some ⟨w.heap.size,0,none⟩)),.wid (nu),.eq (O (R.2)),.wid (R.2),(VF.wid (mo)).err 0,(VF.wid (mo)).err 0,.wid (mo),.eq (O (0)),.any,.any,.eq (O (0))] [] I (fun hc=>⟨oN (.tmp 5) (.pointer (some ⟨w.heap.size,0,none⟩)) hc,ob_getP0 w.heap.size nu de (some 0) hc rfl fun vs gs w1 c=>c.b0 0,ob_mv hc (.inl rfl),ob_call (fun v=>[v 2]) hc rfl fun vs gs w1 c=>hfo _ _ (c.v 2),ob_call (fun v=>[v 1,v 3]) hc rfl fun vs gs w1 c=>hm2 _ _ _ (c.v 1) (c.v 3),ob_cp 4 hc (.inl rfl),ob_ext0 5 hc rfl,ob_ext1 5 hc rfl,ob_allocW (n:=4) rfl hc rfl rfl rfl,ob_putW (n:=4) rfl 6 hc rfl 0,ob_cp 7 hc (.inr rfl),trivial⟩) fun g14 vs W=>tl ?_
 clear I
 intro I
 go_upto_region 10 with fail
 refine rB [] [⟨6,some 7,.b2,(.wat d)⟩] [.wid (l1),.wid (rt),(VF.wid (d)).err 0,(VF.wid (d)).err 0,.wid (d),.eq (O (0)),.any,.any,.eq (O (0))] [] I (fun hc=>⟨ob_getW g10 (l1) hc rfl fun vs gs w1 c=>c.b0 2,ob_getW g12 (rt) hc rfl fun vs gs w1 c=>c.b0 3,ob_call (fun v=>[v 0,v 1]) hc rfl fun vs gs w1 c=>hsb _ _ _ (c.v 0) (c.v 1),ob_cp 2 hc (.inl rfl),ob_ext0 3 hc rfl,ob_ext1 3 hc rfl,ob_allocW (n:=5) rfl hc rfl rfl rfl,ob_putW (n:=5) rfl 4 hc rfl 0,ob_cp 5 hc (.inr rfl),trivial⟩) fun g16 vs W=>tl ?_
 clear I
 intro I
 go_upto_region 11 with fail
 refine rB [] [] [.wid (d),.wid (mo),.eq (.tuple #[O c1,O 0]),.eq (.tuple #[O c1,O 0]),.eq (O (c1)),.eq (O (0)),.eq (O (c1)),.eq (O (0))] [6] I (fun hc=>⟨ob_getW g16 (d) hc rfl fun vs gs w1 c=>c.b0 5,ob_getW g14 (mo) hc rfl fun vs gs w1 c=>c.b0 4,ob_call (fun v=>[v 0,v 1]) hc rfl fun vs gs w1 c=>hcm _ _ _ (c.v 0) (c.v 1),ob_cp 2 hc (.inl rfl),oT 72 3 hc,oT 72 3 hc,ob_cp 4 hc (.inr rfl),ob_cp 5 hc (.inr rfl),trivial⟩) fun vs W=>tl ?_
 clear I
 intro I
 clear hsi hfk hfo hm0 hsh hm1 hm2 hsb hcm
 by_cases hlt:mo<d
 ·rw[if_pos hlt]at hF
  obtain rfl:=Option.some.inj hF
  rw[decide_eq_true hlt]at g1
  have hE:=I.e
  clear I had hsg g2
  go_wp2_with fail
  go_ret
  exact⟨rfl,hE⟩
 ·rw[if_neg hlt]at hF
  rw[decide_eq_false hlt]at g1
  split at hF
  case isFalse=>cases hF
  rename_i hlt2
  obtain rfl:=Option.some.inj hF
  rw[decide_eq_true hlt2]at g2
  go_upto_region 14 with fail
  go_upto_region 14 with fail
  refine rB [[],[],[],[],[],[(6,.wat d2)]] [] [.wid (d),.wid (mo),(VF.wid (d2)).err 0,(VF.wid (d2)).err 0,.wid (d2),.eq (O (0))] [] I (fun hc=>⟨ob_getW g16 (d) hc rfl fun vs gs w1 c=>c.b0 5,ob_getW g14 (mo) hc rfl fun vs gs w1 c=>c.b0 4,ob_call (fun v=>[v 0,v 1]) hc rfl fun vs gs w1 c=>had _ _ _ (c.v 0) (c.v 1),ob_cp 2 hc (.inl rfl),ob_ext0 3 hc rfl,ob_ext1 3 hc rfl,ob_putW (n:=5) rfl 4 hc rfl 0,trivial⟩) fun vs W=>tl ?_
  clear I
  intro I
  go_upto_region 15 with fail
  refine rB [] [] [.wid (d2),.eq (.tuple #[O c2,O 0]),.eq (.tuple #[O c2,O 0]),.eq (O (c2)),.eq (O (0)),.eq (O (c2)),.eq (O (0))] [5] I (fun hc=>⟨ob_getW g16 (d2) hc rfl fun vs gs w1 c=>c.b0 5,ob_call (fun v=>[v 0]) hc rfl fun vs gs w1 c=>hsg _ _ (c.v 0),ob_cp 1 hc (.inl rfl),oT 86 2 hc,oT 86 2 hc,ob_cp 3 hc (.inr rfl),ob_cp 4 hc (.inr rfl),trivial⟩) fun vs W=>tl ?_
  clear I
  intro I
  have hE:=I.e
  clear I had hsg g1
  go_wp2_with fail
  go_ret
  exact⟨rfl,hE⟩
def searchF (T:Int→Option Bool):Nat→Int→Int→Option (Int×Int)
 |0,_,_=>none
 |F+1,lo,hi=>if 1<hi-lo then(T (lo+(hi-lo)/2)).bind fun b=>if b=true then searchF T F (lo+(hi-lo)/2) hi else searchF T F lo (lo+(hi-lo)/2)else some (lo,hi)
theorem searchF_succ {T:Int→Option Bool} {F:Nat} {lo hi:Int} {R:Int×Int} (h:searchF T F lo hi=some R):∃G,F=G+1∧((¬1<hi-lo∧R=(lo,hi))∨(1<hi-lo∧∃b,T (lo+(hi-lo)/2)=some b∧((b=true∧searchF T G (lo+(hi-lo)/2) hi=some R)∨(b=false∧searchF T G lo (lo+(hi-lo)/2)=some R)))):=by
 cases F with
 |zero=>cases h
 |succ G=>
  refine⟨G,rfl, ?_⟩
  rw[searchF]at h
  split at h
  ·rename_i h1
   rw[Option.bind_eq_some_iff]at h
   obtain⟨b,hb,h⟩:=h
   refine .inr ⟨h1,b,hb, ?_⟩
   cases b
   ·exact .inr ⟨rfl,by simpa using h⟩
   ·exact .inl ⟨rfl,by simpa using h⟩
  ·rename_i h1;exact .inl ⟨h1,(Option.some.inj h).symm⟩
theorem k_search (T:Int→Option Bool) (F g:Nat) (caps:List Value) (lo0 hi0:Int) (R:Int×Int) (w:World) (hpg:plainFn Tryz.prog g=true) (h0: -1000000000000000000≤lo0) (h1:hi0≤1000000000000000000) (h2:lo0≤hi0) (hF:searchF T F lo0 hi0=some R)
    (hcl0:∀(w1:World) (m:Int) (b:Bool),Ext w w1→lo0≤m→m≤hi0→T m=some b→K_ g ([Value.int .i64 m]++caps).toArray w1 fun e w'=>e=.returned (.bool b)∧Ext w1 w'):
    K_ 53 #[O lo0,O hi0,.func (.func g) #[] caps.toArray] w fun e w'=>e=.returned (.tuple #[O R.1,O R.2])∧Ext w w':=by
 have I:KBd w [] w:=⟨Ext.refl w,trivial,by simp,by simp⟩
 replace hF:=Lib.hid hF
 go_enter Tryz.func53,Tryz.ntmps53
 go_wp2_with fail
 go_loopw [0,1] (fun a b wr=>∃(lo hi:Int) (G:Nat),a=O lo∧b=O hi∧lo0≤lo∧lo≤hi∧hi≤hi0∧Hid (searchF T G lo hi=some R)∧Hid (KBd w [] wr)) (fun a b _=>(intOf b-intOf a).toNat)
 case atStart=>exact⟨lo0,hi0,F,rfl,rfl,by omega,h2,by omega,hF,Lib.hid I⟩
 case round=>
  obtain⟨lo,hi,G,rfl,rfl,k0,k1,k2,HF,HI⟩:=hrel
  clear I hF
  have I:=HI.out
  clear HI
  obtain⟨G,rfl,hcs⟩:=searchF_succ HF.out
  clear HF
  obtain⟨gt,hgt⟩:∃x,decide (1<hi-lo)=x:=⟨_,rfl⟩
  go_upto_region 1 with fail
  refine rB [] [] [.eq (O (hi)),.eq (O (lo)),.eq (O (hi-lo)),.eq (.bool gt)] [3] I (fun hc=>⟨ob_mv hc (.inl rfl),ob_mv hc (.inl rfl),oTT 9 0 10 1 hc (hs:=c_1),oTN 11 2 (.const (O 1)) (O 1) hc (hs:=(by intro ρ w1 h k;go_simp;first|done|exact hgt)),trivial⟩) fun vs W=>tl ?_
  clear I
  intro I
  rcases hcs with⟨hng,rfl⟩| ⟨hg,b,hb,hcs⟩
  ·rw[decide_eq_false hng]at hgt
   subst hgt
   have hE:=I.e
   clear I hcl0
   go_wp2_with fail
   refine bodyPost_ret (v:=.tuple #[O lo,O hi]) ?_ rfl ⟨rfl,hE⟩
   simp[results,Tryz.results53,go_sem, ↓IntWalk.iteOmega]
  ·rw[decide_eq_true hg]at hgt
   subst hgt
   obtain⟨hf,hhf⟩:∃x,(hi-lo).tdiv 2=x:=⟨_,rfl⟩
   have hhe:hf=(hi-lo)/2:=by rw[←hhf];exact Int.tdiv_eq_ediv_of_nonneg (by omega)
   obtain⟨mid,hmd0⟩:∃x,lo+(hi-lo)/2=x:=⟨_,rfl⟩
   rw[hmd0]at hb hcs
   have hmd:IntKind.i64.wrap (lo+hf)=mid:=by rw[IntKind.wrap_i64];omega
   have hmb:lo<mid∧mid<hi:=by omega
   have hcl:∀(w1:World) (u1:Value),Ext w w1→u1=O mid→K_ g ([u1]++caps).toArray w1 fun e w'=>∃u,e=.returned u∧u=.bool b∧Ext w1 w':=fun w1 u1 k a=>by subst a;exact calls_eq (hcl0 w1 mid b k (by omega) (by omega) hb)
   go_upto_region 2 with fail
   go_upto_region 2 with fail
   refine rB [] [] [.eq (O (lo)),.eq (O (hi)),.eq (O (lo)),.eq (O (hi-lo)),.eq (O (hf)),.eq (O (mid)),.eq (O (mid))] [6] I (fun hc=>⟨ob_mv hc (.inl rfl),ob_mv hc (.inl rfl),ob_mv hc (.inl rfl),oTT 14 1 15 2 hc (hs:=c_1),oTN 16 3 (.const (O 2)) (O 2) hc (hs:=(by intro ρ w1 h k;go_simp;first|done| (rw[IntKind.wrap_i64];omega))),oTT 13 0 17 4 hc (hs:=(by intro ρ w1 h k;go_simp;first|done| (rw[IntKind.wrap_i64];omega))),ob_cp 5 hc (.inr rfl),trivial⟩) fun vs W=>tl ?_
   clear I
   intro I
   clear hhf hhe hmd hmd0 hb
   go_upto_region 3 with fail
   refine rB [] [] [.eq (.func (.func g) #[] caps.toArray),.eq (O (mid)),.eq (.bool b)] [2] I (fun hc=>⟨ob_mv hc (.inl rfl),ob_mv hc (.inl rfl),ob_callF (f:=g) (caps:=caps) 0 (fun v=>[v 1]) hc rfl (h:=fun vs gs w1 c=>hcl _ _ c.k.1 (c.v 1)) (hp:=hpg),trivial⟩) fun vs W=>tl ?_
   clear I
   intro I
   clear hcl
   rcases hcs with⟨rfl,hcs⟩| ⟨rfl,hcs⟩
   ·replace hcs:=Lib.hid hcs
    go_wp2_with fail
    go_roundw
    case rel=>exact⟨mid,hi,G,rfl,rfl,by omega,by omega,by omega,hcs,Lib.hid I⟩
    case measure=>simp[intOf];omega
   ·replace hcs:=Lib.hid hcs
    go_wp2_with fail
    go_roundw
    case rel=>exact⟨lo,mid,G,rfl,rfl,by omega,by omega,by omega,hcs,Lib.hid I⟩
    case measure=>simp[intOf];omega
theorem k_passC (Pa Pf:Nat) (k m nu de:Int) (bo:Bool) (w:World) (hP:w.cell? ⟨Pa,0,none⟩=some (O m)) (hF:PatP w Pf nu de) (on:okN nu=true) (od:okN de=true) (h0: -4000000000000000000≤k∧k≤4000000000000000000) (h1: -4000000000000000000≤m∧m≤4000000000000000000) (hT:passF k m nu de=some bo):
    K_ 54 #[O k,.pointer (some ⟨Pa,0,none⟩),.pointer (some ⟨Pf,0,none⟩)] w fun e w'=>e=.returned (.bool bo)∧Ext w w':=by
 have hPl:=World.block_lt_of_cell? w _ hP
 have I:KBd w [] w:=⟨Ext.refl w,trivial,by simp,by simp⟩
 have hps:∀(w1:World) (u1 u2 u3:Value),u1=O k→u2=O m→PairV w1 u3 nu de→K_ 55 #[u1,u2,u3] w1 fun e w'=>∃u,e=.returned u∧u=.bool bo∧Ext w1 w':=fun w1 u1 u2 u3 a b c=>by subst a b;exact calls_eq (k_passes u3 k m nu de bo w1 c on od h0 h1 hT)
 clear hT on od
 go_enter Tryz.func54,Tryz.ntmps54
 go_upto_region 1 with fail
 refine rB [] [] [.eq (O (k)),.eq (O (m)),.pair (nu) (de),.eq (.bool bo),.eq (.bool bo)] [4] I (fun hc=>⟨ob_mv hc (.inl rfl),ob_ld (x:=.tmp 1) (g:=Pa) (f:=0) (u:=O (m)) none hc fun vs gs w1 c=>(c.k.1.cells.1 Pa 0 hPl).trans hP,ob_getPP Pf (nu) (de) hc rfl fun vs gs w1 c=>hF.ext c.k.1,ob_call (fun v=>[v 0,v 1,v 2]) hc rfl fun vs gs w1 c=>hps _ _ _ _ (c.v 0) (c.v 1) (c.v 2),ob_cp 3 hc (.inr rfl),trivial⟩) fun vs W=>tl ?_
 clear I
 intro I
 have hE:=I.e
 clear I hps
 go_wp2_with fail
 go_ret
 exact⟨rfl,hE⟩
def dtM0 (E:Int) (a b:V3):R3:=doI E (mulI a.a a.b b.a b.b)
def dtM1 (E:Int) (a b:V3):R3:=doI (dtM0 E a b).e (mulI a.c a.d b.c b.d)
def dtS1 (E:Int) (a b:V3):R3:=doI (dtM1 E a b).e (addI (dtM0 E a b).lo (dtM0 E a b).hi (dtM1 E a b).lo (dtM1 E a b).hi)
def dtM2 (E:Int) (a b:V3):R3:=doI (dtS1 E a b).e (mulI a.e a.f b.e b.f)
def dotS (E:Int) (a b:V3):R3:=doI (dtM2 E a b).e (addI (dtS1 E a b).lo (dtS1 E a b).hi (dtM2 E a b).lo (dtM2 E a b).hi)
theorem b_dot {p:Nat} {E:Int} {a b:V3} {w:World} {u0 u1 u2:Value} (h0:u0=.pointer (some ⟨p,0,none⟩)) (h1:u1=.agg #[O a.a,O a.b,O a.c,O a.d,O a.e,O a.f]) (h2:u2=.agg #[O b.a,O b.b,O b.c,O b.d,O b.e,O b.f]) (hb:(SH E).p p w) (ia:a.I) (ib:b.I):
    K_ 31 #[u0,u1,u2] w fun e w'=>∃t,e=.returned t∧t=.agg #[O (dotS E a b).lo,O (dotS E a b).hi]∧GB p w w'∧(SH (dotS E a b).e).p p w':=by
 subst h0 h1 h2
 obtain⟨iA0,iA1,iA2⟩:=ia
 obtain⟨iB0,iB1,iB2⟩:=ib
 obtain⟨m0,hm0⟩:∃x,dtM0 E a b=x:=⟨_,rfl⟩
 obtain⟨m1,hm1⟩:∃x,dtM1 E a b=x:=⟨_,rfl⟩
 obtain⟨s1,hs1⟩:∃x,dtS1 E a b=x:=⟨_,rfl⟩
 obtain⟨m2,hm2⟩:∃x,dtM2 E a b=x:=⟨_,rfl⟩
 obtain⟨s2,hs2⟩:∃x,dotS E a b=x:=⟨_,rfl⟩
 rw[hs2]
 unfold dotS at hs2
 rw[hm2,hs1]at hs2
 unfold dtM2 at hm2
 rw[hs1]at hm2
 unfold dtS1 at hs1
 rw[hm1,hm0]at hs1
 unfold dtM1 at hm1
 rw[hm0]at hm1
 unfold dtM0 at hm0
 have I:=((((KBp.one hb).new [O a.a,O a.b,O a.c,O a.d,O a.e,O a.f] 32 (by simp)).new [O b.a,O b.b,O b.c,O b.d,O b.e,O b.f] 32 (by simp)).new [O 0,O 0] 30 (by simp))
 simp only[World.size_alloc,List.nil_append,List.cons_append]at I
 clear hb
 go_enter Tryz.func31,Tryz.ntmps31
 go_upto_region 1 with fail
 refine rP [[(9,SH m0.e)]] [⟨10,some 11,.own [O 0,O 0],(.own [O m0.lo,O m0.hi])⟩] [.eq (.pointer (some ⟨p,0,none⟩)),.eq (.pointer (some ⟨p,0,none⟩)),.eq (.pointer (some ⟨p,0,none⟩)),.eq (.pointer (some ⟨p,2,none⟩)),.eq (.func (.func 48) #[] #[]),.eq (.pointer (some ⟨w.heap.size,0,none⟩)),.eq (.agg #[O a.a,O a.b]),.eq (.pointer (some ⟨(w.heap.size+1),0,none⟩)),.eq (.agg #[O b.a,O b.b]),.eq (.agg #[O m0.lo,O m0.hi])] [] I (fun hc=>⟨ob_mv hc (.inl rfl),ob_mv hc (.inl rfl),oT 10 1 hc,oT 11 2 hc,oL 12 3 hc fun vs gs w1 c=>c.fix 0 2,oNN (.tmp 4) (.pointer (some ⟨w.heap.size,0,none⟩)) (.const (O 0)) (O 0) hc,ob_ld2 (x:=.tmp 14) (g:=w.heap.size) (f:=0) (some 5) hc rfl fun vs gs w1 c=>⟨c.own 1 0,c.own 1 1⟩,oNN (.tmp 5) (.pointer (some ⟨(w.heap.size+1),0,none⟩)) (.const (O 0)) (O 0) hc,ob_ld2 (x:=.tmp 16) (g:=(w.heap.size+1)) (f:=0) (some 7) hc rfl fun vs gs w1 c=>⟨c.own 2 0,c.own 2 1⟩,ob_callB (n:=0) 0 p (fun v=>[v 0,v 4,v 6,v 8]) rfl hc rfl fun vs gs w1 c hb=>b_mul1 hm0 (c.v 0) (c.v 4) (c.v 6) (c.v 8) hb iA0 iB0,ob_new (n:=4) [O 0,O 0] 30 rfl hc rfl rfl rfl,ob_put2 (n:=4) 0 rfl (some 9) hc rfl,trivial⟩) fun g7 vs W=>tl ?_
 clear I
 intro I
 go_wp2_with fail
 refine wp_loop_rounds 3 ?_
 rw[rounds_succ]
 go_upto_region 5 with fail
 refine rP [[(19,SH m1.e),(20,SH s1.e)],[],[],[],[(21,.own [O s1.lo,O s1.hi])]] [] [.eq (.pointer (some ⟨p,0,none⟩)),.eq (.pointer (some ⟨p,0,none⟩)),.eq (.pointer (some ⟨p,0,none⟩)),.eq (.pointer (some ⟨p,0,none⟩)),.eq (.func (.func 42) #[] #[]),.eq (.agg #[O m0.lo,O m0.hi]),.eq (.pointer (some ⟨p,0,none⟩)),.eq (.pointer (some ⟨p,0,none⟩)),.eq (.pointer (some ⟨p,0,none⟩)),.eq (.pointer (some ⟨p,2,none⟩)),.eq (.func (.func 48) #[] #[]),.eq (O (0)),.eq (O (1)),.eq (.pointer (some ⟨w.heap.size,2,none⟩)),.eq (.agg #[O a.c,O a.d]),.eq (O (0)),.eq (O (1)),.eq (.pointer (some ⟨(w.heap.size+1),2,none⟩)),.eq (.agg #[O b.c,O b.d]),.eq (.agg #[O m1.lo,O m1.hi]),.eq (.agg #[O s1.lo,O s1.hi])] [] I (fun hc=>⟨ob_mv hc (.inl rfl),ob_mv hc (.inl rfl),oT 23 1 hc,oT 24 2 hc,oL 25 3 hc fun vs gs w1 c=>c.fix 0 0,ob_ld2 (x:=.tmp 7) (g:=g7) (f:=0) none hc rfl fun vs gs w1 c=>⟨c.own 4 0,c.own 4 1⟩,ob_mv hc (.inl rfl),ob_mv hc (.inl rfl),oT 29 7 hc,oT 30 8 hc,oL 31 9 hc fun vs gs w1 c=>c.fix 0 2,ob_mv hc (.inl rfl),oTN 33 11 (.const (O 1)) (O 1) hc (hs:=c_51),oNT (.tmp 4) (.pointer (some ⟨w.heap.size,0,none⟩)) 34 12 hc,ob_ld2 (x:=.tmp 35) (g:=w.heap.size) (f:=2) (some 13) hc rfl fun vs gs w1 c=>⟨c.own 1 2,c.own 1 3⟩,ob_mv hc (.inl rfl),oTN 37 15 (.const (O 1)) (O 1) hc (hs:=c_51),oNT (.tmp 5) (.pointer (some ⟨(w.heap.size+1),0,none⟩)) 38 16 hc,ob_ld2 (x:=.tmp 39) (g:=(w.heap.size+1)) (f:=2) (some 17) hc rfl fun vs gs w1 c=>⟨c.own 2 2,c.own 2 3⟩,ob_callB (n:=0) 0 p (fun v=>[v 6,v 10,v 14,v 18]) rfl hc rfl fun vs gs w1 c hb=>b_mul1 hm1 (c.v 6) (c.v 10) (c.v 14) (c.v 18) hb iA1 iB1,ob_callB (n:=0) 1 p (fun v=>[v 0,v 4,v 5,v 19]) rfl hc rfl fun vs gs w1 c hb=>b_add1 hs1 (c.v 0) (c.v 4) (c.v 5) (c.v 19) hb,ob_put2 (n:=4) 0 rfl (some 20) hc rfl (hf:=by simp),trivial⟩) fun vs W=>tl ?_
 clear I
 intro I
 go_wp2_with fail
 rw[rounds_succ]
 go_upto_region 5 with fail
 refine rP [[(19,SH m2.e),(20,SH s2.e)],[],[],[],[(21,.own [O s2.lo,O s2.hi])]] [] [.eq (.pointer (some ⟨p,0,none⟩)),.eq (.pointer (some ⟨p,0,none⟩)),.eq (.pointer (some ⟨p,0,none⟩)),.eq (.pointer (some ⟨p,0,none⟩)),.eq (.func (.func 42) #[] #[]),.eq (.agg #[O s1.lo,O s1.hi]),.eq (.pointer (some ⟨p,0,none⟩)),.eq (.pointer (some ⟨p,0,none⟩)),.eq (.pointer (some ⟨p,0,none⟩)),.eq (.pointer (some ⟨p,2,none⟩)),.eq (.func (.func 48) #[] #[]),.eq (O (1)),.eq (O (2)),.eq (.pointer (some ⟨w.heap.size,4,none⟩)),.eq (.agg #[O a.e,O a.f]),.eq (O (1)),.eq (O (2)),.eq (.pointer (some ⟨(w.heap.size+1),4,none⟩)),.eq (.agg #[O b.e,O b.f]),.eq (.agg #[O m2.lo,O m2.hi]),.eq (.agg #[O s2.lo,O s2.hi])] [] I (fun hc=>⟨ob_mv hc (.inl rfl),ob_mv hc (.inl rfl),oT 23 1 hc,oT 24 2 hc,oL 25 3 hc fun vs gs w1 c=>c.fix 0 0,ob_ld2 (x:=.tmp 7) (g:=g7) (f:=0) none hc rfl fun vs gs w1 c=>⟨c.own 4 0,c.own 4 1⟩,ob_mv hc (.inl rfl),ob_mv hc (.inl rfl),oT 29 7 hc,oT 30 8 hc,oL 31 9 hc fun vs gs w1 c=>c.fix 0 2,ob_mv hc (.inl rfl),oTN 33 11 (.const (O 1)) (O 1) hc (hs:=c_51),oNT (.tmp 4) (.pointer (some ⟨w.heap.size,0,none⟩)) 34 12 hc,ob_ld2 (x:=.tmp 35) (g:=w.heap.size) (f:=4) (some 13) hc rfl fun vs gs w1 c=>⟨c.own 1 4,c.own 1 5⟩,ob_mv hc (.inl rfl),oTN 37 15 (.const (O 1)) (O 1) hc (hs:=c_51),oNT (.tmp 5) (.pointer (some ⟨(w.heap.size+1),0,none⟩)) 38 16 hc,ob_ld2 (x:=.tmp 39) (g:=(w.heap.size+1)) (f:=4) (some 17) hc rfl fun vs gs w1 c=>⟨c.own 2 4,c.own 2 5⟩,ob_callB (n:=0) 0 p (fun v=>[v 6,v 10,v 14,v 18]) rfl hc rfl fun vs gs w1 c hb=>b_mul1 hm2 (c.v 6) (c.v 10) (c.v 14) (c.v 18) hb iA2 iB2,ob_callB (n:=0) 1 p (fun v=>[v 0,v 4,v 5,v 19]) rfl hc rfl fun vs gs w1 c hb=>b_add1 hs2 (c.v 0) (c.v 4) (c.v 5) (c.v 19) hb,ob_put2 (n:=4) 0 rfl (some 20) hc rfl (hf:=by simp),trivial⟩) fun vs W=>tl ?_
 clear I
 intro I
 go_wp2_with fail
 rw[rounds_succ]
 go_upto_region 7 with fail
 refine rP [[],[],[],[(1,.own [O s2.lo,O s2.hi])]] [] [.eq (.agg #[O s2.lo,O s2.hi])] [] I (fun hc=>⟨ob_ld2 (x:=.tmp 7) (g:=g7) (f:=0) none hc rfl fun vs gs w1 c=>⟨c.own 4 0,c.own 4 1⟩,ob_put2 (n:=3) 0 rfl (some 0) hc rfl,trivial⟩) fun vs W=>tl ?_
 clear I
 intro I
 have d0:=I.own 3 0
 have d1:=I.own 3 1
 have hE:=I.e
 have hB:=I.at 0
 clear I
 go_wp2_with fail
 refine bodyPost_ret (v:=.agg #[O s2.lo,O s2.hi]) ?_ rfl ⟨_,rfl,rfl,hE,hB⟩
 simp[results,Tryz.results31,go_sem, ↓IntWalk.iteOmega,d0,d1]
theorem b_dot1 {p:Nat} {E:Int} {a b:V3} {w:World} {u0 u1 u2:Value} {x:R3} (hx:dotS E a b=x) (h0:u0=.pointer (some ⟨p,0,none⟩)) (h1:u1=.agg #[O a.a,O a.b,O a.c,O a.d,O a.e,O a.f]) (h2:u2=.agg #[O b.a,O b.b,O b.c,O b.d,O b.e,O b.f]) (hb:(SH E).p p w) (ia:a.I) (ib:b.I):
    K_ 31 #[u0,u1,u2] w fun e w'=>∃t,e=.returned t∧t=.agg #[O x.lo,O x.hi]∧GB p w w'∧(SH x.e).p p w':=by
 subst hx;exact b_dot h0 h1 h2 hb ia ib
def V3.Sm (v:V3):Prop:=(-1152921504606846976≤v.a∧v.a≤1152921504606846976)∧(-1152921504606846976≤v.b∧v.b≤1152921504606846976)∧(-1152921504606846976≤v.c∧v.c≤1152921504606846976)∧(-1152921504606846976≤v.d∧v.d≤1152921504606846976)∧(-1152921504606846976≤v.e∧v.e≤1152921504606846976)∧(-1152921504606846976≤v.f∧v.f≤1152921504606846976)
def wnL (a b:V3):Int:=0+(max (max (a.a-b.b) (b.a-a.b)) 0)*(max (max (a.a-b.b) (b.a-a.b)) 0)+(max (max (a.c-b.d) (b.c-a.d)) 0)*(max (max (a.c-b.d) (b.c-a.d)) 0)+(max (max (a.e-b.f) (b.e-a.f)) 0)*(max (max (a.e-b.f) (b.e-a.f)) 0)
def wnM (a b:V3):Int:=0+(max (a.b-b.a) (b.b-a.a))*(max (a.b-b.a) (b.b-a.a))+(max (a.d-b.c) (b.d-a.c))*(max (a.d-b.c) (b.d-a.c))+(max (a.f-b.e) (b.f-a.e))*(max (a.f-b.e) (b.f-a.e))
theorem eqA (d:Nat) (a b c:Int) (w:World):(Op.equalIn (d+1+1) 41 (.agg #[O a,O b,O c]) (.agg #[O 0,O 0,O 0])).run Tryz.prog w=.ok (a==0&&(b==0&&c==0)) w:=by
 have h38:Tryz.prog.underlying 41=some (.array 3 2):=by kernel_rfl
 have h2:Tryz.prog.underlying 2=some (.int .i64):=by kernel_rfl
 rw[Op.equalIn]
 have hs:∀w,(sizeOf 2).run Tryz.prog w=.ok 1 w:=fun w=>by kernel_rfl
 have hp0:∀(a b c:Int) w,(part 2 #[O a,O b,O c] 0).run Tryz.prog w=.ok (O a) w:=fun a b c w=>by kernel_rfl
 have hp1:∀(a b c:Int) w,(part 2 #[O a,O b,O c] 1).run Tryz.prog w=.ok (O b) w:=fun a b c w=>by kernel_rfl
 have hp2:∀(a b c:Int) w,(part 2 #[O a,O b,O c] 2).run Tryz.prog w=.ok (O c) w:=fun a b c w=>by kernel_rfl
 have he:∀(a b:Int) w,(Op.equalIn (d+1) 2 (O a) (O b)).run Tryz.prog w=.ok (a==b) w:=fun a b w=>run_equalIn_int w d 2 .i64 .i64 a b h2
 simp only[Sem.run_bind,run_underlying h38,Result.andThen_ok,hs,Nat.mul_one]
 simp only[Std.Legacy.Range.forIn_eq_forIn_range',Std.Legacy.Range.size]
 have hr:List.range' 0 3=[0,1,2]:=rfl
 simp[List.range',hp0,hp1,hp2,he]
 by_cases h0:a=0<;>by_cases h1:b=0<;>by_cases h3:c=0<;>(try simp[h0,h1,h3,he,hp1,hp2])
theorem eqA4 (a b c:Int) (w:World):(Op.equalIn 10000 41 (.agg #[O a,O b,O c]) (.agg #[O 0,O 0,O 0])).run Tryz.prog w=.ok (decide (a=0∧b=0∧c=0)) w:=(eqA 9998 a b c w).trans (by congr 1;by_cases h0:a=0<;>by_cases h1:b=0<;>by_cases h3:c=0<;>simp[h0,h1,h3])
end Go.Proofs.YtaoioncjmfcolaaGreat
namespace Go.Proofs.YtaoioncjmfcolaaGreat
def ofF (q:Nat):Nat→Nat→Nat→Nat×Nat
 |0,r,lo=>(r,lo)
 |k+1,r,lo=>if r<q-r then ofF q k (r+r) lo else ofF q k (r-(q-r)) (lo+2^k)
theorem T_RatF_1 {p:Prop} (h:p:=by
 obtain⟨c1,c2⟩:=cross_lt h k
 refine fb_mk (Nat.mul_pos (den_pos' x) (den_pos' y)) ?_ (Nat.lt_of_lt_of_le (mul_lt2 h.2 k.2) (Nat.pow_le_pow_right (by decide) (by omega)))
 rw[Nat.pow_succ];omega):p:=h
theorem mk_parts (n:Int) {d:Nat} (hd:0<d):(mkRat n d).num=n/(Nat.gcd n.natAbs d:Int)∧(mkRat n d).den=d/Nat.gcd n.natAbs d:=by
 have h:d≠0:=by omega
 rw[Rat.mkRat_def,dif_neg h,Rat.normalize_eq]
 exact⟨rfl,rfl⟩
theorem add_mk (x y:Rat):x+y=mkRat (x.num*y.den+y.num*x.den) (x.den*y.den):=by
 rw[Rat.add_def,Rat.normalize_eq_mkRat]
theorem mul_mk (x y:Rat):x*y=mkRat (x.num*y.num) (x.den*y.den):=by
 rw[Rat.mul_def,Rat.normalize_eq_mkRat]
theorem sub_mk (x y:Rat):x-y=mkRat (x.num*y.den-y.num*x.den) (x.den*y.den):=by
 rw[Rat.sub_def,Rat.normalize_eq_mkRat]
def Fb (x:Rat) (b:Nat):Prop:=x.num.natAbs<2^b∧x.den<2^b
theorem Fb.le {x:Rat} {a b:Nat} (h:Fb x a) (k:a≤b):Fb x b:=
 ⟨Nat.lt_of_lt_of_le h.1 (Nat.pow_le_pow_right (by decide) k),Nat.lt_of_lt_of_le h.2 (Nat.pow_le_pow_right (by decide) k)⟩
theorem fb_mk {n:Int} {d b:Nat} (hd:0<d) (hn:n.natAbs<2^b) (h:d<2^b):Fb (mkRat n d) b:=by
 obtain⟨e1,e2⟩:=mk_parts n hd
 refine⟨?_, ?_⟩
 ·rw[e1,Int.natAbs_ediv_of_dvd (Int.natAbs_dvd_natAbs.1 (by simpa using Nat.gcd_dvd_left _ _))]
  exact Nat.lt_of_le_of_lt (Nat.div_le_self _ _) hn
 ·rw[e2];exact Nat.lt_of_le_of_lt (Nat.div_le_self _ _) h
theorem mul_lt2 {a b i j:Nat} (h:a<2^i) (k:b<2^j):a*b<2^(i+j):=by
 rw[Nat.pow_add]
 exact Nat.lt_of_le_of_lt (Nat.mul_le_mul_right _ (Nat.le_of_lt h)) (Nat.mul_lt_mul_of_pos_left k (Nat.two_pow_pos i))
theorem den_pos' (x:Rat):0<x.den:=Nat.pos_of_ne_zero x.den_nz
theorem Fb.mul {x y:Rat} {a b:Nat} (h:Fb x a) (k:Fb y b):Fb (x*y) (a+b):=by
 rw[mul_mk]
 exact fb_mk (Nat.mul_pos (den_pos' x) (den_pos' y)) (by rw[Int.natAbs_mul];exact mul_lt2 h.1 k.1) (mul_lt2 h.2 k.2)
theorem cross_lt {x y:Rat} {a b:Nat} (h:Fb x a) (k:Fb y b):(x.num*(y.den:Int)).natAbs<2^(a+b)∧(y.num*(x.den:Int)).natAbs<2^(a+b):=by
 refine⟨?_, ?_⟩
 ·rw[Int.natAbs_mul];exact mul_lt2 h.1 (by simpa using k.2)
 ·rw[Int.natAbs_mul,Nat.add_comm];exact mul_lt2 k.1 (by simpa using h.2)
theorem Fb.add {x y:Rat} {a b:Nat} (h:Fb x a) (k:Fb y b):Fb (x+y) (a+b+1):=by
 rw[add_mk]
 exact T_RatF_1
theorem Fb.sub {x y:Rat} {a b:Nat} (h:Fb x a) (k:Fb y b):Fb (x-y) (a+b+1):=by
 rw[sub_mk]
 exact T_RatF_1
/-! Chebyshev's polynomials, and Clenshaw's sum. -/
def chT (x:Rat):Nat→Rat
 |0=>1
 |1=>x
 |n+2=>2*(x*chT x (n+1))+(-1)*chT x n
def chS (c:Nat→Int) (x:Rat):Nat→Rat
 |0=>0
 |n+1=>chS c x n+(c n:Rat)*chT x n
def clB (c:Nat→Int) (x:Rat) (n:Nat):Nat→Rat×Rat
 |0=>(0,0)
 |k+1=>(((c (n-k):Rat)+(x+x)*(clB c x n k).1)-(clB c x n k).2,(clB c x n k).1)
/-! How large Chebyshev's polynomials are. -/
def pw3:Nat→Rat
 |0=>1
 |n+1=>3*pw3 n
def sm3:Nat→Rat
 |0=>0
 |n+1=>sm3 n+pw3 n
end Go.Proofs.YtaoioncjmfcolaaGreat
namespace Go.Proofs.YtaoioncjmfcolaaGreat
open Go.RowKit
theorem z_GcdS (va vb:Value) (sa:Bool) (m k:Nat) (w:World) (ha:Sm w va sa m) (hb0:Sm w vb false k) (hs:Small m) (hs2:Small k) (hz:m=0→sa=false):
    K_ 103 #[va,vb] w fun e w'=>∃u,e=.returned (.tuple #[u,O 0])∧Nn w' u (Nat.gcd m k)∧Ext w w':=by
 obtain⟨u,rfl,hu⟩:=ha
 obtain⟨s,rfl,hv⟩:=hb0
 obtain⟨ao,b1,o1,cap1,rfl,v1,v2,v3,v4,v5,v6⟩:=hu.view
 obtain⟨bo,b2,o2,cap2,rfl,y1,y2,y3,y4,y5,y6⟩:=hv.view
 have hlen:(dig m).length≤100000∧(dig k).length≤100000:=by unfold Small at hs hs2;omega
 obtain⟨W3,hW3⟩:∃W3,((w.alloc (.cells #[.bool sa,.slice ao (dig m).length cap1] 24)).alloc (.cells #[.bool false,.slice bo (dig k).length cap2] 24)).alloc (.cells #[.bool false,.slice none 0 0] 24)=W3:=⟨_,rfl⟩
 have hWs:W3.heap.size=w.heap.size+1+1+1:=by rw[←hW3];simp
 have hEW:Ext w W3:=by rw[←hW3];exact(((Ext.refl w).alloc _).alloc _).alloc _
 have hS:BX w (w.heap.size+1+1) [(w.heap.size,0,.bool sa),(w.heap.size,1,.slice ao (dig m).length cap1),(w.heap.size+1,0,.bool false),(w.heap.size+1,1,.slice bo (dig k).length cap2)] W3:=by
  rw[←hW3]
  refine⟨hW3▸hEW, ?_, ?_, ?_, ?_, ?_,by simp⟩
  ·intro p hp
   simp only[List.mem_cons,List.mem_nil_iff,or_false]at hp
   rcases hp with rfl|rfl|rfl|rfl<;>simp[go_sem, ↓IntWalk.iteOmega]
  ·exact b_2
  ·exact b_3
  ·exact b_4
  ·have:=NoU.new ((w.alloc (.cells #[.bool sa,.slice ao (dig m).length cap1] 24)).alloc (.cells #[.bool false,.slice bo (dig k).length cap2] 24)) #[.bool false,.slice none 0 0] 24 (noU2 (by simp) (by simp))
   simpa using this
 have hLn:∀p∈([(w.heap.size,0,.bool sa),(w.heap.size,1,.slice ao (dig m).length cap1),(w.heap.size+1,0,.bool false),(w.heap.size+1,1,.slice bo (dig k).length cap2)]:List (Nat×Nat×Value)),p.1≠w.heap.size+1+1:=by
  intro p hp
  simp only[List.mem_cons,List.mem_nil_iff,or_false]at hp
  rcases hp with rfl|rfl|rfl|rfl<;>(dsimp only;omega)
 have hck:=z_check_two W3 _ _ sa false m k (hu.ext hEW) (hv.ext hEW) hs hs2 hz (fun _=>rfl)
 rw[hWs]at hck
 subst hW3
 clear v1 v4 v5 y1 y4 y5 hWs hEW hz
 go_enter Tryz.func103,Tryz.ntmps103
 go_upto_region 4 with(go_at_call 77;(with_reducible refine hck.mono ?_);rintro e w1 ⟨rfl,hb⟩)
 have hS0:=hS.ext (((Ext.refl _).alloc _).trans hb)
 clear hS hck hb
 refine wp_region_held_drew (S:=(fun w0=>BX w (w.heap.size+1+1) [(w.heap.size,0,.bool sa),(w.heap.size,1,.slice ao (dig m).length cap1),(w.heap.size+1,0,.bool false),(w.heap.size+1,1,.slice bo (dig k).length cap2)] w0)) c_3 ?_ (fun hH=> ?_)
 ·exact hS0.drew
 try simp only[sx_]
 refine sK 0 ?_
 refine tk 1 rfl c_0 ?_
 try simp only[sx_]
 refine sK 3 ?_
 refine tk 4 rfl c_0 ?_
 try simp only[sx_]
 refine rh1 2 rfl fun K hK=> ?_
 go_simp
 (go_at_call 130;(with_reducible refine(w_Clone _ _ _ (hu.ext hH.base) hlen.1).mono ?_);rintro e t2 ⟨s2,rfl,hu4,hx2⟩)
 refine hK.out _ _ ?_ fun _=> ?_
 ·exact b_5
 clear hK K hH
 rename_i hH
 try simp only[sx_]
 refine sK 5 ?_
 refine sK 6 ?_
 refine wpAnyH_done c_3 ?_ _
 go_wp2_with fail
 have hE4:=hH
 clear hH
 go_loopw [7,8] (fun p q wr=>∃a c:Nat,Small a∧Small c∧Hid (Nat.gcd a c=Nat.gcd m k)∧Hid (Lim wr p (dig a))∧Hid (Lim wr q (dig c))∧Hid (BX w (w.heap.size+1+1) [(w.heap.size,0,.bool sa),(w.heap.size,1,.slice ao (dig m).length cap1),(w.heap.size+1,0,.bool false),(w.heap.size+1,1,.slice bo (dig k).length cap2)] wr)) (fun _ q wr=>lmeas wr q)
 case atStart=>exact⟨m,k,hs,hs2,rfl,hu4,hv.ext hE4.base,hE4⟩
 case round=>
  obtain⟨a,c,a1,c1,hg,HA,HC,HB⟩:=hrel
  obtain⟨ao4,b4,o4,cap4,rfl,p1,p2,p3,p4,p5,p6⟩:=HA.out.view
  obtain⟨ao5,b5,o5,cap5,rfl,q1,q2,q3,q4,q5,q6⟩:=HC.out.view
  rcases Nat.eq_zero_or_pos c with h0|h0
  ·subst h0
   have hl0:(dig 0).length=0:=rfl
   have hga:Hid (a=Nat.gcd m k):=by show a=_;rw[←hg.out,Nat.gcd_zero_right]
   clear p1 p4 p5 q1 q4 q5
   rw[hl0]
   have hcl:=fun w2 (k2:Ext wr w2)=>w_Clone _ (dig a) w2 (HA.out.ext k2) (by unfold Small at a1;omega)
   have hla:(dig a).length≤4096:=a1
   go_wp2_with (first
    | (go_at_call 130;(with_reducible refine(hcl _ (Ext.refl _)).mono ?_);rintro e w4 ⟨y14,rfl,hu5,hb5⟩;obtain⟨ao6,b6,o6,cap6,rfl,_⟩:=hu5.view)
    | (go_at_call 76;(with_reducible refine(w_madeN _ (dig a) a _ hu5 (dig_val a) hla).mono ?_);rintro e w5 ⟨y16,rfl,hu6,hb6⟩;obtain⟨ao7,b7,o7,cap7,rfl,_⟩:=hu6.view;have hS6:=(HB.out.ext hb5).ext hb6;obtain⟨⟨xa,h3a⟩,⟨xb,h3b⟩,h3f,hnu,hsl⟩:=hS6.box))
   rw[←hga.out]
   refine bodyPost_ret (v:=.tuple #[.agg #[.bool false,.slice ao7 (dig a).length cap7],O 0]) ?_ rfl ⟨_,rfl,⟨_,rfl, ?_⟩, ?_⟩
   ·simp[results,Tryz.results103,go_sem, ↓IntWalk.iteOmega,h3a,h3b]
   ·exact Lim.box (Lim.box hu6 hnu) (NoU.set hnu (fun z e=>by cases e))
   ·exact((hS6.set (by omega) hLn (fun z e=>by cases e)).set (by omega) hLn (fun z e=>by cases e)).base
  ·have hl1:0<(dig c).length:=dig_pos.2 h0
   have hdv:=w_divideA _ _ (dig a) (dig c) wr HA.out HC.out (dig_nz a) (dig_nz c) (by unfold Small at a1;omega) hl1
   have hmeas:lmeas wr (.slice ao5 (dig c).length cap5)=c:=HC.out.meas
   clear p1 p4 p5 q1 q4 q5
   go_wp2_with (go_at_call 83;(with_reducible refine hdv.mono ?_);rintro e w4 ⟨y14,y15,qs,rs,rfl,hq,hr,nq,nr,hval,hlt,hb5⟩)
   obtain⟨eq,er⟩:=div_dig hq.lb hr.lb nq nr hval hlt
   rw[er]at hr
   have hrc:a%c<c:=Nat.mod_lt _ h0
   have hm2:lmeas w4 y15=a%c:=hr.meas
   go_roundw
   case rel=>exact⟨c,a%c,c1,Nat.le_trans (dig_mono (Nat.le_of_lt hrc)) c1,(by rw[Nat.gcd_comm, ←Nat.gcd_rec,Nat.gcd_comm,hg.out]:_=_),HC.out.ext hb5,hr,HB.out.ext hb5⟩
   case measure=>rw[hm2,hmeas];exact hrc
theorem z_Gcd (va vb:Value) (n:Int) (k:Nat) (w:World) (ha:Wid w va n) (hb0:Nn w vb k) (hs:Sz n) (hs2:Small k):
    K_ 103 #[va,vb] w fun e w'=>∃u,e=.returned (.tuple #[u,O 0])∧Nn w' u (Nat.gcd n.natAbs k)∧Ext w w':=by
 obtain⟨u,rfl,hu⟩:=ha
 obtain⟨s,rfl,hv⟩:=hb0
 exact z_GcdS _ _ (decide (n<0)) n.natAbs k w ⟨u,rfl,hu⟩ ⟨s,rfl,hv⟩ hs hs2 (wid_s _ rfl)
end Go.Proofs.YtaoioncjmfcolaaGreat
