/- kepler: sine. -/
import Derived.Test.YtaoioncjmfcolaaGreatV26
set_option linter.unusedSimpArgs false
set_option linter.unusedVariables false
set_option maxRecDepth 100000
set_option maxHeartbeats 4000000
namespace Go.Proofs.YtaoioncjmfcolaaGreat
open Go.RowKit
def divs3:Nat→Int→Option Int
 |0,x=>if okN x=true then some x else none
 |k+1,x=>if okN x=true then divs3 k (x/3)else none
def kserF (sq:Int) (p:Nat):Nat→Nat→Int→Int→Option Int
  |0,_,_,_=>none
  |F+1,k,t,s=>if okN s=true∧okN t=true∧okN (t*sq)=true∧okN (t*sq/2^p)=true∧okN (t*sq/2^p/((k*(k+1):Nat):Int))=true∧okN (-(t*sq/2^p/((k*(k+1):Nat):Int)))=true∧0<k∧k≤100000 then
      (if bitsF (-(t*sq/2^p/((k*(k+1):Nat):Int)))<2 then some s else kserF sq p F (k+2) (-(t*sq/2^p/((k*(k+1):Nat):Int))) (s+ -(t*sq/2^p/((k*(k+1):Nat):Int))))else none
theorem kserF_succ {sq:Int} {p F k:Nat} {t s S:Int} (h:kserF sq p F k t s=some S):∃G,F=G+1∧(okN s=true∧okN t=true∧okN (t*sq)=true∧okN (t*sq/2^p)=true∧okN (t*sq/2^p/((k*(k+1):Nat):Int))=true∧okN (-(t*sq/2^p/((k*(k+1):Nat):Int)))=true∧0<k∧k≤100000)∧
    ((bitsF (-(t*sq/2^p/((k*(k+1):Nat):Int)))<2∧s=S)∨(¬bitsF (-(t*sq/2^p/((k*(k+1):Nat):Int)))<2∧kserF sq p G (k+2) (-(t*sq/2^p/((k*(k+1):Nat):Int))) (s+ -(t*sq/2^p/((k*(k+1):Nat):Int)))=some S)):=by
 cases F with
 |zero=>cases h
 |succ G=>
  rw[kserF]at h
  split at h
  ·rename_i k0
   refine⟨G,rfl,k0, ?_⟩
   split at h
   ·rename_i h1;exact .inl ⟨h1,Option.some.inj h⟩
   ·rename_i h1;exact .inr ⟨h1,h⟩
  ·cases h
theorem kserF_ok {sq:Int} {p F k:Nat} {t s S:Int} (h:kserF sq p F k t s=some S):okN s=true:=by
 obtain⟨_,_,h,_⟩:=kserF_succ h;exact h.1
def ktri (p:Nat):Nat→Int→Int→Option (Int×Int)
  |0,s,off=>if okN s=true then some (s,off)else none
  |n+1,s,off=>if okN s=true∧okN (s*s)=true∧okN (s*s/2^p)=true∧okN (s*s/2^p*s)=true∧okN (s*s/2^p*s/2^p)=true∧okN (s*3)=true∧okN (s*s/2^p*s/2^p*4)=true∧okN (s*3-s*s/2^p*s/2^p*4)=true∧0≤off∧off≤500000000000000000 then
      ktri p n (s*3-s*s/2^p*s/2^p*4) (15*off+20)else none
def ksinF (n:Int) (p:Nat):Option (Int×Int):=
 if okN (n*2^(p-40))=true∧41≤p∧p≤1000 then
  (divs3 8 (n*2^(p-40))).bind fun X=>if okN X=true∧okN (X*X)=true∧okN (X*X/2^p)=true then(kserF (X*X/2^p) p 1000 2 X X).bind fun S=>ktri p 8 S 200 else none
 else none
theorem k_sine (n:Int) (p:Nat) (R:Int×Int) (w:World) (h0: -9223372036854775808≤n) (h1:n≤9223372036854775807) (hF:ksinF n p=some R):
    K_ 108 #[O n,O p] w fun e w'=>∃u,e=.returned (.tuple #[u,O R.2])∧Wid w' u R.1∧Ext w w':=by
 unfold ksinF at hF
 split at hF
 case isFalse=>cases hF
 rename_i k0
 obtain⟨oX0,hp0,hp1⟩:=k0
 rw[Option.bind_eq_some_iff]at hF
 obtain⟨X,hX,hF⟩:=hF
 split at hF
 case isFalse=>cases hF
 rename_i k0
 obtain⟨oX,oXX,oQ⟩:=k0
 rw[Option.bind_eq_some_iff]at hF
 obtain⟨S,hS,hT⟩:=hF
 obtain⟨x0,hx0⟩:∃x,n*2^(p-40)=x:=⟨_,rfl⟩
 rw[hx0]at oX0 hX
 obtain⟨sq,hsq⟩:∃x,X*X/2^p=x:=⟨_,rfl⟩
 rw[hsq]at hS oQ
 have sn:Sz n:=dig_bits (k:=64) (L:=4096) (by omega) (by decide)
 have hfn:∀(w1:World) (u1:Value),u1=O n→K_ 34 #[u1] w1 fun e w'=>∃u,e=.returned u∧Wid w' u n∧Ext w1 w':=fun w1 u1 k=>by subst k;exact z_From n w1 h0 h1
 have hsh:∀(w1:World) (u1 u2:Value),Wid w1 u1 n→u2=O ((p:Int)-40)→K_ 109 #[u1,u2] w1 fun e w'=>∃u,e=.returned u∧((VF.wid (x0)).err 0).p u w'∧Ext w1 w':=fun w1 u1 u2 a b=>by
  subst b
  rw[show(p:Int)-40=((p-40:Nat):Int) by omega]
  have:=z_shiftU u1 n (p-40) w1 a sn (by omega) (by rw[hx0];exact okN.sz oX0)
  rw[hx0]at this
  exact calls_err this
 have hdv0:∀x:Int,okN x=true→∀(w1:World) (u1 u2:Value),Wid w1 u1 (x)→Wid w1 u2 (3)→K_ 98 #[u1,u2] w1 fun e w'=>∃u,e=.returned u∧((VF.wid (x/3)).tri).p u w'∧Ext w1 w':=fun x ox w1 u1 u2 a b=>w_div u1 u2 x 3 w1 a b ox (by decide) (by decide)
 have hxx:∀(w1:World) (u1 u2:Value),w1.cell? ⟨w.heap.size,0,none⟩=some (O p)→Wid w1 u1 (X)→Wid w1 u2 (X)→K_ 151 #[u1,u2,.pointer (some ⟨w.heap.size,0,none⟩)] w1 fun e w'=>∃u,e=.returned u∧Wid w' u (sq)∧Ext w1 w':=fun w1 u1 u2 hP x y=>by have:=k_mulC u1 u2 X X w.heap.size p w1 x y hP oX oX oXX (by omega) hp1;rw[hsq]at this;exact this
 have hts0:∀t:Int,okN t=true→okN (t*sq)=true→∀(w1:World) (u1 u2:Value),w1.cell? ⟨w.heap.size,0,none⟩=some (O p)→Wid w1 u1 (t)→Wid w1 u2 (sq)→K_ 151 #[u1,u2,.pointer (some ⟨w.heap.size,0,none⟩)] w1 fun e w'=>∃u,e=.returned u∧Wid w' u (t*sq/2^p)∧Ext w1 w':=fun t o1 o2 w1 u1 u2 hP x y=>k_mulC u1 u2 t sq w.heap.size p w1 x y hP o1 oQ o2 (by omega) hp1
 have hfk0:∀k:Nat,0<k→k≤100000→∀(w1:World) (u1:Value),u1=O ((k:Int)*((k:Int)+1))→K_ 34 #[u1] w1 fun e w'=>∃u,e=.returned u∧Wid w' u ((k*(k+1):Nat):Int)∧Ext w1 w':=fun k k0 k1 w1 u1 a=>by
  subst a
  have hle:k*(k+1)≤100000*100001:=Nat.mul_le_mul k1 (by omega)
  rw[show(k:Int)*((k:Int)+1)=((k*(k+1):Nat):Int) by push_cast;rfl]
  exact z_From _ w1 (by omega) (by omega)
 have hdk0:∀(k:Nat) (z:Int),0<k→k≤100000→okN z=true→∀(w1:World) (u1 u2:Value),Wid w1 u1 (z)→Wid w1 u2 (((k*(k+1):Nat):Int))→K_ 98 #[u1,u2] w1 fun e w'=>∃u,e=.returned u∧((VF.wid (z/((k*(k+1):Nat):Int))).tri).p u w'∧Ext w1 w':=fun k z k0 k1 oz w1 u1 u2 a b=>w_div u1 u2 z (k*(k+1)) w1 a b oz (Nat.mul_pos k0 (by omega)) (Nat.le_trans (Nat.mul_le_mul k1 (show k+1≤100001 by omega)) (by decide))
 have hng0:∀z t1:Int, -z=t1→okN z=true→∀(w1:World) (u1:Value),Wid w1 u1 z→K_ 74 #[u1] w1 fun e w'=>∃u,e=.returned u∧((VF.wid (t1)).err 0).p u w'∧Ext w1 w':=fun z t1 e oz w1 u1 a=>by subst e;exact calls_err (t_neg u1 z w1 a (okN.sz oz))
 have hbt0:∀t1 bt:Int,bitsF t1=bt→okN t1=true→∀(w1:World) (u1:Value),Wid w1 u1 t1→K_ 80 #[u1] w1 fun e w'=>∃u,e=.returned u∧u=.tuple #[O bt,O 0]∧Ext w1 w':=fun t1 bt e oz w1 u1 a=>by subst e;exact calls_eq (p_Bits u1 t1 w1 a (okN.sz oz))
 have had0:∀s t1:Int,okN s=true→okN t1=true→okN (s+t1)=true→∀(w1:World) (u1 u2:Value),Wid w1 u1 (s)→Wid w1 u2 (t1)→K_ 35 #[u1,u2] w1 fun e w'=>∃u,e=.returned u∧((VF.wid (s+t1)).err 0).p u w'∧Ext w1 w':=fun s t1 o1 o2 o3 w1 u1 u2 a b=>calls_err (z_Add u1 u2 s t1 w1 a b (okN.sz o1) (okN.sz o2) (okN.sz o3))
 have hmc0:∀a b:Int,okN a=true→okN b=true→okN (a*b)=true→∀(w1:World) (u1 u2:Value),w1.cell? ⟨w.heap.size,0,none⟩=some (O p)→Wid w1 u1 (a)→Wid w1 u2 (b)→K_ 151 #[u1,u2,.pointer (some ⟨w.heap.size,0,none⟩)] w1 fun e w'=>∃u,e=.returned u∧Wid w' u (a*b/2^p)∧Ext w1 w':=fun a b o1 o2 o3 w1 u1 u2 hP x y=>k_mulC u1 u2 a b w.heap.size p w1 x y hP o1 o2 o3 (by omega) hp1
 have hml0:∀a b:Int,okN a=true→okN b=true→okN (a*b)=true→∀(w1:World) (u1 u2:Value),Wid w1 u1 (a)→Wid w1 u2 (b)→K_ 79 #[u1,u2] w1 fun e w'=>∃u,e=.returned u∧((VF.wid (a*b)).err 0).p u w'∧Ext w1 w':=fun a b o1 o2 o3 w1 u1 u2 x y=>calls_err (z_Mul u1 u2 a b w1 x y (okN.sz o1) (okN.sz o2) (okN.sz o3))
 have hsb0:∀a b:Int,okN a=true→okN b=true→okN (a-b)=true→∀(w1:World) (u1 u2:Value),Wid w1 u1 (a)→Wid w1 u2 (b)→K_ 100 #[u1,u2] w1 fun e w'=>∃u,e=.returned u∧((VF.wid (a-b)).err 0).p u w'∧Ext w1 w':=fun a b o1 o2 o3 w1 u1 u2 x y=>calls_err (z_Sub u1 u2 a b w1 x y (okN.sz o1) (okN.sz o2) (okN.sz o3))
 clear hx0 hsq sn oX0 oX oXX oQ h0 h1
 replace hX:=Lib.hid hX
 replace hS:=Lib.hid hS
 replace hT:=Lib.hid hT
 have I0:KBd w [] w:=⟨Ext.refl w,trivial,by simp,by simp⟩
 have I:=((I0.new [O p] 3 (by simp)).new [.bool false,.slice none 0 0] 24 (by simp))
 simp only[World.size_alloc,List.nil_append,List.cons_append]at I
 clear I0
 go_enter Tryz.func108,Tryz.ntmps108
 go_upto_region 1 with fail
 refine rB [] [⟨8,some 9,.b2,(.wat x0)⟩] [.eq (O (n)),.wid (n),.eq (O (p)),.eq (O ((p:Int)-40)),(VF.wid (x0)).err 0,(VF.wid (x0)).err 0,.wid (x0),.eq (O (0)),.any,.any,.eq (O (0))] [] I (fun hc=>⟨ob_mv hc (.inl rfl),ob_call (fun v=>[v 0]) hc rfl fun vs gs w1 c=>hfn _ _ (c.v 0),ob_ld (x:=.tmp 3) (g:=w.heap.size) (f:=0) (u:=O (p)) none hc fun vs gs w1 c=>c.own 0 0,oTN 24 2 (.const (O 40)) (O 40) hc (hs:=c_1),ob_call (fun v=>[v 1,v 3]) hc rfl fun vs gs w1 c=>hsh _ _ _ (c.v 1) (c.v 3),ob_cp 4 hc (.inl rfl),ob_ext0 5 hc rfl,ob_ext1 5 hc rfl,ob_allocW (n:=2) rfl hc rfl rfl rfl,ob_putW (n:=2) rfl 6 hc rfl 0,ob_cp 7 hc (.inr rfl),trivial⟩) fun g6 vs W=>tl ?_
 clear I
 intro I
 clear hfn hsh
 go_wp2_with fail
 go_loopw [29] (fun s29 wr=>∃(i:Nat) (x:Int),s29=O (i:Int)∧i≤8∧Hid (divs3 (8-i) x=some X)∧Hid (KBd w [(w.heap.size,BF.own [O p]),(w.heap.size+1,BF.own [.bool false,.slice none 0 0]),(g6,BF.wat x)] wr)) (fun s29 _=>(8-intOf s29).toNat)
 case atStart=>exact⟨0,x0,rfl,by decide,hX,Lib.hid I⟩
 case round=>
  obtain⟨i,x,rfl,hi8,hX2,HI⟩:=hrel
  clear I hX
  have I:=HI.out
  clear HI
  by_cases hi:i<8
  ·obtain⟨j,hj⟩:∃j,8-i=j+1:=⟨7-i,by omega⟩
   have hX:=hX2.out
   rw[hj,divs3]at hX
   split at hX
   case isFalse=>cases hX
   rename_i ox
   have hdv:=hdv0 x ox
   replace hX:=Lib.hid hX
   clear hdv0 hX2
   have hil:decide ((i:Int)<8)=true:=decide_eq_true (by omega)
   go_upto_region 4 with fail
   go_upto_region 4 with fail
   refine rB [[],[],[(7,.wat (x/3))]] [] [.wid (x),.wid (3),(VF.wid (x/3)).tri,(VF.wid (x/3)).tri,.wid (x/3),.any,.any] [] I (fun hc=>⟨ob_getW g6 (x) hc rfl fun vs gs w1 c=>c.b0 2,ob_call (fun v=>[O 3]) hc rfl fun vs gs w1 c=>z_From 3 _ (by decide) (by decide),ob_call (fun v=>[v 0,v 1]) hc rfl fun vs gs w1 c=>hdv _ _ _ (c.v 0) (c.v 1),ob_cp 2 hc (.inl rfl),ob_tri0 3 hc rfl,ob_triN 3 1 hc rfl (.inl rfl),ob_triN 3 2 hc rfl (.inr rfl),ob_putW (n:=2) rfl 4 hc rfl 0,trivial⟩) fun vs W=>tl ?_
   clear I
   intro I
   go_wp2_with fail
   go_roundw
   case rel=>exact⟨i+1,x/3,(by go_num),by omega,by rw[show 8-(i+1)=j by omega];exact hX,Lib.hid I⟩
   case measure=>simp[intOf];omega
  ·obtain rfl:i=8:=by omega
   have hx:x=X:=by
    have h:=hX2.out
    rw[Nat.sub_self,divs3]at h
    split at h
    ·exact Option.some.inj h
    ·cases h
   subst hx
   clear hX2 hdv0
   go_upto_region 6 with fail
   refine rB [] [] [.eq (.func (.func 151) #[] #[.pointer (some ⟨w.heap.size,0,none⟩)]),.eq (.func (.func 151) #[] #[.pointer (some ⟨w.heap.size,0,none⟩)])] [1] I (fun hc=>⟨oN (.tmp 3) (.pointer (some ⟨w.heap.size,0,none⟩)) hc,ob_cp 0 hc (.inr rfl),trivial⟩) fun vs W=>tl ?_
   clear I
   intro I
   go_upto_region 7 with fail
   refine rB [] [⟨4,some 5,.b2,(.wat sq)⟩] [.eq (.func (.func 151) #[] #[.pointer (some ⟨w.heap.size,0,none⟩)]),.wid (x),.wid (x),.wid (sq)] [] I (fun hc=>⟨ob_mv hc (.inl rfl),ob_getW g6 (x) hc rfl fun vs gs w1 c=>c.b0 2,ob_getW g6 (x) hc rfl fun vs gs w1 c=>c.b0 2,ob_callF (caps:=[.pointer (some ⟨w.heap.size,0,none⟩)]) 0 (fun v=>[v 1,v 2]) hc rfl (h:=fun vs gs w1 c=>hxx _ _ _ (c.own 0 0) (c.v 1) (c.v 2)),ob_allocW (n:=3) rfl hc rfl rfl rfl,ob_putW (n:=3) rfl 3 hc rfl 0,trivial⟩) fun g9 vs W=>tl ?_
   clear I
   intro I
   go_upto_region 8 with fail
   refine rB [] [⟨2,some 4,.b2,(.wat x)⟩,⟨3,some 5,.b2,(.wat x)⟩] [.wid (x),.wid (x)] [] I (fun hc=>⟨ob_getW g6 (x) hc rfl fun vs gs w1 c=>c.b0 2,ob_getW g6 (x) hc rfl fun vs gs w1 c=>c.b0 2,ob_allocW (n:=4) rfl hc rfl rfl rfl,ob_allocW (n:=5) rfl hc rfl rfl rfl,ob_putW (n:=4) rfl 0 hc rfl 0,ob_putW (n:=5) rfl 1 hc rfl 0,trivial⟩) fun g10 g11 vs W=>tl ?_
   clear I
   intro I
   clear hxx
   go_wp2_with fail
   go_loopw [12] (fun s12 wr=>∃(k F:Nat) (t s:Int),s12=O (k:Int)∧0<k∧k≤100002∧Hid (kserF sq p F k t s=some S)∧Hid (KBd w [(w.heap.size,BF.own [O p]),(w.heap.size+1,BF.own [.bool false,.slice none 0 0]),(g6,BF.wat x),(g9,BF.wat sq),(g10,BF.wat s),(g11,BF.wat t)] wr)) (fun s12 _=>(200000-intOf s12).toNat)
   case atStart=>exact⟨2,1000,x,x,rfl,by decide,by decide,hS,Lib.hid I⟩
   case round=>
    obtain⟨k,F,t,s,rfl,hk0,hk2,HS,HI⟩:=hrel
    clear I hS
    have I:=HI.out
    clear HI
    obtain⟨G,rfl,⟨o1,o2,o3,o4,o5,o6,o7,o8⟩,hcs⟩:=kserF_succ HS.out
    clear HS
    have hts:=hts0 t o2 o3
    have hfk:=hfk0 k o7 o8
    have hdk:=hdk0 k _ o7 o8 o4
    have hw3:IntKind.i64.wrap ((k:Int)*((k:Int)+1))=(k:Int)*((k:Int)+1):=by
     have hle:k*(k+1)≤100000*100001:=Nat.mul_le_mul o8 (by omega)
     have e:(k:Int)*((k:Int)+1)=((k*(k+1):Nat):Int):=by push_cast;rfl
     rw[e,IntKind.wrap_i64];omega
    go_upto_region 11 with fail
    refine rB [[],[],[],[],[],[(14,.wat (t*sq/2^p/((k*(k+1):Nat):Int)))]] [] [.eq (.func (.func 151) #[] #[.pointer (some ⟨w.heap.size,0,none⟩)]),.wid (t),.wid (sq),.wid (t*sq/2^p),.eq (O (k)),.eq (O (k)),.eq (O ((k:Int)+1)),.eq (O ((k:Int)*((k:Int)+1))),.wid (((k*(k+1):Nat):Int)),(VF.wid (t*sq/2^p/((k*(k+1):Nat):Int))).tri,(VF.wid (t*sq/2^p/((k*(k+1):Nat):Int))).tri,.wid (t*sq/2^p/((k*(k+1):Nat):Int)),.any,.any] [] I (fun hc=>⟨ob_mv hc (.inl rfl),ob_getW g11 (t) hc rfl fun vs gs w1 c=>c.b0 5,ob_getW g9 (sq) hc rfl fun vs gs w1 c=>c.b0 3,ob_callF (caps:=[.pointer (some ⟨w.heap.size,0,none⟩)]) 0 (fun v=>[v 1,v 2]) hc rfl (h:=fun vs gs w1 c=>hts _ _ _ (c.own 0 0) (c.v 1) (c.v 2)),ob_mv hc (.inl rfl),ob_mv hc (.inl rfl),oTN 54 5 (.const (O 1)) (O 1) hc (hs:=c_1),oTT 53 4 55 6 hc (hs:=(by intro ρ w1 h k;go_simp;first|done|exact hw3)),ob_call (fun v=>[v 7]) hc rfl fun vs gs w1 c=>hfk _ _ (c.v 7),ob_call (fun v=>[v 3,v 8]) hc rfl fun vs gs w1 c=>hdk _ _ _ (c.v 3) (c.v 8),ob_cp 9 hc (.inl rfl),ob_tri0 10 hc rfl,ob_triN 10 1 hc rfl (.inl rfl),ob_triN 10 2 hc rfl (.inr rfl),ob_putW (n:=5) rfl 11 hc rfl 0,trivial⟩) fun vs W=>tl ?_
    clear I
    intro I
    clear hts hfk hdk hw3
    obtain⟨t1,ht1⟩:∃t1, -(t*sq/2^p/((k*(k+1):Nat):Int))=t1:=⟨_,rfl⟩
    have hng:=hng0 _ t1 ht1 o5
    rw[ht1]at hcs o6
    go_upto_region 12 with fail
    refine rB [[],[],[],[],[],[(5,.wat t1)]] [] [.wid (t*sq/2^p/((k*(k+1):Nat):Int)),(VF.wid (t1)).err 0,(VF.wid (t1)).err 0,.wid (t1),.eq (O (0))] [] I (fun hc=>⟨ob_getW g11 (t*sq/2^p/((k*(k+1):Nat):Int)) hc rfl fun vs gs w1 c=>c.b0 5,ob_call (fun v=>[v 0]) hc rfl fun vs gs w1 c=>hng _ _ (c.v 0),ob_cp 1 hc (.inl rfl),ob_ext0 2 hc rfl,ob_ext1 2 hc rfl,ob_putW (n:=5) rfl 3 hc rfl 0,trivial⟩) fun vs W=>tl ?_
    clear I
    intro I
    clear hng ht1 o5
    obtain⟨bt,hbt0'⟩:∃bt,bitsF t1=bt:=⟨_,rfl⟩
    have hbt:=hbt0 t1 bt hbt0' o6
    rw[hbt0']at hcs
    clear hbt0'
    go_upto_region 13 with fail
    refine rB [] [] [.wid (t1),.eq (.tuple #[O bt,O 0]),.eq (.tuple #[O bt,O 0]),.eq (O (bt)),.eq (O (0)),.eq (O (bt)),.eq (O (0))] [5] I (fun hc=>⟨ob_getW g11 (t1) hc rfl fun vs gs w1 c=>c.b0 5,ob_call (fun v=>[v 0]) hc rfl fun vs gs w1 c=>hbt _ _ (c.v 0),ob_cp 1 hc (.inl rfl),oT 67 2 hc,oT 67 2 hc,ob_cp 3 hc (.inr rfl),ob_cp 4 hc (.inr rfl),trivial⟩) fun vs W=>tl ?_
    clear I
    intro I
    clear hbt
    rcases hcs with⟨hlt,hs⟩| ⟨hlt,hcs⟩
    ·subst hs
     have hlb:decide (bt<2)=true:=decide_eq_true hlt
     clear hts0 hfk0 hdk0 hng0 hbt0 had0
     go_wp2_with fail
     go_loopw [80,15] (fun s80 s15 wr=>∃(i:Nat) (s off:Int),s80=O (i:Int)∧s15=O off∧i≤8∧Hid (ktri p (8-i) s off=some R)∧Hid (KBd w [(w.heap.size,BF.own [O p]),(w.heap.size+1,BF.own [.bool false,.slice none 0 0]),(g6,BF.wat x),(g9,BF.wat sq),(g10,BF.wat s),(g11,BF.wat t1)] wr)) (fun s80 _ _=>(8-intOf s80).toNat)
     case atStart=>exact⟨0,s,200,rfl,rfl,by decide,hT,Lib.hid I⟩
     case round=>
      obtain⟨i,s',off,rfl,rfl,hi8',HT,HI⟩:=hrel
      clear I hT o1
      obtain⟨s,rfl⟩:∃s,s=s':=⟨_,rfl⟩
      have I:=HI.out
      clear HI
      by_cases hi:i<8
      ·obtain⟨j,hj⟩:∃j,8-i=j+1:=⟨7-i,by omega⟩
       have hT:=HT.out
       rw[hj,ktri]at hT
       split at hT
       case isFalse=>cases hT
       rename_i c0
       obtain⟨c1,c2,c3,c4,c5,c6,c7,c8,c9,c10⟩:=c0
       have hss:=hmc0 s s c1 c1 c2
       have hcu0:=hmc0 (s*s/2^p) s c3 c1 c4
       obtain⟨cu,hcue⟩:∃cu,s*s/2^p*s/2^p=cu:=⟨_,rfl⟩
       rw[hcue]at hT c5 c7 c8
       have hcu:∀(w1:World) (u1 u2:Value),w1.cell? ⟨w.heap.size,0,none⟩=some (O p)→Wid w1 u1 (s*s/2^p)→Wid w1 u2 (s)→K_ 151 #[u1,u2,.pointer (some ⟨w.heap.size,0,none⟩)] w1 fun e w'=>∃u,e=.returned u∧Wid w' u (cu)∧Ext w1 w':=by rw[←hcue];exact hcu0
       have hm3:=hml0 s 3 c1 (by decide) c6
       have hm4:=hml0 cu 4 c5 (by decide) c7
       have hsb:=hsb0 (s*3) (cu*4) c6 c7 c8
       replace hT:=Lib.hid hT
       clear HT hmc0 hml0 hsb0 hcu0 hcue c1 c2 c3 c4 c5 c6 c7 c8
       have hil:decide ((i:Int)<8)=true:=decide_eq_true (by omega)
       go_upto_region 19 with fail
       go_upto_region 19 with fail
       refine rB [] [⟨7,some 8,.b2,(.wat cu)⟩] [.eq (.func (.func 151) #[] #[.pointer (some ⟨w.heap.size,0,none⟩)]),.eq (.func (.func 151) #[] #[.pointer (some ⟨w.heap.size,0,none⟩)]),.wid (s),.wid (s),.wid (s*s/2^p),.wid (s),.wid (cu)] [] I (fun hc=>⟨ob_mv hc (.inl rfl),ob_mv hc (.inl rfl),ob_getW g10 (s) hc rfl fun vs gs w1 c=>c.b0 4,ob_getW g10 (s) hc rfl fun vs gs w1 c=>c.b0 4,ob_callF (caps:=[.pointer (some ⟨w.heap.size,0,none⟩)]) 1 (fun v=>[v 2,v 3]) hc rfl (h:=fun vs gs w1 c=>hss _ _ _ (c.own 0 0) (c.v 2) (c.v 3)),ob_getW g10 (s) hc rfl fun vs gs w1 c=>c.b0 4,ob_callF (caps:=[.pointer (some ⟨w.heap.size,0,none⟩)]) 0 (fun v=>[v 4,v 5]) hc rfl (h:=fun vs gs w1 c=>hcu _ _ _ (c.own 0 0) (c.v 4) (c.v 5)),ob_allocW (n:=6) rfl hc rfl rfl rfl,ob_putW (n:=6) rfl 6 hc rfl 0,trivial⟩) fun g16 vs W=>tl ?_
       clear I
       intro I
       go_upto_region 20 with fail
       refine rB [] [⟨6,some 7,.b2,(.wat (s*3))⟩] [.wid (s),.wid (3),(VF.wid (s*3)).err 0,(VF.wid (s*3)).err 0,.wid (s*3),.eq (O (0)),.any,.any,.eq (O (0))] [] I (fun hc=>⟨ob_getW g10 (s) hc rfl fun vs gs w1 c=>c.b0 4,ob_call (fun v=>[O 3]) hc rfl fun vs gs w1 c=>z_From 3 _ (by decide) (by decide),ob_call (fun v=>[v 0,v 1]) hc rfl fun vs gs w1 c=>hm3 _ _ _ (c.v 0) (c.v 1),ob_cp 2 hc (.inl rfl),ob_ext0 3 hc rfl,ob_ext1 3 hc rfl,ob_allocW (n:=7) rfl hc rfl rfl rfl,ob_putW (n:=7) rfl 4 hc rfl 0,ob_cp 5 hc (.inr rfl),trivial⟩) fun g17 vs W=>tl ?_
       clear I
       intro I
       go_upto_region 21 with fail
       refine rB [] [⟨6,some 7,.b2,(.wat (cu*4))⟩] [.wid (cu),.wid (4),(VF.wid (cu*4)).err 0,(VF.wid (cu*4)).err 0,.wid (cu*4),.eq (O (0)),.any,.any,.eq (O (0))] [] I (fun hc=>⟨ob_getW g16 (cu) hc rfl fun vs gs w1 c=>c.b0 6,ob_call (fun v=>[O 4]) hc rfl fun vs gs w1 c=>z_From 4 _ (by decide) (by decide),ob_call (fun v=>[v 0,v 1]) hc rfl fun vs gs w1 c=>hm4 _ _ _ (c.v 0) (c.v 1),ob_cp 2 hc (.inl rfl),ob_ext0 3 hc rfl,ob_ext1 3 hc rfl,ob_allocW (n:=8) rfl hc rfl rfl rfl,ob_putW (n:=8) rfl 4 hc rfl 0,ob_cp 5 hc (.inr rfl),trivial⟩) fun g19 vs W=>tl ?_
       clear I
       intro I
       go_upto_region 22 with fail
       refine rB [[],[],[],[],[(6,.wat (s*3-cu*4))]] [] [.wid (s*3),.wid (cu*4),(VF.wid (s*3-cu*4)).err 0,(VF.wid (s*3-cu*4)).err 0,.wid (s*3-cu*4),.eq (O (0))] [] I (fun hc=>⟨ob_getW g17 (s*3) hc rfl fun vs gs w1 c=>c.b0 7,ob_getW g19 (cu*4) hc rfl fun vs gs w1 c=>c.b0 8,ob_call (fun v=>[v 0,v 1]) hc rfl fun vs gs w1 c=>hsb _ _ _ (c.v 0) (c.v 1),ob_cp 2 hc (.inl rfl),ob_ext0 3 hc rfl,ob_ext1 3 hc rfl,ob_putW (n:=4) rfl 4 hc rfl 0,trivial⟩) fun vs W=>tl ?_
       clear I
       intro I
       have I1:=I.take 6
       clear I hss hcu hm3 hm4 hsb
       go_wp2_with fail
       go_roundw
       case rel=>exact⟨i+1,s*3-cu*4,15*off+20,(by go_num),(by first|rfl|go_num|exact congrArg (Value.int IntKind.i64) (by first|omega| (unfold wrap64;omega)| (rw[IntKind.wrap_i64];omega))),by omega,by rw[show 8-(i+1)=j by omega];exact hT,Lib.hid I1⟩
       case measure=>simp[intOf];omega
      ·obtain rfl:i=8:=by omega
       have hR:(s,off)=R:=by
        have h:=HT.out
        rw[Nat.sub_self,ktri]at h
        split at h
        ·exact Option.some.inj h
        ·cases h
       subst hR
       clear HT hmc0 hml0 hsb0
       go_upto_region 25 with fail
       go_upto_region 25 with fail
       refine rB [[],[(2,.wat s)]] [] [.wid (s),.eq (O (off)),.any,.eq (O (off))] [3] I (fun hc=>⟨ob_getW g10 (s) hc rfl fun vs gs w1 c=>c.b0 4,ob_mv hc (.inl rfl),ob_putW (n:=1) rfl 0 hc rfl 0 (h4:=fun _ _ h=>own_bx2 h),ob_cp 1 hc (.inr rfl),trivial⟩) fun vs W=>tl ?_
       clear I
       intro I
       obtain⟨z,u,x0',x1',x2', -, -, -⟩:=(show WAt W (w.heap.size+1) s from I.at 1)
       have hE:=I.e
       clear I
       go_wp2_with fail
       refine bodyPost_ret (v:=.tuple #[.agg #[.bool z,u],O off]) ?_ rfl ⟨_,rfl,x2',hE⟩
       simp[results,Tryz.results108,go_sem, ↓IntWalk.iteOmega,x0',x1']
    ·have had:=had0 s t1 o1 o6 (kserF_ok hcs)
     replace hcs:=Lib.hid hcs
     have hlb:decide (bt<2)=false:=decide_eq_false hlt
     clear hts0 hfk0 hdk0 hng0 hbt0 had0
     go_upto_region 15 with fail
     go_upto_region 15 with fail
     refine rB [[],[],[],[],[(6,.wat (s+t1))]] [] [.wid (s),.wid (t1),(VF.wid (s+t1)).err 0,(VF.wid (s+t1)).err 0,.wid (s+t1),.eq (O (0))] [] I (fun hc=>⟨ob_getW g10 (s) hc rfl fun vs gs w1 c=>c.b0 4,ob_getW g11 (t1) hc rfl fun vs gs w1 c=>c.b0 5,ob_call (fun v=>[v 0,v 1]) hc rfl fun vs gs w1 c=>had _ _ _ (c.v 0) (c.v 1),ob_cp 2 hc (.inl rfl),ob_ext0 3 hc rfl,ob_ext1 3 hc rfl,ob_putW (n:=4) rfl 4 hc rfl 0,trivial⟩) fun vs W=>tl ?_
     clear I
     intro I
     go_wp2_with fail
     go_roundw
     case rel=>exact⟨k+2,G,t1,s+t1,(by go_num),by omega,by omega,hcs,Lib.hid I⟩
     case measure=>simp[intOf];omega
def PairV (w:World) (v:Value) (x y:Int):Prop:=∃s u t z,v=.agg #[.bool s,u,.bool t,z]∧Wid w (.agg #[.bool s,u]) x∧Wid w (.agg #[.bool t,z]) y
theorem PairV.ext {a w:World} {v:Value} {x y:Int} (h:PairV a v x y) (k:Ext a w):PairV w v x y:=by
 obtain⟨s,u,t,z,e,h1,h2⟩:=h;exact⟨s,u,t,z,e,h1.ext k,h2.ext k⟩
def Bx4 (w:World) (g:Nat):Prop:=(∃a,w.cell? ⟨g,0,none⟩=some a)∧(∃a,w.cell? ⟨g,1,none⟩=some a)∧(∃a,w.cell? ⟨g,2,none⟩=some a)∧(∃a,w.cell? ⟨g,3,none⟩=some a)∧(∀o,w.frozen? ⟨g,o,none⟩=false)∧NoU w g∧g<w.heap.size
theorem Bx4.ext {g:Nat} {a b:World} (h:Bx4 a g) (k:Ext a b):Bx4 b g:=by
 obtain⟨⟨x,h1⟩,⟨y,h2⟩,⟨z,h3⟩,⟨u,h4⟩,h5,h6,h7⟩:=h
 exact⟨⟨x,(k.cells.1 g 0 h7).trans h1⟩,⟨y,(k.cells.1 g 1 h7).trans h2⟩,⟨z,(k.cells.1 g 2 h7).trans h3⟩,⟨u,(k.cells.1 g 3 h7).trans h4⟩,fun o=>(k.cells.2 g o h7).trans (h5 o),h6.ext h7 k,Nat.lt_of_lt_of_le h7 k.size⟩
theorem Bx4.fresh (w:World):Bx4 (w.alloc (.cells #[.bool false,.slice none 0 0,.bool false,.slice none 0 0] 26)) w.heap.size:=
 ⟨⟨.bool false,by simp[go_sem, ↓IntWalk.iteOmega]⟩,⟨.slice none 0 0,by simp[go_sem, ↓IntWalk.iteOmega]⟩,⟨.bool false,by simp[go_sem, ↓IntWalk.iteOmega]⟩,⟨.slice none 0 0,by simp[go_sem, ↓IntWalk.iteOmega]⟩,fun o=>by simp[go_sem, ↓IntWalk.iteOmega],NoU.new w _ _ (noU4 (by simp) (by simp) (by simp) (by simp)),by simp⟩
end Go.Proofs.YtaoioncjmfcolaaGreat
namespace Go.Proofs.YtaoioncjmfcolaaGreat
open Go.RowKit
theorem PairV.grown {T:Nat} {a b:World} {v:Value} {x y:Int} (h:PairV a v x y) (hT:NoU a T) (k:GB T a b):PairV b v x y:=by
 obtain⟨s,u,t,z,e,h1,h2⟩:=h;exact⟨s,u,t,z,e,h1.grown hT k,h2.grown hT k⟩
def VF.pair (x y:Int):VF:=⟨fun v w=>PairV w v x y,fun _ _ _ h k=>h.ext k,fun _ _ _ _ h hT k=>h.grown hT k⟩
theorem PairV.open {w:World} {v:Value} {x y:Int} (h:PairV w v x y):∃s ao n cap t bo m cap2,v=.agg #[.bool s,.slice ao n cap,.bool t,.slice bo m cap2]∧Wid w (.agg #[.bool s,.slice ao n cap]) x∧Wid w (.agg #[.bool t,.slice bo m cap2]) y:=by
 obtain⟨s,u,t,z,rfl,h1,h2⟩:=h
 obtain⟨s',ao,n,cap,e,k1⟩:=h1.open
 obtain⟨t',bo,m,cap2,e2,k2⟩:=h2.open
 cases e
 cases e2
 exact⟨_,_,_,_,_,_,_,_,rfl,k1,k2⟩
structure PatP (w:World) (g:Nat) (x y:Int):Prop where
 c:∃s u t z,w.cell? ⟨g,0,none⟩=some (.bool s)∧w.cell? ⟨g,1,none⟩=some u∧w.cell? ⟨g,2,none⟩=some (.bool t)∧w.cell? ⟨g,3,none⟩=some z∧Wid w (.agg #[.bool s,u]) x∧Wid w (.agg #[.bool t,z]) y
 f:∀o,w.frozen? ⟨g,o,none⟩=false
 n:NoU w g
 lt:g<w.heap.size
theorem PatP.ext {g:Nat} {a b:World} {x y:Int} (h:PatP a g x y) (k:Ext a b):PatP b g x y:=by
 obtain⟨s,u,t,z,h0,h1,h2,h3,h4,h5⟩:=h.c
 exact⟨⟨s,u,t,z,(k.cells.1 g 0 h.lt).trans h0,(k.cells.1 g 1 h.lt).trans h1,(k.cells.1 g 2 h.lt).trans h2,(k.cells.1 g 3 h.lt).trans h3,h4.ext k,h5.ext k⟩,fun o=>(k.cells.2 g o h.lt).trans (h.f o),h.n.ext h.lt k,Nat.lt_of_lt_of_le h.lt k.size⟩
theorem PatP.grown {T g:Nat} {a b:World} {x y:Int} (h:PatP a g x y) (hT:NoU a T) (k:GB T a b) (hne:g≠T):PatP b g x y:=by
 obtain⟨s,u,t,z,h0,h1,h2,h3,h4,h5⟩:=h.c
 exact⟨⟨s,u,t,z,(k.cell h.lt hne).trans h0,(k.cell h.lt hne).trans h1,(k.cell h.lt hne).trans h2,(k.cell h.lt hne).trans h3,h4.grown hT k,h5.grown hT k⟩,fun o=>(k.frozen h.lt hne).trans (h.f o),h.n.grown k h.lt hne,Nat.lt_of_lt_of_le h.lt k.size⟩
def BF.pat (x y:Int):BF:=⟨fun g w=>PatP w g x y,fun _ _ _ h k=>h.ext k,fun _ _ _ _ h hT k hne=>h.grown hT k hne,fun _ _ h=>h.n,fun _ _ h=>h.lt⟩
theorem PatP.bx {g:Nat} {w:World} {x y:Int} (h:PatP w g x y):Bx4 w g:=by
 obtain⟨s,u,t,z,h0,h1,h2,h3, -⟩:=h.c
 exact⟨⟨_,h0⟩,⟨_,h1⟩,⟨_,h2⟩,⟨_,h3⟩,h.f,h.n,h.lt⟩
theorem own_bx4 {g:Nat} {w:World} {a b c d:Value} (h:(BF.own [a,b,c,d]).p g w):Bx4 w g:=⟨⟨_,h.1 0 _ rfl⟩,⟨_,h.1 1 _ rfl⟩,⟨_,h.1 2 _ rfl⟩,⟨_,h.1 3 _ rfl⟩,h.2.1,h.2.2.1,h.2.2.2⟩
theorem Bx4.put {w:World} {g:Nat} {s t:Bool} {ao bo:Option Addr} {n cap m cap2:Nat} {x y:Int} (h:Bx4 w g) (hw:Wid w (.agg #[.bool s,.slice ao n cap]) x) (hv:Wid w (.agg #[.bool t,.slice bo m cap2]) y):PatP ((((w.setCell ⟨g,0,none⟩ (.bool s)).setCell ⟨g,1,none⟩ (.slice ao n cap)).setCell ⟨g,2,none⟩ (.bool t)).setCell ⟨g,3,none⟩ (.slice bo m cap2)) g x y:=by
 obtain⟨⟨a,h1⟩,⟨b,h2⟩,⟨c,h3⟩,⟨d,h4⟩,h5,h6,h7⟩:=h
 have n1:=NoU.set (j:=0) (B':=g) (x:=.bool s) h6 (fun z e=>by cases e)
 have n2:=NoU.set (j:=1) (B':=g) (x:=.slice ao n cap) n1 (fun z e=>by cases e)
 have n3:=NoU.set (j:=2) (B':=g) (x:=.bool t) n2 (fun z e=>by cases e)
 have n4:=NoU.set (j:=3) (B':=g) (x:=.slice bo m cap2) n3 (fun z e=>by cases e)
 refine⟨⟨s,.slice ao n cap,t,.slice bo m cap2, ?_, ?_, ?_, ?_,(((hw.box (j:=0) (x:=.bool s) h6).box (j:=1) (x:=.slice ao n cap) n1).box (j:=2) (x:=.bool t) n2).box (j:=3) (x:=.slice bo m cap2) n3,(((hv.box (j:=0) (x:=.bool s) h6).box (j:=1) (x:=.slice ao n cap) n1).box (j:=2) (x:=.bool t) n2).box (j:=3) (x:=.slice bo m cap2) n3⟩,fun o=>by simp only[World.frozen?_setCell];exact h5 o,n4,by simpa using h7⟩
 ·simp[go_sem, ↓IntWalk.iteOmega,h1]
 ·simp[go_sem, ↓IntWalk.iteOmega,h2]
 ·simp[go_sem, ↓IntWalk.iteOmega,h3]
 ·simp[go_sem, ↓IntWalk.iteOmega,h4]
section
variable {ops:Array Oper} {V:Nat→VF} {B:List BR} {Kp:World→Prop} {a0:Act} {n0:Nat} {i:Nat} {o:Oper}
theorem ob_getP0 {x:Operand} (g:Nat) (q r:Int) (p:Option Nat) (hc:ChkP ops a0 B) (hop:o.op=.load 24 x)
    (h:∀(vs:Nat→Value) (gs:Nat→Nat) (w:World),Ctx ops V B Kp n0 i o vs gs w→PatP w g q r) (ha:Opd ops V a0 o x (.pointer (some ⟨g,0,none⟩)) p:=by first|exact⟨fun _=>by kernel_rfl,rfl,by kernel_rfl⟩|exact fun _=>by kernel_rfl) (hV:(V i).p=(VF.wid q).p:=by rfl)
    (hg:Gd ops V o:=by first|exact .inl rfl|exact .inr ⟨_,_,rfl,rfl,by kernel_rfl⟩) (hfr:free (B.map BR.key) i=true:=by kernel_rfl):ObI Tryz.prog ops V B Kp a0 n0 i o:=
  ob_val hc (fun vs gs w ρ hr c=>by
    obtain⟨s,u,t,z,e0,e1,e2,e3,e4,e5⟩:=(h vs gs w c).c
    refine⟨.agg #[.bool s,u], ?_,by rw[hV];exact e4⟩
    have h5:=ha.get c hr
    obtain⟨dst,op,ty,pos,af,gd⟩:=o
    dsimp only at hop
    subst hop
    clear h e4 e5 c hr ha
    go_simp) hg hfr
theorem ob_getP2 {x:Operand} (g:Nat) (q r:Int) (p:Option Nat) (hc:ChkP ops a0 B) (hop:o.op=.load 24 x)
    (h:∀(vs:Nat→Value) (gs:Nat→Nat) (w:World),Ctx ops V B Kp n0 i o vs gs w→PatP w g q r) (ha:Opd ops V a0 o x (.pointer (some ⟨g,2,none⟩)) p:=by first|exact⟨fun _=>by kernel_rfl,rfl,by kernel_rfl⟩|exact fun _=>by kernel_rfl) (hV:(V i).p=(VF.wid r).p:=by rfl)
    (hg:Gd ops V o:=by first|exact .inl rfl|exact .inr ⟨_,_,rfl,rfl,by kernel_rfl⟩) (hfr:free (B.map BR.key) i=true:=by kernel_rfl):ObI Tryz.prog ops V B Kp a0 n0 i o:=
  ob_val hc (fun vs gs w ρ hr c=>by
    obtain⟨s,u,t,z,e0,e1,e2,e3,e4,e5⟩:=(h vs gs w c).c
    refine⟨.agg #[.bool t,z], ?_,by rw[hV];exact e5⟩
    have h5:=ha.get c hr
    obtain⟨dst,op,ty,pos,af,gd⟩:=o
    dsimp only at hop
    subst hop
    clear h e4 e5 c hr ha
    go_simp) hg hfr
theorem ob_getPP {x:Operand} (g:Nat) (q r:Int) (hc:ChkP ops a0 B) (hop:o.op=.load 26 x)
    (h:∀(vs:Nat→Value) (gs:Nat→Nat) (w:World),Ctx ops V B Kp n0 i o vs gs w→PatP w g q r) (hx:∀vs,rho ops a0 o vs x=.pointer (some ⟨g,0,none⟩):=by intro _;kernel_rfl) (hV:(V i).p=(VF.pair q r).p:=by rfl)
    (hg:Gd ops V o:=by first|exact .inl rfl|exact .inr ⟨_,_,rfl,rfl,by kernel_rfl⟩) (hfr:free (B.map BR.key) i=true:=by kernel_rfl):ObI Tryz.prog ops V B Kp a0 n0 i o:=
  ob_val hc (fun vs gs w ρ hr c=>by
    obtain⟨s,u,t,z,e0,e1,e2,e3,e4,e5⟩:=(h vs gs w c).c
    refine⟨.agg #[.bool s,u,.bool t,z], ?_,by rw[hV];exact⟨s,u,t,z,rfl,e4,e5⟩⟩
    have h5:=(hr x).trans (hx vs)
    obtain⟨dst,op,ty,pos,af,gd⟩:=o
    dsimp only at hop
    subst hop
    clear h e4 e5 c hr
    go_simp) hg hfr
theorem ob_putP {y z:Operand} {n:Nat} {x:BR} {q r:Int} (hx:B[n]? =some x) (j:Nat) (hc:ChkP ops a0 B) (hop:o.op=.store 26 y z) (m:Nat:=0) (hst:x.st[m]? =some i:=by rfl) (hb:x.bf (m+1)=BF.pat q r:=by rfl) (hl:late o x.st m=true:=by kernel_rfl)
    (hy:BoxPtr ops V a0 o x 0 y:=by first|exact⟨rfl,fun _=>by kernel_rfl,by kernel_rfl⟩|exact⟨none,fun _=>by kernel_rfl⟩)
    (hz:∀vs,rho ops a0 o vs z=vs j:=by intro _;kernel_rfl) (hj:(needs o).contains j=true:=by kernel_rfl) (hVj:(V j).p=(VF.pair q r).p:=by rfl) (h4:∀g w,(x.bf m).p g w→Bx4 w g:=by first|exact fun _ _ h=>own_bx4 h|exact fun _ _ h=>PatP.bx h)
    (hV:∀v w,(V i).p v w:=by exact fun _ _=>trivial) (hg:Gd ops V o:=by first|exact .inl rfl|exact .inr ⟨_,_,rfl,rfl,by kernel_rfl⟩):ObI Tryz.prog ops V B Kp a0 n0 i o:=
  ob_of hc hg fun vs gs w ρ hr c X hX=>by
    obtain⟨h1,hb0⟩:=hy.get c hx hst hl
    have hv:=c.v j hj
    rw[hVj]at hv
    have hz':=(hr z).trans (hz vs)
    obtain⟨s,ao,l,cap,t,bo,k,cap2,e,hw,hw2⟩:=PairV.open (show PairV w (vs j) q r from hv)
    have e1:=(hr y).trans h1
    have e2:=hz'.trans e
    have hs:=(h4 _ _ hb0).put hw hw2
    obtain⟨⟨xa,ea⟩,⟨xb,eb⟩,⟨xc,ec⟩,⟨xd,ed⟩,ef,en,el⟩:=h4 _ _ hb0
    obtain⟨dst,op,ty,pos,af,gd⟩:=o
    dsimp only at hop
    subst hop
    have e:(execOp ρ {dst:=dst,op:=.store 26 y z,type:=ty,pos:=pos,after:=af,guard:=gd}).run Tryz.prog w=.ok .skip ((((w.setCell ⟨gs n,0,none⟩ (.bool s)).setCell ⟨gs n,1,none⟩ (.slice ao l cap)).setCell ⟨gs n,2,none⟩ (.bool t)).setCell ⟨gs n,3,none⟩ (.slice bo k cap2)):=by
      clear hs hw hw2 c hX h1 hr hz' hv
      go_simp
    rw[e]
    exact hX.out _ _ (hV _ _) (.store n m x hx hst (((((GB.refl (gs n) w).set _).set _).set _).set _) (by rw[hb];exact hs))
end
theorem PatP.new {w:World} {s t:Bool} {u z:Value} {x y:Int} (h:Wid w (.agg #[.bool s,u]) x) (k:Wid w (.agg #[.bool t,z]) y):PatP (w.alloc (.cells #[.bool s,u,.bool t,z] 26)) w.heap.size x y:=by
 obtain⟨s',ao,n,cap,e,hw⟩:=Wid.open h
 obtain⟨t',bo,m,cap2,e2,hv⟩:=Wid.open k
 cases e
 cases e2
 exact⟨⟨s,_,t,_,by simp[go_sem],by simp[go_sem],by simp[go_sem],by simp[go_sem],hw.ext ((Ext.refl w).alloc _),hv.ext ((Ext.refl w).alloc _)⟩,fun o=>by simp[go_sem],NoU.new w _ _ (noU4 (by simp) (by simp) (by simp) (by simp)),by simp⟩
end Go.Proofs.YtaoioncjmfcolaaGreat
