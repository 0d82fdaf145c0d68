/- Numbers with signs: divided by a power of 2, rounded down. -/
import Derived.Test.YtaoioncjmfcolaaGreatV10
set_option linter.unusedSimpArgs false
set_option linter.unusedVariables false
set_option maxRecDepth 100000
set_option maxHeartbeats 4000000
namespace Go.Proofs.YtaoioncjmfcolaaGreat
open Go.RowKit
theorem T_ZS2_2 {p:Prop} (h:p:=by
 refine bodyPost_ret (v:=.tuple #[.agg #[.bool bo3,.slice ao3 (dig R).length cc3],O 0]) ?_ rfl ⟨_,rfl,Wid.mk' (Lim.box (Lim.box hz3 hnu) (NoU.set hnu (fun z e=>by cases e))) hbo3, ?_⟩
 ·simp[results,Tryz.results109,go_sem, ↓IntWalk.iteOmega, *]<;>first|exact hbo3.symm|simp[hbo3]
 ·repeat(first|with_reducible exact Ext.refl _|with_reducible assumption|with_reducible refine Ext.alloc ?_ _|with_reducible refine Ext.setCell ?_ c_27 _|with_reducible refine Ext.drewN ?_ _|with_reducible refine Ext.drew ?_|with_reducible refine Ext.trans ?_ c_7)):p:=h
theorem T_ZS2_1 {p:Prop} (h:p:=by
 have hE4:Ext ((w.alloc (.cells #[.bool true,.slice ao la cap1] 24)).alloc (.cells #[.bool false,.slice none 0 0] 24)) w4:=ex_
 have hnu:NoU w4 (w.heap.size+1):=by
  have h0:=NoU.new (w.alloc (.cells #[.bool true,.slice ao la cap1] 24)) #[.bool false,.slice none 0 0] 24 (noU2 (by simp) (by simp))
  simp only[World.size_alloc]at h0
  exact h0.ext (by simp) hE4
 exact T_ZS2_2):p:=h
theorem u32_one:U32 1:=by unfold U32;decide
theorem right_plain {m d s k c:Nat} {q r:Int} (hk:k=32*d+s) (hc:min d (dig m).length=c) (hq0:0≤q) (h:q*2^s+r=val ((dig m).drop c)) (r0:0≤r) (r1:r<2^s):
    q=((m/2^k:Nat):Int)∧(decide (0<val ((dig m).take c)) || decide (0<r))=decide (0<m%2^k):=by
 have hm:=dig_val m
 have lX:=dig_lb m
 have hsp:val (dig m)=val ((dig m).take c)+BB^c*val ((dig m).drop c):=by
  have h1:=val_append ((dig m).take c) ((dig m).drop c)
  rw[List.take_append_drop,List.length_take,Nat.min_eq_left (by omega)]at h1
  exact h1
 have t0:=val_nonneg (lX.take c)
 have t1:=val_lt (lX.take c)
 rw[List.length_take,Nat.min_eq_left (by omega)]at t1
 have hlen:c=d∨((dig m).length=c∧c≤d):=by omega
 have hdl:(dig m).length=c→val ((dig m).drop c)=0:=fun e=>by rw[List.drop_of_length_le (by omega)];rfl
 have hB:∀x:Nat,BB^x=((2^(32*x):Nat):Int):=fun x=>by
  have:BB=((2^32:Nat):Int):=rfl
  rw[this, ←Int.natCast_pow, ←Nat.pow_mul]
 rw[hm, ←h]at hsp
 rw[←h]at hdl
 generalize val ((dig m).take c)=T at*
 clear h
 have h2s:(2:Int)^s=((2^s:Nat):Int):=by rw[Int.natCast_pow];rfl
 rw[h2s]at hsp r1 hdl
 rw[hB]at hsp t1
 obtain⟨q',rfl⟩:=Int.eq_ofNat_of_zero_le hq0
 obtain⟨r',rfl⟩:=Int.eq_ofNat_of_zero_le r0
 obtain⟨T',rfl⟩:=Int.eq_ofNat_of_zero_le t0
 have hsN:m=T'+2^(32*c)*(q'*2^s+r'):=by exact_mod_cast hsp
 have t1N:T'<2^(32*c):=by exact_mod_cast t1
 have r1N:r'<2^s:=by exact_mod_cast r1
 have dT:decide ((0:Int)<(T':Int))=decide (0<T'):=by congr 1;exact propext (by omega)
 have dr:decide ((0:Int)<(r':Int))=decide (0<r'):=by congr 1;exact propext (by omega)
 rw[dT,dr]
 have key:m=2^k*q'+(T'+2^(32*c)*r')∧T'+2^(32*c)*r'<2^k:=by
  rcases hlen with e| ⟨e,hcd⟩
  ·subst e
   rw[hk,Nat.pow_add]
   constructor
   ·rw[hsN];grind
   ·have:2^(32*c)*(r'+1)≤2^(32*c)*2^s:=Nat.mul_le_mul_left _ r1N
    rw[Nat.mul_add]at this
    omega
  ·have h0:=hdl e
   have h1:q'*2^s+r'=0:=by exact_mod_cast h0
   have hr:r'=0:=by omega
   have hqs:q'*2^s=0:=by omega
   have hq:q'=0:=by
    rcases Nat.mul_eq_zero.1 hqs with h|h
    ·exact h
    ·exact absurd h (Nat.ne_of_gt (Nat.two_pow_pos s))
   have hle:2^(32*c)≤2^k:=Nat.pow_le_pow_right (by decide) (by omega)
   rw[hsN,h1,hr,hq]
   constructor<;>simp<;>omega
 obtain⟨k1,k2⟩:=key
 have hdv:m/2^k=q':=by
  rw[k1,Nat.mul_add_div (Nat.two_pow_pos k),Nat.div_eq_of_lt k2,Nat.add_zero]
 have hmd:m%2^k=T'+2^(32*c)*r':=by
  rw[k1,Nat.mul_add_mod,Nat.mod_eq_of_lt k2]
 rw[hdv,hmd]
 refine⟨rfl, ?_⟩
 have hp:=Nat.two_pow_pos (32*c)
 rcases Nat.eq_zero_or_pos r' with e|e
 ·subst e;simp
 ·have:0<2^(32*c)*r':=Nat.mul_pos hp e
  generalize 2^(32*c)*r'=z at*
  rw[decide_eq_true e,decide_eq_true (show 0<T'+z by omega),Bool.or_true]
theorem w_rightN (va:Value) (m k:Nat) (w:World) (ha:Lim w va (dig m)) (hs:Small m) (hk:k≤131072):
    K_ 84 #[va,O k] w fun e w'=>∃u qs,e=.returned (.tuple #[u,.bool (decide (0<m%2^k))])∧Lim w' u qs∧qs.length≤100000∧val qs=((m/2^k:Nat):Int)∧Ext w w':=by
 have hsl:(dig m).length≤4096:=hs
 refine(w_right2 va (dig m) (k/32) (k%32) k w ha (Nat.mod_lt _ (by decide)) (by omega) (by omega) (by omega)).mono ?_
 rintro e w' ⟨u,qs,r,bo,rfl,hbo,hu,hl,hq,r0,r1,hb⟩
 obtain⟨p1,p2⟩:=right_plain (m:=m) (d:=k/32) (s:=k%32) (k:=k) (c:=min (k/32) (dig m).length) (by omega) rfl (val_nonneg hu.lb) hq r0 r1
 exact⟨u,qs,by rw[hbo,p2],hu,hl,p1,hb⟩
theorem neg_floor (m k:Nat):(-(m:Int))/2^k=if 0<m%2^k then -((m/2^k+1:Nat):Int)else -((m/2^k:Nat):Int):=by
 have h2:(2:Int)^k=((2^k:Nat):Int):=by rw[Int.natCast_pow];rfl
 have hp:=Nat.two_pow_pos k
 have hd:=Nat.div_add_mod m (2^k)
 have hm:=Nat.mod_lt m hp
 rw[h2]
 generalize 2^k=P at*
 generalize m/P=q at*
 generalize m%P=r at*
 split
 ·rename_i h0
  refine((Int.ediv_emod_unique (a:= -(m:Int)) (b:=P) (r:=(P:Int)-r) (q:= -((q+1:Nat):Int)) (by omega)).2 ⟨?_,by omega,by omega⟩).1
  have:(m:Int)=P*q+r:=by exact_mod_cast hd.symm
  rw[this,Int.natCast_add,Int.mul_neg,Int.mul_add];omega
 ·rename_i h0
  refine((Int.ediv_emod_unique (a:= -(m:Int)) (b:=P) (r:=0) (q:= -(q:Int)) (by omega)).2 ⟨?_,by omega,by omega⟩).1
  have:(m:Int)=P*q+r:=by exact_mod_cast hd.symm
  rw[this,Int.mul_neg];omega
theorem z_shiftDF (va:Value) (m k:Nat) (w:World) (ha:Sm w va false m) (hs:Small m) (hz:m=0→false=false) (hk0:0<k) (hk:k≤131072):
    K_ 109 #[va,O (-(k:Int))] w fun e w'=>∃u,e=.returned (.tuple #[u,O 0])∧Wid w' u (sg false (m/2^k))∧Ext w w':=by
 obtain⟨u,rfl,hu⟩:=ha
 obtain⟨ao,b1,o1,cap1,rfl, -⟩:=hu.view
 have hck:=z_check_one ((w.alloc (.cells #[.bool false,.slice ao (dig m).length cap1] 24)).alloc (.cells #[.bool false,.slice none 0 0] 24)) _ false m (hu.ext ex_) hs hz
 simp only[World.size_alloc]at hck
 have hri:=fun w1 (k1:Ext w w1)=>w_rightN _ m k w1 (hu.ext k1) hs hk
 obtain⟨rb,hrb⟩:∃rb,decide (0<m%2^k)=rb:=⟨_,rfl⟩
 rw[hrb]at hri
 clear hrb
 have hle:(dig (m/2^k)).length≤4096:=by
  have h1:(m/2^k)≤m:=Nat.div_le_self _ _
  exact Nat.le_trans (dig_mono h1) hs
 obtain⟨R,hR⟩:∃R,(m/2^k)=R:=⟨_,rfl⟩
 have hmd:∀v xs w1,Lim w1 v xs→val xs=(((m/2^k):Nat):Int)→_:=fun v xs w1 h1 h2=>w_madeS false v xs (m/2^k) w1 h1 h2 hle
 obtain⟨Q,hQ⟩:∃Q,m/2^k=Q:=⟨_,rfl⟩
 rw[hR]at hmd ⊢
 rw[hQ]at hri hR
 clear hQ hle
 generalize(dig m).length=la at*
 go_enter Tryz.func109,Tryz.ntmps109
 go_wp2_with (first
  | (go_at_call 77;(with_reducible refine hck.mono ?_);rintro e w1 ⟨rfl,hb⟩;obtain⟨_,_,⟨hc,hf⟩,hz⟩:=hb.c3;(try simp only[wsz]at hz hc hf);clear hck)
  | (go_at_call 84;(with_reducible refine(hri _ ex_).mono ?_);rintro e w2 ⟨y2,qs,rfl,hq,hql,hqv,hb2⟩;obtain⟨qo,_,_,qc,rfl, -⟩:=hq.view;obtain⟨_,_,⟨hc2,hf2⟩,hz2⟩:=hb2.c3;(try simp only[wsz]at hz2 hc2 hf2);clear hri)
  | (go_at_call 76;(with_reducible refine(hmd _ qs _ hq (by rw[hqv,hR])).mono ?_);rintro e w4 ⟨s3,bo3,rfl,hz3,hbo3,hb4⟩;obtain⟨ao3,bb3,oo3,cc3,rfl,_⟩:=hz3.view;obtain⟨_,_,⟨hc4,hf4⟩,hz4⟩:=hb4.c3;(try simp only[wsz]at hz4 hc4 hf4);clear hmd))
 have hE4:Ext ((w.alloc (.cells #[.bool false,.slice ao la cap1] 24)).alloc (.cells #[.bool false,.slice none 0 0] 24)) w4:=ex_
 have hnu:NoU w4 (w.heap.size+1):=by
  have h0:=NoU.new (w.alloc (.cells #[.bool false,.slice ao la cap1] 24)) #[.bool false,.slice none 0 0] 24 (noU2 (by simp) (by simp))
  simp only[World.size_alloc]at h0
  exact h0.ext (by simp) hE4
 exact T_ZS2_2
theorem z_shiftDTr (va:Value) (m k:Nat) (w:World) (ha:Sm w va true m) (hs:Small m) (hz:m=0→true=false) (hk0:0<k) (hk:k≤131072) (hr:0<m%2^k):
    K_ 109 #[va,O (-(k:Int))] w fun e w'=>∃u,e=.returned (.tuple #[u,O 0])∧Wid w' u (sg true (m/2^k+1))∧Ext w w':=by
  obtain⟨u,rfl,hu⟩:=ha
  obtain⟨ao,b1,o1,cap1,rfl, -⟩:=hu.view
  have hck:=z_check_one ((w.alloc (.cells #[.bool true,.slice ao (dig m).length cap1] 24)).alloc (.cells #[.bool false,.slice none 0 0] 24)) _ true m (hu.ext ex_) hs hz
  simp only[World.size_alloc]at hck
  have hri:=fun w1 (k1:Ext w w1)=>w_rightN _ m k w1 (hu.ext k1) hs hk
  rw[decide_eq_true hr]at hri
  have hle:(dig (m/2^k+1)).length≤4096:=by
    have h1:(m/2^k+1)≤m:=by
      have h2 : m / 2 ^ k < m := Nat.div_lt_self (by rcases Nat.eq_zero_or_pos m with e|e; · subst e;simp at hr
                                                     · exact e) (Nat.lt_of_lt_of_le (by decide) (Nat.pow_le_pow_right (n:=2) (by decide) hk0))
      omega
    exact Nat.le_trans (dig_mono h1) hs
  obtain⟨R,hR⟩:∃R,(m/2^k+1)=R:=⟨_,rfl⟩
  have hmd:∀v xs w1,Lim w1 v xs→val xs=(((m/2^k+1):Nat):Int)→_:=fun v xs w1 h1 h2=>w_madeS true v xs (m/2^k+1) w1 h1 h2 hle
  obtain⟨Q,hQ⟩:∃Q,m/2^k=Q:=⟨_,rfl⟩
  rw[hR]at hmd ⊢
  rw[hQ]at hri hR
  clear hQ hle
  generalize(dig m).length=la at*
  go_enter Tryz.func109,Tryz.ntmps109
  go_wp2_with (first
    | (go_at_call 77;(with_reducible refine hck.mono ?_);rintro e w1 ⟨rfl,hb⟩;obtain⟨_,_,⟨hc,hf⟩,hz⟩:=hb.c3;(try simp only[wsz]at hz hc hf);clear hck)
    | (go_at_call 84;(with_reducible refine(hri _ ex_).mono ?_);rintro e w2 ⟨y2,qs,rfl,hq,hql,hqv,hb2⟩;obtain⟨qo,_,_,qc,rfl, -⟩:=hq.view;obtain⟨_,_,⟨hc2,hf2⟩,hz2⟩:=hb2.c3;(try simp only[wsz]at hz2 hc2 hf2);clear hri)
    | (go_at_call 85;go_loud (with_reducible refine(w_plus _ _ qs [1] _ (hq.ext ((Ext.refl _).alloc _)) (lim_one _ 1 u32_one) c_26).mono ?_);rintro e w3 ⟨y3,zs,rfl,hz3q,hval3,hb3⟩;obtain⟨zo,_,_,zc,rfl, -⟩:=hz3q.view;obtain⟨_,_,⟨hc3,hf3⟩,hz3⟩:=hb3.c3;(try simp only[wsz]at hz3 hc3 hf3))
    | (go_at_call 76;(with_reducible refine(hmd _ zs _ (hz3q) (by rw[hval3,hqv];simp[val];omega)).mono ?_);rintro e w4 ⟨s3,bo3,rfl,hz3,hbo3,hb4⟩;obtain⟨ao3,bb3,oo3,cc3,rfl,_⟩:=hz3.view;obtain⟨_,_,⟨hc4,hf4⟩,hz4⟩:=hb4.c3;(try simp only[wsz]at hz4 hc4 hf4);clear hmd))
  exact T_ZS2_1
theorem z_shiftDTn (va:Value) (m k:Nat) (w:World) (ha:Sm w va true m) (hs:Small m) (hz:m=0→true=false) (hk0:0<k) (hk:k≤131072) (hr:¬0<m%2^k):
    K_ 109 #[va,O (-(k:Int))] w fun e w'=>∃u,e=.returned (.tuple #[u,O 0])∧Wid w' u (sg true (m/2^k))∧Ext w w':=by
 obtain⟨u,rfl,hu⟩:=ha
 obtain⟨ao,b1,o1,cap1,rfl, -⟩:=hu.view
 have hck:=z_check_one ((w.alloc (.cells #[.bool true,.slice ao (dig m).length cap1] 24)).alloc (.cells #[.bool false,.slice none 0 0] 24)) _ true m (hu.ext ex_) hs hz
 simp only[World.size_alloc]at hck
 have hri:=fun w1 (k1:Ext w w1)=>w_rightN _ m k w1 (hu.ext k1) hs hk
 rw[decide_eq_false hr]at hri
 have hle:(dig (m/2^k)).length≤4096:=by
  have h1:(m/2^k)≤m:=Nat.div_le_self _ _
  exact Nat.le_trans (dig_mono h1) hs
 obtain⟨R,hR⟩:∃R,(m/2^k)=R:=⟨_,rfl⟩
 have hmd:∀v xs w1,Lim w1 v xs→val xs=(((m/2^k):Nat):Int)→_:=fun v xs w1 h1 h2=>w_madeS true v xs (m/2^k) w1 h1 h2 hle
 obtain⟨Q,hQ⟩:∃Q,m/2^k=Q:=⟨_,rfl⟩
 rw[hR]at hmd ⊢
 rw[hQ]at hri hR
 clear hQ hle
 generalize(dig m).length=la at*
 go_enter Tryz.func109,Tryz.ntmps109
 go_wp2_with (first
  | (go_at_call 77;(with_reducible refine hck.mono ?_);rintro e w1 ⟨rfl,hb⟩;obtain⟨_,_,⟨hc,hf⟩,hz⟩:=hb.c3;(try simp only[wsz]at hz hc hf);clear hck)
  | (go_at_call 84;(with_reducible refine(hri _ ex_).mono ?_);rintro e w2 ⟨y2,qs,rfl,hq,hql,hqv,hb2⟩;obtain⟨qo,_,_,qc,rfl, -⟩:=hq.view;obtain⟨_,_,⟨hc2,hf2⟩,hz2⟩:=hb2.c3;(try simp only[wsz]at hz2 hc2 hf2);clear hri)
  | (go_at_call 76;(with_reducible refine(hmd _ qs _ hq (by rw[hqv,hR])).mono ?_);rintro e w4 ⟨s3,bo3,rfl,hz3,hbo3,hb4⟩;obtain⟨ao3,bb3,oo3,cc3,rfl,_⟩:=hz3.view;obtain⟨_,_,⟨hc4,hf4⟩,hz4⟩:=hb4.c3;(try simp only[wsz]at hz4 hc4 hf4);clear hmd))
 exact T_ZS2_1
theorem z_shiftD (va:Value) (n:Int) (k:Nat) (w:World) (ha:Wid w va n) (hs:Sz n) (hk0:0<k) (hk:k≤131072):
    K_ 109 #[va,O (-(k:Int))] w fun e w'=>∃u,e=.returned (.tuple #[u,O 0])∧Wid w' u (n/2^k)∧Ext w w':=by
 obtain⟨u,rfl,hu⟩:=ha
 by_cases h:n<0
 ·have hd:decide (n<0)=true:=decide_eq_true h
  rw[hd]
  have hn:=neg_floor n.natAbs k
  have e: -(n.natAbs:Int)=n:=by omega
  rw[e]at hn
  rw[hn]
  split
  ·rename_i hr
   exact z_shiftDTr _ n.natAbs k w ⟨u,rfl,hu⟩ hs (by omega) hk0 hk hr
  ·rename_i hr
   exact z_shiftDTn _ n.natAbs k w ⟨u,rfl,hu⟩ hs (by omega) hk0 hk hr
 ·have hd:decide (n<0)=false:=decide_eq_false h
  rw[hd]
  have e:n/2^k=sg false (n.natAbs/2^k):=by
   have h1:(n.natAbs:Int)=n:=by omega
   have h2:((n.natAbs/2^k:Nat):Int)=(n.natAbs:Int)/2^k:=by rw[Int.natCast_ediv,Int.natCast_pow];rfl
   unfold sg
   rw[if_neg (by decide),h2,h1]
  rw[e]
  exact z_shiftDF _ n.natAbs k w ⟨u,rfl,hu⟩ hs (fun _=>rfl) hk0 hk
theorem T_TZ2_1 {p:Prop} (h:p:=by
 rw[hK]at hm ⊢
 clear hu
 go_enter Tryz.func169,Tryz.ntmps169
 go_wp2_with (go_at_call 109;(with_reducible refine(hm _ ex_).mono ?_);rintro e w1 ⟨y1,rfl,⟨y2,rfl,hx⟩,hb1⟩;obtain⟨xo,_,_,xc,rfl, -⟩:=hx.view;obtain⟨_,_,⟨hc1,hf1⟩,hz1⟩:=hb1.c3;(try simp only[wsz]at hz1 hc1 hf1))
 have hnu:NoU w1 (w.heap.size+1):=by
  have h0:=NoU.new (w.alloc (.cells #[.bool sa,.slice ao la cap1] 24)) #[.bool false,.slice none 0 0] 24 (noU2 (by simp) (by simp))
  simp only[World.size_alloc]at h0
  exact h0.ext (by simp) hb1
 have hsz:w.heap.size+1<w1.heap.size:=by omega
 refine bodyPost_ret (v:=.agg #[.bool (decide (R<0)),.slice xo (dig R.natAbs).length xc]) ?_ rfl ⟨_,rfl,⟨_,rfl, ?_⟩, ?_⟩
 ·simp[results,Tryz.results169,go_sem, ↓IntWalk.iteOmega, *]
 ·exact b_8
 ·repeat(first|with_reducible exact Ext.refl _|with_reducible assumption|with_reducible refine Ext.alloc ?_ _|with_reducible refine Ext.setCell ?_ c_27 _|with_reducible refine Ext.drewN ?_ _|with_reducible refine Ext.drew ?_|with_reducible refine Ext.trans ?_ c_7)):p:=h
theorem t_mulZ (va vb:Value) (m k:Int) (w:World) (ha:Wid w va m) (hb0:Wid w vb k) (hs:Sz m) (hs2:Sz k) (hs3:Sz (m*k)):K_ 132 #[va,vb] w fun e w'=>∃u,e=.returned u∧Wid w' u (m*k)∧Ext w w':=by
 obtain⟨u,rfl,hu⟩:=ha
 obtain⟨s,rfl,hv⟩:=hb0
 obtain⟨ao,b1,o1,cap1,rfl, -⟩:=hu.view
 obtain⟨bo,b2,o2,cap2,rfl, -⟩:=hv.view
 have hm:=fun w1 (k1:Ext w w1)=>z_Mul (.agg #[.bool (decide (m<0)),.slice ao (dig m.natAbs).length cap1]) (.agg #[.bool (decide (k<0)),.slice bo (dig k.natAbs).length cap2]) m k w1 ⟨_,rfl,hu.ext k1⟩ ⟨_,rfl,hv.ext k1⟩ hs hs2
 replace hm:=fun w1 (k1:Ext w w1)=>hm w1 k1 hs3
 generalize m*k=R at hm ⊢
 generalize decide (m<0)=sa at hm ⊢
 generalize decide (k<0)=sb at hm ⊢
 generalize(dig m.natAbs).length=la at hm ⊢
 generalize(dig k.natAbs).length=lb at hm ⊢
 clear hu hv
 go_enter Tryz.func132,Tryz.ntmps132
 go_wp2_with (go_at_call 79;(with_reducible refine(hm _ ex_).mono ?_);rintro e w1 ⟨y1,rfl,⟨y2,rfl,hx⟩,hb1⟩;obtain⟨xo,_,_,xc,rfl, -⟩:=hx.view;obtain⟨_,_,⟨hc1,hf1⟩,hz1⟩:=hb1.c3;(try simp only[wsz]at hz1 hc1 hf1))
 have hnu:NoU w1 (w.heap.size+1+1):=by
  have h0:=NoU.new ((w.alloc (.cells #[.bool sa,.slice ao la cap1] 24)).alloc (.cells #[.bool sb,.slice bo lb cap2] 24)) #[.bool false,.slice none 0 0] 24 (noU2 (by simp) (by simp))
  simp only[World.size_alloc]at h0
  exact h0.ext (by simp) hb1
 have hsz:w.heap.size+1+1<w1.heap.size:=by omega
 refine bodyPost_ret (v:=.agg #[.bool (decide (R<0)),.slice xo (dig R.natAbs).length xc]) ?_ rfl ⟨_,rfl,⟨_,rfl, ?_⟩, ?_⟩
 ·simp[results,Tryz.results132,go_sem, ↓IntWalk.iteOmega, *]
 ·exact b_8
 ·exact b_1
theorem t_numZ (n:Int) (w:World) (h0: -9223372036854775808≤n) (h1:n≤9223372036854775807):K_ 134 #[O n] w fun e w'=>∃u,e=.returned u∧Wid w' u n∧Ext w w':=by
 have hf:=fun w=>z_From n w h0 h1
 clear h0 h1
 go_enter Tryz.func134,Tryz.ntmps134
 go_wp2_with (go_at_call 34;(with_reducible refine(hf _).mono ?_);rintro e w1 ⟨y1,rfl,⟨y2,rfl,hu⟩,hb⟩;obtain⟨ao,b1,o1,cap1,rfl, -⟩:=hu.view;obtain⟨_,_,⟨hc,hf⟩,hz⟩:=hb.c3;(try simp only[wsz]at hz hc hf))
 have hB:NoU w1 w.heap.size:=(NoU.new w _ _ (noU2 (by simp) (by simp))).ext (by simp) hb
 refine bodyPost_ret (v:=.agg #[.bool (decide (n<0)),.slice ao (dig n.natAbs).length cap1]) ?_ rfl ⟨_,rfl,⟨_,rfl, ?_⟩, ?_⟩
 ·simp[results,Tryz.results134,go_sem, ↓IntWalk.iteOmega, *]
 ·exact b_9
 ·exact b_1
theorem t_sign (va:Value) (m:Int) (w:World) (ha:Wid w va m) (hs:Sz m):
    K_ 73 #[va] w fun e w'=>e=.returned (O (cmpI m 0))∧Ext w w':=by
 obtain⟨u,rfl,hu⟩:=ha
 obtain⟨ao,b1,o1,cap1,rfl, -⟩:=hu.view
 have hto:=fun w1 (k1:Ext w w1)=>z_Sign (.agg #[.bool (decide (m<0)),.slice ao (dig m.natAbs).length cap1]) m w1 ⟨_,rfl,hu.ext k1⟩ hs
 generalize cmpI m 0=R at hto ⊢
 generalize decide (m<0)=sa at hto ⊢
 generalize(dig m.natAbs).length=la at hto ⊢
 go_enter Tryz.func73,Tryz.ntmps73
 go_wp2_with (go_at_call 110;(with_reducible refine(hto _ ex_).mono ?_);rintro e w2 ⟨rfl,hb2⟩)
 go_ret
 exact⟨rfl,ex_⟩
theorem t_shiftU (va:Value) (n:Int) (k:Nat) (w:World) (ha:Wid w va n) (hs:Sz n) (hk:k≤131072) (hs3:Sz (n*2^k)):
    K_ 169 #[va,O (k:Int)] w fun e w'=>∃u,e=.returned u∧Wid w' u (n*2^k)∧Ext w w':=by
 obtain⟨u,rfl,hu⟩:=ha
 obtain⟨ao,b1,o1,cap1,rfl, -⟩:=hu.view
 have hm:=fun w1 (k1:Ext w w1)=>z_shiftU (.agg #[.bool (decide (n<0)),.slice ao (dig n.natAbs).length cap1]) n k w1 ⟨_,rfl,hu.ext k1⟩ hs hk hs3
 generalize n*2^k=R at hm ⊢
 generalize decide (n<0)=sa at hm ⊢
 generalize(dig n.natAbs).length=la at hm ⊢
 obtain⟨K,hK⟩:∃K:Int,(k:Int)=K:=⟨_,rfl⟩
 exact T_TZ2_1
theorem t_shiftD (va:Value) (n:Int) (k:Nat) (w:World) (ha:Wid w va n) (hs:Sz n) (hk0:0<k) (hk:k≤131072):
    K_ 169 #[va,O (-(k:Int))] w fun e w'=>∃u,e=.returned u∧Wid w' u (n/2^k)∧Ext w w':=by
 obtain⟨u,rfl,hu⟩:=ha
 obtain⟨ao,b1,o1,cap1,rfl, -⟩:=hu.view
 have hm:=fun w1 (k1:Ext w w1)=>z_shiftD (.agg #[.bool (decide (n<0)),.slice ao (dig n.natAbs).length cap1]) n k w1 ⟨_,rfl,hu.ext k1⟩ hs hk0 hk
 generalize n/2^k=R at hm ⊢
 generalize decide (n<0)=sa at hm ⊢
 generalize(dig n.natAbs).length=la at hm ⊢
 obtain⟨K,hK⟩:∃K:Int,(-(k:Int))=K:=⟨_,rfl⟩
 exact T_TZ2_1
theorem w_one (w:World):K_ 106 #[] w fun e w'=>∃u,e=.returned u∧Nn w' u 1∧Ext w w':=by
 have hF:∀w,K_ 34 #[O 1] w fun e w'=>∃u,e=.returned u∧Nn w' u 1∧Ext w w':=fun w=>w_From 1 w (by decide)
 go_enter Tryz.func106,Tryz.ntmps106
 go_wp2_with (go_at_call 34;(with_reducible refine(hF _).mono ?_);rintro e w1 ⟨y1,rfl,⟨y2,rfl,hu⟩,hb⟩;obtain⟨ao,b1,o1,cap1,rfl, -⟩:=hu.view;obtain⟨_,_,⟨hc,hf⟩,hz⟩:=hb.c3;(try simp only[wsz]at hz hc hf))
 have hB:NoU w1 w.heap.size:=(NoU.new w _ _ (noU2 (by simp) (by simp))).ext (by simp) hb
 refine bodyPost_ret (v:=.agg #[.bool false,.slice ao (dig 1).length cap1]) ?_ rfl ⟨_,rfl,⟨_,rfl, ?_⟩, ?_⟩
 ·simp[results,Tryz.results106,go_sem, ↓IntWalk.iteOmega, *]
 ·exact b_9
 ·exact b_1
theorem w_must0 (va:Value) (m:Nat) (w:World) (ha:Nn w va m):K_ 189 #[va,O 0] w fun e w'=>e=.returned va∧Ext w w':=by
 obtain⟨u,rfl,hu⟩:=ha
 obtain⟨ao,b1,o1,cap1,rfl, -⟩:=hu.view
 go_enter Tryz.func189,Tryz.ntmps189
 go_wp2
 refine bodyPost_ret (v:=.agg #[.bool false,.slice ao (dig m).length cap1]) ?_ rfl ⟨rfl, ?_⟩
 ·simp[results,Tryz.results189,go_sem, ↓IntWalk.iteOmega, *]
 ·exact b_1
theorem t_div (va vb:Value) (m k:Nat) (w:World) (ha:Nn w va m) (hb0:Nn w vb k) (hs:Small m) (hs2:Small k) (hk0:0<k):K_ 145 #[va,vb] w fun e w'=>∃u,e=.returned u∧Nn w' u (m/k)∧Ext w w':=by
 obtain⟨u,rfl,hu⟩:=ha
 obtain⟨s,rfl,hv⟩:=hb0
 obtain⟨ao,b1,o1,cap1,rfl, -⟩:=hu.view
 obtain⟨bo,b2,o2,cap2,rfl, -⟩:=hv.view
 have hm:=fun w1 (k1:Ext w w1)=>w_DivMod (.agg #[.bool false,.slice ao (dig m).length cap1]) (.agg #[.bool false,.slice bo (dig k).length cap2]) m k w1 ⟨_,rfl,hu.ext k1⟩ ⟨_,rfl,hv.ext k1⟩ hs hk0 hs2
 obtain⟨R,hR⟩:∃R,m/k=R:=⟨_,rfl⟩
 rw[hR]at hm ⊢
 clear hR
 go_enter Tryz.func145,Tryz.ntmps145
 go_wp2_with (go_at_call 98;(with_reducible refine(hm _ ex_).mono ?_);rintro e w1 ⟨y1,y3,rfl,⟨y2,rfl,hx⟩,⟨y4,rfl,hy⟩,hb1⟩;obtain⟨xo,_,_,xc,rfl, -⟩:=hx.view;obtain⟨yo,_,_,yc,rfl, -⟩:=hy.view;obtain⟨_,_,⟨hc1,hf1⟩,hz1⟩:=hb1.c3;(try simp only[wsz]at hz1 hc1 hf1))
 have hnu:NoU ((w1.alloc (.cells #[.bool false,.slice xo (dig R).length xc] 24)).alloc (.cells #[.bool false,.slice yo (dig (m%k)).length yc] 24)) (w.heap.size+1+1):=by
  have h0:=NoU.new ((w.alloc (.cells #[.bool false,.slice ao (dig m).length cap1] 24)).alloc (.cells #[.bool false,.slice bo (dig k).length cap2] 24)) #[.bool false,.slice none 0 0] 24 (noU2 (by simp) (by simp))
  simp only[World.size_alloc]at h0
  exact h0.ext (by simp) (ex_:Ext (((w.alloc (.cells #[.bool false,.slice ao (dig m).length cap1] 24)).alloc (.cells #[.bool false,.slice bo (dig k).length cap2] 24)).alloc (.cells #[.bool false,.slice none 0 0] 24)) ((w1.alloc (.cells #[.bool false,.slice xo (dig R).length xc] 24)).alloc (.cells #[.bool false,.slice yo (dig (m%k)).length yc] 24)))
 refine bodyPost_ret (v:=.agg #[.bool false,.slice xo (dig R).length xc]) ?_ rfl ⟨_,rfl,⟨_,rfl, ?_⟩, ?_⟩
 ·simp[results,Tryz.results145,go_sem, ↓IntWalk.iteOmega, *]
 ·exact Lim.box (Lim.box (hx.ext (by repeat(first|with_reducible exact Ext.refl _|with_reducible refine Ext.alloc ?_ _))) hnu) (NoU.set hnu (fun z e=>by cases e))
 ·exact b_1
theorem T_TA_3 {p:Prop} (h:p:=by
 clear hK K hH
 rename_i hH
 try simp only[sx_]
 refine wpAnyH_done c_3 ?_ _
 go_wp2_with fail
 go_meet
 exact⟨_,rfl,hH,c_33,hst⟩):p:=h
theorem T_TA_2 {p:Prop} (h:p:=by
 obtain⟨ao2,cap2,rfl,hy3⟩:=hy2.open
 replace hbk:=hbk.ext hx
 refine hK.out _ _ ?_ fun _=> ?_
 ·exact b_10
 clear hK K hH
 rename_i hH
 try simp only[sx_]
 refine rh1 7 rfl fun K hK=> ?_
 obtain⟨⟨xa,h3a⟩,⟨xb,h3b⟩,h3f,hnu,hsl⟩:=hbk
 have hst:=Bx2.store ⟨⟨xa,h3a⟩,⟨xb,h3b⟩,h3f,hnu,hsl⟩ hy3.wid
 go_simp
 refine hK.out _ _ ?_ fun _=> ?_
 ·exact b_11
 exact T_TA_3):p:=h
theorem T_TA_1 {p:Prop} (h:p:=by
 clear hK K hH
 rename_i hH
 try simp only[sx_]
 refine rh1 5 rfl fun K hK=> ?_
 go_simp
 (go_at_call 145;(with_reducible refine(t_div _ _ t (n*n) _ hN5 hn6 hs (small_bits (k:=64) (by omega) (by decide)) hn0).mono ?_);rintro e w4 ⟨y7,rfl,hy7,hx⟩)
 obtain⟨ao7,cap7,rfl,hy8⟩:=hy7.open
 replace hWT:=WAt.ext hWT hx
 refine hK.out _ _ ?_ fun _=> ?_
 ·exact b_12
 clear hK K hH
 rename_i hH
 try simp only[sx_]
 refine rh1 6 rfl fun K hK=> ?_
 obtain⟨⟨xa,h3a⟩,⟨xb,h3b⟩,h3f,hnu,hsl⟩:=hWT.box
 have hst:=Bx2.store hWT.box hy8.wid
 go_simp
 refine hK.out _ _ ?_ fun _=> ?_
 ·exact b_13
 clear hK K hH
 rename_i hH
 try simp only[sx_]
 refine wpAnyH_done c_3 ?_ _
 have hg5:=hWg.grown hWcT hH (by omega)
 obtain⟨ao9,cap9,c90,c91,hN9,hf9⟩:=WAt.openN hg5
 have hR9:Bx2 _ w.heap.size:=Bx2.grown hRb hH (by omega)
 obtain⟨⟨xc,h4a⟩,⟨xd,h4b⟩,h4f,hnv,hsm⟩:=hR9
 go_wp2_with fail
 refine bodyPost_ret (v:=.agg #[.bool false,.slice ao9 (dig (t/(2*i+1))).length cap9]) ?_ rfl ⟨_,rfl, ?_, ?_, ?_⟩
 ·simp[results,Tryz.results176,go_sem, ↓IntWalk.iteOmega, *]
 ·obtain⟨u9,e9,hu9⟩:=hN9
  cases e9
  exact⟨_,rfl,Lim.box (Lim.box hu9 hnv) (NoU.set hnv (fun z e=>by cases e))⟩
 ·exact(WAt.other (WAt.other hst (by omega) hnv) (by omega) (NoU.set hnv (fun z e=>by cases e)))
 ·exact((hGW.trans hH).new (Nat.le_refl _) _).new (Nat.le_refl _) _):p:=h
theorem t_arc1 (T Bn i t n:Nat) (w:World) (hT:WAt w T (t:Int)) (hBn:w.cell? ⟨Bn,0,none⟩=some (O n)) (hne:Bn≠T) (hi:i≤1000000) (hs:Small t) (hn0:0<n*n) (hnn:n*n≤1000000):
    K_ 176 #[O i,.pointer (some ⟨T,0,none⟩),.pointer (some ⟨Bn,0,none⟩)] w fun e w'=>∃u,e=.returned u∧Nn w' u (t/(2*i+1))∧WAt w' T ((t/(n*n):Nat):Int)∧GB T w w':=by
 have hTl:=hT.lt
 have hBl:Bn<w.heap.size:=World.block_lt_of_cell? w _ hBn
 have hnI:(n:Int)*n≤1000000:=by rw[←Int.natCast_mul];omega
 have hnI0:0<(n:Int)*n:=by rw[←Int.natCast_mul];omega
 have hw1:Hid (IntKind.i64.wrap (2*(i:Int))=2*i):=by show _=_;rw[IntKind.wrap_i64];omega
 have hw2:Hid (IntKind.i64.wrap (2*(i:Int)+1)=2*i+1):=by show _=_;rw[IntKind.wrap_i64];omega
 have hw3:Hid (IntKind.i64.wrap ((n:Int)*n)=(n:Int)*n):=by show _=_;rw[IntKind.wrap_i64];omega
 have hTw:=hT.ext ((Ext.refl w).alloc (.cells #[.bool false,.slice none 0 0] 24))
 have hRb0:=Bx2.fresh w
 obtain⟨aoT,capT,cW0,cW1,hT1,hfT⟩:=hTw.openN
 go_enter Tryz.func176,Tryz.ntmps176
 go_upto_region 1 with fail
 go_cut [5,10,11] (fun s5 s10 s11 wx=>∃g,s5=.pointer (some ⟨g,0,none⟩)∧Ext (w.alloc (.cells #[.bool false,.slice none 0 0] 24)) wx∧(w.alloc (.cells #[.bool false,.slice none 0 0] 24)).heap.size≤g∧WAt wx g ((t/(2*i+1):Nat):Int))
 case first=>
  refine wp_region_held_drew (S:=(fun w0=>Ext (w.alloc (.cells #[.bool false,.slice none 0 0] 24)) w0)) c_3 ?_ (fun hH=> ?_)
  ·exact(Ext.refl _).drew
  try simp only[sx_]
  refine tk 0 rfl (by intro w0 hSw;have q0:=(Ext.cells hSw).1 T 0 c_26;have q1:=(Ext.cells hSw).1 T 1 c_26;rw[cW0]at q0;rw[cW1]at q1;go_simp;try with_reducible rfl) ?_
  try simp only[sx_]
  refine sK 1 ?_
  refine sK 2 ?_
  refine sK 3 ?_
  refine rh2 4 6 rfl rfl (fun K hK=> ?_) fun K hK=> ?_
  ·go_simp
   rw[hw1.out,hw2.out]
   (go_at_call 134;(with_reducible refine(t_numZ (2*(i:Int)+1) _ (by omega) (by omega)).mono ?_);rintro e w1 ⟨y1,rfl,hy1,hx⟩)
   have hn1:Nn w1 y1 (2*i+1):=hy1.natE (by omega)
   refine hK.out _ _ ?_ fun _=> ?_
   ·exact b_10
   clear hK K hH
   rename_i hH
   try simp only[sx_]
   refine rh2 5 6 rfl rfl (fun K hK=> ?_) fun K hK=> ?_
   ·go_simp
    (go_at_call 145;(with_reducible refine(t_div _ _ t (2*i+1) _ (hT1.ext hH) hn1 hs (small_bits (k:=64) (by omega) (by decide)) (by omega)).mono ?_);rintro e w2 ⟨y2,rfl,hy2,hx⟩)
    obtain⟨ao2,cap2,rfl,hy3⟩:=hy2.open
    refine hK.out _ _ ?_ fun _=> ?_
    ·exact b_10
    clear hK K hH
    rename_i hH
    try simp only[sx_]
    refine rh1 6 rfl fun K hK=> ?_
    have hold:=hH
    obtain⟨hbk,hge⟩:=fresh_of (W:=(w.alloc (.cells #[.bool false,.slice none 0 0] 24))) hH
    (try simp only[size_drew,World.size_alloc]at hbk hge)
    go_simp
    refine hK.out _ _ ?_ fun _=> ?_
    ·exact b_14
    clear hK K hH
    rename_i hH
    try simp only[sx_]
    refine rh1 7 rfl fun K hK=> ?_
    have hst:=WAt.lit hy3.wid
    go_simp
    refine hK.out _ _ ?_ fun _=> ?_
    ·(try dsimp only);exact Ext.alloc hold _
    exact T_TA_3
   ·have hold:=hH
    obtain⟨hbk,hge⟩:=fresh_of (W:=(w.alloc (.cells #[.bool false,.slice none 0 0] 24))) hH
    (try simp only[size_drew,World.size_alloc]at hbk hge)
    go_simp
    refine hK.out _ _ ?_ fun _=> ?_
    ·exact b_14
    clear hK K hH
    rename_i hH
    try simp only[sx_]
    refine rh1 5 rfl fun K hK=> ?_
    go_simp
    (go_at_call 145;(with_reducible refine(t_div _ _ t (2*i+1) _ (hT1.ext hH) (hn1.ext ((Ext.refl _).alloc _)) hs (small_bits (k:=64) (by omega) (by decide)) (by omega)).mono ?_);rintro e w2 ⟨y2,rfl,hy2,hx⟩)
    exact T_TA_2
  ·have hold:=hH
   obtain⟨hbk,hge⟩:=fresh_of (W:=(w.alloc (.cells #[.bool false,.slice none 0 0] 24))) hH
   (try simp only[size_drew,World.size_alloc]at hbk hge)
   go_simp
   refine hK.out _ _ ?_ fun _=> ?_
   ·exact b_14
   clear hK K hH
   rename_i hH
   try simp only[sx_]
   refine rh1 4 rfl fun K hK=> ?_
   go_simp
   rw[hw1.out,hw2.out]
   (go_at_call 134;(with_reducible refine(t_numZ (2*(i:Int)+1) _ (by omega) (by omega)).mono ?_);rintro e w1 ⟨y1,rfl,hy1,hx⟩)
   have hn1:Nn w1 y1 (2*i+1):=hy1.natE (by omega)
   replace hbk:=hbk.ext hx
   refine hK.out _ _ ?_ fun _=> ?_
   ·exact b_10
   clear hK K hH
   rename_i hH
   try simp only[sx_]
   refine rh1 5 rfl fun K hK=> ?_
   go_simp
   (go_at_call 145;(with_reducible refine(t_div _ _ t (2*i+1) _ (hT1.ext hH) hn1 hs (small_bits (k:=64) (by omega) (by decide)) (by omega)).mono ?_);rintro e w2 ⟨y2,rfl,hy2,hx⟩)
   exact T_TA_2
 case rest=>
  obtain⟨g,rfl,hE,hgW,hWg⟩:=hcut
  have hE0:Ext w wc:=Ext.trans ((Ext.refl w).alloc _) hE
  have hsz:=hE.size
  (try simp only[World.size_alloc]at hgW hsz)
  have hWT0:=hTw.ext hE
  have hWT:=WAt.ext hWT0 ((Ext.refl wc).drew)
  have hWcT:=hWT0.noU
  have hRb:=hRb0.ext hE
  have cWn:=(hE0.cells.1 Bn 0 hBl).trans hBn
  have hBl2:Bn<wc.heap.size:=by omega
  have hTl2:T<wc.heap.size:=by omega
  have hgl:=hWg.lt
  have hGW:GB T w wc:=GB.ext hE0
  clear hE hTw hRb0 cW0 cW1 hT1 hfT hT hBn
  go_upto_region 2 with fail
  refine wp_region_held_drew (S:=(fun w0=>GB T wc w0)) c_3 ?_ (fun hH=> ?_)
  ·exact(GB.refl _ _).drew
  try simp only[sx_]
  refine tk 1 rfl (by intro w0 hSw;have q0:=GB.cell (o:=0) hSw hBl2 hne;rw[cWn]at q0;go_simp;try with_reducible rfl) ?_
  try simp only[sx_]
  refine tk 2 rfl (by intro w0 hSw;have q0:=GB.cell (o:=0) hSw hBl2 hne;rw[cWn]at q0;go_simp;try with_reducible rfl) ?_
  try simp only[sx_]
  refine sK 3 ?_
  refine rh2 0 4 rfl rfl (fun K hK=> ?_) fun K hK=> ?_
  ·obtain⟨ao5,cap5,cT0,cT1,hN5,hfT5⟩:=WAt.openN hWT
   go_simp
   refine hK.out _ _ ?_ fun _=> ?_
   ·(try dsimp only);exact hH
   clear hK K hH
   rename_i hH
   try simp only[sx_]
   refine rh1 4 rfl fun K hK=> ?_
   go_simp
   rw[hw3.out]
   (go_at_call 134;(with_reducible refine(t_numZ ((n:Int)*n) _ (by omega) (by omega)).mono ?_);rintro e w3 ⟨y6,rfl,hy6,hx⟩)
   have hn6:Nn w3 y6 (n*n):=hy6.natE (by rw[Int.natCast_mul])
   replace hWT:=WAt.ext hWT hx
   replace hN5:=hN5.ext hx
   refine hK.out _ _ ?_ fun _=> ?_
   ·exact b_12
   exact T_TA_1
  ·go_simp
   rw[hw3.out]
   (go_at_call 134;(with_reducible refine(t_numZ ((n:Int)*n) _ (by omega) (by omega)).mono ?_);rintro e w3 ⟨y6,rfl,hy6,hx⟩)
   have hn6:Nn w3 y6 (n*n):=hy6.natE (by rw[Int.natCast_mul])
   replace hWT:=WAt.ext hWT hx
   refine hK.out _ _ ?_ fun _=> ?_
   ·exact b_12
   clear hK K hH
   rename_i hH
   try simp only[sx_]
   refine rh1 0 rfl fun K hK=> ?_
   obtain⟨ao5,cap5,cT0,cT1,hN5,hfT5⟩:=WAt.openN hWT
   go_simp
   refine hK.out _ _ ?_ fun _=> ?_
   ·(try dsimp only);exact hH
   exact T_TA_1
end Go.Proofs.YtaoioncjmfcolaaGreat
namespace Go.Proofs.YtaoioncjmfcolaaGreat
def okN (s:Int):Bool:=decide (s.natAbs.log2<2000)
theorem okN.sz {s:Int} (h:okN s=true):Sz s:=by
 have h1:s.natAbs.log2<2000:=of_decide_eq_true h
 by_cases h0:s.natAbs=0
 ·unfold Sz Small
  rw[h0];decide
 ·generalize hk:(2000:Nat)=k at h1
  exact small_bits (k:=k) ((Nat.log2_lt h0).1 h1) (by omega)
def atanF (n:Nat):Nat→Nat→Nat→Int→Option (Int×Nat)
 |0,_,_,_=>none
 |F+1,i,t,s=>if okN s=true then(if t/(2*i+1)=0 then some (s,i)else atanF n F (i+1) (t/(n*n)) (if i%2=0 then s+(t/(2*i+1):Nat)else s-(t/(2*i+1):Nat)))else none
theorem atanF_succ {n F i t:Nat} {s:Int} {r:Int×Nat} (h:atanF n F i t s=some r):∃G,F=G+1∧okN s=true∧((t/(2*i+1)=0∧r=(s,i))∨(¬t/(2*i+1)=0∧atanF n G (i+1) (t/(n*n)) (if i%2=0 then s+(t/(2*i+1):Nat)else s-(t/(2*i+1):Nat))=some r)):=by
 match F,h with
 |0,h=>simp[atanF]at h
 |G+1,h=>
  unfold atanF at h
  split at h
  ·rename_i hs
   refine⟨G,rfl,hs, ?_⟩
   split at h
   ·rename_i h0
    exact Or.inl ⟨h0,by simpa using h.symm⟩
   ·rename_i h0
    exact Or.inr ⟨h0,h⟩
  ·cases h
theorem atanF_ok {n F i t:Nat} {s:Int} {r:Int×Nat} (h:atanF n F i t s=some r):okN s=true:=by
 obtain⟨_,_,h,_⟩:=atanF_succ h;exact h
theorem atanF_res {n:Nat}:∀{F i t:Nat} {s:Int} {r:Int×Nat},atanF n F i t s=some r→okN r.1=true:=by
 intro F
 induction F with
 |zero=>intro i t s r h;simp[atanF]at h
 |succ G ih=>
  intro i t s r h
  obtain⟨G',e,hs,h|h⟩:=atanF_succ h
  ·rw[h.2];exact hs
  ·cases e;exact ih h.2
end Go.Proofs.YtaoioncjmfcolaaGreat
namespace Go.Proofs.YtaoioncjmfcolaaGreat
open Go.RowKit
theorem t_sumA (T Bn t n F:Nat) (v:Int) (cnt:Nat) (w:World) (hT:WAt w T (t:Int)) (hBn:w.cell? ⟨Bn,0,none⟩=some (O n)) (hne:Bn≠T) (hs:Small t) (hn0:0<n*n) (hnn:n*n≤1000000) (hF:F≤100000) (hr:atanF n F 0 t 0=some (v,cnt)):
    K_ 175 #[.func (.func 176) #[] #[.pointer (some ⟨T,0,none⟩),.pointer (some ⟨Bn,0,none⟩)]] w fun e w'=>∃u,e=.returned (.tuple #[u,O cnt])∧Wid w' u v∧GB T w w':=by
 have hTl:=hT.lt
 have hBl:Bn<w.heap.size:=World.block_lt_of_cell? w _ hBn
 have hb0:=Bx2.fresh w
 have hn1:=hn0
 have hTS:w.heap.size≠T:=by omega
 have hW0:WAt (w.alloc (.cells #[.bool false,.slice none 0 0] 24)) w.heap.size 0:=WAt.lit ⟨_,rfl,Lim.nil w⟩
 have hT0:=hT.ext ((Ext.refl w).alloc (.cells #[.bool false,.slice none 0 0] 24))
 go_enter Tryz.func175,Tryz.ntmps175
 go_wp2_with fail
 go_loopw [4,3] (fun a b wr=>∃(i t' G:Nat) (s:Int),a=O i∧b=O i∧i+G=F∧Hid (atanF n G i t' s=some (v,cnt))∧Hid (Small t')∧Hid (WAt wr T (t':Int))∧Hid (WAt wr w.heap.size s)∧Hid (GB T w wr)) (fun a _ _=>F-(intOf a).toNat)
 case atStart=>exact⟨0,t,F,0,rfl,rfl,by omega,hr,hs,hT0,hW0,GB.ext ((Ext.refl w).alloc _)⟩
 case round=>
  obtain⟨i,t',G,s,rfl,rfl,hiG,hA,hS,hWT,hWS,hG⟩:=hrel
  obtain⟨G',rfl,hok,hA'⟩:=atanF_succ hA.out
  have hi6:i≤1000000:=by omega
  have cB:=(hG.out.cell (o:=0) hBl hne).trans hBn
  have hS2:Hid (Small (t'/(n*n))):=Small.le hS.out (Nat.div_le_self _ _)
  have hSlt:=hWS.out.lt
  have hTlt:=hWT.out.lt
  have hxs:Small (t'/(2*i+1)):=Small.le hS.out (Nat.div_le_self _ _)
  obtain⟨x,ex⟩:∃x,t'/(2*i+1)=x:=⟨_,rfl⟩
  rw[ex]at hA' hxs
  have hsx:Sz (x:Int):=by unfold Sz;rw[Int.natAbs_natCast];exact hxs
  clear hb0 hW0 hT0 hxs hT hBn
  rcases hA' with⟨h0,hres⟩| ⟨h0,hA'⟩
  ·subst h0
   obtain⟨hv1,hv2⟩:v=s∧cnt=i:=by simpa using hres
   subst hv1
   subst hv2
   have hsg:∀v w2,Wid w2 v ((0:Nat):Int)→K_ 73 #[v] w2 fun e w'=>e=.returned (O 0)∧Ext w2 w':=fun v w2 hv=>t_sign v _ w2 hv hsx
   go_wp2_with (first
    | (go_at_call 176;go_loud (with_reducible refine(t_arc1 T Bn cnt t' n _ hWT.out cB hne hi6 hS.out hn1 hnn).mono ?_);rintro e w1 ⟨y1,rfl,hy1,hT1,hg1⟩;rw[ex]at hy1;obtain⟨ao1,cap1,rfl,hy2⟩:=hy1.open;have hS1:=hWS.out.grown hWT.out.noU hg1 hTS;obtain⟨aoS,capS,s0,s1,hWidS,hfS⟩:=hS1.open;have s1l:=hS1.lt;have hzg:=hg1.size)
    | (go_at_call 73;go_loud (with_reducible refine(hsg _ _ (hy2.wid.ext ex_)).mono ?_);rintro e w2 ⟨rfl,hb2⟩;obtain⟨_,_,⟨hc2,hf2⟩,hz2⟩:=hb2.c3;(try simp only[wsz]at hz2 hc2 hf2)))
   have hE2:Ext w1 w2:=ex_
   have hS3:=hS1.ext hE2
   have hnS:=hS3.noU
   have hWid2:=(hWidS.ext hE2).box (B:=w.heap.size) (j:=0) (x:=.bool (decide (v<0))) hnS
   have hWid3:=hWid2.box (B:=w.heap.size) (j:=1) (x:=.slice aoS (dig v.natAbs).length capS) (NoU.set hnS (fun z e=>by cases e))
   have hG4:GB T w ((w2.setCell ⟨w.heap.size,0,none⟩ (.bool (decide (v<0)))).setCell ⟨w.heap.size,1,none⟩ (.slice aoS (dig v.natAbs).length capS)):=(((hG.out.trans hg1).trans (GB.ext hE2)).new (Nat.le_refl _) _).new (Nat.le_refl _) _
   refine bodyPost_ret (v:=.tuple #[.agg #[.bool (decide (v<0)),.slice aoS (dig v.natAbs).length capS],O cnt]) ?_ rfl ⟨_,rfl,hWid3,hG4⟩
   simp[results,Tryz.results175,go_sem, ↓IntWalk.iteOmega, *]
  ·have hsg:∀v w2,Wid w2 v (x:Int)→K_ 73 #[v] w2 fun e w'=>e=.returned (O 1)∧Ext w2 w':=fun v w2 hv=>by
    have:=t_sign v _ w2 hv hsx
    rwa [cmp_gt (show(0:Int)<(x:Int) by omega)]at this
   by_cases hev:i%2=0
   ·have hevI:((i:Int)%2==0)=true:=by simp;omega
    rw[if_pos hev]at hA'
    have hok2:=atanF_ok hA'
    go_wp2_with (first
     | (go_at_call 176;go_loud (with_reducible refine(t_arc1 T Bn i t' n _ hWT.out cB hne hi6 hS.out hn1 hnn).mono ?_);rintro e w1 ⟨y1,rfl,hy1,hT1,hg1⟩;rw[ex]at hy1;obtain⟨ao1,cap1,rfl,hy2⟩:=hy1.open;have hS1:=hWS.out.grown hWT.out.noU hg1 hTS;obtain⟨aoS,capS,s0,s1,hWidS,hfS⟩:=hS1.open;have s1l:=hS1.lt;have hzg:=hg1.size)
     | (go_at_call 73;go_loud (with_reducible refine(hsg _ _ (hy2.wid.ext ex_)).mono ?_);rintro e w2 ⟨rfl,hb2⟩;obtain⟨_,_,⟨hc2,hf2⟩,hz2⟩:=hb2.c3;(try simp only[wsz]at hz2 hc2 hf2))
     | (go_at_call 133;go_loud (with_reducible refine(t_addZ _ _ s (x:Int) _ (hWidS.ext ex_) (hy2.wid.ext ex_) (okN.sz hok) hsx (okN.sz hok2)).mono ?_);rintro e w3 ⟨y3,rfl,hy3,hb3⟩;obtain⟨s3,ao3,n3,cap3,rfl,hy4⟩:=hy3.open;obtain⟨_,_,⟨hc3,hf3⟩,hz3⟩:=hb3.c3;(try simp only[wsz]at hz3 hc3 hf3)))
    have hE3:Ext w1 w3:=ex_
    have hS3:=hS1.ext hE3
    have hT3:=hT1.ext hE3
    have hst:=Bx2.store hS3.box hy4
    have hnS:=hS3.noU
    replace hst:Hid _:=hst
    replace hA':Hid _:=hA'
    have hT4:Hid (WAt ((w3.setCell ⟨w.heap.size,0,none⟩ (.bool s3)).setCell ⟨w.heap.size,1,none⟩ (.slice ao3 n3 cap3)) T ((t'/(n*n):Nat):Int)):=WAt.other (WAt.other hT3 (by omega) hnS) (by omega) (NoU.set hnS (fun z e=>by cases e))
    have hG4:Hid (GB T w ((w3.setCell ⟨w.heap.size,0,none⟩ (.bool s3)).setCell ⟨w.heap.size,1,none⟩ (.slice ao3 n3 cap3))):=(((hG.out.trans hg1).trans (GB.ext hE3)).new (Nat.le_refl _) _).new (Nat.le_refl _) _
    go_roundw
    case rel=>exact⟨i+1,t'/(n*n),G',s+(x:Int),by go_num,by go_num,by omega,hA',hS2,hT4,hst,hG4⟩
    case measure=>simp[intOf];omega
   ·have hevI:((i:Int)%2==0)=false:=by simp;omega
    rw[if_neg hev]at hA'
    have hok2:=atanF_ok hA'
    go_wp2_with (first
     | (go_at_call 176;go_loud (with_reducible refine(t_arc1 T Bn i t' n _ hWT.out cB hne hi6 hS.out hn1 hnn).mono ?_);rintro e w1 ⟨y1,rfl,hy1,hT1,hg1⟩;rw[ex]at hy1;obtain⟨ao1,cap1,rfl,hy2⟩:=hy1.open;have hS1:=hWS.out.grown hWT.out.noU hg1 hTS;obtain⟨aoS,capS,s0,s1,hWidS,hfS⟩:=hS1.open;have s1l:=hS1.lt;have hzg:=hg1.size)
     | (go_at_call 73;go_loud (with_reducible refine(hsg _ _ (hy2.wid.ext ex_)).mono ?_);rintro e w2 ⟨rfl,hb2⟩;obtain⟨_,_,⟨hc2,hf2⟩,hz2⟩:=hb2.c3;(try simp only[wsz]at hz2 hc2 hf2))
     | (go_at_call 131;go_loud (with_reducible refine(t_subZ _ _ s (x:Int) _ (hWidS.ext ex_) (hy2.wid.ext ex_) (okN.sz hok) hsx (okN.sz hok2)).mono ?_);rintro e w3 ⟨y3,rfl,hy3,hb3⟩;obtain⟨s3,ao3,n3,cap3,rfl,hy4⟩:=hy3.open;obtain⟨_,_,⟨hc3,hf3⟩,hz3⟩:=hb3.c3;(try simp only[wsz]at hz3 hc3 hf3)))
    have hE3:Ext w1 w3:=ex_
    have hS3:=hS1.ext hE3
    have hT3:=hT1.ext hE3
    have hst:=Bx2.store hS3.box hy4
    have hnS:=hS3.noU
    replace hst:Hid _:=hst
    replace hA':Hid _:=hA'
    have hT4:Hid (WAt ((w3.setCell ⟨w.heap.size,0,none⟩ (.bool s3)).setCell ⟨w.heap.size,1,none⟩ (.slice ao3 n3 cap3)) T ((t'/(n*n):Nat):Int)):=WAt.other (WAt.other hT3 (by omega) hnS) (by omega) (NoU.set hnS (fun z e=>by cases e))
    have hG4:Hid (GB T w ((w3.setCell ⟨w.heap.size,0,none⟩ (.bool s3)).setCell ⟨w.heap.size,1,none⟩ (.slice ao3 n3 cap3))):=(((hG.out.trans hg1).trans (GB.ext hE3)).new (Nat.le_refl _) _).new (Nat.le_refl _) _
    go_roundw
    case rel=>exact⟨i+1,t'/(n*n),G',s-(x:Int),by go_num,by go_num,by omega,hA',hS2,hT4,hst,hG4⟩
    case measure=>simp[intOf];omega
end Go.Proofs.YtaoioncjmfcolaaGreat
