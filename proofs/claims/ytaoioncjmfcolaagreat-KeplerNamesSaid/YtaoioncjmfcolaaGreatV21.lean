/- trig: the sum of a sine or a cosine. -/
import Derived.Test.YtaoioncjmfcolaaGreatV20
set_option linter.unusedSimpArgs false
set_option linter.unusedVariables false
set_option maxRecDepth 100000
set_option maxHeartbeats 4000000
namespace Go.Proofs.YtaoioncjmfcolaaGreat
open Go.RowKit
def serF (y p:Nat):Nat→Nat→Nat→Nat→Int→Option (Int×Nat)
 |0,_,_,_,_=>none
 |F+1,i,t,k,s=>if okN s=true then(if t=0 then some (s,i)else serF y p F (i+1) (t*y/2^p/((k+1)*(k+2))) (k+2) (if i%2=0 then s+(t:Nat)else s-(t:Nat)))else none
theorem serF_succ {y p F i t k:Nat} {s:Int} {r:Int×Nat} (h:serF y p F i t k s=some r):∃G,F=G+1∧okN s=true∧((t=0∧r=(s,i))∨(¬t=0∧serF y p G (i+1) (t*y/2^p/((k+1)*(k+2))) (k+2) (if i%2=0 then s+(t:Nat)else s-(t:Nat))=some r)):=by
 cases F with
 |zero=>simp[serF]at h
 |succ G=>
  refine⟨G,rfl, ?_⟩
  rw[serF]at h
  by_cases h1:okN s=true
  ·rw[if_pos h1]at h
   refine⟨h1, ?_⟩
   by_cases h2:t=0
   ·rw[if_pos h2]at h
    exact .inl ⟨h2,(Option.some.inj h).symm⟩
   ·rw[if_neg h2]at h
    exact .inr ⟨h2,h⟩
  ·rw[if_neg h1]at h;cases h
theorem serF_ok {y p F i t k:Nat} {s:Int} {r:Int×Nat} (h:serF y p F i t k s=some r):okN s=true:=by
 obtain⟨G, -,h1, -⟩:=serF_succ h
 exact h1
theorem small_pow (n:Nat) (h:n≤100000):Small (2^n):=small_bits (k:=n+1) (Nat.pow_lt_pow_right (by decide) (by omega)) (by omega)
theorem t_sumB (T Y Q K t y k p F:Nat) (v:Int) (cnt:Nat) (w:World) (hT:WAt w T (t:Int)) (hY:WAt w Y (y:Int)) (hQ:w.cell? ⟨Q,0,none⟩=some (O p)) (hKb:(BF.own [O k]).p K w) (hYT:Y≠T) (hQT:Q≠T) (hKT:K≠T) (hYK:Y≠K) (hQK:Q≠K)
    (hs1:t≤2^1001) (hy:y≤2^p) (hk:k≤1) (hp0:0<p) (hp:p≤1000) (hF:F≤100000) (hr:serF y p F 0 t k 0=some (v,cnt)):
    K_ 175 #[.func (.func 184) #[] #[.pointer (some ⟨T,0,none⟩),.pointer (some ⟨Y,0,none⟩),.pointer (some ⟨Q,0,none⟩),.pointer (some ⟨K,0,none⟩)]] w fun e w'=>∃u,e=.returned (.tuple #[u,O cnt])∧Wid w' u v∧Fr2 T K w w':=by
 have hTl:=hT.lt
 have hYl:=hY.lt
 have hQl:Q<w.heap.size:=World.block_lt_of_cell? w _ hQ
 have hKl:=hKb.2.2.2
 have hST:w.heap.size≠T:=by omega
 have hSK:w.heap.size≠K:=by omega
 have hYS:Y≠w.heap.size:=by omega
 have hs2:Small y:=Small.le (small_pow p (by omega)) hy
 obtain⟨M,hM⟩:∃M:Nat,M=1000:=⟨_,rfl⟩
 have hyp:y≤2^M:=Nat.le_trans hy (Nat.pow_le_pow_right (by decide) (by omega))
 have hW0:WAt (w.alloc (.cells #[.bool false,.slice none 0 0] 24)) w.heap.size 0:=WAt.lit ⟨_,rfl,Lim.nil w⟩
 have hEA:=(Ext.refl w).alloc (.cells #[.bool false,.slice none 0 0] 24)
 have hT0:=hT.ext hEA
 have hY0:=hY.ext hEA
 have hK0:=(BF.own _).ext _ _ _ hKb hEA
 have hQ0:=(hEA.cells.1 Q 0 hQl).trans hQ
 go_enter Tryz.func175,Tryz.ntmps175
 go_wp2_with fail
 go_loopw [4,3] (fun a b wr=>∃(i t' G:Nat) (s:Int),a=O i∧b=O i∧i+G=F∧Hid (serF y p G i t' (k+2*i) s=some (v,cnt))∧Hid (t'≤2^1001)∧Hid (WAt wr T (t':Int))∧Hid (WAt wr Y (y:Int))∧Hid ((BF.own [O ((k+2*i:Nat):Int)]).p K wr)∧Hid (wr.cell? ⟨Q,0,none⟩=some (O p))∧Hid (WAt wr w.heap.size s)∧Hid (Fr2 T K w wr)) (fun a _ _=>F-(intOf a).toNat)
 case atStart=>exact⟨0,t,F,0,rfl,rfl,by omega,hr,hs1,hT0,hY0,hK0,hQ0,hW0,Fr2.ext hEA⟩
 case round=>
  obtain⟨i,t',G,s,rfl,rfl,hiG,hA,hSS,hWT,hWY,hWK,hWQ,hWS,hF0⟩:=hrel
  have hF:=hF0
  clear hF0
  obtain⟨G',rfl,hok,hA'⟩:=serF_succ hA.out
  have hSt:Small t':=Small.le (small_pow 1001 (by decide)) hSS.out
  obtain⟨E1,hE1⟩:∃E1:Nat,E1=1001:=⟨_,rfl⟩
  have hSS1:t'≤2^E1:=by rw[hE1];exact hSS.out
  have hSy:Small (t'*y):=Small.le (small_pow (E1+M) (by omega)) (by
   have:=Nat.mul_le_mul hSS1 hyp
   rw[←Nat.pow_add]at this
   exact this)
  clear hE1 hSS1
  have hSt2:Hid (t'*y/2^p/((k+2*i+1)*(k+2*i+2))≤2^1001):=by
   refine Nat.le_trans (Nat.le_trans (Nat.div_le_self _ _) ?_) hSS.out
   exact Nat.div_le_of_le_mul (by rw[Nat.mul_comm];exact Nat.mul_le_mul_right _ hy)
  have hsx:Sz (t':Int):=by unfold Sz;rw[Int.natAbs_natCast];exact hSt
  clear hW0 hT0 hY0 hK0 hQ0 hT hY hQ hKb hEA hyp
  rcases hA' with⟨h0,hres⟩| ⟨h0,hA'⟩
  ·subst h0
   obtain⟨hv1,hv2⟩:v=s∧cnt=i:=by simpa using hres
   subst hv1
   subst hv2
   have hsg:∀v w2,Wid w2 v ((0:Nat):Int)→K_ 73 #[v] w2 fun e w'=>e=.returned (O 0)∧Ext w2 w':=fun v w2 hv=>t_sign v _ w2 hv hsx
   go_wp2_with (first
    | (go_at_call 184;go_loud (with_reducible refine(t_ser1 T Y Q K cnt 0 y (k+2*cnt) p _ hWT.out hWY.out hWQ.out hWK.out hYT hQT hKT hSt hs2 hSy (by omega) hp0 hp).mono ?_);rintro e w1 ⟨y1,rfl,hy1,hT1,hK1,hf1,hkw⟩;obtain⟨ao1,cap1,rfl,hy2⟩:=hy1.nat.open;have hS1:=hkw _ _ hST hSK hWS.out;have hY1:=hkw _ _ hYT hYK hWY.out;obtain⟨aoS,capS,s0,s1,hWidS,hfS⟩:=hS1.open;have s1l:=hS1.lt;have hzg:=hf1.size)
    | (go_at_call 73;go_loud (with_reducible refine(hsg _ _ (hy2.wid.ext ex_)).mono ?_);rintro e w2 ⟨rfl,hb2⟩;obtain⟨_,_,⟨hc2,hf2⟩,hz2⟩:=hb2.c3;(try simp only[wsz]at hz2 hc2 hf2)))
   have hE2:Ext w1 w2:=ex_
   have hS3:=hS1.ext hE2
   have hnS:=hS3.noU
   have hWid2:=(hWidS.ext hE2).box (B:=w.heap.size) (j:=0) (x:=.bool (decide (v<0))) hnS
   have hWid3:=hWid2.box (B:=w.heap.size) (j:=1) (x:=.slice aoS (dig v.natAbs).length capS) (NoU.set hnS (fun z e=>by cases e))
   have hG4:Fr2 T K w ((w2.setCell ⟨w.heap.size,0,none⟩ (.bool (decide (v<0)))).setCell ⟨w.heap.size,1,none⟩ (.slice aoS (dig v.natAbs).length capS)):=(((hF.out.trans hf1).trans (Fr2.ext hE2)).new (Nat.le_refl _) _).new (Nat.le_refl _) _
   refine bodyPost_ret (v:=.tuple #[.agg #[.bool (decide (v<0)),.slice aoS (dig v.natAbs).length capS],O cnt]) ?_ rfl ⟨_,rfl,hWid3,hG4⟩
   simp[results,Tryz.results175,go_sem, ↓IntWalk.iteOmega, *]
  ·have hsg:∀v w2,Wid w2 v (t':Int)→K_ 73 #[v] w2 fun e w'=>e=.returned (O 1)∧Ext w2 w':=fun v w2 hv=>by
    have:=t_sign v _ w2 hv hsx
    rwa [cmp_gt (show(0:Int)<(t':Int) by omega)]at this
   by_cases hev:i%2=0
   ·have hevI:((i:Int)%2==0)=true:=by simp;omega
    rw[if_pos hev]at hA'
    have hok2:=serF_ok hA'
    go_wp2_with (first
     | (go_at_call 184;go_loud (with_reducible refine(t_ser1 T Y Q K i t' y (k+2*i) p _ hWT.out hWY.out hWQ.out hWK.out hYT hQT hKT hSt hs2 hSy (by omega) hp0 hp).mono ?_);rintro e w1 ⟨y1,rfl,hy1,hT1,hK1,hf1,hkw⟩;obtain⟨ao1,cap1,rfl,hy2⟩:=hy1.nat.open;have hS1:=hkw _ _ hST hSK hWS.out;have hY1:=hkw _ _ hYT hYK hWY.out;obtain⟨aoS,capS,s0,s1,hWidS,hfS⟩:=hS1.open;have s1l:=hS1.lt;have hzg:=hf1.size)
     | (go_at_call 73;go_loud (with_reducible refine(hsg _ _ (hy2.wid.ext ex_)).mono ?_);rintro e w2 ⟨rfl,hb2⟩;obtain⟨_,_,⟨hc2,hf2⟩,hz2⟩:=hb2.c3;(try simp only[wsz]at hz2 hc2 hf2))
     | (go_at_call 133;go_loud (with_reducible refine(t_addZ _ _ s (t':Int) _ (hWidS.ext ex_) (hy2.wid.ext ex_) (okN.sz hok) hsx (okN.sz hok2)).mono ?_);rintro e w3 ⟨y3,rfl,hy3,hb3⟩;obtain⟨s3,ao3,n3,cap3,rfl,hy4⟩:=hy3.open;obtain⟨_,_,⟨hc3,hf3⟩,hz3⟩:=hb3.c3;(try simp only[wsz]at hz3 hc3 hf3)))
    have hE3:Ext w1 w3:=ex_
    have hS3:=hS1.ext hE3
    have hT3:=hT1.ext hE3
    have hY3:=hY1.ext hE3
    have hK3:=(BF.own _).ext _ _ _ hK1 hE3
    have hQ3:=(hE3.cells.1 Q 0 (by omega)).trans ((hf1.cell (Nat.lt_of_lt_of_le hQl hF.out.size) hQT hQK).trans hWQ.out)
    have hst:=Bx2.store hS3.box hy4
    have hnS:=hS3.noU
    have hnS2:=NoU.set (j:=0) (B':=w.heap.size) (x:=.bool s3) hnS (fun z e=>by cases e)
    have hgS:GB w.heap.size w3 ((w3.setCell ⟨w.heap.size,0,none⟩ (.bool s3)).setCell ⟨w.heap.size,1,none⟩ (.slice ao3 n3 cap3)):=((GB.refl _ _).set _).set _
    replace hst:Hid _:=hst
    replace hA':Hid _:=hA'
    have hT4:Hid (WAt ((w3.setCell ⟨w.heap.size,0,none⟩ (.bool s3)).setCell ⟨w.heap.size,1,none⟩ (.slice ao3 n3 cap3)) T ((t'*y/2^p/((k+2*i+1)*(k+2*i+2)):Nat):Int)):=WAt.other (WAt.other hT3 (Ne.symm hST) hnS) (Ne.symm hST) hnS2
    have hY4:Hid (WAt ((w3.setCell ⟨w.heap.size,0,none⟩ (.bool s3)).setCell ⟨w.heap.size,1,none⟩ (.slice ao3 n3 cap3)) Y (y:Int)):=WAt.other (WAt.other hY3 hYS hnS) hYS hnS2
    have hK4:Hid ((BF.own [O ((k+2*(i+1):Nat):Int)]).p K ((w3.setCell ⟨w.heap.size,0,none⟩ (.bool s3)).setCell ⟨w.heap.size,1,none⟩ (.slice ao3 n3 cap3))):=(BF.own _).gb _ _ _ _ hK3 hnS hgS (Ne.symm hSK)
    have hQ4:Hid (World.cell? ((w3.setCell ⟨w.heap.size,0,none⟩ (.bool s3)).setCell ⟨w.heap.size,1,none⟩ (.slice ao3 n3 cap3)) ⟨Q,0,none⟩=some (O p)):=(hgS.cell (by omega) (by omega)).trans hQ3
    have hF4:Hid (Fr2 T K w ((w3.setCell ⟨w.heap.size,0,none⟩ (.bool s3)).setCell ⟨w.heap.size,1,none⟩ (.slice ao3 n3 cap3))):=(((hF.out.trans hf1).trans (Fr2.ext hE3)).new (Nat.le_refl _) _).new (Nat.le_refl _) _
    go_roundw
    case rel=>exact⟨i+1,t'*y/2^p/((k+2*i+1)*(k+2*i+2)),G',s+(t':Int),by go_num,by go_num,by omega,hA',hSt2,hT4,hY4,hK4,hQ4,hst,hF4⟩
    case measure=>simp[intOf];omega
   ·have hevI:((i:Int)%2==0)=false:=by simp;omega
    rw[if_neg hev]at hA'
    have hok2:=serF_ok hA'
    go_wp2_with (first
     | (go_at_call 184;go_loud (with_reducible refine(t_ser1 T Y Q K i t' y (k+2*i) p _ hWT.out hWY.out hWQ.out hWK.out hYT hQT hKT hSt hs2 hSy (by omega) hp0 hp).mono ?_);rintro e w1 ⟨y1,rfl,hy1,hT1,hK1,hf1,hkw⟩;obtain⟨ao1,cap1,rfl,hy2⟩:=hy1.nat.open;have hS1:=hkw _ _ hST hSK hWS.out;have hY1:=hkw _ _ hYT hYK hWY.out;obtain⟨aoS,capS,s0,s1,hWidS,hfS⟩:=hS1.open;have s1l:=hS1.lt;have hzg:=hf1.size)
     | (go_at_call 73;go_loud (with_reducible refine(hsg _ _ (hy2.wid.ext ex_)).mono ?_);rintro e w2 ⟨rfl,hb2⟩;obtain⟨_,_,⟨hc2,hf2⟩,hz2⟩:=hb2.c3;(try simp only[wsz]at hz2 hc2 hf2))
     | (go_at_call 131;go_loud (with_reducible refine(t_subZ _ _ s (t':Int) _ (hWidS.ext ex_) (hy2.wid.ext ex_) (okN.sz hok) hsx (okN.sz hok2)).mono ?_);rintro e w3 ⟨y3,rfl,hy3,hb3⟩;obtain⟨s3,ao3,n3,cap3,rfl,hy4⟩:=hy3.open;obtain⟨_,_,⟨hc3,hf3⟩,hz3⟩:=hb3.c3;(try simp only[wsz]at hz3 hc3 hf3)))
    have hE3:Ext w1 w3:=ex_
    have hS3:=hS1.ext hE3
    have hT3:=hT1.ext hE3
    have hY3:=hY1.ext hE3
    have hK3:=(BF.own _).ext _ _ _ hK1 hE3
    have hQ3:=(hE3.cells.1 Q 0 (by omega)).trans ((hf1.cell (Nat.lt_of_lt_of_le hQl hF.out.size) hQT hQK).trans hWQ.out)
    have hst:=Bx2.store hS3.box hy4
    have hnS:=hS3.noU
    have hnS2:=NoU.set (j:=0) (B':=w.heap.size) (x:=.bool s3) hnS (fun z e=>by cases e)
    have hgS:GB w.heap.size w3 ((w3.setCell ⟨w.heap.size,0,none⟩ (.bool s3)).setCell ⟨w.heap.size,1,none⟩ (.slice ao3 n3 cap3)):=((GB.refl _ _).set _).set _
    replace hst:Hid _:=hst
    replace hA':Hid _:=hA'
    have hT4:Hid (WAt ((w3.setCell ⟨w.heap.size,0,none⟩ (.bool s3)).setCell ⟨w.heap.size,1,none⟩ (.slice ao3 n3 cap3)) T ((t'*y/2^p/((k+2*i+1)*(k+2*i+2)):Nat):Int)):=WAt.other (WAt.other hT3 (Ne.symm hST) hnS) (Ne.symm hST) hnS2
    have hY4:Hid (WAt ((w3.setCell ⟨w.heap.size,0,none⟩ (.bool s3)).setCell ⟨w.heap.size,1,none⟩ (.slice ao3 n3 cap3)) Y (y:Int)):=WAt.other (WAt.other hY3 hYS hnS) hYS hnS2
    have hK4:Hid ((BF.own [O ((k+2*(i+1):Nat):Int)]).p K ((w3.setCell ⟨w.heap.size,0,none⟩ (.bool s3)).setCell ⟨w.heap.size,1,none⟩ (.slice ao3 n3 cap3))):=(BF.own _).gb _ _ _ _ hK3 hnS hgS (Ne.symm hSK)
    have hQ4:Hid (World.cell? ((w3.setCell ⟨w.heap.size,0,none⟩ (.bool s3)).setCell ⟨w.heap.size,1,none⟩ (.slice ao3 n3 cap3)) ⟨Q,0,none⟩=some (O p)):=(hgS.cell (by omega) (by omega)).trans hQ3
    have hF4:Hid (Fr2 T K w ((w3.setCell ⟨w.heap.size,0,none⟩ (.bool s3)).setCell ⟨w.heap.size,1,none⟩ (.slice ao3 n3 cap3))):=(((hF.out.trans hf1).trans (Fr2.ext hE3)).new (Nat.le_refl _) _).new (Nat.le_refl _) _
    go_roundw
    case rel=>exact⟨i+1,t'*y/2^p/((k+2*i+1)*(k+2*i+2)),G',s-(t':Int),by go_num,by go_num,by omega,hA',hSt2,hT4,hY4,hK4,hQ4,hst,hF4⟩
    case measure=>simp[intOf];omega
theorem t_ser (vt:Value) (Y Q X t y k p F:Nat) (r v:Int) (cnt:Nat) (w:World) (ht:Wid w vt (t:Int)) (hY:WAt w Y (y:Int)) (hQ:w.cell? ⟨Q,0,none⟩=some (O p)) (hX:w.cell? ⟨X,2,none⟩=some (O r))
    (hs1:t≤2^1001) (hy:y≤2^p) (hk:k≤1) (hp0:0<p) (hp:p≤1000) (hF:F≤100000) (hcnt:cnt≤100000) (hr0:0≤r) (hr1:r≤1000000000000000) (hr:serF y p F 0 t k 0=some (v,cnt)):
    K_ 183 #[vt,O k,.pointer (some ⟨Y,0,none⟩),.pointer (some ⟨Q,0,none⟩),.pointer (some ⟨X,0,none⟩)] w fun e w'=>∃u,e=.returned u∧Ball w' u v (4*(cnt:Int)+4+r)∧Ext w w':=by
 have hYl:=hY.lt
 have hQl:Q<w.heap.size:=World.block_lt_of_cell? w _ hQ
 have hXl:X<w.heap.size:=World.block_lt_of_cell? w _ hX
 obtain⟨s,ao,n,cap,rfl,htw⟩:=ht.open
 have e0:=(Ext.refl w).alloc (.cells #[.bool s,.slice ao n cap] 24)
 have e1:=(Ext.refl (w.alloc (.cells #[.bool s,.slice ao n cap] 24))).alloc (.cells #[O k] 2)
 have e2:=(Ext.refl ((w.alloc (.cells #[.bool s,.slice ao n cap] 24)).alloc (.cells #[O k] 2))).alloc (.cells #[.bool false,.slice none 0 0,O 0] 137)
 have hT:WAt (((w.alloc (.cells #[.bool s,.slice ao n cap] 24)).alloc (.cells #[O k] 2)).alloc (.cells #[.bool false,.slice none 0 0,O 0] 137)) w.heap.size (t:Int):=(WAt.lit htw).ext (e1.trans e2)
 have hK:(BF.own [O (k:Int)]).p (w.heap.size+1) (((w.alloc (.cells #[.bool s,.slice ao n cap] 24)).alloc (.cells #[O k] 2)).alloc (.cells #[.bool false,.slice none 0 0,O 0] 137)):=by
  have h:=own_new (w.alloc (.cells #[.bool s,.slice ao n cap] 24)) [O (k:Int)] 2 (by simp)
  rw[World.size_alloc]at h
  exact(BF.own _).ext _ _ _ h e2
 have hR:(BF.own [.bool false,.slice none 0 0,O 0]).p (w.heap.size+1+1) (((w.alloc (.cells #[.bool s,.slice ao n cap] 24)).alloc (.cells #[O k] 2)).alloc (.cells #[.bool false,.slice none 0 0,O 0] 137)):=by
  have h:=own_new ((w.alloc (.cells #[.bool s,.slice ao n cap] 24)).alloc (.cells #[O k] 2)) [.bool false,.slice none 0 0,O 0] 137 (by simp)
  rw[World.size_alloc,World.size_alloc]at h
  exact h
 have hE:=e0.trans (e1.trans e2)
 have hY2:=hY.ext hE
 have hQ2:=(hE.cells.1 Q 0 hQl).trans hQ
 have hX2:=(hE.cells.1 X 2 hXl).trans hX
 have hmf:∀(fn:Fn) (first cap:Array Value) (w:World),(Instr.makeFunc fn first cap).run Tryz.prog w=.ok (.func fn first cap) w:=fun _ _ _ _=>rfl
 have hsum:=t_sumB w.heap.size Y Q (w.heap.size+1) t y k p F v cnt _ hT hY2 hQ2 hK (by omega) (by omega) (by omega) (by omega) (by omega) hs1 hy hk hp0 hp hF hr
 clear ht htw e0 e1 e2 hT hK hY hQ hY2 hQ2 hr hs1 hy
 go_enter Tryz.func183,Tryz.ntmps183
 go_upto_region 2 with(go_at_call 175;(with_reducible refine hsum.mono ?_);rintro e w1 ⟨u1,rfl,hu1,hf1⟩;obtain⟨s1,ao1,n1,cap1,rfl,hw1⟩:=hu1.open)
 have hR1:=hf1.own hR (by omega) (by omega)
 have hX1:=(hf1.cell (o:=2) c_26 (by omega) (by omega)).trans hX2
 have hE1:Ext w w1:=Fr2.below hE hf1 (by omega) (by omega)
 have hsz1:w.heap.size+1+1+1≤w1.heap.size:=by have:=hf1.size;simp at this;omega
 have hu2:=hw1.ext ((Ext.refl w1).alloc (.cells #[.bool s1,.slice ao1 n1 cap1] 24))
 have hR2:=(BF.own _).ext _ _ _ hR1 ((Ext.refl w1).alloc (.cells #[.bool s1,.slice ao1 n1 cap1] 24))
 have n0:=hR2.2.2.1
 have n1':=NoU.set (j:=0) (B':=w.heap.size+1+1) (x:=.bool s1) n0 (fun z e=>by cases e)
 have n2':=NoU.set (j:=1) (B':=w.heap.size+1+1) (x:=.slice ao1 n1 cap1) n1' (fun z e=>by cases e)
 have hwf:=((Wid.box (B:=w.heap.size+1+1) (j:=0) (x:=.bool s1) hu2 n0).box (B:=w.heap.size+1+1) (j:=1) (x:=.slice ao1 n1 cap1) n1').box (B:=w.heap.size+1+1) (j:=2) (x:=O (4*(cnt:Int)+4+r)) n2'
 have r0:=hR1.1 0 _ rfl
 have r1:=hR1.1 1 _ rfl
 have r2:=hR1.1 2 _ rfl
 have rf:=hR1.2.1
 have hEf:Ext w ((((w1.alloc (.cells #[.bool s1,.slice ao1 n1 cap1] 24)).setCell ⟨w.heap.size+1+1,0,none⟩ (.bool s1)).setCell ⟨w.heap.size+1+1,1,none⟩ (.slice ao1 n1 cap1)).setCell ⟨w.heap.size+1+1,2,none⟩ (O (4*(cnt:Int)+4+r))):=by
  refine(((hE1.alloc _).setCell ?_ _).setCell ?_ _).setCell ?_ _<;>simp<;>omega
 have hwf':Hid _:=hwf
 clear hu1 hw1 hf1 hR hR1 hR2 hE hX2 hsum hmf hu2 hwf n0 n1' n2'
 go_wp2_with fail
 refine bodyPost_ret (v:=.agg #[.bool s1,.slice ao1 n1 cap1,O (4*(cnt:Int)+4+r)]) ?_ rfl ⟨_,rfl,⟨_,_,rfl,hwf'.out⟩,hEf⟩
 simp[results,Tryz.results183,go_sem, ↓IntWalk.iteOmega, *]
structure Bl where
 v:Int
 r:Int
def okB (b:Bl):Bool:=okN b.v&&(decide (0≤b.r)&&decide (b.r≤1000000000000000))
theorem okB_spec {b:Bl} (h:okB b=true):okN b.v=true∧0≤b.r∧b.r≤1000000000000000:=by
 unfold okB at h
 rw[Bool.and_eq_true,Bool.and_eq_true,decide_eq_true_eq,decide_eq_true_eq]at h
 exact⟨h.1,h.2.1,h.2.2⟩
def dbS (p:Nat) (s c:Bl):Bl:=⟨s.v*c.v/2^(p-1),2*(s.r+c.r)+4⟩
def dbC (p:Nat) (s:Bl):Bl:=⟨((2^p:Nat):Int)-s.v*s.v/2^(p-1),4*s.r+4⟩
def dblF (p:Nat):Nat→Bl→Bl→Option (Bl×Bl)
 |0,s,c=>if(okB s&&okB c)=true then some (s,c)else none
 |n+1,s,c=>if(okB s&&okB c)=true then dblF p n (dbS p s c) (dbC p s)else none
theorem dblF_ok {p n:Nat} {s c:Bl} {r:Bl×Bl} (h:dblF p n s c=some r):okB s=true∧okB c=true:=by
 rw[←Bool.and_eq_true]
 cases n with
 |zero=>unfold dblF at h;by_cases k:(okB s&&okB c)=true;exact k;rw[if_neg k]at h;cases h
 |succ n=>unfold dblF at h;by_cases k:(okB s&&okB c)=true;exact k;rw[if_neg k]at h;cases h
theorem dblF_zero {p:Nat} {s c:Bl} {r:Bl×Bl} (h:dblF p 0 s c=some r):r=(s,c):=by
 have k:=dblF_ok h
 unfold dblF at h
 rw[if_pos (by rw[k.1,k.2];rfl)]at h
 exact(Option.some.inj h).symm
theorem dblF_succ {p n:Nat} {s c:Bl} {r:Bl×Bl} (h:dblF p (n+1) s c=some r):dblF p n (dbS p s c) (dbC p s)=some r:=by
 have k:=dblF_ok h
 unfold dblF at h
 rwa [if_pos (by rw[k.1,k.2];rfl)]at h
theorem okN_mul {a b:Int} (ha:okN a=true) (hb:okN b=true):Sz (a*b):=by
 unfold okN at ha hb
 rw[decide_eq_true_eq]at ha hb
 obtain⟨M,hM⟩:∃M:Nat,M=2001:=⟨_,rfl⟩
 have h1:a.natAbs<2^M:=Nat.lt_of_lt_of_le Nat.lt_log2_self (Nat.pow_le_pow_right (by decide) (by omega))
 have h2:b.natAbs<2^M:=Nat.lt_of_lt_of_le Nat.lt_log2_self (Nat.pow_le_pow_right (by decide) (by omega))
 unfold Sz
 rw[Int.natAbs_mul]
 refine Small.le (small_pow (M+M) (by omega)) ?_
 rw[Nat.pow_add]
 exact Nat.mul_le_mul (Nat.le_of_lt h1) (Nat.le_of_lt h2)
def circF (x:Nat) (r:Int) (p:Nat):Option (Bl×Bl):=
 if okN (x:Int)=true∧x/2^5≤2^1001∧x/2^5*(x/2^5)/2^p≤2^p then
  (serF (x/2^5*(x/2^5)/2^p) p 1000 0 (x/2^5) 1 0).bind fun s=>
  (serF (x/2^5*(x/2^5)/2^p) p 1000 0 (2^p) 0 0).bind fun c=>
  if s.2≤100000∧c.2≤100000 then dblF p 5 ⟨s.1,4*(s.2:Int)+4+r⟩ ⟨c.1,4*(c.2:Int)+4+r⟩else none
 else none
theorem circF_spec {x p:Nat} {r:Int} {S:Bl×Bl} (h:circF x r p=some S):okN (x:Int)=true∧x/2^5≤2^1001∧x/2^5*(x/2^5)/2^p≤2^p∧∃sv sn cv cn,serF (x/2^5*(x/2^5)/2^p) p 1000 0 (x/2^5) 1 0=some (sv,sn)∧serF (x/2^5*(x/2^5)/2^p) p 1000 0 (2^p) 0 0=some (cv,cn)∧sn≤100000∧cn≤100000∧dblF p 5 ⟨sv,4*(sn:Int)+4+r⟩ ⟨cv,4*(cn:Int)+4+r⟩=some S:=by
 unfold circF at h
 by_cases k:okN (x:Int)=true∧x/2^5≤2^1001∧x/2^5*(x/2^5)/2^p≤2^p
 ·rw[if_pos k]at h
  refine⟨k.1,k.2.1,k.2.2, ?_⟩
  rw[Option.bind_eq_some_iff]at h
  obtain⟨⟨sv,sn⟩,h1,h⟩:=h
  rw[Option.bind_eq_some_iff]at h
  obtain⟨⟨cv,cn⟩,h2,h⟩:=h
  by_cases k2:sn≤100000∧cn≤100000
  ·rw[if_pos k2]at h
   exact⟨sv,sn,cv,cn,h1,h2,k2.1,k2.2,h⟩
  ·rw[if_neg k2]at h;cases h
 ·rw[if_neg k]at h;cases h
theorem t_circ (vx:Value) (x:Nat) (r:Int) (p:Nat) (S C:Bl) (w:World) (hx:Ball w vx (x:Int) r) (hr0:0≤r) (hr1:r≤100000000000000) (hp2:2≤p) (hp:p≤1000) (hF:circF x r p=some (S,C)):
    K_ 170 #[vx,O p] w fun e w'=>∃u v,e=.returned (.tuple #[u,v])∧Ball w' u S.v S.r∧Ball w' v C.v C.r∧Ext w w':=by
 obtain⟨kx,ky1,kq,sv,sn,cv,cn,h1,h2,n1,n2,hD⟩:=circF_spec hF
 clear hF
 obtain⟨y,hy⟩:∃y,x/2^5=y:=⟨_,rfl⟩
 rw[hy]at ky1 kq h1 h2
 obtain⟨q,hq⟩:∃q,y*y/2^p=q:=⟨_,rfl⟩
 rw[hq]at kq h1 h2
 have hsN:∀n:Nat,Small n→Sz (n:Int):=fun n h=>by unfold Sz;rw[Int.natAbs_natCast];exact h
 have smy:Small y:=Small.le (small_pow 1001 (by decide)) ky1
 have smyy:Small (y*y):=by
  obtain⟨M,hM⟩:∃M:Nat,M=1001:=⟨_,rfl⟩
  rw[←hM]at ky1
  exact Small.le (small_pow (M+M) (by omega)) (by rw[Nat.pow_add];exact Nat.mul_le_mul ky1 ky1)
 have hpM:∀M,p≤M→2^p≤2^M:=fun M h=>Nat.pow_le_pow_right (by decide) h
 have smp:Small (2^p):=small_pow p (by omega)
 have hsy:∀(w1:World) (u1:Value),Wid w1 u1 (x:Int)→K_ 169 #[u1,O (-5)] w1 fun e w'=>∃u,e=.returned u∧Wid w' u (y:Int)∧Ext w1 w':=fun w1 u1 a=>by
  have:=t_shiftD u1 _ 5 w1 a (okN.sz kx) (by decide) (by decide)
  have e:(x:Int)/2^5=(y:Int):=by rw[←hy,Int.natCast_ediv,Int.natCast_pow];rfl
  rw[e]at this
  exact this
 have hyy:∀(w1:World) (u1 u2:Value),Wid w1 u1 (y:Int)→Wid w1 u2 (y:Int)→K_ 132 #[u1,u2] w1 fun e w'=>∃u,e=.returned u∧Wid w' u ((y*y:Nat):Int)∧Ext w1 w':=fun w1 u1 u2 a b=>by
  have:=t_mulZ u1 u2 _ _ w1 a b (hsN _ smy) (hsN _ smy) (by rw[←Int.natCast_mul];exact hsN _ smyy)
  rw[←Int.natCast_mul]at this
  exact this
 have hsq:∀(w1:World) (u1 u2:Value),Wid w1 u1 ((y*y:Nat):Int)→u2=O (-(p:Int))→K_ 169 #[u1,u2] w1 fun e w'=>∃u,e=.returned u∧Wid w' u (q:Int)∧Ext w1 w':=fun w1 u1 u2 a b=>by
  subst b
  have:=t_shiftD u1 _ p w1 a (hsN _ smyy) (by omega) (by omega)
  have e:((y*y:Nat):Int)/2^p=(q:Int):=by rw[←hq,Int.natCast_ediv,Int.natCast_pow];rfl
  rw[e]at this
  exact this
 have hone:∀(w1:World) (u1 u2:Value),Wid w1 u1 1→u2=O (p:Int)→K_ 169 #[u1,u2] w1 fun e w'=>∃u,e=.returned u∧Wid w' u ((2^p:Nat):Int)∧Ext w1 w':=fun w1 u1 u2 a b=>by
  subst b
  have e:(1:Int)*2^p=((2^p:Nat):Int):=by rw[Int.one_mul,Int.natCast_pow];rfl
  have:=t_shiftU u1 1 p w1 a sz1 (by omega) (by rw[e];exact hsN _ smp)
  rw[e]at this
  exact this
 obtain⟨S0,hS0⟩:∃S0:Bl,(⟨sv,4*(sn:Int)+4+r⟩:Bl)=S0:=⟨_,rfl⟩
 obtain⟨C0,hC0⟩:∃C0:Bl,(⟨cv,4*(cn:Int)+4+r⟩:Bl)=C0:=⟨_,rfl⟩
 rw[hS0,hC0]at hD
 have hss:∀{g7 g3 g2:Nat} (w1:World) (u1:Value),WAt w1 g7 (q:Int)→w1.cell? ⟨g3,0,none⟩=some (O p)→w1.cell? ⟨g2,2,none⟩=some (O r)→Wid w1 u1 (y:Int)→K_ 183 #[u1,O 1,.pointer (some ⟨g7,0,none⟩),.pointer (some ⟨g3,0,none⟩),.pointer (some ⟨g2,0,none⟩)] w1 fun e w'=>∃u,e=.returned u∧Ball w' u S0.v S0.r∧Ext w1 w':=fun w1 u1 a b c d=>by
  have:=t_ser u1 _ _ _ y q 1 p 1000 r sv sn w1 d a b c ky1 kq (by decide) (by omega) hp (by decide) n1 hr0 (by omega) h1
  rw[←hS0]
  exact this
 have hcc:∀{g7 g3 g2:Nat} (w1:World) (u1:Value),WAt w1 g7 (q:Int)→w1.cell? ⟨g3,0,none⟩=some (O p)→w1.cell? ⟨g2,2,none⟩=some (O r)→Wid w1 u1 ((2^p:Nat):Int)→K_ 183 #[u1,O 0,.pointer (some ⟨g7,0,none⟩),.pointer (some ⟨g3,0,none⟩),.pointer (some ⟨g2,0,none⟩)] w1 fun e w'=>∃u,e=.returned u∧Ball w' u C0.v C0.r∧Ext w1 w':=fun w1 u1 a b c d=>by
  have:=t_ser u1 _ _ _ (2^p) q 0 p 1000 r cv cn w1 d a b c (hpM 1001 (by omega)) kq (by decide) (by omega) hp (by decide) n2 hr0 (by omega) h2
  rw[←hC0]
  exact this
 clear h1 h2 hS0 hC0 kx ky1 kq hy hq
 obtain⟨sb,aob,nb,capb,rfl,hWx⟩:=hx.open
 have I0:KBd w [] w:=⟨Ext.refl w,trivial,by simp,by simp⟩
 have I:=(((I0.push ((Ext.refl w).alloc (.cells #[.bool sb,.slice aob nb capb,O r] 137)) (BF.bat (x:Int) r) (BatP.new hWx)).new [O (p:Int)] 3 (by simp)).new [.bool false,.slice none 0 0,O 0] 137 (by simp)).new [.bool false,.slice none 0 0,O 0] 137 (by simp)
 simp only[World.size_alloc,List.nil_append,List.cons_append]at I
 clear I0 hWx hx
 have hmf:∀(fn:Fn) (first cap:Array Value) (w:World),(Instr.makeFunc fn first cap).run Tryz.prog w=.ok (.func fn first cap) w:=fun _ _ _ _=>rfl
 go_enter Tryz.func170,Tryz.ntmps170
 go_upto_region 1 with fail
 refine rB [] [⟨3,some 4,.b2,(.wat (y:Int))⟩] [.eq (.pointer (some ⟨w.heap.size,0,none⟩)),.wid ((x:Int)),.wid ((y:Int))] [] I (fun hc=>⟨oN (.tmp 2) (.pointer (some ⟨w.heap.size,0,none⟩)) hc,ob_getN w.heap.size (x:Int) r (some 0) hc rfl fun vs gs w1 c=>c.b0 0,ob_call (fun v=>[v 1,O (-5)]) hc rfl fun vs gs w1 c=>hsy _ _ (c.v 1),ob_allocW (n:=4) rfl hc rfl rfl rfl,ob_putW (n:=4) rfl 2 hc rfl 0,trivial⟩) fun g6 vs W=>tl ?_
 clear I
 intro I
 go_upto_region 2 with fail
 refine rB [] [⟨6,some 7,.b2,(.wat (q:Int))⟩] [.wid ((y:Int)),.wid ((y:Int)),.wid (((y*y:Nat):Int)),.eq (O (p)),.eq (O (-(p:Int))),.wid ((q:Int))] [] I (fun hc=>⟨ob_getW g6 ((y:Int)) hc rfl fun vs gs w1 c=>c.b0 4,ob_getW g6 ((y:Int)) hc rfl fun vs gs w1 c=>c.b0 4,ob_call (fun v=>[v 0,v 1]) hc rfl fun vs gs w1 c=>hyy _ _ _ (c.v 0) (c.v 1),ob_ld (x:=.tmp 3) (g:=(w.heap.size+1)) (f:=0) (u:=O (p)) none hc fun vs gs w1 c=>c.own 1 0,oT 18 3 hc (hs:=c_53),ob_call (fun v=>[v 2,v 4]) hc rfl fun vs gs w1 c=>hsq _ _ _ (c.v 2) (c.v 4),ob_allocW (n:=5) rfl hc rfl rfl rfl,ob_putW (n:=5) rfl 5 hc rfl 0,trivial⟩) fun g7 vs W=>tl ?_
 clear I
 intro I
 go_upto_region 3 with fail
 refine rB [] [⟨3,some 4,.b2,(.wat ((2^p:Nat):Int))⟩] [.wid (1),.eq (O (p)),.wid (((2^p:Nat):Int))] [] I (fun hc=>⟨ob_call (fun v=>[O 1]) hc rfl fun vs gs w1 c=>t_numZ 1 _ (by decide) (by decide),ob_ld (x:=.tmp 3) (g:=(w.heap.size+1)) (f:=0) (u:=O (p)) none hc fun vs gs w1 c=>c.own 1 0,ob_call (fun v=>[v 0,v 1]) hc rfl fun vs gs w1 c=>hone _ _ _ (c.v 0) (c.v 1),ob_allocW (n:=6) rfl hc rfl rfl rfl,ob_putW (n:=6) rfl 2 hc rfl 0,trivial⟩) fun g8 vs W=>tl ?_
 clear I
 intro I
 go_upto_region 5 with fail
 refine rB [[],[],[(6,.bat S0.v S0.r)],[(7,.bat C0.v C0.r)]] [] [.eq (.func (.func 183) #[] #[.pointer (some ⟨g7,0,none⟩),.pointer (some ⟨(w.heap.size+1),0,none⟩),.pointer (some ⟨w.heap.size,0,none⟩)]),.wid ((y:Int)),.ball (S0.v) (S0.r),.eq (.func (.func 183) #[] #[.pointer (some ⟨g7,0,none⟩),.pointer (some ⟨(w.heap.size+1),0,none⟩),.pointer (some ⟨w.heap.size,0,none⟩)]),.wid (((2^p:Nat):Int)),.ball (C0.v) (C0.r)] [] I (fun hc=>⟨ob_mv hc (.inl rfl),ob_getW g6 ((y:Int)) hc rfl fun vs gs w1 c=>c.b0 4,ob_callF (caps:=[.pointer (some ⟨g7,0,none⟩),.pointer (some ⟨(w.heap.size+1),0,none⟩),.pointer (some ⟨w.heap.size,0,none⟩)]) 0 (fun v=>[v 1,O 1]) hc rfl (h:=fun vs gs w1 c=>hss _ _ (c.b0 5) (c.own 1 0) (BatP.r (c.b0 0)) (c.v 1)),ob_mv hc (.inl rfl),ob_getW g8 (((2^p:Nat):Int)) hc rfl fun vs gs w1 c=>c.b0 6,ob_callF (caps:=[.pointer (some ⟨g7,0,none⟩),.pointer (some ⟨(w.heap.size+1),0,none⟩),.pointer (some ⟨w.heap.size,0,none⟩)]) 3 (fun v=>[v 4,O 0]) hc rfl (h:=fun vs gs w1 c=>hcc _ _ (c.b0 5) (c.own 1 0) (BatP.r (c.b0 0)) (c.v 4)),ob_putB (n:=2) rfl 2 hc rfl 0,ob_putB (n:=3) rfl 5 hc rfl 0,trivial⟩) fun vs W=>tl ?_
 clear I
 intro I
 clear hss hcc hsy hyy hsq hone hmf smy smyy
 go_wp2_with fail
 go_loopw [31] (fun s31 wr=>∃(j:Nat) (s c:Bl),s31=O j∧j≤5∧Hid (dblF p (5-j) s c=some (S,C))∧Hid (KBd w [(w.heap.size,BF.bat (x:Int) r),(w.heap.size+1,BF.own [O (p:Int)]),(w.heap.size+1+1,BF.bat s.v s.r),(w.heap.size+1+1+1,BF.bat c.v c.r),(g6,BF.wat (y:Int)),(g7,BF.wat (q:Int)),(g8,BF.wat ((2^p:Nat):Int))] wr)) (fun s31 _=>5-(intOf s31).toNat)
 case atStart=>exact⟨0,S0,C0,rfl,by omega,hD,I⟩
 case round=>
  obtain⟨j,s,c,rfl,hj,HD,HI⟩:=hrel
  clear I
  have I:=HI.out
  clear HI
  by_cases hj2:j<5
  ·have hd:=HD.out
   rw[show 5-j=(5-(j+1))+1 by omega]at hd
   obtain⟨ks,kc⟩:=dblF_ok hd
   have hd2:=dblF_succ hd
   obtain⟨ks1,ks2,ks3⟩:=okB_spec ks
   obtain⟨kc1,kc2,kc3⟩:=okB_spec kc
   clear hd HD ks kc
   have hmm:∀(a b:Int),okN a=true→okN b=true→∀(w1:World) (u1 u2:Value),Wid w1 u1 a→Wid w1 u2 b→K_ 132 #[u1,u2] w1 fun e w'=>∃u,e=.returned u∧Wid w' u (a*b)∧Ext w1 w':=fun a b ha hb w1 u1 u2 h k=>t_mulZ u1 u2 _ _ w1 h k (okN.sz ha) (okN.sz hb) (okN_mul ha hb)
   have hdn:∀(a:Int),Sz a→∀(w1:World) (u1 u2:Value),Wid w1 u1 a→u2=O (1-(p:Int))→K_ 169 #[u1,u2] w1 fun e w'=>∃u,e=.returned u∧Wid w' u (a/2^(p-1))∧Ext w1 w':=fun a ha w1 u1 u2 h k=>by
    subst k
    rw[show 1-(p:Int)= -((p-1:Nat):Int) by omega]
    exact t_shiftD u1 a (p-1) w1 h ha (by omega) (by omega)
   have hm1:=hmm s.v c.v ks1 kc1
   have hm2:=hmm s.v s.v ks1 ks1
   have hd1:=hdn (s.v*c.v) (okN_mul ks1 kc1)
   have hd3:=hdn (s.v*s.v) (okN_mul ks1 ks1)
   have hsq2:Sz (s.v*s.v/2^(p-1)):=by
    have h0:=okN_mul ks1 ks1
    unfold Sz at h0 ⊢
    refine Small.le h0 ?_
    have hnn:(0:Int)≤s.v*s.v:=by rw[←Int.natAbs_mul_self];exact Int.natCast_nonneg _
    obtain⟨m,hm⟩:=Int.eq_ofNat_of_zero_le hnn
    rw[hm,show((m:Int)/2^(p-1))=((m/2^(p-1):Nat):Int) by rw[Int.natCast_ediv,Int.natCast_pow];rfl,Int.natAbs_natCast,Int.natAbs_natCast]
    exact Nat.div_le_self _ _
   have hszc:Sz (dbC p s).v:=okN.sz (okB_spec (dblF_ok hd2).2).1
   have hdif:∀(w1:World) (u1 u2:Value),Wid w1 u1 ((2^p:Nat):Int)→Wid w1 u2 (s.v*s.v/2^(p-1))→K_ 131 #[u1,u2] w1 fun e w'=>∃u,e=.returned u∧Wid w' u (dbC p s).v∧Ext w1 w':=fun w1 u1 u2 h k=>t_subZ u1 u2 _ _ w1 h k (hsN _ smp) hsq2 hszc
   clear hmm hdn
   go_upto_region 8 with fail
   refine rB [] [⟨8,some 9,.b2,(.wat (s.v*c.v/2^(p-1)))⟩] [.eq (.pointer (some ⟨(w.heap.size+1+1),0,none⟩)),.wid (s.v),.eq (.pointer (some ⟨(w.heap.size+1+1+1),0,none⟩)),.wid (c.v),.wid (s.v*c.v),.eq (O (p)),.eq (O (1-(p:Int))),.wid (s.v*c.v/2^(p-1))] [] I (fun hc=>⟨oN (.tmp 4) (.pointer (some ⟨(w.heap.size+1+1),0,none⟩)) hc,ob_getN (w.heap.size+1+1) s.v s.r (some 0) hc rfl fun vs gs w1 c=>c.b0 2,oN (.tmp 5) (.pointer (some ⟨(w.heap.size+1+1+1),0,none⟩)) hc,ob_getN (w.heap.size+1+1+1) c.v c.r (some 2) hc rfl fun vs gs w1 c=>c.b0 3,ob_call (fun v=>[v 1,v 3]) hc rfl fun vs gs w1 c=>hm1 _ _ _ (c.v 1) (c.v 3),ob_ld (x:=.tmp 3) (g:=(w.heap.size+1)) (f:=0) (u:=O (p)) none hc fun vs gs w1 c=>c.own 1 0,oNT (.const (O 1)) (O 1) 38 5 hc (hs:=c_1),ob_call (fun v=>[v 4,v 6]) hc rfl fun vs gs w1 c=>hd1 _ _ _ (c.v 4) (c.v 6),ob_allocW (n:=7) rfl hc rfl rfl rfl,ob_putW (n:=7) rfl 7 hc rfl 0,trivial⟩) fun g10 vs W=>tl ?_
   clear I
   intro I
   go_upto_region 9 with fail
   refine rB [] [⟨8,some 9,.b2,(.wat (s.v*s.v/2^(p-1)))⟩] [.eq (.pointer (some ⟨(w.heap.size+1+1),0,none⟩)),.wid (s.v),.eq (.pointer (some ⟨(w.heap.size+1+1),0,none⟩)),.wid (s.v),.wid (s.v*s.v),.eq (O (p)),.eq (O (1-(p:Int))),.wid (s.v*s.v/2^(p-1))] [] I (fun hc=>⟨oN (.tmp 4) (.pointer (some ⟨(w.heap.size+1+1),0,none⟩)) hc,ob_getN (w.heap.size+1+1) s.v s.r (some 0) hc rfl fun vs gs w1 c=>c.b0 2,oN (.tmp 4) (.pointer (some ⟨(w.heap.size+1+1),0,none⟩)) hc,ob_getN (w.heap.size+1+1) s.v s.r (some 2) hc rfl fun vs gs w1 c=>c.b0 2,ob_call (fun v=>[v 1,v 3]) hc rfl fun vs gs w1 c=>hm2 _ _ _ (c.v 1) (c.v 3),ob_ld (x:=.tmp 3) (g:=(w.heap.size+1)) (f:=0) (u:=O (p)) none hc fun vs gs w1 c=>c.own 1 0,oNT (.const (O 1)) (O 1) 46 5 hc (hs:=c_1),ob_call (fun v=>[v 4,v 6]) hc rfl fun vs gs w1 c=>hd3 _ _ _ (c.v 4) (c.v 6),ob_allocW (n:=8) rfl hc rfl rfl rfl,ob_putW (n:=8) rfl 7 hc rfl 0,trivial⟩) fun g11 vs W=>tl ?_
   clear I
   intro I
   go_upto_region 10 with fail
   refine rB [[],[],[(17,.bat (dbS p s c).v (dbS p s c).r)],[(18,.bat (dbC p s).v (dbC p s).r)]] [] [.wid (s.v*c.v/2^(p-1)),.eq (.pointer (some ⟨(w.heap.size+1+1),2,none⟩)),.eq (O (s.r)),.eq (.pointer (some ⟨(w.heap.size+1+1+1),2,none⟩)),.eq (O (c.r)),.eq (O (s.r+c.r)),.eq (O (2*(s.r+c.r))),.eq (O (2*(s.r+c.r)+4)),.ball ((dbS p s c).v) ((dbS p s c).r),.wid (((2^p:Nat):Int)),.wid (s.v*s.v/2^(p-1)),.wid ((dbC p s).v),.eq (.pointer (some ⟨(w.heap.size+1+1),2,none⟩)),.eq (O (s.r)),.eq (O (4*s.r)),.eq (O (4*s.r+4)),.ball ((dbC p s).v) ((dbC p s).r)] [] I (fun hc=>⟨ob_getW g10 (s.v*c.v/2^(p-1)) hc rfl fun vs gs w1 c=>c.b0 7,oN (.tmp 4) (.pointer (some ⟨(w.heap.size+1+1),0,none⟩)) hc,oL 50 1 hc fun vs gs w1 c=>BatP.r (c.b0 2),oN (.tmp 5) (.pointer (some ⟨(w.heap.size+1+1+1),0,none⟩)) hc,oL 52 3 hc fun vs gs w1 c=>BatP.r (c.b0 3),oTT 51 2 53 4 hc (hs:=c_1),oNT (.const (O 2)) (O 2) 54 5 hc (hs:=c_1),oTN 55 6 (.const (O 4)) (O 4) hc (hs:=c_1),ob_buildB (q:=(dbS p s c).v) (r:=(dbS p s c).r) 0 (some 7) hc rfl,ob_getW g8 (((2^p:Nat):Int)) hc rfl fun vs gs w1 c=>c.b0 6,ob_getW g11 (s.v*s.v/2^(p-1)) hc rfl fun vs gs w1 c=>c.b0 8,ob_call (fun v=>[v 9,v 10]) hc rfl fun vs gs w1 c=>hdif _ _ _ (c.v 9) (c.v 10),oN (.tmp 4) (.pointer (some ⟨(w.heap.size+1+1),0,none⟩)) hc,oL 61 12 hc fun vs gs w1 c=>BatP.r (c.b0 2),oNT (.const (O 4)) (O 4) 62 13 hc (hs:=c_1),oTN 63 14 (.const (O 4)) (O 4) hc (hs:=c_1),ob_buildB (q:=(dbC p s).v) (r:=(dbC p s).r) 11 (some 15) hc rfl,ob_putB (n:=2) rfl 8 hc rfl 0,ob_putB (n:=3) rfl 16 hc rfl 0,trivial⟩) fun vs W=>tl ?_
   clear I
   intro I
   replace I:=I.take 7
   go_wp2_with fail
   go_roundw
   case rel=>exact⟨j+1,dbS p s c,dbC p s,by go_num,by omega,hd2,I⟩
   case measure=>simp[intOf];omega
  ·obtain rfl:j=5:=by omega
   obtain⟨rfl,rfl⟩:S=s∧C=c:=by simpa using dblF_zero HD.out
   go_upto_region 12 with fail
   refine rB [[],[],[(2,.bat S.v S.r)],[(3,.bat C.v C.r)]] [] [.ball (S.v) (S.r),.ball (C.v) (C.r)] [] I (fun hc=>⟨ob_getB (w.heap.size+1+1) (S.v) (S.r) hc rfl fun vs gs w1 c=>c.b0 2,ob_getB (w.heap.size+1+1+1) (C.v) (C.r) hc rfl fun vs gs w1 c=>c.b0 3,ob_putB (n:=2) rfl 0 hc rfl 0,ob_putB (n:=3) rfl 1 hc rfl 0,trivial⟩) fun vs W=>tl ?_
   clear I
   intro I
   obtain⟨⟨bs,us,x0,x1,x2⟩,x3, -, -, -⟩:=(show BatP W (w.heap.size+1+1) S.v S.r from I.at 2)
   obtain⟨⟨bc,uc,z0,z1,z2⟩,z3, -, -, -⟩:=(show BatP W (w.heap.size+1+1+1) C.v C.r from I.at 3)
   have hEx:=I.e
   clear I HD
   go_wp2_with fail
   refine bodyPost_ret (v:=.tuple #[.agg #[.bool bs,us,O S.r],.agg #[.bool bc,uc,O C.r]]) ?_ rfl ⟨_,_,rfl,⟨_,_,rfl,x2⟩,⟨_,_,rfl,z2⟩,hEx⟩
   simp[results,Tryz.results170,go_sem, ↓IntWalk.iteOmega, *]
theorem t_unit (vb:Value) (x r q:Int) (p:Nat) (w:World) (hb0:Ball w vb x r) (hr0:0≤r) (hr1:r≤9000000000000000000) (hp0:41≤p) (hp:p≤1000) (hF:floorF x r p=some q):
    K_ 89 #[vb,O p] w fun e w'=>e=.returned (.tuple #[.agg #[O q,O (q+1)],.bool true])∧Ext w w':=by
 obtain⟨-, -, -, -, -,hq3⟩:=floorF_spec hF
 obtain⟨sb,aob,nb,capb,rfl,hWx⟩:=hb0.open
 have hfl:=fun w1 (k1:Ext w w1)=>t_floor _ x r q p w1 (hb0.ext k1) hr0 hr1 hp0 hp hF
 clear hF hWx hb0
 go_enter Tryz.func89,Tryz.ntmps89
 go_wp2_with (go_at_call 147;(with_reducible refine(hfl _ ex_).mono ?_);rintro e w1 ⟨rfl,hb⟩;obtain⟨_,_,⟨hc,hf⟩,hz⟩:=hb.c3;(try simp only[wsz]at hz hc hf))
 refine bodyPost_ret (v:=.tuple #[.agg #[O q,O (q+1)],.bool true]) ?_ rfl ⟨rfl, ?_⟩
 ·simp[results,Tryz.results89,go_sem, ↓IntWalk.iteOmega, *]
 ·exact b_1
def piF (p:Nat):Option Bl:=
 (atanF 18 1000 0 (2^p/18) 0).bind fun a=>(atanF 57 1000 0 (2^p/57) 0).bind fun b=>(atanF 239 1000 0 (2^p/239) 0).bind fun c=>
 if p≤1000∧a.2≤100000∧b.2≤100000∧c.2≤100000∧okN (48*a.1)=true∧okN (32*b.1)=true∧okN (48*a.1+32*b.1)=true∧okN (20*c.1)=true∧okN (48*a.1+32*b.1-20*c.1)=true∧0≤48*a.1+32*b.1-20*c.1 then
  some ⟨48*a.1+32*b.1-20*c.1,48*(2*(a.2:Int)+4)+32*(2*(b.2:Int)+4)+20*(2*(c.2:Int)+4)⟩else none
theorem t_piF {p:Nat} {S:Bl} (w:World) (h:piF p=some S):(K_ 124 #[O p] w fun e w'=>∃u,e=.returned u∧Ball w' u S.v S.r∧Ext w w')∧okN S.v=true∧0≤S.v∧0≤S.r∧S.r≤30000000∧p≤1000:=by
 unfold piF at h
 rw[Option.bind_eq_some_iff]at h
 obtain⟨⟨a,ca⟩,h1,h⟩:=h
 rw[Option.bind_eq_some_iff]at h
 obtain⟨⟨b,cb⟩,h2,h⟩:=h
 rw[Option.bind_eq_some_iff]at h
 obtain⟨⟨c,cc⟩,h3,h⟩:=h
 dsimp only at h
 split at h
 ·rename_i k
  obtain⟨k1,k2,k3,k4,k5,k6,k7,k8,k9,k10⟩:=k
  obtain rfl:=Option.some.inj h
  exact⟨t_pi p 1000 a b c ca cb cc w k1 (by decide) k2 k3 k4 h1 h2 h3 k5 k6 k7 k8 k9,k9,k10,by dsimp only;omega,by dsimp only;omega,k1⟩
 ·cases h
end Go.Proofs.YtaoioncjmfcolaaGreat
