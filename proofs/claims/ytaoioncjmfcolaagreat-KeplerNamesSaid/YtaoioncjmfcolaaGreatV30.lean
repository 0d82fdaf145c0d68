/- span: Of, of a rational number in range. -/
import Derived.Test.YtaoioncjmfcolaaGreatV29
import Derived.Laws.AppendOwnNone
set_option linter.unusedSimpArgs false
set_option linter.unusedVariables false
set_option maxRecDepth 100000
set_option maxHeartbeats 4000000
namespace Go.Proofs.YtaoioncjmfcolaaGreat
open Go.RowKit
theorem ofF_is (q:Nat) (hq:0<q):∀k r L,r<q→ofF q k r L=((r*2^k)%q,L+(r*2^k)/q)
 |0,r,L,h=>by simp only[ofF,Nat.pow_zero,Nat.mul_one];rw[Nat.mod_eq_of_lt h,Nat.div_eq_of_lt h];rfl
 |k+1,r,L,h=>by
  simp only[ofF]
  have e:r*2^(k+1)=(r+r)*2^k:=by rw[Nat.pow_succ,Nat.add_mul, ←Nat.two_mul,Nat.mul_comm 2,Nat.mul_assoc]
  split
  ·rename_i h1
   rw[ofF_is q hq k (r+r) L (by omega),e]
  ·rename_i h1
   rw[ofF_is q hq k (r-(q-r)) (L+2^k) (by omega),e]
   have e2:(r+r)*2^k=(r-(q-r))*2^k+q*2^k:=by rw[←Nat.add_mul];congr 1;omega
   rw[e2,Nat.add_mul_mod_self_left,Nat.add_mul_div_left _ _ hq,Nat.add_assoc,Nat.add_comm (2^k)]
def ofLo (x:Rat):Int:=(x.num*1099511627776)/(x.den:Int)
def ofHi (x:Rat):Int:=if(x.num*1099511627776)%(x.den:Int)=0 then ofLo x else ofLo x+1
theorem of_split (x:Rat):ofLo x=x.num/(x.den:Int)*1099511627776+(((x.num%(x.den:Int)).toNat*2^40/x.den:Nat):Int)∧(x.num*1099511627776)%(x.den:Int)=(((x.num%(x.den:Int)).toNat*2^40%x.den:Nat):Int):=by
 have hd:(0:Int)<x.den:=by have:=den_pos' x;omega
 unfold ofLo
 have h1:=Int.emod_nonneg x.num (show(x.den:Int)≠0 by omega)
 have h3:=Int.mul_ediv_add_emod x.num x.den
 obtain⟨r,hr⟩:∃r:Nat,x.num%(x.den:Int)=r:=⟨(x.num%(x.den:Int)).toNat,by omega⟩
 rw[hr]at h3 ⊢
 rw[Int.toNat_natCast]
 obtain⟨q,hq⟩:∃q,x.num/(x.den:Int)=q:=⟨_,rfl⟩
 rw[hq]at h3 ⊢
 have e:x.num*1099511627776=((r*2^40:Nat):Int)+x.den*(q*1099511627776):=by
  rw[←h3,Int.add_mul,Int.add_comm,Int.mul_assoc]
  congr 1
 have c40:((r*2^40:Nat):Int)=(r:Int)*1099511627776:=by rw[Int.natCast_mul];rfl
 refine⟨?_, ?_⟩
 ·rw[e,Int.add_mul_ediv_left _ _ (by omega),Int.add_comm];rfl
 ·rw[e,Int.add_mul_emod_self_left];rfl
theorem z_SOf (vf:Value) (x:Rat) (b:Nat) (w:World) (hf:Fr w vf x) (hx:Fb x b) (hb:b≤131000) (hn1: -2097152≤x.num/(x.den:Int)) (hn2:x.num/(x.den:Int)≤2097151):
    K_ 46 #[vf] w fun e w'=>e=.returned (.tuple #[.agg #[O (ofLo x),O (ofHi x)],O 0])∧Ext w w':=by
  obtain⟨sP,sD⟩:=fb_small hx (by omega)
  have hck:=fun w1 (k1:Ext w w1)=>z_fCheck vf x b w1 (hf.ext k1) hx (by omega)
  obtain⟨u,s,rfl,hu0,hs0⟩:=hf.num
  obtain⟨u',s',e0,hu,hs⟩:=hf
  simp only[Value.agg.injEq,Array.mk.injEq,List.cons.injEq,and_true,true_and]at e0
  obtain⟨rfl,rfl⟩:=e0
  obtain⟨ao,b1,o1,cap1,rfl, -⟩:=hu.view
  obtain⟨bo,b2,o2,cap2,rfl, -⟩:=hs.view
  have hD0:=den_pos' x
  have sDD:Small (x.den+x.den):=small_bits (k:=b+1) (by have:=hx.2;rw[Nat.pow_succ];omega) (by omega)
  have hdm:=fun w1 (k1:Ext w w1)=>z_DivMod _ _ x.num x.den w1 (hu0.ext k1) (hs0.ext k1) sP hD0 sD
  have hnD0:∀w1,Ext w w1→Nn w1 (.agg #[.bool false,.slice bo (dig x.den).length cap2]) x.den:=fun w1 k1=>⟨_,rfl,hs.ext k1⟩
  obtain⟨h3,h4⟩:=of_split x
  unfold ofHi
  rw[h4,h3]
  clear h3 h4
  have hr0:(x.num%(x.den:Int)).toNat<x.den:=by have:=Int.emod_lt_of_pos x.num (show(0:Int)<x.den by omega);omega
  have hA0:=ofF_is x.den hD0 40 (x.num%(x.den:Int)).toNat 0 hr0
  rw[Nat.zero_add]at hA0
  generalize(x.num%(x.den:Int)).toNat=r0 at*
  generalize x.num/(x.den:Int)=n at*
  have hq1 : r0 * 2 ^ 40 / x.den < 1099511627776 := Nat.div_lt_of_lt_mul (by have:x.den*1099511627776=x.den*2^40:=rfl
                                                                             rw[this];exact Nat.mul_lt_mul_of_pos_right hr0 (by decide))
  generalize r0*2^40%x.den=r1 at*
  generalize r0*2^40/x.den=L1 at*
  generalize hsa:decide (x.num<0)=sa at*
  generalize x.num.natAbs=p at*
  generalize x.den=D at*
  clear hx sP hu hu0 hs0 hsa
  obtain⟨N40,hN⟩:∃N40,n*1099511627776=N40:=⟨_,rfl⟩
  have hin:=fun v w1 (h:Wid w1 v n)=>z_Int v n w1 h (by omega) (by omega)
  have hNb: -2305843009213693952≤N40∧N40≤2305841909702066176:=by omega
  obtain⟨HI,hHI⟩:∃HI,(if((r1:Nat):Int)=0 then N40+(L1:Int)else N40+(L1:Int)+1)=HI:=⟨_,rfl⟩
  rw[hN,hHI]
  have hHb:HI=N40+(L1:Int)∨HI=N40+(L1:Int)+1:=by rw[←hHI];split<;>simp
  have hmd:∀w1,K_ 92 #[O (N40+(L1:Int)),O HI] w1 fun e w'=>e=.returned (.tuple #[.agg #[O (N40+(L1:Int)),O HI],O 0])∧Ext w1 w':=fun w1=>by
    have:=span_made (N40+(L1:Int)) HI w1
    have e:madeI (N40+(L1:Int)) HI=⟨N40+(L1:Int),HI,0⟩:=by unfold madeI;rw[if_neg (by omega)]
    rw[e]at this;exact this
  replace hNb:Hid (-2305843009213693952≤N40∧N40≤2305841909702066176):=hNb
  replace hHb:Hid _:=hHb
  replace hHI:Hid _:=hHI
  replace hN:Hid (n*1099511627776=N40):=hN
  have hnD:Hid _:=hnD0
  clear hnD0
  go_enter Tryz.func46,Tryz.ntmps46
  go_upto_region 8 with(first
    | (go_at_call 51;(with_reducible refine(hck _ ex_).mono ?_);rintro e w1 ⟨rfl,hb1⟩;obtain⟨_,_,⟨hc1,hf1⟩,hz1⟩:=hb1.c3;(try simp only[wsz]at hz1 hc1 hf1);clear hck)
    | (go_at_call 98;(with_reducible refine(hdm _ ex_).mono ?_);rintro e w2 ⟨y1,y2,rfl,hy1,hy2,hb2⟩;obtain⟨y9,rfl,hy3⟩:=hy1;obtain⟨ao3,_,_,cap3,rfl, -⟩:=hy3.view;have hy1:Wid w2 _ n:=⟨_,rfl,hy3⟩;obtain⟨ao4,cap4,rfl,hy4⟩:=hy2.open;obtain⟨_,_,⟨hc2,hf2⟩,hz2⟩:=hb2.c3;(try simp only[wsz]at hz2 hc2 hf2);clear hdm)
    | (go_at_call 99;(with_reducible refine(hin _ _ (hy1.ext ex_)).mono ?_);rintro e w3 ⟨rfl,hb3⟩;obtain⟨_,_,⟨hc3,hf3⟩,hz3⟩:=hb3.c3;(try simp only[wsz]at hz3 hc3 hf3);clear hin))
  go_upto_region 10 with fail
  have hWT0:WAt w3 (w2.heap.size+1) (r0:Int):=by
    have h:=(WAt.lit (w:=w2.alloc (.cells #[.bool (decide (n<0)),.slice ao3 (dig n.natAbs).length cap3] 24)) (hy4.wid.ext ((Ext.refl w2).alloc (.cells #[.bool (decide (n<0)),.slice ao3 (dig n.natAbs).length cap3] 24)))).ext hb3
    simpa using h
  have hE2:Ext ((w.alloc (.cells #[.bool sa,.slice ao (dig p).length cap1,.bool false,.slice bo (dig D).length cap2] 26)).alloc (.cells #[O 0,O 0] 30)) w2:=ex_
  have hE0:Ext ((w.alloc (.cells #[.bool sa,.slice ao (dig p).length cap1,.bool false,.slice bo (dig D).length cap2] 26)).alloc (.cells #[O 0,O 0] 30)) w3:=Ext.trans hE2 (Ext.trans (((Ext.refl w2).alloc _).alloc _) hb3)
  have f2:w3.cell? ⟨w.heap.size,2,none⟩=some (.bool false):=(hE0.cells.1 _ 2 c_26).trans c_12
  have f3:w3.cell? ⟨w.heap.size,3,none⟩=some (.slice bo (dig D).length cap2):=(hE0.cells.1 _ 3 c_26).trans c_12
  have e0:w3.cell? ⟨w.heap.size+1,0,none⟩=some (O 0):=(hE0.cells.1 _ 0 (by simp)).trans c_12
  have e1:w3.cell? ⟨w.heap.size+1,1,none⟩=some (O 0):=(hE0.cells.1 _ 1 (by simp)).trans c_12
  have e2:∀o,w3.frozen? ⟨w.heap.size+1,o,none⟩=false:=fun o=>(hE0.cells.2 _ o (by simp)).trans c_12
  have hEw:Ext w w3:=Ext.trans (((Ext.refl w).alloc _).alloc _) hE0
  have hs2:=hE2.size
  have hs3:=hb3.size
  simp only[World.size_alloc]at hs2 hs3
  have hnT:=hWT0.noU
  obtain⟨T,hT⟩:∃T,w2.heap.size+1=T:=⟨_,rfl⟩
  rw[hT]at hWT0 hnT ⊢
  have hTw:w.heap.size+1<T:=by omega
  have hT3:T<w3.heap.size:=by omega
  have hsh:IntKind.i64.wrap (n*1099511627776)=N40:=by
    have h9:=hNb.out
    rw[hN.out,IntKind.wrap_i64];omega
  clear hE2 hE0 hT hs2 hs3 hy1 hy3 hy4 hb1 hb2 hb3 hc1 hc2 hc3 hf1 hf2 hf3 hz1 hz2 hz3
  go_loopw [10,11] (fun a b wr=>∃k r L:Nat,a=O (N40+(L:Int))∧b=O ((k:Int)-1)∧Hid (ofF D k r L=(r1,L1))∧r<D∧Hid (k≤40∧L+2^k≤1099511627776)∧Hid (WAt wr T (r:Int))∧Hid (GB T w3 wr)) (fun _ b _=>(intOf b+1).toNat)
  case atStart=>exact⟨40,r0,0,by rw[hN.out];simp,rfl,hA0,hr0,⟨by omega,by omega⟩,hWT0,GB.refl _ _⟩
  case round=>
    obtain⟨k',r,L,rfl,rfl,hA,hrD,hlo,hWT,hG⟩:=hrel
    clear hWT0 hA0 hr0
    obtain⟨hk40,hlo⟩:=hlo.out
    have hGs:=hG.out.size
    have g0:=(hG.out.cell (o:=0) (show w.heap.size+1<w3.heap.size by omega) (by omega)).trans e0
    have g1:=(hG.out.cell (o:=1) (show w.heap.size+1<w3.heap.size by omega) (by omega)).trans e1
    have g2:∀o,wr.frozen? ⟨w.heap.size+1,o,none⟩=false:=fun o=>(hG.out.frozen (o:=o) (show w.heap.size+1<w3.heap.size by omega) (by omega)).trans (e2 o)
    have g3:=(hG.out.cell (o:=2) (show w.heap.size<w3.heap.size by omega) (by omega)).trans f2
    have g4:=(hG.out.cell (o:=3) (show w.heap.size<w3.heap.size by omega) (by omega)).trans f3
    have hND:Nn wr (.agg #[.bool false,.slice bo (dig D).length cap2]) D:=by
      obtain⟨u,e,hu⟩:=hnD.out w3 hEw
      exact⟨u,e,hu.grown hnT hG.out⟩
    obtain⟨aoR,capR,t0,t1,hNr,hfR⟩:=hWT.out.openN
    have hTl:=hWT.out.lt
    have sr:Small r:=Small.le sD (by omega)
    match k',hA,hk40,hlo with
    |0,hA,_,_=>
      have hA':=hA.out
      simp only[ofF,Prod.mk.injEq]at hA'
      obtain⟨ea,eb⟩:=hA'
      subst ea
      subst eb
      have hEr:Ext w wr:=GB.pre hEw hG.out (by omega)
      have hlen:(dig r).length=0∨0<(dig r).length:=by omega
      have hHIo:=hHI.out
      have hNbo:=hNb.out
      rcases hlen with h0|h0
      · have hr00 : r = 0 := by rcases Nat.eq_zero_or_pos r with e|e
                                · exact e
                                · have:=dig_pos.2 e;omega
        subst hr00
        rw[if_pos (show((0:Nat):Int)=0 from rfl)]at hHIo
        subst hHIo
        go_wp2_with (go_at_call 92;(with_reducible refine(hmd _).mono ?_);rintro e w9 ⟨rfl,hb9⟩;obtain⟨_,_,⟨hc9,hf9⟩,hz9⟩:=hb9.c3;(try simp only[wsz]at hz9 hc9 hf9))
        refine bodyPost_ret (v:=.tuple #[.agg #[O (N40+(L:Int)),O (N40+(L:Int))],O 0]) ?_ rfl ⟨rfl, ?_⟩
        · simp[results,Tryz.results46,go_sem, ↓IntWalk.iteOmega, *]
        · exact Ext.setCell (Ext.setCell (Ext.trans hEr hb9) (Nat.le_succ _) _) (Nat.le_succ _) _
      · have hr1:¬((r:Nat):Int)=0:=by have:=dig_pos.1 h0;omega
        rw[if_neg hr1]at hHIo
        subst hHIo
        have hr1I:decide ((0:Int)<((dig r).length:Int))=true:=decide_eq_true (by omega)
        have hr1N:decide (0<(dig r).length)=true:=decide_eq_true h0
        have hw1:IntKind.i64.wrap (N40+(L:Int)+1)=N40+(L:Int)+1:=by rw[IntKind.wrap_i64];omega
        go_wp2_with (go_at_call 92;(with_reducible refine(hmd _).mono ?_);rintro e w9 ⟨rfl,hb9⟩;obtain⟨_,_,⟨hc9,hf9⟩,hz9⟩:=hb9.c3;(try simp only[wsz]at hz9 hc9 hf9))
        refine bodyPost_ret (v:=.tuple #[.agg #[O (N40+(L:Int)),O (N40+(L:Int)+1)],O 0]) ?_ rfl ⟨rfl, ?_⟩
        · simp[results,Tryz.results46,go_sem, ↓IntWalk.iteOmega, *]
        · exact Ext.setCell (Ext.setCell (Ext.trans hEr hb9) (Nat.le_succ _) _) (Nat.le_succ _) _
    |k+1,hA,hk40,hlo=>
      have hA':=hA.out
      have hkk:(((k+1:Nat):Int)-1)=(k:Int):=by omega
      rw[hkk]
      have h2s:2^(k+1)=2*2^k:=by rw[Nat.pow_succ];omega
      have sl:Small (D-r):=Small.le sD (by omega)
      have hNbo:=hNb.out
      have hsl:∀w1,Ext wr w1→K_ 100 #[.agg #[.bool false,.slice bo (dig D).length cap2],.agg #[.bool false,.slice aoR (dig r).length capR]] w1 fun e w'=>∃u,e=.returned (.tuple #[u,O 0])∧Nn w' u (D-r)∧Ext w1 w':=fun w1 k1=>by
        refine(z_Sub _ _ D r w1 (hND.ext k1).wid (hNr.ext k1).wid (by unfold Sz;rw[Int.natAbs_natCast];exact sD) c_58 (by unfold Sz;exact Small.le sD (by omega))).mono ?_
        rintro e w2 ⟨u,rfl,h2,h3⟩
        exact⟨u,rfl,h2.natE (by omega),h3⟩
      unfold ofF at hA'
      by_cases hless:r<D-r
      · rw[if_pos hless]at hA'
        have hkI:(k:Int)≤39:=by omega
        have hcp:∀va w1,Nn w1 va (D-r)→Ext wr w1→K_ 52 #[.agg #[.bool false,.slice aoR (dig r).length capR],va] w1 fun e w'=>e=.returned (.tuple #[O (-1),O 0])∧Ext w1 w':=fun va w1 h k1=>by
          have:=w_Cmp _ va r (D-r) w1 (hNr.ext k1) h sr sl
          rw[cmp_lt (show(r:Int)<((D-r:Nat):Int) by omega)]at this
          exact this
        have s2:Small (r+r):=Small.le sDD (by omega)
        go_wp2_with (first
          | (go_at_call 100;(with_reducible refine(hsl _ (Ext.refl _)).mono ?_);rintro e w7 ⟨y1,rfl,hy2,hb7⟩;obtain⟨ao1,capl,rfl,hy3⟩:=hy2.open;obtain⟨_,_,⟨hc7,hf7⟩,hz7⟩:=hb7.c3;(try simp only[wsz]at hz7 hc7 hf7);clear hsl)
          | (go_at_call 52;(with_reducible refine(hcp _ _ (hy3.ext ex_) ex_).mono ?_);rintro e w8 ⟨rfl,hb8⟩;obtain⟨_,_,⟨hc8,hf8⟩,hz8⟩:=hb8.c3;(try simp only[wsz]at hz8 hc8 hf8);clear hcp)
          | (go_at_call 35;(with_reducible refine(w_Add _ _ r r _ (hNr.ext ex_) (hNr.ext ex_) sr sr s2).mono ?_);rintro e w9 ⟨y5,rfl,hy5,hb9⟩;obtain⟨ao9,cap9,rfl,hy6⟩:=hy5.open;obtain⟨_,_,⟨hc9,hf9⟩,hz9⟩:=hb9.c3;(try simp only[wsz]at hz9 hc9 hf9)))
        have hE3:Ext wr w9:=ex_
        have hT3':=hWT.out.ext hE3
        have hst:=Bx2.store hT3'.box hy6.wid
        have hG3:Hid (GB T w3 ((w9.setCell ⟨T,0,none⟩ (.bool false)).setCell ⟨T,1,none⟩ (.slice ao9 (dig (r+r)).length cap9))):=((hG.out.trans (GB.ext hE3)).set _).set _
        replace hst:Hid _:=hst
        replace hA':Hid _:=hA'
        go_roundw
        case rel=>exact⟨k,(r+r),L,rfl,by go_num,hA',by omega,⟨by omega,by omega⟩,hst,hG3⟩
        case measure=>simp[intOf]<;>omega
      · rw[if_neg hless]at hA'
        have hkI:(k:Int)≤39:=by omega
        obtain⟨C,hC⟩:∃C,cmpI (r:Int) ((D-r:Nat):Int)=C:=⟨_,rfl⟩
        have hC0:decide (C<0)=false:=by
          rw[←hC];unfold cmpI;rw[if_neg (by omega)];split<;>rfl
        have hcp:∀va w1,Nn w1 va (D-r)→Ext wr w1→K_ 52 #[.agg #[.bool false,.slice aoR (dig r).length capR],va] w1 fun e w'=>e=.returned (.tuple #[O C,O 0])∧Ext w1 w':=fun va w1 h k1=>by
          have:=w_Cmp _ va r (D-r) w1 (hNr.ext k1) h sr sl
          rw[hC]at this
          exact this
        clear hC
        have hs2:∀va w1,Nn w1 va (D-r)→Ext wr w1→K_ 100 #[.agg #[.bool false,.slice aoR (dig r).length capR],va] w1 fun e w'=>∃u,e=.returned (.tuple #[u,O 0])∧Nn w' u (r-(D-r))∧Ext w1 w':=fun va w1 h k1=>by
          refine(z_Sub _ va r (D-r:Nat) w1 (hNr.ext k1).wid h.wid c_58 (by unfold Sz;rw[Int.natAbs_natCast];exact sl) (by unfold Sz;exact Small.le sr (by omega))).mono ?_
          rintro e w2 ⟨u,rfl,h2,h3⟩
          exact⟨u,rfl,h2.natE (by omega),h3⟩
        have h2k:(2:Int)^k≤549755813888:=two_pow_le (t:=39) (by omega)
        have h2k0:(0:Int)<2^k:=Int.pow_pos (by decide)
        have h2c:((2^k:Nat):Int)=2^k:=by rw[Int.natCast_pow];rfl
        have hLN:(L:Int)+2^k≤1099511627776:=by omega
        have hB1: -2305843009213693952≤N40+L∧N40+L+2^k≤2305843009213693952:=by omega
        go_wp2_with (first
          | (go_at_call 100;(with_reducible refine(hsl _ (Ext.refl _)).mono ?_);rintro e w7 ⟨y1,rfl,hy2,hb7⟩;obtain⟨ao1,capl,rfl,hy3⟩:=hy2.open;obtain⟨_,_,⟨hc7,hf7⟩,hz7⟩:=hb7.c3;(try simp only[wsz]at hz7 hc7 hf7);clear hsl)
          | (go_at_call 52;(with_reducible refine(hcp _ _ (hy3.ext ex_) ex_).mono ?_);rintro e w8 ⟨rfl,hb8⟩;obtain⟨_,_,⟨hc8,hf8⟩,hz8⟩:=hb8.c3;(try simp only[wsz]at hz8 hc8 hf8);clear hcp)
          | (go_at_call 100;(with_reducible refine(hs2 _ _ (hy3.ext ex_) ex_).mono ?_);rintro e w9 ⟨y5,rfl,hy5,hb9⟩;obtain⟨ao9,cap9,rfl,hy6⟩:=hy5.open;obtain⟨_,_,⟨hc9,hf9⟩,hz9⟩:=hb9.c3;(try simp only[wsz]at hz9 hc9 hf9)))
        have hE3:Ext wr w9:=ex_
        have hT3':=hWT.out.ext hE3
        have hst:=Bx2.store hT3'.box hy6.wid
        have hG3:Hid (GB T w3 ((w9.setCell ⟨T,0,none⟩ (.bool false)).setCell ⟨T,1,none⟩ (.slice ao9 (dig (r-(D-r))).length cap9))):=((hG.out.trans (GB.ext hE3)).set _).set _
        replace hst:Hid _:=hst
        replace hA':Hid _:=hA'
        go_roundw
        case rel=>exact⟨k,(r-(D-r)),(L+2^k),(by rw[Int.natCast_add,Int.natCast_pow,Int.add_assoc];rfl),by go_num,hA',by omega,⟨by omega,by omega⟩,hst,hG3⟩
        case measure=>simp[intOf]<;>omega
theorem PatP.t0 {w:World} {g:Nat} {x y:Int} (h:PatP w g x y) (hy:¬y<0):w.cell? ⟨g,2,none⟩=some (.bool false):=by
 obtain⟨s,u,t,z,h0,h1,h2,h3,h4,h5⟩:=h.c
 obtain⟨v,e, -⟩:=h5
 cases e
 rw[decide_eq_false hy]at h2
 exact h2
theorem wid_none (w:World):Wid w (.agg #[.bool false,.slice none 0 0]) 0:=⟨_,rfl,Lim.nil _⟩
theorem p_fCheck0 (w:World):K_ 51 #[.agg #[.bool false,.slice none 0 0,.bool false,.slice none 0 0]] w fun e w'=>e=.returned (O 8)∧Ext w w':=by
 have z0:Sz 0:=dig_bits (k:=64) (L:=4096) (by decide) (by decide)
 have hgc:∀(w1:World) (u1 u2:Value),Wid w1 u1 0→Wid w1 u2 0→K_ 103 #[u1,u2] w1 fun e w'=>∃u,e=.returned u∧((VF.wid 0).err 0).p u w'∧Ext w1 w':=fun w1 u1 u2 a b=>calls_err ((z_Gcd u1 u2 0 0 w1 a (b.nat (m:=0)) z0 z0).mono fun e w' ⟨u,h1,h2,h3⟩=>⟨u,h1,h2.wid,h3⟩)
 have hze:∀(w1:World) (u1:Value),Wid w1 u1 0→K_ 104 #[u1] w1 fun e w'=>∃u,e=.returned u∧u=.bool true∧Ext w1 w':=fun w1 u1 a=>calls_eq (w_zero u1 0 w1 (a.nat (m:=0)))
 clear z0
 have I0:KBd w [] w:=⟨Ext.refl w,trivial,by simp,by simp⟩
 have I:=I0.push ((Ext.refl w).alloc (.cells #[.bool false,.slice none 0 0,.bool false,.slice none 0 0] 26)) (BF.pat 0 0) (PatP.new (wid_none w) (wid_none w))
 simp only[World.size_alloc,List.nil_append,List.cons_append]at I
 clear I0
 go_enter Tryz.func51,Tryz.ntmps51
 go_upto_region 1 with fail
 refine rB [] [⟨8,some 9,.b2,(.wat 0)⟩] [.eq (.pointer (some ⟨w.heap.size,0,none⟩)),.wid (0),.eq (.pointer (some ⟨w.heap.size,2,none⟩)),.wid (0),(VF.wid 0).err 0,(VF.wid 0).err 0,.wid (0),.eq (O (0)),.any,.any,.eq (O (0))] [10] I (fun hc=>⟨oN (.tmp 1) (.pointer (some ⟨w.heap.size,0,none⟩)) hc,ob_getP0 w.heap.size 0 0 (some 0) hc rfl fun vs gs w1 c=>c.b0 0,oN (.tmp 1) (.pointer (some ⟨w.heap.size,0,none⟩)) hc,ob_getP2 w.heap.size 0 0 (some 2) hc rfl fun vs gs w1 c=>c.b0 0,ob_call (fun v=>[v 1,v 3]) hc rfl fun vs gs w1 c=>hgc _ _ _ (c.v 1) (c.v 3),ob_cp 4 hc (.inl rfl),ob_ext0 5 hc rfl,ob_ext1 5 hc rfl,ob_allocW (n:=1) rfl hc rfl rfl rfl,ob_putW (n:=1) rfl 6 hc rfl 0,ob_cp 7 hc (.inr rfl),trivial⟩) fun g3 vs W=>tl ?_
 clear I
 intro I
 go_upto_region 2 with fail
 refine rB [] [] [.eq (O (0)),.eq (.bool false),.eq (.bool false),.eq (.pointer (some ⟨w.heap.size,2,none⟩)),.eq (.pointer (some ⟨w.heap.size,2,none⟩)),.eq (.bool false),.eq (.bool false),.eq (.bool false),.eq (.pointer (some ⟨w.heap.size,2,none⟩)),.wid (0),.eq (.bool true),.eq (.bool true),.eq (.bool true),.eq undef,.eq undef,.eq undef,.eq undef,.eq (.bool true)] [17] I (fun hc=>⟨ob_mv hc (.inl rfl),oTN 13 0 (.const (O 0)) (O 0) hc,ob_cp 1 hc (.inl rfl),oN (.tmp 1) (.pointer (some ⟨w.heap.size,0,none⟩)) hc,oT 16 3 hc,oL 17 4 hc fun vs gs w1 c=>PatP.t0 (c.b0 0) (by decide),ob_pickF (some 2) (some 5) hc rfl,ob_cp 6 hc (.inl rfl),oN (.tmp 1) (.pointer (some ⟨w.heap.size,0,none⟩)) hc,ob_getP2 w.heap.size 0 0 (some 8) hc rfl fun vs gs w1 c=>c.b0 0,ob_call (fun v=>[v 9]) hc rfl fun vs gs w1 c=>hze _ _ (c.v 9),ob_pickF (some 7) (some 10) hc rfl,ob_cp 11 hc (.inl rfl),ob_skip hc,ob_skip hc,ob_skip hc,ob_skip hc,ob_pickT (some 12) none hc rfl,trivial⟩) fun vs W=>tl ?_
 clear I
 intro I
 have hE:=I.e
 clear I hgc hze
 go_wp2_with fail
 go_ret
 exact⟨rfl,hE⟩
theorem T_SphD_3 {p:Prop} (h:p:=by
 refine hK.out _ _ ?_ fun _=> ?_
 ·exact T_SphD_2
 clear hK K hH
 rename_i hH
 try simp only[Act.put,List.setIfInBounds_toArray,List.set_cons_zero,List.set_cons_succ]
 refine rh1 17 rfl fun K hK=> ?_
 go_simp
 (go_at_call 32;(try simp only[hod0,hod1,hog00,hog01]);(with_reducible refine(d_add w1.heap.size (r3.e) r2.lo r2.hi r3.lo r3.hi _ c_21 c_46).mono ?_);(generalize hr4:doI (r3.e) (addI r2.lo r2.hi r3.lo r3.hi)=r4);rintro e w3 ⟨rfl,hb1⟩;have hz1:=hb1.size;(try simp only[World.size_setCell]at hz1);obtain⟨hg1,hh1⟩:=hb1.got (u:=O (r3.e)) c_21;have hob1:=obx_of hg1;(try simp only[frozen_drew]at hh1))
 refine hK.out _ _ ?_ fun _=> ?_
 ·exact T_SphD_2
 clear hK K hH
 rename_i hH
 try simp only[Act.put,List.setIfInBounds_toArray,List.set_cons_zero,List.set_cons_succ]
 refine rh1 18 rfl fun K hK=> ?_
 go_simp
 refine hK.out _ _ ?_ fun _=> ?_
 ·exact T_SphD_2
 clear hK K hH
 rename_i hH
 try simp only[Act.put,List.setIfInBounds_toArray,List.set_cons_zero,List.set_cons_succ]
 refine wpAnyH_done c_3 ?_ _
 have hOld:=hH
 clear hH
 have hE:=hOld.2.2.2
 have hO:=And.intro hOld.1 (And.intro hOld.2.1 hOld.2.2.1)
 clear hOld
 replace hO:=helBack hO c_4
 replace hO:=helBack hO c_4
 obtain⟨hOc,hOf,hOz⟩:=helEnd hO
 clear hO
 have hlu:=q_0 w.heap.size w3.heap.size (w.heap.size+1) w1.heap.size wg.heap.size
 go_wp2_with fail
 rw[rounds_succ]
 go_wp2_with fail
 go_region
 all_goals go_wp2_with fail
 all_goals
  refine bodyPost_ret (v:=.tuple #[.agg #[O (nrmV a).lo,O (nrmV a).hi],O (nrmV a).e]) ?_ rfl ⟨rfl, ?_⟩
  ·(try simp only[bne_eq_false_iff_eq]at*)
   simp[results,Tryz.results12,go_sem,nrmV,nrmI,nrm3,nrm2,nrm1,nrm0, *]
  ·refine ExtP.out (p:=w1.heap.size) (k:=4) ?_ (by omega)
   (repeat(first|with_reducible refine ExtP.set ?_| (with_reducible refine ExtP.store ?_ ?_;rotate_left;(focus ((try simp only[]);omega)))|with_reducible refine ExtP.ext ?_ ((Ext.refl _).alloc _)|with_reducible refine ExtP.ext ?_ ((Ext.refl _).drew)|with_reducible assumption|with_reducible exact ExtP.of _ _ (Ext.refl w)|with_reducible refine ExtP.ext ?_ c_7))):p:=h
theorem T_SphD_2 {p:Prop} (h:p:=by
 (try dsimp only);(first| (with_reducible exact hel0 hWe)| (with_reducible exact hel1p c_7 c_7)| (with_reducible exact hel1 c_7 c_7)| (with_reducible exact hel3d c_7)| (with_reducible exact hel3 c_7)| ((with_reducible refine hel4 c_7 ?_ ?_)<;>omega)| (repeat(first| (with_reducible assumption)| (with_reducible refine hel2 ?_ c_4 c_50))))):p:=h
theorem T_SphD_1 {p:Prop} (h:p:=by
 refine hK.out _ _ ?_ fun _=> ?_
 ·exact T_SphD_2
 clear hK K hH
 rename_i hH
 try simp only[Act.put,List.setIfInBounds_toArray,List.set_cons_zero,List.set_cons_succ]
 refine rh1 17 rfl fun K hK=> ?_
 go_simp
 (go_at_call 32;(try simp only[hod0,hod1,hog00,hog01]);(with_reducible refine(d_add w1.heap.size (r1.e) r0.lo r0.hi r1.lo r1.hi _ c_21 c_46).mono ?_);(generalize hr2:doI (r1.e) (addI r0.lo r0.hi r1.lo r1.hi)=r2);rintro e w3 ⟨rfl,hb1⟩;have hz1:=hb1.size;(try simp only[World.size_setCell]at hz1);obtain⟨hg1,hh1⟩:=hb1.got (u:=O (r1.e)) c_21;have hob1:=obx_of hg1;(try simp only[frozen_drew]at hh1))
 refine hK.out _ _ ?_ fun _=> ?_
 ·exact T_SphD_2
 clear hK K hH
 rename_i hH
 try simp only[Act.put,List.setIfInBounds_toArray,List.set_cons_zero,List.set_cons_succ]
 refine rh1 18 rfl fun K hK=> ?_
 go_simp
 refine hK.out _ _ ?_ fun _=> ?_
 ·exact T_SphD_2
 clear hK K hH
 rename_i hH
 try simp only[Act.put,List.setIfInBounds_toArray,List.set_cons_zero,List.set_cons_succ]
 refine wpAnyH_done c_3 ?_ _
 have hOld:=hH
 clear hH
 have hE:=hOld.2.2.2
 have hO:=And.intro hOld.1 (And.intro hOld.2.1 hOld.2.2.1)
 clear hOld
 replace hO:=helBack hO c_4
 replace hO:=helBack hO c_4
 obtain⟨hOc,hOf,hOz⟩:=helEnd hO
 clear hO
 have hlu:=q_0 w.heap.size w3.heap.size (w.heap.size+1) w1.heap.size wg.heap.size
 go_wp2_with fail
 rw[rounds_succ]
 go_wp2_with fail
 refine wp_name fun W hW=> ?_
 obtain⟨hWc,hWf,hWz⟩:=hW.cells
 have hWe:ExtP w w1.heap.size 4 W:=ExtP.same hW c_19
 (try simp only[World.size_setCell]at hWz)
 replace hWz:=And.intro (Nat.le_of_eq hWz) (Nat.le_of_eq hWz.symm)
 have hlt:=q_0 w.heap.size W.heap.size (w.heap.size+1) w1.heap.size wg.heap.size
 have hd:=q_10 w.heap.size (w.heap.size+1) w1.heap.size wg.heap.size
 have hod0:∀x,obx W.drew wg.heap.size 0 x=(O r2.lo:Value):=obx_of (show W.drew.cell? ⟨wg.heap.size,0,none⟩=some (O r2.lo:Value)from by(try simp only[cell_drew]);simp[go_sem, *])
 have hod1:∀x,obx W.drew wg.heap.size 1 x=(O r2.hi:Value):=obx_of (show W.drew.cell? ⟨wg.heap.size,1,none⟩=some (O r2.hi:Value)from by(try simp only[cell_drew]);simp[go_sem, *])
 refine wp_region_held_drew (S:=(fun w'=>(∀b o,b<W.heap.size→w'.cell? ⟨b,o,none⟩=if b=wg.heap.size∧0≤o∧o<2∨b=w1.heap.size∧o=4 then(W.cell? ⟨b,o,none⟩).map (obx w' b o)else W.cell? ⟨b,o,none⟩)∧(∀b o,b<W.heap.size→w'.frozen? ⟨b,o,none⟩=W.frozen? ⟨b,o,none⟩)∧W.heap.size≤w'.heap.size∧ExtP w w1.heap.size 4 w')) c_3 ?_ (fun hH=> ?_)
 ·exact T_SphD_2
 refine tk 0 rfl c_5 ?_
 try simp only[Act.put,List.setIfInBounds_toArray]
 refine tk 1 rfl c_5 ?_
 try simp only[Act.put]
 refine tk 2 rfl c_5 ?_
 try simp only[Act.put]
 refine tk 3 rfl c_5 ?_
 try simp only[Act.put]
 refine tk 4 rfl c_5 ?_
 try simp only[Act.put]
 refine tk 6 rfl c_5 ?_
 try simp only[Act.put]
 refine tk 7 rfl c_5 ?_
 try simp only[Act.put]
 refine tk 8 rfl c_5 ?_
 try simp only[Act.put]
 refine tk 9 rfl c_5 ?_
 try simp only[Act.put]
 refine tk 10 rfl c_5 ?_
 try simp only[Act.put]
 refine tk 11 rfl c_5 ?_
 try simp only[Act.put]
 refine tk 12 rfl c_5 ?_
 try simp only[Act.put]
 refine tk 13 rfl c_5 ?_
 try simp only[Act.put]
 refine tk 14 rfl c_5 ?_
 try simp only[Act.put]
 refine tk 15 rfl c_5 ?_
 try simp only[Act.put]
 refine wpAnyH_ready (rs:=[5,16]) c_3 (by simp) ?_
 refine AllReadyH.cons (o:=_) rfl (fun K hK=> ?_) ?_
 ·go_simp
  refine hK.out _ _ ?_ fun _=> ?_
  ·exact T_SphD_2
  clear hK K hH
  rename_i hH
  try simp only[Act.put,List.setIfInBounds_toArray,List.set_cons_zero,List.set_cons_succ]
  refine rh1 16 rfl fun K hK=> ?_
  go_simp
  (go_at_call 32;(with_reducible refine(d_sq w1.heap.size (r2.e) a.e a.f a.e a.f _ c_13 c_23 ha3).mono ?_);(generalize hr3:doI (r2.e) (sqI a.e a.f)=r3);rintro e w2 ⟨rfl,hb0⟩;have hz0:=hb0.size;(try simp only[size_drew,World.size_setCell]at hz0);obtain⟨hg0,hh0⟩:=hb0.got (u:=O (r2.e)) c_13;have hob0:=obx_of hg0;(try simp only[frozen_drew]at hh0);(have hog00:=obx_of ((hb0.cells.1 wg.heap.size 0 c_34).trans (show _=some (O r2.lo)from by(try simp only[cell_sc,cell_drew]);simp[go_sem, *])));(have hog01:=obx_of ((hb0.cells.1 wg.heap.size 1 c_34).trans (show _=some (O r2.hi)from by(try simp only[cell_sc,cell_drew]);simp[go_sem, *]))))
  exact T_SphD_3
 refine rd1 rfl fun K hK=> ?_
 ·go_simp
  (go_at_call 32;(with_reducible refine(d_sq w1.heap.size (r2.e) a.e a.f a.e a.f _ c_13 c_23 ha3).mono ?_);(generalize hr3:doI (r2.e) (sqI a.e a.f)=r3);rintro e w2 ⟨rfl,hb0⟩;have hz0:=hb0.size;(try simp only[size_drew,World.size_setCell]at hz0);obtain⟨hg0,hh0⟩:=hb0.got (u:=O (r2.e)) c_13;have hob0:=obx_of hg0;(try simp only[frozen_drew]at hh0);(have hog00:=obx_of ((hb0.cells.1 wg.heap.size 0 c_34).trans (show _=some (O r2.lo)from by(try simp only[cell_sc,cell_drew]);simp[go_sem, *])));(have hog01:=obx_of ((hb0.cells.1 wg.heap.size 1 c_34).trans (show _=some (O r2.hi)from by(try simp only[cell_sc,cell_drew]);simp[go_sem, *]))))
  refine hK.out _ _ ?_ fun _=> ?_
  ·exact T_SphD_2
  clear hK K hH
  rename_i hH
  try simp only[Act.put,List.setIfInBounds_toArray,List.set_cons_zero,List.set_cons_succ]
  refine rh1 5 rfl fun K hK=> ?_
  go_simp
  exact T_SphD_3):p:=h
theorem p_nrm (a:V3) (w:World) (ha:a.I):
    K_ 12 #[.agg #[O a.a,O a.b,O a.c,O a.d,O a.e,O a.f]] w fun e w'=>e=.returned (.tuple #[.agg #[O (nrmV a).lo,O (nrmV a).hi],O (nrmV a).e])∧Ext w w':=by
 obtain⟨ha1,ha2,ha3⟩:=ha
 have l0:IntKind.i64.wrap 0=0:=rfl
 have l1:IntKind.i64.wrap 1=1:=rfl
 have l2:IntKind.i64.wrap 2=2:=rfl
 have l3:IntKind.i64.wrap 3=3:=rfl
 go_enter Tryz.func12,Tryz.ntmps12
 go_wp2_with (first| (go_at_call 43;(with_reducible refine(s_check a _).mono ?_);rintro e w1 ⟨rfl,hb⟩;obtain⟨_,_,⟨hc,hf⟩,hz⟩:=hb.c3;(try simp only[World.size_alloc]at hz hc hf);(try have zz:=q_4 w.heap.size w1.heap.size);(try have zz:=q_4 (w.heap.size+1) w1.heap.size))| (go_at_call 30;(with_reducible refine(s_begin _).mono ?_);rintro e w2 ⟨rfl,rfl⟩)| (go_at_call 32;(with_reducible refine(d_sq w1.heap.size (0) a.a a.b a.a a.b _ c_45 c_45 ha1).mono ?_);(generalize hr0:doI (0) (sqI a.a a.b)=r0);rintro e wg ⟨rfl,hb⟩;obtain⟨_,_,⟨hc,hf⟩,hz⟩:=hb.c3;(try simp only[wsz]at hz hc hf)))
 ·-- the error
  refine bodyPost_ret (v:=.tuple #[.agg #[O (nrmV a).lo,O (nrmV a).hi],O (nrmV a).e]) ?_ rfl ⟨rfl, ?_⟩
  ·(try simp only[bne_iff_ne,ne_eq]at*)
   simp[results,Tryz.results12,go_sem,nrmV, *]
  ·exact b_18
 ·-- the sum
  refine wp_loop_rounds 3 ?_
  rw[rounds_succ]
  go_wp2_with fail
  refine wp_name fun W hW=> ?_
  obtain⟨hWc,hWf,hWz⟩:=hW.cells
  have hWe:ExtP w w1.heap.size 4 W:=ExtP.same hW c_10
  (try simp only[World.size_alloc]at hWz)
  replace hWz:=And.intro (Nat.le_of_eq hWz) (Nat.le_of_eq hWz.symm)
  have hlt:=q_0 w.heap.size W.heap.size (w.heap.size+1) w1.heap.size wg.heap.size
  have hd:=q_10 w.heap.size (w.heap.size+1) w1.heap.size wg.heap.size
  have hod0:∀x,obx W.drew wg.heap.size 0 x=(O r0.lo:Value):=obx_of (show W.drew.cell? ⟨wg.heap.size,0,none⟩=some (O r0.lo:Value)from by(try simp only[cell_drew]);simp[go_sem, *])
  have hod1:∀x,obx W.drew wg.heap.size 1 x=(O r0.hi:Value):=obx_of (show W.drew.cell? ⟨wg.heap.size,1,none⟩=some (O r0.hi:Value)from by(try simp only[cell_drew]);simp[go_sem, *])
  refine wp_region_held_drew (S:=(fun w'=>(∀b o,b<W.heap.size→w'.cell? ⟨b,o,none⟩=if b=wg.heap.size∧0≤o∧o<2∨b=w1.heap.size∧o=4 then(W.cell? ⟨b,o,none⟩).map (obx w' b o)else W.cell? ⟨b,o,none⟩)∧(∀b o,b<W.heap.size→w'.frozen? ⟨b,o,none⟩=W.frozen? ⟨b,o,none⟩)∧W.heap.size≤w'.heap.size∧ExtP w w1.heap.size 4 w')) c_3 ?_ (fun hH=> ?_)
  ·exact T_SphD_2
  refine tk 0 rfl c_5 ?_
  try simp only[Act.put,List.setIfInBounds_toArray]
  refine tk 1 rfl c_5 ?_
  try simp only[Act.put]
  refine tk 2 rfl c_5 ?_
  try simp only[Act.put]
  refine tk 3 rfl c_5 ?_
  try simp only[Act.put]
  refine tk 4 rfl c_5 ?_
  try simp only[Act.put]
  refine tk 6 rfl c_5 ?_
  try simp only[Act.put]
  refine tk 7 rfl c_5 ?_
  try simp only[Act.put]
  refine tk 8 rfl c_5 ?_
  try simp only[Act.put]
  refine tk 9 rfl c_5 ?_
  try simp only[Act.put]
  refine tk 10 rfl c_5 ?_
  try simp only[Act.put]
  refine tk 11 rfl c_5 ?_
  try simp only[Act.put]
  refine tk 12 rfl c_5 ?_
  try simp only[Act.put]
  refine tk 13 rfl c_5 ?_
  try simp only[Act.put]
  refine tk 14 rfl c_5 ?_
  try simp only[Act.put]
  refine tk 15 rfl c_5 ?_
  try simp only[Act.put]
  refine wpAnyH_ready (rs:=[5,16]) c_3 (by simp) ?_
  refine AllReadyH.cons (o:=_) rfl (fun K hK=> ?_) ?_
  ·go_simp
   refine hK.out _ _ ?_ fun _=> ?_
   ·exact T_SphD_2
   clear hK K hH
   rename_i hH
   try simp only[Act.put,List.setIfInBounds_toArray,List.set_cons_zero,List.set_cons_succ]
   refine rh1 16 rfl fun K hK=> ?_
   go_simp
   (go_at_call 32;(with_reducible refine(d_sq w1.heap.size (r0.e) a.c a.d a.c a.d _ c_13 c_23 ha2).mono ?_);(generalize hr1:doI (r0.e) (sqI a.c a.d)=r1);rintro e w2 ⟨rfl,hb0⟩;have hz0:=hb0.size;(try simp only[size_drew,World.size_setCell]at hz0);obtain⟨hg0,hh0⟩:=hb0.got (u:=O (r0.e)) c_13;have hob0:=obx_of hg0;(try simp only[frozen_drew]at hh0);(have hog00:=obx_of ((hb0.cells.1 wg.heap.size 0 c_34).trans (show _=some (O r0.lo)from by(try simp only[cell_sc,cell_drew]);simp[go_sem, *])));(have hog01:=obx_of ((hb0.cells.1 wg.heap.size 1 c_34).trans (show _=some (O r0.hi)from by(try simp only[cell_sc,cell_drew]);simp[go_sem, *]))))
   exact T_SphD_1
  refine rd1 rfl fun K hK=> ?_
  ·go_simp
   (go_at_call 32;(with_reducible refine(d_sq w1.heap.size (r0.e) a.c a.d a.c a.d _ c_13 c_23 ha2).mono ?_);(generalize hr1:doI (r0.e) (sqI a.c a.d)=r1);rintro e w2 ⟨rfl,hb0⟩;have hz0:=hb0.size;(try simp only[size_drew,World.size_setCell]at hz0);obtain⟨hg0,hh0⟩:=hb0.got (u:=O (r0.e)) c_13;have hob0:=obx_of hg0;(try simp only[frozen_drew]at hh0);(have hog00:=obx_of ((hb0.cells.1 wg.heap.size 0 c_34).trans (show _=some (O r0.lo)from by(try simp only[cell_sc,cell_drew]);simp[go_sem, *])));(have hog01:=obx_of ((hb0.cells.1 wg.heap.size 1 c_34).trans (show _=some (O r0.hi)from by(try simp only[cell_sc,cell_drew]);simp[go_sem, *]))))
   refine hK.out _ _ ?_ fun _=> ?_
   ·exact T_SphD_2
   clear hK K hH
   rename_i hH
   try simp only[Act.put,List.setIfInBounds_toArray,List.set_cons_zero,List.set_cons_succ]
   refine rh1 5 rfl fun K hK=> ?_
   go_simp
   exact T_SphD_1
theorem r_trim (v:Value) (xs:List Int) (w:World) (h:Lim w v xs):
    K_ 129 #[v] w fun e w'=>∃u,e=.returned u∧Lim w' u (trimL xs)∧Ext w w':=by
 have hlb:=h.lb
 rcases h.2 with⟨rfl,rfl⟩| ⟨b,o,cap,rfl,h1,h2,h3,h4⟩
 ·obtain⟨i0,hi,hz0,hz1,hz2⟩:=info_parts info81
  have hown:(w.alloc (.cells #[] 54)).ownsRow w.heap.size 54 1 (.slice (some ⟨w.heap.size,0,none⟩) 0 0) 0 (([]:List Int).map (Value.int .u32)):=World.ownsRow_lit w #[] 0 (Nat.le_refl _) (by decide) rfl
  have hL:=Lim.own' hown Lb.nil (by decide)
  go_enter Tryz.func129,Tryz.ntmps129
  go_wp2
  refine wp_loop_rounds 1 ?_
  rw[rounds_succ]
  go_wp2_with (at_builtin;refine wpList_append_own_none rfl _ _ 22 rfl w.heap.size 54 i0 1 Tryz.underlying22 hi _ _ _ rfl hown rfl ?_)
  go_ret
  exact⟨_,rfl,hL,(Ext.refl w).alloc _⟩
 ·obtain⟨i0,hi,hz0,hz1,hz2⟩:=info_parts info81
  go_enter Tryz.func129,Tryz.ntmps129
  go_wp2
  go_loop [3] (fun i=>∃k:Nat,k≤xs.length∧i=O k∧trimL (xs.take k)=trimL xs) (fun i=>(intOf i).toNat)
  case atStart=>exact⟨xs.length,Nat.le_refl _,rfl,by rw[List.take_length]⟩
  case round=>
   obtain⟨k,hk,rfl,ht⟩:=hrel
   cases k with
   |zero=>
    have hT:Hid (xs.take 0=trimL xs):=ht
    clear ht
    have hown:(w.alloc (.cells #[] 54)).ownsRow w.heap.size 54 1 (.slice (some ⟨w.heap.size,0,none⟩) 0 0) 0 []:=World.ownsRow_lit w #[] 0 (Nat.le_refl _) (by decide) rfl
    have hnews:∀j u,((xs.take 0).map (Value.int .u32))[j]? =some u→(w.alloc (.cells #[] 54)).cell? ((⟨b,o,none⟩:Addr).add j)=some u:=fun j u hu=>by simp at hu
    have lT:Lb (xs.take 0):=hlb.take _
    go_wp2_with (at_builtin;refine wpList_append_own _ rfl _ _ 22 rfl w.heap.size 54 i0 (.int .u32 0) 1 4 Tryz.underlying22 hi hz0 hz1 hz2 rfl (by decide) _ _ _ rfl hown ⟨b,o,none⟩ 0 cap ((xs.take 0).map (Value.int .u32)) rfl (by simp) hnews (ints_oneCell .u32 _) c_31 (by omega) (by simp) ?_;intro v' w1 hown' hgrow hnil)
    have hE:Ext w w1:=Below.grown (row:=some w.heap.size) ((Ext.refl w).alloc _) hgrow (by simp) (fun k e=>by cases e;exact Nat.le_refl _)
    rw[Nat.zero_add,List.nil_append]at hown'
    have hL:=Lim.own' hown' lT (by omega)
    go_ret
    exact⟨_,rfl,hT.out▸hL,hE⟩
   |succ k=>
    have hck:=h4 k (by omega)
    by_cases h0:xs.getD k 0=0
    ·rw[h0]at hck
     go_wp2
     go_round
     case rel=>exact⟨k,by omega,by go_num,by rw[←ht];exact(trim_step (by omega) h0).symm⟩
     case measure=>simp[intOf]
    ·have hT:Hid (xs.take (k+1)=trimL xs):=(trim_stop (by omega) h0).symm.trans ht
     clear ht
     have hown:(w.alloc (.cells #[] 54)).ownsRow w.heap.size 54 1 (.slice (some ⟨w.heap.size,0,none⟩) 0 0) 0 []:=World.ownsRow_lit w #[] 0 (Nat.le_refl _) (by decide) rfl
     have hnews:∀j u,((xs.take (k+1)).map (Value.int .u32))[j]? =some u→(w.alloc (.cells #[] 54)).cell? ((⟨b,o,none⟩:Addr).add j)=some u:=fun j u hu=>by
      rw[List.getElem?_map]at hu
      cases hj:(xs.take (k+1))[j]? with
      |none=>rw[hj]at hu;cases hu
      |some x=>
       rw[hj]at hu
       have hjl:j<(xs.take (k+1)).length:=(List.getElem?_eq_some_iff.1 hj).1
       rw[List.length_take]at hjl
       have:=h4 j (by omega)
       have hx:xs.getD j 0=x:=by rw[←take_getD (k:=(k+1)) (by omega),List.getD_eq_getElem?_getD,hj];rfl
       rw[show(⟨b,o,none⟩:Addr).add j=⟨b,o+j,none⟩from by simp[Addr.add],cell_al,if_neg (by omega),this,hx]
       simpa using hu
     have hlen:(xs.take (k+1)).length=(k+1):=by rw[List.length_take];omega
     have lT:Lb (xs.take (k+1)):=hlb.take _
     obtain⟨z,hz⟩:∃z,xs.getD k 0=z:=⟨_,rfl⟩
     rw[hz]at hck h0
     go_wp2_with (at_builtin;refine wpList_append_own _ rfl _ _ 22 rfl w.heap.size 54 i0 (.int .u32 0) 1 4 Tryz.underlying22 hi hz0 hz1 hz2 rfl (by decide) _ _ _ rfl hown ⟨b,o,none⟩ (k+1) cap ((xs.take (k+1)).map (Value.int .u32)) rfl c_26 hnews (ints_oneCell .u32 _) c_31 (by omega) (by simp) ?_;intro v' w1 hown' hgrow hnil)
     have hE:Ext w w1:=Below.grown (row:=some w.heap.size) ((Ext.refl w).alloc _) hgrow (by simp) (fun k e=>by cases e;exact Nat.le_refl _)
     rw[Nat.zero_add,List.nil_append]at hown'
     have hL:=Lim.own' hown' lT (by omega)
     go_ret
     exact⟨_,rfl,hT.out▸hL,hE⟩
theorem r_madeN (v:Value) (xs:List Int) (m:Nat) (w:World) (h:Lim w v xs) (hm:val xs=m) (hl:(dig m).length≤4096):
    K_ 67 #[.bool false,v] w fun e w'=>∃u,e=.returned (.tuple #[.agg #[.bool false,u],O 0])∧Lim w' u (dig m)∧Ext w w':=by
 have ht:=trim_dig h.lb hm
 have hk:=fun w1 (k:Ext w w1)=>r_trim v xs w1 (h.ext k)
 rw[ht]at hk
 clear ht hm
 generalize hd:dig m=ds at hk hl
 go_enter Tryz.func67,Tryz.ntmps67
 go_wp2_with (go_at_call 129;(with_reducible refine(hk _ ex_).mono ?_);rintro e w1 ⟨u,rfl,hu,hb⟩;obtain⟨ao,b1,o1,cap1,rfl,v1,v2,v3,v4,v5,v6⟩:=hu.view;obtain⟨_,_,⟨hc,hf⟩,hz⟩:=hb.c3;(try simp only[wsz]at hz hc hf))
 have hB:NoU w1 w.heap.size:=(NoU.new w _ _ (noU2 (by simp) (by simp))).ext (by simp) hb
 refine bodyPost_ret (v:=.tuple #[.agg #[.bool false,.slice ao ds.length cap1],O 0]) ?_ rfl ⟨_,rfl, ?_, ?_⟩
 ·exact b_27
 ·exact b_9
 ·exact b_1
theorem r_From (n:Nat) (w:World) (hn:n<9223372036854775808):
    K_ 26 #[O n] w fun e w'=>∃u,e=.returned u∧Nn w' u n∧Ext w w':=by
 have hlt:¬((n:Int)<0):=by omega
 have hd:decide ((n:Int)<0)=false:=decide_eq_false hlt
 have hL:=lim_two (w.alloc (.cells #[.bool false,.slice none 0 0] 24)) ((n:Int)%4294967296) ((n:Int)/4294967296) c_59 c_59
 rw[World.size_alloc]at hL
 have hv:val [(n:Int)%4294967296,(n:Int)/4294967296]=n:=by simp only[val];unfold BB;omega
 go_enter Tryz.func26,Tryz.ntmps26
 go_wp2_with (go_at_call 67;(with_reducible refine(r_madeN _ _ n _ hL hv (dig_len2 hn)).mono ?_);rintro e w1 ⟨s,rfl,hs,hb⟩;obtain⟨ao,b1,o1,cap1,rfl,v1,v2,v3,v4,v5,v6⟩:=hs.view;obtain⟨_,_,⟨hc,hf⟩,hz⟩:=hb.c3;(try simp only[wsz]at hz hc hf))
 have hB:NoU w1 w.heap.size:=((NoU.new w _ _ (noU2 (by simp) (by simp))).alloc (by simp) _ _).ext c_26 hb
 refine bodyPost_ret (v:=.agg #[.bool false,.slice ao (dig n).length cap1]) ?_ rfl ⟨_,rfl,⟨_,rfl, ?_⟩, ?_⟩
 ·simp[results,Tryz.results26,go_sem, ↓IntWalk.iteOmega, *]
 ·have hB3:=hB.alloc (c:=#[.bool false,.slice ao (dig n).length cap1]) (t:=24) (by omega)
  exact Lim.box (Lim.box (hs.alloc _) hB3) (NoU.set hB3 (fun z e=>by cases e))
 ·exact b_1
theorem T_RA_1 {p:Prop} (h:p:=by
 go_enter Tryz.func65,Tryz.ntmps65
 go_wp2_with fail
 go_ret
 exact⟨rfl,ex_⟩):p:=h
theorem r_Check (v:Value) (m:Nat) (w:World) (h:Nn w v m) (hs:Small m):
    K_ 65 #[v] w fun e w'=>e=.returned (O 0)∧Ext w w':=by
 obtain⟨u,rfl,h3⟩:=h
 obtain⟨ao,b1,o1,cap1,rfl,v1,v2,v3,v4,v5,v6⟩:=h3.view
 unfold Small at hs
 have hln:=last_ne (m:=m)
 generalize dig m=ds at*
 rcases Nat.eq_zero_or_pos ds.length with h0|h0
 ·clear v1 v4 v5
  rw[h0]
  exact T_RA_1
 ·have e:=v1 h0
  subst e
  have hlw:=v4 h0
  obtain⟨q,eq⟩:∃q,ds.length=q+1:=⟨ds.length-1,by omega⟩
  have hl:=v5 q (by omega)
  replace hln:=hln h0
  rw[eq,Nat.add_sub_cancel]at hln
  obtain⟨z,ez⟩:∃z,ds.getD q 0=z:=⟨_,rfl⟩
  rw[ez]at hl hln
  rw[eq]at hs ⊢
  have z1:(z==0)=false:=by simpa using hln
  have z2:decide ((4096:Int)<(q:Int)+1)=false:=decide_eq_false (by omega)
  have z3:((q:Int)+1==0)=false:=by simp;omega
  clear v5 v6 v4 v1 h3 v2 eq ez
  exact T_RA_1
end Go.Proofs.YtaoioncjmfcolaaGreat
