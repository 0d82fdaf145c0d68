/- kepler: Dot, Neg, the sum. -/
import Derived.Test.YtaoioncjmfcolaaGreatV41
set_option linter.unusedSimpArgs false
set_option linter.unusedVariables false
set_option maxRecDepth 100000
set_option maxHeartbeats 4000000
namespace Go.Proofs.YtaoioncjmfcolaaGreat
open Go.RowKit
theorem p_Dot (P V:V3) (d:R3) (w:World) (h0:ck2V P V=0) (iP:P.I) (iV:V.I) (hd:dotS 0 P V=d):K_ 116 #[.agg #[O P.a,O P.b,O P.c,O P.d,O P.e,O P.f],.agg #[O V.a,O V.b,O V.c,O V.d,O V.e,O V.f]] w fun e w'=>e=.returned (.tuple #[.agg #[O d.lo,O d.hi],O d.e])∧Ext w w':=by
 have hlk:∀(w1:World) (u1 u2:Value),u1=.agg #[O P.a,O P.b,O P.c,O P.d,O P.e,O P.f]→u2=.agg #[O V.a,O V.b,O V.c,O V.d,O V.e,O V.f]→K_ 38 #[u1,u2] w1 fun e w'=>∃u,e=.returned u∧u=O 0∧Ext w1 w':=fun w1 u1 u2 k1 k2=>by
  subst k1 k2
  have:=s_look P V w1
  rw[h0]at this
  exact calls_eq this
 clear h0
 have I0:KBd w [] w:=⟨Ext.refl w,trivial,by simp,by simp⟩
 have I:=((I0.new [O P.a,O P.b,O P.c,O P.d,O P.e,O P.f] 32 (by simp)).new [O V.a,O V.b,O V.c,O V.d,O V.e,O V.f] 32 (by simp)).new [O 0,O 0] 30 (by simp)
 simp only[World.size_alloc,List.nil_append,List.cons_append]at I
 clear I0
 go_enter Tryz.func116,Tryz.ntmps116
 go_upto_region 1 with fail
 refine rB [] [] [.eq (.agg #[O P.a,O P.b,O P.c,O P.d,O P.e,O P.f]),.eq (.agg #[O V.a,O V.b,O V.c,O V.d,O V.e,O V.f]),.eq (O (0)),.eq (O (0))] [3] I (fun hc=>⟨ob_ld6 (x:=.tmp 2) (g:=w.heap.size) (f:=0) none hc rfl fun vs gs w1 c=>⟨c.own 0 0,c.own 0 1,c.own 0 2,c.own 0 3,c.own 0 4,c.own 0 5⟩,ob_ld6 (x:=.tmp 3) (g:=(w.heap.size+1)) (f:=0) none hc rfl fun vs gs w1 c=>⟨c.own 1 0,c.own 1 1,c.own 1 2,c.own 1 3,c.own 1 4,c.own 1 5⟩,ob_call (fun v=>[v 0,v 1]) hc rfl fun vs gs w1 c=>hlk _ _ _ (c.v 0) (c.v 1),ob_cp 2 hc (.inr rfl),trivial⟩) fun vs W=>tl ?_
 clear I
 intro I
 go_upto_region 5 with(go_at_call 30;(with_reducible refine(s_begin _).mono ?_);rintro e w1 ⟨rfl,rfl⟩)
 replace I:=I.new [.func (.func 42) #[] #[],.func (.func 70) #[] #[],.func (.func 48) #[] #[],.func (.func 71) #[] #[],O (0)] 74 (by simp)
 obtain⟨gs,hgs⟩:∃n,W.heap.size=n:=⟨_,rfl⟩
 rw[hgs]at I ⊢
 clear hgs
 have I:KBd w [(w.heap.size,BF.own [O P.a,O P.b,O P.c,O P.d,O P.e,O P.f]),(w.heap.size+1,BF.own [O V.a,O V.b,O V.c,O V.d,O V.e,O V.f]),(w.heap.size+1+1,BF.own [O 0,O 0]),(gs,SH 0)] _:=I
 try simp only[Act.put,List.setIfInBounds_toArray,List.set_cons_zero,List.set_cons_succ]
 go_upto_region 5 with fail
 refine rB [[],[],[],[(3,SH d.e)]] [⟨4,some 5,.own [O 0,O 0],(.own [O d.lo,O d.hi])⟩] [.eq (.pointer (some ⟨gs,0,none⟩)),.eq (.agg #[O P.a,O P.b,O P.c,O P.d,O P.e,O P.f]),.eq (.agg #[O V.a,O V.b,O V.c,O V.d,O V.e,O V.f]),.eq (.agg #[O d.lo,O d.hi])] [] I (fun hc=>⟨ob_mv hc (.inl rfl),ob_ld6 (x:=.tmp 2) (g:=w.heap.size) (f:=0) none hc rfl fun vs gs w1 c=>⟨c.own 0 0,c.own 0 1,c.own 0 2,c.own 0 3,c.own 0 4,c.own 0 5⟩,ob_ld6 (x:=.tmp 3) (g:=(w.heap.size+1)) (f:=0) none hc rfl fun vs gs w1 c=>⟨c.own 1 0,c.own 1 1,c.own 1 2,c.own 1 3,c.own 1 4,c.own 1 5⟩,ob_callB (n:=3) 0 gs (fun v=>[v 0,v 1,v 2]) rfl hc rfl fun vs gs w1 c hb=>b_dot1 hd (c.v 0) (c.v 1) (c.v 2) hb iP iV,ob_new (n:=4) [O 0,O 0] 30 rfl hc rfl rfl rfl,ob_put2 (n:=4) 0 rfl (some 3) hc rfl,trivial⟩) fun gd vs W=>tl ?_
 clear I
 intro I
 go_upto_region 6 with fail
 refine rB [[],[],[(5,.own [O d.lo,O d.hi])]] [] [.eq (.agg #[O d.lo,O d.hi]),.eq (.pointer (some ⟨gs,0,none⟩)),.eq (.pointer (some ⟨gs,0,none⟩)),.eq (.pointer (some ⟨gs,4,none⟩)),.eq (O (d.e)),.any,.eq (O (d.e))] [6] I (fun hc=>⟨ob_ld2 (x:=.tmp 8) (g:=gd) (f:=0) none hc rfl fun vs gs w1 c=>⟨c.own 4 0,c.own 4 1⟩,ob_mv hc (.inl rfl),oT 22 1 hc,oT 23 2 hc,oL 24 3 hc fun vs gs w1 c=>c.own 3 4,ob_put2 (n:=2) 0 rfl (some 0) hc rfl,ob_cp 4 hc (.inr rfl),trivial⟩) fun vs W=>tl ?_
 clear I
 intro I
 have hE:=I.e
 have d0:=I.own 2 0
 have d1:=I.own 2 1
 clear I hlk
 go_wp2_with fail
 refine bodyPost_ret (v:=.tuple #[.agg #[O d.lo,O d.hi],O d.e]) ?_ rfl ⟨rfl,hE⟩
 simp[results,Tryz.results116,go_sem, ↓IntWalk.iteOmega,d0,d1]
theorem span_neg (a b:Int) (w:World) (h0:a≤b) (h1: -2305843009213693952≤a) (h2:b≤2305843009213693952):K_ 121 #[.agg #[O a,O b]] w fun e w'=>e=.returned (.tuple #[.agg #[O (-b),O (-a)],O 0])∧Ext w w':=by
 have hck:ckI a b=0:=by unfold ckI;simp;omega
 have hk:=fun n w hn=>check_1 a b n w hn
 rw[hck]at hk
 clear hck
 have n0:IntKind.i64.wrap (-a)= -a:=by rw[IntKind.wrap_i64];omega
 have n1:IntKind.i64.wrap (-b)= -b:=by rw[IntKind.wrap_i64];omega
 go_enter Tryz.func121,Tryz.ntmps121
 go_wp2_with (go_at_call 91;(with_reducible refine(hk _ _ c_43).mono ?_);rintro e w1 ⟨rfl,hb⟩;obtain⟨_,_,⟨hc,hf⟩,hz⟩:=hb.c3;(try simp only[World.size_alloc]at hz hc hf))
 refine bodyPost_ret (v:=.tuple #[.agg #[O (-b),O (-a)],O 0]) ?_ rfl ⟨rfl,ex_⟩
 simp[results,Tryz.results121,go_sem, ↓IntWalk.iteOmega, *]
theorem k_add (a b c d:Int) (w:World):K_ 120 #[.agg #[O a,O b],.agg #[O c,O d]] w fun e w'=>KP (addI a b c d) e∧Ext w w':=by
 have hs:=fun w1=>span_add a b c d w1
 generalize addI a b c d=r at hs ⊢
 have hm:=fun w1=>k_must r w1
 obtain⟨lo,hlo⟩:∃x,r.lo=x:=⟨_,rfl⟩
 obtain⟨hi,hhi⟩:∃x,r.hi=x:=⟨_,rfl⟩
 obtain⟨ee,hee⟩:∃x,r.e=x:=⟨_,rfl⟩
 unfold KP at hm ⊢
 rw[hlo,hhi,hee]at hs hm
 rw[hlo,hhi,hee]
 clear hlo hhi hee
 by_cases h0:ee=0
 ·subst h0
  replace hm:=fun w1=>(hm w1).mono (R':=fun e w'=>e=.returned (.agg #[O lo,O hi])∧Ext w1 w') c_25
  go_enter Tryz.func120,Tryz.ntmps120
  go_wp2_with (first
   | (go_at_call 42;(with_reducible refine(hs _).mono ?_);rintro e w1 ⟨rfl,hb⟩;obtain⟨_,_,⟨hc,hf⟩,hz⟩:=hb.c3;(try simp only[wsz]at hz hc hf))
   | (go_at_call 59;(with_reducible refine(hm _).mono ?_);rintro e w2 ⟨rfl,hb2⟩;obtain⟨_,_,⟨hc2,hf2⟩,hz2⟩:=hb2.c3;(try simp only[wsz]at hz2 hc2 hf2)))
  refine bodyPost_ret (v:=.agg #[O lo,O hi]) ?_ rfl ⟨Or.inl (by simp), ?_⟩
  ·simp[results,Tryz.results120,go_sem, ↓IntWalk.iteOmega, *]
  ·exact b_1
 ·replace hm:=fun w1=>(hm w1).mono (R':=fun e w'=>e=.panicked FALL∧Ext w1 w') c_39
  go_enter Tryz.func120,Tryz.ntmps120
  go_wp2_with (first
   | (go_at_call 42;(with_reducible refine(hs _).mono ?_);rintro e w1 ⟨rfl,hb⟩;obtain⟨_,_,⟨hc,hf⟩,hz⟩:=hb.c3;(try simp only[wsz]at hz hc hf))
   | (go_at_call 59;(with_reducible refine(hm _).mono ?_);rintro e w2 ⟨rfl,hb2⟩;obtain⟨_,_,⟨hc2,hf2⟩,hz2⟩:=hb2.c3;(try simp only[wsz]at hz2 hc2 hf2)))
  refine⟨rfl,Or.inr ⟨h0,rfl⟩, ?_⟩
  exact ex_
section
variable {ops:Array Oper} {V:Nat→VF} {B:List BR} {Kp:World→Prop} {a0:Act} {n0:Nat} {i:Nat} {o:Oper}
theorem ob_slice {n:Nat} {x:BR} (l:List Value) (T:TypeId) (k:Nat) (hx:B[n]? =some x) (hc:ChkP ops a0 B) (hal:x.al=some i) (hk:x.old=k) (hk0:k≠0) (hb:x.bf 0=BF.own l)
    (h:∀(vs:Nat→Value) (gs:Nat→Nat) (w:World) (ρ:Operand→Value),(∀x,ρ x=rho ops a0 o vs x)→Ctx ops V B Kp n0 i o vs gs w→(execOp ρ o).run Tryz.prog w=.ok (.value (.slice (some ⟨w.heap.size,0,none⟩) k k)) (w.alloc (.cells l.toArray T)))
    (hl:∀v∈l,∀z,v≠ .int .u32 z) (hV:∀v w,(V i).p v w:=by exact fun _ _=>trivial)
    (hg:Gd ops V o:=by first|exact .inl rfl|exact .inr ⟨_,_,rfl,rfl,by kernel_rfl⟩):ObI Tryz.prog ops V B Kp a0 n0 i o:=
  ob_of hc hg fun vs gs w ρ hr c X hX=>by
    rw[h vs gs w ρ hr c]
    exact hX.out _ _ (hV _ _) (.alloc n x w.heap.size hx hal (by rw[hk,shp,if_neg hk0]) (Nat.le_refl _) ((Ext.refl w).alloc _) (by rw[hb];exact own_new w l T hl))
theorem ob_sl1 {n:Nat} {x:BR} {t:Operand} (a b:Int) (p:Option Nat) (hx:B[n]? =some x) (hc:ChkP ops a0 B) (hop:o.op=.buildSlice 199 1 #[(0,t)]) (hal:x.al=some i) (hk:x.old=1:=by rfl) (hb:x.bf 0=BF.own [O a,O b]:=by rfl)
    (ht:Opd ops V a0 o t (.agg #[O a,O b]) p:=by first|exact⟨fun _=>by kernel_rfl,rfl,by kernel_rfl⟩|exact fun _=>by kernel_rfl) (hV:∀v w,(V i).p v w:=by exact fun _ _=>trivial)
    (hg:Gd ops V o:=by first|exact .inl rfl|exact .inr ⟨_,_,rfl,rfl,by kernel_rfl⟩):ObI Tryz.prog ops V B Kp a0 n0 i o:=
  ob_slice [O a,O b] 104 1 hx hc hal hk (by decide) hb (fun vs gs w ρ hr c=>by
    have e1:=ht.get c hr
    obtain⟨dst,op,ty,pos,af,gd⟩:=o
    dsimp only at hop
    subst hop
    clear c hr ht
    go_simp) (by simp) hV hg
theorem ob_sl2 {n:Nat} {x:BR} {t s:Operand} (a b c d:Int) (p q:Option Nat) (hx:B[n]? =some x) (hc:ChkP ops a0 B) (hop:o.op=.buildSlice 199 2 #[(0,t),(1,s)]) (hal:x.al=some i) (hk:x.old=2:=by rfl) (hb:x.bf 0=BF.own [O a,O b,O c,O d]:=by rfl)
    (ht:Opd ops V a0 o t (.agg #[O a,O b]) p:=by first|exact⟨fun _=>by kernel_rfl,rfl,by kernel_rfl⟩|exact fun _=>by kernel_rfl) (hs:Opd ops V a0 o s (.agg #[O c,O d]) q:=by first|exact⟨fun _=>by kernel_rfl,rfl,by kernel_rfl⟩|exact fun _=>by kernel_rfl) (hV:∀v w,(V i).p v w:=by exact fun _ _=>trivial)
    (hg:Gd ops V o:=by first|exact .inl rfl|exact .inr ⟨_,_,rfl,rfl,by kernel_rfl⟩):ObI Tryz.prog ops V B Kp a0 n0 i o:=
  ob_slice [O a,O b,O c,O d] 104 2 hx hc hal hk (by decide) hb (fun vs gs w ρ hr cc=>by
    have e1:=ht.get cc hr
    have e2:=hs.get cc hr
    obtain⟨dst,op,ty,pos,af,gd⟩:=o
    dsimp only at hop
    subst hop
    clear cc hr ht hs
    go_simp) (by simp) hV hg
theorem Ctx.sl {vs:Nat→Value} {gs:Nat→Nat} {w:World} (c:Ctx ops V B Kp n0 i o vs gs w) (n j:Nat) {k:Nat} {l:List Value} {st:List Nat} {bf:Nat→BF} (hx:B[n]? =some ⟨some j,k,st,bf⟩:=by rfl) (hk:k=k:=by rfl) (hst:st=[]:=by rfl) (hb:bf 0=BF.own l:=by rfl) (hj:(needs o).contains j=true:=by kernel_rfl):vs j=shp k (gs n)∧(BF.own l).p (gs n) w:=by
 have hA:=c.b n _ hx
 have hm:j∈needs o:=by simpa using hj
 refine⟨(hA.ptr j rfl hm).1, ?_⟩
 have:=hA.at' (.inr (.inl ⟨j,rfl,hm⟩)) 0 (.inl rfl) (.inl (by subst hst;rfl))
 rwa [show(BR.bf ⟨some j,k,st,bf⟩ 0)=BF.own l from hb]at this
end
theorem kp_ok {f:Nat} {av:Array Value} {w:World} {lo hi:Int} (h:K_ f av w fun e w'=>KP ⟨lo,hi,0⟩ e∧Ext w w'):K_ f av w fun e w'=>∃t,e=.returned t∧t=.agg #[O lo,O hi]∧Ext w w':=by
 refine h.mono ?_
 rintro e w' ⟨⟨-,h1⟩| ⟨h1, -⟩,k⟩
 ·exact⟨_,h1,rfl,k⟩
 ·exact absurd rfl h1
theorem kx_sub {a b c d lo hi:Int} {w:World} {u s:Value} (h:subI a b c d=⟨lo,hi,0⟩) (hu:u=.agg #[O a,O b]) (hs:s=.agg #[O c,O d]):K_ 114 #[u,s] w fun e w'=>∃t,e=.returned t∧t=.agg #[O lo,O hi]∧Ext w w':=by
 subst hu hs
 have k:=k_sub a b c d w
 rw[h]at k
 exact kp_ok k
theorem kx_div {a b c d lo hi:Int} {w:World} {u s:Value} (h:divI a b c d=⟨lo,hi,0⟩) (hu:u=.agg #[O a,O b]) (hs:s=.agg #[O c,O d]):K_ 62 #[u,s] w fun e w'=>∃t,e=.returned t∧t=.agg #[O lo,O hi]∧Ext w w':=by
 subst hu hs
 have k:=k_div a b c d w
 rw[h]at k
 exact kp_ok k
theorem kx_add {a b c d lo hi:Int} {w:World} {u s:Value} (h:addI a b c d=⟨lo,hi,0⟩) (hu:u=.agg #[O a,O b]) (hs:s=.agg #[O c,O d]):K_ 120 #[u,s] w fun e w'=>∃t,e=.returned t∧t=.agg #[O lo,O hi]∧Ext w w':=by
 subst hu hs
 have k:=k_add a b c d w
 rw[h]at k
 exact kp_ok k
theorem kx_must {lo hi:Int} {w:World} {u s:Value} (hu:u=.agg #[O lo,O hi]) (hs:s=O 0):K_ 59 #[u,s] w fun e w'=>∃t,e=.returned t∧t=.agg #[O lo,O hi]∧Ext w w':=by
 subst hu hs
 exact kp_ok (k_must ⟨lo,hi,0⟩ w)
theorem kx_one {w:World}:K_ 113 #[O 1] w fun e w'=>∃t,e=.returned t∧t=.agg #[O 1099511627776,O 1099511627776]∧Ext w w':=calls_eq (k_whole 1 w (by decide) (by decide))
theorem kx_mul {a b c d lo hi:Int} {g:Nat} {w:World} {u s:Value} (h:mulI a b c d=⟨lo,hi,0⟩) (ha:I64 a∧I64 b) (hc:I64 c∧I64 d) (hu:u=.agg #[O a,O b]) (hs:s=shp 1 g∧(BF.own [O c,O d]).p g w):K_ 115 #[u,s] w fun e w'=>∃t,e=.returned t∧t=.agg #[O lo,O hi]∧Ext w w':=by
 obtain⟨rfl,hb⟩:=hs
 subst hu
 have k:=k_mul1 a b c d g 1 w ha hc (hb.1 0 _ rfl) (hb.1 1 _ rfl)
 rw[h]at k
 exact kp_ok k
theorem kx_mul2 {a b c d c2 d2 lo hi:Int} {g:Nat} {w:World} {u s:Value} (h:mul2I a b c d c2 d2=⟨lo,hi,0⟩) (ha:I64 a∧I64 b) (hc:I64 c∧I64 d) (hc2:I64 c2∧I64 d2) (hu:u=.agg #[O a,O b]) (hs:s=shp 2 g∧(BF.own [O c,O d,O c2,O d2]).p g w):K_ 115 #[u,s] w fun e w'=>∃t,e=.returned t∧t=.agg #[O lo,O hi]∧Ext w w':=by
 obtain⟨rfl,hb⟩:=hs
 subst hu
 have k:=k_mul2 a b c d c2 d2 g 2 w ha hc hc2 (hb.1 0 _ rfl) (hb.1 1 _ rfl) (hb.1 2 _ rfl) (hb.1 3 _ rfl)
 rw[h]at k
 exact kp_ok k
section
variable {ops:Array Oper} {V:Nat→VF} {B:List BR} {Kp:World→Prop} {a0:Act} {n0:Nat} {i:Nat} {o:Oper}
theorem ob_ld2w {x:Operand} {g f:Nat} {u0 u1:Value} (p:Option Nat) (hc:ChkP ops a0 B) (hop:o.op=.load 104 x) (h:∀(vs:Nat→Value) (gs:Nat→Nat) (w:World),Ctx ops V B Kp n0 i o vs gs w→w.cell? ⟨g,f,none⟩=some u0∧w.cell? ⟨g,f+1,none⟩=some u1)
    (ha:Opd ops V a0 o x (.pointer (some ⟨g,f,none⟩)) p:=by first|exact⟨fun _=>by kernel_rfl,rfl,by kernel_rfl⟩|exact fun _=>by kernel_rfl) (hV:(V i).p=(VF.eq (.agg #[u0,u1])).p:=by rfl) (hg:Gd ops V o:=by first|exact .inl rfl|exact .inr ⟨_,_,rfl,rfl,by kernel_rfl⟩) (hfr:free (B.map BR.key) i=true:=by kernel_rfl):ObI Tryz.prog ops V B Kp a0 n0 i o:=
  ob_val hc (fun vs gs w ρ hr c=>⟨.agg #[u0,u1],by
    have e1:=ha.get c hr
    obtain⟨k0,k1⟩:=h vs gs w c
    obtain⟨dst,op,ty,pos,af,gd⟩:=o
    dsimp only at hop
    subst hop
    clear c h hr ha
    go_simp,by rw[hV];rfl⟩) hg hfr
theorem run_put2w {y z:Operand} {ρ:Operand→Value} {w:World} {g f:Nat} {a b:Int} {p q:Value} (hop:o.op=.store 104 y z) (hy:ρ y=.pointer (some ⟨g,f,none⟩)) (hz:ρ z=.agg #[O a,O b]) (c0:w.cell? ⟨g,f,none⟩=some p) (c1:w.cell? ⟨g,f+1,none⟩=some q) (hf:∀o,w.frozen? ⟨g,o,none⟩=false):
    (execOp ρ o).run Tryz.prog w=.ok .skip ((w.setCell ⟨g,f,none⟩ (O a)).setCell ⟨g,f+1,none⟩ (O b)):=by
 obtain⟨dst,op,ty,pos,af,gd⟩:=o
 dsimp only at hop
 subst hop
 go_simp
theorem ob_put2w {y z:Operand} {n:Nat} {x:BR} {l:List Value} {a b:Int} (f:Nat) (hx:B[n]? =some x) (p:Option Nat) (hc:ChkP ops a0 B) (hop:o.op=.store 104 y z) (m:Nat:=0) (hst:x.st[m]? =some i:=by rfl) (hl:late o x.st m=true:=by kernel_rfl) (hb0:x.bf m=BF.own l:=by rfl) (hb:x.bf (m+1)=BF.own ((l.set f (O a)).set (f+1) (O b)):=by rfl)
    (hf:f+1<l.length:=by decide) (hy:BoxPtr ops V a0 o x f y:=by first|exact⟨rfl,fun _=>by kernel_rfl,by kernel_rfl⟩|exact⟨none,fun _=>by kernel_rfl⟩)
    (hz:Opd ops V a0 o z (.agg #[O a,O b]) p:=by first|exact⟨fun _=>by kernel_rfl,rfl,by kernel_rfl⟩|exact fun _=>by kernel_rfl) (hV:∀v w,(V i).p v w:=by exact fun _ _=>trivial) (hg:Gd ops V o:=by first|exact .inl rfl|exact .inr ⟨_,_,rfl,rfl,by kernel_rfl⟩):ObI Tryz.prog ops V B Kp a0 n0 i o:=
  ob_of hc hg fun vs gs w ρ hr c X hX=>by
    obtain⟨h1,h0⟩:=hy.get c hx hst hl
    rw[hb0]at h0
    have h2:=own_set (own_set h0 (k:=f) (v:=O a) (by omega) (by simp)) (k:=f+1) (v:=O b) c_26 (by simp)
    rw[run_put2w hop ((hr y).trans h1) (hz.get c hr) (h0.1 f l[f] (by simp)) (h0.1 (f+1) l[f+1] (by simp)) h0.2.1]
    exact hX.out _ _ (hV _ _) (.store n m x hx hst (((GB.refl (gs n) w).set _).set _) (by rw[hb];exact h2))
theorem ob_putK {y z:Operand} {n:Nat} {x:BR} {l:List Value} {u:Value} (f:Nat) (T:TypeId) (hx:B[n]? =some x) (p:Option Nat) (hc:ChkP ops a0 B) (hop:o.op=.store T y z) (m:Nat:=0) (hst:x.st[m]? =some i:=by rfl) (hl:late o x.st m=true:=by kernel_rfl) (hb0:x.bf m=BF.own l:=by rfl) (hb:x.bf (m+1)=BF.own (l.set f u):=by rfl)
    (hf:f<l.length:=by decide) (hy:BoxPtr ops V a0 o x f y:=by first|exact⟨rfl,fun _=>by kernel_rfl,by kernel_rfl⟩|exact⟨none,fun _=>by kernel_rfl⟩)
    (hz:Opd ops V a0 o z u p:=by first|exact⟨fun _=>by kernel_rfl,rfl,by kernel_rfl⟩|exact fun _=>by kernel_rfl) (hu:∀z,u≠ .int .u32 z:=by simp) (hs:∀(ρ:Operand→Value) (w:World) (g:Nat) (q:Value),ρ y=.pointer (some ⟨g,f,none⟩)→ρ z=u→w.cell? ⟨g,f,none⟩=some q→(∀o,w.frozen? ⟨g,o,none⟩=false)→(execOp ρ o).run Tryz.prog w=.ok .skip (w.setCell ⟨g,f,none⟩ u):=by intro ρ w g q h1 h2 h3 h4;go_simp) (hV:∀v w,(V i).p v w:=by exact fun _ _=>trivial) (hg:Gd ops V o:=by first|exact .inl rfl|exact .inr ⟨_,_,rfl,rfl,by kernel_rfl⟩):ObI Tryz.prog ops V B Kp a0 n0 i o:=
  ob_of hc hg fun vs gs w ρ hr c X hX=>by
    obtain⟨h1,h0⟩:=hy.get c hx hst hl
    rw[hb0]at h0
    have h2:=own_set h0 (k:=f) (v:=u) (by omega) hu
    rw[hs ρ w (gs n) l[f] ((hr y).trans h1) (hz.get c hr) (h0.1 f l[f] (by simp)) h0.2.1]
    exact hX.out _ _ (hV _ _) (.store n m x hx hst ((GB.refl (gs n) w).set _) (by rw[hb];exact h2))
end
@[go_sem] theorem fl30a (a b:Int) (w:World):(Instr.field 30 (.agg #[O a,O b]) 0).run Tryz.prog w=.ok (O a) w:=by kernel_rfl
@[go_sem] theorem fl30b (a b:Int) (w:World):(Instr.field 30 (.agg #[O a,O b]) 1).run Tryz.prog w=.ok (O b) w:=by kernel_rfl
def i64b (x:Int×Int):Bool:=decide ((-9223372036854775808≤x.1∧x.1≤9223372036854775807)∧ -9223372036854775808≤x.2∧x.2≤9223372036854775807)
theorem i64b_of {x:Int×Int} (h:i64b x=true):I64 x.1∧I64 x.2:=by
 unfold i64b at h
 have:=of_decide_eq_true h
 unfold I64
 omega
def okR (r:R3):Option (Int×Int):=if r.e=0 then some (r.lo,r.hi)else none
theorem okR_eq {r:R3} {x:Int×Int} (h:okR r=some x):r=⟨x.1,x.2,0⟩:=by
 unfold okR at h
 split at h
 ·rename_i k
  cases r
  cases Option.some.inj h
  exact congrArg _ k
 ·cases h
def gF (c s:Int×Int) (x:Int):Option (Int×Int):=
 if -70368744177664≤x∧x≤70368744177664 then(arcF x x 0).bind fun sn=>(arcF x x 1).bind fun cs=>if i64b sn=true then(okR (mulI c.1 c.2 sn.1 sn.2)).bind fun m=>(okR (subI x x m.1 m.2)).bind fun a=>(okR (subI 1099511627776 1099511627776 cs.1 cs.2)).bind fun o=>(okR (mulI s.1 s.2 o.1 o.2)).bind fun b=>okR (addI a.1 a.2 b.1 b.2)else none else none
theorem k_g (c s:Int×Int) (x:Int) (r:Int×Int) (go:Nat) (w:World) (ic:I64 c.1∧I64 c.2) (is:I64 s.1∧I64 s.2) (h12:w.cell? ⟨go,12,none⟩=some (O c.1)) (h13:w.cell? ⟨go,13,none⟩=some (O c.2)) (h14:w.cell? ⟨go,14,none⟩=some (O s.1)) (h15:w.cell? ⟨go,15,none⟩=some (O s.2)) (hF:gF c s x=some r):
    K_ 154 #[O x,.pointer (some ⟨go,0,none⟩)] w fun e w'=>e=.returned (.agg #[O r.1,O r.2])∧Ext w w':=by
 have hgo:=World.block_lt_of_cell? w _ h12
 unfold gF at hF
 split at hF
 case isFalse=>cases hF
 rename_i hx
 rw[Option.bind_eq_some_iff]at hF
 obtain⟨sn,hsn0,hF⟩:=hF
 rw[Option.bind_eq_some_iff]at hF
 obtain⟨cs,hcs0,hF⟩:=hF
 split at hF
 case isFalse=>cases hF
 rename_i hi
 have isn:=i64b_of hi
 rw[Option.bind_eq_some_iff]at hF
 obtain⟨m,hm,hF⟩:=hF
 rw[Option.bind_eq_some_iff]at hF
 obtain⟨a,ha,hF⟩:=hF
 rw[Option.bind_eq_some_iff]at hF
 obtain⟨o,ho,hF⟩:=hF
 rw[Option.bind_eq_some_iff]at hF
 obtain⟨b,hb,hF⟩:=hF
 have em:=okR_eq hm
 have ea:=okR_eq ha
 have eo:=okR_eq ho
 have eb:=okR_eq hb
 have er:=okR_eq hF
 have io:I64 o.1∧I64 o.2:=by
  have:=subI_W 1099511627776 1099511627776 cs.1 cs.2
  rw[eo]at this
  exact this
 have hsn:∀(w1:World) (u1:Value),u1=.agg #[O x,O x]→K_ 119 #[u1] w1 fun e w'=>∃u,e=.returned u∧u=.tuple #[.agg #[O sn.1,O sn.2],O 0]∧Ext w1 w':=fun w1 u1 k=>by subst k;exact calls_eq (t_SinIv w1 fun w2=>t_arcs x x 0 sn w2 (Int.le_refl _) hx.1 hx.2 (.inl rfl) hsn0)
 have hcs:∀(w1:World) (u1:Value),u1=.agg #[O x,O x]→K_ 118 #[u1] w1 fun e w'=>∃u,e=.returned u∧u=.tuple #[.agg #[O cs.1,O cs.2],O 0]∧Ext w1 w':=fun w1 u1 k=>by subst k;exact calls_eq (t_CosIv w1 fun w2=>t_arcs x x 1 cs w2 (Int.le_refl _) hx.1 hx.2 (.inr rfl) hcs0)
 clear hx hsn0 hcs0 hi hm ha ho hb hF
 have I0:KBd w [] w:=⟨Ext.refl w,trivial,by simp,by simp⟩
 have I:=I0.new [O 0,O 0] 104 (by simp)
 simp only[World.size_alloc,List.nil_append,List.cons_append]at I
 clear I0
 go_enter Tryz.func154,Tryz.ntmps154
 go_upto_region 1 with fail
 refine rB [] [⟨4,some 5,.own [O 0,O 0],(.own [O x,O x])⟩] [.eq (O (x)),.eq (O (x)),.eq (.agg #[O x,O x]),.eq (.agg #[O x,O x])] [] I (fun hc=>⟨ob_mv hc (.inl rfl),ob_mv hc (.inl rfl),oTT 7 0 8 1 hc,oT 9 2 hc,ob_new (n:=1) [O 0,O 0] 104 rfl hc rfl rfl rfl,ob_put2w (n:=1) 0 rfl (some 3) hc rfl,trivial⟩) fun gy vs W=>tl ?_
 clear I
 intro I
 go_upto_region 2 with fail
 refine rB [] [⟨12,some 14,.own [O 0,O 0],(.own [O sn.1,O sn.2])⟩,⟨13,some 15,.own [O 0,O 0],(.own [O cs.1,O cs.2])⟩] [.eq (.pointer (some ⟨gy,0,none⟩)),.eq (.agg #[O x,O x]),.eq (.tuple #[.agg #[O sn.1,O sn.2],O 0]),.eq (.agg #[O sn.1,O sn.2]),.eq (O (0)),.eq (.agg #[O sn.1,O sn.2]),.eq (.pointer (some ⟨gy,0,none⟩)),.eq (.agg #[O x,O x]),.eq (.tuple #[.agg #[O cs.1,O cs.2],O 0]),.eq (.agg #[O cs.1,O cs.2]),.eq (O (0)),.eq (.agg #[O cs.1,O cs.2])] [] I (fun hc=>⟨oN (.tmp 4) (.pointer (some ⟨gy,0,none⟩)) hc,ob_ld2 (x:=.tmp 11) (g:=gy) (f:=0) (some 0) hc rfl fun vs gs w1 c=>⟨c.own 1 0,c.own 1 1⟩,ob_call (fun v=>[v 1]) hc rfl fun vs gs w1 c=>hsn _ _ (c.v 1),oT 13 2 hc,oT 13 2 hc,ob_call (fun v=>[v 3,v 4]) hc rfl fun vs gs w1 c=>kx_must (c.v 3) (c.v 4),oN (.tmp 4) (.pointer (some ⟨gy,0,none⟩)) hc,ob_ld2 (x:=.tmp 17) (g:=gy) (f:=0) (some 6) hc rfl fun vs gs w1 c=>⟨c.own 1 0,c.own 1 1⟩,ob_call (fun v=>[v 7]) hc rfl fun vs gs w1 c=>hcs _ _ (c.v 7),oT 19 8 hc,oT 19 8 hc,ob_call (fun v=>[v 9,v 10]) hc rfl fun vs gs w1 c=>kx_must (c.v 9) (c.v 10),ob_new (n:=2) [O 0,O 0] 104 rfl hc rfl rfl rfl,ob_new (n:=3) [O 0,O 0] 104 rfl hc rfl rfl rfl,ob_put2w (n:=2) 0 rfl (some 5) hc rfl,ob_put2w (n:=3) 0 rfl (some 11) hc rfl,trivial⟩) fun gs gc vs W=>tl ?_
 clear I
 intro I
 go_upto_region 3 with fail
 refine rB [[(15,(.own [O r.1,O r.2]))]] [⟨4,some 4,.own [],(.own [O sn.1,O sn.2])⟩,⟨12,some 12,.own [],(.own [O o.1,O o.2])⟩] [.eq (.agg #[O x,O x]),.eq (.pointer (some ⟨go,12,none⟩)),.eq (.agg #[O c.1,O c.2]),.eq (.agg #[O sn.1,O sn.2]),.any,.eq (.agg #[O m.1,O m.2]),.eq (.agg #[O a.1,O a.2]),.eq (.pointer (some ⟨go,14,none⟩)),.eq (.agg #[O s.1,O s.2]),.eq (.agg #[O 1099511627776,O 1099511627776]),.eq (.agg #[O cs.1,O cs.2]),.eq (.agg #[O o.1,O o.2]),.any,.eq (.agg #[O b.1,O b.2]),.eq (.agg #[O r.1,O r.2])] [] I (fun hc=>⟨ob_ld2w (x:=.tmp 4) (g:=gy) (f:=0) none hc rfl fun vs gs w1 c=>⟨c.own 1 0,c.own 1 1⟩,oN (.tmp 1) (.pointer (some ⟨go,0,none⟩)) hc,ob_ld2w (x:=.tmp 24) (g:=go) (f:=12) (some 1) hc rfl fun vs gs w1 c=>⟨(c.k.1.cells.1 go 12 hgo).trans h12,(c.k.1.cells.1 go 13 hgo).trans h13⟩,ob_ld2w (x:=.tmp 5) (g:=gs) (f:=0) none hc rfl fun vs gs w1 c=>⟨c.own 2 0,c.own 2 1⟩,ob_sl1 (n:=4) (sn.1) (sn.2) (some 3) rfl hc rfl rfl,ob_call (fun v=>[v 2,v 4]) hc rfl fun vs gs w1 c=>kx_mul em ic isn (c.v 2) (c.sl 4 4),ob_call (fun v=>[v 0,v 5]) hc rfl fun vs gs w1 c=>kx_sub ea (c.v 0) (c.v 5),oN (.tmp 1) (.pointer (some ⟨go,0,none⟩)) hc,ob_ld2w (x:=.tmp 30) (g:=go) (f:=14) (some 7) hc rfl fun vs gs w1 c=>⟨(c.k.1.cells.1 go 14 hgo).trans h14,(c.k.1.cells.1 go 15 hgo).trans h15⟩,ob_call (fun v=>[O 1]) hc rfl fun vs gs w1 c=>kx_one,ob_ld2w (x:=.tmp 6) (g:=gc) (f:=0) none hc rfl fun vs gs w1 c=>⟨c.own 3 0,c.own 3 1⟩,ob_call (fun v=>[v 9,v 10]) hc rfl fun vs gs w1 c=>kx_sub eo (c.v 9) (c.v 10),ob_sl1 (n:=5) (o.1) (o.2) (some 11) rfl hc rfl rfl,ob_call (fun v=>[v 8,v 12]) hc rfl fun vs gs w1 c=>kx_mul eb is io (c.v 8) (c.sl 5 12),ob_call (fun v=>[v 6,v 13]) hc rfl fun vs gs w1 c=>kx_add er (c.v 6) (c.v 13),ob_put2w (n:=0) 0 rfl (some 14) hc rfl,trivial⟩) fun _ _ vs W=>tl ?_
 clear I
 intro I
 replace I:=I.take 4
 simp only[List.take_succ_cons,List.take_zero]at I
 have hE:=I.e
 have d0:=I.own 0 0
 have d1:=I.own 0 1
 clear I hsn hcs
 go_wp2_with fail
 refine bodyPost_ret (v:=.agg #[O r.1,O r.2]) ?_ rfl ⟨rfl,hE⟩
 simp[results,Tryz.results154,go_sem, ↓IntWalk.iteOmega,d0,d1]
theorem k_T2 (c s:Int×Int) (x m:Int) (r:Int×Int) (go Pg Pm:Nat) (w:World) (ic:I64 c.1∧I64 c.2) (is:I64 s.1∧I64 s.2) (h12:w.cell? ⟨go,12,none⟩=some (O c.1)) (h13:w.cell? ⟨go,13,none⟩=some (O c.2)) (h14:w.cell? ⟨go,14,none⟩=some (O s.1)) (h15:w.cell? ⟨go,15,none⟩=some (O s.2)) (hF:gF c s x=some r)
    (hP:w.cell? ⟨Pg,0,none⟩=some (.func (.func 154) #[] #[.pointer (some ⟨go,0,none⟩)])) (hM:w.cell? ⟨Pm,0,none⟩=some (O m)):K_ 155 #[O x,.pointer (some ⟨Pg,0,none⟩),.pointer (some ⟨Pm,0,none⟩)] w fun e w'=>e=.returned (.bool (decide (r.2≤m)))∧Ext w w':=by
 have hPl:=World.block_lt_of_cell? w _ hP
 have hMl:=World.block_lt_of_cell? w _ hM
 have hgl:=World.block_lt_of_cell? w _ h12
 have hg:∀(w1:World) (u1:Value),Ext w w1→u1=O x→K_ 154 ([u1]++[Value.pointer (some ⟨go,0,none⟩)]).toArray w1 fun e w'=>∃u,e=.returned u∧u=.agg #[O r.1,O r.2]∧Ext w1 w':=fun w1 u1 k a=>by subst a;exact calls_eq (k_g c s x r go w1 ic is ((k.cells.1 _ _ hgl).trans h12) ((k.cells.1 _ _ hgl).trans h13) ((k.cells.1 _ _ hgl).trans h14) ((k.cells.1 _ _ hgl).trans h15) hF)
 obtain⟨bo,hbo⟩:∃x,decide (r.2≤m)=x:=⟨_,rfl⟩
 rw[hbo]
 clear hF h12 h13 h14 h15 ic is
 have I:KBd w [] w:=⟨Ext.refl w,trivial,by simp,by simp⟩
 go_enter Tryz.func155,Tryz.ntmps155
 go_upto_region 1 with fail
 refine rB [] [] [.eq (.func (.func 154) #[] #[.pointer (some ⟨go,0,none⟩)]),.eq (O (x)),.eq (.agg #[O r.1,O r.2]),.eq (.agg #[O r.1,O r.2]),.eq (O (r.2)),.eq (.pointer (some ⟨Pm,0,none⟩)),.eq (.pointer (some ⟨Pm,0,none⟩)),.eq (O (m)),.eq (.bool bo),.eq (.bool bo)] [9] I (fun hc=>⟨ob_ld (x:=.tmp 1) (g:=Pg) (f:=0) (u:=.func (.func 154) #[] #[.pointer (some ⟨go,0,none⟩)]) none hc fun vs gs w1 c=>(c.k.1.cells.1 Pg 0 hPl).trans hP,ob_mv hc (.inl rfl),ob_callF (f:=154) (caps:=[.pointer (some ⟨go,0,none⟩)]) 0 (fun v=>[v 1]) hc rfl (h:=fun vs gs w1 c=>hg _ _ c.k.1 (c.v 1)),oT 7 2 hc,oT 8 3 hc,oN (.tmp 2) (.pointer (some ⟨Pm,0,none⟩)) hc,oT 10 5 hc,oL 11 6 hc fun vs gs w1 c=>(c.k.1.cells.1 Pm 0 hMl).trans hM,oTT 9 4 12 7 hc (hs:=(by intro ρ w1 h k;go_simp;first|done|exact hbo)),ob_cp 8 hc (.inr rfl),trivial⟩) fun vs W=>tl ?_
 clear I
 intro I
 have hE:=I.e
 clear I hg
 go_wp2_with fail
 go_ret
 exact⟨rfl,hE⟩
theorem k_T3 (c s:Int×Int) (x m:Int) (r:Int×Int) (go Pg Pm:Nat) (w:World) (ic:I64 c.1∧I64 c.2) (is:I64 s.1∧I64 s.2) (h12:w.cell? ⟨go,12,none⟩=some (O c.1)) (h13:w.cell? ⟨go,13,none⟩=some (O c.2)) (h14:w.cell? ⟨go,14,none⟩=some (O s.1)) (h15:w.cell? ⟨go,15,none⟩=some (O s.2)) (hF:gF c s x=some r)
    (hP:w.cell? ⟨Pg,0,none⟩=some (.func (.func 154) #[] #[.pointer (some ⟨go,0,none⟩)])) (hM:w.cell? ⟨Pm,1,none⟩=some (O m)):K_ 156 #[O x,.pointer (some ⟨Pg,0,none⟩),.pointer (some ⟨Pm,0,none⟩)] w fun e w'=>e=.returned (.bool (decide (r.1<m)))∧Ext w w':=by
 have hPl:=World.block_lt_of_cell? w _ hP
 have hMl:=World.block_lt_of_cell? w _ hM
 have hgl:=World.block_lt_of_cell? w _ h12
 have hg:∀(w1:World) (u1:Value),Ext w w1→u1=O x→K_ 154 ([u1]++[Value.pointer (some ⟨go,0,none⟩)]).toArray w1 fun e w'=>∃u,e=.returned u∧u=.agg #[O r.1,O r.2]∧Ext w1 w':=fun w1 u1 k a=>by subst a;exact calls_eq (k_g c s x r go w1 ic is ((k.cells.1 _ _ hgl).trans h12) ((k.cells.1 _ _ hgl).trans h13) ((k.cells.1 _ _ hgl).trans h14) ((k.cells.1 _ _ hgl).trans h15) hF)
 obtain⟨bo,hbo⟩:∃x,decide (r.1<m)=x:=⟨_,rfl⟩
 rw[hbo]
 clear hF h12 h13 h14 h15 ic is
 have I:KBd w [] w:=⟨Ext.refl w,trivial,by simp,by simp⟩
 go_enter Tryz.func156,Tryz.ntmps156
 go_upto_region 1 with fail
 refine rB [] [] [.eq (.func (.func 154) #[] #[.pointer (some ⟨go,0,none⟩)]),.eq (O (x)),.eq (.agg #[O r.1,O r.2]),.eq (.agg #[O r.1,O r.2]),.eq (O (r.1)),.eq (.pointer (some ⟨Pm,0,none⟩)),.eq (.pointer (some ⟨Pm,1,none⟩)),.eq (O (m)),.eq (.bool bo),.eq (.bool bo)] [9] I (fun hc=>⟨ob_ld (x:=.tmp 1) (g:=Pg) (f:=0) (u:=.func (.func 154) #[] #[.pointer (some ⟨go,0,none⟩)]) none hc fun vs gs w1 c=>(c.k.1.cells.1 Pg 0 hPl).trans hP,ob_mv hc (.inl rfl),ob_callF (f:=154) (caps:=[.pointer (some ⟨go,0,none⟩)]) 0 (fun v=>[v 1]) hc rfl (h:=fun vs gs w1 c=>hg _ _ c.k.1 (c.v 1)),oT 7 2 hc,oT 8 3 hc,oN (.tmp 2) (.pointer (some ⟨Pm,0,none⟩)) hc,oT 10 5 hc,oL 11 6 hc fun vs gs w1 c=>(c.k.1.cells.1 Pm 1 hMl).trans hM,oTT 9 4 12 7 hc (hs:=(by intro ρ w1 h k;go_simp;first|done|exact hbo)),ob_cp 8 hc (.inr rfl),trivial⟩) fun vs W=>tl ?_
 clear I
 intro I
 have hE:=I.e
 clear I hg
 go_wp2_with fail
 go_ret
 exact⟨rfl,hE⟩
end Go.Proofs.YtaoioncjmfcolaaGreat
