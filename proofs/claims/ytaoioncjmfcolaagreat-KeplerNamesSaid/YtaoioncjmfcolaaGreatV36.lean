/- span.root. -/
import Derived.Test.YtaoioncjmfcolaaGreatV35
import Derived.Deep.AppendLies
set_option linter.unusedSimpArgs false
set_option linter.unusedVariables false
set_option maxRecDepth 100000
set_option maxHeartbeats 4000000
namespace Go.Proofs.YtaoioncjmfcolaaGreat
open Go.RowKit
theorem s_root (x:Int) (w:World) (x0:0≤x) (x1:x≤2305843009213693952):
    K_ 174 #[O x] w fun e w'=>e=.returned (O (rootI x))∧Ext w w':=by
 have hx:I64 x:=by unfold I64;omega
 have hM:I64 1099511627776:=by unfold I64;omega
 go_enter Tryz.func174,Tryz.ntmps174
 go_wp2_with (first| (go_at_call 95;(with_reducible refine(times_any x 1099511627776 _ hx hM).mono ?_);rintro e w1 ⟨rfl,hb⟩;obtain⟨_,_,⟨hc,hf⟩,hz⟩:=hb.c3;(try simp only[wsz]at hz hc hf)))
 go_loopw [4,5] (fun v4 v5 wr=>∃lo hi:Int,v4=O lo∧v5=O hi∧0≤lo∧lo<hi∧hi≤4503599627370496∧lo*lo≤x*1099511627776∧x*1099511627776<hi*hi∧Ext w wr∧w1.heap.size<wr.heap.size∧wr.cell? ⟨w1.heap.size,0,none⟩=some (O (x*1099511627776/18446744073709551616))∧wr.cell? ⟨w1.heap.size,1,none⟩=some (.int .u64 (x*1099511627776%18446744073709551616))) (fun v4 v5 wr=>(intOf v5-intOf v4).toNat)
 case atStart=>
  refine⟨_,_,rfl,rfl,by omega,by omega,by omega,by omega,by omega, ?_, ?_, ?_, ?_⟩
  ·exact b_1
  all_goals first| ((try simp only[wsz]);omega)| (simp[go_sem, ↓IntWalk.iteOmega, *];done)
 case round=>
  obtain⟨lo,hi,rfl,rfl,k0,k1,k2,k3,k4,hE0,hg,hc0,hc1⟩:=hrel
  have s1:IntKind.i64.wrap (hi-lo)=hi-lo:=by rw[IntKind.wrap_i64];omega
  have s2:IntKind.i64.wrap (lo+hi)=lo+hi:=by rw[IntKind.wrap_i64];omega
  obtain⟨m,em⟩:∃m,m=(lo+hi)/2:=⟨_,rfl⟩
  have s3:(lo+hi).tdiv 2=m:=by rw[Int.tdiv_eq_ediv_of_nonneg (by omega)];exact em.symm
  have s4:IntKind.i64.wrap m=m:=by rw[IntKind.wrap_i64];omega
  have hm:I64 m:=by unfold I64;omega
  by_cases h1:1<hi-lo
  ·have b1:lo<m:=by omega
   have b2:m<hi:=by omega
   have em':=Lib.hid em
   clear em
   have K3:=Lib.hid k3
   have K4:=Lib.hid k4
   clear k3 k4
   go_wp2_with fail
   refine wp_name fun W hW=> ?_
   obtain⟨hWc,hWf,hWz⟩:=hW.cells
   have hWe:Ext w W:=Ext.same hW ex_
   (try simp only[wsz]at hWz)
   (try simp only[size_drew,size_drewN,World.size_alloc,World.size_setCell]at hWz)
   replace hWz:=And.intro (Nat.le_of_eq hWz) (Nat.le_of_eq hWz.symm)
   have hlt:w1.heap.size<W.heap.size:=by omega
   
   go_region_held3 (fun w'=>(∀b o,b<W.heap.size→w'.cell? ⟨b,o,none⟩=if b=w1.heap.size∧0≤o∧o<0 then(W.cell? ⟨b,o,none⟩).map (obx w' b o)else W.cell? ⟨b,o,none⟩)∧(∀b o,b<W.heap.size→w'.frozen? ⟨b,o,none⟩=W.frozen? ⟨b,o,none⟩)∧W.heap.size≤w'.heap.size∧Ext w w') (exact k_2) ((first| (go_at_call 95;(with_reducible refine(times_any m m _ hm hm).mono ?_);rintro e w2 ⟨rfl,hb2⟩;have hz2:=hb2.size;(try rw[size_drew]at hz2))| (go_at_call 150;(with_reducible refine(cmp_any _ _ _).mono ?_);rintro e w2 ⟨rfl,hb2⟩;have hz2:=hb2.size;(try rw[size_drew]at hz2))))
   all_goals
    rename_i hOld
    have hE:=hOld.2.2.2
    have hO:=And.intro hOld.1 (And.intro hOld.2.1 hOld.2.2.1)
    clear hOld
    obtain⟨hOc,hOf,hOz⟩:=heldEnd hO
    clear hO
    go_wp2_with fail
    all_goals
     go_roundw
     case measure=>simp only[intOf];omega
     simp only[cmp_np,cmp_pos]at*
     refine⟨_,_,rfl,rfl,by omega,by omega,by omega,by first| (with_reducible assumption)|exact K3.out,by first| (with_reducible assumption)|exact K4.out, ?_, ?_, ?_, ?_⟩
     ·exact b_1
     all_goals first| ((try simp only[wsz]);omega)| (simp[go_sem, ↓IntWalk.iteOmega, *];done)
  ·have h2:hi=lo+1:=by omega
   subst h2
   have hr:lo=rootI x:=IsRoot.eq ⟨k0,k3,k4⟩
   have hr':=Lib.hid hr
   clear hr k3 k4
   go_wp2_with fail
   go_ret
   refine⟨?_,hE0⟩
   rw[←hr'.out]
   rfl
theorem nat_root (n:Nat):∃r:Nat,r*r≤n∧n<(r+1)*(r+1):=by
 induction n with
 |zero=>exact⟨0,by omega,by omega⟩
 |succ n ih=>
  obtain⟨r,h1,h2⟩:=ih
  by_cases h:n+1<(r+1)*(r+1)
  ·exact⟨r,by omega,h⟩
  ·have e:(r+1+1)*(r+1+1)=(r+1)*(r+1)+2*(r+1)+1:=by grind
   exact⟨r+1,by omega,by omega⟩
theorem root_is {x:Int} (h:0≤x):IsRoot x (rootI x):=by
 obtain⟨r,h1,h2⟩:=nat_root (x*1099511627776).toNat
 have e:((x*1099511627776).toNat:Int)=x*1099511627776:=Int.toNat_of_nonneg (by omega)
 refine IsRoot.of (r:=(r:Int)) ⟨by omega, ?_, ?_⟩
 ·have q:=Int.ofNat_le.2 h1
  rw[Int.natCast_mul,e]at q
  exact q
 ·have q:=Int.ofNat_lt.2 h2
  rw[Int.natCast_mul,Int.natCast_add,e]at q
  exact q
theorem root_le {x:Int} (h:0≤x) (h1:x≤2305843009213693952):0≤rootI x∧rootI x<2251799813685248:=by
 have k:=root_is h
 exact⟨k.1,sq_lt (by omega) (by have:=k.2.1;omega)⟩
noncomputable def sqrtP (a b:Int):R3:=⟨rootI a,if rootI b*rootI b=b*1099511627776 then rootI b else rootI b+1,0⟩
theorem eq_twin (h l h' l':Int) (d:Nat) (w:World):(Op.equalIn (d+1+1) 145 (.agg #[O h,.int .u64 l]) (.agg #[O h',.int .u64 l'])).run Tryz.prog w=.ok (h==h'&&l==l') w:=by
 rw[run_equalIn_agg w (d+1) 145 _ _ (by simp[Program.fieldsOf,Tryz.underlying145]) c_3]
 simp[Op.eqFields,Program.fieldsOf,Tryz.underlying145,go_sem,Tryz.underlying114,Tryz.underlying2]
 by_cases e:h=h'<;>by_cases e2:l=l'<;>simp[e,e2,go_sem]
theorem twin_eq (T U:Int):(T/18446744073709551616==U/18446744073709551616&&T%18446744073709551616==U%18446744073709551616)=decide (T=U):=by
 by_cases h:T=U
 ·subst h;simp
 ·simp[h];omega
theorem ssqrt_p (a b:Int) (w:World) (hk:ckI a b=0) (h0:0≤a):
    K_ 158 #[.agg #[O a,O b]] w fun e w'=>e=.returned (.tuple #[.agg #[O (sqrtP a b).lo,O (sqrtP a b).hi],O (sqrtP a b).e])∧Ext w w':=by
 obtain⟨ka1,ka2,ka3⟩:=ckI_ok hk
 obtain⟨ra0,ra1⟩:=root_le (x:=a) h0 (by omega)
 obtain⟨rb0,rb1⟩:=root_le (x:=b) (by omega) (by omega)
 have n1:IntKind.i64.wrap (rootI b+1)=rootI b+1:=by rw[IntKind.wrap_i64];omega
 have hM:I64 1099511627776:=by unfold I64;omega
 have hR:I64 (rootI b):=by unfold I64;omega
 have hB:I64 b:=by unfold I64;omega
 have n113:∀(h l h' l':Int) (w:World),(Op.equalIn 10000 145 (.agg #[O h,.int .u64 l]) (.agg #[O h',.int .u64 l'])).run Tryz.prog w=.ok (h==h'&&l==l') w:=fun h l h' l' w=>eq_twin h l h' l' 9998 w
 have m113:Tryz.prog.eqGuardType Tryz.prog.depth 136=false:=by kernel_rfl
 have hq:=twin_eq (rootI b*rootI b) (b*1099511627776)
 go_enter Tryz.func158,Tryz.ntmps158
 go_upto_region 7 with(first| (go_at_call 91;(with_reducible refine(check_1 _ _ _ _ c_43).mono ?_);rintro e w1 ⟨rfl,hb⟩;obtain⟨_,_,⟨hc,hf⟩,hz⟩:=hb.c3;(try simp only[wsz]at hz hc hf);(try have zz:=q_4 w.heap.size w1.heap.size);(try have zz:=q_4 (w.heap.size+1) w1.heap.size))| (go_at_call 174;(with_reducible refine(s_root b _ (by omega) (by omega)).mono ?_);rintro e w1 ⟨rfl,hb⟩;obtain⟨_,_,⟨hc,hf⟩,hz⟩:=hb.c3;(try simp only[wsz]at hz hc hf);(try have zz:=q_4 w.heap.size w1.heap.size);(try have zz:=q_4 (w.heap.size+1) w1.heap.size)))
 refine wp_name fun W hW=> ?_
 obtain⟨hWc,hWf,hWz⟩:=hW.cells
 have hWe:Ext w W:=Ext.same hW ex_
 (try simp only[wsz]at hWz)
 (try simp only[size_drew,size_drewN,World.size_alloc,World.size_setCell]at hWz)
 replace hWz:=And.intro (Nat.le_of_eq hWz) (Nat.le_of_eq hWz.symm)
 have hlt:w.heap.size<W.heap.size∧w.heap.size+1<W.heap.size:=(by refine⟨?_, ?_⟩<;>omega)
 have hd:¬w.heap.size=w.heap.size+1∧¬w.heap.size+1=w.heap.size:=(by refine⟨?_, ?_⟩<;>omega)
 go_region_held3 (fun w'=>(∀b o,b<W.heap.size→w'.cell? ⟨b,o,none⟩=if b=w.heap.size∧0≤o∧o<0 then(W.cell? ⟨b,o,none⟩).map (obx w' b o)else W.cell? ⟨b,o,none⟩)∧(∀b o,b<W.heap.size→w'.frozen? ⟨b,o,none⟩=W.frozen? ⟨b,o,none⟩)∧W.heap.size≤w'.heap.size∧Ext w w') (exact k_2) ((first| (go_at_call 95;(with_reducible refine(times_any _ _ _ hR hR).mono ?_);rintro e w2 ⟨rfl,hb2⟩;have hz2:=hb2.size;(try rw[size_drew]at hz2))| (go_at_call 95;(with_reducible refine(times_any _ _ _ hB hM).mono ?_);rintro e w2 ⟨rfl,hb2⟩;have hz2:=hb2.size;(try rw[size_drew]at hz2))))
 all_goals
  rename_i hOld
  have hE:=hOld.2.2.2
  have hO:=And.intro hOld.1 (And.intro hOld.2.1 hOld.2.2.1)
  clear hOld
  obtain⟨hOc,hOf,hOz⟩:=heldEnd hO
  clear hO
  go_wp2_with (first| (go_at_call 174;(with_reducible refine(s_root a _ h0 (by omega)).mono ?_);rintro e w1 ⟨rfl,hb⟩;obtain⟨_,_,⟨hc,hf⟩,hz⟩:=hb.c3;(try simp only[wsz]at hz hc hf)))
  all_goals
   refine bodyPost_ret (v:=.tuple #[.agg #[O (sqrtP a b).lo,O (sqrtP a b).hi],O (sqrtP a b).e]) ?_ rfl ⟨rfl, ?_⟩
   ·(try simp only[bn_,bm_]at*)
    simp[results,Tryz.results158,go_sem, ↓IntWalk.iteOmega,sqrtP, *]
    all_goals(try(intro hh;simp_all;done))
   ·exact b_1
theorem ssqrt_e (a b:Int) (w:World) (hk:¬ckI a b=0):
    K_ 158 #[.agg #[O a,O b]] w fun e w'=>e=.returned (.tuple #[.agg #[O (R3.mk 0 0 (ckI a b)).lo,O (R3.mk 0 0 (ckI a b)).hi],O (R3.mk 0 0 (ckI a b)).e])∧Ext w w':=by
 go_enter Tryz.func158,Tryz.ntmps158
 go_wp2_with (first| (go_at_call 91;(with_reducible refine(check_1 _ _ _ _ c_43).mono ?_);rintro e w1 ⟨rfl,hb⟩;obtain⟨_,_,⟨hc,hf⟩,hz⟩:=hb.c3;(try simp only[wsz]at hz hc hf)))
 all_goals
  refine bodyPost_ret (v:=.tuple #[.agg #[O (R3.mk 0 0 (ckI a b)).lo,O (R3.mk 0 0 (ckI a b)).hi],O (R3.mk 0 0 (ckI a b)).e]) ?_ rfl ⟨rfl, ?_⟩
  ·(try simp only[bn_,bm_]at*)
   simp[results,Tryz.results158,go_sem, ↓IntWalk.iteOmega,ne_eq, *]
  ·exact b_1
theorem ssqrt_n (a b:Int) (w:World) (hk:ckI a b=0) (h0:a<0):
    K_ 158 #[.agg #[O a,O b]] w fun e w'=>e=.returned (.tuple #[.agg #[O (R3.mk 0 0 2).lo,O (R3.mk 0 0 2).hi],O (R3.mk 0 0 2).e])∧Ext w w':=by
 go_enter Tryz.func158,Tryz.ntmps158
 go_wp2_with (first| (go_at_call 91;(with_reducible refine(check_1 _ _ _ _ c_43).mono ?_);rintro e w1 ⟨rfl,hb⟩;obtain⟨_,_,⟨hc,hf⟩,hz⟩:=hb.c3;(try simp only[wsz]at hz hc hf)))
 all_goals
  refine bodyPost_ret (v:=.tuple #[.agg #[O (R3.mk 0 0 2).lo,O (R3.mk 0 0 2).hi],O (R3.mk 0 0 2).e]) ?_ rfl ⟨rfl, ?_⟩
  ·(try simp only[bn_,bm_]at*)
   simp[results,Tryz.results158,go_sem, ↓IntWalk.iteOmega,ne_eq, *]
  ·exact b_1
theorem span_sqrt (a b:Int) (w:World):
    K_ 158 #[.agg #[O a,O b]] w fun e w'=>e=.returned (.tuple #[.agg #[O (sqrtI a b).lo,O (sqrtI a b).hi],O (sqrtI a b).e])∧Ext w w':=by
 by_cases hk:ckI a b=0
 ·by_cases h0:a<0
  ·have e:sqrtI a b=⟨0,0,2⟩:=by unfold sqrtI;rw[if_neg c_60,if_pos h0]
   rw[e];exact ssqrt_n a b w hk h0
  ·have e:sqrtI a b=sqrtP a b:=by unfold sqrtI;rw[if_neg c_60,if_neg h0];rfl
   rw[e];exact ssqrt_p a b w hk (by omega)
 ·have e:sqrtI a b=⟨0,0,ckI a b⟩:=by unfold sqrtI;rw[if_pos c_60]
  rw[e];exact ssqrt_e a b w hk
theorem T_KA_1 {p:Prop} (h:p:=by
 refine⟨rfl,Or.inr ⟨h0,rfl⟩, ?_⟩
 repeat(first|with_reducible exact Ext.refl _|with_reducible assumption|with_reducible refine Ext.alloc ?_ _|with_reducible refine Ext.setCell ?_ c_27 _|with_reducible refine Ext.drewN ?_ _|with_reducible refine Ext.drew ?_|with_reducible refine Ext.trans ?_ c_7)):p:=h
def FALL:List PanicEntry:=[{v:=.iface 168 (.agg #[]),recovered:=false}]
def KP (r:R3) (e:Ending):Prop:=(r.e=0∧e=.returned (.agg #[O r.lo,O r.hi]))∨(¬r.e=0∧e=.panicked FALL)
theorem k_must (r:R3) (w:World):K_ 59 #[.agg #[O r.lo,O r.hi],O r.e] w fun e w'=>KP r e∧Ext w w':=by
 obtain⟨x,hx⟩:∃x,r.lo=x:=⟨_,rfl⟩
 obtain⟨y,hy⟩:∃y,r.hi=y:=⟨_,rfl⟩
 obtain⟨ee,he⟩:∃ee,r.e=ee:=⟨_,rfl⟩
 unfold KP
 rw[hx,hy,he]
 clear hx hy he
 by_cases h0:ee=0
 ·subst h0
  go_enter Tryz.func59,Tryz.ntmps59
  go_wp2
  refine bodyPost_ret (v:=.agg #[O x,O y]) ?_ rfl ⟨Or.inl (by simp), ?_⟩
  ·simp[results,Tryz.results59,go_sem, ↓IntWalk.iteOmega, *]
  ·exact b_1
 ·go_enter Tryz.func59,Tryz.ntmps59
  go_wp2
  exact T_KA_1
theorem k_div (a b c d:Int) (w:World):K_ 62 #[.agg #[O a,O b],.agg #[O c,O d]] w fun e w'=>KP (divI a b c d) e∧Ext w w':=by
 have hs:=fun w1=>span_div a b c d w1
 generalize divI a b c d=r at hs ⊢
 have hm:=fun w1=>k_must r w1
 obtain⟨lo,hlo⟩:∃x,r.lo=x:=⟨_,rfl⟩
 obtain⟨hi,hhi⟩:∃x,r.hi=x:=⟨_,rfl⟩
 obtain⟨ee,hee⟩:∃x,r.e=x:=⟨_,rfl⟩
 unfold KP at hm ⊢
 rw[hlo,hhi,hee]at hs hm
 rw[hlo,hhi,hee]
 clear hlo hhi hee
 by_cases h0:ee=0
 ·subst h0
  replace hm:=fun w1=>(hm w1).mono (R':=fun e w'=>e=.returned (.agg #[O lo,O hi])∧Ext w1 w') c_25
  go_enter Tryz.func62,Tryz.ntmps62
  go_wp2_with (first
   | (go_at_call 71;(with_reducible refine(hs _).mono ?_);rintro e w1 ⟨rfl,hb⟩;obtain⟨_,_,⟨hc,hf⟩,hz⟩:=hb.c3;(try simp only[wsz]at hz hc hf))
   | (go_at_call 59;(with_reducible refine(hm _).mono ?_);rintro e w2 ⟨rfl,hb2⟩;obtain⟨_,_,⟨hc2,hf2⟩,hz2⟩:=hb2.c3;(try simp only[wsz]at hz2 hc2 hf2)))
  refine bodyPost_ret (v:=.agg #[O lo,O hi]) ?_ rfl ⟨Or.inl (by simp), ?_⟩
  ·simp[results,Tryz.results62,go_sem, ↓IntWalk.iteOmega, *]
  ·exact b_1
 ·replace hm:=fun w1=>(hm w1).mono (R':=fun e w'=>e=.panicked FALL∧Ext w1 w') c_39
  go_enter Tryz.func62,Tryz.ntmps62
  go_wp2_with (first
   | (go_at_call 71;(with_reducible refine(hs _).mono ?_);rintro e w1 ⟨rfl,hb⟩;obtain⟨_,_,⟨hc,hf⟩,hz⟩:=hb.c3;(try simp only[wsz]at hz hc hf))
   | (go_at_call 59;(with_reducible refine(hm _).mono ?_);rintro e w2 ⟨rfl,hb2⟩;obtain⟨_,_,⟨hc2,hf2⟩,hz2⟩:=hb2.c3;(try simp only[wsz]at hz2 hc2 hf2)))
  exact T_KA_1
theorem k_sub (a b c d:Int) (w:World):K_ 114 #[.agg #[O a,O b],.agg #[O c,O d]] w fun e w'=>KP (subI a b c d) e∧Ext w w':=by
 have hs:=fun w1=>span_sub a b c d w1
 generalize subI a b c d=r at hs ⊢
 have hm:=fun w1=>k_must r w1
 obtain⟨lo,hlo⟩:∃x,r.lo=x:=⟨_,rfl⟩
 obtain⟨hi,hhi⟩:∃x,r.hi=x:=⟨_,rfl⟩
 obtain⟨ee,hee⟩:∃x,r.e=x:=⟨_,rfl⟩
 unfold KP at hm ⊢
 rw[hlo,hhi,hee]at hs hm
 rw[hlo,hhi,hee]
 clear hlo hhi hee
 by_cases h0:ee=0
 ·subst h0
  replace hm:=fun w1=>(hm w1).mono (R':=fun e w'=>e=.returned (.agg #[O lo,O hi])∧Ext w1 w') c_25
  go_enter Tryz.func114,Tryz.ntmps114
  go_wp2_with (first
   | (go_at_call 70;(with_reducible refine(hs _).mono ?_);rintro e w1 ⟨rfl,hb⟩;obtain⟨_,_,⟨hc,hf⟩,hz⟩:=hb.c3;(try simp only[wsz]at hz hc hf))
   | (go_at_call 59;(with_reducible refine(hm _).mono ?_);rintro e w2 ⟨rfl,hb2⟩;obtain⟨_,_,⟨hc2,hf2⟩,hz2⟩:=hb2.c3;(try simp only[wsz]at hz2 hc2 hf2)))
  refine bodyPost_ret (v:=.agg #[O lo,O hi]) ?_ rfl ⟨Or.inl (by simp), ?_⟩
  ·simp[results,Tryz.results114,go_sem, ↓IntWalk.iteOmega, *]
  ·exact b_1
 ·replace hm:=fun w1=>(hm w1).mono (R':=fun e w'=>e=.panicked FALL∧Ext w1 w') c_39
  go_enter Tryz.func114,Tryz.ntmps114
  go_wp2_with (first
   | (go_at_call 70;(with_reducible refine(hs _).mono ?_);rintro e w1 ⟨rfl,hb⟩;obtain⟨_,_,⟨hc,hf⟩,hz⟩:=hb.c3;(try simp only[wsz]at hz hc hf))
   | (go_at_call 59;(with_reducible refine(hm _).mono ?_);rintro e w2 ⟨rfl,hb2⟩;obtain⟨_,_,⟨hc2,hf2⟩,hz2⟩:=hb2.c3;(try simp only[wsz]at hz2 hc2 hf2)))
  exact T_KA_1
theorem k_root (a b:Int) (w:World):K_ 122 #[.agg #[O a,O b]] w fun e w'=>KP (sqrtI a b) e∧Ext w w':=by
 have hs:=fun w1=>span_sqrt a b w1
 generalize sqrtI a b=r at hs ⊢
 have hm:=fun w1=>k_must r w1
 obtain⟨lo,hlo⟩:∃x,r.lo=x:=⟨_,rfl⟩
 obtain⟨hi,hhi⟩:∃x,r.hi=x:=⟨_,rfl⟩
 obtain⟨ee,hee⟩:∃x,r.e=x:=⟨_,rfl⟩
 unfold KP at hm ⊢
 rw[hlo,hhi,hee]at hs hm
 rw[hlo,hhi,hee]
 clear hlo hhi hee
 by_cases h0:ee=0
 ·subst h0
  replace hm:=fun w1=>(hm w1).mono (R':=fun e w'=>e=.returned (.agg #[O lo,O hi])∧Ext w1 w') c_25
  go_enter Tryz.func122,Tryz.ntmps122
  go_wp2_with (first
   | (go_at_call 158;(with_reducible refine(hs _).mono ?_);rintro e w1 ⟨rfl,hb⟩;obtain⟨_,_,⟨hc,hf⟩,hz⟩:=hb.c3;(try simp only[wsz]at hz hc hf))
   | (go_at_call 59;(with_reducible refine(hm _).mono ?_);rintro e w2 ⟨rfl,hb2⟩;obtain⟨_,_,⟨hc2,hf2⟩,hz2⟩:=hb2.c3;(try simp only[wsz]at hz2 hc2 hf2)))
  refine bodyPost_ret (v:=.agg #[O lo,O hi]) ?_ rfl ⟨Or.inl (by simp), ?_⟩
  ·simp[results,Tryz.results122,go_sem, ↓IntWalk.iteOmega, *]
  ·exact b_1
 ·replace hm:=fun w1=>(hm w1).mono (R':=fun e w'=>e=.panicked FALL∧Ext w1 w') c_39
  go_enter Tryz.func122,Tryz.ntmps122
  go_wp2_with (first
   | (go_at_call 158;(with_reducible refine(hs _).mono ?_);rintro e w1 ⟨rfl,hb⟩;obtain⟨_,_,⟨hc,hf⟩,hz⟩:=hb.c3;(try simp only[wsz]at hz hc hf))
   | (go_at_call 59;(with_reducible refine(hm _).mono ?_);rintro e w2 ⟨rfl,hb2⟩;obtain⟨_,_,⟨hc2,hf2⟩,hz2⟩:=hb2.c3;(try simp only[wsz]at hz2 hc2 hf2)))
  exact T_KA_1
theorem s_whole (n:Int) (w:World) (h0:0≤n) (h1:n≤1000):K_ 153 #[O n] w fun e w'=>e=.returned (.tuple #[.agg #[O (n*1099511627776),O (n*1099511627776)],O 0])∧Ext w w':=by
 go_enter Tryz.func153,Tryz.ntmps153
 go_wp2
 refine bodyPost_ret (v:=.tuple #[.agg #[O (n*1099511627776),O (n*1099511627776)],O 0]) ?_ rfl ⟨rfl, ?_⟩
 ·simp[results,Tryz.results153,go_sem, ↓IntWalk.iteOmega, *]
 ·exact b_1
theorem k_whole (n:Int) (w:World) (h0:0≤n) (h1:n≤1000):K_ 113 #[O n] w fun e w'=>e=.returned (.agg #[O (n*1099511627776),O (n*1099511627776)])∧Ext w w':=by
 have hs:=fun w1=>s_whole n w1 h0 h1
 obtain⟨x,hx⟩:∃x,n*1099511627776=x:=⟨_,rfl⟩
 rw[hx]at hs ⊢
 clear hx
 have hm:∀w1,K_ 59 #[.agg #[O x,O x],O 0] w1 fun e w'=>e=.returned (.agg #[O x,O x])∧Ext w1 w':=fun w1=>(k_must ⟨x,x,0⟩ w1).mono c_25
 go_enter Tryz.func113,Tryz.ntmps113
 go_wp2_with (first
  | (go_at_call 153;(with_reducible refine(hs _).mono ?_);rintro e w1 ⟨rfl,hb⟩;obtain⟨_,_,⟨hc,hf⟩,hz⟩:=hb.c3;(try simp only[wsz]at hz hc hf))
  | (go_at_call 59;(with_reducible refine(hm _).mono ?_);rintro e w2 ⟨rfl,hb2⟩;obtain⟨_,_,⟨hc2,hf2⟩,hz2⟩:=hb2.c3;(try simp only[wsz]at hz2 hc2 hf2)))
 refine bodyPost_ret (v:=.agg #[O x,O x]) ?_ rfl ⟨rfl, ?_⟩
 ·simp[results,Tryz.results113,go_sem, ↓IntWalk.iteOmega, *]
 ·exact b_1
theorem k_mul1 (a b c d:Int) (g cap:Nat) (w:World) (ha:I64 a∧I64 b) (hc0:I64 c∧I64 d) (hl0:w.cell? ⟨g,0,none⟩=some (O c)) (hl1:w.cell? ⟨g,1,none⟩=some (O d)):K_ 115 #[.agg #[O a,O b],.slice (some ⟨g,0,none⟩) 1 cap] w fun e w'=>KP (mulI a b c d) e∧Ext w w':=by
 have hgl:g<w.heap.size:=World.block_lt_of_cell? w _ hl0
 have hs:=fun w1=>span_mul a b c d w1 ha hc0
 generalize mulI a b c d=r at hs ⊢
 have hm:=fun w1=>k_must r w1
 obtain⟨lo,hlo⟩:∃x,r.lo=x:=⟨_,rfl⟩
 obtain⟨hi,hhi⟩:∃x,r.hi=x:=⟨_,rfl⟩
 obtain⟨ee,hee⟩:∃x,r.e=x:=⟨_,rfl⟩
 unfold KP at hm ⊢
 rw[hlo,hhi,hee]at hs hm
 rw[hlo,hhi,hee]
 clear hlo hhi hee
 by_cases h0:ee=0
 ·subst h0
  replace hm:=fun w1=>(hm w1).mono (R':=fun e w'=>e=.returned (.agg #[O lo,O hi])∧Ext w1 w') c_25
  go_enter Tryz.func115,Tryz.ntmps115
  go_wp2_with fail
  refine wp_loop_rounds 2 ?_
  rw[rounds_succ]
  go_wp2_with (first
   | (go_at_call 48;(with_reducible refine(hs _).mono ?_);rintro e w1 ⟨rfl,hb⟩;obtain⟨_,_,⟨hc,hf⟩,hz⟩:=hb.c3;(try simp only[wsz]at hz hc hf))
   | (go_at_call 59;(with_reducible refine(hm _).mono ?_);rintro e w2 ⟨rfl,hb2⟩;obtain⟨_,_,⟨hc2,hf2⟩,hz2⟩:=hb2.c3;(try simp only[wsz]at hz2 hc2 hf2)))
  rw[rounds_succ]
  go_wp2_with fail
  refine bodyPost_ret (v:=.agg #[O lo,O hi]) ?_ rfl ⟨Or.inl (by simp), ?_⟩
  ·simp[results,Tryz.results115,go_sem, ↓IntWalk.iteOmega, *]
  ·exact b_1
 ·replace hm:=fun w1=>(hm w1).mono (R':=fun e w'=>e=.panicked FALL∧Ext w1 w') c_39
  go_enter Tryz.func115,Tryz.ntmps115
  go_wp2_with fail
  refine wp_loop_rounds 2 ?_
  rw[rounds_succ]
  go_wp2_with (first
   | (go_at_call 48;(with_reducible refine(hs _).mono ?_);rintro e w1 ⟨rfl,hb⟩;obtain⟨_,_,⟨hc,hf⟩,hz⟩:=hb.c3;(try simp only[wsz]at hz hc hf))
   | (go_at_call 59;(with_reducible refine(hm _).mono ?_);rintro e w2 ⟨rfl,hb2⟩;obtain⟨_,_,⟨hc2,hf2⟩,hz2⟩:=hb2.c3;(try simp only[wsz]at hz2 hc2 hf2)))
  exact T_KA_1
theorem eqc2 {P:Program} {f:Nat} {w:World} {F:Ending→World→Prop} {u v x:Value} (h:u=v) (k:Calls P f #[v,x] w F):Calls P f #[u,x] w F:=h▸k
theorem eqcr {P:Program} {f:Nat} {w:World} {F:Ending→World→Prop} {u v x:Value} (h:u=v) (k:Calls P f #[x,v] w F):Calls P f #[x,u] w F:=h▸k
theorem frm {w:World} {u s:Value} {x:Rat} (hu:Lim w u (dig x.num.natAbs)) (hs:Lim w s (dig x.den)):Fr w (.agg #[.bool (decide (x.num<0)),u,.bool false,s]) x:=⟨u,s,rfl,hu,hs⟩
theorem k_quotZ (n:Int) (d:Nat) (lo hi:Int) (w:World) (hn: -9223372036854775808≤n) (hn2:n≤9223372036854775807) (hd:d<9223372036854775808) (h0:0<d) (hx:Fb (mkRat n d) 70) (h1: -2097152≤(mkRat n d).num/((mkRat n d).den:Int)) (h2:(mkRat n d).num/((mkRat n d).den:Int)≤2097151) (hlo:ofLo (mkRat n d)=lo) (hhi:ofHi (mkRat n d)=hi):
    K_ 111 #[O n,O d] w fun e w'=>e=.returned (.agg #[O lo,O hi])∧Ext w w':=by
 have hof:=fun w1=>z_Of n d w1 hn hn2 hd h0
 have hso:=fun v w1 (h:Fr w1 v (mkRat n d))=>z_SOf v _ 70 w1 h hx (by decide) h1 h2
 rw[hlo,hhi]at hso
 have hm:∀w1,K_ 59 #[.agg #[O lo,O hi],O 0] w1 fun e w'=>e=.returned (.agg #[O lo,O hi])∧Ext w1 w':=fun w1=>(k_must ⟨lo,hi,0⟩ w1).mono c_25
 clear hn hn2 hd h0 hx h1 h2 hlo hhi
 generalize mkRat n d=X at*
 generalize(d:Int)=D at*
 go_enter Tryz.func111,Tryz.ntmps111
 go_wp2_with (first
  | (go_at_call 152;(with_reducible refine(hof _).mono ?_);rintro e w1 ⟨y1,rfl,hy1,hb⟩;obtain⟨u1,s1,rfl,hu1,hs1⟩:=hy1;obtain⟨ao,b1,o1,cap1,rfl, -⟩:=hu1.view;obtain⟨bo,b2,o2,cap2,rfl, -⟩:=hs1.view;obtain⟨_,_,⟨hc,hf⟩,hz⟩:=hb.c3;(try simp only[wsz]at hz hc hf))
  | (go_at_call 46;(with_reducible refine(hso _ _ (frm (hu1.ext ((Ext.refl _).alloc _)) (hs1.ext ((Ext.refl _).alloc _)))).mono ?_);rintro e w2 ⟨rfl,hb2⟩;obtain⟨_,_,⟨hc2,hf2⟩,hz2⟩:=hb2.c3;(try simp only[wsz]at hz2 hc2 hf2))
  | (go_at_call 59;(with_reducible refine(hm _).mono ?_);rintro e w3 ⟨rfl,hb3⟩;obtain⟨_,_,⟨hc3,hf3⟩,hz3⟩:=hb3.c3;(try simp only[wsz]at hz3 hc3 hf3)))
 refine bodyPost_ret (v:=.agg #[O lo,O hi]) ?_ rfl ⟨rfl, ?_⟩
 ·simp[results,Tryz.results111,go_sem, ↓IntWalk.iteOmega, *]
 ·exact b_1
theorem k_part (n:Int) (d:Nat) (N D:Int) (w:World) (hn: -9223372036854775808≤n) (hn2:n≤9223372036854775807) (hd:d<9223372036854775808) (h0:0<d) (hN:(mkRat n d).num=N) (hD:((mkRat n d).den:Int)=D):
    K_ 19 #[O n,O d] w fun e w'=>∃u,e=.returned u∧PairV w' u N D∧Ext w w':=by
 have hof:=fun w1=>k_of n d N D w1 hn hn2 hd h0 hN hD
 clear hn hn2 hd h0 hN hD
 have I0:KBd w [] w:=⟨Ext.refl w,trivial,by simp,by simp⟩
 have I:=I0.new [.bool false,.slice none 0 0,.bool false,.slice none 0 0] 26 (by simp)
 simp only[World.size_alloc,List.nil_append,List.cons_append]at I
 clear I0
 go_enter Tryz.func19,Tryz.ntmps19
 go_upto_region 1 with fail
 refine rB [] [⟨6,some 7,.own [.bool false,.slice none 0 0,.bool false,.slice none 0 0],(.pat N D)⟩] [.eq (O (n)),.eq (O ((d:Int))),(VF.pair (N) (D)).err 0,(VF.pair (N) (D)).err 0,.pair (N) (D),.eq (O (0)),.any,.any,.eq (O (0))] [] I (fun hc=>⟨ob_mv hc (.inl rfl),ob_mv hc (.inl rfl),ob_call (fun v=>[v 0,v 1]) hc rfl fun vs gs w1 c=>eqc2 (c.v 0) (eqcr (c.v 1) (hof w1)),ob_cp 2 hc (.inl rfl),ob_ext0 3 hc rfl,ob_ext1 3 hc rfl,ob_new (n:=1) [.bool false,.slice none 0 0,.bool false,.slice none 0 0] 26 rfl hc rfl rfl rfl,ob_putP (n:=1) rfl 4 hc rfl 0 (h4:=fun _ _ h=>own_bx4 h),ob_cp 5 hc (.inr rfl),trivial⟩) fun g5 vs W=>tl ?_
 clear I
 intro I
 go_upto_region 2 with fail
 refine rB [[(1,.pat N D)]] [] [.pair (N) (D)] [] I (fun hc=>⟨ob_getPP g5 (N) (D) hc rfl fun vs gs w1 c=>c.b0 1,ob_putP (n:=0) rfl 0 hc rfl 0 (h4:=fun _ _ h=>own_bx4 h),trivial⟩) fun vs W=>tl ?_
 clear I
 intro I
 obtain⟨s,u,t,z,k0,k1,k2,k3,k4,k5⟩:=(show PatP W w.heap.size N D from I.at 0).c
 have hE:=I.e
 clear I hof
 go_wp2_with fail
 refine bodyPost_ret (v:=.agg #[.bool s,u,.bool t,z]) ?_ rfl ⟨_,rfl, ?_,hE⟩
 ·simp[results,Tryz.results19,go_sem, ↓IntWalk.iteOmega,k0,k1,k2,k3]
 ·exact⟨_,_,_,_,rfl,k4,k5⟩
theorem k_rest (w:World):K_ 17 #[] w fun e w'=>e=.returned (.agg #[O 0,O 1099511627776,O 0,O 0,O 0,O 0,O 0])∧Ext w w':=by
 go_enter Tryz.func17,Tryz.ntmps17
 go_wp2_with fail
 refine bodyPost_ret (v:=.agg #[O 0,O 1099511627776,O 0,O 0,O 0,O 0,O 0]) ?_ rfl ⟨rfl,ex_⟩
 simp[results,Tryz.results17,go_sem, ↓IntWalk.iteOmega, *]
theorem k_point (a:Int) (w:World):K_ 64 #[O a] w fun e w'=>e=.returned (.agg #[O a,O a])∧Ext w w':=by
 go_enter Tryz.func64,Tryz.ntmps64
 go_wp2_with fail
 refine bodyPost_ret (v:=.agg #[O a,O a]) ?_ rfl ⟨rfl,ex_⟩
 simp[results,Tryz.results64,go_sem, ↓IntWalk.iteOmega, *]
theorem k_has33 (a b n:Int) (w:World) (h0:a≤n) (h1:n≤b):K_ 24 #[.agg #[O a,O b],O n] w fun e w'=>e=.returned (.bool true)∧Ext w w':=by
 go_enter Tryz.func24,Tryz.ntmps24
 go_wp2_with fail
 go_ret
 exact⟨by first|rfl| (simp;omega),ex_⟩
theorem so_s:searchF (fun k=>passF k 1099511627776 1 2) 60 (1099511627776-1099511627776-1) (1099511627776+1099511627776+1)=some (1647839322863,1647839322864):=by kernel_rfl
theorem pf_ck (n:Int) (d:Nat) (N D:Int) (hN:(mkRat n d).num=N) (hD:((mkRat n d).den:Int)=D) (hb:Fb (mkRat n d) 4096) (w1:World) (u:Value) (h:PairV w1 u N D):K_ 51 #[u] w1 fun e w'=>e=.returned (O 0)∧Ext w1 w':=
 z_fCheck u (mkRat n d) 4096 w1 (fr_pair h hN hD) hb (by decide)
theorem so_1 (w:World) (v:Value) (h:PairV w v (0) 1):K_ 18 #[O 1099511627776,v] w fun e w'=>e=.returned (.tuple #[.agg #[O 1099511627776,O 1099511627776],O 0])∧Ext w w':=
 k_SolveE0 v 1099511627776 (0) 1 w h (pf_ck (0) 1 (0) 1 c_3 c_3 ⟨Nat.le_of_ble_eq_true c_3,Nat.le_of_ble_eq_true c_3⟩) (dig_bits (k:=64) (L:=4096) (by decide) (by decide)) (dig_bits (k:=64) (L:=4096) (by decide) (by decide)) (by decide) (by decide) (by decide) rfl (by decide) (by decide) (by decide)
theorem so_2 (w:World) (v:Value) (h:PairV w v (1) 2):K_ 18 #[O 0,v] w fun e w'=>e=.returned (.tuple #[.agg #[O 0,O 0],O 0])∧Ext w w':=
 k_Solve0 v 0 (1) 2 w h (pf_ck (1) 2 (1) 2 c_3 c_3 ⟨Nat.le_of_ble_eq_true c_3,Nat.le_of_ble_eq_true c_3⟩) (dig_bits (k:=64) (L:=4096) (by decide) (by decide)) (dig_bits (k:=64) (L:=4096) (by decide) (by decide)) (by decide) (by decide) (by decide) (by decide) rfl
theorem so_3 (w:World) (v:Value) (h:PairV w v (1) 2):K_ 18 #[O 1099511627776,v] w fun e w'=>e=.returned (.tuple #[.agg #[O 1647839322863,O 1647839322864],O 0])∧Ext w w':=
 k_SolveS v 1099511627776 (1) 2 w h (pf_ck (1) 2 (1) 2 c_3 c_3 ⟨Nat.le_of_ble_eq_true c_3,Nat.le_of_ble_eq_true c_3⟩) (dig_bits (k:=64) (L:=4096) (by decide) (by decide)) (dig_bits (k:=64) (L:=4096) (by decide) (by decide)) (by decide) (by decide) 60 (1647839322863,1647839322864) c_3 c_3 (by decide) (by decide) (by decide) (by decide) (by decide) (by decide) so_s
theorem so_4 (w:World) (v:Value) (h:PairV w v (1) 1):K_ 18 #[O 0,v] w fun e w'=>e=.returned (.tuple #[.agg #[O 0,O 0],O 2])∧Ext w w':=
 k_SolveCmp v 0 (1) 1 w h (pf_ck (1) 1 (1) 1 c_3 c_3 ⟨Nat.le_of_ble_eq_true c_3,Nat.le_of_ble_eq_true c_3⟩) (dig_bits (k:=64) (L:=4096) (by decide) (by decide)) (dig_bits (k:=64) (L:=4096) (by decide) (by decide)) (by decide) (by decide) (by decide)
theorem so_5 (w:World) (v:Value) (h:PairV w v (-1) 2):K_ 18 #[O 0,v] w fun e w'=>e=.returned (.tuple #[.agg #[O 0,O 0],O 2])∧Ext w w':=
 k_SolveNeg v 0 (-1) 2 w h (pf_ck (-1) 2 (-1) 2 c_3 c_3 ⟨Nat.le_of_ble_eq_true c_3,Nat.le_of_ble_eq_true c_3⟩) (dig_bits (k:=64) (L:=4096) (by decide) (by decide)) (dig_bits (k:=64) (L:=4096) (by decide) (by decide)) (by decide) (by decide) (by decide) (by decide)
theorem so_6 (w:World) (v:Value) (h:PairV w v (1) 2):K_ 18 #[O 35184372088833,v] w fun e w'=>e=.returned (.tuple #[.agg #[O 0,O 0],O 2])∧Ext w w':=
 k_SolveFar v 35184372088833 (1) 2 w h (pf_ck (1) 2 (1) 2 c_3 c_3 ⟨Nat.le_of_ble_eq_true c_3,Nat.le_of_ble_eq_true c_3⟩) (dig_bits (k:=64) (L:=4096) (by decide) (by decide)) (dig_bits (k:=64) (L:=4096) (by decide) (by decide)) (by decide) (by decide) (by decide) (by decide) (by decide)
theorem so_7 (w:World):K_ 18 #[O 0,.agg #[.bool false,.slice none 0 0,.bool false,.slice none 0 0]] w fun e w'=>e=.returned (.tuple #[.agg #[O 0,O 0],O 8])∧Ext w w':=by
 have hck:=p_fCheck0
 go_enter Tryz.func18,Tryz.ntmps18
 go_wp2_with (go_at_call 51;(with_reducible refine(hck _).mono ?_);rintro e w1 ⟨rfl,hb⟩;obtain⟨_,_,⟨hc,hf⟩,hz⟩:=hb.c3;(try simp only[wsz]at hz hc hf))
 refine bodyPost_ret (v:=.tuple #[.agg #[O 0,O 0],O 8]) ?_ rfl ⟨rfl,ex_⟩
 simp[results,Tryz.results18,go_sem, ↓IntWalk.iteOmega, *]
def Bxn (W:World) (B m:Nat) (u:Value):Prop:=W.cell? ⟨B,0,none⟩=some (.bool false)∧W.cell? ⟨B,1,none⟩=some u∧Lim W u (dig m)∧B<W.heap.size
theorem Bxn.ext {a w:World} {B m:Nat} {u:Value} (h:Bxn a B m u) (k:Ext a w):Bxn w B m u:=
 ⟨(k.cells.1 _ _ h.2.2.2).trans h.1,(k.cells.1 _ _ h.2.2.2).trans h.2.1,h.2.2.1.ext k,Nat.lt_of_lt_of_le h.2.2.2 k.size⟩
theorem Bxn.nn {W:World} {B m:Nat} {u:Value} (h:Bxn W B m u):Nn W (.agg #[.bool false,u]) m:=⟨_,rfl,h.2.2.1⟩
theorem Bxn.made {t:World} {ao:Option Addr} {cap m:Nat} (h:Lim t (.slice ao (dig m).length cap) (dig m)):
    Bxn (t.alloc (.cells #[.bool false,.slice ao (dig m).length cap] 24)) t.heap.size m (.slice ao (dig m).length cap)∧Ext t (t.alloc (.cells #[.bool false,.slice ao (dig m).length cap] 24)):=by
 refine⟨⟨?_, ?_,h.alloc _,by simp⟩,(Ext.refl t).alloc _⟩
 ·simp[go_sem, ↓IntWalk.iteOmega]
 ·simp[go_sem, ↓IntWalk.iteOmega]
theorem BX.grown {w a w0:World} {B g:Nat} {L:List (Nat×Nat×Value)} (h:BX w B L a) (k:GB g a w0) (hw:w.heap.size≤g) (hB:B≠g) (hL:∀p∈L,p.1≠g):BX w B L w0:=by
 obtain⟨h1,h2,⟨a0,h3⟩,⟨a1,h4⟩,h5,h6,h7⟩:=h
 exact⟨GB.pre h1 k hw,fun p hp=>(k.cell (World.block_lt_of_cell? _ _ (h2 p hp)) (hL p hp)).trans (h2 p hp),⟨a0,(k.cell h7 hB).trans h3⟩,⟨a1,(k.cell h7 hB).trans h4⟩,fun o=>(k.frozen h7 hB).trans (h5 o),h6.grown k h7 hB,Nat.lt_of_lt_of_le h7 k.size⟩
theorem Lb.zeros (d:Nat):Lb (List.replicate d 0):=fun y hy=>by rw[List.eq_of_mem_replicate hy];decide
def One (w:World) (b:Nat) (x:Value):Prop:=w.cell? ⟨b,0,none⟩=some x∧b<w.heap.size
theorem One.ext {a w:World} {b:Nat} {x:Value} (h:One a b x) (k:Ext a w):One w b x:=⟨(k.cells.1 b 0 h.2).trans h.1,Nat.lt_of_lt_of_le h.2 k.size⟩
theorem One.fresh {W X:World} (h:Ext W X) (x:Value):One (X.alloc (.cells #[x] 54)) X.heap.size x:=⟨by rw[cell_al,if_pos rfl];rfl,by simp⟩
end Go.Proofs.YtaoioncjmfcolaaGreat
namespace Go.Proofs.YtaoioncjmfcolaaGreat
def invF (n:Nat):Nat→Nat→Nat→Nat→Option Nat
 |0,_,_,_=>none
 |F+1,i,t,s=>if okN (s:Int)=true then(if t=0 then some s else if i%2=0 then invF n F (i+1) (t/(n*n)) (s+t/(2*i+1))else if t/(2*i+1)≤s then invF n F (i+1) (t/(n*n)) (s-t/(2*i+1))else none)else none
theorem okN.small {s:Nat} (h:okN (s:Int)=true):Small s:=by
 have:=okN.sz h
 unfold Sz at this
 rwa [Int.natAbs_natCast]at this
end Go.Proofs.YtaoioncjmfcolaaGreat
namespace Go.Proofs.YtaoioncjmfcolaaGreat
open Go.RowKit
theorem wpAnyH_name {P:Program} {md:Region.Mode} {ops:Array Oper} {Q:Exit→Act→World→Prop} {S:World→Prop} {fuel:Nat} {listed:Array Bool} {a:Act} {X:World} (h:∀Y,X=Y→wpAnyH P md ops Q S fuel listed a Y):wpAnyH P md ops Q S fuel listed a X:=h X rfl
theorem fqm {w:World} {u s:Value} {p q:Nat} (hu:Lim w u (dig p)) (hs:Lim w s (dig q)):Fq w (.agg #[.bool false,u,.bool false,s]) p q:=⟨u,s,rfl,hu,hs⟩
theorem k_quot (w:World):K_ 111 #[O 295912208285591,O 1000000000000000000] w fun e w'=>e=.returned (.agg #[O 325358913,O 325358914])∧Ext w w':=by
 have hof:∀w1,K_ 152 #[O 295912208285591,O 1000000000000000000] w1 fun e w'=>∃u,e=.returned (.tuple #[u,O 0])∧Fq w' u 295912208285591 1000000000000000000∧Ext w1 w':=fun w1=>w_Of 295912208285591 1000000000000000000 w1 (by decide) (by decide) (by decide)
 have hso:∀v w1,Fq w1 v 295912208285591 1000000000000000000→K_ 46 #[v] w1 fun e w'=>e=.returned (.tuple #[.agg #[O 325358913,O 325358914],O 0])∧Ext w1 w':=fun v w1 h=>s_Of v 295912208285591 1000000000000000000 0 810880914696175616 325358913 w1 h (by decide) (by decide) (by decide) (by decide) (by decide) (by decide) c_3 (by decide) (by decide) (by decide)
 have hm:∀w1,K_ 59 #[.agg #[O 325358913,O 325358914],O 0] w1 fun e w'=>e=.returned (.agg #[O 325358913,O 325358914])∧Ext w1 w':=fun w1=>(k_must ⟨325358913,325358914,0⟩ w1).mono c_25
 generalize(295912208285591:Nat)=p at*
 generalize(1000000000000000000:Nat)=d at*
 go_enter Tryz.func111,Tryz.ntmps111
 go_wp2_with (first
  | (go_at_call 152;(with_reducible refine(hof _).mono ?_);rintro e w1 ⟨y1,rfl,hy1,hb⟩;obtain⟨u1,s1,rfl,hu1,hs1⟩:=hy1;obtain⟨ao,b1,o1,cap1,rfl, -⟩:=hu1.view;obtain⟨bo,b2,o2,cap2,rfl, -⟩:=hs1.view;obtain⟨_,_,⟨hc,hf⟩,hz⟩:=hb.c3;(try simp only[wsz]at hz hc hf))
  | (go_at_call 46;(with_reducible refine(hso _ _ (fqm (hu1.ext ((Ext.refl _).alloc _)) (hs1.ext ((Ext.refl _).alloc _)))).mono ?_);rintro e w2 ⟨rfl,hb2⟩;obtain⟨_,_,⟨hc2,hf2⟩,hz2⟩:=hb2.c3;(try simp only[wsz]at hz2 hc2 hf2))
  | (go_at_call 59;(with_reducible refine(hm _).mono ?_);rintro e w3 ⟨rfl,hb3⟩;obtain⟨_,_,⟨hc3,hf3⟩,hz3⟩:=hb3.c3;(try simp only[wsz]at hz3 hc3 hf3)))
 refine bodyPost_ret (v:=.agg #[O 325358913,O 325358914]) ?_ rfl ⟨rfl, ?_⟩
 ·simp[results,Tryz.results111,go_sem, ↓IntWalk.iteOmega, *]
 ·exact b_1
end Go.Proofs.YtaoioncjmfcolaaGreat
