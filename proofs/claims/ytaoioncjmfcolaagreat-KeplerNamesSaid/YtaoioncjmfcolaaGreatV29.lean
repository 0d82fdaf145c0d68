/- frac: Check. -/
import Derived.Test.YtaoioncjmfcolaaGreatV28
set_option linter.unusedSimpArgs false
set_option linter.unusedVariables false
set_option maxRecDepth 100000
set_option maxHeartbeats 4000000
namespace Go.Proofs.YtaoioncjmfcolaaGreat
open Go.RowKit
def Fq (w:World) (v:Value) (p q:Nat):Prop:=∃u s,v=.agg #[.bool false,u,.bool false,s]∧Lim w u (dig p)∧Lim w s (dig q)
theorem Fq.ext {a w:World} {v:Value} {p q:Nat} (h:Fq a v p q) (k:Ext a w):Fq w v p q:=by
 obtain⟨u,s,e,hu,hs⟩:=h;exact⟨u,s,e,hu.ext k,hs.ext k⟩
theorem small1:Small 1:=by unfold Small;decide
theorem w_fCheck (vf:Value) (p q:Nat) (w:World) (hf:Fq w vf p q) (hs:Small p) (hs2:Small q) (hq:0<q) (hg:Nat.gcd p q=1):
    K_ 51 #[vf] w fun e w'=>e=.returned (O 0)∧Ext w w':=by
 obtain⟨u,s,rfl,hu,hv⟩:=hf
 obtain⟨ao,b1,o1,cap1,rfl, -⟩:=hu.view
 obtain⟨bo,b2,o2,cap2,rfl, -⟩:=hv.view
 have hS1:=small1
 have hq0:decide (q=0)=false:=decide_eq_false (by omega)
 have hgc:=w_Gcd (.agg #[.bool false,.slice ao (dig p).length cap1]) (.agg #[.bool false,.slice bo (dig q).length cap2]) p q (w.alloc (.cells #[.bool false,.slice ao (dig p).length cap1,.bool false,.slice bo (dig q).length cap2] 26)) ⟨_,rfl,hu.ext ((Ext.refl w).alloc _)⟩ ⟨_,rfl,hv.ext ((Ext.refl w).alloc _)⟩ hs hs2
 rw[hg]at hgc
 go_enter Tryz.func51,Tryz.ntmps51
 go_upto_region 2 with(go_at_call 103;(with_reducible refine hgc.mono ?_);rintro e w1 ⟨y1,rfl,⟨y2,rfl,hgu⟩,hb⟩;obtain⟨ao3,b3,o3,cap3,rfl, -⟩:=hgu.view)
 refine wp_name fun W hW=> ?_
 have hWE:Ext w W:=Ext.same hW ((((Ext.refl w).alloc _).trans hb).alloc _)
 have hE0:Ext (w.alloc (.cells #[.bool false,.slice ao (dig p).length cap1,.bool false,.slice bo (dig q).length cap2] 26)) W:=Ext.same hW (hb.alloc _)
 have hB:w.heap.size<W.heap.size:=by have:=hE0.size;simp only[World.size_alloc]at this;omega
 have hG:w1.heap.size<W.heap.size:=by rw[hW.cells.2.2];simp
 have k2:W.cell? ⟨w.heap.size,2,none⟩=some (.bool false):=(hE0.cells.1 _ 2 (by simp)).trans c_47
 have k3:W.cell? ⟨w.heap.size,3,none⟩=some (.slice bo (dig q).length cap2):=(hE0.cells.1 _ 3 (by simp)).trans c_47
 have l0:W.cell? ⟨w1.heap.size,0,none⟩=some (.bool false):=by rw[hW.cells.1];simp[go_sem]
 have l1:W.cell? ⟨w1.heap.size,1,none⟩=some (.slice ao3 (dig 1).length cap3):=by rw[hW.cells.1];simp[go_sem]
 have nQ:Nn W (.agg #[.bool false,.slice bo (dig q).length cap2]) q:=⟨_,rfl,hv.ext hWE⟩
 have nG:Nn W (.agg #[.bool false,.slice ao3 (dig 1).length cap3]) 1:=⟨_,rfl,hgu.ext (Ext.same hW ((Ext.refl w1).alloc _))⟩
 clear hW hb hgc
 refine wp_region_held_drew (S:=(fun w0=>Ext W w0)) c_3 ?_ (fun hH=> ?_)
 ·exact(Ext.refl W).drew
 try simp only[sx_]
 refine sK 0 ?_
 refine sK 1 ?_
 refine sK 2 ?_
 refine sK 3 ?_
 refine sK 4 ?_
 refine tk 5 rfl c_15 ?_
 try simp only[sx_]
 refine sK 6 ?_
 refine sK 7 ?_
 refine sK 8 ?_
 refine tk 9 rfl c_15 ?_
 try simp only[sx_]
 refine rh1 10 rfl fun K hK=> ?_
 go_simp
 (go_at_call 104;(with_reducible refine(w_zero _ q _ (nQ.ext hH)).mono ?_);rintro e t0 ⟨rfl,hx0⟩;rw[hq0])
 refine hK.out _ _ ?_ fun _=> ?_
 ·(try dsimp only);exact hH.trans hx0
 clear hK K hH
 rename_i hH
 try simp only[sx_]
 refine sK 11 ?_
 refine sK 12 ?_
 refine tk 13 rfl c_15 ?_
 try simp only[sx_]
 refine rh1 14 rfl fun K hK=> ?_
 go_simp
 (go_at_call 106;(with_reducible refine(w_one _).mono ?_);rintro e t1 ⟨v1,rfl,hn1,hx1⟩;have hn1b:=hn1;obtain⟨v2,rfl,hv2⟩:=hn1b;obtain⟨ao4,b4,o4,cap4,rfl, -⟩:=hv2.view)
 refine hK.out _ _ ?_ fun _=> ?_
 ·(try dsimp only);exact hH.trans hx1
 clear hK K hH
 rename_i hH
 try simp only[sx_]
 refine rh1 15 rfl fun K hK=> ?_
 go_simp
 (go_at_call 105;(with_reducible refine(w_same _ _ 1 1 _ (nG.ext hH) hn1 hS1 hS1).mono ?_);rintro e t2 ⟨rfl,hx2⟩)
 refine hK.out _ _ ?_ fun _=> ?_
 ·(try dsimp only);exact hH.trans hx2
 clear hK K hH
 rename_i hH
 try simp only[sx_]
 refine sK 16 ?_
 refine sK 17 ?_
 refine wpAnyH_done c_3 ?_ _
 go_wp2_with fail
 go_ret
 exact⟨rfl,hWE.trans hH⟩
theorem w_reduce (va vb:Value) (m k:Nat) (w:World) (ha:Nn w va m) (hb0:Nn w vb k) (hs:Small m) (hs2:Small k) (hk0:0<k):
    K_ 188 #[va,vb] w fun e w'=>∃u,e=.returned u∧Fq w' u (m/Nat.gcd m k) (k/Nat.gcd m k)∧Ext w w':=by
 obtain⟨u,rfl,hu⟩:=ha
 obtain⟨s,rfl,hv⟩:=hb0
 obtain⟨ao,b1,o1,cap1,rfl, -⟩:=hu.view
 obtain⟨bo,b2,o2,cap2,rfl, -⟩:=hv.view
 obtain⟨g,hg⟩:∃g,Nat.gcd m k=g:=⟨_,rfl⟩
 have hg0:0<g:=hg▸Nat.gcd_pos_of_pos_right m hk0
 have hsg:Small g:=Nat.le_trans (dig_mono (hg▸Nat.gcd_le_right m hk0)) hs2
 have h1:=fun w1 (k1:Ext w w1)=>w_Gcd (.agg #[.bool false,.slice ao (dig m).length cap1]) (.agg #[.bool false,.slice bo (dig k).length cap2]) m k w1 ⟨_,rfl,hu.ext k1⟩ ⟨_,rfl,hv.ext k1⟩ hs hs2
 rw[hg]at h1 ⊢
 clear hg
 have h2:=fun w1 (k1:Ext w w1) vg (hn:Nn w1 vg g)=>w_DivMod (.agg #[.bool false,.slice ao (dig m).length cap1]) vg m g w1 ⟨_,rfl,hu.ext k1⟩ hn hs hg0 hsg
 have h3:=fun w1 (k1:Ext w w1) vg (hn:Nn w1 vg g)=>w_DivMod (.agg #[.bool false,.slice bo (dig k).length cap2]) vg k g w1 ⟨_,rfl,hv.ext k1⟩ hn hs2 hg0 hsg
 go_enter Tryz.func188,Tryz.ntmps188
 go_upto_region 6 with(first
  | (go_at_call 103;(with_reducible refine(h1 _ ex_).mono ?_);rintro e w1 ⟨y1,rfl,hng,hb1⟩;have hngb:=hng;obtain⟨y2,rfl,hgu⟩:=hngb;obtain⟨ao3,b3,o3,cap3,rfl, -⟩:=hgu.view;obtain⟨_,_,⟨hc1,hf1⟩,hz1⟩:=hb1.c3;(try simp only[wsz]at hz1 hc1 hf1))
  | (go_at_call 189;(with_reducible refine(w_must0 _ g _ hng).mono ?_);rintro e w2 ⟨rfl,hb2⟩;obtain⟨_,_,⟨hc2,hf2⟩,hz2⟩:=hb2.c3;(try simp only[wsz]at hz2 hc2 hf2);have hn2:Nn w2 (.agg #[.bool false,.slice ao3 (dig g).length cap3]) g:=hng.ext hb2)
  | (go_at_call 98;(with_reducible refine(h2 _ ex_ _ (hn2.ext ex_)).mono ?_);rintro e w3 ⟨y3,y4,rfl,⟨y5,rfl,hx⟩,⟨y6,rfl,hxr⟩,hb3⟩;obtain⟨ao5,b5,o5,cap5,rfl, -⟩:=hx.view;obtain⟨ao6,b6,o6,cap6,rfl, -⟩:=hxr.view;obtain⟨_,_,⟨hc3,hf3⟩,hz3⟩:=hb3.c3;(try simp only[wsz]at hz3 hc3 hf3);clear h2)
  | (go_at_call 98;(with_reducible refine(h3 _ ex_ _ (hn2.ext ex_)).mono ?_);rintro e w4 ⟨y7,y8,rfl,⟨y9,rfl,hy⟩,⟨y10,rfl,hyr⟩,hb4⟩;obtain⟨ao7,b7,o7,cap7,rfl, -⟩:=hy.view;obtain⟨ao8,b8,o8,cap8,rfl, -⟩:=hyr.view;obtain⟨_,_,⟨hc4,hf4⟩,hz4⟩:=hb4.c3;(try simp only[wsz]at hz4 hc4 hf4)))
 refine wp_name fun W hW=> ?_
 obtain⟨hWc,hWf,hWz⟩:=hW.cells
 have hWE:Ext w W:=Ext.same hW ex_
 have hA0:Ext (((w.alloc (.cells #[.bool false,.slice ao (dig m).length cap1] 24)).alloc (.cells #[.bool false,.slice bo (dig k).length cap2] 24)).alloc (.cells #[.bool false,.slice none 0 0,.bool false,.slice none 0 0] 26)) W:=Ext.same hW ex_
 have hnu:NoU W (w.heap.size+1+1):=by
  have:=(NoU.new ((w.alloc (.cells #[.bool false,.slice ao (dig m).length cap1] 24)).alloc (.cells #[.bool false,.slice bo (dig k).length cap2] 24)) #[.bool false,.slice none 0 0,.bool false,.slice none 0 0] 26 (noU4 (by simp) (by simp) (by simp) (by simp))).ext (by simp) hA0
  simpa using this
 have hxW:=hx.ext (Ext.same hW ex_:Ext w3 W)
 have hyW:=hy.ext (Ext.same hW ex_:Ext w4 W)
 clear hW
 go_wp2_with fail
 refine bodyPost_ret (v:=.agg #[.bool false,.slice ao5 (dig (m/g)).length cap5,.bool false,.slice ao7 (dig (k/g)).length cap7]) ?_ rfl ⟨_,rfl,⟨_,_,rfl, ?_, ?_⟩, ?_⟩
 ·simp[results,Tryz.results188,go_sem, ↓IntWalk.iteOmega, *]
 ·exact b_21
 ·exact b_22
 ·exact b_1
def Fs (w:World) (v:Value) (sa:Bool) (p q:Nat):Prop:=∃u s,v=.agg #[.bool sa,u,.bool false,s]∧Lim w u (dig p)∧Lim w s (dig q)
theorem Fs.ext {a w:World} {v:Value} {sa:Bool} {p q:Nat} (h:Fs a v sa p q) (k:Ext a w):Fs w v sa p q:=by
 obtain⟨u,s,e,hu,hs⟩:=h;exact⟨u,s,e,hu.ext k,hs.ext k⟩
def Fr (w:World) (v:Value) (x:Rat):Prop:=Fs w v (decide (x.num<0)) x.num.natAbs x.den
theorem Fr.ext {a w:World} {v:Value} {x:Rat} (h:Fr a v x) (k:Ext a w):Fr w v x:=Fs.ext h k
theorem Fr.num {w:World} {v:Value} {x:Rat} (h:Fr w v x):∃u s,v=.agg #[.bool (decide (x.num<0)),u,.bool false,s]∧Wid w (.agg #[.bool (decide (x.num<0)),u]) x.num∧Nn w (.agg #[.bool false,s]) x.den:=by
 obtain⟨u,s,e,hu,hs⟩:=h
 exact⟨u,s,e,⟨_,rfl,hu⟩,⟨_,rfl,hs⟩⟩
theorem fb_small {x:Rat} {b:Nat} (h:Fb x b) (hb:b≤131072):Small x.num.natAbs∧Small x.den:=⟨small_bits h.1 hb,small_bits h.2 hb⟩
theorem num_zero_neg {n:Int}:n.natAbs=0→decide (n<0)=false:=fun h=>decide_eq_false (by omega)
theorem z_fCheckS (vf:Value) (sa:Bool) (p q:Nat) (w:World) (hf:Fs w vf sa p q) (hz:p=0→sa=false) (hs:Small p) (hs2:Small q) (hq:0<q) (hg:Nat.gcd p q=1):
    K_ 51 #[vf] w fun e w'=>e=.returned (O 0)∧Ext w w':=by
 obtain⟨u,s,rfl,hu,hv⟩:=hf
 obtain⟨ao,b1,o1,cap1,rfl, -⟩:=hu.view
 obtain⟨bo,b2,o2,cap2,rfl, -⟩:=hv.view
 have hS1:=small1
 have hq0:decide (q=0)=false:=decide_eq_false (by omega)
 have hgc:=z_GcdS (.agg #[.bool sa,.slice ao (dig p).length cap1]) (.agg #[.bool false,.slice bo (dig q).length cap2]) sa p q (w.alloc (.cells #[.bool sa,.slice ao (dig p).length cap1,.bool false,.slice bo (dig q).length cap2] 26)) ⟨_,rfl,hu.ext ((Ext.refl w).alloc _)⟩ ⟨_,rfl,hv.ext ((Ext.refl w).alloc _)⟩ hs hs2 hz
 rw[hg]at hgc
 go_enter Tryz.func51,Tryz.ntmps51
 go_upto_region 2 with(go_at_call 103;(with_reducible refine hgc.mono ?_);rintro e w1 ⟨y1,rfl,⟨y2,rfl,hgu⟩,hb⟩;obtain⟨ao3,b3,o3,cap3,rfl, -⟩:=hgu.view)
 refine wp_name fun W hW=> ?_
 have hWE:Ext w W:=Ext.same hW ((((Ext.refl w).alloc _).trans hb).alloc _)
 have hE0:Ext (w.alloc (.cells #[.bool sa,.slice ao (dig p).length cap1,.bool false,.slice bo (dig q).length cap2] 26)) W:=Ext.same hW (hb.alloc _)
 have hB:w.heap.size<W.heap.size:=by have:=hE0.size;simp only[World.size_alloc]at this;omega
 have hG:w1.heap.size<W.heap.size:=by rw[hW.cells.2.2];simp
 have k2:W.cell? ⟨w.heap.size,2,none⟩=some (.bool false):=(hE0.cells.1 _ 2 (by simp)).trans c_47
 have k3:W.cell? ⟨w.heap.size,3,none⟩=some (.slice bo (dig q).length cap2):=(hE0.cells.1 _ 3 (by simp)).trans c_47
 have l0:W.cell? ⟨w1.heap.size,0,none⟩=some (.bool false):=by rw[hW.cells.1];simp[go_sem]
 have l1:W.cell? ⟨w1.heap.size,1,none⟩=some (.slice ao3 (dig 1).length cap3):=by rw[hW.cells.1];simp[go_sem]
 have nQ:Nn W (.agg #[.bool false,.slice bo (dig q).length cap2]) q:=⟨_,rfl,hv.ext hWE⟩
 have nG:Nn W (.agg #[.bool false,.slice ao3 (dig 1).length cap3]) 1:=⟨_,rfl,hgu.ext (Ext.same hW ((Ext.refl w1).alloc _))⟩
 clear hW hb hgc
 refine wp_region_held_drew (S:=(fun w0=>Ext W w0)) c_3 ?_ (fun hH=> ?_)
 ·exact(Ext.refl W).drew
 try simp only[sx_]
 refine sK 0 ?_
 refine sK 1 ?_
 refine sK 2 ?_
 refine sK 3 ?_
 refine sK 4 ?_
 refine tk 5 rfl c_15 ?_
 try simp only[sx_]
 refine sK 6 ?_
 refine sK 7 ?_
 refine sK 8 ?_
 refine tk 9 rfl c_15 ?_
 try simp only[sx_]
 refine rh1 10 rfl fun K hK=> ?_
 go_simp
 (go_at_call 104;(with_reducible refine(w_zero _ q _ (nQ.ext hH)).mono ?_);rintro e t0 ⟨rfl,hx0⟩;rw[hq0])
 refine hK.out _ _ ?_ fun _=> ?_
 ·(try dsimp only);exact hH.trans hx0
 clear hK K hH
 rename_i hH
 try simp only[sx_]
 refine sK 11 ?_
 refine sK 12 ?_
 refine tk 13 rfl c_15 ?_
 try simp only[sx_]
 refine rh1 14 rfl fun K hK=> ?_
 go_simp
 (go_at_call 106;(with_reducible refine(w_one _).mono ?_);rintro e t1 ⟨v1,rfl,hn1,hx1⟩;have hn1b:=hn1;obtain⟨v2,rfl,hv2⟩:=hn1b;obtain⟨ao4,b4,o4,cap4,rfl, -⟩:=hv2.view)
 refine hK.out _ _ ?_ fun _=> ?_
 ·(try dsimp only);exact hH.trans hx1
 clear hK K hH
 rename_i hH
 try simp only[sx_]
 refine rh1 15 rfl fun K hK=> ?_
 go_simp
 (go_at_call 105;(with_reducible refine(w_same _ _ 1 1 _ (nG.ext hH) hn1 hS1 hS1).mono ?_);rintro e t2 ⟨rfl,hx2⟩)
 refine hK.out _ _ ?_ fun _=> ?_
 ·(try dsimp only);exact hH.trans hx2
 clear hK K hH
 rename_i hH
 try simp only[sx_]
 refine sK 16 ?_
 refine sK 17 ?_
 refine wpAnyH_done c_3 ?_ _
 go_wp2_with fail
 go_ret
 exact⟨rfl,hWE.trans hH⟩
theorem z_fCheck (vf:Value) (x:Rat) (b:Nat) (w:World) (hf:Fr w vf x) (hx:Fb x b) (hb:b≤131072):
    K_ 51 #[vf] w fun e w'=>e=.returned (O 0)∧Ext w w':=
  z_fCheckS vf _ _ _ w hf num_zero_neg (fb_small hx hb).1 (fb_small hx hb).2 (den_pos' x) x.reduced
theorem z_reduce (va vb:Value) (n:Int) (k:Nat) (w:World) (ha:Wid w va n) (hb0:Nn w vb k) (hs:Sz n) (hs2:Small k) (hk0:0<k):
    K_ 188 #[va,vb] w fun e w'=>∃u,e=.returned u∧Fr w' u (mkRat n k)∧Ext w w':=by
 have ha0:=ha
 have hb00:=hb0
 obtain⟨u,rfl,hu⟩:=ha
 obtain⟨s,rfl,hv⟩:=hb0
 obtain⟨sa,hsa⟩:∃sa,decide (n<0)=sa:=⟨_,rfl⟩
 obtain⟨m,hm⟩:∃m,n.natAbs=m:=⟨_,rfl⟩
 rw[hsa]at ha0
 rw[hm]at hu
 rw[hsa]
 obtain⟨ao,b1,o1,cap1,rfl, -⟩:=hu.view
 obtain⟨bo,b2,o2,cap2,rfl, -⟩:=hv.view
 obtain⟨g,hg⟩:∃g,Nat.gcd n.natAbs k=g:=⟨_,rfl⟩
 have hg0:0<g:=hg▸Nat.gcd_pos_of_pos_right _ hk0
 have hsg:Small g:=Nat.le_trans (dig_mono (hg▸Nat.gcd_le_right _ hk0)) hs2
 have h1:=fun w1 (k1:Ext w w1)=>z_Gcd (.agg #[.bool sa,.slice ao (dig m).length cap1]) (.agg #[.bool false,.slice bo (dig k).length cap2]) n k w1 (ha0.ext k1) (hb00.ext k1) hs hs2
 obtain⟨e1,e2⟩:=mk_parts n hk0
 rw[hg]at h1 e1 e2
 have h2:=fun w1 (k1:Ext w w1) vg (hn:Nn w1 vg g)=>z_DivMod (.agg #[.bool sa,.slice ao (dig m).length cap1]) vg n g w1 (ha0.ext k1) hn hs hg0 hsg
 have h3:=fun w1 (k1:Ext w w1) vg (hn:Nn w1 vg g)=>w_DivMod (.agg #[.bool false,.slice bo (dig k).length cap2]) vg k g w1 (hb00.ext k1) hn hs2 hg0 hsg
 rw[show n/(g:Int)=(mkRat n k).num from e1.symm]at h2
 rw[show k/g=(mkRat n k).den from e2.symm]at h3
 obtain⟨X,hX⟩:∃X,mkRat n k=X:=⟨_,rfl⟩
 rw[hX]at h2 h3 ⊢
 have hX0:X.num.natAbs=0→decide (X.num<0)=false:=num_zero_neg
 obtain⟨sx,hsx⟩:∃sx,decide (X.num<0)=sx:=⟨_,rfl⟩
 obtain⟨P,hP⟩:∃P,X.num.natAbs=P:=⟨_,rfl⟩
 obtain⟨Q,hQ⟩:∃Q,X.den=Q:=⟨_,rfl⟩
 unfold Wid Fr at*
 rw[hsx,hP]at h2
 rw[hsx,hP,hQ]
 rw[hQ]at h3
 clear hX hg e1 e2 hX0 hsx hP hQ hsa hm ha0 hb00
 go_enter Tryz.func188,Tryz.ntmps188
 go_upto_region 6 with(first
  | (go_at_call 103;(with_reducible refine(h1 _ ex_).mono ?_);rintro e w1 ⟨y1,rfl,hng,hb1⟩;have hngb:=hng;obtain⟨y2,rfl,hgu⟩:=hngb;obtain⟨ao3,b3,o3,cap3,rfl, -⟩:=hgu.view;obtain⟨_,_,⟨hc1,hf1⟩,hz1⟩:=hb1.c3;(try simp only[wsz]at hz1 hc1 hf1))
  | (go_at_call 189;(with_reducible refine(w_must0 _ g _ hng).mono ?_);rintro e w2 ⟨rfl,hb2⟩;obtain⟨_,_,⟨hc2,hf2⟩,hz2⟩:=hb2.c3;(try simp only[wsz]at hz2 hc2 hf2);have hn2:Nn w2 (.agg #[.bool false,.slice ao3 (dig g).length cap3]) g:=hng.ext hb2)
  | (go_at_call 98;(with_reducible refine(h2 _ ex_ _ (hn2.ext ex_)).mono ?_);rintro e w3 ⟨y3,y4,rfl,⟨y5,rfl,hx⟩,⟨y6,rfl,hxr⟩,hb3⟩;obtain⟨ao5,b5,o5,cap5,rfl, -⟩:=hx.view;obtain⟨ao6,b6,o6,cap6,rfl, -⟩:=hxr.view;obtain⟨_,_,⟨hc3,hf3⟩,hz3⟩:=hb3.c3;(try simp only[wsz]at hz3 hc3 hf3);clear h2)
  | (go_at_call 98;(with_reducible refine(h3 _ ex_ _ (hn2.ext ex_)).mono ?_);rintro e w4 ⟨y7,y8,rfl,⟨y9,rfl,hy⟩,⟨y10,rfl,hyr⟩,hb4⟩;obtain⟨ao7,b7,o7,cap7,rfl, -⟩:=hy.view;obtain⟨ao8,b8,o8,cap8,rfl, -⟩:=hyr.view;obtain⟨_,_,⟨hc4,hf4⟩,hz4⟩:=hb4.c3;(try simp only[wsz]at hz4 hc4 hf4)))
 refine wp_name fun W hW=> ?_
 obtain⟨hWc,hWf,hWz⟩:=hW.cells
 have hWE:Ext w W:=Ext.same hW ex_
 have hA0:Ext (((w.alloc (.cells #[.bool sa,.slice ao (dig m).length cap1] 24)).alloc (.cells #[.bool false,.slice bo (dig k).length cap2] 24)).alloc (.cells #[.bool false,.slice none 0 0,.bool false,.slice none 0 0] 26)) W:=Ext.same hW ex_
 have hnu:NoU W (w.heap.size+1+1):=by
  have:=(NoU.new ((w.alloc (.cells #[.bool sa,.slice ao (dig m).length cap1] 24)).alloc (.cells #[.bool false,.slice bo (dig k).length cap2] 24)) #[.bool false,.slice none 0 0,.bool false,.slice none 0 0] 26 (noU4 (by simp) (by simp) (by simp) (by simp))).ext (by simp) hA0
  simpa using this
 have hxW:=hx.ext (Ext.same hW ex_:Ext w3 W)
 have hyW:=hy.ext (Ext.same hW ex_:Ext w4 W)
 clear hW
 go_wp2_with fail
 refine bodyPost_ret (v:=.agg #[.bool sx,.slice ao5 (dig P).length cap5,.bool false,.slice ao7 (dig Q).length cap7]) ?_ rfl ⟨_,rfl,⟨_,_,rfl, ?_, ?_⟩, ?_⟩
 ·simp[results,Tryz.results188,go_sem, ↓IntWalk.iteOmega, *]
 ·exact b_21
 ·exact b_22
 ·exact b_1
theorem w_catch (p:Value) (w:World):
    CallsD Tryz.prog 186 #[p] .returning w fun e u' w'=>e=.returned (.tuple #[])∧u'=.returning∧w'=w:=by
 refine callsD_of_wpS Tryz.func186 rfl fun c₀ cs hu=> ?_
 apply wpS_seq
 apply wpS_region
 simp[wpOpsS,go_sem,recoverD,hu,Tryz.ntmps186,Exit.thenS]
 refine wpS_of_wp ?_
 go_wp2
 cases c₀
 simp_all [bodyPostS,results,Tryz.results186]
theorem w_Make (va vb:Value) (m k:Nat) (w:World) (ha:Nn w va m) (hb0:Nn w vb k) (hs:Small m) (hs2:Small k) (hk0:0<k):
    K_ 172 #[va,vb] w fun e w'=>∃u,e=.returned (.tuple #[u,O 0])∧Fq w' u (m/Nat.gcd m k) (k/Nat.gcd m k)∧Ext w w':=by
 obtain⟨u,rfl,hu⟩:=ha
 obtain⟨s,rfl,hv⟩:=hb0
 obtain⟨ao,b1,o1,cap1,rfl, -⟩:=hu.view
 obtain⟨bo,b2,o2,cap2,rfl, -⟩:=hv.view
 have hz0:decide (k=0)=false:=decide_eq_false (by omega)
 have h1:=fun w1 (k1:Ext w w1)=>w_Check (.agg #[.bool false,.slice ao (dig m).length cap1]) m w1 ⟨_,rfl,hu.ext k1⟩ hs
 have h2:=fun w1 (k1:Ext w w1)=>w_Check (.agg #[.bool false,.slice bo (dig k).length cap2]) k w1 ⟨_,rfl,hv.ext k1⟩ hs2
 have h3:=fun w1 (k1:Ext w w1)=>w_zero (.agg #[.bool false,.slice bo (dig k).length cap2]) k w1 ⟨_,rfl,hv.ext k1⟩
 rw[hz0]at h3
 have h4:=fun w1 (k1:Ext w w1)=>w_reduce (.agg #[.bool false,.slice ao (dig m).length cap1]) (.agg #[.bool false,.slice bo (dig k).length cap2]) m k w1 ⟨_,rfl,hu.ext k1⟩ ⟨_,rfl,hv.ext k1⟩ hs hs2 hk0
 generalize m/Nat.gcd m k=m1 at*
 generalize k/Nat.gcd m k=k1 at*
 go_enter_defers Tryz.func172,Tryz.ntmps172
 go_upto_region 6 with(first
  | (go_at_call 72;(with_reducible refine(h1 _ ex_).mono ?_);rintro e w1 ⟨rfl,hb1⟩;obtain⟨_,_,⟨hc1,hf1⟩,hz1⟩:=hb1.c3;(try simp only[wsz]at hz1 hc1 hf1);clear h1)
  | (go_at_call 72;(with_reducible refine(h2 _ ex_).mono ?_);rintro e w2 ⟨rfl,hb2⟩;obtain⟨_,_,⟨hc2,hf2⟩,hz2⟩:=hb2.c3;(try simp only[wsz]at hz2 hc2 hf2);clear h2)
  | (go_at_call 187;(with_reducible refine(w_want0 _).mono ?_);rintro e w9 ⟨rfl,rfl⟩)
  | (go_at_call 104;(with_reducible refine(h3 _ ex_).mono ?_);rintro e w3 ⟨rfl,hb3⟩;obtain⟨_,_,⟨hc3,hf3⟩,hz3⟩:=hb3.c3;(try simp only[wsz]at hz3 hc3 hf3);clear h3))
 have hA0:Ext ((((w.alloc (.cells #[.bool false,.slice ao (dig m).length cap1] 24)).alloc (.cells #[.bool false,.slice bo (dig k).length cap2] 24)).alloc (.cells #[.bool false,.slice none 0 0,.bool false,.slice none 0 0] 26)).alloc (.cells #[O 0] 34)) w3:=ex_
 have hnu:NoU w3 (w.heap.size+1+1):=by
  have:=((NoU.new ((w.alloc (.cells #[.bool false,.slice ao (dig m).length cap1] 24)).alloc (.cells #[.bool false,.slice bo (dig k).length cap2] 24)) #[.bool false,.slice none 0 0,.bool false,.slice none 0 0] 26 (noU4 (by simp) (by simp) (by simp) (by simp))).alloc (by simp) #[O 0] 34).ext (by simp) hA0
  simpa using this
 have hnv:NoU w3 (w.heap.size+1+1+1):=by
  have:=(NoU.new (((w.alloc (.cells #[.bool false,.slice ao (dig m).length cap1] 24)).alloc (.cells #[.bool false,.slice bo (dig k).length cap2] 24)).alloc (.cells #[.bool false,.slice none 0 0,.bool false,.slice none 0 0] 26)) #[O 0] 34 (noU1 (by simp))).ext (by simp) hA0
  simpa using this
 have hsz3:w.heap.size+1+1+1<w3.heap.size:=by have:=hA0.size;simp only[World.size_alloc]at this;omega
 go_wp2_with (go_at_call 188;(with_reducible refine(h4 _ ex_).mono ?_);rintro e w4 ⟨y4,rfl,⟨y5,y6,rfl,hx,hy⟩,hb4⟩;obtain⟨ao5,b5,o5,cap5,rfl, -⟩:=hx.view;obtain⟨ao7,b7,o7,cap7,rfl, -⟩:=hy.view;obtain⟨_,_,⟨hc4,hf4⟩,hz4⟩:=hb4.c3;(try simp only[wsz]at hz4 hc4 hf4);replace hnu:=hnu.ext (by omega) hb4;replace hnv:=hnv.ext (by omega) hb4)
 refine leaves_cons (f:=186) (args:=#[.pointer (some ⟨w.heap.size+1+1+1,0,none⟩)]) (by simp) c_47 ?_
 refine(w_catch _ _).mono ?_
 rintro e u' w'' ⟨rfl,rfl,rfl⟩
 refine⟨.tuple #[.agg #[.bool false,.slice ao5 (dig m1).length cap5,.bool false,.slice ao7 (dig k1).length cap7],O 0], ?_,_,rfl,⟨_,_,rfl, ?_, ?_⟩, ?_⟩
 ·simp[results,Tryz.results172,go_sem, ↓IntWalk.iteOmega, *]
 ·exact b_23
 ·exact b_24
 ·exact b_1
theorem w_Of (n d:Nat) (w:World) (hn:n<9223372036854775808) (hd:d<9223372036854775808) (h0:0<d):
    K_ 152 #[O n,O d] w fun e w'=>∃u,e=.returned (.tuple #[u,O 0])∧Fq w' u (n/Nat.gcd n d) (d/Nat.gcd n d)∧Ext w w':=by
 have h1:=fun w1 va vb (ha:Nn w1 va n) (hb:Nn w1 vb d)=>w_Make va vb n d w1 ha hb (dig_len2 hn) (dig_len2 hd) h0
 generalize n/Nat.gcd n d=m1 at*
 generalize d/Nat.gcd n d=k1 at*
 go_enter Tryz.func152,Tryz.ntmps152
 go_wp2_with (first
  | (go_at_call 34;(with_reducible refine(w_From n _ hn).mono ?_);rintro e w1 ⟨y1,rfl,hn1,hb1⟩;obtain⟨_,_,⟨hc1,hf1⟩,hz1⟩:=hb1.c3;(try simp only[wsz]at hz1 hc1 hf1))
  | (go_at_call 34;(with_reducible refine(w_From d _ hd).mono ?_);rintro e w2 ⟨y2,rfl,hn2,hb2⟩;obtain⟨_,_,⟨hc2,hf2⟩,hz2⟩:=hb2.c3;(try simp only[wsz]at hz2 hc2 hf2);replace hn1:=hn1.ext hb2)
  | (go_at_call 172;(with_reducible refine(h1 _ _ _ hn1 hn2).mono ?_);rintro e w3 ⟨y3,rfl,⟨y4,y5,rfl,hx,hy⟩,hb3⟩;obtain⟨ao5,b5,o5,cap5,rfl, -⟩:=hx.view;obtain⟨ao7,b7,o7,cap7,rfl, -⟩:=hy.view;obtain⟨_,_,⟨hc3,hf3⟩,hz3⟩:=hb3.c3;(try simp only[wsz]at hz3 hc3 hf3)))
 have hnu:NoU w3 w.heap.size:=(NoU.new w _ _ (noU4 (by simp) (by simp) (by simp) (by simp))).ext (by simp) (ex_:Ext (w.alloc (.cells #[.bool false,.slice none 0 0,.bool false,.slice none 0 0] 26)) w3)
 refine bodyPost_ret (v:=.tuple #[.agg #[.bool false,.slice ao5 (dig m1).length cap5,.bool false,.slice ao7 (dig k1).length cap7],O 0]) ?_ rfl ⟨_,rfl,⟨_,_,rfl, ?_, ?_⟩, ?_⟩
 ·simp[results,Tryz.results152,go_sem, ↓IntWalk.iteOmega, *]
 ·exact b_25
 ·exact b_26
 ·exact b_1
theorem z_Check (v:Value) (n:Int) (w:World) (h:Wid w v n) (hs:Sz n):
    K_ 72 #[v] w fun e w'=>e=.returned (O 0)∧Ext w w':=by
 obtain⟨u,rfl,hu⟩:=h
 have hz:n.natAbs=0→decide (n<0)=false:=num_zero_neg
 obtain⟨sa,hsa⟩:∃sa,decide (n<0)=sa:=⟨_,rfl⟩
 rw[hsa]at hz ⊢
 obtain⟨ao,b1,o1,cap1,rfl,v1,v2,v3,v4,v5,v6⟩:=hu.view
 have hk:=z_check_one (w.alloc (.cells #[.bool sa,.slice ao (dig n.natAbs).length cap1] 24)) _ sa n.natAbs (hu.alloc _) hs hz
 rw[World.size_alloc]at hk
 clear v1 v4 v5 hu hz
 go_enter Tryz.func72,Tryz.ntmps72
 go_wp2_with (go_at_call 77;(with_reducible refine hk.mono ?_);rintro e w1 ⟨rfl,hb⟩;obtain⟨_,_,⟨hc,hf⟩,hz⟩:=hb.c3;(try simp only[wsz]at hz hc hf))
 go_ret
 exact⟨rfl,ex_⟩
theorem z_Make (va vb:Value) (n:Int) (k:Nat) (w:World) (ha:Wid w va n) (hb0:Nn w vb k) (hs:Sz n) (hs2:Small k) (hk0:0<k):
    K_ 172 #[va,vb] w fun e w'=>∃u,e=.returned (.tuple #[u,O 0])∧Fr w' u (mkRat n k)∧Ext w w':=by
 have ha0:=ha
 have hb00:=hb0
 obtain⟨u,rfl,hu⟩:=ha
 obtain⟨s,rfl,hv⟩:=hb0
 obtain⟨sa,hsa⟩:∃sa,decide (n<0)=sa:=⟨_,rfl⟩
 obtain⟨m,hm⟩:∃m,n.natAbs=m:=⟨_,rfl⟩
 rw[hsa]at ha0
 rw[hm]at hu
 rw[hsa]
 obtain⟨ao,b1,o1,cap1,rfl, -⟩:=hu.view
 obtain⟨bo,b2,o2,cap2,rfl, -⟩:=hv.view
 have hz0:decide (k=0)=false:=decide_eq_false (by omega)
 have h1:=fun w1 (k1:Ext w w1)=>z_Check (.agg #[.bool sa,.slice ao (dig m).length cap1]) n w1 (ha0.ext k1) hs
 have h2:=fun w1 (k1:Ext w w1)=>w_Check (.agg #[.bool false,.slice bo (dig k).length cap2]) k w1 (hb00.ext k1) hs2
 have h3:=fun w1 (k1:Ext w w1)=>w_zero (.agg #[.bool false,.slice bo (dig k).length cap2]) k w1 (hb00.ext k1)
 rw[hz0]at h3
 have h4:=fun w1 (k1:Ext w w1)=>z_reduce (.agg #[.bool sa,.slice ao (dig m).length cap1]) (.agg #[.bool false,.slice bo (dig k).length cap2]) n k w1 (ha0.ext k1) (hb00.ext k1) hs hs2 hk0
 obtain⟨X,hX⟩:∃X,mkRat n k=X:=⟨_,rfl⟩
 rw[hX]at h4 ⊢
 obtain⟨sx,hsx⟩:∃sx,decide (X.num<0)=sx:=⟨_,rfl⟩
 obtain⟨P,hP⟩:∃P,X.num.natAbs=P:=⟨_,rfl⟩
 obtain⟨Q,hQ⟩:∃Q,X.den=Q:=⟨_,rfl⟩
 unfold Fr at*
 rw[hsx,hP,hQ]at h4 ⊢
 clear hX hsx hP hQ hsa hm ha0 hb00 hz0
 go_enter_defers Tryz.func172,Tryz.ntmps172
 go_upto_region 6 with(first
  | (go_at_call 72;(with_reducible refine(h1 _ ex_).mono ?_);rintro e w1 ⟨rfl,hb1⟩;obtain⟨_,_,⟨hc1,hf1⟩,hz1⟩:=hb1.c3;(try simp only[wsz]at hz1 hc1 hf1);clear h1)
  | (go_at_call 72;(with_reducible refine(h2 _ ex_).mono ?_);rintro e w2 ⟨rfl,hb2⟩;obtain⟨_,_,⟨hc2,hf2⟩,hz2⟩:=hb2.c3;(try simp only[wsz]at hz2 hc2 hf2);clear h2)
  | (go_at_call 187;(with_reducible refine(w_want0 _).mono ?_);rintro e w9 ⟨rfl,rfl⟩)
  | (go_at_call 104;(with_reducible refine(h3 _ ex_).mono ?_);rintro e w3 ⟨rfl,hb3⟩;obtain⟨_,_,⟨hc3,hf3⟩,hz3⟩:=hb3.c3;(try simp only[wsz]at hz3 hc3 hf3);clear h3))
 have hA0:Ext ((((w.alloc (.cells #[.bool sa,.slice ao (dig m).length cap1] 24)).alloc (.cells #[.bool false,.slice bo (dig k).length cap2] 24)).alloc (.cells #[.bool false,.slice none 0 0,.bool false,.slice none 0 0] 26)).alloc (.cells #[O 0] 34)) w3:=ex_
 have hnu:NoU w3 (w.heap.size+1+1):=by
  have:=((NoU.new ((w.alloc (.cells #[.bool sa,.slice ao (dig m).length cap1] 24)).alloc (.cells #[.bool false,.slice bo (dig k).length cap2] 24)) #[.bool false,.slice none 0 0,.bool false,.slice none 0 0] 26 (noU4 (by simp) (by simp) (by simp) (by simp))).alloc (by simp) #[O 0] 34).ext (by simp) hA0
  simpa using this
 have hnv:NoU w3 (w.heap.size+1+1+1):=by
  have:=(NoU.new (((w.alloc (.cells #[.bool sa,.slice ao (dig m).length cap1] 24)).alloc (.cells #[.bool false,.slice bo (dig k).length cap2] 24)).alloc (.cells #[.bool false,.slice none 0 0,.bool false,.slice none 0 0] 26)) #[O 0] 34 (noU1 (by simp))).ext (by simp) hA0
  simpa using this
 have hsz3:w.heap.size+1+1+1<w3.heap.size:=by have:=hA0.size;simp only[World.size_alloc]at this;omega
 go_wp2_with (go_at_call 188;(with_reducible refine(h4 _ ex_).mono ?_);rintro e w4 ⟨y4,rfl,⟨y5,y6,rfl,hx,hy⟩,hb4⟩;obtain⟨ao5,b5,o5,cap5,rfl, -⟩:=hx.view;obtain⟨ao7,b7,o7,cap7,rfl, -⟩:=hy.view;obtain⟨_,_,⟨hc4,hf4⟩,hz4⟩:=hb4.c3;(try simp only[wsz]at hz4 hc4 hf4);replace hnu:=hnu.ext (by omega) hb4;replace hnv:=hnv.ext (by omega) hb4)
 refine leaves_cons (f:=186) (args:=#[.pointer (some ⟨w.heap.size+1+1+1,0,none⟩)]) (by simp) c_47 ?_
 refine(w_catch _ _).mono ?_
 rintro e u' w'' ⟨rfl,rfl,rfl⟩
 refine⟨.tuple #[.agg #[.bool sx,.slice ao5 (dig P).length cap5,.bool false,.slice ao7 (dig Q).length cap7],O 0], ?_,_,rfl,⟨_,_,rfl, ?_, ?_⟩, ?_⟩
 ·simp[results,Tryz.results172,go_sem, ↓IntWalk.iteOmega, *]
 ·exact b_23
 ·exact b_24
 ·exact b_1
theorem z_Of (n:Int) (d:Nat) (w:World) (hn: -9223372036854775808≤n) (hn2:n≤9223372036854775807) (hd:d<9223372036854775808) (h0:0<d):
    K_ 152 #[O n,O d] w fun e w'=>∃u,e=.returned (.tuple #[u,O 0])∧Fr w' u (mkRat n d)∧Ext w w':=by
 have hsn:Sz n:=dig_bits (k:=64) (L:=4096) (by omega) (by decide)
 have h1:=fun w1 va vb (ha:Wid w1 va n) (hb:Nn w1 vb d)=>z_Make va vb n d w1 ha hb hsn (dig_len2 hd) h0
 have hf:=fun w1=>z_From n w1 hn hn2
 obtain⟨X,hX⟩:∃X,mkRat n d=X:=⟨_,rfl⟩
 rw[hX]at h1 ⊢
 obtain⟨sx,hsx⟩:∃sx,decide (X.num<0)=sx:=⟨_,rfl⟩
 obtain⟨P,hP⟩:∃P,X.num.natAbs=P:=⟨_,rfl⟩
 obtain⟨Q,hQ⟩:∃Q,X.den=Q:=⟨_,rfl⟩
 unfold Fr at*
 rw[hsx,hP,hQ]at h1 ⊢
 clear hX hsx hP hQ hsn
 go_enter Tryz.func152,Tryz.ntmps152
 go_wp2_with (first
  | (go_at_call 34;(with_reducible refine(hf _).mono ?_);rintro e w1 ⟨y1,rfl,hn1,hb1⟩;obtain⟨_,_,⟨hc1,hf1⟩,hz1⟩:=hb1.c3;(try simp only[wsz]at hz1 hc1 hf1))
  | (go_at_call 34;(with_reducible refine(w_From d _ hd).mono ?_);rintro e w2 ⟨y2,rfl,hn2,hb2⟩;obtain⟨_,_,⟨hc2,hf2⟩,hz2⟩:=hb2.c3;(try simp only[wsz]at hz2 hc2 hf2);replace hn1:=hn1.ext hb2)
  | (go_at_call 172;(with_reducible refine(h1 _ _ _ hn1 hn2).mono ?_);rintro e w3 ⟨y3,rfl,⟨y4,y5,rfl,hx,hy⟩,hb3⟩;obtain⟨ao5,b5,o5,cap5,rfl, -⟩:=hx.view;obtain⟨ao7,b7,o7,cap7,rfl, -⟩:=hy.view;obtain⟨_,_,⟨hc3,hf3⟩,hz3⟩:=hb3.c3;(try simp only[wsz]at hz3 hc3 hf3)))
 have hnu:NoU w3 w.heap.size:=(NoU.new w _ _ (noU4 (by simp) (by simp) (by simp) (by simp))).ext (by simp) (ex_:Ext (w.alloc (.cells #[.bool false,.slice none 0 0,.bool false,.slice none 0 0] 26)) w3)
 refine bodyPost_ret (v:=.tuple #[.agg #[.bool sx,.slice ao5 (dig P).length cap5,.bool false,.slice ao7 (dig Q).length cap7],O 0]) ?_ rfl ⟨_,rfl,⟨_,_,rfl, ?_, ?_⟩, ?_⟩
 ·simp[results,Tryz.results152,go_sem, ↓IntWalk.iteOmega, *]
 ·exact b_25
 ·exact b_26
 ·exact b_1
theorem s_Of (vf:Value) (P D n r1 lo1:Nat) (w:World) (hf:Fq w vf P D) (hP:P<9223372036854775808) (hD:D<4611686018427387904) (hD0:0<D) (hg:Nat.gcd P D=1) (hn:P/D=n) (hn2:n≤1000) (hr:ofF D 40 (P%D) (n*1099511627776)=(r1,lo1)) (hr1:0<r1) (hr2:r1<9223372036854775808) (hl1:lo1≤2000000000000000):
    K_ 46 #[vf] w fun e w'=>e=.returned (.tuple #[.agg #[O lo1,O ((lo1:Int)+1)],O 0])∧Ext w w':=by
 have sP:Small P:=dig_len2 hP
 have sD:Small D:=dig_len2 (by omega)
 have hck:=fun w1 (k1:Ext w w1)=>w_fCheck vf P D w1 (hf.ext k1) sP sD hD0 hg
 obtain⟨u,s,rfl,hu,hs⟩:=hf
 obtain⟨ao,b1,o1,cap1,rfl, -⟩:=hu.view
 obtain⟨bo,b2,o2,cap2,rfl, -⟩:=hs.view
 have hdm:=fun w1 (k1:Ext w w1)=>w_DivMod (.agg #[.bool false,.slice ao (dig P).length cap1]) (.agg #[.bool false,.slice bo (dig D).length cap2]) P D w1 ⟨_,rfl,hu.ext k1⟩ ⟨_,rfl,hs.ext k1⟩ sP hD0 sD
 rw[hn]at hdm
 have hnD:∀w1,Ext w w1→Nn w1 (.agg #[.bool false,.slice bo (dig D).length cap2]) D:=fun w1 k1=>⟨_,rfl,hs.ext k1⟩
 have hin:=fun v w1 (h:Nn w1 v n)=>z_Int v n w1 h.wid (by omega) (by omega)
 have hr0:P%D<D:=Nat.mod_lt _ hD0
 generalize P%D=r0 at hdm hr hr0
 have hmd:∀w1,K_ 92 #[O lo1,O ((lo1:Int)+1)] w1 fun e w'=>e=.returned (.tuple #[.agg #[O lo1,O ((lo1:Int)+1)],O 0])∧Ext w1 w':=fun w1=>by
  have:=span_made lo1 ((lo1:Int)+1) w1
  have e:madeI (lo1:Int) ((lo1:Int)+1)=⟨lo1,(lo1:Int)+1,0⟩:=by unfold madeI;rw[if_neg (by omega)]
  rw[e]at this;exact this
 have hnI:(n:Int)≤1000:=by omega
 have hlI:(lo1:Int)≤2000000000000000:=by omega
 have hr1p:=dig_pos.2 hr1
 have hr1I:decide ((0:Int)<((dig r1).length:Int))=true:=decide_eq_true (by omega)
 have hr1N:decide (0<(dig r1).length)=true:=decide_eq_true hr1p
 clear hu hs hn
 go_enter Tryz.func46,Tryz.ntmps46
 go_wp2_with (first
  | (go_at_call 51;(with_reducible refine(hck _ ex_).mono ?_);rintro e w1 ⟨rfl,hb1⟩;obtain⟨_,_,⟨hc1,hf1⟩,hz1⟩:=hb1.c3;(try simp only[wsz]at hz1 hc1 hf1);clear hck)
  | (go_at_call 98;(with_reducible refine(hdm _ ex_).mono ?_);rintro e w2 ⟨y1,y2,rfl,hy1,hy2,hb2⟩;obtain⟨ao3,cap3,rfl,hy3⟩:=hy1.open;obtain⟨ao4,cap4,rfl,hy4⟩:=hy2.open;obtain⟨_,_,⟨hc2,hf2⟩,hz2⟩:=hb2.c3;(try simp only[wsz]at hz2 hc2 hf2);clear hdm)
  | (go_at_call 99;(with_reducible refine(hin _ _ (hy3.ext ex_)).mono ?_);rintro e w3 ⟨rfl,hb3⟩;obtain⟨_,_,⟨hc3,hf3⟩,hz3⟩:=hb3.c3;(try simp only[wsz]at hz3 hc3 hf3);clear hin))
 have hWT0:WAt w3 (w2.heap.size+1) (r0:Int):=by
  have h:=(WAt.lit (w:=w2.alloc (.cells #[.bool false,.slice ao3 (dig n).length cap3] 24)) (hy4.wid.ext ((Ext.refl w2).alloc (.cells #[.bool false,.slice ao3 (dig n).length cap3] 24)))).ext hb3
  simpa using h
 have hE2:Ext ((w.alloc (.cells #[.bool false,.slice ao (dig P).length cap1,.bool false,.slice bo (dig D).length cap2] 26)).alloc (.cells #[O 0,O 0] 30)) w2:=ex_
 have hE0:Ext ((w.alloc (.cells #[.bool false,.slice ao (dig P).length cap1,.bool false,.slice bo (dig D).length cap2] 26)).alloc (.cells #[O 0,O 0] 30)) w3:=Ext.trans hE2 (Ext.trans (((Ext.refl w2).alloc _).alloc _) hb3)
 have f2:w3.cell? ⟨w.heap.size,2,none⟩=some (.bool false):=(hE0.cells.1 _ 2 c_26).trans c_12
 have f3:w3.cell? ⟨w.heap.size,3,none⟩=some (.slice bo (dig D).length cap2):=(hE0.cells.1 _ 3 c_26).trans c_12
 have e0:w3.cell? ⟨w.heap.size+1,0,none⟩=some (O 0):=(hE0.cells.1 _ 0 (by simp)).trans c_12
 have e1:w3.cell? ⟨w.heap.size+1,1,none⟩=some (O 0):=(hE0.cells.1 _ 1 (by simp)).trans c_12
 have e2:∀o,w3.frozen? ⟨w.heap.size+1,o,none⟩=false:=fun o=>(hE0.cells.2 _ o (by simp)).trans c_12
 have hEw:Ext w w3:=Ext.trans (((Ext.refl w).alloc _).alloc _) hE0
 have hs2:=hE2.size
 have hs3:=hb3.size
 simp only[World.size_alloc]at hs2 hs3
 have hnT:=hWT0.noU
 obtain⟨T,hT⟩:∃T,w2.heap.size+1=T:=⟨_,rfl⟩
 rw[hT]at hWT0 hnT ⊢
 have hTw:w.heap.size+1<T:=by omega
 have hT3:T<w3.heap.size:=by omega
 clear hE2 hE0 hT hs2 hs3 hy1 hy2 hy3 hy4 hb1 hb2 hb3 hc1 hc2 hc3 hf1 hf2 hf3 hz1 hz2 hz3
 go_loopw [10,11] (fun a b wr=>∃k r lo:Nat,a=O (lo:Int)∧b=O ((k:Int)-1)∧Hid (ofF D k r lo=(r1,lo1))∧r<D∧Hid (k≤40∧lo+2^k≤1100611139403776)∧Hid (WAt wr T (r:Int))∧Hid (GB T w3 wr)) (fun _ b _=>(intOf b+1).toNat)
 case atStart=>exact⟨40,r0,n*1099511627776,by go_num,rfl,hr,hr0,⟨by omega,by omega⟩,hWT0,GB.refl _ _⟩
 case round=>
  obtain⟨k',r,lo,rfl,rfl,hA,hrD,hlo,hWT,hG⟩:=hrel
  clear hWT0 hr hr0
  obtain⟨hk40,hlo⟩:=hlo.out
  have hGs:=hG.out.size
  have g0:=(hG.out.cell (o:=0) (show w.heap.size+1<w3.heap.size by omega) (by omega)).trans e0
  have g1:=(hG.out.cell (o:=1) (show w.heap.size+1<w3.heap.size by omega) (by omega)).trans e1
  have g2:∀o,wr.frozen? ⟨w.heap.size+1,o,none⟩=false:=fun o=>(hG.out.frozen (o:=o) (show w.heap.size+1<w3.heap.size by omega) (by omega)).trans (e2 o)
  have g3:=(hG.out.cell (o:=2) (show w.heap.size<w3.heap.size by omega) (by omega)).trans f2
  have g4:=(hG.out.cell (o:=3) (show w.heap.size<w3.heap.size by omega) (by omega)).trans f3
  have hND:Nn wr (.agg #[.bool false,.slice bo (dig D).length cap2]) D:=by
   obtain⟨u,e,hu⟩:=hnD w3 hEw
   exact⟨u,e,hu.grown hnT hG.out⟩
  obtain⟨aoR,capR,t0,t1,hNr,hfR⟩:=hWT.out.openN
  have hTl:=hWT.out.lt
  have sr:Small r:=dig_len2 (by omega)
  match k',hA,hk40,hlo with
  |0,hA,_,_=>
   have hA':=hA.out
   simp only[ofF,Prod.mk.injEq]at hA'
   obtain⟨ea,eb⟩:=hA'
   subst ea
   subst eb
   have hEr:Ext w wr:=GB.pre hEw hG.out (by omega)
   go_wp2_with (go_at_call 92;(with_reducible refine(hmd _).mono ?_);rintro e w9 ⟨rfl,hb9⟩;obtain⟨_,_,⟨hc9,hf9⟩,hz9⟩:=hb9.c3;(try simp only[wsz]at hz9 hc9 hf9))
   refine bodyPost_ret (v:=.tuple #[.agg #[O (lo:Int),O ((lo:Int)+1)],O 0]) ?_ rfl ⟨rfl, ?_⟩
   ·simp[results,Tryz.results46,go_sem, ↓IntWalk.iteOmega, *]
   ·exact Ext.setCell (Ext.setCell (Ext.trans hEr hb9) (Nat.le_succ _) _) (Nat.le_succ _) _
  |k+1,hA,hk40,hlo=>
   have hA':=hA.out
   have hkk:(((k+1:Nat):Int)-1)=(k:Int):=by omega
   rw[hkk]
   have h2s:2^(k+1)=2*2^k:=by rw[Nat.pow_succ];omega
   have sl:Small (D-r):=dig_len2 (by omega)
   have hsl:∀w1,Ext wr w1→K_ 100 #[.agg #[.bool false,.slice bo (dig D).length cap2],.agg #[.bool false,.slice aoR (dig r).length capR]] w1 fun e w'=>∃u,e=.returned (.tuple #[u,O 0])∧Nn w' u (D-r)∧Ext w1 w':=fun w1 k1=>by
    refine(z_Sub _ _ D r w1 (hND.ext k1).wid (hNr.ext k1).wid (by unfold Sz;rw[Int.natAbs_natCast];exact sD) c_58 (dig_bits (k:=64) (L:=4096) (by omega) (by decide))).mono ?_
    rintro e w2 ⟨u,rfl,h2,h3⟩
    exact⟨u,rfl,h2.natE (by omega),h3⟩
   unfold ofF at hA'
   by_cases hless:r<D-r
   ·rw[if_pos hless]at hA'
    have hkI:(k:Int)≤39:=by omega
    have hcp:∀va w1,Nn w1 va (D-r)→Ext wr w1→K_ 52 #[.agg #[.bool false,.slice aoR (dig r).length capR],va] w1 fun e w'=>e=.returned (.tuple #[O (-1),O 0])∧Ext w1 w':=fun va w1 h k1=>by
     have:=w_Cmp _ va r (D-r) w1 (hNr.ext k1) h sr sl
     rw[cmp_lt (show(r:Int)<((D-r:Nat):Int) by omega)]at this
     exact this
    have s2:Small (r+r):=dig_len2 (by omega)
    go_wp2_with (first
     | (go_at_call 100;(with_reducible refine(hsl _ (Ext.refl _)).mono ?_);rintro e w7 ⟨y1,rfl,hy2,hb7⟩;obtain⟨ao1,capl,rfl,hy3⟩:=hy2.open;obtain⟨_,_,⟨hc7,hf7⟩,hz7⟩:=hb7.c3;(try simp only[wsz]at hz7 hc7 hf7);clear hsl)
     | (go_at_call 52;(with_reducible refine(hcp _ _ (hy3.ext ex_) ex_).mono ?_);rintro e w8 ⟨rfl,hb8⟩;obtain⟨_,_,⟨hc8,hf8⟩,hz8⟩:=hb8.c3;(try simp only[wsz]at hz8 hc8 hf8);clear hcp)
     | (go_at_call 35;(with_reducible refine(w_Add _ _ r r _ (hNr.ext ex_) (hNr.ext ex_) sr sr s2).mono ?_);rintro e w9 ⟨y5,rfl,hy5,hb9⟩;obtain⟨ao9,cap9,rfl,hy6⟩:=hy5.open;obtain⟨_,_,⟨hc9,hf9⟩,hz9⟩:=hb9.c3;(try simp only[wsz]at hz9 hc9 hf9)))
    have hE3:Ext wr w9:=ex_
    have hT3':=hWT.out.ext hE3
    have hst:=Bx2.store hT3'.box hy6.wid
    have hG3:Hid (GB T w3 ((w9.setCell ⟨T,0,none⟩ (.bool false)).setCell ⟨T,1,none⟩ (.slice ao9 (dig (r+r)).length cap9))):=((hG.out.trans (GB.ext hE3)).set _).set _
    replace hst:Hid _:=hst
    replace hA':Hid _:=hA'
    go_roundw
    case rel=>exact⟨k,(r+r),lo,rfl,by go_num,hA',by omega,⟨by omega,by omega⟩,hst,hG3⟩
    case measure=>simp[intOf]<;>omega
   ·rw[if_neg hless]at hA'
    have hkI:(k:Int)≤39:=by omega
    obtain⟨C,hC⟩:∃C,cmpI (r:Int) ((D-r:Nat):Int)=C:=⟨_,rfl⟩
    have hC0:decide (C<0)=false:=by
     rw[←hC];unfold cmpI;rw[if_neg (by omega)];split<;>rfl
    have hcp:∀va w1,Nn w1 va (D-r)→Ext wr w1→K_ 52 #[.agg #[.bool false,.slice aoR (dig r).length capR],va] w1 fun e w'=>e=.returned (.tuple #[O C,O 0])∧Ext w1 w':=fun va w1 h k1=>by
     have:=w_Cmp _ va r (D-r) w1 (hNr.ext k1) h sr sl
     rw[hC]at this
     exact this
    clear hC
    have hs2:∀va w1,Nn w1 va (D-r)→Ext wr w1→K_ 100 #[.agg #[.bool false,.slice aoR (dig r).length capR],va] w1 fun e w'=>∃u,e=.returned (.tuple #[u,O 0])∧Nn w' u (r-(D-r))∧Ext w1 w':=fun va w1 h k1=>by
     refine(z_Sub _ va r (D-r:Nat) w1 (hNr.ext k1).wid h.wid c_58 (by unfold Sz;rw[Int.natAbs_natCast];exact sl) (dig_bits (k:=64) (L:=4096) (by omega) (by decide))).mono ?_
     rintro e w2 ⟨u,rfl,h2,h3⟩
     exact⟨u,rfl,h2.natE (by omega),h3⟩
    have h2k:(2:Int)^k≤549755813888:=two_pow_le (t:=39) (by omega)
    have h2k0:(0:Int)<2^k:=Int.pow_pos (by decide)
    have hloI:(lo:Int)≤1100611139403776:=by omega
    go_wp2_with (first
     | (go_at_call 100;(with_reducible refine(hsl _ (Ext.refl _)).mono ?_);rintro e w7 ⟨y1,rfl,hy2,hb7⟩;obtain⟨ao1,capl,rfl,hy3⟩:=hy2.open;obtain⟨_,_,⟨hc7,hf7⟩,hz7⟩:=hb7.c3;(try simp only[wsz]at hz7 hc7 hf7);clear hsl)
     | (go_at_call 52;(with_reducible refine(hcp _ _ (hy3.ext ex_) ex_).mono ?_);rintro e w8 ⟨rfl,hb8⟩;obtain⟨_,_,⟨hc8,hf8⟩,hz8⟩:=hb8.c3;(try simp only[wsz]at hz8 hc8 hf8);clear hcp)
     | (go_at_call 100;(with_reducible refine(hs2 _ _ (hy3.ext ex_) ex_).mono ?_);rintro e w9 ⟨y5,rfl,hy5,hb9⟩;obtain⟨ao9,cap9,rfl,hy6⟩:=hy5.open;obtain⟨_,_,⟨hc9,hf9⟩,hz9⟩:=hb9.c3;(try simp only[wsz]at hz9 hc9 hf9)))
    have hE3:Ext wr w9:=ex_
    have hT3':=hWT.out.ext hE3
    have hst:=Bx2.store hT3'.box hy6.wid
    have hG3:Hid (GB T w3 ((w9.setCell ⟨T,0,none⟩ (.bool false)).setCell ⟨T,1,none⟩ (.slice ao9 (dig (r-(D-r))).length cap9))):=((hG.out.trans (GB.ext hE3)).set _).set _
    replace hst:Hid _:=hst
    replace hA':Hid _:=hA'
    go_roundw
    case rel=>exact⟨k,(r-(D-r)),(lo+2^k),(by rw[Int.natCast_add,Int.natCast_pow];rfl),by go_num,hA',by omega,⟨by omega,by omega⟩,hst,hG3⟩
    case measure=>simp[intOf]<;>omega
end Go.Proofs.YtaoioncjmfcolaaGreat
