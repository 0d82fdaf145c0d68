/- kepler: Solve. -/
import Derived.Test.YtaoioncjmfcolaaGreatV34
set_option linter.unusedSimpArgs false
set_option linter.unusedVariables false
set_option maxRecDepth 100000
set_option maxHeartbeats 4000000
namespace Go.Proofs.YtaoioncjmfcolaaGreat
open Go.RowKit
theorem T_KB6_2 {p:Prop} (h:p:=by
 clear I
 intro I
 go_upto_region 10 with fail
 refine rB [[],[],[(3,(.own [O m,O m]))]] [] [.eq (O (m)),.eq (O (m)),.eq (.agg #[O m,O m]),.any,.eq (O (0))] [4] I (fun hc=>⟨ob_ld (x:=.tmp 2) (g:=w.heap.size) (f:=0) (u:=O (m)) none hc fun vs gs w1 c=>c.own 0 0,ob_ld (x:=.tmp 2) (g:=w.heap.size) (f:=0) (u:=O (m)) none hc fun vs gs w1 c=>c.own 0 0,oTT 61 0 62 1 hc,ob_put2 (n:=2) 0 rfl (some 2) hc rfl,ob_mv hc (.inr rfl),trivial⟩) fun vs W=>tl ?_
 clear I
 intro I
 have hE:=I.e
 have d0:=I.own 2 0
 have d1:=I.own 2 1
 clear I hck hcm hA hB
 go_wp2_with fail
 refine bodyPost_ret (v:=.tuple #[.agg #[O m,O m],O 0]) ?_ rfl ⟨rfl,hE⟩
 simp[results,Tryz.results18,go_sem, ↓IntWalk.iteOmega,d0,d1]):p:=h
theorem T_KB6_1 {p:Prop} (h:p:=by
 clear I
 intro I
 go_upto_region 8 with fail
 refine rB [[],[],[(1,(.own [O 0,O 0]))]] [] [.eq (.agg #[O 0,O 0]),.any,.eq (O (2))] [2] I (fun hc=>⟨ob_k (u:=.agg #[O 0,O 0]) hc,ob_put2 (n:=2) 0 rfl (some 0) hc rfl,ob_mv hc (.inr rfl),trivial⟩) fun vs W=>tl ?_
 clear I
 intro I
 have hE:=I.e
 have d0:=I.own 2 0
 have d1:=I.own 2 1
 clear I hck hcm hA hB
 go_wp2_with fail
 refine bodyPost_ret (v:=.tuple #[.agg #[O 0,O 0],O 2]) ?_ rfl ⟨rfl,hE⟩
 simp[results,Tryz.results18,go_sem, ↓IntWalk.iteOmega,d0,d1]):p:=h
theorem eqc3l {P:Program} {f:Nat} {w:World} {F:Ending→World→Prop} {u v x y t s:Value} (h:u=v) (h2:x=y) (h3:t=s) (k:Calls P f #[v,y,s] w F):Calls P f #[u,x,t] w F:=h▸h2▸h3▸k
theorem own_pat {g:Nat} {w:World} {sa sb:Bool} {u z:Value} {x y:Int} (h:(BF.own [.bool sa,u,.bool sb,z]).p g w) (hx:Wid w (.agg #[.bool sa,u]) x) (hy:Wid w (.agg #[.bool sb,z]) y):PatP w g x y:=⟨⟨_,_,_,_,h.1 0 _ rfl,h.1 1 _ rfl,h.1 2 _ rfl,h.1 3 _ rfl,hx,hy⟩,h.2.1,h.2.2.1,h.2.2.2⟩
theorem wid_len {w:World} {s:Bool} {ao:Option Addr} {n cap:Nat} {x:Int} (h:Wid w (.agg #[.bool s,.slice ao n cap]) x):n=(dig x.natAbs).length:=by
 obtain⟨u,e,hu⟩:=h
 obtain⟨ao',b,o,cap',e2, -⟩:=hu.view
 cases e
 cases e2
 rfl
theorem wid_sg {w:World} {s:Bool} {u:Value} {x:Int} (h:Wid w (.agg #[.bool s,u]) x):s=decide (x<0):=by
 obtain⟨u,e,hu⟩:=h
 cases e
 rfl
theorem k_SolveMany (vf:Value) (m nu de:Int) (w:World) (hf:PairV w vf nu de) (hck:∀w1 u,PairV w1 u nu de→K_ 51 #[u] w1 fun e w'=>e=.returned (O 0)∧Ext w1 w') (hbig:64<(dig de.natAbs).length):K_ 18 #[O m,vf] w fun e w'=>e=.returned (.tuple #[.agg #[O 0,O 0],O 4])∧Ext w w':=by
 obtain⟨sa,aoa,na,capa,sb,aob,nb,capb,rfl,hA,hB⟩:=hf.open
 have I0:KBd w [] w:=⟨Ext.refl w,trivial,by simp,by simp⟩
 have I:=((I0.new [O m] 2 (by simp)).new [.bool sa,.slice aoa na capa,.bool sb,.slice aob nb capb] 26 (by simp)).new [O 0,O 0] 30 (by simp)
 simp only[World.size_alloc,List.nil_append,List.cons_append]at I
 have hla:na=(dig nu.natAbs).length:=wid_len hA
 have hlb:nb=(dig de.natAbs).length:=wid_len hB
 have hsg:sa=decide (nu<0):=wid_sg hA
 have hb:64<nb:=by omega
 clear I0 hf hla hlb hsg
 go_enter Tryz.func18,Tryz.ntmps18
 go_upto_region 1 with fail
 refine rB [] [] [.pair (nu) (de),.eq (O (0)),.eq (O (0))] [2] I (fun hc=>⟨ob_getPP (w.heap.size+1) (nu) (de) hc rfl fun vs gs w1 c=>own_pat (c.b0 1) (hA.ext c.k.1) (hB.ext c.k.1),ob_call (fun v=>[v 0]) hc rfl fun vs gs w1 c=>calls_eq (hck _ _ (c.v 0)),ob_cp 1 hc (.inr rfl),trivial⟩) fun vs W=>tl ?_
 clear I
 intro I
 go_upto_region 4 with fail
 refine rB [] [] [.eq (.pointer (some ⟨(w.heap.size+1),0,none⟩)),.eq (.pointer (some ⟨(w.heap.size+1),1,none⟩)),.eq (.slice aoa na capa),.eq (O ((na:Nat))),.eq (.pointer (some ⟨(w.heap.size+1),2,none⟩)),.eq (.pointer (some ⟨(w.heap.size+1),3,none⟩)),.eq (.slice aob nb capb),.eq (O ((nb:Nat))),.eq (O (max (na:Int) (nb:Int))),.eq (.bool true)] [9] I (fun hc=>⟨oN (.tmp 3) (.pointer (some ⟨(w.heap.size+1),0,none⟩)) hc,oT 17 0 hc,oL 18 1 hc fun vs gs w1 c=>c.own 1 1,oT 19 2 hc,oN (.tmp 3) (.pointer (some ⟨(w.heap.size+1),0,none⟩)) hc,oT 21 4 hc,oL 22 5 hc fun vs gs w1 c=>c.own 1 3,oT 23 6 hc,oTT 20 3 24 7 hc (hs:=c_28),oTN 25 8 (.const (O 64)) (O 64) hc (hs:=c_6),trivial⟩) fun vs W=>tl ?_
 clear I
 intro I
 go_upto_region 5 with fail
 refine rB [[],[],[(1,(.own [O 0,O 0]))]] [] [.eq (.agg #[O 0,O 0]),.any,.eq (O (4))] [2] I (fun hc=>⟨ob_k (u:=.agg #[O 0,O 0]) hc,ob_put2 (n:=2) 0 rfl (some 0) hc rfl,ob_mv hc (.inr rfl),trivial⟩) fun vs W=>tl ?_
 clear I
 intro I
 have hE:=I.e
 have d0:=I.own 2 0
 have d1:=I.own 2 1
 clear I hck hb hbig hA hB
 go_wp2_with fail
 refine bodyPost_ret (v:=.tuple #[.agg #[O 0,O 0],O 4]) ?_ rfl ⟨rfl,hE⟩
 simp[results,Tryz.results18,go_sem, ↓IntWalk.iteOmega,d0,d1]
theorem k_SolveCmp (vf:Value) (m nu de:Int) (w:World) (hf:PairV w vf nu de) (hck:∀w1 u,PairV w1 u nu de→K_ 51 #[u] w1 fun e w'=>e=.returned (O 0)∧Ext w1 w') (sn:Sz nu) (sd:Sz de) (ln:(dig nu.natAbs).length≤64) (ld:(dig de.natAbs).length≤64) (hcc:0≤cmpI nu de):K_ 18 #[O m,vf] w fun e w'=>e=.returned (.tuple #[.agg #[O 0,O 0],O 2])∧Ext w w':=by
 obtain⟨sa,aoa,na,capa,sb,aob,nb,capb,rfl,hA,hB⟩:=hf.open
 have I0:KBd w [] w:=⟨Ext.refl w,trivial,by simp,by simp⟩
 have I:=((I0.new [O m] 2 (by simp)).new [.bool sa,.slice aoa na capa,.bool sb,.slice aob nb capb] 26 (by simp)).new [O 0,O 0] 30 (by simp)
 simp only[World.size_alloc,List.nil_append,List.cons_append]at I
 have hla:na=(dig nu.natAbs).length:=wid_len hA
 have hlb:nb=(dig de.natAbs).length:=wid_len hB
 have hsg:sa=decide (nu<0):=wid_sg hA
 have ha:na≤64:=by omega
 have hb:nb≤64:=by omega
 obtain⟨c1,hc1⟩:∃x,cmpI nu de=x:=⟨_,rfl⟩
 rw[hc1]at hcc
 have hcm:∀(w1:World) (u1 u2:Value),Wid w1 u1 nu→Wid w1 u2 de→K_ 52 #[u1,u2] w1 fun e w'=>e=.returned (.tuple #[O c1,O 0])∧Ext w1 w':=fun w1 u1 u2 a b=>by have:=z_Cmp u1 u2 _ _ w1 a b sn sd;rw[hc1]at this;exact this
 clear hc1 sn sd
 clear I0 hf hla hlb hsg
 go_enter Tryz.func18,Tryz.ntmps18
 go_upto_region 1 with fail
 refine rB [] [] [.pair (nu) (de),.eq (O (0)),.eq (O (0))] [2] I (fun hc=>⟨ob_getPP (w.heap.size+1) (nu) (de) hc rfl fun vs gs w1 c=>own_pat (c.b0 1) (hA.ext c.k.1) (hB.ext c.k.1),ob_call (fun v=>[v 0]) hc rfl fun vs gs w1 c=>calls_eq (hck _ _ (c.v 0)),ob_cp 1 hc (.inr rfl),trivial⟩) fun vs W=>tl ?_
 clear I
 intro I
 go_upto_region 4 with fail
 refine rB [] [] [.eq (.pointer (some ⟨(w.heap.size+1),0,none⟩)),.eq (.pointer (some ⟨(w.heap.size+1),1,none⟩)),.eq (.slice aoa na capa),.eq (O ((na:Nat))),.eq (.pointer (some ⟨(w.heap.size+1),2,none⟩)),.eq (.pointer (some ⟨(w.heap.size+1),3,none⟩)),.eq (.slice aob nb capb),.eq (O ((nb:Nat))),.eq (O (max (na:Int) (nb:Int))),.eq (.bool false)] [9] I (fun hc=>⟨oN (.tmp 3) (.pointer (some ⟨(w.heap.size+1),0,none⟩)) hc,oT 17 0 hc,oL 18 1 hc fun vs gs w1 c=>c.own 1 1,oT 19 2 hc,oN (.tmp 3) (.pointer (some ⟨(w.heap.size+1),0,none⟩)) hc,oT 21 4 hc,oL 22 5 hc fun vs gs w1 c=>c.own 1 3,oT 23 6 hc,oTT 20 3 24 7 hc (hs:=c_28),oTN 25 8 (.const (O 64)) (O 64) hc (hs:=c_6),trivial⟩) fun vs W=>tl ?_
 clear I
 intro I
 go_upto_region 6 with fail
 refine rB [] [] [.eq (.pointer (some ⟨(w.heap.size+1),0,none⟩)),.wid (nu),.eq (.pointer (some ⟨(w.heap.size+1),2,none⟩)),.wid (de),.eq (.tuple #[O c1,O 0]),.eq (.tuple #[O c1,O 0]),.eq (O (c1)),.eq (O (0)),.eq (O (c1)),.eq (O (0))] [8,9] I (fun hc=>⟨oN (.tmp 3) (.pointer (some ⟨(w.heap.size+1),0,none⟩)) hc,ob_getP0 (w.heap.size+1) nu de (some 0) hc rfl fun vs gs w1 c=>own_pat (c.b0 1) (hA.ext c.k.1) (hB.ext c.k.1),oN (.tmp 3) (.pointer (some ⟨(w.heap.size+1),0,none⟩)) hc,ob_getP2 (w.heap.size+1) nu de (some 2) hc rfl fun vs gs w1 c=>own_pat (c.b0 1) (hA.ext c.k.1) (hB.ext c.k.1),ob_call (fun v=>[v 1,v 3]) hc rfl fun vs gs w1 c=>calls_eq (hcm _ _ _ (c.v 1) (c.v 3)),ob_cp 4 hc (.inl rfl),oT 28 5 hc,oT 28 5 hc,ob_cp 6 hc (.inr rfl),ob_cp 7 hc (.inr rfl),trivial⟩) fun vs W=>tl ?_
 clear I
 intro I
 go_upto_region 7 with fail
 refine rB [] [] [.eq (O (c1)),.eq (.bool true),.eq (.bool true),.eq undef,.eq undef,.eq undef,.eq (.bool true),.eq (.bool true),.eq undef,.eq undef,.eq (.bool true),.eq (.bool true),.eq undef,.eq undef,.eq (.bool true)] [14] I (fun hc=>⟨ob_mv hc (.inl rfl),oTN 36 0 (.const (O 0)) (O 0) hc (hs:=c_2),ob_cp 1 hc (.inl rfl),ob_skip hc,ob_skip hc,ob_skip hc,ob_pickT (some 2) none hc rfl,ob_cp 6 hc (.inl rfl),ob_skip hc,ob_skip hc,ob_pickT (some 7) none hc rfl,ob_cp 10 hc (.inl rfl),ob_skip hc,ob_skip hc,ob_pickT (some 11) none hc rfl,trivial⟩) fun vs W=>tl ?_
 exact T_KB6_1
theorem k_SolveNeg (vf:Value) (m nu de:Int) (w:World) (hf:PairV w vf nu de) (hck:∀w1 u,PairV w1 u nu de→K_ 51 #[u] w1 fun e w'=>e=.returned (O 0)∧Ext w1 w') (sn:Sz nu) (sd:Sz de) (ln:(dig nu.natAbs).length≤64) (ld:(dig de.natAbs).length≤64) (hcc:cmpI nu de<0) (hn:nu<0):K_ 18 #[O m,vf] w fun e w'=>e=.returned (.tuple #[.agg #[O 0,O 0],O 2])∧Ext w w':=by
 obtain⟨sa,aoa,na,capa,sb,aob,nb,capb,rfl,hA,hB⟩:=hf.open
 have I0:KBd w [] w:=⟨Ext.refl w,trivial,by simp,by simp⟩
 have I:=((I0.new [O m] 2 (by simp)).new [.bool sa,.slice aoa na capa,.bool sb,.slice aob nb capb] 26 (by simp)).new [O 0,O 0] 30 (by simp)
 simp only[World.size_alloc,List.nil_append,List.cons_append]at I
 have hla:na=(dig nu.natAbs).length:=wid_len hA
 have hlb:nb=(dig de.natAbs).length:=wid_len hB
 have hsg:sa=decide (nu<0):=wid_sg hA
 have ha:na≤64:=by omega
 have hb:nb≤64:=by omega
 have hsa:sa=true:=by rw[hsg];exact decide_eq_true hn
 subst hsa
 obtain⟨c1,hc1⟩:∃x,cmpI nu de=x:=⟨_,rfl⟩
 rw[hc1]at hcc
 have hcm:∀(w1:World) (u1 u2:Value),Wid w1 u1 nu→Wid w1 u2 de→K_ 52 #[u1,u2] w1 fun e w'=>e=.returned (.tuple #[O c1,O 0])∧Ext w1 w':=fun w1 u1 u2 a b=>by have:=z_Cmp u1 u2 _ _ w1 a b sn sd;rw[hc1]at this;exact this
 clear hc1 sn sd
 clear I0 hf hla hlb hsg
 go_enter Tryz.func18,Tryz.ntmps18
 go_upto_region 1 with fail
 refine rB [] [] [.pair (nu) (de),.eq (O (0)),.eq (O (0))] [2] I (fun hc=>⟨ob_getPP (w.heap.size+1) (nu) (de) hc rfl fun vs gs w1 c=>own_pat (c.b0 1) (hA.ext c.k.1) (hB.ext c.k.1),ob_call (fun v=>[v 0]) hc rfl fun vs gs w1 c=>calls_eq (hck _ _ (c.v 0)),ob_cp 1 hc (.inr rfl),trivial⟩) fun vs W=>tl ?_
 clear I
 intro I
 go_upto_region 4 with fail
 refine rB [] [] [.eq (.pointer (some ⟨(w.heap.size+1),0,none⟩)),.eq (.pointer (some ⟨(w.heap.size+1),1,none⟩)),.eq (.slice aoa na capa),.eq (O ((na:Nat))),.eq (.pointer (some ⟨(w.heap.size+1),2,none⟩)),.eq (.pointer (some ⟨(w.heap.size+1),3,none⟩)),.eq (.slice aob nb capb),.eq (O ((nb:Nat))),.eq (O (max (na:Int) (nb:Int))),.eq (.bool false)] [9] I (fun hc=>⟨oN (.tmp 3) (.pointer (some ⟨(w.heap.size+1),0,none⟩)) hc,oT 17 0 hc,oL 18 1 hc fun vs gs w1 c=>c.own 1 1,oT 19 2 hc,oN (.tmp 3) (.pointer (some ⟨(w.heap.size+1),0,none⟩)) hc,oT 21 4 hc,oL 22 5 hc fun vs gs w1 c=>c.own 1 3,oT 23 6 hc,oTT 20 3 24 7 hc (hs:=c_28),oTN 25 8 (.const (O 64)) (O 64) hc (hs:=c_6),trivial⟩) fun vs W=>tl ?_
 clear I
 intro I
 go_upto_region 6 with fail
 refine rB [] [] [.eq (.pointer (some ⟨(w.heap.size+1),0,none⟩)),.wid (nu),.eq (.pointer (some ⟨(w.heap.size+1),2,none⟩)),.wid (de),.eq (.tuple #[O c1,O 0]),.eq (.tuple #[O c1,O 0]),.eq (O (c1)),.eq (O (0)),.eq (O (c1)),.eq (O (0))] [8,9] I (fun hc=>⟨oN (.tmp 3) (.pointer (some ⟨(w.heap.size+1),0,none⟩)) hc,ob_getP0 (w.heap.size+1) nu de (some 0) hc rfl fun vs gs w1 c=>own_pat (c.b0 1) (hA.ext c.k.1) (hB.ext c.k.1),oN (.tmp 3) (.pointer (some ⟨(w.heap.size+1),0,none⟩)) hc,ob_getP2 (w.heap.size+1) nu de (some 2) hc rfl fun vs gs w1 c=>own_pat (c.b0 1) (hA.ext c.k.1) (hB.ext c.k.1),ob_call (fun v=>[v 1,v 3]) hc rfl fun vs gs w1 c=>calls_eq (hcm _ _ _ (c.v 1) (c.v 3)),ob_cp 4 hc (.inl rfl),oT 28 5 hc,oT 28 5 hc,ob_cp 6 hc (.inr rfl),ob_cp 7 hc (.inr rfl),trivial⟩) fun vs W=>tl ?_
 clear I
 intro I
 go_upto_region 7 with fail
 refine rB [] [] [.eq (O (c1)),.eq (.bool false),.eq (.bool false),.eq (.pointer (some ⟨(w.heap.size+1),0,none⟩)),.eq (.pointer (some ⟨(w.heap.size+1),0,none⟩)),.eq (.bool true),.eq (.bool true),.eq (.bool true),.eq undef,.eq undef,.eq (.bool true),.eq (.bool true),.eq undef,.eq undef,.eq (.bool true)] [14] I (fun hc=>⟨ob_mv hc (.inl rfl),oTN 36 0 (.const (O 0)) (O 0) hc (hs:=c_2),ob_cp 1 hc (.inl rfl),oN (.tmp 3) (.pointer (some ⟨(w.heap.size+1),0,none⟩)) hc,oT 39 3 hc,oL 40 4 hc fun vs gs w1 c=>c.own 1 0,ob_pickF (some 2) (some 5) hc rfl,ob_cp 6 hc (.inl rfl),ob_skip hc,ob_skip hc,ob_pickT (some 7) none hc rfl,ob_cp 10 hc (.inl rfl),ob_skip hc,ob_skip hc,ob_pickT (some 11) none hc rfl,trivial⟩) fun vs W=>tl ?_
 exact T_KB6_1
theorem k_SolveFar (vf:Value) (m nu de:Int) (w:World) (hf:PairV w vf nu de) (hck:∀w1 u,PairV w1 u nu de→K_ 51 #[u] w1 fun e w'=>e=.returned (O 0)∧Ext w1 w') (sn:Sz nu) (sd:Sz de) (ln:(dig nu.natAbs).length≤64) (ld:(dig de.natAbs).length≤64) (hcc:cmpI nu de<0) (hn:¬nu<0) (hm:35184372088832<m):K_ 18 #[O m,vf] w fun e w'=>e=.returned (.tuple #[.agg #[O 0,O 0],O 2])∧Ext w w':=by
 obtain⟨sa,aoa,na,capa,sb,aob,nb,capb,rfl,hA,hB⟩:=hf.open
 have I0:KBd w [] w:=⟨Ext.refl w,trivial,by simp,by simp⟩
 have I:=((I0.new [O m] 2 (by simp)).new [.bool sa,.slice aoa na capa,.bool sb,.slice aob nb capb] 26 (by simp)).new [O 0,O 0] 30 (by simp)
 simp only[World.size_alloc,List.nil_append,List.cons_append]at I
 have hla:na=(dig nu.natAbs).length:=wid_len hA
 have hlb:nb=(dig de.natAbs).length:=wid_len hB
 have hsg:sa=decide (nu<0):=wid_sg hA
 have ha:na≤64:=by omega
 have hb:nb≤64:=by omega
 have hsa:sa=false:=by rw[hsg];exact decide_eq_false hn
 subst hsa
 obtain⟨c1,hc1⟩:∃x,cmpI nu de=x:=⟨_,rfl⟩
 rw[hc1]at hcc
 have hcm:∀(w1:World) (u1 u2:Value),Wid w1 u1 nu→Wid w1 u2 de→K_ 52 #[u1,u2] w1 fun e w'=>e=.returned (.tuple #[O c1,O 0])∧Ext w1 w':=fun w1 u1 u2 a b=>by have:=z_Cmp u1 u2 _ _ w1 a b sn sd;rw[hc1]at this;exact this
 clear hc1 sn sd
 clear I0 hf hla hlb hsg
 go_enter Tryz.func18,Tryz.ntmps18
 go_upto_region 1 with fail
 refine rB [] [] [.pair (nu) (de),.eq (O (0)),.eq (O (0))] [2] I (fun hc=>⟨ob_getPP (w.heap.size+1) (nu) (de) hc rfl fun vs gs w1 c=>own_pat (c.b0 1) (hA.ext c.k.1) (hB.ext c.k.1),ob_call (fun v=>[v 0]) hc rfl fun vs gs w1 c=>calls_eq (hck _ _ (c.v 0)),ob_cp 1 hc (.inr rfl),trivial⟩) fun vs W=>tl ?_
 clear I
 intro I
 go_upto_region 4 with fail
 refine rB [] [] [.eq (.pointer (some ⟨(w.heap.size+1),0,none⟩)),.eq (.pointer (some ⟨(w.heap.size+1),1,none⟩)),.eq (.slice aoa na capa),.eq (O ((na:Nat))),.eq (.pointer (some ⟨(w.heap.size+1),2,none⟩)),.eq (.pointer (some ⟨(w.heap.size+1),3,none⟩)),.eq (.slice aob nb capb),.eq (O ((nb:Nat))),.eq (O (max (na:Int) (nb:Int))),.eq (.bool false)] [9] I (fun hc=>⟨oN (.tmp 3) (.pointer (some ⟨(w.heap.size+1),0,none⟩)) hc,oT 17 0 hc,oL 18 1 hc fun vs gs w1 c=>c.own 1 1,oT 19 2 hc,oN (.tmp 3) (.pointer (some ⟨(w.heap.size+1),0,none⟩)) hc,oT 21 4 hc,oL 22 5 hc fun vs gs w1 c=>c.own 1 3,oT 23 6 hc,oTT 20 3 24 7 hc (hs:=c_28),oTN 25 8 (.const (O 64)) (O 64) hc (hs:=c_6),trivial⟩) fun vs W=>tl ?_
 clear I
 intro I
 go_upto_region 6 with fail
 refine rB [] [] [.eq (.pointer (some ⟨(w.heap.size+1),0,none⟩)),.wid (nu),.eq (.pointer (some ⟨(w.heap.size+1),2,none⟩)),.wid (de),.eq (.tuple #[O c1,O 0]),.eq (.tuple #[O c1,O 0]),.eq (O (c1)),.eq (O (0)),.eq (O (c1)),.eq (O (0))] [8,9] I (fun hc=>⟨oN (.tmp 3) (.pointer (some ⟨(w.heap.size+1),0,none⟩)) hc,ob_getP0 (w.heap.size+1) nu de (some 0) hc rfl fun vs gs w1 c=>own_pat (c.b0 1) (hA.ext c.k.1) (hB.ext c.k.1),oN (.tmp 3) (.pointer (some ⟨(w.heap.size+1),0,none⟩)) hc,ob_getP2 (w.heap.size+1) nu de (some 2) hc rfl fun vs gs w1 c=>own_pat (c.b0 1) (hA.ext c.k.1) (hB.ext c.k.1),ob_call (fun v=>[v 1,v 3]) hc rfl fun vs gs w1 c=>calls_eq (hcm _ _ _ (c.v 1) (c.v 3)),ob_cp 4 hc (.inl rfl),oT 28 5 hc,oT 28 5 hc,ob_cp 6 hc (.inr rfl),ob_cp 7 hc (.inr rfl),trivial⟩) fun vs W=>tl ?_
 clear I
 intro I
 go_upto_region 7 with fail
 refine rB [] [] [.eq (O (c1)),.eq (.bool false),.eq (.bool false),.eq (.pointer (some ⟨(w.heap.size+1),0,none⟩)),.eq (.pointer (some ⟨(w.heap.size+1),0,none⟩)),.eq (.bool false),.eq (.bool false),.eq (.bool false),.eq (O (m)),.eq (.bool false),.eq (.bool false),.eq (.bool false),.eq (O (m)),.eq (.bool true),.eq (.bool true)] [14] I (fun hc=>⟨ob_mv hc (.inl rfl),oTN 36 0 (.const (O 0)) (O 0) hc (hs:=c_2),ob_cp 1 hc (.inl rfl),oN (.tmp 3) (.pointer (some ⟨(w.heap.size+1),0,none⟩)) hc,oT 39 3 hc,oL 40 4 hc fun vs gs w1 c=>c.own 1 0,ob_pickF (some 2) (some 5) hc rfl,ob_cp 6 hc (.inl rfl),ob_ld (x:=.tmp 2) (g:=w.heap.size) (f:=0) (u:=O (m)) none hc fun vs gs w1 c=>c.own 0 0,oTN 44 8 (.const (O (-35184372088832))) (O (-35184372088832)) hc (hs:=c_2),ob_pickF (some 7) (some 9) hc rfl,ob_cp 10 hc (.inl rfl),ob_ld (x:=.tmp 2) (g:=w.heap.size) (f:=0) (u:=O (m)) none hc fun vs gs w1 c=>c.own 0 0,oTN 48 12 (.const (O 35184372088832)) (O 35184372088832) hc (hs:=c_2),ob_pickF (some 11) (some 13) hc rfl,trivial⟩) fun vs W=>tl ?_
 exact T_KB6_1
theorem k_Solve0 (vf:Value) (m nu de:Int) (w:World) (hf:PairV w vf nu de) (hck:∀w1 u,PairV w1 u nu de→K_ 51 #[u] w1 fun e w'=>e=.returned (O 0)∧Ext w1 w') (sn:Sz nu) (sd:Sz de) (ln:(dig nu.natAbs).length≤64) (ld:(dig de.natAbs).length≤64) (hcc:cmpI nu de<0) (hn:¬nu<0) (hm:m=0):K_ 18 #[O m,vf] w fun e w'=>e=.returned (.tuple #[.agg #[O m,O m],O 0])∧Ext w w':=by
 have hm0: -35184372088832≤m:=by omega
 have hm1:m≤35184372088832:=by omega
 replace hm:=Lib.hid hm
 obtain⟨sa,aoa,na,capa,sb,aob,nb,capb,rfl,hA,hB⟩:=hf.open
 have I0:KBd w [] w:=⟨Ext.refl w,trivial,by simp,by simp⟩
 have I:=((I0.new [O m] 2 (by simp)).new [.bool sa,.slice aoa na capa,.bool sb,.slice aob nb capb] 26 (by simp)).new [O 0,O 0] 30 (by simp)
 simp only[World.size_alloc,List.nil_append,List.cons_append]at I
 have hla:na=(dig nu.natAbs).length:=wid_len hA
 have hlb:nb=(dig de.natAbs).length:=wid_len hB
 have hsg:sa=decide (nu<0):=wid_sg hA
 have ha:na≤64:=by omega
 have hb:nb≤64:=by omega
 have hsa:sa=false:=by rw[hsg];exact decide_eq_false hn
 subst hsa
 obtain⟨c1,hc1⟩:∃x,cmpI nu de=x:=⟨_,rfl⟩
 rw[hc1]at hcc
 have hcm:∀(w1:World) (u1 u2:Value),Wid w1 u1 nu→Wid w1 u2 de→K_ 52 #[u1,u2] w1 fun e w'=>e=.returned (.tuple #[O c1,O 0])∧Ext w1 w':=fun w1 u1 u2 a b=>by have:=z_Cmp u1 u2 _ _ w1 a b sn sd;rw[hc1]at this;exact this
 clear hc1 sn sd
 clear I0 hf hla hlb hsg
 go_enter Tryz.func18,Tryz.ntmps18
 go_upto_region 1 with fail
 refine rB [] [] [.pair (nu) (de),.eq (O (0)),.eq (O (0))] [2] I (fun hc=>⟨ob_getPP (w.heap.size+1) (nu) (de) hc rfl fun vs gs w1 c=>own_pat (c.b0 1) (hA.ext c.k.1) (hB.ext c.k.1),ob_call (fun v=>[v 0]) hc rfl fun vs gs w1 c=>calls_eq (hck _ _ (c.v 0)),ob_cp 1 hc (.inr rfl),trivial⟩) fun vs W=>tl ?_
 clear I
 intro I
 go_upto_region 4 with fail
 refine rB [] [] [.eq (.pointer (some ⟨(w.heap.size+1),0,none⟩)),.eq (.pointer (some ⟨(w.heap.size+1),1,none⟩)),.eq (.slice aoa na capa),.eq (O ((na:Nat))),.eq (.pointer (some ⟨(w.heap.size+1),2,none⟩)),.eq (.pointer (some ⟨(w.heap.size+1),3,none⟩)),.eq (.slice aob nb capb),.eq (O ((nb:Nat))),.eq (O (max (na:Int) (nb:Int))),.eq (.bool false)] [9] I (fun hc=>⟨oN (.tmp 3) (.pointer (some ⟨(w.heap.size+1),0,none⟩)) hc,oT 17 0 hc,oL 18 1 hc fun vs gs w1 c=>c.own 1 1,oT 19 2 hc,oN (.tmp 3) (.pointer (some ⟨(w.heap.size+1),0,none⟩)) hc,oT 21 4 hc,oL 22 5 hc fun vs gs w1 c=>c.own 1 3,oT 23 6 hc,oTT 20 3 24 7 hc (hs:=c_28),oTN 25 8 (.const (O 64)) (O 64) hc (hs:=c_6),trivial⟩) fun vs W=>tl ?_
 clear I
 intro I
 go_upto_region 6 with fail
 refine rB [] [] [.eq (.pointer (some ⟨(w.heap.size+1),0,none⟩)),.wid (nu),.eq (.pointer (some ⟨(w.heap.size+1),2,none⟩)),.wid (de),.eq (.tuple #[O c1,O 0]),.eq (.tuple #[O c1,O 0]),.eq (O (c1)),.eq (O (0)),.eq (O (c1)),.eq (O (0))] [8,9] I (fun hc=>⟨oN (.tmp 3) (.pointer (some ⟨(w.heap.size+1),0,none⟩)) hc,ob_getP0 (w.heap.size+1) nu de (some 0) hc rfl fun vs gs w1 c=>own_pat (c.b0 1) (hA.ext c.k.1) (hB.ext c.k.1),oN (.tmp 3) (.pointer (some ⟨(w.heap.size+1),0,none⟩)) hc,ob_getP2 (w.heap.size+1) nu de (some 2) hc rfl fun vs gs w1 c=>own_pat (c.b0 1) (hA.ext c.k.1) (hB.ext c.k.1),ob_call (fun v=>[v 1,v 3]) hc rfl fun vs gs w1 c=>calls_eq (hcm _ _ _ (c.v 1) (c.v 3)),ob_cp 4 hc (.inl rfl),oT 28 5 hc,oT 28 5 hc,ob_cp 6 hc (.inr rfl),ob_cp 7 hc (.inr rfl),trivial⟩) fun vs W=>tl ?_
 clear I
 intro I
 go_upto_region 7 with fail
 refine rB [] [] [.eq (O (c1)),.eq (.bool false),.eq (.bool false),.eq (.pointer (some ⟨(w.heap.size+1),0,none⟩)),.eq (.pointer (some ⟨(w.heap.size+1),0,none⟩)),.eq (.bool false),.eq (.bool false),.eq (.bool false),.eq (O (m)),.eq (.bool false),.eq (.bool false),.eq (.bool false),.eq (O (m)),.eq (.bool false),.eq (.bool false)] [14] I (fun hc=>⟨ob_mv hc (.inl rfl),oTN 36 0 (.const (O 0)) (O 0) hc (hs:=c_2),ob_cp 1 hc (.inl rfl),oN (.tmp 3) (.pointer (some ⟨(w.heap.size+1),0,none⟩)) hc,oT 39 3 hc,oL 40 4 hc fun vs gs w1 c=>c.own 1 0,ob_pickF (some 2) (some 5) hc rfl,ob_cp 6 hc (.inl rfl),ob_ld (x:=.tmp 2) (g:=w.heap.size) (f:=0) (u:=O (m)) none hc fun vs gs w1 c=>c.own 0 0,oTN 44 8 (.const (O (-35184372088832))) (O (-35184372088832)) hc (hs:=c_2),ob_pickF (some 7) (some 9) hc rfl,ob_cp 10 hc (.inl rfl),ob_ld (x:=.tmp 2) (g:=w.heap.size) (f:=0) (u:=O (m)) none hc fun vs gs w1 c=>c.own 0 0,oTN 48 12 (.const (O 35184372088832)) (O 35184372088832) hc (hs:=c_2),ob_pickF (some 11) (some 13) hc rfl,trivial⟩) fun vs W=>tl ?_
 clear I
 intro I
 go_upto_region 9 with fail
 refine rB [] [] [.eq (O (m)),.eq (.bool true),.eq (.bool true),.eq undef,.eq undef,.eq undef,.eq undef,.eq undef,.eq (.bool true)] [8] I (fun hc=>⟨ob_ld (x:=.tmp 2) (g:=w.heap.size) (f:=0) (u:=O (m)) none hc fun vs gs w1 c=>c.own 0 0,oTN 52 0 (.const (O 0)) (O 0) hc (hs:=c_2),ob_cp 1 hc (.inl rfl),ob_skip hc,ob_skip hc,ob_skip hc,ob_skip hc,ob_skip hc,ob_pickT (some 2) none hc rfl,trivial⟩) fun vs W=>tl ?_
 exact T_KB6_2
theorem k_SolveE0 (vf:Value) (m nu de:Int) (w:World) (hf:PairV w vf nu de) (hck:∀w1 u,PairV w1 u nu de→K_ 51 #[u] w1 fun e w'=>e=.returned (O 0)∧Ext w1 w') (sn:Sz nu) (sd:Sz de) (ln:(dig nu.natAbs).length≤64) (ld:(dig de.natAbs).length≤64) (hcc:cmpI nu de<0) (hnu:nu=0) (hm:¬m=0) (hm0: -35184372088832≤m) (hm1:m≤35184372088832):K_ 18 #[O m,vf] w fun e w'=>e=.returned (.tuple #[.agg #[O m,O m],O 0])∧Ext w w':=by
 obtain⟨sa,aoa,na,capa,sb,aob,nb,capb,rfl,hA,hB⟩:=hf.open
 have I0:KBd w [] w:=⟨Ext.refl w,trivial,by simp,by simp⟩
 have I:=((I0.new [O m] 2 (by simp)).new [.bool sa,.slice aoa na capa,.bool sb,.slice aob nb capb] 26 (by simp)).new [O 0,O 0] 30 (by simp)
 simp only[World.size_alloc,List.nil_append,List.cons_append]at I
 have hla:na=(dig nu.natAbs).length:=wid_len hA
 have hlb:nb=(dig de.natAbs).length:=wid_len hB
 have hsg:sa=decide (nu<0):=wid_sg hA
 have ha:na≤64:=by omega
 have hb:nb≤64:=by omega
 have hn:¬nu<0:=by omega
 have hsa:sa=false:=by rw[hsg];exact decide_eq_false hn
 subst hsa
 have hz:Hid (na=0):=Lib.hid (by rw[hla,hnu];rfl)
 clear hnu
 obtain⟨c1,hc1⟩:∃x,cmpI nu de=x:=⟨_,rfl⟩
 rw[hc1]at hcc
 have hcm:∀(w1:World) (u1 u2:Value),Wid w1 u1 nu→Wid w1 u2 de→K_ 52 #[u1,u2] w1 fun e w'=>e=.returned (.tuple #[O c1,O 0])∧Ext w1 w':=fun w1 u1 u2 a b=>by have:=z_Cmp u1 u2 _ _ w1 a b sn sd;rw[hc1]at this;exact this
 clear hc1 sn sd
 clear I0 hf hla hlb hsg
 go_enter Tryz.func18,Tryz.ntmps18
 go_upto_region 1 with fail
 refine rB [] [] [.pair (nu) (de),.eq (O (0)),.eq (O (0))] [2] I (fun hc=>⟨ob_getPP (w.heap.size+1) (nu) (de) hc rfl fun vs gs w1 c=>own_pat (c.b0 1) (hA.ext c.k.1) (hB.ext c.k.1),ob_call (fun v=>[v 0]) hc rfl fun vs gs w1 c=>calls_eq (hck _ _ (c.v 0)),ob_cp 1 hc (.inr rfl),trivial⟩) fun vs W=>tl ?_
 clear I
 intro I
 go_upto_region 4 with fail
 refine rB [] [] [.eq (.pointer (some ⟨(w.heap.size+1),0,none⟩)),.eq (.pointer (some ⟨(w.heap.size+1),1,none⟩)),.eq (.slice aoa na capa),.eq (O ((na:Nat))),.eq (.pointer (some ⟨(w.heap.size+1),2,none⟩)),.eq (.pointer (some ⟨(w.heap.size+1),3,none⟩)),.eq (.slice aob nb capb),.eq (O ((nb:Nat))),.eq (O (max (na:Int) (nb:Int))),.eq (.bool false)] [9] I (fun hc=>⟨oN (.tmp 3) (.pointer (some ⟨(w.heap.size+1),0,none⟩)) hc,oT 17 0 hc,oL 18 1 hc fun vs gs w1 c=>c.own 1 1,oT 19 2 hc,oN (.tmp 3) (.pointer (some ⟨(w.heap.size+1),0,none⟩)) hc,oT 21 4 hc,oL 22 5 hc fun vs gs w1 c=>c.own 1 3,oT 23 6 hc,oTT 20 3 24 7 hc (hs:=c_28),oTN 25 8 (.const (O 64)) (O 64) hc (hs:=c_6),trivial⟩) fun vs W=>tl ?_
 clear I
 intro I
 go_upto_region 6 with fail
 refine rB [] [] [.eq (.pointer (some ⟨(w.heap.size+1),0,none⟩)),.wid (nu),.eq (.pointer (some ⟨(w.heap.size+1),2,none⟩)),.wid (de),.eq (.tuple #[O c1,O 0]),.eq (.tuple #[O c1,O 0]),.eq (O (c1)),.eq (O (0)),.eq (O (c1)),.eq (O (0))] [8,9] I (fun hc=>⟨oN (.tmp 3) (.pointer (some ⟨(w.heap.size+1),0,none⟩)) hc,ob_getP0 (w.heap.size+1) nu de (some 0) hc rfl fun vs gs w1 c=>own_pat (c.b0 1) (hA.ext c.k.1) (hB.ext c.k.1),oN (.tmp 3) (.pointer (some ⟨(w.heap.size+1),0,none⟩)) hc,ob_getP2 (w.heap.size+1) nu de (some 2) hc rfl fun vs gs w1 c=>own_pat (c.b0 1) (hA.ext c.k.1) (hB.ext c.k.1),ob_call (fun v=>[v 1,v 3]) hc rfl fun vs gs w1 c=>calls_eq (hcm _ _ _ (c.v 1) (c.v 3)),ob_cp 4 hc (.inl rfl),oT 28 5 hc,oT 28 5 hc,ob_cp 6 hc (.inr rfl),ob_cp 7 hc (.inr rfl),trivial⟩) fun vs W=>tl ?_
 clear I
 intro I
 go_upto_region 7 with fail
 refine rB [] [] [.eq (O (c1)),.eq (.bool false),.eq (.bool false),.eq (.pointer (some ⟨(w.heap.size+1),0,none⟩)),.eq (.pointer (some ⟨(w.heap.size+1),0,none⟩)),.eq (.bool false),.eq (.bool false),.eq (.bool false),.eq (O (m)),.eq (.bool false),.eq (.bool false),.eq (.bool false),.eq (O (m)),.eq (.bool false),.eq (.bool false)] [14] I (fun hc=>⟨ob_mv hc (.inl rfl),oTN 36 0 (.const (O 0)) (O 0) hc (hs:=c_2),ob_cp 1 hc (.inl rfl),oN (.tmp 3) (.pointer (some ⟨(w.heap.size+1),0,none⟩)) hc,oT 39 3 hc,oL 40 4 hc fun vs gs w1 c=>c.own 1 0,ob_pickF (some 2) (some 5) hc rfl,ob_cp 6 hc (.inl rfl),ob_ld (x:=.tmp 2) (g:=w.heap.size) (f:=0) (u:=O (m)) none hc fun vs gs w1 c=>c.own 0 0,oTN 44 8 (.const (O (-35184372088832))) (O (-35184372088832)) hc (hs:=c_2),ob_pickF (some 7) (some 9) hc rfl,ob_cp 10 hc (.inl rfl),ob_ld (x:=.tmp 2) (g:=w.heap.size) (f:=0) (u:=O (m)) none hc fun vs gs w1 c=>c.own 0 0,oTN 48 12 (.const (O 35184372088832)) (O 35184372088832) hc (hs:=c_2),ob_pickF (some 11) (some 13) hc rfl,trivial⟩) fun vs W=>tl ?_
 clear I
 intro I
 go_upto_region 9 with fail
 refine rB [] [] [.eq (O (m)),.eq (.bool false),.eq (.bool false),.eq (.pointer (some ⟨(w.heap.size+1),0,none⟩)),.eq (.pointer (some ⟨(w.heap.size+1),1,none⟩)),.eq (.slice aoa na capa),.eq (O ((na:Nat))),.eq (.bool true),.eq (.bool true)] [8] I (fun hc=>⟨ob_ld (x:=.tmp 2) (g:=w.heap.size) (f:=0) (u:=O (m)) none hc fun vs gs w1 c=>c.own 0 0,oTN 52 0 (.const (O 0)) (O 0) hc (hs:=c_2),ob_cp 1 hc (.inl rfl),oN (.tmp 3) (.pointer (some ⟨(w.heap.size+1),0,none⟩)) hc,oT 55 3 hc,oL 56 4 hc fun vs gs w1 c=>c.own 1 1,oT 57 5 hc,oTN 58 6 (.const (O 0)) (O 0) hc (hs:=c_2),ob_pickF (some 2) (some 7) hc rfl,trivial⟩) fun vs W=>tl ?_
 exact T_KB6_2
theorem k_SolveS (vf:Value) (m nu de:Int) (w:World) (hf:PairV w vf nu de) (hck:∀w1 u,PairV w1 u nu de→K_ 51 #[u] w1 fun e w'=>e=.returned (O 0)∧Ext w1 w') (sn:Sz nu) (sd:Sz de) (ln:(dig nu.natAbs).length≤64) (ld:(dig de.natAbs).length≤64) (F:Nat) (R:Int×Int) (on:okN nu=true) (od:okN de=true) (hcc:cmpI nu de<0) (hn:¬nu<0) (hz0:¬(dig nu.natAbs).length=0) (hm:¬m=0) (hm0: -35184372088832≤m) (hm1:m≤35184372088832) (hF:searchF (fun k=>passF k m nu de) F (m-1099511627776-1) (m+1099511627776+1)=some R):K_ 18 #[O m,vf] w fun e w'=>e=.returned (.tuple #[.agg #[O R.1,O R.2],O 0])∧Ext w w':=by
 obtain⟨sa,aoa,na,capa,sb,aob,nb,capb,rfl,hA,hB⟩:=hf.open
 have I0:KBd w [] w:=⟨Ext.refl w,trivial,by simp,by simp⟩
 have I:=((I0.new [O m] 2 (by simp)).new [.bool sa,.slice aoa na capa,.bool sb,.slice aob nb capb] 26 (by simp)).new [O 0,O 0] 30 (by simp)
 simp only[World.size_alloc,List.nil_append,List.cons_append]at I
 have hla:na=(dig nu.natAbs).length:=wid_len hA
 have hlb:nb=(dig de.natAbs).length:=wid_len hB
 have hsg:sa=decide (nu<0):=wid_sg hA
 have ha:na≤64:=by omega
 have hb:nb≤64:=by omega
 have hsa:sa=false:=by rw[hsg];exact decide_eq_false hn
 subst hsa
 have hz:¬na=0:=by omega
 obtain⟨c1,hc1⟩:∃x,cmpI nu de=x:=⟨_,rfl⟩
 rw[hc1]at hcc
 have hcm:∀(w1:World) (u1 u2:Value),Wid w1 u1 nu→Wid w1 u2 de→K_ 52 #[u1,u2] w1 fun e w'=>e=.returned (.tuple #[O c1,O 0])∧Ext w1 w':=fun w1 u1 u2 a b=>by have:=z_Cmp u1 u2 _ _ w1 a b sn sd;rw[hc1]at this;exact this
 clear hc1 sn sd
 have hse:∀(w1:World),w1.cell? ⟨w.heap.size,0,none⟩=some (O m)→PatP w1 (w.heap.size+1) nu de→K_ 53 #[O (m-1099511627776-1),O (m+1099511627776+1),.func (.func 54) #[] #[.pointer (some ⟨w.heap.size,0,none⟩),.pointer (some ⟨(w.heap.size+1),0,none⟩)]] w1 fun e w'=>e=.returned (.tuple #[O R.1,O R.2])∧Ext w1 w':=fun w1 hP hQ=>
  k_search (fun k=>passF k m nu de) F 54 [.pointer (some ⟨w.heap.size,0,none⟩),.pointer (some ⟨(w.heap.size+1),0,none⟩)] (m-1099511627776-1) (m+1099511627776+1) R w1 c_3 (by omega) (by omega) (by omega) hF
   fun w2 k b hE2 h0 h1 hT=>k_passC _ _ k m nu de b w2 ((hE2.cells.1 _ 0 (World.block_lt_of_cell? w1 _ hP)).trans hP) (hQ.ext hE2) on od (by omega) (by omega) hT
 clear hF I0 hf hla hlb hsg
 go_enter Tryz.func18,Tryz.ntmps18
 go_upto_region 1 with fail
 refine rB [] [] [.pair (nu) (de),.eq (O (0)),.eq (O (0))] [2] I (fun hc=>⟨ob_getPP (w.heap.size+1) (nu) (de) hc rfl fun vs gs w1 c=>own_pat (c.b0 1) (hA.ext c.k.1) (hB.ext c.k.1),ob_call (fun v=>[v 0]) hc rfl fun vs gs w1 c=>calls_eq (hck _ _ (c.v 0)),ob_cp 1 hc (.inr rfl),trivial⟩) fun vs W=>tl ?_
 clear I
 intro I
 go_upto_region 4 with fail
 refine rB [] [] [.eq (.pointer (some ⟨(w.heap.size+1),0,none⟩)),.eq (.pointer (some ⟨(w.heap.size+1),1,none⟩)),.eq (.slice aoa na capa),.eq (O ((na:Nat))),.eq (.pointer (some ⟨(w.heap.size+1),2,none⟩)),.eq (.pointer (some ⟨(w.heap.size+1),3,none⟩)),.eq (.slice aob nb capb),.eq (O ((nb:Nat))),.eq (O (max (na:Int) (nb:Int))),.eq (.bool false)] [9] I (fun hc=>⟨oN (.tmp 3) (.pointer (some ⟨(w.heap.size+1),0,none⟩)) hc,oT 17 0 hc,oL 18 1 hc fun vs gs w1 c=>c.own 1 1,oT 19 2 hc,oN (.tmp 3) (.pointer (some ⟨(w.heap.size+1),0,none⟩)) hc,oT 21 4 hc,oL 22 5 hc fun vs gs w1 c=>c.own 1 3,oT 23 6 hc,oTT 20 3 24 7 hc (hs:=c_28),oTN 25 8 (.const (O 64)) (O 64) hc (hs:=c_6),trivial⟩) fun vs W=>tl ?_
 clear I
 intro I
 go_upto_region 6 with fail
 refine rB [] [] [.eq (.pointer (some ⟨(w.heap.size+1),0,none⟩)),.wid (nu),.eq (.pointer (some ⟨(w.heap.size+1),2,none⟩)),.wid (de),.eq (.tuple #[O c1,O 0]),.eq (.tuple #[O c1,O 0]),.eq (O (c1)),.eq (O (0)),.eq (O (c1)),.eq (O (0))] [8,9] I (fun hc=>⟨oN (.tmp 3) (.pointer (some ⟨(w.heap.size+1),0,none⟩)) hc,ob_getP0 (w.heap.size+1) nu de (some 0) hc rfl fun vs gs w1 c=>own_pat (c.b0 1) (hA.ext c.k.1) (hB.ext c.k.1),oN (.tmp 3) (.pointer (some ⟨(w.heap.size+1),0,none⟩)) hc,ob_getP2 (w.heap.size+1) nu de (some 2) hc rfl fun vs gs w1 c=>own_pat (c.b0 1) (hA.ext c.k.1) (hB.ext c.k.1),ob_call (fun v=>[v 1,v 3]) hc rfl fun vs gs w1 c=>calls_eq (hcm _ _ _ (c.v 1) (c.v 3)),ob_cp 4 hc (.inl rfl),oT 28 5 hc,oT 28 5 hc,ob_cp 6 hc (.inr rfl),ob_cp 7 hc (.inr rfl),trivial⟩) fun vs W=>tl ?_
 clear I
 intro I
 go_upto_region 7 with fail
 refine rB [] [] [.eq (O (c1)),.eq (.bool false),.eq (.bool false),.eq (.pointer (some ⟨(w.heap.size+1),0,none⟩)),.eq (.pointer (some ⟨(w.heap.size+1),0,none⟩)),.eq (.bool false),.eq (.bool false),.eq (.bool false),.eq (O (m)),.eq (.bool false),.eq (.bool false),.eq (.bool false),.eq (O (m)),.eq (.bool false),.eq (.bool false)] [14] I (fun hc=>⟨ob_mv hc (.inl rfl),oTN 36 0 (.const (O 0)) (O 0) hc (hs:=c_2),ob_cp 1 hc (.inl rfl),oN (.tmp 3) (.pointer (some ⟨(w.heap.size+1),0,none⟩)) hc,oT 39 3 hc,oL 40 4 hc fun vs gs w1 c=>c.own 1 0,ob_pickF (some 2) (some 5) hc rfl,ob_cp 6 hc (.inl rfl),ob_ld (x:=.tmp 2) (g:=w.heap.size) (f:=0) (u:=O (m)) none hc fun vs gs w1 c=>c.own 0 0,oTN 44 8 (.const (O (-35184372088832))) (O (-35184372088832)) hc (hs:=c_2),ob_pickF (some 7) (some 9) hc rfl,ob_cp 10 hc (.inl rfl),ob_ld (x:=.tmp 2) (g:=w.heap.size) (f:=0) (u:=O (m)) none hc fun vs gs w1 c=>c.own 0 0,oTN 48 12 (.const (O 35184372088832)) (O 35184372088832) hc (hs:=c_2),ob_pickF (some 11) (some 13) hc rfl,trivial⟩) fun vs W=>tl ?_
 clear I
 intro I
 go_upto_region 9 with fail
 refine rB [] [] [.eq (O (m)),.eq (.bool false),.eq (.bool false),.eq (.pointer (some ⟨(w.heap.size+1),0,none⟩)),.eq (.pointer (some ⟨(w.heap.size+1),1,none⟩)),.eq (.slice aoa na capa),.eq (O ((na:Nat))),.eq (.bool false),.eq (.bool false)] [8] I (fun hc=>⟨ob_ld (x:=.tmp 2) (g:=w.heap.size) (f:=0) (u:=O (m)) none hc fun vs gs w1 c=>c.own 0 0,oTN 52 0 (.const (O 0)) (O 0) hc (hs:=c_2),ob_cp 1 hc (.inl rfl),oN (.tmp 3) (.pointer (some ⟨(w.heap.size+1),0,none⟩)) hc,oT 55 3 hc,oL 56 4 hc fun vs gs w1 c=>c.own 1 1,oT 57 5 hc,oTN 58 6 (.const (O 0)) (O 0) hc (hs:=c_2),ob_pickF (some 2) (some 7) hc rfl,trivial⟩) fun vs W=>tl ?_
 clear I
 intro I
 go_upto_region 11 with fail
 refine rB [] [] [.eq (O (m)),.eq (O (m-1099511627776)),.eq (O (m-1099511627776-1)),.eq (O (m)),.eq (O (m+1099511627776)),.eq (O (m+1099511627776+1)),.eq (.func (.func 54) #[] #[.pointer (some ⟨w.heap.size,0,none⟩),.pointer (some ⟨(w.heap.size+1),0,none⟩)]),.eq (.tuple #[O R.1,O R.2]),.eq (.tuple #[O R.1,O R.2]),.eq (O (R.1)),.eq (O (R.2)),.eq (O (R.1)),.eq (O (R.2))] [11,12] I (fun hc=>⟨ob_ld (x:=.tmp 2) (g:=w.heap.size) (f:=0) (u:=O (m)) none hc fun vs gs w1 c=>c.own 0 0,oTN 65 0 (.const (O 1099511627776)) (O 1099511627776) hc (hs:=c_1),oTN 66 1 (.const (O 1)) (O 1) hc (hs:=c_1),ob_ld (x:=.tmp 2) (g:=w.heap.size) (f:=0) (u:=O (m)) none hc fun vs gs w1 c=>c.own 0 0,oTN 68 3 (.const (O 1099511627776)) (O 1099511627776) hc (hs:=c_1),oTN 69 4 (.const (O 1)) (O 1) hc (hs:=c_1), ?_,ob_call (fun v=>[v 2,v 5,v 6]) hc rfl fun vs gs w1 c=>eqc3l (c.v 2) (c.v 5) (c.v 6) (calls_eq (hse _ (c.own 0 0) (own_pat (c.b0 1) (hA.ext c.k.1) (hB.ext c.k.1)))),ob_cp 7 hc (.inl rfl),oT 64 8 hc,oT 64 8 hc,ob_cp 9 hc (.inr rfl),ob_cp 10 hc (.inr rfl),trivial⟩) fun vs W=>tl ?_
 ·exact ob_eq (u:=.func (.func 54) #[] #[.pointer (some ⟨w.heap.size,0,none⟩),.pointer (some ⟨(w.heap.size+1),0,none⟩)]) hc (fun vs gs w1 ρ hr c=>by
   have e1:ρ (.tmp 2)=.pointer (some ⟨w.heap.size,0,none⟩):=hr _
   have e2:ρ (.tmp 3)=.pointer (some ⟨(w.heap.size+1),0,none⟩):=hr _
   clear c hr
   go_simp;first|done|rfl)
 clear I
 intro I
 go_upto_region 12 with fail
 refine rB [[],[],[(3,(.own [O R.1,O R.2]))]] [] [.eq (O (R.1)),.eq (O (R.2)),.eq (.agg #[O R.1,O R.2]),.any,.eq (O (0))] [4] I (fun hc=>⟨ob_mv hc (.inl rfl),ob_mv hc (.inl rfl),oTT 75 0 76 1 hc,ob_put2 (n:=2) 0 rfl (some 2) hc rfl,ob_mv hc (.inr rfl),trivial⟩) fun vs W=>tl ?_
 clear I
 intro I
 have hE:=I.e
 have d0:=I.own 2 0
 have d1:=I.own 2 1
 clear I hck hcm hse hA hB
 go_wp2_with fail
 refine bodyPost_ret (v:=.tuple #[.agg #[O R.1,O R.2],O 0]) ?_ rfl ⟨rfl,hE⟩
 simp[results,Tryz.results18,go_sem, ↓IntWalk.iteOmega,d0,d1]
end Go.Proofs.YtaoioncjmfcolaaGreat
