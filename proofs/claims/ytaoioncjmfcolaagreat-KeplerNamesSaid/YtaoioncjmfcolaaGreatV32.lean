/- The reference: signed sums. -/
import Derived.Test.YtaoioncjmfcolaaGreatV31
set_option linter.unusedSimpArgs false
set_option linter.unusedVariables false
set_option maxRecDepth 100000
set_option maxHeartbeats 8000000
namespace Go.Proofs.YtaoioncjmfcolaaGreat
open Go.RowKit
theorem T_RZS_5 {p:Prop} (h:p:=by
 intro p hp
 simp only[List.mem_cons,List.mem_nil_iff,or_false]at hp
 rcases hp with rfl|rfl|rfl|rfl<;>simp[go_sem, ↓IntWalk.iteOmega]):p:=h
theorem T_RZS_4 {p:Prop} (h:p:=by
 simp[results,Tryz.results163,go_sem, ↓IntWalk.iteOmega,h3a,h3b]<;>first|exact hbo3.symm|simp[hbo3]):p:=h
theorem T_RZS_3 {p:Prop} (h:p:=by
 (try dsimp only);exact(hH.set (by omega) hLn (fun z e=>by cases e)).set (by omega) hLn (fun z e=>by cases e)):p:=h
theorem T_RZS_2 {p:Prop} (h:p:=by
 intro p hp
 simp only[List.mem_cons,List.mem_nil_iff,or_false]at hp
 rcases hp with rfl|rfl|rfl|rfl<;>(dsimp only;omega)):p:=h
theorem T_RZS_1 {p:Prop} (h:p:=by
 rw[←hW3]
 refine⟨hW3▸hEW, ?_, ?_, ?_, ?_, ?_,by simp⟩
 ·exact T_RZS_5
 ·exact b_2
 ·exact b_3
 ·exact b_4
 ·have:=NoU.new ((w.alloc (.cells #[.bool sa,.slice ao (dig m).length cap1] 24)).alloc (.cells #[.bool sb,.slice bo (dig k).length cap2] 24)) #[.bool false,.slice none 0 0] 24 (noU2 (by simp) (by simp))
  simpa using this):p:=h
theorem r_sumP (sa:Bool) (va vb:Value) (m k:Nat) (w:World) (ha:Sm w va sa m) (hb0:Sm w vb sa k) (hs:Small m) (hs2:Small k) (hs3:Small ((m+k))):
    K_ 163 #[va,vb] w fun e w'=>∃u,e=.returned (.tuple #[u,O 0])∧Wid w' u (sg sa ((m+k)))∧Ext w w':=by
 obtain⟨u,rfl,hu⟩:=ha
 obtain⟨s,rfl,hv⟩:=hb0
 obtain⟨ao,b1,o1,cap1,rfl,v1,v2,v3,v4,v5,v6⟩:=hu.view
 obtain⟨bo,b2,o2,cap2,rfl,y1,y2,y3,y4,y5,y6⟩:=hv.view
 have hlen:(dig m).length≤100000∧(dig k).length≤100000:=by unfold Small at hs hs2;omega
 obtain⟨W3,hW3⟩:∃W3,((w.alloc (.cells #[.bool sa,.slice ao (dig m).length cap1] 24)).alloc (.cells #[.bool sa,.slice bo (dig k).length cap2] 24)).alloc (.cells #[.bool false,.slice none 0 0] 24)=W3:=⟨_,rfl⟩
 have hWs:W3.heap.size=w.heap.size+1+1+1:=by rw[←hW3];simp
 have hEW:Ext w W3:=by rw[←hW3];exact(((Ext.refl w).alloc _).alloc _).alloc _
 have hS:BX w (w.heap.size+1+1) [(w.heap.size,0,.bool sa),(w.heap.size,1,.slice ao (dig m).length cap1),(w.heap.size+1,0,.bool sa),(w.heap.size+1,1,.slice bo (dig k).length cap2)] W3:=by
  rw[←hW3]
  refine⟨hW3▸hEW, ?_, ?_, ?_, ?_, ?_,by simp⟩
  ·exact T_RZS_5
  ·exact b_2
  ·exact b_3
  ·exact b_4
  ·have:=NoU.new ((w.alloc (.cells #[.bool sa,.slice ao (dig m).length cap1] 24)).alloc (.cells #[.bool sa,.slice bo (dig k).length cap2] 24)) #[.bool false,.slice none 0 0] 24 (noU2 (by simp) (by simp))
   simpa using this
 have hLn:∀p∈([(w.heap.size,0,.bool sa),(w.heap.size,1,.slice ao (dig m).length cap1),(w.heap.size+1,0,.bool sa),(w.heap.size+1,1,.slice bo (dig k).length cap2)]:List (Nat×Nat×Value)),p.1≠w.heap.size+1+1:=by
  exact T_RZS_2
 subst hW3
 clear v1 v4 v5 y1 y4 y5 hWs
 go_enter Tryz.func163,Tryz.ntmps163
 have hs4:(dig ((m+k))).length≤4096:=hs3
 have hb0s:(sa==sa)=true:=by simp
 have q0:=BX.get hS 0 rfl
 have q2:=BX.get hS 2 rfl
 go_upto_region 2 with fail
 have hS0:=hS
 clear hS q0 q2
 refine wp_region_held_drew (S:=(fun w0=>BX w (w.heap.size+1+1) [(w.heap.size,0,.bool sa),(w.heap.size,1,.slice ao (dig m).length cap1),(w.heap.size+1,0,.bool sa),(w.heap.size+1,1,.slice bo (dig k).length cap2)] w0)) c_3 ?_ (fun hH=> ?_)
 ·exact hS0.drew
 try simp only[sx_]
 refine sK 0 ?_
 refine tk 1 rfl c_0 ?_
 try simp only[sx_]
 refine sK 2 ?_
 refine tk 3 rfl c_0 ?_
 try simp only[sx_]
 refine sK 4 ?_
 refine tk 5 rfl c_0 ?_
 try simp only[sx_]
 refine rh1 6 rfl fun K hK=> ?_
 go_simp
 (go_at_call 181;(with_reducible refine(r_plus _ _ _ _ _ (hu.ext hH.base) (hv.ext hH.base) hlen).mono ?_);rintro e t2 ⟨s2,zs,rfl,hz2,hval,hx2⟩;obtain⟨ao2,bb2,oo2,cc2,rfl,_⟩:=hz2.view)
 have hv2:val zs=(((m+k):Nat):Int):=by rw[hval,dig_val,dig_val];exact(Int.natCast_add m k).symm
 refine hK.out _ _ ?_ fun _=> ?_
 ·exact b_5
 clear hK K hH
 rename_i hH
 try simp only[sx_]
 refine rh1 7 rfl fun K hK=> ?_
 go_simp
 (go_at_call 67;(with_reducible refine(r_madeS sa _ _ (m+k) _ hz2 hv2 hs4).mono ?_);rintro e t3 ⟨s3,bo3,rfl,hz3,hbo3,hx3⟩;obtain⟨ao3,bb3,oo3,cc3,rfl,_⟩:=hz3.view)
 refine hK.out _ _ ?_ fun _=> ?_
 ·exact b_6
 clear hK K hH
 rename_i hH
 try simp only[sx_]
 refine sK 8 ?_
 refine sK 9 ?_
 refine rh1 10 rfl fun K hK=> ?_
 obtain⟨⟨xa,h3a⟩,⟨xb,h3b⟩,h3f,hnu,hsl⟩:=hH.box
 go_simp
 refine hK.out _ _ ?_ fun _=> ?_
 ·exact T_RZS_3
 clear hK K hH
 rename_i hH
 try simp only[sx_]
 refine sK 11 ?_
 refine wpAnyH_done c_3 ?_ _
 go_wp2_with fail
 refine bodyPost_ret (v:=.tuple #[.agg #[.bool bo3,.slice ao3 (dig (m+k)).length cc3],O 0]) ?_ rfl ⟨_,rfl,Wid.mk' (Lim.box (Lim.box hz3 hnu) (NoU.set hnu (fun z e=>by cases e))) hbo3, ?_⟩
 ·exact T_RZS_4
 ·exact hH.base
theorem r_sumA (sa sb:Bool) (va vb:Value) (m k:Nat) (w:World) (ha:Sm w va sa m) (hb0:Sm w vb sb k) (hs:Small m) (hs2:Small k) (hs3:Small ((m-k))) (hab:(sa==sb)=false) (hkm:k≤m):
    K_ 163 #[va,vb] w fun e w'=>∃u,e=.returned (.tuple #[u,O 0])∧Wid w' u (sg sa ((m-k)))∧Ext w w':=by
 obtain⟨u,rfl,hu⟩:=ha
 obtain⟨s,rfl,hv⟩:=hb0
 obtain⟨ao,b1,o1,cap1,rfl,v1,v2,v3,v4,v5,v6⟩:=hu.view
 obtain⟨bo,b2,o2,cap2,rfl,y1,y2,y3,y4,y5,y6⟩:=hv.view
 have hlen:(dig m).length≤100000∧(dig k).length≤100000:=by unfold Small at hs hs2;omega
 obtain⟨W3,hW3⟩:∃W3,((w.alloc (.cells #[.bool sa,.slice ao (dig m).length cap1] 24)).alloc (.cells #[.bool sb,.slice bo (dig k).length cap2] 24)).alloc (.cells #[.bool false,.slice none 0 0] 24)=W3:=⟨_,rfl⟩
 have hWs:W3.heap.size=w.heap.size+1+1+1:=by rw[←hW3];simp
 have hEW:Ext w W3:=by rw[←hW3];exact(((Ext.refl w).alloc _).alloc _).alloc _
 have hS:BX w (w.heap.size+1+1) [(w.heap.size,0,.bool sa),(w.heap.size,1,.slice ao (dig m).length cap1),(w.heap.size+1,0,.bool sb),(w.heap.size+1,1,.slice bo (dig k).length cap2)] W3:=by
  exact T_RZS_1
 have hLn:∀p∈([(w.heap.size,0,.bool sa),(w.heap.size,1,.slice ao (dig m).length cap1),(w.heap.size+1,0,.bool sb),(w.heap.size+1,1,.slice bo (dig k).length cap2)]:List (Nat×Nat×Value)),p.1≠w.heap.size+1+1:=by
  exact T_RZS_2
 have hcm:=r_compare _ _ _ _ W3 (hu.ext hEW) (hv.ext hEW) (dig_nz m) (dig_nz k)
 rw[dig_val,dig_val]at hcm
 have hcg:decide ((0:Int)≤cmpI m k)=true:=by
  unfold cmpI
  rw[if_neg (by omega)]
  split<;>rfl
 have hlk:(dig k).length≤(dig m).length:=dig_mono hkm
 have hvk:val (dig k)≤val (dig m):=by rw[dig_val,dig_val];omega
 generalize cmpI m k=R at hcm hcg
 subst hW3
 clear v1 v4 v5 y1 y4 y5 hWs
 go_enter Tryz.func163,Tryz.ntmps163
 have hs4:(dig ((m-k))).length≤4096:=hs3
 have q0:=BX.get hS 0 rfl
 have q2:=BX.get hS 2 rfl
 go_upto_region 4 with(go_at_call 177;(with_reducible refine hcm.mono ?_);rintro e w1 ⟨rfl,hb⟩;have q0:=BX.get (hS.ext hb) 0 rfl;have q2:=BX.get (hS.ext hb) 2 rfl)
 have hS0:=hS.ext hb
 clear hS hb
 refine wp_region_held_drew (S:=(fun w0=>BX w (w.heap.size+1+1) [(w.heap.size,0,.bool sa),(w.heap.size,1,.slice ao (dig m).length cap1),(w.heap.size+1,0,.bool sb),(w.heap.size+1,1,.slice bo (dig k).length cap2)] w0)) c_3 ?_ (fun hH=> ?_)
 ·exact hS0.drew
 try simp only[sx_]
 refine sK 0 ?_
 refine tk 1 rfl c_0 ?_
 try simp only[sx_]
 refine sK 2 ?_
 refine tk 3 rfl c_0 ?_
 try simp only[sx_]
 refine sK 4 ?_
 refine tk 5 rfl c_0 ?_
 try simp only[sx_]
 refine rh1 6 rfl fun K hK=> ?_
 go_simp
 (go_at_call 182;(with_reducible refine(r_minus _ _ _ _ _ (hu.ext hH.base) (hv.ext hH.base) hlen.1 hlk hvk).mono ?_);rintro e t2 ⟨s2,zs,rfl,hz2,hval,hx2⟩;obtain⟨ao2,bb2,oo2,cc2,rfl,_⟩:=hz2.view)
 have hv2:val zs=(((m-k):Nat):Int):=by rw[hval,dig_val,dig_val];exact(Int.ofNat_sub hkm).symm
 refine hK.out _ _ ?_ fun _=> ?_
 ·exact b_5
 clear hK K hH
 rename_i hH
 try simp only[sx_]
 refine rh1 7 rfl fun K hK=> ?_
 go_simp
 (go_at_call 67;(with_reducible refine(r_madeS sa _ _ (m-k) _ hz2 hv2 hs4).mono ?_);rintro e t3 ⟨s3,bo3,rfl,hz3,hbo3,hx3⟩;obtain⟨ao3,bb3,oo3,cc3,rfl,_⟩:=hz3.view)
 refine hK.out _ _ ?_ fun _=> ?_
 ·exact b_6
 clear hK K hH
 rename_i hH
 try simp only[sx_]
 refine sK 8 ?_
 refine sK 9 ?_
 refine rh1 10 rfl fun K hK=> ?_
 obtain⟨⟨xa,h3a⟩,⟨xb,h3b⟩,h3f,hnu,hsl⟩:=hH.box
 go_simp
 refine hK.out _ _ ?_ fun _=> ?_
 ·exact T_RZS_3
 clear hK K hH
 rename_i hH
 try simp only[sx_]
 refine sK 11 ?_
 refine wpAnyH_done c_3 ?_ _
 go_wp2_with fail
 refine bodyPost_ret (v:=.tuple #[.agg #[.bool bo3,.slice ao3 (dig (m-k)).length cc3],O 0]) ?_ rfl ⟨_,rfl,Wid.mk' (Lim.box (Lim.box hz3 hnu) (NoU.set hnu (fun z e=>by cases e))) hbo3, ?_⟩
 ·exact T_RZS_4
 ·exact hH.base
theorem r_sumB (sa sb:Bool) (va vb:Value) (m k:Nat) (w:World) (ha:Sm w va sa m) (hb0:Sm w vb sb k) (hs:Small m) (hs2:Small k) (hs3:Small ((k-m))) (hab:(sa==sb)=false) (hkm:m<k):
    K_ 163 #[va,vb] w fun e w'=>∃u,e=.returned (.tuple #[u,O 0])∧Wid w' u (sg sb ((k-m)))∧Ext w w':=by
 obtain⟨u,rfl,hu⟩:=ha
 obtain⟨s,rfl,hv⟩:=hb0
 obtain⟨ao,b1,o1,cap1,rfl,v1,v2,v3,v4,v5,v6⟩:=hu.view
 obtain⟨bo,b2,o2,cap2,rfl,y1,y2,y3,y4,y5,y6⟩:=hv.view
 have hlen:(dig m).length≤100000∧(dig k).length≤100000:=by unfold Small at hs hs2;omega
 obtain⟨W3,hW3⟩:∃W3,((w.alloc (.cells #[.bool sa,.slice ao (dig m).length cap1] 24)).alloc (.cells #[.bool sb,.slice bo (dig k).length cap2] 24)).alloc (.cells #[.bool false,.slice none 0 0] 24)=W3:=⟨_,rfl⟩
 have hWs:W3.heap.size=w.heap.size+1+1+1:=by rw[←hW3];simp
 have hEW:Ext w W3:=by rw[←hW3];exact(((Ext.refl w).alloc _).alloc _).alloc _
 have hS:BX w (w.heap.size+1+1) [(w.heap.size,0,.bool sa),(w.heap.size,1,.slice ao (dig m).length cap1),(w.heap.size+1,0,.bool sb),(w.heap.size+1,1,.slice bo (dig k).length cap2)] W3:=by
  exact T_RZS_1
 have hLn:∀p∈([(w.heap.size,0,.bool sa),(w.heap.size,1,.slice ao (dig m).length cap1),(w.heap.size+1,0,.bool sb),(w.heap.size+1,1,.slice bo (dig k).length cap2)]:List (Nat×Nat×Value)),p.1≠w.heap.size+1+1:=by
  exact T_RZS_2
 have hcm:=r_compare _ _ _ _ W3 (hu.ext hEW) (hv.ext hEW) (dig_nz m) (dig_nz k)
 rw[dig_val,dig_val]at hcm
 have hcg:decide ((0:Int)≤cmpI m k)=false:=by
  unfold cmpI
  rw[if_pos (by omega)]
  rfl
 have hlk:(dig m).length≤(dig k).length:=dig_mono (Nat.le_of_lt hkm)
 have hvk:val (dig m)≤val (dig k):=by rw[dig_val,dig_val];omega
 generalize cmpI m k=R at hcm hcg
 subst hW3
 clear v1 v4 v5 y1 y4 y5 hWs
 go_enter Tryz.func163,Tryz.ntmps163
 have hs4:(dig ((k-m))).length≤4096:=hs3
 have q0:=BX.get hS 0 rfl
 have q2:=BX.get hS 2 rfl
 go_upto_region 5 with(go_at_call 177;(with_reducible refine hcm.mono ?_);rintro e w1 ⟨rfl,hb⟩;have q0:=BX.get (hS.ext hb) 0 rfl;have q2:=BX.get (hS.ext hb) 2 rfl)
 have hS0:=hS.ext hb
 clear hS hb
 refine wp_region_held_drew (S:=(fun w0=>BX w (w.heap.size+1+1) [(w.heap.size,0,.bool sa),(w.heap.size,1,.slice ao (dig m).length cap1),(w.heap.size+1,0,.bool sb),(w.heap.size+1,1,.slice bo (dig k).length cap2)] w0)) c_3 ?_ (fun hH=> ?_)
 ·exact hS0.drew
 try simp only[sx_]
 refine sK 0 ?_
 refine tk 1 rfl c_0 ?_
 try simp only[sx_]
 refine sK 2 ?_
 refine tk 3 rfl c_0 ?_
 try simp only[sx_]
 refine sK 4 ?_
 refine tk 5 rfl c_0 ?_
 try simp only[sx_]
 refine rh1 6 rfl fun K hK=> ?_
 go_simp
 (go_at_call 182;(with_reducible refine(r_minus _ _ _ _ _ (hv.ext hH.base) (hu.ext hH.base) hlen.2 hlk hvk).mono ?_);rintro e t2 ⟨s2,zs,rfl,hz2,hval,hx2⟩;obtain⟨ao2,bb2,oo2,cc2,rfl,_⟩:=hz2.view)
 have hv2:val zs=(((k-m):Nat):Int):=by rw[hval,dig_val,dig_val];exact(Int.ofNat_sub (Nat.le_of_lt hkm)).symm
 refine hK.out _ _ ?_ fun _=> ?_
 ·exact b_5
 clear hK K hH
 rename_i hH
 try simp only[sx_]
 refine rh1 7 rfl fun K hK=> ?_
 go_simp
 (go_at_call 67;(with_reducible refine(r_madeS sb _ _ (k-m) _ hz2 hv2 hs4).mono ?_);rintro e t3 ⟨s3,bo3,rfl,hz3,hbo3,hx3⟩;obtain⟨ao3,bb3,oo3,cc3,rfl,_⟩:=hz3.view)
 refine hK.out _ _ ?_ fun _=> ?_
 ·exact b_6
 clear hK K hH
 rename_i hH
 try simp only[sx_]
 refine sK 8 ?_
 refine sK 9 ?_
 refine rh1 10 rfl fun K hK=> ?_
 obtain⟨⟨xa,h3a⟩,⟨xb,h3b⟩,h3f,hnu,hsl⟩:=hH.box
 go_simp
 refine hK.out _ _ ?_ fun _=> ?_
 ·exact T_RZS_3
 clear hK K hH
 rename_i hH
 try simp only[sx_]
 refine sK 11 ?_
 refine wpAnyH_done c_3 ?_ _
 go_wp2_with fail
 refine bodyPost_ret (v:=.tuple #[.agg #[.bool bo3,.slice ao3 (dig (k-m)).length cc3],O 0]) ?_ rfl ⟨_,rfl,Wid.mk' (Lim.box (Lim.box hz3 hnu) (NoU.set hnu (fun z e=>by cases e))) hbo3, ?_⟩
 ·exact T_RZS_4
 ·exact hH.base
theorem r_sumZ (va vb:Value) (s t:Bool) (m k:Nat) (w:World) (ha:Sm w va s m) (hb0:Sm w vb t k) (hs:Small m) (hs2:Small k) (hs3:Sz (sg s m+sg t k)):
    K_ 163 #[va,vb] w fun e w'=>∃u,e=.returned (.tuple #[u,O 0])∧Wid w' u (sg s m+sg t k)∧Ext w w':=by
 unfold Sz at hs3
 have cast:∀(r:Bool) (z:Nat),sg r z=sg s m+sg t k→(Small z→K_ 163 #[va,vb] w fun e w'=>∃u,e=.returned (.tuple #[u,O 0])∧Wid w' u (sg r z)∧Ext w w')→K_ 163 #[va,vb] w fun e w'=>∃u,e=.returned (.tuple #[u,O 0])∧Wid w' u (sg s m+sg t k)∧Ext w w':=by
  intro r z e h
  rw[←e,sg_abs]at hs3
  rw[←e];exact h hs3
 by_cases hst:s=t
 ·subst hst
  exact cast s (m+k) (by cases s<;>simp[sg]<;>omega) (fun h=>r_sumP s va vb m k w ha hb0 hs hs2 h)
 ·have hab:(s==t)=false:=by simpa using hst
  rcases Nat.lt_or_ge m k with h1|h1
  ·exact cast t (k-m) (by cases s<;>cases t<;>simp_all [sg]<;>omega) (fun h=>r_sumB s t va vb m k w ha hb0 hs hs2 h hab h1)
  ·exact cast s (m-k) (by cases s<;>cases t<;>simp_all [sg]<;>omega) (fun h=>r_sumA s t va vb m k w ha hb0 hs hs2 h hab h1)
theorem top_le {M Y:List Int} {n:Nat} {a v:Int} (hM:M.length=n+2) (hY:Y.length=n+1) (lM:Lb M) (lY:Lb Y) (ha:M.getD (n+1) 0=a) (hv:Y.getD n 0=v) (h:val M<BB*val Y):a≤v:=by
 have e1:=val_take_succ' M (n+1)
 rw[List.take_of_length_le (by omega),ha]at e1
 have e2:=val_take_succ' Y n
 rw[List.take_of_length_le (by omega),hv]at e2
 have p1:=val_nonneg (lM.take (n+1))
 have p2:=val_lt (lY.take n)
 rw[List.length_take,Nat.min_eq_left (by omega)]at p2
 have hP:(0:Int)<BB^n:=Int.pow_pos (by decide)
 rw[Int.pow_succ]at e1
 generalize val (M.take (n+1))=A at*
 generalize val (Y.take n)=R at*
 have h4:BB=4294967296:=rfl
 generalize hC:BB^n=C at*
 rw[h4]at h e1
 have h1:C*a<C*(v+1):=by
  have e3:C*4294967296*a=4294967296*(C*a):=by grind
  have e4:C*(v+1)=C*v+C:=by grind
  omega
 have:=Int.lt_of_mul_lt_mul_left h1 (Int.le_of_lt hP)
 omega
theorem guess_ok2 {M Y:List Int} {n:Nat} {a b v:Int} (hM:M.length=n+2) (hY:Y.length=n+1) (lM:Lb M) (lY:Lb Y) (ha:M.getD (n+1) 0=a) (hb:M.getD n 0=b) (hv:Y.getD n 0=v) (h:0<v):
    val M<((a*4294967296+b)/v+1)*val Y:=by
 have e1:val M=val (M.take n)+BB^n*b+BB^n*(BB*a):=by
  have h2:=val_take_succ' M (n+1)
  rw[List.take_of_length_le (by omega),val_take_succ',ha,hb,Int.pow_succ]at h2
  rw[h2];grind
 have e2:val Y=val (Y.take n)+BB^n*v:=by
  have h2:=val_take_succ' Y n
  rw[List.take_of_length_le (by omega),hv]at h2
  exact h2
 have l1:=val_lt (lM.take n)
 rw[List.length_take,Nat.min_eq_left (by omega)]at l1
 have l2:=val_nonneg (lY.take n)
 have a0:0≤a:=by rw[←ha];exact(lM.getD _).1
 have b0:0≤b:=by rw[←hb];exact(lM.getD _).1
 have hq:=Int.lt_ediv_add_one_mul_self (a*4294967296+b) h
 have hq0:0≤(a*4294967296+b)/v:=Int.ediv_nonneg (by omega) (by omega)
 generalize(a*4294967296+b)/v=q at*
 rw[e1,e2]
 have hP:(0:Int)≤BB^n:=Int.pow_nonneg (by decide)
 generalize val (M.take n)=P at*
 generalize val (Y.take n)=R at*
 have m1:BB^n*(a*4294967296+b+1)≤BB^n*((q+1)*v):=Int.mul_le_mul_of_nonneg_left (by omega) hP
 have m2:0≤(q+1)*R:=Int.mul_nonneg (by omega) l2
 have h4:BB=4294967296:=rfl
 generalize hC:BB^n=C at*
 rw[h4]
 have m3:C*(a*4294967296+b+1)=C*b+C*(4294967296*a)+C:=by grind
 have m4:(q+1)*(R+C*v)=(q+1)*R+C*((q+1)*v):=by grind
 omega
theorem guess_less {M Y:List Int} {n:Nat} {a b c v v' q r:Int} (hM:M.length=n+3) (hY:Y.length=n+2) (lM:Lb M) (lY:Lb Y) (ha:M.getD (n+2) 0=a) (hb:M.getD (n+1) 0=b) (hc:M.getD n 0=c) (hv:Y.getD (n+1) 0=v) (hv':Y.getD n 0=v')
    (hq:q*v+r=a*4294967296+b) (h0:0≤q) (h:r*4294967296+c<q*v'):val M<q*val Y:=by
 have e1:val M=val (M.take n)+BB^n*(c+BB*b+BB*BB*a):=by
  have h2:=val_take_succ' M (n+2)
  rw[List.take_of_length_le (by omega),val_take_succ',val_take_succ',ha,hb,hc,Int.pow_succ,Int.pow_succ]at h2
  rw[h2];grind
 have e2:val Y=val (Y.take n)+BB^n*(v'+BB*v):=by
  have h2:=val_take_succ' Y (n+1)
  rw[List.take_of_length_le (by omega),val_take_succ',hv,hv',Int.pow_succ]at h2
  rw[h2];grind
 have l1:=val_lt (lM.take n)
 rw[List.length_take,Nat.min_eq_left (by omega)]at l1
 have l2:=val_nonneg (lY.take n)
 have hP:(0:Int)≤BB^n:=Int.pow_nonneg (by decide)
 rw[e1,e2]
 generalize val (M.take n)=P at*
 generalize val (Y.take n)=R at*
 generalize BB^n=C at*
 have h4:BB=4294967296:=rfl
 rw[h4]
 have m0:1+c+4294967296*b+4294967296*4294967296*a≤q*(v'+4294967296*v):=by
  have e3:q*(v'+4294967296*v)=q*v'+4294967296*(q*v):=by grind
  omega
 have m1:C*(1+c+4294967296*b+4294967296*4294967296*a)≤C*(q*(v'+4294967296*v)):=Int.mul_le_mul_of_nonneg_left m0 hP
 have m2:0≤q*R:=Int.mul_nonneg h0 l2
 have m3:q*(R+C*(v'+4294967296*v))=q*R+C*(q*(v'+4294967296*v)):=by grind
 have m4:C*(1+c+4294967296*b+4294967296*4294967296*a)=C+C*(c+4294967296*b+4294967296*4294967296*a):=by grind
 omega
theorem row3_get {A ps R C:List Int} {o j:Nat} (hA:A.length=o) (hp:ps.length=j) (hj:j<R.length):(A++(ps++(R.drop j++C))).getD (o+j) 0=R.getD j 0:=by
 rw[List.getD_eq_getElem?_getD,List.getElem?_append_right (by omega),List.getElem?_append_right (by omega),List.getElem?_append_left (by rw[List.length_drop];omega),List.getElem?_drop, ←List.getD_eq_getElem?_getD]
 congr 1;omega
theorem row3_set {A ps R C:List Int} {o j:Nat} {z:Int} (hA:A.length=o) (hp:ps.length=j) (hj:j<R.length):(A++(ps++(R.drop j++C))).set (o+j) z=A++((ps++[z])++(R.drop (j+1)++C)):=by
 rw[List.set_append_right _ _ (by omega),List.set_append_right _ _ (by omega),List.set_append_left _ _ (by rw[List.length_drop];omega),show o+j-A.length-ps.length=0 from by omega,List.drop_eq_getElem_cons hj,List.set_cons_zero,List.append_assoc]
 rfl
theorem row_mid {U:List Int} {o m:Nat}:U.take o++(((U.drop o).take m).drop 0++U.drop (o+m))=U:=by
 rw[List.drop_zero, ←List.drop_drop,List.take_append_drop,List.take_append_drop]
theorem back_step {R Y ps:List Int} {i:Nat} {c u y:Int} (hv:val ps+BB^i*c=val (R.take i)+val (Y.take i)) (hl:ps.length=i) (hu:R.getD i 0=u) (hy:Y.getD i 0=y):
    val (ps++[(c+u+y)%4294967296])+BB^(i+1)*((c+u+y)/4294967296)=val (R.take (i+1))+val (Y.take (i+1)):=by
 rw[val_take_succ',val_take_succ',hu,hy,val_append,hl]
 simp only[val]
 have hm:=lim_mod (c+u+y)
 have h4:BB=4294967296:=rfl
 rw[h4]at hm hv ⊢
 generalize(c+u+y)%4294967296=t at hm ⊢
 generalize(c+u+y)/4294967296=c' at hm ⊢
 rw[Int.pow_succ]
 generalize(4294967296:Int)^i=C at*
 generalize val (R.take i)=V at*
 generalize val (Y.take i)=W at*
 generalize val ps=Z at*
 have e1:C*(t+4294967296*c')=C*(c+u+y):=by rw[hm]
 grind
end Go.Proofs.YtaoioncjmfcolaaGreat
namespace Go.Proofs.YtaoioncjmfcolaaGreat
open Go.RowKit Go.Shelf
theorem T_DG_4 {p:Prop} (h:p:=by
 have hP:D%4294967296=D:=by omega
 have hB: -(D/4294967296)=0:=by omega
 rw[hP]at hset hes
 rw[hP,hB]at hrelN
 exact T_DG_2):p:=h
theorem T_DG_3 {p:Prop} (h:p:=by
 have hP:D%4294967296=D+4294967296:=by omega
 have hB: -(D/4294967296)=1:=by omega
 rw[hP]at hset hes
 rw[hP,hB]at hrelN
 exact T_DG_2):p:=h
theorem T_DG_2 {p:Prop} (h:p:=by
 go_wp2_with fail
 go_roundw
 case rel=>exact hrelN.out _ hset hes
 case measure=>simp[intOf];omega):p:=h
theorem T_DG_1 {p:Prop} (h:p:=by
 go_wp2_with fail
 go_quiet (fail)
 have hT1:(q-1)*v+(r+v)=T:=by rw[Int.sub_mul,Int.one_mul];omega
 have hlt2:val M<(q-1+1)*val Y:=by rw[Int.sub_add_cancel];exact hlt1
 have hq64:IntKind.u64.wrap (q-1)=q-1:=u64_small (by omega) (by omega)
 have hr64:IntKind.u64.wrap (r+v)=r+v:=u64_small (by omega) (by unfold U32 at gv;omega)
 by_cases h2:4294967296≤r+v
 ·have h3:q-1<4294967296:=by
   rcases Int.lt_or_le (q-1) 4294967296 with h|h
   ·exact h
   ·have m1:4294967296*v≤(q-1)*v:=Int.mul_le_mul_of_nonneg_right h (Int.le_of_lt hv0)
    have m2:a*4294967296≤v*4294967296:=Int.mul_le_mul_of_nonneg_right hal (by decide)
    omega
  have d2:decide ((4294967296:Int)≤r+v)=true:=decide_eq_true h2
  have d3:decide (q-1<(4294967296:Int))=true:=decide_eq_true h3
  go_wp2_with fail
  go_meet
  exact⟨q-1,rfl,⟨by omega,h3⟩,hlt2,HE.out.drewN _⟩
 ·have d2:decide ((4294967296:Int)≤r+v)=false:=decide_eq_false h2
  go_wp2_with fail
  go_roundw
  case rel=>exact⟨q-1,r+v,rfl,rfl,hT1,by omega,by omega,by omega,by omega,hlt2,(HE.out.drewN _:Ext _ _)⟩
  case measure=>simp[intOf];omega):p:=h
theorem and32 (T:Int) (h0:0≤T) (h1:T<18446744073709551616):bits .and .u64 T 4294967295=T%4294967296:=by
 obtain⟨n,rfl⟩:=Int.eq_ofNat_of_zero_le h0
 rw[show(4294967295:Int)=((2^32-1:Nat):Int)from rfl,u64_and_nat _ _ (by omega) (by decide),Nat.and_two_pow_sub_one_eq_mod]
 rfl
def DgJ (M Y:List Int) (q:Int) (w:World) (g n cap n1:Nat) (A C:List Int) (bv:Value) (wx:World):Prop:=∃(t:Int) (R:List Int),bv=O t∧0≤t∧t≤1∧R.length=n1+3∧Lb R∧val R-BB^(n1+3)*t=val M-q*val Y∧O32 wx 0 g n cap (A++(R++C))∧w.grownBy wx (some g)
def DgK (M Y:List Int) (q:Int) (w:World) (g n cap n1:Nat) (A C:List Int) (bv cv iv:Value) (wr:World):Prop:=∃(j:Nat) (t z:Int) (ps:List Int),j≤n1+3∧bv=O t∧cv=.int .u64 z∧iv=O j∧0≤t∧t≤1∧U32 z∧(j=n1+3→z=0)∧ps.length=j∧Lb ps∧val ps-BB^j*(t+z)=val (M.take j)-q*val (Y.take j)∧Hid (O32 wr 0 g n cap (A++(ps++(M.drop j++C))))∧Hid (w.grownBy wr (some g))
def DgL (M Y:List Int) (w:World) (g n cap n1:Nat) (A C:List Int) (qv bv:Value) (wr:World):Prop:=∃(q t:Int) (R:List Int),qv=.int .u64 q∧U32 q∧bv=O t∧0≤t∧t≤1∧R.length=n1+3∧Lb R∧val R-BB^(n1+3)*t=val M-q*val Y∧val M<(q+1)*val Y∧Hid (O32 wr 0 g n cap (A++(R++C)))∧Hid (w.grownBy wr (some g))
def DgN (R Y:List Int) (w:World) (g n cap n1:Nat) (A C:List Int) (cv iv:Value) (wr:World):Prop:=∃(j:Nat) (z:Int) (ps:List Int),j≤n1+3∧cv=.int .u64 z∧iv=O j∧0≤z∧z≤1∧ps.length=j∧Lb ps∧val ps+BB^j*z=val (R.take j)+val (Y.take j)∧Hid (O32 wr 0 g n cap (A++(ps++(R.drop j++C))))∧Hid (w.grownBy wr (some g))
def DgI (M Y:List Int) (v T:Int) (w:World) (qv rv:Value) (wr:World):Prop:=∃q r:Int,qv=.int .u64 q∧rv=.int .u64 r∧q*v+r=T∧0≤q∧q≤T∧0≤r∧r<4294967296∧val M<(q+1)*val Y∧Hid (Ext w wr)
theorem r_digit (g o n cap cu n1:Nat) (U Y:List Int) (vb:Value) (w:World) (hYl:Y.length=n1+2) (hU:O32 w 0 g n cap U) (hon:o+(n1+2+1)≤n) (hcu:n1+2+1≤cu∧cu≤9223372036854775807) (hb:Lim w vb Y) (hoff:Off vb g) (hUb:Lb U) (hY:n1≤49990)
    (h0:Y.getD (n1+1) 0≠0) (hlt:val ((U.drop o).take (n1+2+1))<BB*val Y):
    K_ 180 #[.slice (some ⟨g,o,none⟩) (n1+2+1) cu,vb] w fun e w'=>∃d R,e=.returned (.int .u32 d)∧U32 d∧O32 w' 0 g n cap (U.take o++(R++U.drop (o+(n1+2+1))))∧R.length=n1+2+1∧Lb R∧val R=val ((U.drop o).take (n1+2+1))-d*val Y∧val R<val Y∧w.grownBy w' (some g):=by
 have lY:=hb.lb
 have hUl:=hU.len
 have hM:=hU.mid (o:=o) (m:=n1+2+1) hUb hon hcu (by omega)
 have hrow:=row_mid (U:=U) (o:=o) (m:=n1+2+1)
 obtain⟨M,eM⟩:∃M,(U.drop o).take (n1+2+1)=M:=⟨_,rfl⟩
 have hMl:M.length=n1+3:=by rw[←eM];simp;omega
 have lM:=hM.lb
 have ea:M.getD (n1+2) 0=U.getD (o+(n1+2)) 0:=by rw[←eM];exact mid_get (by omega)
 have eb:M.getD (n1+1) 0=U.getD (o+(n1+1)) 0:=by rw[←eM];exact mid_get (by omega)
 have ec:M.getD n1 0=U.getD (o+n1) 0:=by rw[←eM];exact mid_get (by omega)
 have ca:=hU.cell (k:=o+(n1+2)) (by omega)
 have cb:=hU.cell (k:=o+(n1+1)) (by omega)
 have cc:=hU.cell (k:=o+n1) (by omega)
 rw[←ea]at ca
 rw[←eb]at cb
 rw[←ec]at cc
 rw[eM]at hM lM hlt hrow ⊢
 have ga:U32 (M.getD (n1+2) 0):=lM.getD _
 have gb:U32 (M.getD (n1+1) 0):=lM.getD _
 have gc:U32 (M.getD n1 0):=lM.getD _
 have gv:U32 (Y.getD (n1+1) 0):=lY.getD _
 have gv2:U32 (Y.getD n1 0):=lY.getD _
 obtain⟨bo,b2,o2,cap2,rfl,y1,y2,y3,y4,y5,y6⟩:=hb.view
 have eB:=y1 (by omega)
 subst eB
 have hb2:=y4 (by omega)
 have hgp:=hU.parts
 have cv:=y5 (n1+1) (by omega)
 have cv2:=y5 n1 (by omega)
 have hal:=top_le (n:=n1+1) (by omega) hYl lM lY rfl rfl hlt
 have hgs:=guess_ok2 (n:=n1+1) (by omega) hYl lM lY rfl rfl rfl (show 0<Y.getD (n1+1) 0 by unfold U32 at gv;omega)
 have hgl:=fun q r (h1:q*Y.getD (n1+1) 0+r=M.getD (n1+2) 0*4294967296+M.getD (n1+1) 0)=>guess_less (n:=n1) (q:=q) (r:=r) hMl hYl lM lY rfl rfl rfl rfl rfl h1
 obtain⟨A,hA⟩:∃A,U.take o=A:=⟨_,rfl⟩
 obtain⟨C,hC⟩:∃C,U.drop (o+(n1+2+1))=C:=⟨_,rfl⟩
 have hAl:A.length=o:=by rw[←hA,List.length_take];omega
 rw[hA,hC]at hrow ⊢
 generalize M.getD (n1+2) 0=a at*
 generalize M.getD (n1+1) 0=b at*
 generalize M.getD n1 0=c at*
 obtain⟨v,ev⟩:∃v,Y.getD (n1+1) 0=v:=⟨_,rfl⟩
 obtain⟨v',ev'⟩:∃v',Y.getD n1 0=v':=⟨_,rfl⟩
 rw[ev]at gv cv hal hgs hgl h0
 rw[ev']at gv2 cv2 hgl
 rw[hYl]at hb hoff
 have cvAll:Hid (∀i,i<Y.length→w.cell? ⟨b2,o2+i,none⟩=some (.int .u32 (Y.getD i 0))):=y5
 have hne:b2≠g:=hoff _ _ _ rfl
 clear y1 y5 y4 ea eb ec eM hA hC
 rw[hYl]
 have hge:w.grownBy w (some g):=World.grownBy.refl _ _
 have hEw:Ext w w:=Ext.refl w
 obtain⟨T,eT⟩:∃T,a*4294967296+b=T:=⟨_,rfl⟩
 rw[eT]at hgs hgl
 have T0:0≤T:=by unfold U32 at ga gb;omega
 have T1:T<18446744073709551616:=by unfold U32 at ga gb;omega
 have hv0:0<v:=by unfold U32 at gv;omega
 have hTq0:0≤T/v:=Int.ediv_nonneg T0 (by omega)
 have hTr0:=Int.emod_nonneg T h0
 have hTr1:=Int.emod_lt_of_pos T hv0
 have hTd:=Int.emod_add_mul_ediv T v
 have hTq1:T/v≤T:=Int.ediv_le_self v T0
 have hw1:IntKind.u64.wrap (T.tdiv v)=T/v:=by rw[Int.tdiv_eq_ediv_of_nonneg T0];exact u64_small hTq0 (by omega)
 have hw2:T.tmod v=T%v:=Int.tmod_eq_emod_of_nonneg T0
 have hw3:IntKind.u64.wrap (T%v)=T%v:=u64_small hTr0 (by unfold U32 at gv;omega)
 have hw4:IntKind.u64.wrap v=v:=u64_small (by omega) (by unfold U32 at gv;omega)
 have ga0:=ga
 have gb0:=gb
 unfold U32 at ga0 gb0
 go_enter Tryz.func180,Tryz.ntmps180
 go_wp2_with fail
 go_quiet (fail)
 go_wp2_with fail
 go_quiet (fail)
 go_upto_block 0 with fail
 go_cut [7,8]from 45 to 86 (fun s7 s8 wx=>∃q:Int,s7=.int .u64 q∧U32 q∧val M<(q+1)*val Y∧Ext w wx)
 case first=>
  go_wp2_with fail
  have hTs:T/v*v+T%v=T:=by rw[Int.mul_comm];omega
  go_loopw [7,8] (fun qv rv wr=>DgI M Y v T w qv rv wr) (fun qv _ _=>(intOf qv).toNat)
  case atStart=>exact⟨T/v,T%v,rfl,rfl,hTs,hTq0,hTq1,hTr0,by unfold U32 at gv;omega,hgs,((hEw.drewN _).drewN _:Ext _ _)⟩
  case round=>
   obtain⟨q,r,rfl,rfl,hqr,q0,qT,r0,r1,hqM,HE⟩:=hrel
   have hEwr:=HE.out
   have ca2:=(hEwr.cells.1 _ (o+n1) hgp.1).trans cc
   have cb2:=(hEwr.cells.1 _ (o2+n1) hb2).trans cv2
   have cb3:=(hEwr.cells.1 _ (o2+(n1+1)) hb2).trans cv
   by_cases hbig:4294967296≤q
   ·have hcb:decide ((4294967296:Int)≤q)=true:=decide_eq_true hbig
    have hlt1:val M<q*val Y:=by
     have m1:BB*val Y≤q*val Y:=Int.mul_le_mul_of_nonneg_right hbig (val_nonneg lY)
     omega
    exact T_DG_1
   ·have hcb:decide ((4294967296:Int)≤q)=false:=decide_eq_false hbig
    have hcr:decide (r<(4294967296:Int))=true:=decide_eq_true r1
    have hqU:U32 q:=⟨q0,by omega⟩
    have hpq:=prod_lim hqU gv2
    have hwq:IntKind.u64.wrap (q*v')=q*v':=u64_small hpq.1 hpq.2
    have gc0:=gc
    have gv20:=gv2
    unfold U32 at gc0 gv20
    have hwr:IntKind.u64.wrap (r*4294967296)=r*4294967296:=u64_small (by omega) (by omega)
    have hwr2:IntKind.u64.wrap (r*4294967296+c)=r*4294967296+c:=u64_small (by omega) (by omega)
    have hwc:IntKind.u64.wrap c=c:=u64_small (by omega) (by omega)
    have hwv:IntKind.u64.wrap v'=v':=u64_small (by omega) (by omega)
    by_cases h4:r*4294967296+c<q*v'
    ·have hc4:decide (r*4294967296+c<q*v')=true:=decide_eq_true h4
     have hlt1:val M<q*val Y:=hgl q r hqr q0 h4
     have hq1:1≤q:=by
      rcases Int.lt_or_le 0 q with h|h
      ·omega
      ·have:q=0:=by omega
       subst this;simp only[Int.zero_mul]at h4;omega
     exact T_DG_1
    ·have hc4:decide (r*4294967296+c<q*v')=false:=decide_eq_false h4
     go_wp2_with fail
     go_quiet (fail)
     go_wp2_with fail
     go_meet
     exact⟨q,rfl,hqU,hqM,HE.out.drewN _⟩
 case rest=>
  obtain⟨q,rfl,hq,hqM,hEc⟩:=hcut
  clear hw1 hw2 hw3 hgs hgl hTd hTq1 hTr0 hTr1 hTq0 hal
  have hgc:=grown_ext hge hEc
  have hU1:=hU.ext hEc
  rw[←hrow]at hU1
  go_upto_block 2 with fail
  go_cut [9,10,11,12]from 87 to 125 (fun s9 s10 s11 s12 wx=>DgJ M Y q w g n cap n1 A C s9 wx)
  case first=>
   go_wp2_with fail
   go_loopw [9,10,11] (fun bv cv iv wr=>DgK M Y q w g n cap n1 A C bv cv iv wr) (fun _ _ i _=>n1+3-(intOf i).toNat)
   case atStart=>exact⟨0,0,0,[],Nat.zero_le _,rfl,rfl,rfl,by decide,by decide,⟨by decide,by decide⟩,fun _=>rfl,rfl,Lb.nil,by simp[val],hU1,hgc⟩
   case round=>
    obtain⟨j,t,z,ps,hj,rfl,rfl,rfl,t0,t1,hz,hz0,hpl,hpb,hv,HR,HE⟩:=hrel
    have hz2:=hz
    unfold U32 at hz2
    rcases Nat.eq_or_lt_of_le hj with rfl|hj2
    ·have hzz:=hz0 rfl
     subst hzz
     have hres:DgJ M Y q w g n cap n1 A C (O t) wr:=by
      refine⟨t,ps,rfl,t0,t1,hpl,hpb, ?_, ?_,HE.out⟩
      ·rw[List.take_of_length_le (l:=M) (by omega),List.take_of_length_le (l:=Y) (by omega),Int.add_zero]at hv;exact hv
      ·have hdn:M.drop (n1+3)=[]:=List.drop_eq_nil_of_le (by omega)
       have:=HR.out;rw[hdn,List.nil_append]at this;exact this
     replace hres:Hid _:=hres
     clear hv HR
     go_wp2_with fail
     go_meet
     exact hres.out
    ·have hcu0:=HR.out.cell (k:=o+j) (by omega)
     rw[row3_get hAl hpl (by omega)]at hcu0
     have hfu:=HR.out.frozen (o+j)
     have hgl:=HR.out.parts
     have huU:U32 (M.getD j 0):=lM.getD j
     obtain⟨u,eu⟩:∃u,M.getD j 0=u:=⟨_,rfl⟩
     rw[eu]at hcu0 huU
     have hyU:U32 (Y.getD j 0):=lY.getD j
     obtain⟨y,ey⟩:∃y,Y.getD j 0=y:=⟨_,rfl⟩
     rw[ey]at hyU
     have hst:=sub_step hv hpl eu ey
     obtain⟨l1,l2,l3,l4,l5,l6⟩:=sub_lim hq hyU hz ⟨t0,t1⟩ huU
     have l7:=prod_lim hq hyU
     have hset:=HR.out.set (o+j) ((u-(z+q*y)%4294967296-t)%4294967296)
     rw[row3_set hAl hpl (by omega)]at hset
     have hes:=grown_set (k:=o+j) HE.out (.int .u32 ((u-(z+q*y)%4294967296-t)%4294967296))
     have hwq:IntKind.u64.wrap q=q:=u64_small hq.1 (by unfold U32 at hq;omega)
     have hwy:IntKind.u64.wrap y=y:=u64_small hyU.1 (by unfold U32 at hyU;omega)
     have hwqy:IntKind.u64.wrap (q*y)=q*y:=u64_small l7.1 l7.2
     have hwz:IntKind.u64.wrap (z+q*y)=z+q*y:=u64_small l1 l2
     have hand:=and32 (z+q*y) l1 l2
     have hlast:j+1=n1+3→(z+q*y)/4294967296=0:=fun h=>by
      have:y=0:=by rw[←ey,List.getD_eq_getElem?_getD,List.getElem?_eq_none (by omega)];rfl
      subst this;rw[Int.mul_zero,Int.add_zero];exact Int.ediv_eq_zero_of_lt hz2.1 hz2.2
     obtain⟨l,el⟩:∃l,(z+q*y)%4294967296=l:=⟨_,rfl⟩
     obtain⟨h,eh⟩:∃h,(z+q*y)/4294967296=h:=⟨_,rfl⟩
     rw[el]at hst l3 l5 l6 hset hes hand
     rw[eh]at hst l4 hlast
     have l30:=l3
     have hu0:=huU
     unfold U32 at l30 hu0
     obtain⟨D,eD⟩:∃D,u-l-t=D:=⟨_,rfl⟩
     rw[eD]at hst l5 l6 hset hes
     obtain⟨S1,eS⟩:∃S1,z+q*y=S1:=⟨_,rfl⟩
     rw[eS]at el eh hand hwz
     have hrelN:∀wz:World,Hid (O32 wz 0 g n cap (A++((ps++[D%4294967296])++(M.drop (j+1)++C))))→Hid (w.grownBy wz (some g))→DgK M Y q w g n cap n1 A C (O (-(D/4294967296))) (.int .u64 h) (O ((j:Int)+1)) wz:=fun wz k1 k2=>
      ⟨j+1,_,h,ps++[D%4294967296],hj2,rfl,rfl,by go_num,l5,l6,l4,hlast,by simp[hpl],hpb.snoc (U32.mod _),hst,k1,k2⟩
     replace hset:Hid _:=hset
     replace hes:Hid _:=hes
     replace hrelN:Hid _:=hrelN
     have hD0: -4294967296≤D∧D<4294967296:=by omega
     clear hst hv eu
     by_cases hjn:j<n1+2
     ·have hcb:=(World.cell?_of_block (a:=⟨b2,o2+j,none⟩) (HE.out.block b2 hb2 (by simpa using hne))).trans (cvAll.out j (by omega))
      rw[ey]at hcb
      clear ey
      rcases Int.lt_or_le D 0 with hD|hD
      ·exact T_DG_3
      ·exact T_DG_4
     ·have hy0:y=0:=by rw[←ey,List.getD_eq_getElem?_getD,List.getElem?_eq_none (by omega)];rfl
      have hj3:j=n1+2:=by omega
      subst hj3
      have hSz:S1=z:=by rw[←eS,hy0,Int.mul_zero,Int.add_zero]
      rw[hSz]at el eh hand hwz
      have hh0:h=0:=hlast rfl
      subst hh0
      clear ey eS
      rcases Int.lt_or_le D 0 with hD|hD
      ·exact T_DG_3
      ·exact T_DG_4
  case rest=>
   obtain⟨t,R,rfl,t0,t1,hRl,lR,hv,hO,hG⟩:=hcut
   clear hU1 hgc
   go_wp2_with fail
   go_loopw [7,9] (fun qv bv wr=>DgL M Y w g n cap n1 A C qv bv wr) (fun qv _ _=>(intOf qv).toNat)
   case atStart=>exact⟨q,t,R,rfl,hq,rfl,t0,t1,hRl,lR,hv,hqM,hO,hG⟩
   case round=>
    clear hv hO hG hqM hRl lR
    obtain⟨p,t,R,rfl,hp,rfl,t0,t1,hRl,lR,hv,hpM,HO,HG⟩:=hrel
    have hp2:=hp
    unfold U32 at hp2
    have hRlt:=val_lt lR
    rw[hRl]at hRlt
    rcases(show t=0∨t=1 by omega)with rfl|rfl
    ·have hvR:val R=val M-p*val Y:=by rw[Int.mul_zero,Int.sub_zero]at hv;exact hv
     have hvl:val R<val Y:=by rw[hvR];rw[Int.add_mul,Int.one_mul]at hpM;omega
     have hpm:p%4294967296=p:=Int.emod_eq_of_lt hp2.1 hp2.2
     replace hvR:Hid _:=hvR
     replace hvl:Hid _:=hvl
     clear hv hpM hRlt
     go_wp2_with fail
     go_ret
     exact⟨p,R,rfl,hp,HO.out,hRl,lR,hvR.out,hvl.out,HG.out⟩
    ·have hneg:val M<p*val Y:=by rw[Int.mul_one]at hv;omega
     have hM0:=val_nonneg lM
     have hp1:1≤p:=by
      rcases Int.lt_or_le 0 p with h|h
      ·omega
      ·have:p=0:=by omega
       subst this;simp only[Int.zero_mul]at hneg;omega
     have hpw:IntKind.u64.wrap (p-1)=p-1:=u64_small (by omega) (by omega)
     have hp3:U32 (p-1):=⟨by omega,by have:=hp.2;omega⟩
     have hneg2:val M<(p-1+1)*val Y:=by rw[Int.sub_add_cancel];exact hneg
     have hfinish:Hid (∀(c:Int) (ps:List Int) (wz:World),0≤c→c≤1→ps.length=n1+3→Lb ps→val ps+BB^(n1+3)*c=val (R.take (n1+3))+val (Y.take (n1+3))→O32 wz 0 g n cap (A++(ps++C))→w.grownBy wz (some g)→DgL M Y w g n cap n1 A C (.int .u64 (p-1)) (O (1-c)) wz):=fun c ps wz c0 c1 k1 k2 k3 k4 k5=>by
      refine⟨p-1,1-c,ps,rfl,hp3,rfl,by omega,by omega,k1,k2, ?_,hneg2,k4,k5⟩
      rw[List.take_of_length_le (l:=R) (by omega),List.take_of_length_le (l:=Y) (by omega)]at k3
      rw[Int.mul_one]at hv
      rw[Int.mul_sub,Int.mul_one,Int.sub_mul,Int.one_mul]
      omega
     clear hneg hneg2 hv hpM hRlt
     have hR0:A++([]++(R.drop 0++C))=A++(R++C):=by simp
     have HO1:=HO.out
     rw[←hR0]at HO1
     go_wp2_with fail
     go_loopw [10,13] (fun cv iv wr2=>DgN R Y w g n cap n1 A C cv iv wr2) (fun _ i _=>n1+3-(intOf i).toNat)
     case atStart=>exact⟨0,0,[],Nat.zero_le _,rfl,rfl,by decide,by decide,rfl,Lb.nil,by simp[val],HO1,HG⟩
     case round=>
      obtain⟨j,z,ps,hj,rfl,rfl,z0,z1,hpl,hpb,hvv,HR,HE⟩:=hrel
      rcases Nat.eq_or_lt_of_le hj with rfl|hj2
      ·have hdn:R.drop (n1+3)=[]:=List.drop_eq_nil_of_le (by omega)
       have HR2:=HR.out
       rw[hdn,List.nil_append]at HR2
       have hres:Hid _:=hfinish.out z ps wr z0 z1 hpl hpb hvv HR2 HE.out
       clear hvv HR2 hfinish
       go_wp2_with fail
       go_roundw
       case rel=>exact hres.out
       case measure=>simp[intOf];omega
      ·have hcu0:=HR.out.cell (k:=o+j) (by omega)
       rw[row3_get hAl hpl (by omega)]at hcu0
       have hfu:=HR.out.frozen (o+j)
       have hgl:=HR.out.parts
       have huU:U32 (R.getD j 0):=lR.getD j
       obtain⟨u,eu⟩:∃u,R.getD j 0=u:=⟨_,rfl⟩
       rw[eu]at hcu0 huU
       have hyU:U32 (Y.getD j 0):=lY.getD j
       obtain⟨y,ey⟩:∃y,Y.getD j 0=y:=⟨_,rfl⟩
       rw[ey]at hyU
       have hst:=back_step hvv hpl eu ey
       have hset:=HR.out.set (o+j) ((z+u+y)%4294967296)
       rw[row3_set hAl hpl (by omega)]at hset
       have hes:=grown_set (k:=o+j) HE.out (.int .u32 ((z+u+y)%4294967296))
       unfold U32 at huU hyU
       have hnx:0≤(z+u+y)/4294967296∧(z+u+y)/4294967296≤1:=by omega
       have hrelN:∀wz:World,Hid (O32 wz 0 g n cap (A++((ps++[(z+u+y)%4294967296])++(R.drop (j+1)++C))))→Hid (w.grownBy wz (some g))→DgN R Y w g n cap n1 A C (.int .u64 ((z+u+y)/4294967296)) (O ((j:Int)+1)) wz:=fun wz k1 k2=>
        ⟨j+1,_,ps++[(z+u+y)%4294967296],hj2,rfl,by go_num,hnx.1,hnx.2,by simp[hpl],hpb.snoc (U32.mod _),hst,k1,k2⟩
       replace hset:Hid _:=hset
       replace hes:Hid _:=hes
       replace hrelN:Hid _:=hrelN
       have hww1:IntKind.u64.wrap (z+u)=z+u:=u64_small (by omega) (by omega)
       have hww2:IntKind.u64.wrap (z+u+y)=z+u+y:=u64_small (by omega) (by omega)
       have hww3:IntKind.u64.wrap u=u:=u64_small (by omega) (by omega)
       have hww4:IntKind.u64.wrap y=y:=u64_small (by omega) (by omega)
       clear hst hvv eu
       by_cases hjn:j<n1+2
       ·have hcb:=(World.cell?_of_block (a:=⟨b2,o2+j,none⟩) (HE.out.block b2 hb2 (by simpa using hne))).trans (cvAll.out j (by omega))
        rw[ey]at hcb
        clear ey
        exact T_DG_2
       ·have hy0:y=0:=by rw[←ey,List.getD_eq_getElem?_getD,List.getElem?_eq_none (by omega)];rfl
        have hj3:j=n1+2:=by omega
        subst hj3
        subst hy0
        simp only[Int.add_zero]at hset hes hrelN hww2
        clear ey
        exact T_DG_2
end Go.Proofs.YtaoioncjmfcolaaGreat
