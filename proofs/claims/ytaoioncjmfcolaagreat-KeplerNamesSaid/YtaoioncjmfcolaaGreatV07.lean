/- Limbs: differences. -/
import Derived.Test.YtaoioncjmfcolaaGreatV04
set_option linter.unusedSimpArgs false
set_option linter.unusedVariables false
set_option maxRecDepth 100000
set_option maxHeartbeats 4000000
namespace Go.Proofs.YtaoioncjmfcolaaGreat
open Go.RowKit
theorem T_MI_1 {p:Prop} (h:p:=by
 go_roundw
 case rel=>exact⟨k+1,_,_,hkx,rfl,by go_num,hnx.1,hnx.2,by simp[hzl],hzb.snoc (U32.mod _),hq.out,hst,hes⟩
 case measure=>simp[intOf];omega):p:=h
theorem minus_step {X Y zs:List Int} {k:Nat} {z x y:Int} (hv:val zs-BB^k*z=val (X.take k)-val (Y.take k)) (hl:zs.length=k) (hx:X.getD k 0=x) (hy:Y.getD k 0=y):
    val (zs++[(x-y-z)%4294967296])-BB^(k+1)*(-((x-y-z)/4294967296))=val (X.take (k+1))-val (Y.take (k+1)):=by
 rw[val_append,hl,val_take_succ',val_take_succ',hx,hy,Int.pow_succ]
 simp only[val]
 have e:=lim_mod (x-y-z)
 change (x-y-z)%4294967296+4294967296*((x-y-z)/4294967296)=x-y-z at e
 generalize(x-y-z)%4294967296=r at*
 generalize(x-y-z)/4294967296=q at*
 have e2:BB^k*(r+4294967296*q)=BB^k*(x-y-z):=by rw[e]
 unfold BB at*
 grind
theorem w_minus (va vb:Value) (X Y:List Int) (w:World) (ha:Lim w va X) (hb:Lim w vb Y) (hx:X.length≤100000) (hle:Y.length≤X.length) (hv0:val Y≤val X):
    K_ 135 #[va,vb] w fun e w'=>∃u zs,e=.returned u∧Lim w' u zs∧val zs=val X-val Y∧Ext w w':=by
  obtain⟨aoA,bA,oA,cA,rfl,a1,a2,a3,a4,a5,a6⟩:=ha.view
  obtain⟨aoB,bB,oB,cB,rfl,b1,b2,b3,b4,b5,b6⟩:=hb.view
  have lA:=ha.lb
  have lB:=hb.lb
  obtain⟨i0,hi,hz0,hz1,hz2⟩:=info_parts info81
  go_enter Tryz.func135,Tryz.ntmps135
  go_wp2_with (at_make;refine wpList_make_full _ rfl _ _ 22 rfl w.heap.size 54 i0 (.int .u32 0) 1 Tryz.underlying22 hi hz0 hz1 .i64 .i64 _ _ X.length rfl rfl (by omega) (by omega) c_48 c_31 (Nat.le_refl _) ?_;intro w0 hown0 hgrow0)
  have hR0:R32 w0 w.heap.size w.heap.size X.length (List.replicate X.length 0):=R32.made hown0
  have hE0:Ext w w0:=Ext.grown (Ext.refl w) hgrow0
  clear hown0 hgrow0
  go_loopw [6,15] (fun c i wr=>∃(k:Nat) (z:Int) (zs:List Int),k≤X.length∧c=.int .u32 z∧i=O k∧0≤z∧z≤1∧zs.length=k∧Lb zs∧val zs-BB^k*z=val (X.take k)-val (Y.take k)∧
      Hid (R32 wr w.heap.size w.heap.size X.length (zs++List.replicate (X.length-k) 0))∧Hid (Ext w wr)) (fun _ i _=>X.length-(intOf i).toNat)
  case atStart=>exact⟨0,0,[],Nat.zero_le _,rfl,rfl,by decide,by decide,rfl,Lb.nil,by simp[val],hR0,hE0⟩
  case round=>
    obtain⟨k,z,zs,hk,rfl,rfl,z0,z1,hzl,hzb,hv,HR,HE⟩:=hrel
    by_cases hkx:k<X.length
    · have hg:=HR.out.zero hzl hkx
      have hgf:=HR.out.frozen k
      have hglt:=HR.out.lt
      have eA:=a1 (by omega)
      subst eA
      have hca:=(HE.out.cells.1 _ (oA+k) (a4 (by omega))).trans (a5 k hkx)
      have hxk:U32 (X.getD k 0):=lA.getD k
      have hyk:U32 (Y.getD k 0):=lB.getD k
      obtain⟨x,ex⟩:∃x,X.getD k 0=x:=⟨_,rfl⟩
      obtain⟨y,ey⟩:∃y,Y.getD k 0=y:=⟨_,rfl⟩
      have hq:=minus_step hv hzl ex ey
      rw[ex]at hca hxk
      rw[ey]at hyk
      have hst:=HR.out.step hzl (by omega) ((x-y-z)%4294967296)
      have hes:Ext w (wr.setCell ⟨w.heap.size,k,none⟩ (.int .u32 ((x-y-z)%4294967296))):=HE.out.setCell (p:=⟨w.heap.size,k,none⟩) (Nat.le_refl _) _
      have hnx:0≤ -((x-y-z)/4294967296)∧ -((x-y-z)/4294967296)≤1:=by unfold U32 at hxk hyk;omega
      replace hst:Hid _:=hst
      replace hes:Hid _:=hes
      replace hq:Hid _:=hq
      by_cases hky:k<Y.length
      · have eB:=b1 (by omega)
        subst eB
        have hcb:=(HE.out.cells.1 _ (oB+k) (b4 (by omega))).trans (b5 k hky)
        rw[ey]at hcb
        clear ex ey hv a5 b5
        go_wp2_with (go_at_call 164;(with_reducible refine(w_sub32 x y z _ hxk hyk ⟨z0,z1⟩).mono ?_);rintro e w2 ⟨rfl,rfl⟩)
        exact T_MI_1
      · have hy0:y=0:=by rw[←ey,List.getD_eq_getElem?_getD,List.getElem?_eq_none (by omega)];rfl
        subst hy0
        clear ex ey hv a5 b5
        simp only[Int.sub_zero]at hst hes hq hnx
        go_wp2_with (go_at_call 164;(with_reducible refine(w_sub32 x 0 z _ hxk hyk ⟨z0,z1⟩).mono ?_);rintro e w2 ⟨rfl,rfl⟩)
        exact T_MI_1
    · have hkl:k=X.length:=by omega
      subst hkl
      have hvv:val zs=val X-val Y:=by
        rw[List.take_length,List.take_of_length_le hle]at hv
        have hlt:=val_lt hzb
        rw[hzl]at hlt
        rcases(by omega:z=0∨z=1)with rfl|rfl<;>omega
      have hst:=HR.out
      rw[Nat.sub_self,List.replicate_zero,List.append_nil]at hst
      replace hst:Hid _:=hst
      go_wp2_with fail
      go_ret
      exact⟨_,zs,rfl,R32.lim hst.out hzb (by omega),hvv,HE.out⟩
theorem T_ZK_9 {p:Prop} (h:p:=by
 simp[results,Tryz.results78,go_sem, ↓IntWalk.iteOmega,h3a,h3b]<;>first|exact hbo3.symm|simp[hbo3]):p:=h
theorem T_ZK_8 {p:Prop} (h:p:=by
 (try dsimp only);exact(hH.set (by omega) hLn (fun z e=>by cases e)).set (by omega) hLn (fun z e=>by cases e)):p:=h
theorem T_ZK_7 {p:Prop} (h:p:=by
 rw[←hW3]
 refine⟨hW3▸hEW, ?_, ?_, ?_, ?_, ?_,by simp⟩
 ·exact T_ZK_4
 ·exact b_2
 ·exact b_3
 ·exact b_4
 ·have:=NoU.new ((w.alloc (.cells #[.bool true,.slice ao (dig m).length cap1] 24)).alloc (.cells #[.bool false,.slice bo (dig k).length cap2] 24)) #[.bool false,.slice none 0 0] 24 (noU2 (by simp) (by simp))
  simpa using this):p:=h
theorem T_ZK_6 {p:Prop} (h:p:=by
 rw[←hW3]
 refine⟨hW3▸hEW, ?_, ?_, ?_, ?_, ?_,by simp⟩
 ·exact T_ZK_4
 ·exact b_2
 ·exact b_3
 ·exact b_4
 ·have:=NoU.new ((w.alloc (.cells #[.bool false,.slice ao (dig m).length cap1] 24)).alloc (.cells #[.bool true,.slice bo (dig k).length cap2] 24)) #[.bool false,.slice none 0 0] 24 (noU2 (by simp) (by simp))
  simpa using this):p:=h
theorem T_ZK_5 {p:Prop} (h:p:=by
 intro p hp
 simp only[List.mem_cons,List.mem_nil_iff,or_false]at hp
 rcases hp with rfl|rfl|rfl|rfl<;>(dsimp only;omega)):p:=h
theorem T_ZK_4 {p:Prop} (h:p:=by
 intro p hp
 simp only[List.mem_cons,List.mem_nil_iff,or_false]at hp
 rcases hp with rfl|rfl|rfl|rfl<;>simp[go_sem, ↓IntWalk.iteOmega]):p:=h
theorem T_ZK_3 {p:Prop} (h:p:=by
 refine hK.out _ _ ?_ fun _=> ?_
 ·exact b_6
 clear hK K hH
 rename_i hH
 try simp only[sx_]
 refine sK 8 ?_
 refine sK 9 ?_
 refine rh1 10 rfl fun K hK=> ?_
 obtain⟨⟨xa,h3a⟩,⟨xb,h3b⟩,h3f,hnu,hsl⟩:=hH.box
 go_simp
 refine hK.out _ _ ?_ fun _=> ?_
 ·exact T_ZK_8
 clear hK K hH
 rename_i hH
 try simp only[sx_]
 refine sK 11 ?_
 refine wpAnyH_done c_3 ?_ _
 go_wp2_with fail
 refine bodyPost_ret (v:=.tuple #[.agg #[.bool bo3,.slice ao3 (dig (k-m)).length cc3],O 0]) ?_ rfl ⟨_,rfl,Wid.mk' (Lim.box (Lim.box hz3 hnu) (NoU.set hnu (fun z e=>by cases e))) hbo3, ?_⟩
 ·exact T_ZK_9
 ·exact hH.base):p:=h
theorem T_ZK_2 {p:Prop} (h:p:=by
 refine hK.out _ _ ?_ fun _=> ?_
 ·exact b_6
 clear hK K hH
 rename_i hH
 try simp only[sx_]
 refine sK 8 ?_
 refine sK 9 ?_
 refine rh1 10 rfl fun K hK=> ?_
 obtain⟨⟨xa,h3a⟩,⟨xb,h3b⟩,h3f,hnu,hsl⟩:=hH.box
 go_simp
 refine hK.out _ _ ?_ fun _=> ?_
 ·exact T_ZK_8
 clear hK K hH
 rename_i hH
 try simp only[sx_]
 refine sK 11 ?_
 refine wpAnyH_done c_3 ?_ _
 go_wp2_with fail
 refine bodyPost_ret (v:=.tuple #[.agg #[.bool bo3,.slice ao3 (dig (m-k)).length cc3],O 0]) ?_ rfl ⟨_,rfl,Wid.mk' (Lim.box (Lim.box hz3 hnu) (NoU.set hnu (fun z e=>by cases e))) hbo3, ?_⟩
 ·exact T_ZK_9
 ·exact hH.base):p:=h
theorem T_ZK_1 {p:Prop} (h:p:=by
 refine hK.out _ _ ?_ fun _=> ?_
 ·exact b_6
 clear hK K hH
 rename_i hH
 try simp only[sx_]
 refine sK 8 ?_
 refine sK 9 ?_
 refine rh1 10 rfl fun K hK=> ?_
 obtain⟨⟨xa,h3a⟩,⟨xb,h3b⟩,h3f,hnu,hsl⟩:=hH.box
 go_simp
 refine hK.out _ _ ?_ fun _=> ?_
 ·exact T_ZK_8
 clear hK K hH
 rename_i hH
 try simp only[sx_]
 refine sK 11 ?_
 refine wpAnyH_done c_3 ?_ _
 go_wp2_with fail
 refine bodyPost_ret (v:=.tuple #[.agg #[.bool bo3,.slice ao3 (dig (m+k)).length cc3],O 0]) ?_ rfl ⟨_,rfl,Wid.mk' (Lim.box (Lim.box hz3 hnu) (NoU.set hnu (fun z e=>by cases e))) hbo3, ?_⟩
 ·exact T_ZK_9
 ·exact hH.base):p:=h
theorem z_addFF (va vb:Value) (m k:Nat) (w:World) (ha:Sm w va false m) (hb0:Sm w vb false k) (hs:Small m) (hs2:Small k) (hs3:Small ((m+k))):
    K_ 78 #[va,vb] w fun e w'=>∃u,e=.returned (.tuple #[u,O 0])∧Wid w' u (sg false ((m+k)))∧Ext w w':=by
 obtain⟨u,rfl,hu⟩:=ha
 obtain⟨s,rfl,hv⟩:=hb0
 obtain⟨ao,b1,o1,cap1,rfl,v1,v2,v3,v4,v5,v6⟩:=hu.view
 obtain⟨bo,b2,o2,cap2,rfl,y1,y2,y3,y4,y5,y6⟩:=hv.view
 have hlen:(dig m).length≤100000∧(dig k).length≤100000:=by unfold Small at hs hs2;omega
 obtain⟨W3,hW3⟩:∃W3,((w.alloc (.cells #[.bool false,.slice ao (dig m).length cap1] 24)).alloc (.cells #[.bool false,.slice bo (dig k).length cap2] 24)).alloc (.cells #[.bool false,.slice none 0 0] 24)=W3:=⟨_,rfl⟩
 have hWs:W3.heap.size=w.heap.size+1+1+1:=by rw[←hW3];simp
 have hEW:Ext w W3:=by rw[←hW3];exact(((Ext.refl w).alloc _).alloc _).alloc _
 have hS:BX w (w.heap.size+1+1) [(w.heap.size,0,.bool false),(w.heap.size,1,.slice ao (dig m).length cap1),(w.heap.size+1,0,.bool false),(w.heap.size+1,1,.slice bo (dig k).length cap2)] W3:=by
  rw[←hW3]
  refine⟨hW3▸hEW, ?_, ?_, ?_, ?_, ?_,by simp⟩
  ·exact T_ZK_4
  ·exact b_2
  ·exact b_3
  ·exact b_4
  ·have:=NoU.new ((w.alloc (.cells #[.bool false,.slice ao (dig m).length cap1] 24)).alloc (.cells #[.bool false,.slice bo (dig k).length cap2] 24)) #[.bool false,.slice none 0 0] 24 (noU2 (by simp) (by simp))
   simpa using this
 have hLn:∀p∈([(w.heap.size,0,.bool false),(w.heap.size,1,.slice ao (dig m).length cap1),(w.heap.size+1,0,.bool false),(w.heap.size+1,1,.slice bo (dig k).length cap2)]:List (Nat×Nat×Value)),p.1≠w.heap.size+1+1:=by
  exact T_ZK_5
 have hcm:=w_compare _ _ _ _ W3 (hu.ext hEW) (hv.ext hEW) (dig_nz m) (dig_nz k)
 rw[dig_val,dig_val]at hcm
 generalize cmpI m k=R at hcm
 subst hW3
 clear v1 v4 v5 y1 y4 y5 hWs
 go_enter Tryz.func78,Tryz.ntmps78
 have hs4:(dig ((m+k))).length≤4096:=hs3
 go_upto_region 3 with(go_at_call 86;(with_reducible refine hcm.mono ?_);rintro e w1 ⟨rfl,hb⟩;have q0:=BX.get (hS.ext hb) 0 rfl;have q2:=BX.get (hS.ext hb) 2 rfl)
 have hS0:=hS.ext hb
 clear hS hb
 refine wp_region_held_drew (S:=(fun w0=>BX w (w.heap.size+1+1) [(w.heap.size,0,.bool false),(w.heap.size,1,.slice ao (dig m).length cap1),(w.heap.size+1,0,.bool false),(w.heap.size+1,1,.slice bo (dig k).length cap2)] w0)) c_3 ?_ (fun hH=> ?_)
 ·exact hS0.drew
 try simp only[sx_]
 refine sK 0 ?_
 refine tk 1 rfl c_0 ?_
 try simp only[sx_]
 refine sK 2 ?_
 refine tk 3 rfl c_0 ?_
 try simp only[sx_]
 refine sK 4 ?_
 refine tk 5 rfl c_0 ?_
 try simp only[sx_]
 refine rh1 6 rfl fun K hK=> ?_
 go_simp
 (go_at_call 85;(with_reducible refine(w_plus _ _ _ _ _ (hu.ext hH.base) (hv.ext hH.base) hlen).mono ?_);rintro e t2 ⟨s2,zs,rfl,hz2,hval,hx2⟩;obtain⟨ao2,bb2,oo2,cc2,rfl,_⟩:=hz2.view)
 have hv2:val zs=(((m+k):Nat):Int):=by rw[hval,dig_val,dig_val];exact(Int.natCast_add m k).symm
 refine hK.out _ _ ?_ fun _=> ?_
 ·exact b_5
 clear hK K hH
 rename_i hH
 try simp only[sx_]
 refine rh1 7 rfl fun K hK=> ?_
 go_simp
 (go_at_call 76;(with_reducible refine(w_madeS false _ _ (m+k) _ hz2 hv2 hs4).mono ?_);rintro e t3 ⟨s3,bo3,rfl,hz3,hbo3,hx3⟩;obtain⟨ao3,bb3,oo3,cc3,rfl,_⟩:=hz3.view)
 exact T_ZK_1
theorem z_addTT (va vb:Value) (m k:Nat) (w:World) (ha:Sm w va true m) (hb0:Sm w vb true k) (hs:Small m) (hs2:Small k) (hs3:Small ((m+k))):
    K_ 78 #[va,vb] w fun e w'=>∃u,e=.returned (.tuple #[u,O 0])∧Wid w' u (sg true ((m+k)))∧Ext w w':=by
 obtain⟨u,rfl,hu⟩:=ha
 obtain⟨s,rfl,hv⟩:=hb0
 obtain⟨ao,b1,o1,cap1,rfl,v1,v2,v3,v4,v5,v6⟩:=hu.view
 obtain⟨bo,b2,o2,cap2,rfl,y1,y2,y3,y4,y5,y6⟩:=hv.view
 have hlen:(dig m).length≤100000∧(dig k).length≤100000:=by unfold Small at hs hs2;omega
 obtain⟨W3,hW3⟩:∃W3,((w.alloc (.cells #[.bool true,.slice ao (dig m).length cap1] 24)).alloc (.cells #[.bool true,.slice bo (dig k).length cap2] 24)).alloc (.cells #[.bool false,.slice none 0 0] 24)=W3:=⟨_,rfl⟩
 have hWs:W3.heap.size=w.heap.size+1+1+1:=by rw[←hW3];simp
 have hEW:Ext w W3:=by rw[←hW3];exact(((Ext.refl w).alloc _).alloc _).alloc _
 have hS:BX w (w.heap.size+1+1) [(w.heap.size,0,.bool true),(w.heap.size,1,.slice ao (dig m).length cap1),(w.heap.size+1,0,.bool true),(w.heap.size+1,1,.slice bo (dig k).length cap2)] W3:=by
  rw[←hW3]
  refine⟨hW3▸hEW, ?_, ?_, ?_, ?_, ?_,by simp⟩
  ·exact T_ZK_4
  ·exact b_2
  ·exact b_3
  ·exact b_4
  ·have:=NoU.new ((w.alloc (.cells #[.bool true,.slice ao (dig m).length cap1] 24)).alloc (.cells #[.bool true,.slice bo (dig k).length cap2] 24)) #[.bool false,.slice none 0 0] 24 (noU2 (by simp) (by simp))
   simpa using this
 have hLn:∀p∈([(w.heap.size,0,.bool true),(w.heap.size,1,.slice ao (dig m).length cap1),(w.heap.size+1,0,.bool true),(w.heap.size+1,1,.slice bo (dig k).length cap2)]:List (Nat×Nat×Value)),p.1≠w.heap.size+1+1:=by
  exact T_ZK_5
 have hcm:=w_compare _ _ _ _ W3 (hu.ext hEW) (hv.ext hEW) (dig_nz m) (dig_nz k)
 rw[dig_val,dig_val]at hcm
 generalize cmpI m k=R at hcm
 subst hW3
 clear v1 v4 v5 y1 y4 y5 hWs
 go_enter Tryz.func78,Tryz.ntmps78
 have hs4:(dig ((m+k))).length≤4096:=hs3
 go_upto_region 3 with(go_at_call 86;(with_reducible refine hcm.mono ?_);rintro e w1 ⟨rfl,hb⟩;have q0:=BX.get (hS.ext hb) 0 rfl;have q2:=BX.get (hS.ext hb) 2 rfl)
 have hS0:=hS.ext hb
 clear hS hb
 refine wp_region_held_drew (S:=(fun w0=>BX w (w.heap.size+1+1) [(w.heap.size,0,.bool true),(w.heap.size,1,.slice ao (dig m).length cap1),(w.heap.size+1,0,.bool true),(w.heap.size+1,1,.slice bo (dig k).length cap2)] w0)) c_3 ?_ (fun hH=> ?_)
 ·exact hS0.drew
 try simp only[sx_]
 refine sK 0 ?_
 refine tk 1 rfl c_0 ?_
 try simp only[sx_]
 refine sK 2 ?_
 refine tk 3 rfl c_0 ?_
 try simp only[sx_]
 refine sK 4 ?_
 refine tk 5 rfl c_0 ?_
 try simp only[sx_]
 refine rh1 6 rfl fun K hK=> ?_
 go_simp
 (go_at_call 85;(with_reducible refine(w_plus _ _ _ _ _ (hu.ext hH.base) (hv.ext hH.base) hlen).mono ?_);rintro e t2 ⟨s2,zs,rfl,hz2,hval,hx2⟩;obtain⟨ao2,bb2,oo2,cc2,rfl,_⟩:=hz2.view)
 have hv2:val zs=(((m+k):Nat):Int):=by rw[hval,dig_val,dig_val];exact(Int.natCast_add m k).symm
 refine hK.out _ _ ?_ fun _=> ?_
 ·exact b_5
 clear hK K hH
 rename_i hH
 try simp only[sx_]
 refine rh1 7 rfl fun K hK=> ?_
 go_simp
 (go_at_call 76;(with_reducible refine(w_madeS true _ _ (m+k) _ hz2 hv2 hs4).mono ?_);rintro e t3 ⟨s3,bo3,rfl,hz3,hbo3,hx3⟩;obtain⟨ao3,bb3,oo3,cc3,rfl,_⟩:=hz3.view)
 exact T_ZK_1
theorem z_addFTg (va vb:Value) (m k:Nat) (w:World) (ha:Sm w va false m) (hb0:Sm w vb true k) (hs:Small m) (hs2:Small k) (hs3:Small ((m-k))) (hkm:k≤m):
    K_ 78 #[va,vb] w fun e w'=>∃u,e=.returned (.tuple #[u,O 0])∧Wid w' u (sg false ((m-k)))∧Ext w w':=by
 obtain⟨u,rfl,hu⟩:=ha
 obtain⟨s,rfl,hv⟩:=hb0
 obtain⟨ao,b1,o1,cap1,rfl,v1,v2,v3,v4,v5,v6⟩:=hu.view
 obtain⟨bo,b2,o2,cap2,rfl,y1,y2,y3,y4,y5,y6⟩:=hv.view
 have hlen:(dig m).length≤100000∧(dig k).length≤100000:=by unfold Small at hs hs2;omega
 obtain⟨W3,hW3⟩:∃W3,((w.alloc (.cells #[.bool false,.slice ao (dig m).length cap1] 24)).alloc (.cells #[.bool true,.slice bo (dig k).length cap2] 24)).alloc (.cells #[.bool false,.slice none 0 0] 24)=W3:=⟨_,rfl⟩
 have hWs:W3.heap.size=w.heap.size+1+1+1:=by rw[←hW3];simp
 have hEW:Ext w W3:=by rw[←hW3];exact(((Ext.refl w).alloc _).alloc _).alloc _
 have hS:BX w (w.heap.size+1+1) [(w.heap.size,0,.bool false),(w.heap.size,1,.slice ao (dig m).length cap1),(w.heap.size+1,0,.bool true),(w.heap.size+1,1,.slice bo (dig k).length cap2)] W3:=by
  exact T_ZK_6
 have hLn:∀p∈([(w.heap.size,0,.bool false),(w.heap.size,1,.slice ao (dig m).length cap1),(w.heap.size+1,0,.bool true),(w.heap.size+1,1,.slice bo (dig k).length cap2)]:List (Nat×Nat×Value)),p.1≠w.heap.size+1+1:=by
  exact T_ZK_5
 have hcm:=w_compare _ _ _ _ W3 (hu.ext hEW) (hv.ext hEW) (dig_nz m) (dig_nz k)
 rw[dig_val,dig_val]at hcm
 have hcg:decide ((0:Int)≤cmpI m k)=true:=by
  unfold cmpI
  rw[if_neg (by omega)]
  split<;>rfl
 have hlk:(dig k).length≤(dig m).length:=dig_mono hkm
 have hvk:val (dig k)≤val (dig m):=by rw[dig_val,dig_val];omega
 generalize cmpI m k=R at hcm hcg
 subst hW3
 clear v1 v4 v5 y1 y4 y5 hWs
 go_enter Tryz.func78,Tryz.ntmps78
 have hs4:(dig ((m-k))).length≤4096:=hs3
 go_upto_region 5 with(go_at_call 86;(with_reducible refine hcm.mono ?_);rintro e w1 ⟨rfl,hb⟩;have q0:=BX.get (hS.ext hb) 0 rfl;have q2:=BX.get (hS.ext hb) 2 rfl)
 have hS0:=hS.ext hb
 clear hS hb
 refine wp_region_held_drew (S:=(fun w0=>BX w (w.heap.size+1+1) [(w.heap.size,0,.bool false),(w.heap.size,1,.slice ao (dig m).length cap1),(w.heap.size+1,0,.bool true),(w.heap.size+1,1,.slice bo (dig k).length cap2)] w0)) c_3 ?_ (fun hH=> ?_)
 ·exact hS0.drew
 try simp only[sx_]
 refine sK 0 ?_
 refine tk 1 rfl c_0 ?_
 try simp only[sx_]
 refine sK 2 ?_
 refine tk 3 rfl c_0 ?_
 try simp only[sx_]
 refine sK 4 ?_
 refine tk 5 rfl c_0 ?_
 try simp only[sx_]
 refine rh1 6 rfl fun K hK=> ?_
 go_simp
 (go_at_call 135;(with_reducible refine(w_minus _ _ _ _ _ (hu.ext hH.base) (hv.ext hH.base) hlen.1 hlk hvk).mono ?_);rintro e t2 ⟨s2,zs,rfl,hz2,hval,hx2⟩;obtain⟨ao2,bb2,oo2,cc2,rfl,_⟩:=hz2.view)
 have hv2:val zs=(((m-k):Nat):Int):=by rw[hval,dig_val,dig_val];exact(Int.ofNat_sub hkm).symm
 refine hK.out _ _ ?_ fun _=> ?_
 ·exact b_5
 clear hK K hH
 rename_i hH
 try simp only[sx_]
 refine rh1 7 rfl fun K hK=> ?_
 go_simp
 (go_at_call 76;(with_reducible refine(w_madeS false _ _ (m-k) _ hz2 hv2 hs4).mono ?_);rintro e t3 ⟨s3,bo3,rfl,hz3,hbo3,hx3⟩;obtain⟨ao3,bb3,oo3,cc3,rfl,_⟩:=hz3.view)
 exact T_ZK_2
theorem z_addTFg (va vb:Value) (m k:Nat) (w:World) (ha:Sm w va true m) (hb0:Sm w vb false k) (hs:Small m) (hs2:Small k) (hs3:Small ((m-k))) (hkm:k≤m):
    K_ 78 #[va,vb] w fun e w'=>∃u,e=.returned (.tuple #[u,O 0])∧Wid w' u (sg true ((m-k)))∧Ext w w':=by
 obtain⟨u,rfl,hu⟩:=ha
 obtain⟨s,rfl,hv⟩:=hb0
 obtain⟨ao,b1,o1,cap1,rfl,v1,v2,v3,v4,v5,v6⟩:=hu.view
 obtain⟨bo,b2,o2,cap2,rfl,y1,y2,y3,y4,y5,y6⟩:=hv.view
 have hlen:(dig m).length≤100000∧(dig k).length≤100000:=by unfold Small at hs hs2;omega
 obtain⟨W3,hW3⟩:∃W3,((w.alloc (.cells #[.bool true,.slice ao (dig m).length cap1] 24)).alloc (.cells #[.bool false,.slice bo (dig k).length cap2] 24)).alloc (.cells #[.bool false,.slice none 0 0] 24)=W3:=⟨_,rfl⟩
 have hWs:W3.heap.size=w.heap.size+1+1+1:=by rw[←hW3];simp
 have hEW:Ext w W3:=by rw[←hW3];exact(((Ext.refl w).alloc _).alloc _).alloc _
 have hS:BX w (w.heap.size+1+1) [(w.heap.size,0,.bool true),(w.heap.size,1,.slice ao (dig m).length cap1),(w.heap.size+1,0,.bool false),(w.heap.size+1,1,.slice bo (dig k).length cap2)] W3:=by
  exact T_ZK_7
 have hLn:∀p∈([(w.heap.size,0,.bool true),(w.heap.size,1,.slice ao (dig m).length cap1),(w.heap.size+1,0,.bool false),(w.heap.size+1,1,.slice bo (dig k).length cap2)]:List (Nat×Nat×Value)),p.1≠w.heap.size+1+1:=by
  exact T_ZK_5
 have hcm:=w_compare _ _ _ _ W3 (hu.ext hEW) (hv.ext hEW) (dig_nz m) (dig_nz k)
 rw[dig_val,dig_val]at hcm
 have hcg:decide ((0:Int)≤cmpI m k)=true:=by
  unfold cmpI
  rw[if_neg (by omega)]
  split<;>rfl
 have hlk:(dig k).length≤(dig m).length:=dig_mono hkm
 have hvk:val (dig k)≤val (dig m):=by rw[dig_val,dig_val];omega
 generalize cmpI m k=R at hcm hcg
 subst hW3
 clear v1 v4 v5 y1 y4 y5 hWs
 go_enter Tryz.func78,Tryz.ntmps78
 have hs4:(dig ((m-k))).length≤4096:=hs3
 go_upto_region 5 with(go_at_call 86;(with_reducible refine hcm.mono ?_);rintro e w1 ⟨rfl,hb⟩;have q0:=BX.get (hS.ext hb) 0 rfl;have q2:=BX.get (hS.ext hb) 2 rfl)
 have hS0:=hS.ext hb
 clear hS hb
 refine wp_region_held_drew (S:=(fun w0=>BX w (w.heap.size+1+1) [(w.heap.size,0,.bool true),(w.heap.size,1,.slice ao (dig m).length cap1),(w.heap.size+1,0,.bool false),(w.heap.size+1,1,.slice bo (dig k).length cap2)] w0)) c_3 ?_ (fun hH=> ?_)
 ·exact hS0.drew
 try simp only[sx_]
 refine sK 0 ?_
 refine tk 1 rfl c_0 ?_
 try simp only[sx_]
 refine sK 2 ?_
 refine tk 3 rfl c_0 ?_
 try simp only[sx_]
 refine sK 4 ?_
 refine tk 5 rfl c_0 ?_
 try simp only[sx_]
 refine rh1 6 rfl fun K hK=> ?_
 go_simp
 (go_at_call 135;(with_reducible refine(w_minus _ _ _ _ _ (hu.ext hH.base) (hv.ext hH.base) hlen.1 hlk hvk).mono ?_);rintro e t2 ⟨s2,zs,rfl,hz2,hval,hx2⟩;obtain⟨ao2,bb2,oo2,cc2,rfl,_⟩:=hz2.view)
 have hv2:val zs=(((m-k):Nat):Int):=by rw[hval,dig_val,dig_val];exact(Int.ofNat_sub hkm).symm
 refine hK.out _ _ ?_ fun _=> ?_
 ·exact b_5
 clear hK K hH
 rename_i hH
 try simp only[sx_]
 refine rh1 7 rfl fun K hK=> ?_
 go_simp
 (go_at_call 76;(with_reducible refine(w_madeS true _ _ (m-k) _ hz2 hv2 hs4).mono ?_);rintro e t3 ⟨s3,bo3,rfl,hz3,hbo3,hx3⟩;obtain⟨ao3,bb3,oo3,cc3,rfl,_⟩:=hz3.view)
 exact T_ZK_2
theorem z_addFTl (va vb:Value) (m k:Nat) (w:World) (ha:Sm w va false m) (hb0:Sm w vb true k) (hs:Small m) (hs2:Small k) (hs3:Small ((k-m))) (hkm:m<k):
    K_ 78 #[va,vb] w fun e w'=>∃u,e=.returned (.tuple #[u,O 0])∧Wid w' u (sg true ((k-m)))∧Ext w w':=by
 obtain⟨u,rfl,hu⟩:=ha
 obtain⟨s,rfl,hv⟩:=hb0
 obtain⟨ao,b1,o1,cap1,rfl,v1,v2,v3,v4,v5,v6⟩:=hu.view
 obtain⟨bo,b2,o2,cap2,rfl,y1,y2,y3,y4,y5,y6⟩:=hv.view
 have hlen:(dig m).length≤100000∧(dig k).length≤100000:=by unfold Small at hs hs2;omega
 obtain⟨W3,hW3⟩:∃W3,((w.alloc (.cells #[.bool false,.slice ao (dig m).length cap1] 24)).alloc (.cells #[.bool true,.slice bo (dig k).length cap2] 24)).alloc (.cells #[.bool false,.slice none 0 0] 24)=W3:=⟨_,rfl⟩
 have hWs:W3.heap.size=w.heap.size+1+1+1:=by rw[←hW3];simp
 have hEW:Ext w W3:=by rw[←hW3];exact(((Ext.refl w).alloc _).alloc _).alloc _
 have hS:BX w (w.heap.size+1+1) [(w.heap.size,0,.bool false),(w.heap.size,1,.slice ao (dig m).length cap1),(w.heap.size+1,0,.bool true),(w.heap.size+1,1,.slice bo (dig k).length cap2)] W3:=by
  exact T_ZK_6
 have hLn:∀p∈([(w.heap.size,0,.bool false),(w.heap.size,1,.slice ao (dig m).length cap1),(w.heap.size+1,0,.bool true),(w.heap.size+1,1,.slice bo (dig k).length cap2)]:List (Nat×Nat×Value)),p.1≠w.heap.size+1+1:=by
  exact T_ZK_5
 have hcm:=w_compare _ _ _ _ W3 (hu.ext hEW) (hv.ext hEW) (dig_nz m) (dig_nz k)
 rw[dig_val,dig_val]at hcm
 have hcg:decide ((0:Int)≤cmpI m k)=false:=by
  unfold cmpI
  rw[if_pos (by omega)]
  rfl
 have hlk:(dig m).length≤(dig k).length:=dig_mono (Nat.le_of_lt hkm)
 have hvk:val (dig m)≤val (dig k):=by rw[dig_val,dig_val];omega
 generalize cmpI m k=R at hcm hcg
 subst hW3
 clear v1 v4 v5 y1 y4 y5 hWs
 go_enter Tryz.func78,Tryz.ntmps78
 have hs4:(dig ((k-m))).length≤4096:=hs3
 go_upto_region 6 with(go_at_call 86;(with_reducible refine hcm.mono ?_);rintro e w1 ⟨rfl,hb⟩;have q0:=BX.get (hS.ext hb) 0 rfl;have q2:=BX.get (hS.ext hb) 2 rfl)
 have hS0:=hS.ext hb
 clear hS hb
 refine wp_region_held_drew (S:=(fun w0=>BX w (w.heap.size+1+1) [(w.heap.size,0,.bool false),(w.heap.size,1,.slice ao (dig m).length cap1),(w.heap.size+1,0,.bool true),(w.heap.size+1,1,.slice bo (dig k).length cap2)] w0)) c_3 ?_ (fun hH=> ?_)
 ·exact hS0.drew
 try simp only[sx_]
 refine sK 0 ?_
 refine tk 1 rfl c_0 ?_
 try simp only[sx_]
 refine sK 2 ?_
 refine tk 3 rfl c_0 ?_
 try simp only[sx_]
 refine sK 4 ?_
 refine tk 5 rfl c_0 ?_
 try simp only[sx_]
 refine rh1 6 rfl fun K hK=> ?_
 go_simp
 (go_at_call 135;(with_reducible refine(w_minus _ _ _ _ _ (hv.ext hH.base) (hu.ext hH.base) hlen.2 hlk hvk).mono ?_);rintro e t2 ⟨s2,zs,rfl,hz2,hval,hx2⟩;obtain⟨ao2,bb2,oo2,cc2,rfl,_⟩:=hz2.view)
 have hv2:val zs=(((k-m):Nat):Int):=by rw[hval,dig_val,dig_val];exact(Int.ofNat_sub (Nat.le_of_lt hkm)).symm
 refine hK.out _ _ ?_ fun _=> ?_
 ·exact b_5
 clear hK K hH
 rename_i hH
 try simp only[sx_]
 refine rh1 7 rfl fun K hK=> ?_
 go_simp
 (go_at_call 76;(with_reducible refine(w_madeS true _ _ (k-m) _ hz2 hv2 hs4).mono ?_);rintro e t3 ⟨s3,bo3,rfl,hz3,hbo3,hx3⟩;obtain⟨ao3,bb3,oo3,cc3,rfl,_⟩:=hz3.view)
 exact T_ZK_3
theorem z_addTFl (va vb:Value) (m k:Nat) (w:World) (ha:Sm w va true m) (hb0:Sm w vb false k) (hs:Small m) (hs2:Small k) (hs3:Small ((k-m))) (hkm:m<k):
    K_ 78 #[va,vb] w fun e w'=>∃u,e=.returned (.tuple #[u,O 0])∧Wid w' u (sg false ((k-m)))∧Ext w w':=by
 obtain⟨u,rfl,hu⟩:=ha
 obtain⟨s,rfl,hv⟩:=hb0
 obtain⟨ao,b1,o1,cap1,rfl,v1,v2,v3,v4,v5,v6⟩:=hu.view
 obtain⟨bo,b2,o2,cap2,rfl,y1,y2,y3,y4,y5,y6⟩:=hv.view
 have hlen:(dig m).length≤100000∧(dig k).length≤100000:=by unfold Small at hs hs2;omega
 obtain⟨W3,hW3⟩:∃W3,((w.alloc (.cells #[.bool true,.slice ao (dig m).length cap1] 24)).alloc (.cells #[.bool false,.slice bo (dig k).length cap2] 24)).alloc (.cells #[.bool false,.slice none 0 0] 24)=W3:=⟨_,rfl⟩
 have hWs:W3.heap.size=w.heap.size+1+1+1:=by rw[←hW3];simp
 have hEW:Ext w W3:=by rw[←hW3];exact(((Ext.refl w).alloc _).alloc _).alloc _
 have hS:BX w (w.heap.size+1+1) [(w.heap.size,0,.bool true),(w.heap.size,1,.slice ao (dig m).length cap1),(w.heap.size+1,0,.bool false),(w.heap.size+1,1,.slice bo (dig k).length cap2)] W3:=by
  exact T_ZK_7
 have hLn:∀p∈([(w.heap.size,0,.bool true),(w.heap.size,1,.slice ao (dig m).length cap1),(w.heap.size+1,0,.bool false),(w.heap.size+1,1,.slice bo (dig k).length cap2)]:List (Nat×Nat×Value)),p.1≠w.heap.size+1+1:=by
  exact T_ZK_5
 have hcm:=w_compare _ _ _ _ W3 (hu.ext hEW) (hv.ext hEW) (dig_nz m) (dig_nz k)
 rw[dig_val,dig_val]at hcm
 have hcg:decide ((0:Int)≤cmpI m k)=false:=by
  unfold cmpI
  rw[if_pos (by omega)]
  rfl
 have hlk:(dig m).length≤(dig k).length:=dig_mono (Nat.le_of_lt hkm)
 have hvk:val (dig m)≤val (dig k):=by rw[dig_val,dig_val];omega
 generalize cmpI m k=R at hcm hcg
 subst hW3
 clear v1 v4 v5 y1 y4 y5 hWs
 go_enter Tryz.func78,Tryz.ntmps78
 have hs4:(dig ((k-m))).length≤4096:=hs3
 go_upto_region 6 with(go_at_call 86;(with_reducible refine hcm.mono ?_);rintro e w1 ⟨rfl,hb⟩;have q0:=BX.get (hS.ext hb) 0 rfl;have q2:=BX.get (hS.ext hb) 2 rfl)
 have hS0:=hS.ext hb
 clear hS hb
 refine wp_region_held_drew (S:=(fun w0=>BX w (w.heap.size+1+1) [(w.heap.size,0,.bool true),(w.heap.size,1,.slice ao (dig m).length cap1),(w.heap.size+1,0,.bool false),(w.heap.size+1,1,.slice bo (dig k).length cap2)] w0)) c_3 ?_ (fun hH=> ?_)
 ·exact hS0.drew
 try simp only[sx_]
 refine sK 0 ?_
 refine tk 1 rfl c_0 ?_
 try simp only[sx_]
 refine sK 2 ?_
 refine tk 3 rfl c_0 ?_
 try simp only[sx_]
 refine sK 4 ?_
 refine tk 5 rfl c_0 ?_
 try simp only[sx_]
 refine rh1 6 rfl fun K hK=> ?_
 go_simp
 (go_at_call 135;(with_reducible refine(w_minus _ _ _ _ _ (hv.ext hH.base) (hu.ext hH.base) hlen.2 hlk hvk).mono ?_);rintro e t2 ⟨s2,zs,rfl,hz2,hval,hx2⟩;obtain⟨ao2,bb2,oo2,cc2,rfl,_⟩:=hz2.view)
 have hv2:val zs=(((k-m):Nat):Int):=by rw[hval,dig_val,dig_val];exact(Int.ofNat_sub (Nat.le_of_lt hkm)).symm
 refine hK.out _ _ ?_ fun _=> ?_
 ·exact b_5
 clear hK K hH
 rename_i hH
 try simp only[sx_]
 refine rh1 7 rfl fun K hK=> ?_
 go_simp
 (go_at_call 76;(with_reducible refine(w_madeS false _ _ (k-m) _ hz2 hv2 hs4).mono ?_);rintro e t3 ⟨s3,bo3,rfl,hz3,hbo3,hx3⟩;obtain⟨ao3,bb3,oo3,cc3,rfl,_⟩:=hz3.view)
 exact T_ZK_3
theorem z_add (va vb:Value) (s t:Bool) (m k:Nat) (w:World) (ha:Sm w va s m) (hb0:Sm w vb t k) (hs:Small m) (hs2:Small k) (hs3:Sz (sg s m+sg t k)):
    K_ 78 #[va,vb] w fun e w'=>∃u,e=.returned (.tuple #[u,O 0])∧Wid w' u (sg s m+sg t k)∧Ext w w':=by
 unfold Sz at hs3
 have cast:∀(r:Bool) (z:Nat),sg r z=sg s m+sg t k→(Small z→K_ 78 #[va,vb] w fun e w'=>∃u,e=.returned (.tuple #[u,O 0])∧Wid w' u (sg r z)∧Ext w w')→K_ 78 #[va,vb] w fun e w'=>∃u,e=.returned (.tuple #[u,O 0])∧Wid w' u (sg s m+sg t k)∧Ext w w':=by
  intro r z e h
  rw[←e,sg_abs]at hs3
  rw[←e];exact h hs3
 cases s<;>cases t
 ·exact cast false (m+k) (by simp[sg]) (fun h=>z_addFF va vb m k w ha hb0 hs hs2 h)
 ·rcases Nat.lt_or_ge m k with h1|h1
  ·exact cast true (k-m) c_56 (fun h=>z_addFTl va vb m k w ha hb0 hs hs2 h h1)
  ·exact cast false (m-k) c_56 (fun h=>z_addFTg va vb m k w ha hb0 hs hs2 h h1)
 ·rcases Nat.lt_or_ge m k with h1|h1
  ·exact cast false (k-m) c_56 (fun h=>z_addTFl va vb m k w ha hb0 hs hs2 h h1)
  ·exact cast true (m-k) c_56 (fun h=>z_addTFg va vb m k w ha hb0 hs hs2 h h1)
 ·exact cast true (m+k) c_56 (fun h=>z_addTT va vb m k w ha hb0 hs hs2 h)
theorem z_Add (va vb:Value) (m k:Int) (w:World) (ha:Wid w va m) (hb0:Wid w vb k) (hs:Sz m) (hs2:Sz k) (hs3:Sz (m+k)):
    K_ 35 #[va,vb] w fun e w'=>∃u,e=.returned (.tuple #[u,O 0])∧Wid w' u (m+k)∧Ext w w':=by
 obtain⟨u,rfl,hu⟩:=ha
 obtain⟨s,rfl,hv⟩:=hb0
 obtain⟨ao,b1,o1,cap1,rfl, -⟩:=hu.view
 obtain⟨bo,b2,o2,cap2,rfl, -⟩:=hv.view
 have hck:=fun w1 (k1:Ext w w1)=>z_check_two w1 _ _ (decide (m<0)) (decide (k<0)) m.natAbs k.natAbs (hu.ext k1) (hv.ext k1) hs hs2 (wid_s _ rfl) (wid_s _ rfl)
 have hR:sg (decide (m<0)) m.natAbs+sg ((decide (k<0))) k.natAbs=m+k:=by
  have h1:=sg_wid (n:=m)
  have h2:=sg_wid (n:=k)
  rw[h1,h2]
 have had:=fun w1 (k1:Ext w w1)=>z_add (.agg #[.bool (decide (m<0)),.slice ao (dig m.natAbs).length cap1]) (.agg #[.bool ((decide (k<0))),.slice bo (dig k.natAbs).length cap2]) (decide (m<0)) ((decide (k<0))) m.natAbs k.natAbs w1 ⟨_,rfl,hu.ext k1⟩ ⟨_,rfl,hv.ext k1⟩ hs hs2 (by rw[hR];exact hs3)
 rw[hR]at had
 clear hR hs3
 generalize m+k=R at had ⊢
 generalize decide (m<0)=sa at hck had ⊢
 generalize decide (k<0)=sb at hck had ⊢
 generalize(dig m.natAbs).length=la at hck had ⊢
 generalize(dig k.natAbs).length=lb at hck had ⊢
 clear hu hv hs hs2
 have hck3:=hck (((w.alloc (.cells #[.bool sa,.slice ao la cap1] 24)).alloc (.cells #[.bool sb,.slice bo lb cap2] 24)).alloc (.cells #[.bool false,.slice none 0 0] 24)) ex_
 simp only[World.size_alloc]at hck3
 clear hck
 go_enter Tryz.func35,Tryz.ntmps35
 go_wp2_with (first
  | (go_at_call 77;(with_reducible refine hck3.mono ?_);rintro e w1 ⟨rfl,hb⟩;obtain⟨_,_,⟨hc,hf⟩,hz⟩:=hb.c3;(try simp only[wsz]at hz hc hf);clear hck3)
  | (go_at_call 78;(with_reducible refine(had _ ex_).mono ?_);rintro e w2 ⟨y1,rfl,⟨y2,rfl,hx⟩,hb2⟩;obtain⟨xo,_,_,xc,rfl, -⟩:=hx.view;obtain⟨_,_,⟨hc2,hf2⟩,hz2⟩:=hb2.c3;(try simp only[wsz]at hz2 hc2 hf2);clear had))
 have hnu:NoU w2 (w.heap.size+1+1):=by
  have h0:=(NoU.new ((w.alloc (.cells #[.bool sa,.slice ao la cap1] 24)).alloc (.cells #[.bool sb,.slice bo lb cap2] 24)) #[.bool false,.slice none 0 0] 24 (noU2 (by simp) (by simp)))
  simp only[World.size_alloc]at h0
  exact((h0.alloc (by simp) _ _).ext (by simp) hb).ext (by omega) hb2
 refine bodyPost_ret (v:=.tuple #[.agg #[.bool (decide (R<0)),.slice xo (dig R.natAbs).length xc],O 0]) ?_ rfl ⟨_,rfl,⟨_,rfl, ?_⟩, ?_⟩
 ·simp[results,Tryz.results35,go_sem, ↓IntWalk.iteOmega, *]
 ·exact Lim.box (Lim.box hx hnu) (NoU.set hnu (fun z e=>by cases e))
 ·exact b_1
theorem z_Sub (va vb:Value) (m k:Int) (w:World) (ha:Wid w va m) (hb0:Wid w vb k) (hs:Sz m) (hs2:Sz k) (hs3:Sz (m-k)):
    K_ 100 #[va,vb] w fun e w'=>∃u,e=.returned (.tuple #[u,O 0])∧Wid w' u (m-k)∧Ext w w':=by
 obtain⟨u,rfl,hu⟩:=ha
 obtain⟨s,rfl,hv⟩:=hb0
 obtain⟨ao,b1,o1,cap1,rfl, -⟩:=hu.view
 obtain⟨bo,b2,o2,cap2,rfl, -⟩:=hv.view
 have hck:=fun w1 (k1:Ext w w1)=>z_check_two w1 _ _ (decide (m<0)) (decide (k<0)) m.natAbs k.natAbs (hu.ext k1) (hv.ext k1) hs hs2 (wid_s _ rfl) (wid_s _ rfl)
 have hR:sg (decide (m<0)) m.natAbs+sg (!(decide (k<0))) k.natAbs=m-k:=by
  have h1:=sg_wid (n:=m)
  have h2:=sg_wid (n:=k)
  rw[h1];unfold sg at h2 ⊢;cases hk:decide (k<0)<;>rw[hk]at h2<;>simp at h2 ⊢ <;>omega
 have had:=fun w1 (k1:Ext w w1)=>z_add (.agg #[.bool (decide (m<0)),.slice ao (dig m.natAbs).length cap1]) (.agg #[.bool (!(decide (k<0))),.slice bo (dig k.natAbs).length cap2]) (decide (m<0)) (!(decide (k<0))) m.natAbs k.natAbs w1 ⟨_,rfl,hu.ext k1⟩ ⟨_,rfl,hv.ext k1⟩ hs hs2 (by rw[hR];exact hs3)
 rw[hR]at had
 clear hR hs3
 generalize m-k=R at had ⊢
 generalize decide (m<0)=sa at hck had ⊢
 generalize decide (k<0)=sb at hck had ⊢
 generalize(dig m.natAbs).length=la at hck had ⊢
 generalize(dig k.natAbs).length=lb at hck had ⊢
 clear hu hv hs hs2
 have hck3:=hck (((w.alloc (.cells #[.bool sa,.slice ao la cap1] 24)).alloc (.cells #[.bool sb,.slice bo lb cap2] 24)).alloc (.cells #[.bool false,.slice none 0 0] 24)) ex_
 simp only[World.size_alloc]at hck3
 clear hck
 go_enter Tryz.func100,Tryz.ntmps100
 go_wp2_with (first
  | (go_at_call 77;(with_reducible refine hck3.mono ?_);rintro e w1 ⟨rfl,hb⟩;obtain⟨_,_,⟨hc,hf⟩,hz⟩:=hb.c3;(try simp only[wsz]at hz hc hf);clear hck3)
  | (go_at_call 78;(with_reducible refine(had _ ex_).mono ?_);rintro e w2 ⟨y1,rfl,⟨y2,rfl,hx⟩,hb2⟩;obtain⟨xo,_,_,xc,rfl, -⟩:=hx.view;obtain⟨_,_,⟨hc2,hf2⟩,hz2⟩:=hb2.c3;(try simp only[wsz]at hz2 hc2 hf2);clear had))
 have hnu:NoU w2 (w.heap.size+1+1):=by
  have h0:=(NoU.new ((w.alloc (.cells #[.bool sa,.slice ao la cap1] 24)).alloc (.cells #[.bool sb,.slice bo lb cap2] 24)) #[.bool false,.slice none 0 0] 24 (noU2 (by simp) (by simp)))
  simp only[World.size_alloc]at h0
  exact(NoU.set ((h0.alloc (by simp) _ _).ext (by simp) hb) (fun z e=>by cases e)).ext (by simp only[World.size_setCell];omega) hb2
 refine bodyPost_ret (v:=.tuple #[.agg #[.bool (decide (R<0)),.slice xo (dig R.natAbs).length xc],O 0]) ?_ rfl ⟨_,rfl,⟨_,rfl, ?_⟩, ?_⟩
 ·simp[results,Tryz.results100,go_sem, ↓IntWalk.iteOmega, *]
 ·exact Lim.box (Lim.box hx hnu) (NoU.set hnu (fun z e=>by cases e))
 ·exact b_1
theorem T_TZ_1 {p:Prop} (h:p:=by
 have h0:=NoU.new ((w.alloc (.cells #[.bool sa,.slice ao la cap1] 24)).alloc (.cells #[.bool sb,.slice bo lb cap2] 24)) #[.bool false,.slice none 0 0] 24 (noU2 (by simp) (by simp))
 simp only[World.size_alloc]at h0
 exact h0.ext (by simp) hb1):p:=h
theorem t_addZ (va vb:Value) (m k:Int) (w:World) (ha:Wid w va m) (hb0:Wid w vb k) (hs:Sz m) (hs2:Sz k) (hs3:Sz (m+k)):K_ 133 #[va,vb] w fun e w'=>∃u,e=.returned u∧Wid w' u (m+k)∧Ext w w':=by
 obtain⟨u,rfl,hu⟩:=ha
 obtain⟨s,rfl,hv⟩:=hb0
 obtain⟨ao,b1,o1,cap1,rfl, -⟩:=hu.view
 obtain⟨bo,b2,o2,cap2,rfl, -⟩:=hv.view
 have hm:=fun w1 (k1:Ext w w1)=>z_Add (.agg #[.bool (decide (m<0)),.slice ao (dig m.natAbs).length cap1]) (.agg #[.bool (decide (k<0)),.slice bo (dig k.natAbs).length cap2]) m k w1 ⟨_,rfl,hu.ext k1⟩ ⟨_,rfl,hv.ext k1⟩ hs hs2
 replace hm:=fun w1 (k1:Ext w w1)=>hm w1 k1 hs3
 generalize m+k=R at hm ⊢
 generalize decide (m<0)=sa at hm ⊢
 generalize decide (k<0)=sb at hm ⊢
 generalize(dig m.natAbs).length=la at hm ⊢
 generalize(dig k.natAbs).length=lb at hm ⊢
 clear hu hv
 go_enter Tryz.func133,Tryz.ntmps133
 go_wp2_with (go_at_call 35;(with_reducible refine(hm _ ex_).mono ?_);rintro e w1 ⟨y1,rfl,⟨y2,rfl,hx⟩,hb1⟩;obtain⟨xo,_,_,xc,rfl, -⟩:=hx.view;obtain⟨_,_,⟨hc1,hf1⟩,hz1⟩:=hb1.c3;(try simp only[wsz]at hz1 hc1 hf1))
 have hnu:NoU w1 (w.heap.size+1+1):=by
  exact T_TZ_1
 have hsz:w.heap.size+1+1<w1.heap.size:=by omega
 refine bodyPost_ret (v:=.agg #[.bool (decide (R<0)),.slice xo (dig R.natAbs).length xc]) ?_ rfl ⟨_,rfl,⟨_,rfl, ?_⟩, ?_⟩
 ·simp[results,Tryz.results133,go_sem, ↓IntWalk.iteOmega, *]
 ·exact b_8
 ·exact b_1
theorem t_subZ (va vb:Value) (m k:Int) (w:World) (ha:Wid w va m) (hb0:Wid w vb k) (hs:Sz m) (hs2:Sz k) (hs3:Sz (m-k)):K_ 131 #[va,vb] w fun e w'=>∃u,e=.returned u∧Wid w' u (m-k)∧Ext w w':=by
 obtain⟨u,rfl,hu⟩:=ha
 obtain⟨s,rfl,hv⟩:=hb0
 obtain⟨ao,b1,o1,cap1,rfl, -⟩:=hu.view
 obtain⟨bo,b2,o2,cap2,rfl, -⟩:=hv.view
 have hm:=fun w1 (k1:Ext w w1)=>z_Sub (.agg #[.bool (decide (m<0)),.slice ao (dig m.natAbs).length cap1]) (.agg #[.bool (decide (k<0)),.slice bo (dig k.natAbs).length cap2]) m k w1 ⟨_,rfl,hu.ext k1⟩ ⟨_,rfl,hv.ext k1⟩ hs hs2
 replace hm:=fun w1 (k1:Ext w w1)=>hm w1 k1 hs3
 generalize m-k=R at hm ⊢
 generalize decide (m<0)=sa at hm ⊢
 generalize decide (k<0)=sb at hm ⊢
 generalize(dig m.natAbs).length=la at hm ⊢
 generalize(dig k.natAbs).length=lb at hm ⊢
 clear hu hv
 go_enter Tryz.func131,Tryz.ntmps131
 go_wp2_with (go_at_call 100;(with_reducible refine(hm _ ex_).mono ?_);rintro e w1 ⟨y1,rfl,⟨y2,rfl,hx⟩,hb1⟩;obtain⟨xo,_,_,xc,rfl, -⟩:=hx.view;obtain⟨_,_,⟨hc1,hf1⟩,hz1⟩:=hb1.c3;(try simp only[wsz]at hz1 hc1 hf1))
 have hnu:NoU w1 (w.heap.size+1+1):=by
  exact T_TZ_1
 have hsz:w.heap.size+1+1<w1.heap.size:=by omega
 refine bodyPost_ret (v:=.agg #[.bool (decide (R<0)),.slice xo (dig R.natAbs).length xc]) ?_ rfl ⟨_,rfl,⟨_,rfl, ?_⟩, ?_⟩
 ·simp[results,Tryz.results131,go_sem, ↓IntWalk.iteOmega, *]
 ·exact b_8
 ·exact b_1
end Go.Proofs.YtaoioncjmfcolaaGreat
