/- Limbs: sums. -/
import Derived.Test.YtaoioncjmfcolaaGreatV02
import Derived.Deep.DeepCutAuto
import Derived.Deep.CutBlock
set_option linter.unusedSimpArgs false
set_option linter.unusedVariables false
set_option maxRecDepth 100000
set_option maxHeartbeats 4000000
namespace Go.Proofs.YtaoioncjmfcolaaGreat
open Go.RowKit
theorem T_WC_4 {p:Prop} (h:p:=by
 rw[val_append,hzl];simp only[val]
 rw[List.take_length,List.take_of_length_le (by omega)]at hv
 simpa using hv):p:=h
theorem T_WC_3 {p:Prop} (h:p:=by
 go_roundw
 case rel=>exact⟨k+1,_,_,hkx,rfl,by go_num,hnx.1,hnx.2,by simp[hzl],hzb.snoc (U32.mod _),hq.out,hst,hes⟩
 case measure=>simp[intOf];omega):p:=h
theorem T_WC_2 {p:Prop} (h:p:=by
 have eB:=b1 (by omega)
 subst eB
 have hcb:=(HE.out.cells.1 _ (oB+k) (b4 (by omega))).trans (b5 k hky)
 rw[ey]at hcb
 clear ex ey hv a5 b5
 go_wp2_with (go_at_call 144;(with_reducible refine(w_add32 x y z _ hxk hyk ⟨z0,z1⟩).mono ?_);rintro e w2 ⟨rfl,rfl⟩)
 exact T_WC_3):p:=h
theorem T_WC_1 {p:Prop} (h:p:=by
 have hy0:y=0:=by rw[←ey,List.getD_eq_getElem?_getD,List.getElem?_eq_none (by omega)];rfl
 subst hy0
 simp only[Int.add_zero]at hst hes hq hnx
 clear ex ey hv a5 b5
 go_wp2_with (go_at_call 144;(with_reducible refine(w_add32 x 0 z _ hxk hyk ⟨z0,z1⟩).mono ?_);rintro e w2 ⟨rfl,rfl⟩)
 exact T_WC_3):p:=h
theorem w_plus (va vb:Value) (xs ys:List Int) (w:World) (ha:Lim w va xs) (hb:Lim w vb ys) (hx:xs.length≤100000∧ys.length≤100000):
    K_ 85 #[va,vb] w fun e w'=>∃u zs,e=.returned u∧Lim w' u zs∧val zs=val xs+val ys∧Ext w w':=by
  rcases Nat.lt_or_ge xs.length ys.length with hlt|hge
  ·
    obtain⟨aoA,bA,oA,cA,rfl,a1,a2,a3,a4,a5,a6⟩:=hb.view
    obtain⟨aoB,bB,oB,cB,rfl,b1,b2,b3,b4,b5,b6⟩:=ha.view
    have lA:=hb.lb
    have lB:=ha.lb
    obtain⟨i0,hi,hz0,hz1,hz2⟩:=info_parts info81
    go_enter Tryz.func85,Tryz.ntmps85
    go_wp2_with (at_make;refine wpList_make_full _ rfl _ _ 22 rfl w.heap.size 54 i0 (.int .u32 0) 1 Tryz.underlying22 hi hz0 hz1 .i64 .i64 _ _ (ys.length+1) rfl rfl (by omega) (by omega) c_48 c_31 (Nat.le_refl _) ?_;intro w0 hown0 hgrow0)
    have hR0:R32 w0 w.heap.size w.heap.size (ys.length+1) (List.replicate (ys.length+1) 0):=R32.made hown0
    have hE0:Ext w w0:=Ext.grown (Ext.refl w) hgrow0
    clear hown0 hgrow0
    go_loopw [6,23] (fun c i wr=>∃(k:Nat) (z:Int) (zs:List Int),k≤ys.length∧c=.int .u32 z∧i=O k∧0≤z∧z≤1∧zs.length=k∧Lb zs∧val zs+BB^k*z=val (ys.take k)+val (xs.take k)∧
        Hid (R32 wr w.heap.size w.heap.size (ys.length+1) (zs++List.replicate (ys.length+1-k) 0))∧Hid (Ext w wr)) (fun _ i _=>ys.length-(intOf i).toNat)
    case atStart=>exact⟨0,0,[],Nat.zero_le _,rfl,rfl,by decide,by decide,rfl,Lb.nil,by simp[val],hR0,hE0⟩
    case round=>
      obtain⟨k,z,zs,hk,rfl,rfl,z0,z1,hzl,hzb,hv,HR,HE⟩:=hrel
      have hg:=HR.out.zero hzl (by omega)
      have hgf:=HR.out.frozen k
      have hglt:=HR.out.lt
      by_cases hkx:k<ys.length
      · have eA:=a1 (by omega)
        subst eA
        have hca:=(HE.out.cells.1 _ (oA+k) (a4 (by omega))).trans (a5 k hkx)
        have hxk:U32 (ys.getD k 0):=lA.getD k
        have hyk:U32 (xs.getD k 0):=lB.getD k
        obtain⟨x,ex⟩:∃x,ys.getD k 0=x:=⟨_,rfl⟩
        obtain⟨y,ey⟩:∃y,xs.getD k 0=y:=⟨_,rfl⟩
        have hq:=plus_step hv hzl ex ey
        rw[ex]at hca hxk
        rw[ey]at hyk
        have hst:=HR.out.step hzl (by omega) ((x+y+z)%4294967296)
        have hes:Ext w (wr.setCell ⟨w.heap.size,k,none⟩ (.int .u32 ((x+y+z)%4294967296))):=HE.out.setCell (p:=⟨w.heap.size,k,none⟩) (Nat.le_refl _) _
        have hnx:0≤(x+y+z)/4294967296∧(x+y+z)/4294967296≤1:=by unfold U32 at hxk hyk;omega
        replace hst:Hid _:=hst
        replace hes:Hid _:=hes
        replace hq:Hid _:=hq
        by_cases hky:k<xs.length
        · exact T_WC_2
        · exact T_WC_1
      · have hkl:k=ys.length:=by omega
        subst hkl
        have hu:U32 z:=by unfold U32;omega
        have hst:=HR.out.step hzl (by omega) z
        have hes:Ext w (wr.setCell ⟨w.heap.size,ys.length,none⟩ (.int .u32 z)):=HE.out.setCell (p:=⟨w.heap.size,ys.length,none⟩) (Nat.le_refl _) _
        have hvv:val (zs++[z])=val ys+val xs:=by
          exact T_WC_4
        rw[Nat.sub_self,List.replicate_zero,List.append_nil]at hst
        replace hst:Hid _:=hst
        replace hes:Hid _:=hes
        go_wp2_with fail
        go_ret
        exact⟨_,zs++[z],rfl,R32.lim hst.out (hzb.snoc hu) (by omega),by rw[hvv,Int.add_comm],hes.out⟩
  ·
    obtain⟨aoA,bA,oA,cA,rfl,a1,a2,a3,a4,a5,a6⟩:=ha.view
    obtain⟨aoB,bB,oB,cB,rfl,b1,b2,b3,b4,b5,b6⟩:=hb.view
    have lA:=ha.lb
    have lB:=hb.lb
    obtain⟨i0,hi,hz0,hz1,hz2⟩:=info_parts info81
    go_enter Tryz.func85,Tryz.ntmps85
    go_wp2_with (at_make;refine wpList_make_full _ rfl _ _ 22 rfl w.heap.size 54 i0 (.int .u32 0) 1 Tryz.underlying22 hi hz0 hz1 .i64 .i64 _ _ (xs.length+1) rfl rfl (by omega) (by omega) c_48 c_31 (Nat.le_refl _) ?_;intro w0 hown0 hgrow0)
    have hR0:R32 w0 w.heap.size w.heap.size (xs.length+1) (List.replicate (xs.length+1) 0):=R32.made hown0
    have hE0:Ext w w0:=Ext.grown (Ext.refl w) hgrow0
    clear hown0 hgrow0
    go_loopw [6,23] (fun c i wr=>∃(k:Nat) (z:Int) (zs:List Int),k≤xs.length∧c=.int .u32 z∧i=O k∧0≤z∧z≤1∧zs.length=k∧Lb zs∧val zs+BB^k*z=val (xs.take k)+val (ys.take k)∧
        Hid (R32 wr w.heap.size w.heap.size (xs.length+1) (zs++List.replicate (xs.length+1-k) 0))∧Hid (Ext w wr)) (fun _ i _=>xs.length-(intOf i).toNat)
    case atStart=>exact⟨0,0,[],Nat.zero_le _,rfl,rfl,by decide,by decide,rfl,Lb.nil,by simp[val],hR0,hE0⟩
    case round=>
      obtain⟨k,z,zs,hk,rfl,rfl,z0,z1,hzl,hzb,hv,HR,HE⟩:=hrel
      have hg:=HR.out.zero hzl (by omega)
      have hgf:=HR.out.frozen k
      have hglt:=HR.out.lt
      by_cases hkx:k<xs.length
      · have eA:=a1 (by omega)
        subst eA
        have hca:=(HE.out.cells.1 _ (oA+k) (a4 (by omega))).trans (a5 k hkx)
        have hxk:U32 (xs.getD k 0):=lA.getD k
        have hyk:U32 (ys.getD k 0):=lB.getD k
        obtain⟨x,ex⟩:∃x,xs.getD k 0=x:=⟨_,rfl⟩
        obtain⟨y,ey⟩:∃y,ys.getD k 0=y:=⟨_,rfl⟩
        have hq:=plus_step hv hzl ex ey
        rw[ex]at hca hxk
        rw[ey]at hyk
        have hst:=HR.out.step hzl (by omega) ((x+y+z)%4294967296)
        have hes:Ext w (wr.setCell ⟨w.heap.size,k,none⟩ (.int .u32 ((x+y+z)%4294967296))):=HE.out.setCell (p:=⟨w.heap.size,k,none⟩) (Nat.le_refl _) _
        have hnx:0≤(x+y+z)/4294967296∧(x+y+z)/4294967296≤1:=by unfold U32 at hxk hyk;omega
        replace hst:Hid _:=hst
        replace hes:Hid _:=hes
        replace hq:Hid _:=hq
        by_cases hky:k<ys.length
        · exact T_WC_2
        · exact T_WC_1
      · have hkl:k=xs.length:=by omega
        subst hkl
        have hu:U32 z:=by unfold U32;omega
        have hst:=HR.out.step hzl (by omega) z
        have hes:Ext w (wr.setCell ⟨w.heap.size,xs.length,none⟩ (.int .u32 z)):=HE.out.setCell (p:=⟨w.heap.size,xs.length,none⟩) (Nat.le_refl _) _
        have hvv:val (zs++[z])=val xs+val ys:=by
          exact T_WC_4
        rw[Nat.sub_self,List.replicate_zero,List.append_nil]at hst
        replace hst:Hid _:=hst
        replace hes:Hid _:=hes
        go_wp2_with fail
        go_ret
        exact⟨_,zs++[z],rfl,R32.lim hst.out (hzb.snoc hu) (by omega),hvv,hes.out⟩
theorem w_times (va vb:Value) (X Y:List Int) (w:World) (ha:Lim w va X) (hb:Lim w vb Y) (hx:X.length≤100000∧Y.length≤100000):
    K_ 136 #[va,vb] w fun e w'=>∃u zs,e=.returned u∧Lim w' u zs∧val zs=val X*val Y∧Ext w w':=by
  obtain⟨aoA,bA,oA,cA,rfl,a1,a2,a3,a4,a5,a6⟩:=ha.view
  obtain⟨aoB,bB,oB,cB,rfl,b1,b2,b3,b4,b5,b6⟩:=hb.view
  have lA:=ha.lb
  have lB:=hb.lb
  obtain⟨i0,hi,hz0,hz1,hz2⟩:=info_parts info81
  go_enter Tryz.func136,Tryz.ntmps136
  go_wp2_with (at_make;refine wpList_make_full _ rfl _ _ 22 rfl w.heap.size 54 i0 (.int .u32 0) 1 Tryz.underlying22 hi hz0 hz1 .i64 .i64 _ _ (X.length+Y.length) rfl rfl (by omega) (by omega) c_48 c_31 (Nat.le_refl _) ?_;intro w0 hown0 hgrow0)
  have hR0:R32 w0 w.heap.size w.heap.size (X.length+Y.length) (List.replicate (X.length+Y.length) 0):=R32.made hown0
  have hE0:Ext w w0:=Ext.grown (Ext.refl w) hgrow0
  clear hown0 hgrow0
  have he0:List.replicate Y.length (0:Int)++List.replicate (X.length-0) 0=List.replicate (X.length+Y.length) 0:=by rw[Nat.sub_zero,List.replicate_append_replicate,Nat.add_comm]
  go_loopw [19] (fun j wr=>∃(i:Nat) (us:List Int),i≤X.length∧j=O i∧us.length=i+Y.length∧Hid (Lb us)∧Hid (val us=val (X.take i)*val Y)∧
      Hid (R32 wr w.heap.size w.heap.size (X.length+Y.length) (us++List.replicate (X.length-i) 0))∧Hid (Ext w wr)) (fun j _=>X.length-(intOf j).toNat)
  case atStart=>exact⟨0,List.replicate Y.length 0,Nat.zero_le _,rfl,by simp,(fun x hx=>by rw[List.eq_of_mem_replicate hx];exact⟨by decide,by decide⟩:Lb _),(by rw[val_zeros];simp[val]:_=_),(by rw[he0];exact hR0:R32 ..),hE0⟩
  case round=>
    obtain⟨i,us,hil,rfl,hul,HB,HV,HR,HE⟩:=hrel
    by_cases hix:i<X.length
    · have eA:=a1 (by omega)
      subst eA
      have hca:=(HE.out.cells.1 _ (oA+i) (a4 (by omega))).trans (a5 i hix)
      have hxk:U32 (X.getD i 0):=lA.getD i
      obtain⟨x,ex⟩:∃x,X.getD i 0=x:=⟨_,rfl⟩
      rw[ex]at hca hxk
      go_wp2_with fail
      go_loopw [8,26] (fun q j wi=>∃(k:Nat) (c:Int) (ps:List Int),k≤Y.length∧q=.int .u64 c∧j=O k∧0≤c∧c<4294967296∧ps.length=i+k∧Hid (Lb ps)∧Hid (val ps+BB^(i+k)*c=val (us.take (i+k))+BB^i*(x*val (Y.take k)))∧
          Hid (R32 wi w.heap.size w.heap.size (X.length+Y.length) (ps++(us.drop (i+k)++List.replicate (X.length-i) 0)))∧Hid (Ext w wi)) (fun _ j _=>Y.length-(intOf j).toNat)
      case atStart=>exact⟨0,0,us.take i,Nat.zero_le _,rfl,rfl,by decide,by decide,by rw[List.length_take];omega,HB.out.take _,(by simp[val]:_=_),(by rw[Nat.add_zero, ←List.append_assoc,List.take_append_drop];exact HR.out:R32 ..),HE⟩
      case round=>
        obtain⟨k,c,ps,hky,rfl,rfl,c0,c1,hpl,PB,PV,PR,PE⟩:=hrel
        have hg:=PR.out.cell (k:=i+k)
        rw[row_get hpl]at hg
        have hgf:=PR.out.frozen (i+k)
        have hglt:=PR.out.lt
        by_cases hk:k<Y.length
        · have eB:=b1 (by omega)
          subst eB
          have hcb:=(PE.out.cells.1 _ (oB+k) (b4 (by omega))).trans (b5 k hk)
          have hyk:U32 (Y.getD k 0):=lB.getD k
          have hok:U32 (us.getD (i+k) 0):=HB.out.getD (i+k)
          replace hg:=hg (by omega)
          obtain⟨y,ey⟩:∃y,Y.getD k 0=y:=⟨_,rfl⟩
          obtain⟨o,eo⟩:∃o,us.getD (i+k) 0=o:=⟨_,rfl⟩
          have hs:=inner_step PV.out hpl ey eo
          rw[ey]at hcb hyk
          rw[eo]at hg hok
          have hpb:=prod_bound hxk hyk
          have hst:=PR.out.set (i+k) ((c+(x*y+o))%4294967296)
          rw[row_set hpl (by omega)]at hst
          have hes:Ext w (wr.setCell ⟨w.heap.size,i+k,none⟩ (.int .u32 ((c+(x*y+o))%4294967296))):=PE.out.setCell (p:=⟨w.heap.size,i+k,none⟩) (Nat.le_refl _) _
          have hnx:0≤(c+(x*y+o))/4294967296∧(c+(x*y+o))/4294967296<4294967296:=by unfold U32 at hok;omega
          replace hst:Hid _:=hst
          replace hes:Hid _:=hes
          replace hs:Hid _:=hs
          have hw1:IntKind.u64.wrap x=x:=u64_small hxk.1 (by unfold U32 at hxk;omega)
          have hw2:IntKind.u64.wrap y=y:=u64_small hyk.1 (by unfold U32 at hyk;omega)
          have hw3:IntKind.u64.wrap (x*y)=x*y:=u64_small hpb.1 (by omega)
          unfold U32 at hok
          have hw4:IntKind.u64.wrap (x*y+o)=x*y+o:=u64_small (by omega) (by omega)
          have hw5:IntKind.u64.wrap (c+(x*y+o))=c+(x*y+o):=u64_small (by omega) (by omega)
          clear ey eo a5 b5
          go_wp2_with fail
          go_roundw
          case rel=>exact⟨k+1,_,_,hk,rfl,by go_num,hnx.1,hnx.2,by simp[hpl];omega,(PB.out.snoc (U32.mod _):Lb _),hs,hst,hes⟩
          case measure=>simp[intOf];omega
        · have hkl:k=Y.length:=by omega
          subst hkl
          have hu:U32 c:=⟨c0,c1⟩
          have hv:=outer_step PV.out hpl hul HV.out ex
          have hst:=PR.out
          rw[List.drop_eq_nil_of_le (by omega),List.nil_append,show X.length-i=X.length+Y.length-(i+Y.length)from by omega]at hst
          replace hst:=hst.step hpl (by omega) c
          rw[show X.length+Y.length-(i+Y.length+1)=X.length-(i+1)from by omega]at hst
          have hes:Ext w (wr.setCell ⟨w.heap.size,i+Y.length,none⟩ (.int .u32 c)):=PE.out.setCell (p:=⟨w.heap.size,i+Y.length,none⟩) (Nat.le_refl _) _
          replace hg:=hg (by omega)
          have hps:=PB.out.snoc hu
          replace hst:Hid _:=hst
          replace hes:Hid _:=hes
          replace hv:Hid _:=hv
          replace hps:Hid (Lb _):=hps
          clear a5 b5
          go_wp2_with fail
          go_roundw
          case rel=>exact⟨i+1,ps++[c],hix,by go_num,by simp[hpl];omega,hps,hv,hst,hes⟩
          case measure=>simp[intOf];omega
    · have hil2:i=X.length:=by omega
      subst hil2
      have hst:=HR.out
      rw[Nat.sub_self,List.replicate_zero,List.append_nil]at hst
      have hv:=HV.out
      rw[List.take_length]at hv
      replace hst:Hid _:=hst
      replace hv:Hid _:=hv
      go_wp2_with fail
      go_ret
      exact⟨_,us,rfl,R32.lim hst.out HB.out (by omega),hv.out,HE.out⟩
theorem nnAt1 (w:World) (u:Value) (m:Nat) (h:Lim w u (dig m)):NnAt (w.alloc (.cells #[.bool false,u] 24)) w.heap.size 0 m:=
 ⟨u,by rw[cell_al,if_pos rfl];rfl,by rw[cell_al,if_pos rfl];rfl,h.alloc _⟩
theorem nnAt2 (w:World) (u v:Value) (m k:Nat) (h:Lim w u (dig m)) (h2:Lim w v (dig k)):NnAt (w.alloc (.cells #[.bool false,u,.bool false,v] 24)) w.heap.size 0 m∧NnAt (w.alloc (.cells #[.bool false,u,.bool false,v] 24)) w.heap.size 2 k:=
 ⟨⟨u,by rw[cell_al,if_pos rfl];rfl,by rw[cell_al,if_pos rfl];rfl,h.alloc _⟩,⟨v,by rw[cell_al,if_pos rfl];rfl,by rw[cell_al,if_pos rfl];rfl,h2.alloc _⟩⟩
theorem w_check_one (w:World) (u:Value) (m:Nat) (h:Lim w u (dig m)) (hs:Small m):
    K_ 77 #[.slice (some ⟨w.heap.size,0,none⟩) 1 1] (w.alloc (.cells #[.bool false,u] 24)) fun e w'=>e=.returned (O 0)∧Ext (w.alloc (.cells #[.bool false,u] 24)) w':=
  w_checks w.heap.size 1 1 (fun _=>m) _ (by decide) (by simp) (fun i hi=>by
    have:i=0:=by omega
    subst this;exact nnAt1 w u m h) (fun _ _=>hs)
theorem w_check_two (w:World) (u v:Value) (m k:Nat) (h:Lim w u (dig m)) (h2:Lim w v (dig k)) (hs:Small m) (hs2:Small k):
    K_ 77 #[.slice (some ⟨w.heap.size,0,none⟩) 2 2] (w.alloc (.cells #[.bool false,u,.bool false,v] 24)) fun e w'=>e=.returned (O 0)∧Ext (w.alloc (.cells #[.bool false,u,.bool false,v] 24)) w':=
  w_checks w.heap.size 2 2 (fun i=>if i=0 then m else k) _ (by decide) (by simp) (fun i hi=>by
    rcases(show i=0∨i=1 by omega)with rfl|rfl
    · exact(nnAt2 w u v m k h h2).1
    · exact(nnAt2 w u v m k h h2).2) (fun i _=>by split<;>assumption)
theorem w_Check (v:Value) (m:Nat) (w:World) (h:Nn w v m) (hs:Small m):
    K_ 72 #[v] w fun e w'=>e=.returned (O 0)∧Ext w w':=by
 obtain⟨u,rfl,hu⟩:=h
 obtain⟨ao,b1,o1,cap1,rfl,v1,v2,v3,v4,v5,v6⟩:=hu.view
 have hk:=w_check_one (w.alloc (.cells #[.bool false,.slice ao (dig m).length cap1] 24)) _ m (hu.alloc _) hs
 rw[World.size_alloc]at hk
 clear v1 v4 v5 hu
 go_enter Tryz.func72,Tryz.ntmps72
 go_wp2_with (go_at_call 77;(with_reducible refine hk.mono ?_);rintro e w1 ⟨rfl,hb⟩;obtain⟨_,_,⟨hc,hf⟩,hz⟩:=hb.c3;(try simp only[wsz]at hz hc hf))
 go_ret
 exact⟨rfl,ex_⟩
theorem T_WK_2 {p:Prop} (h:p:=by
 intro p hp
 simp only[List.mem_cons,List.mem_nil_iff,or_false]at hp
 rcases hp with rfl|rfl|rfl|rfl<;>(dsimp only;omega)):p:=h
theorem T_WK_1 {p:Prop} (h:p:=by
 rw[←hW3]
 refine⟨hW3▸hEW, ?_, ?_, ?_, ?_, ?_,by simp⟩
 ·intro p hp
  simp only[List.mem_cons,List.mem_nil_iff,or_false]at hp
  rcases hp with rfl|rfl|rfl|rfl<;>simp[go_sem, ↓IntWalk.iteOmega]
 ·exact b_2
 ·exact b_3
 ·exact b_4
 ·have:=NoU.new ((w.alloc (.cells #[.bool false,.slice ao (dig m).length cap1] 24)).alloc (.cells #[.bool false,.slice bo (dig k).length cap2] 24)) #[.bool false,.slice none 0 0] 24 (noU2 (by simp) (by simp))
  simpa using this):p:=h
theorem w_add (va vb:Value) (m k:Nat) (w:World) (ha:Nn w va m) (hb0:Nn w vb k) (hs:Small m) (hs2:Small k) (hs3:Small (m+k)):
    K_ 78 #[va,vb] w fun e w'=>∃u,e=.returned (.tuple #[u,O 0])∧Nn w' u (m+k)∧Ext w w':=by
 obtain⟨u,rfl,hu⟩:=ha
 obtain⟨s,rfl,hv⟩:=hb0
 obtain⟨ao,b1,o1,cap1,rfl,v1,v2,v3,v4,v5,v6⟩:=hu.view
 obtain⟨bo,b2,o2,cap2,rfl,y1,y2,y3,y4,y5,y6⟩:=hv.view
 have hlen:(dig m).length≤100000∧(dig k).length≤100000:=by unfold Small at hs hs2;omega
 obtain⟨W3,hW3⟩:∃W3,((w.alloc (.cells #[.bool false,.slice ao (dig m).length cap1] 24)).alloc (.cells #[.bool false,.slice bo (dig k).length cap2] 24)).alloc (.cells #[.bool false,.slice none 0 0] 24)=W3:=⟨_,rfl⟩
 have hWs:W3.heap.size=w.heap.size+1+1+1:=by rw[←hW3];simp
 have hEW:Ext w W3:=by rw[←hW3];exact(((Ext.refl w).alloc _).alloc _).alloc _
 have hS:BX w (w.heap.size+1+1) [(w.heap.size,0,.bool false),(w.heap.size,1,.slice ao (dig m).length cap1),(w.heap.size+1,0,.bool false),(w.heap.size+1,1,.slice bo (dig k).length cap2)] W3:=by
  exact T_WK_1
 have hLn:∀p∈([(w.heap.size,0,.bool false),(w.heap.size,1,.slice ao (dig m).length cap1),(w.heap.size+1,0,.bool false),(w.heap.size+1,1,.slice bo (dig k).length cap2)]:List (Nat×Nat×Value)),p.1≠w.heap.size+1+1:=by
  exact T_WK_2
 have hcm:=w_compare _ _ _ _ W3 (hu.ext hEW) (hv.ext hEW) (dig_nz m) (dig_nz k)
 subst hW3
 clear v1 v4 v5 y1 y4 y5 hWs
 go_enter Tryz.func78,Tryz.ntmps78
 have hs4:(dig (m+k)).length≤4096:=hs3
 go_upto_region 3 with(go_at_call 86;(with_reducible refine hcm.mono ?_);rintro e w1 ⟨rfl,hb⟩;have q0:=BX.get (hS.ext hb) 0 rfl;have q2:=BX.get (hS.ext hb) 2 rfl)
 have hS0:=hS.ext hb
 clear hS hb
 refine wp_region_held_drew (S:=(fun w0=>BX w (w.heap.size+1+1) [(w.heap.size,0,.bool false),(w.heap.size,1,.slice ao (dig m).length cap1),(w.heap.size+1,0,.bool false),(w.heap.size+1,1,.slice bo (dig k).length cap2)] w0)) c_3 ?_ (fun hH=> ?_)
 ·exact hS0.drew
 try simp only[sx_]
 refine sK 0 ?_
 refine tk 1 rfl c_0 ?_
 try simp only[sx_]
 refine sK 2 ?_
 refine tk 3 rfl c_0 ?_
 try simp only[sx_]
 refine sK 4 ?_
 refine tk 5 rfl c_0 ?_
 try simp only[sx_]
 refine rh1 6 rfl fun K hK=> ?_
 go_simp
 (go_at_call 85;(with_reducible refine(w_plus _ _ _ _ _ (hu.ext hH.base) (hv.ext hH.base) hlen).mono ?_);rintro e t2 ⟨s2,zs,rfl,hz2,hval,hx2⟩;obtain⟨ao2,bb2,oo2,cc2,rfl,_⟩:=hz2.view)
 have hv2:val zs=(((m+k):Nat):Int):=by rw[hval,dig_val,dig_val];exact(Int.natCast_add m k).symm
 refine hK.out _ _ ?_ fun _=> ?_
 ·exact b_5
 clear hK K hH
 rename_i hH
 try simp only[sx_]
 refine rh1 7 rfl fun K hK=> ?_
 go_simp
 (go_at_call 76;(with_reducible refine(w_madeN _ _ (m+k) _ hz2 hv2 hs4).mono ?_);rintro e t3 ⟨s3,rfl,hz3,hx3⟩;obtain⟨ao3,bb3,oo3,cc3,rfl,_⟩:=hz3.view)
 refine hK.out _ _ ?_ fun _=> ?_
 ·exact b_6
 clear hK K hH
 rename_i hH
 try simp only[sx_]
 refine sK 8 ?_
 refine sK 9 ?_
 refine rh1 10 rfl fun K hK=> ?_
 obtain⟨⟨xa,h3a⟩,⟨xb,h3b⟩,h3f,hnu,hsl⟩:=hH.box
 go_simp
 refine hK.out _ _ ?_ fun _=> ?_
 ·exact b_7
 clear hK K hH
 rename_i hH
 try simp only[sx_]
 refine sK 11 ?_
 refine wpAnyH_done c_3 ?_ _
 go_wp2_with fail
 refine bodyPost_ret (v:=.tuple #[.agg #[.bool false,.slice ao3 (dig (m+k)).length cc3],O 0]) ?_ rfl ⟨_,rfl,⟨_,rfl, ?_⟩, ?_⟩
 ·simp[results,Tryz.results78,go_sem, ↓IntWalk.iteOmega,h3a,h3b]
 ·exact Lim.box (Lim.box hz3 hnu) (NoU.set hnu (fun z e=>by cases e))
 ·exact hH.base
theorem w_Add (va vb:Value) (m k:Nat) (w:World) (ha:Nn w va m) (hb0:Nn w vb k) (hs:Small m) (hs2:Small k) (hs3:Small (m+k)):
    K_ 35 #[va,vb] w fun e w'=>∃u,e=.returned (.tuple #[u,O 0])∧Nn w' u (m+k)∧Ext w w':=by
 obtain⟨u,rfl,hu⟩:=ha
 obtain⟨s,rfl,hv⟩:=hb0
 obtain⟨ao,b1,o1,cap1,rfl,v1,v2,v3,v4,v5,v6⟩:=hu.view
 obtain⟨bo,b2,o2,cap2,rfl,y1,y2,y3,y4,y5,y6⟩:=hv.view
 have hlen:(dig m).length≤100000∧(dig k).length≤100000:=by unfold Small at hs hs2;omega
 obtain⟨W3,hW3⟩:∃W3,((w.alloc (.cells #[.bool false,.slice ao (dig m).length cap1] 24)).alloc (.cells #[.bool false,.slice bo (dig k).length cap2] 24)).alloc (.cells #[.bool false,.slice none 0 0] 24)=W3:=⟨_,rfl⟩
 have hWs:W3.heap.size=w.heap.size+1+1+1:=by rw[←hW3];simp
 have hEW:Ext w W3:=by rw[←hW3];exact(((Ext.refl w).alloc _).alloc _).alloc _
 have hS:BX w (w.heap.size+1+1) [(w.heap.size,0,.bool false),(w.heap.size,1,.slice ao (dig m).length cap1),(w.heap.size+1,0,.bool false),(w.heap.size+1,1,.slice bo (dig k).length cap2)] W3:=by
  exact T_WK_1
 have hLn:∀p∈([(w.heap.size,0,.bool false),(w.heap.size,1,.slice ao (dig m).length cap1),(w.heap.size+1,0,.bool false),(w.heap.size+1,1,.slice bo (dig k).length cap2)]:List (Nat×Nat×Value)),p.1≠w.heap.size+1+1:=by
  exact T_WK_2
 have hck:=w_check_two W3 _ _ m k (hu.ext hEW) (hv.ext hEW) hs hs2
 rw[hWs]at hck
 subst hW3
 clear v1 v4 v5 y1 y4 y5 hWs hEW
 go_enter Tryz.func35,Tryz.ntmps35
 go_wp2_with (first
  | (go_at_call 77;(with_reducible refine hck.mono ?_);rintro e w1 ⟨rfl,hb⟩;have hS1:=hS.ext (((Ext.refl _).alloc _).trans hb);have q0:=BX.get hS1 0 rfl;have q1:=BX.get hS1 1 rfl;have q2:=BX.get hS1 2 rfl;have q3:=BX.get hS1 3 rfl;have nA:Nn w1 (.agg #[.bool false,.slice ao (dig m).length cap1]) m:=⟨_,rfl,hu.ext hS1.base⟩;have nB:Nn w1 (.agg #[.bool false,.slice bo (dig k).length cap2]) k:=⟨_,rfl,hv.ext hS1.base⟩;clear hS hck hb)
  | (go_at_call 78;(with_reducible refine(w_add _ _ m k _ nA nB hs hs2 hs3).mono ?_);rintro e w2 ⟨v9,rfl,⟨s3,rfl,hz3⟩,hx3⟩;obtain⟨ao3,bb3,oo3,cc3,rfl,_⟩:=hz3.view;have hS2:=hS1.ext hx3;obtain⟨⟨xa,h3a⟩,⟨xb,h3b⟩,h3f,hnu,hsl⟩:=hS2.box))
 refine bodyPost_ret (v:=.tuple #[.agg #[.bool false,.slice ao3 (dig (m+k)).length cc3],O 0]) ?_ rfl ⟨_,rfl,⟨_,rfl, ?_⟩, ?_⟩
 ·simp[results,Tryz.results35,go_sem, ↓IntWalk.iteOmega,h3a,h3b]
 ·exact Lim.box (Lim.box hz3 hnu) (NoU.set hnu (fun z e=>by cases e))
 ·exact((hS2.set (by omega) hLn (fun z e=>by cases e)).set (by omega) hLn (fun z e=>by cases e)).base
def stp (X:List Int) (d:Int) (s:List Int×Int) (j:Nat):List Int×Int:=(s.1.set j ((s.2*4294967296+X.getD j 0)/d),(s.2*4294967296+X.getD j 0)%d)
def stA (X:List Int) (d:Int) (pre:List (DN X.length)):List Int×Int:=(pre.map (·.1)).foldl (stp X d) (List.replicate X.length 0,0)
theorem stA_snoc (X:List Int) (d:Int) (pre:List (DN X.length)) (x:DN X.length):stA X d (pre++[x])=stp X d (stA X d pre) x.1:=by simp[stA]
theorem quot_lim {r x d:Int} (h0:0≤r) (h1:r<d) (hx:U32 x):U32 ((r*4294967296+x)/d)∧0≤(r*4294967296+x)%d∧(r*4294967296+x)%d<d:=by
 unfold U32 at hx
 obtain⟨a,b⟩:=div_small (x:=r*4294967296+x) (d:=d) (by omega) (by omega) (by omega)
 exact⟨⟨a,b⟩,Int.emod_nonneg _ (by omega),Int.emod_lt_of_pos _ (by omega)⟩
theorem Lb.set {a:List Int} (h:Lb a) (j:Nat) {z:Int} (hz:U32 z):Lb (a.set j z):=fun y hy=>by
 rcases List.mem_or_eq_of_mem_set hy with h1|h1
 ·exact h y h1
 ·exact h1▸hz
theorem foldl_ok {X:List Int} {d:Int} (hX:Lb X) (hd:0<d):∀(l:List Nat) (s:List Int×Int),s.1.length=X.length∧Lb s.1∧0≤s.2∧s.2<d→(l.foldl (stp X d) s).1.length=X.length∧Lb (l.foldl (stp X d) s).1∧0≤(l.foldl (stp X d) s).2∧(l.foldl (stp X d) s).2<d
  | [],_,h=>h
  |j::l,s,h=>foldl_ok hX hd l (stp X d s j) (by
      have q:=quot_lim (x:=X.getD j 0) h.2.2.1 h.2.2.2 (hX.getD j)
      exact⟨by simp[stp,h.1],h.2.1.set j q.1,q.2.1,q.2.2⟩)
theorem stA_ok {X:List Int} {d:Int} (hX:Lb X) (hd:0<d) (pre:List (DN X.length)):(stA X d pre).1.length=X.length∧Lb (stA X d pre).1∧0≤(stA X d pre).2∧(stA X d pre).2<d:=
 foldl_ok hX hd _ _ ⟨by simp,fun x hx=>by rw[List.eq_of_mem_replicate hx];exact⟨by decide,by decide⟩,Int.le_refl _,hd⟩
theorem short_val {X:List Int} {d:Int} (hX:Lb X) (hd:0<d):∀k,k≤X.length→val ((stA X d (upto (dn X.length) k)).1.drop (X.length-k))*d+(stA X d (upto (dn X.length) k)).2=val (X.drop (X.length-k))
 |0,_=>by
  show val ((List.replicate X.length 0).drop (X.length-0))*d+0=_
  rw[Nat.sub_zero,List.drop_eq_nil_of_le (by simp),List.drop_eq_nil_of_le (Nat.le_refl _)];simp[val]
 |k+1,hk=>by
  have ih:=short_val hX hd k (by omega)
  have ok:=stA_ok hX hd (upto (dn X.length) k)
  rw[upto_succ,stA_snoc]
  generalize stA X d (upto (dn X.length) k)=s at*
  have hj:(dn X.length k).1=X.length-(k+1):=by show X.length-1-k=_;omega
  rw[hj]
  obtain⟨j,ej⟩:∃j,X.length-(k+1)=j:=⟨_,rfl⟩
  have ej2:X.length-k=j+1:=by omega
  rw[ej2]at ih
  rw[ej]
  have hjl:j<s.1.length:=by rw[ok.1];omega
  have hjx:j<X.length:=by omega
  unfold stp
  simp only
  rw[List.drop_eq_getElem_cons (by rw[List.length_set];exact hjl),List.getElem_set_self,List.drop_set_of_lt (by omega),List.drop_eq_getElem_cons hjx]
  have ex:X.getD j 0=X[j]:=by rw[List.getD_eq_getElem?_getD,List.getElem?_eq_getElem hjx];rfl
  rw[ex]
  simp only[val]
  have e:=Int.emod_add_mul_ediv (s.2*4294967296+X[j]) d
  generalize(s.2*4294967296+X[j])/d=q at*
  generalize(s.2*4294967296+X[j])%d=r at*
  rw[←ih]
  unfold BB
  grind
theorem short_all {X:List Int} {d:Int} (hX:Lb X) (hd:0<d) {ys:List (DN X.length)} (hy:ys=upto (dn X.length) X.length):val (stA X d ys).1*d+(stA X d ys).2=val X:=by
 have:=short_val hX hd X.length (Nat.le_refl _)
 rw[Nat.sub_self,List.drop_zero,List.drop_zero]at this
 rw[hy];exact this
theorem R32.kept {A B:World} {base g n:Nat} {xs:List Int} {row:Option Nat} (h:R32 A base g n xs) (hg:A.grownBy B row) (hr:∀r,row=some r→∃o:Obj,A.heap[r]? =some o∧o.isCells=false):R32 B base g n xs:=
 World.ownsRow.kept (row:=row) h hg (Or.inr (by
  intro e
  simp only[Value.ownBlock]at e
  obtain⟨o,ho,hc⟩:=hr g e.symm
  rcases h.2 with⟨e1,_⟩| ⟨g',cap',cur,hv,hb,hgg,_⟩
  ·cases e1
  ·cases hv
   rw[hgg]at ho
   cases ho
   cases hc))
section
variable {n:Nat} {P:Program} {md:Region.Mode} {ops:Array Oper} {Q:Exit→Act→World→Prop}
theorem uponIn_inRound (l:Nat) (o:Oper) (a:Act) (next:Act→World→Prop) (r:Result Next):Oper.uponIn (Fence.wide.inRound l) n P o a next Q r=Oper.uponIn Fence.wide n P o a next Q r:=rfl
theorem wpOpIn_inRound (l:Nat) (hd:∀(i:Nat) (o:Oper),ops[i]? =some o→∀c,o.op≠ .defer c) {i:Nat} {K K':Act→World→Prop} {a:Act} {w:World} (hK:∀a w,K a w→K' a w) (h:wpOpIn Fence.wide n P ops Q i K a w):wpOpIn (Fence.wide.inRound l) n P ops Q i K' a w:=by
 have h':=wpOpIn_mono (K':=K') hK h
 unfold wpOpIn at h' ⊢
 cases ho:ops[i]? with
 |none=>rw[ho]at h';exact h'
 |some o=>
  rw[ho]at h'
  simp only at h' ⊢
  split
  ·rename_i hw
   rw[if_pos hw]at h'
   refine⟨h'.1, ?_⟩
   have:=h'.2
   rw[Fence.inRound_round,Oper.semAt_some l _ o (hd i o ho),uponIn_inRound]
   exact this
  ·rename_i hw
   rw[if_neg hw]at h'
   exact h'
theorem wpAnyIn_inRound (l:Nat) (hd:∀(i:Nat) (o:Oper),ops[i]? =some o→∀c,o.op≠ .defer c):∀(fuel:Nat) (listed:Array Bool) (a:Act) (w:World),wpAnyIn Fence.wide n P md ops Q fuel listed a w→wpAnyIn (Fence.wide.inRound l) n P md ops Q fuel listed a w
 |0,_,_,_,h=>h
 |fuel+1,listed,a,w,h=>⟨h.1,fun i hi=>wpOpIn_inRound l hd (fun a w=>wpAnyIn_inRound l hd fuel _ a w) (h.2 i hi)⟩
theorem region_inRound {l id:Nat} {a:Act} {w:World} (hm:P.follows .mixedOrders=true) (hd:∀(i:Nat) (o:Oper),ops[i]? =some o→∀c,o.op≠ .defer c)
    (h:wpAnyIn Fence.wide n P .any ops Q ops.size (Array.replicate ops.size false) a w.drew):(Code.region id ops true).wpIn (Fence.wide.inRound l) n P Q a w:=
  wpIn_region_any hm (wpAnyIn_inRound l hd _ _ _ _ h)
end
def noDefer (ops:List Oper):Bool:=ops.all fun o=>match o.op with| .defer _=>false|_=>true
theorem noDefer_ok {ops:Array Oper} (h:noDefer ops.toList=true):∀(i:Nat) (o:Oper),ops[i]? =some o→∀c,o.op≠ .defer c:=fun i o ho c e=>by
 have:=List.all_eq_true.1 h o (List.mem_of_getElem? (by simpa using ho))
 rw[e]at this
 cases this
theorem Lim.kept {A B:World} {v:Value} {xs:List Int} {row:Option Nat} (h:Lim A v xs) (hg:A.grownBy B row) (hr:∀r,row=some r→∃o:Obj,A.heap[r]? =some o∧o.isCells=false):Lim B v xs:=by
 refine⟨h.1, ?_⟩
 rcases h.2 with h| ⟨b,o,cap,hv,h1,h2,h3,h4⟩
 ·exact Or.inl h
 ·exact Or.inr ⟨b,o,cap,hv,h1,h2,Nat.lt_of_lt_of_le h3 hg.size,fun i hi=>cell_kept (h4 i hi) hg hr⟩
theorem KeepsOthers.drewN (W:World) (m:Nat):KeepsOthers W (W.drewN m):=⟨Nat.le_refl _,fun _ _ h _=>h⟩
theorem R32.other {w:World} {base g n B j:Nat} {xs:List Int} {x:Value} (h:R32 w base g n xs) (hB:B≠g):R32 (w.setCell ⟨B,j,none⟩ x) base g n xs:=
 World.ownsRow.kept (row:=some B) h ⟨rfl,rfl,rfl,by simp[World.setCell],fun k hk hne=>Below.heap_setCell _ _ _ _ (fun e=>hne (by rw[e]))⟩ (Or.inr (by simp only[Value.ownBlock];intro e;cases e;exact hB rfl))
end Go.Proofs.YtaoioncjmfcolaaGreat
