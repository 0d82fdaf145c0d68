/- The reference's long division: the rest moved back. -/
import Derived.Test.YtaoioncjmfcolaaGreatV32
set_option linter.unusedSimpArgs false
set_option linter.unusedVariables false
set_option maxRecDepth 100000
set_option maxHeartbeats 8000000
namespace Go.Proofs.YtaoioncjmfcolaaGreat
open Go.RowKit
theorem back_limb {r r':Int} {s:Nat} (hs:s<32) (h0:0≤r) (h1:r<4294967296) (k0:0≤r'):
    ((r+r'*4294967296)/2^s%4294967296)*2^s=r-r%2^s+4294967296*(r'%2^s):=by
 have e:(4294967296:Int)=2^(32-s)*2^s:=by
  rw[←Int.pow_add,show 32-s+s=32 from by omega];rfl
 have hS:(0:Int)<2^s:=Int.pow_pos (by decide)
 have hH:(0:Int)<2^(32-s):=Int.pow_pos (by decide)
 rw[e]at h1 ⊢
 generalize(2:Int)^s=S at*
 generalize(2:Int)^(32-s)=H at*
 have q1:=Int.emod_add_mul_ediv r S
 have q2:=Int.emod_add_mul_ediv r' S
 have r0:=Int.emod_nonneg r' (show S≠0 by omega)
 have r1:=Int.emod_lt_of_pos r' hS
 have a0:0≤r/S:=Int.ediv_nonneg h0 (Int.le_of_lt hS)
 have a1:r/S<H:=Int.ediv_lt_of_lt_mul hS h1
 have e1:(r+r'*(H*S))/S=r/S+r'*H:=by
  rw[show r'*(H*S)=(r'*H)*S from by rw[Int.mul_assoc],Int.add_mul_ediv_right _ _ (by omega)]
 have e2:(r/S+r'*H)%(H*S)=r/S+(r'%S)*H:=by
  have e3:r/S+r'*H=(r/S+(r'%S)*H)+(H*S)*(r'/S):=by
   have:r'*H=(r'%S+S*(r'/S))*H:=by rw[q2]
   rw[this];grind
  rw[e3,Int.add_mul_emod_self_left]
  refine Int.emod_eq_of_lt ?_ ?_
  ·have:=Int.mul_nonneg r0 (Int.le_of_lt hH);omega
  ·have h2:(r'%S+1)*H≤S*H:=Int.mul_le_mul_of_nonneg_right (by omega) (Int.le_of_lt hH)
   have h3:(r'%S+1)*H=(r'%S)*H+H:=by rw[Int.add_mul,Int.one_mul]
   have h4:S*H=H*S:=Int.mul_comm ..
   omega
 rw[e1,e2]
 have e5:(r/S+r'%S*H)*S=S*(r/S)+H*S*(r'%S):=by grind
 rw[e5];omega
theorem val_take_all {U:List Int} {k:Nat} (lU:Lb U) (hk:k≤U.length) (h:val U<BB^k):val (U.take k)=val U:=by
 have e:val U=val (U.take k)+BB^k*val (U.drop k):=by
  have h2:=val_append (U.take k) (U.drop k)
  rw[List.take_append_drop,List.length_take,Nat.min_eq_left hk]at h2
  exact h2
 have p0:=val_nonneg (lU.take k)
 have p2:=val_nonneg (lU.drop k)
 have hn0:(0:Int)<BB^k:=Int.pow_pos (by decide)
 generalize val (U.drop k)=Z at*
 generalize BB^k=C at*
 rcases Int.lt_or_le 0 Z with hz|hz
 ·have:C*1≤C*Z:=Int.mul_le_mul_of_nonneg_left (by omega) (Int.le_of_lt hn0)
  omega
 ·have hz0:Z=0:=by omega
  subst hz0;omega
theorem back_round {R ps:List Int} {i s:Nat} {r r':Int} (hs:s<32) (lR:Lb R) (hl:ps.length=i) (hr:R.getD i 0=r) (hr':R.getD (i+1) 0=r')
    (h:val ps*2^s=val (R.take i)-R.getD 0 0%2^s+(r%2^s)*BB^i):
    val (ps++[(r+r'*4294967296)/2^s%4294967296])*2^s=val (R.take (i+1))-R.getD 0 0%2^s+(r'%2^s)*BB^(i+1):=by
 have b:=back_limb hs (r:=r) (r':=r') (by rw[←hr];exact(lR.getD _).1) (by rw[←hr];exact(lR.getD _).2) (by rw[←hr'];exact(lR.getD _).1)
 rw[val_append,hl,val_take_succ',hr,Int.pow_succ]
 simp only[val]
 have h4:BB=4294967296:=rfl
 generalize hC:BB^i=C at*
 rw[h4]
 generalize(r+r'*4294967296)/2^s%4294967296=x at*
 generalize(2:Int)^s=S at*
 generalize r%S=m at*
 generalize r'%S=m' at*
 have e1:(val ps+C*(x+4294967296*0))*S=val ps*S+C*(x*S):=by grind
 rw[e1,b,h]
 grind
theorem r_short (va:Value) (X:List Int) (d:Int) (w:World) (ha:Lim w va X) (hd:0<d) (hd2:d<4294967296) (hx:X.length≤100000):
    K_ 178 #[va,.int .u32 d] w fun e w'=>∃u v qs r,e=.returned (.tuple #[u,v])∧Lim w' u (trimL qs)∧Lim w' v (trimL [r])∧val qs*d+r=val X∧0≤r∧r<d∧Ext w w':=by
 obtain⟨aoA,bA,oA,cA,rfl,a1,a2,a3,a4,a5,a6⟩:=ha.view
 have lX:=ha.lb
 obtain⟨i0,hi,hz0,hz1,hz2⟩:=info_parts info81
 go_enter Tryz.func178,Tryz.ntmps178
 go_wp2_with (at_make;refine wpList_make_full _ rfl _ _ 22 rfl w.heap.size 54 i0 (.int .u32 0) 1 Tryz.underlying22 hi hz0 hz1 .i64 .i64 _ _ X.length rfl rfl (by omega) (by omega) c_48 c_31 (Nat.le_refl _) ?_;intro w0 hown0 hgrow0)
 have hR0:R32 w0 w.heap.size w.heap.size X.length (List.replicate X.length 0):=R32.made hown0
 have hE0:Ext w w0:=Ext.grown (Ext.refl w) hgrow0
 clear hown0 hgrow0
 go_loopw [7,8] (fun rv j wr=>∃m:Nat,m≤X.length∧rv=.int .u64 (stA X d (upto (dn X.length) m)).2∧j=O ((X.length:Int)-m-1)∧Hid (R32 wr w.heap.size w.heap.size X.length (stA X d (upto (dn X.length) m)).1)∧Hid (Ext w wr)) (fun _ j _=>(intOf j+1).toNat)
 case atStart=>exact⟨0,Nat.zero_le _,rfl,by go_num,hR0,hE0⟩
 case round=>
  obtain⟨m,hm,rfl,rfl,HR,HE⟩:=hrel
  obtain⟨k1,k2,k3,k4⟩:=stA_ok lX hd (upto (dn X.length) m)
  rcases Nat.eq_or_lt_of_le hm with rfl|hlt
  ·have hv:=short_all lX hd (ys:=upto (dn X.length) X.length) rfl
   generalize stA X d (upto (dn X.length) X.length)=st at*
   obtain⟨qs,r⟩:=st
   dsimp only at k2 k3 k4 hv HR ⊢
   have hrU:U32 r:=⟨k3,by omega⟩
   have hL:=HR.out.lim k2 (by omega)
   have hr32:r%4294967296=r:=Int.emod_eq_of_lt k3 (by omega)
   rw[show(X.length:Int)-(X.length:Int)-1= -1 from by omega]
   go_wp2_with (first
    | (go_at_call 129;(with_reducible refine(r_trim _ qs _ (hL.ext (Ext.refl _))).mono ?_);rintro e w1 ⟨u1,rfl,hu1,hb1⟩)
    | (go_at_call 129;(with_reducible refine(r_trim _ [r] _ (lim_one w1 r hrU)).mono ?_);rintro e w2 ⟨u2,rfl,hu2,hb2⟩))
   go_ret2
   have hbb:=((Ext.refl w1).alloc (.cells #[.int .u32 r] 54)).trans hb2
   exact⟨_,_,qs,r,rfl,hu1.ext hbb,hu2,hv,k3,k4,HE.out.trans (hb1.trans hbb)⟩
  ·obtain⟨j,hj⟩:∃j,X.length=m+1+j:=⟨X.length-(m+1),by omega⟩
   have ej:(X.length:Int)-m-1=j:=by omega
   have hsn:=stA_snoc X d (upto (dn X.length) m) (dn X.length m)
   have hdn:(dn X.length m).1=j:=by show X.length-1-m=j;omega
   rw[←upto_succ]at hsn
   have eA:=a1 (by omega)
   subst eA
   have hca:=(HE.out.cells.1 _ (oA+j) (a4 (by omega))).trans (a5 j (by omega))
   have hxk:U32 (X.getD j 0):=lX.getD j
   have hg:=HR.out.cell (k:=j) (by omega)
   have hgf:=HR.out.frozen j
   have hglt:=HR.out.lt
   obtain⟨z,ez⟩:∃z,X.getD j 0=z:=⟨_,rfl⟩
   obtain⟨r,er⟩:∃r,(stA X d (upto (dn X.length) m)).2=r:=⟨_,rfl⟩
   obtain⟨o,eo⟩:∃o,(stA X d (upto (dn X.length) m)).1.getD j 0=o:=⟨_,rfl⟩
   have hst:=HR.out.set j ((r*4294967296+z)/d)
   have hes:Ext w (wr.setCell ⟨w.heap.size,j,none⟩ (.int .u32 ((r*4294967296+z)/d))):=HE.out.setCell (p:=⟨w.heap.size,j,none⟩) (Nat.le_refl _) _
   unfold stp at hsn
   rw[hdn,ez,er]at hsn
   have hnew:Hid ((stA X d (upto (dn X.length) (m+1)))=((stA X d (upto (dn X.length) m)).1.set j ((r*4294967296+z)/d),(r*4294967296+z)%d)):=hsn
   rw[ez]at hca hxk
   rw[er]at k3 k4 ⊢
   rw[eo]at hg
   rw[ej]
   unfold U32 at hxk
   obtain⟨q0,q1⟩:=div_small (x:=r*4294967296+z) (d:=d) (by omega) hd (by omega)
   have r0:=Int.emod_nonneg (r*4294967296+z) (show d≠0 by omega)
   have r1:=Int.emod_lt_of_pos (r*4294967296+z) hd
   have hd3:IntKind.u64.wrap d=d:=u64_small (by omega) (by omega)
   have hd4:d≠0:=by omega
   have hw1:IntKind.u64.wrap ((r*4294967296+z).tdiv d)%4294967296=(r*4294967296+z)/d:=by
    rw[Int.tdiv_eq_ediv_of_nonneg (by omega),u64_small q0 (by omega)];exact Int.emod_eq_of_lt q0 q1
   have hw2:(r*4294967296+z).tmod d=(r*4294967296+z)%d:=Int.tmod_eq_emod_of_nonneg (by omega)
   have hw3:IntKind.u64.wrap ((r*4294967296+z)%d)=(r*4294967296+z)%d:=u64_small r0 (by omega)
   replace hst:Hid _:=hst
   replace hes:Hid _:=hes
   clear hsn er eo ez
   go_wp2_with fail
   go_roundw
   case rel=>exact⟨m+1,by omega,by rw[hnew.out],by go_num,(by rw[hnew.out];exact hst.out:R32 _ _ _ _ _),hes⟩
   case measure=>simp[intOf]
end Go.Proofs.YtaoioncjmfcolaaGreat
namespace Go.Proofs.YtaoioncjmfcolaaGreat
open Go.RowKit Go.Shelf
def OvJ (R:List Int) (s n1:Nat) (wo:World) (v i:Value) (wx:World):Prop:=∃(j:Nat) (ps:List Int),j≤n1+2∧i=O j∧ps.length=j∧Lb ps∧val ps*2^s=val (R.take j)-R.getD 0 0%2^s+(R.getD j 0%2^s)*BB^j∧Hid (A32 wx wo.heap.size v ps)∧Hid (Ext wo wx)
theorem r_overG (va vb:Value) (X Y:List Int) (n1:Nat) (w:World) (ha:Lim w va X) (hb0:Lim w vb Y) (hX:Nz X) (hY:Nz Y) (hx:X.length≤49990) (hYl:Y.length=n1+2) (hle:val Y≤val X):
    K_ 162 #[va,vb] w (DivPost X Y w):=by
  have hcm:=r_compare va vb X Y w ha hb0 hX hY
  have lX:=ha.lb
  have lY:=hb0.lb
  have hlen:Y.length≤X.length:=by
    rcases Nat.lt_or_ge X.length Y.length with h|h
    · have:=val_lt_of_len lX lY hY h;omega
    · exact h
  have hc0:decide (cmpI (val X) (val Y)<0)=false:=decide_eq_false (by unfold cmpI;rw[if_neg (by omega)];split<;>omega)
  obtain⟨c,ec⟩:∃c,cmpI (val X) (val Y)=c:=⟨_,rfl⟩
  rw[ec]at hcm hc0
  obtain⟨bo,b2,o2,cap2,rfl,y1,y2,y3,y4,y5,y6⟩:=hb0.view
  have e:=y1 (by omega)
  subst e
  have hbl:=y4 (by omega)
  have hcell:=y5 (n1+1) (by omega)
  have hyU:U32 (Y.getD (n1+1) 0):=lY.getD _
  have hy0:Y.getD (n1+1) 0≠0:=by
    refine hY _ ?_
    rw[List.getLast?_eq_getElem?,hYl,List.getD_eq_getElem?_getD,List.getElem?_eq_getElem (show n1+1<Y.length by omega)]
    simp
  obtain⟨y,ey⟩:∃y,Y.getD (n1+1) 0=y:=⟨_,rfl⟩
  rw[ey]at hcell hyU hy0
  rw[hYl]at hcm hb0 ⊢
  clear ec y5 y4 y1
  have hyU2:=hyU
  unfold U32 at hyU2
  go_enter Tryz.func162,Tryz.ntmps162
  go_upto_block 0 with(go_at_call 177;(with_reducible refine hcm.mono ?_);rintro e w1 ⟨rfl,hb1⟩)
  go_cut [7]from 33 to 42 (fun s7 wx=>∃s:Nat,s7=.int .u64 s∧s<32∧y*2^s<4294967296∧Ext w wx)
  case first=>
    go_wp2_with fail
    go_loopw [7] (fun sv wr=>∃s:Nat,sv=.int .u64 s∧s<32∧y*2^s<4294967296∧Hid (Ext w wr)) (fun sv _=>32-(intOf sv).toNat)
    case atStart=>exact⟨0,rfl,by decide,by omega,hb1⟩
    case round=>
      obtain⟨s,rfl,hs,hsl,HE⟩:=hrel
      have hc1:=(HE.out.cells.1 b2 (o2+(n1+1)) hbl).trans hcell
      have hp0:(0:Int)<2^s:=Int.pow_pos (by decide)
      have hys:0≤y*2^s:=Int.mul_nonneg hyU2.1 (Int.le_of_lt hp0)
      have hym:y*2^s%4294967296=y*2^s:=Int.emod_eq_of_lt hys hsl
      have hy1:1≤y:=by omega
      have hs1:1*2^s≤y*2^s:=Int.mul_le_mul_of_nonneg_right hy1 (Int.le_of_lt hp0)
      by_cases h31:y*2^s<2147483648
      · have hsn:s<31:=by
          rcases Nat.lt_or_ge s 31 with h|h
          · exact h
          · have:=two_pow_le h
            have e31:(2:Int)^31=2147483648:=by decide
            omega
        have hnx:y*2^(s+1)<4294967296:=by rw[Int.pow_succ, ←Int.mul_assoc];omega
        go_wp2_with fail
        go_roundw
        case rel=>exact⟨s+1,by go_num,by omega,hnx,HE⟩
        case measure=>simp[intOf];omega
      · go_wp2_with fail
        go_meet
        exact⟨s,rfl,hs,hsl,HE.out⟩
  case rest=>
    obtain⟨s,rfl,hs,hsl,hEc⟩:=hcut
    go_upto_region 11 with(first
      | (go_at_call 179;(with_reducible refine(r_left _ Y s _ (hb0.ext hEc) (by omega) hs).mono ?_);rintro e t1 ⟨gv,cv,Z,rfl,hOv,lZ,vZ,nZ,hx1⟩;have pv:=hOv.parts;rw[nZ,hYl]at pv)
      | (go_at_call 179;(with_reducible refine(r_left _ X s _ (ha.ext (hEc.trans hx1)) (by omega) hs).mono ?_);rintro e t2 ⟨gu,cu,U0,rfl,hOu,lU0,vU0,nU0,hx2⟩;have pu:=hOu.parts;rw[nU0]at hOu pu))
    have hE2:Ext w t2:=hEc.trans (hx1.trans hx2)
    have hs1:=hE2.size
    have hsc:=hEc.size
    obtain⟨vV,lenV⟩:=top_fits (n:=n1+1) hs (by omega) lY lZ (by omega) vZ (by rw[ey];exact hsl)
    have lV:Lb (Z.take (n1+1+1)):=lZ.take _
    have hOv2:O32 t2 0 gv (n1+2) cv (Z.take (n1+1+1)):=((hOv.ext hx2).base (Nat.zero_le _)).take (n1+2) (by omega)
    have hLv:Lim t2 (.slice (some ⟨gv,0,none⟩) (n1+2) cv) (Z.take (n1+1+1)):=hOv2.lim lV (by omega)
    have hVtop:(Z.take (n1+1+1)).getD (n1+1) 0≠0:=by
      have hvv:val (Z.take (n1+1+1))=val Y*2^s:=vV
      intro h0
      have e:=val_take_succ' (Z.take (n1+1+1)) (n1+1)
      rw[List.take_of_length_le (by omega),h0]at e
      have p1:=val_lt (lV.take (n1+1))
      rw[List.length_take,lenV,Nat.min_eq_left (by omega)]at p1
      have p2:=val_pos lY hY (by rintro rfl;simp at hYl)
      rw[hYl]at p2
      have p3:BB^(n1+1)*1≤val Y*2^s:=Int.mul_le_mul p2 (Int.pow_pos (by decide)) (by decide) (val_nonneg lY)
      rw[Int.mul_zero,Int.add_zero]at e
      omega
    obtain⟨V,eV⟩:∃V,Z.take (n1+1+1)=V:=⟨_,rfl⟩
    rw[eV]at vV lenV lV hLv hVtop
    have hOu2:O32 t2 0 gu (X.length+1) cu U0:=hOu.base (Nat.zero_le _)
    have hgv:w.heap.size≤gv∧gv<t1.heap.size∧t1.heap.size≤t2.heap.size∧t1.heap.size≤gu∧gu<t2.heap.size:=by
      have a1:=hx1.size;have a2:=hx2.size;omega
    obtain⟨N,hN⟩:∃N,X.length=N+(n1+1):=⟨X.length-(n1+1),by omega⟩
    have hU0:val U0<BB^N*val V:=by
      rw[vU0,vV, ←Int.mul_assoc]
      refine Int.mul_lt_mul_of_pos_right ?_ (Int.pow_pos (by decide))
      have q1:=val_lt lX
      have q2:=val_pos lY hY (by rintro rfl;simp at hYl)
      rw[hN,Int.pow_add]at q1
      rw[hYl]at q2
      exact Int.lt_of_lt_of_le q1 (Int.mul_le_mul_of_nonneg_left q2 (Int.pow_nonneg (by decide)))
    have hV2:Hid (val V=val Y*2^s):=vV
    have hU2:Hid (val U0=val X*2^s):=vU0
    obtain⟨i0,hi,hz0,hz1,hz2⟩:=info_parts info81
    clear hOv hOu hOv2 hx1 hx2 hcell vV vU0 vZ eV hsl ey hyU hy0 lZ nZ
    go_wp2_with (at_make;refine wpList_make_full _ rfl _ _ 22 rfl t2.heap.size 54 i0 (.int .u32 0) 1 Tryz.underlying22 hi hz0 hz1 .i64 .i64 _ _ N rfl rfl (by omega) (by omega) c_48 c_31 (Nat.le_refl _) ?_;intro w5 hown5 hgrow5)
    have hR5:R32 w5 t2.heap.size t2.heap.size N (List.replicate N 0):=R32.made hown5
    have hE5:Ext t2 w5:=Ext.grown (Ext.refl _) hgrow5
    have hOu5:=hOu2.ext hE5
    have hLv5:=hLv.ext hE5
    have hEw5:=hE2.trans hE5
    clear hown5 hgrow5 hOu2 hLv
    go_loopw [11] (fun i wr=>∃(k:Nat) (U Q:List Int),k≤N∧i=O ((k:Int)-1)∧Lb U∧Lb Q∧Hid (∀i,i<k→Q.getD i 0=0)∧Hid (val U+val Q*val V=val U0)∧val U<BB^k*val V∧
        Hid (O32 wr 0 gu (X.length+1) cu U)∧Hid (Lim wr (.slice (some ⟨gv,0,none⟩) (n1+2) cv) V)∧Hid (R32 wr t2.heap.size t2.heap.size N Q)∧Hid (Ext w wr)) (fun i _=>(intOf i+1).toNat)
    case atStart=>exact⟨N,U0,List.replicate N 0,Nat.le_refl _,by go_num,lU0,fun y hy=>by rw[List.eq_of_mem_replicate hy];exact⟨by decide,by decide⟩,(fun i _=>by simp[List.getD_eq_getElem?_getD,List.getElem?_replicate];split<;>rfl:∀i,i<N→_),(by rw[val_zeros];simp:val U0+_=_),hU0,hOu5,hLv5,hR5,hEw5⟩
    case round=>
      clear hOu5 hLv5 hR5 hEw5
      obtain⟨k,U,Q,hk,rfl,lU,lQ,hQ0,hval,hUk,HU,HV,HQ,HE⟩:=hrel
      have hpU:=HU.out.parts
      have hQl:=HQ.out.len
      have hUl:=HU.out.len
      have hglt:=HQ.out.lt
      cases k with
      |zero=>
        obtain⟨wo,ewo⟩:∃wo,wo=wr:=⟨_,rfl⟩
        subst ewo
        rw[show((0:Nat):Int)-1= -1 from rfl]
        rw[Int.pow_zero,Int.one_mul]at hUk
        have hfin:=hval
        have hUn:val (U.take (n1+2))=val U:=by
          have q:=val_lt lV
          rw[lenV]at q
          exact val_take_all lU (by omega) (Int.lt_trans hUk q)
        have hLr:Lim wo (.slice (some ⟨gu,0,none⟩) (n1+2) cu) (U.take (n1+2)):=(HU.out.take (n1+2) (by omega)).lim (lU.take _) (by omega)
        have hLq:=HQ.out.lim lQ (by omega)
        have lR:Lb (U.take (n1+2)):=lU.take _
        have hRl:(U.take (n1+2)).length=n1+2:=by rw[List.length_take];omega
        have hRc:Hid (∀i,i<n1+2→wo.cell? ⟨gu,i,none⟩=some (.int .u32 ((U.take (n1+2)).getD i 0))):=fun i hi=>by rw[take_getD hi];exact HU.out.cell (by omega)
        have hguwr:gu<wo.heap.size:=hpU.1
        obtain⟨R,eR⟩:∃R,U.take (n1+2)=R:=⟨_,rfl⟩
        rw[eR]at hUn hLr lR hRl hRc
        have hEwr:=HE.out
        clear hval HU HV HQ HE hQ0 hk eR
        have hA0:A32 wo wo.heap.size (.slice none 0 0) []:=A32.nil _ _
        go_wp2_with fail
        go_loopw [13,14] (fun v i wx=>OvJ R s n1 wo v i wx) (fun _ i _=>n1+2-(intOf i).toNat)
        case atStart=>exact⟨0,[],Nat.zero_le _,rfl,rfl,Lb.nil,by simp[val];omega,hA0,Ext.refl _⟩
        case round=>
          obtain⟨j,ps,hj,rfl,hpl,hpb,hv,HR,HE⟩:=hrel
          have hszx:=HE.out.size
          rcases Nat.eq_or_lt_of_le hj with rfl|hj2
          · have hR0:R.getD (n1+2) 0=0:=by rw[List.getD_eq_getElem?_getD,List.getElem?_eq_none (by omega)];rfl
            rw[hR0,Int.zero_emod,Int.zero_mul,Int.add_zero,List.take_of_length_le (by omega)]at hv
            have hp0:(0:Int)<2^s:=Int.pow_pos (by decide)
            have rr0:=Int.emod_nonneg (R.getD 0 0) (show(2:Int)^s≠0 by omega)
            have rr1:=Int.emod_lt_of_pos (R.getD 0 0) hp0
            have hrv:val ps*2^s+R.getD 0 0%2^s=val R:=by omega
            obtain⟨m1,m2⟩:=div_fin hUn hrv rr0 rr1 hp0 hfin.out hV2.out hU2.out hUk
            have hLq2:=hLq.ext HE.out
            have hLp:=HR.out.lim hpb (by omega)
            have hmm1:Hid _:=m1
            have hmm2:Hid _:=m2
            clear m1 m2 hrv rr0 rr1 hv hRc hR0 hLq hfin
            go_wp2_with (first
              | (go_at_call 129;(with_reducible refine(r_trim _ Q _ hLq2).mono ?_);rintro e w8 ⟨u8,rfl,hu8,hb8⟩;have hLp8:=hLp.ext hb8;clear hLq2 hLp)
              | (go_at_call 129;(with_reducible refine(r_trim _ ps _ hLp8).mono ?_);rintro e w9 ⟨u9,rfl,hu9,hb9⟩))
            go_ret2
            exact⟨_,_,trimL Q,trimL ps,rfl,hu8.ext hb9,hu9,trim_nz _,trim_nz _,by rw[val_trim,val_trim];exact hmm1.out,by rw[val_trim];exact hmm2.out,hEwr.trans (HE.out.trans (hb8.trans hb9))⟩
          · have hca:=(HE.out.cells.1 gu j hguwr).trans (hRc.out j hj2)
            have hrU:U32 (R.getD j 0):=lR.getD j
            have hrU':U32 (R.getD (j+1) 0):=lR.getD (j+1)
            have hcb:j+1<n1+2→wr.cell? ⟨gu,j+1,none⟩=some (.int .u32 (R.getD (j+1) 0)):=fun h=>(HE.out.cells.1 gu (j+1) hguwr).trans (hRc.out (j+1) h)
            have hrz:¬j+1<n1+2→R.getD (j+1) 0=0:=fun h=>by rw[List.getD_eq_getElem?_getD,List.getElem?_eq_none (by omega)];rfl
            obtain⟨r,er⟩:∃r,R.getD j 0=r:=⟨_,rfl⟩
            obtain⟨r',er'⟩:∃r',R.getD (j+1) 0=r':=⟨_,rfl⟩
            rw[er]at hca hrU hv
            have hqq:Hid _:=back_round hs lR hpl er er' hv
            rw[er']at hrU' hcb hrz
            unfold U32 at hrU hrU'
            clear hv
            obtain⟨W,eW⟩:∃W,r+r'*4294967296=W:=⟨_,rfl⟩
            rw[eW]at hqq
            have W0:0≤W:=by omega
            have W1:W<18446744073709551616:=by omega
            have hwW:IntKind.u64.wrap W=W:=u64_small W0 W1
            have hwr':IntKind.u64.wrap (r'*4294967296)=r'*4294967296:=u64_small (by omega) (by omega)
            have hown:(wr.alloc (.cells #[.int .u32 (W/2^s%4294967296)] 54)).ownsRow wo.heap.size 54 1 u13 j (ps.map (Value.int .u32)):=by have:=HR.out.alloc (.cells #[.int .u32 (W/2^s%4294967296)] 54);unfold A32 at this;rw[hpl]at this;exact this
            have hWd0:0≤W/2^s:=Int.ediv_nonneg W0 (Int.le_of_lt (Int.pow_pos (by decide)))
            have hWd1:W/2^s≤W:=Int.ediv_le_self _ W0
            have hdone:∀wz v',A32 wz wo.heap.size v' (ps++[W/2^s%4294967296])→Hid (Ext wo wz)→OvJ R s n1 wo v' (O ((j:Int)+1)) wz:=fun wz v' k1 k2=>
              ⟨j+1,ps++[W/2^s%4294967296],hj2,by go_num,by simp[hpl],hpb.snoc (U32.mod _),by rw[er'];exact hqq.out,k1,k2⟩
            replace hdone:Hid _:=hdone
            clear er er'
            by_cases hjn:j+1<n1+2
            · have hcb2:=hcb hjn
              clear hcb hrz
              go_wp2_with (at_builtin;refine wpList_append_own _ rfl _ _ 22 rfl wo.heap.size 54 i0 (.int .u32 0) 1 4 Tryz.underlying22 hi hz0 hz1 hz2 rfl (by decide) _ _ _ rfl hown ⟨wr.heap.size,0,none⟩ 1 1 [Value.int .u32 (W/2^s%4294967296)] rfl rfl (cell_one_l _ _ _) c_29 c_31 (by omega) c_26 ?_;intro v' w1 hown1 hgrow1 hnil)
              have hR1:=A32.snoc hown1 hpl
              have hE1:Hid (Ext wo w1):=(own_ext (HE.out.alloc _) hown hgrow1:Ext wo w1)
              go_roundw
              case rel=>exact hdone.out _ _ hR1 hE1
              case measure=>simp[intOf];omega
            · have hr0:=hrz hjn
              subst hr0
              have eW2:W=r:=by omega
              subst eW2
              have hm:W/2^s%4294967296=W/2^s:=Int.emod_eq_of_lt hWd0 (by omega)
              rw[hm]at hown hdone
              clear hcb hrz eW
              go_wp2_with (at_builtin;refine wpList_append_own _ rfl _ _ 22 rfl wo.heap.size 54 i0 (.int .u32 0) 1 4 Tryz.underlying22 hi hz0 hz1 hz2 rfl (by decide) _ _ _ rfl hown ⟨wr.heap.size,0,none⟩ 1 1 [Value.int .u32 (W/2^s)] rfl rfl (cell_one_l _ _ _) c_29 c_31 (by omega) c_26 ?_;intro v' w1 hown1 hgrow1 hnil)
              have hR1:=A32.snoc hown1 hpl
              have hE1:Hid (Ext wo w1):=(own_ext (HE.out.alloc _) hown hgrow1:Ext wo w1)
              go_roundw
              case rel=>exact hdone.out _ _ hR1 hE1
              case measure=>simp[intOf];omega
      |succ j=>
        obtain⟨hm,hz⟩:=div_pre lU lV lenV (j:=j) (by omega) hUk
        have hgj:=HQ.out.cell (k:=j) (by omega)
        have hgf:=HQ.out.frozen j
        have hlj:j+(n1+2)+1-j=n1+2+1:=by omega
        have hst:=fun cuj hcuj=>r_digit gu j (X.length+1) cu cuj n1 U V _ wr lenV HU.out (by omega) hcuj HV.out (Off.mk (by omega)) lU (by omega) hVtop hm
        go_wp2_with (go_at_call 180;(with_reducible refine(hst _ (by omega)).mono ?_);rintro e w6 ⟨d,R,rfl,hdU,hO6,lenR,lR,hRv,hRlt,hgr6⟩;have HQ6:O32 w6 t2.heap.size t2.heap.size N N Q:=(HQ.out.own).grownAt hgr6 (by omega);have c6:=HQ6.cell (k:=j) (by omega);have f6:=HQ6.frozen j)
        obtain⟨p1,p2⟩:=div_post lU lR lenR (V:=V) (j:=j) (n:=n1+2) (by omega) hz hRv hRlt
        have hsv:=set_val (d:=d) (show j<Q.length by omega) (hQ0.out j (by omega))
        have HO9:Hid (O32 (w6.setCell ⟨t2.heap.size,j,none⟩ (.int .u32 d)) 0 gu (X.length+1) cu (U.take j++(R++U.drop (j+(n1+2+1))))):=hO6.other _ (by omega)
        have HL9:Hid (Lim (w6.setCell ⟨t2.heap.size,j,none⟩ (.int .u32 d)) (.slice (some ⟨gv,0,none⟩) (n1+2) cv) V):=(HV.out.grownAt hgr6 (Off.mk (by omega))).grownAt (grown_set (k:=j) (World.grownBy.refl _ (some t2.heap.size)) _) (Off.mk (by omega))
        have HQ9:Hid (R32 (w6.setCell ⟨t2.heap.size,j,none⟩ (.int .u32 d)) t2.heap.size t2.heap.size N (Q.set j d)):=(HQ6.set j d:O32 _ _ _ _ _ _)
        have HE9:Hid (Ext w (w6.setCell ⟨t2.heap.size,j,none⟩ (.int .u32 d))):=(ext_in HE.out hgr6 (by omega)).setCell (p:=⟨t2.heap.size,j,none⟩) c_57 _
        have hvv:val (U.take j++(R++U.drop (j+(n1+2+1))))+val (Q.set j d)*val V=val U0:=by
          rw[p1,hsv, ←hval.out];grind
        go_roundw
        case rel=>exact⟨j,_,Q.set j d,by omega,rfl,(lU.take j).append (lR.append (lU.drop _)),lQ.set j hdU,(fun i hi=>by rw[set_low hi];exact hQ0.out i (by omega):∀i,i<j→_),hvv,p2,HO9,HL9,HQ9,HE9⟩
        case measure=>simp[intOf]
end Go.Proofs.YtaoioncjmfcolaaGreat
namespace Go.Proofs.YtaoioncjmfcolaaGreat
open Go.RowKit
theorem r_overS (va vb:Value) (X Y:List Int) (w:World) (ha:Lim w va X) (hb0:Lim w vb Y) (hX:Nz X) (hY:Nz Y) (hx:X.length≤49990) (h1:val X<val Y∨Y.length=1):
    K_ 162 #[va,vb] w (DivPost X Y w):=by
 have hcm:=r_compare va vb X Y w ha hb0 hX hY
 by_cases hlt:val X<val Y
 ·rw[cmp_lt hlt]at hcm
  obtain⟨bo,b2,o2,cap2,rfl, -⟩:=hb0.view
  go_enter Tryz.func162,Tryz.ntmps162
  go_wp2_with (first
   | (go_at_call 177;(with_reducible refine hcm.mono ?_);rintro e w1 ⟨rfl,hb⟩)
   | (go_at_call 129;(with_reducible refine(r_trim _ X _ (ha.ext hb)).mono ?_);rintro e w2 ⟨u,rfl,hu,hb2⟩))
  go_ret2
  rw[trim_of_nz hX]at hu
  exact⟨_,_,[],X,rfl,Lim.nil _,hu,Nz.nil,hX,by simp[val],hlt,hb.trans hb2⟩
 ·have hn:Y.length=1:=h1.resolve_left hlt
  obtain⟨d,rfl⟩:∃d,Y=[d]:=List.length_eq_one_iff.1 hn
  have hd0:d≠0:=hY d rfl
  have hdU:=hb0.lb.head
  have hvd:val [d]=d:=by simp[val]
  have hc0:decide (cmpI (val X) (val [d])<0)=false:=decide_eq_false (by unfold cmpI;rw[if_neg hlt];split<;>omega)
  obtain⟨c,ec⟩:∃c,cmpI (val X) (val [d])=c:=⟨_,rfl⟩
  rw[ec]at hcm hc0
  obtain⟨bo,b2,o2,cap2,rfl,y1,y2,y3,y4,y5,y6⟩:=hb0.view
  have e:=y1 (by simp)
  subst e
  have hcell:=y5 0 (by simp)
  simp only[List.getD_cons_zero,Nat.add_zero]at hcell
  have hbl:=y4 (by simp)
  simp only[List.length_cons,List.length_nil,Nat.zero_add]at hcm ⊢
  have hsh:=fun w1 (k:Ext w w1)=>r_short va X d w1 (ha.ext k) (by omega) hdU.2 (by omega)
  clear ec y5 y4 y1
  go_enter Tryz.func162,Tryz.ntmps162
  go_wp2_with (first
   | (go_at_call 177;(with_reducible refine hcm.mono ?_);rintro e w1 ⟨rfl,hb⟩;have hc1:=(hb.cells.1 b2 o2 hbl).trans hcell)
   | (go_at_call 178;(with_reducible refine(hsh _ hb).mono ?_);rintro e w2 ⟨u,v,qs,r,rfl,hu,hv,hval,r0,r1,hb2⟩))
  go_ret2
  refine⟨_,_,trimL qs,trimL [r],rfl,hu,hv,trim_nz _,trim_nz _, ?_, ?_,hb.trans hb2⟩
  ·rw[val_trim,val_trim,hvd];simpa [val]using hval
  ·rw[val_trim,hvd];simpa [val]using r1
theorem r_over (va vb:Value) (X Y:List Int) (w:World) (ha:Lim w va X) (hb0:Lim w vb Y) (hX:Nz X) (hY:Nz Y) (hx:X.length≤49990) (h0:0<Y.length):
    K_ 162 #[va,vb] w (DivPost X Y w):=by
 by_cases h1:val X<val Y∨Y.length=1
 ·exact r_overS va vb X Y w ha hb0 hX hY hx h1
 ·exact r_overG va vb X Y (Y.length-2) w ha hb0 hX hY hx (by omega) (by omega)
theorem r_bothZ (va vb:Value) (m k:Int) (w:World) (ha:Wid w va m) (hb0:Wid w vb k) (hs:Sz m) (hs2:Sz k):
    K_ 161 #[va,vb] w fun e w'=>e=.returned (O 0)∧Ext w w':=by
 have h1:=fun w1 (k1:Ext w w1)=>r_CheckZ va m w1 (ha.ext k1) hs
 have h2:=fun w1 (k1:Ext w w1)=>r_CheckZ vb k w1 (hb0.ext k1) hs2
 obtain⟨s1,a1,n1,c1,rfl, -⟩:=ha.open
 obtain⟨s2,a2,n2,c2,rfl, -⟩:=hb0.open
 clear ha hb0
 go_enter Tryz.func161,Tryz.ntmps161
 go_upto_region 3 with(go_at_call 65;(with_reducible refine(h1 _ ex_).mono ?_);rintro e w1 ⟨rfl,hb⟩;obtain⟨_,_,⟨hc,hf⟩,hz⟩:=hb.c3;(try simp only[wsz]at hz hc hf))
 go_wp2_with (go_at_call 65;(with_reducible refine(h2 _ ex_).mono ?_);rintro e w2 ⟨rfl,hb2⟩)
 go_ret
 exact⟨rfl,ex_⟩
theorem r_GcdS (va vb:Value) (sa:Bool) (m k:Nat) (w:World) (ha:Sm w va sa m) (hb0:Nn w vb k) (hs:Small m) (hs2:Small k) (hbq:∀w1,Ext w w1→K_ 161 #[va,vb] w1 fun e w'=>e=.returned (O 0)∧Ext w1 w'):
    K_ 126 #[va,vb] w fun e w'=>∃u,e=.returned (.tuple #[u,O 0])∧Nn w' u (Nat.gcd m k)∧Ext w w':=by
 obtain⟨u,rfl,hu⟩:=ha
 obtain⟨s,rfl,hv⟩:=hb0
 obtain⟨ao,b1,o1,cap1,rfl, -⟩:=hu.view
 obtain⟨bo,b2,o2,cap2,rfl, -⟩:=hv.view
 have hbo:=hbq
 go_enter Tryz.func126,Tryz.ntmps126
 go_upto_region 3 with(go_at_call 161;(with_reducible refine(hbo _ ex_).mono ?_);rintro e w1 ⟨rfl,hb⟩)
 have hEA:Ext w (((w.alloc (.cells #[.bool sa,.slice ao (dig m).length cap1] 24)).alloc (.cells #[.bool false,.slice bo (dig k).length cap2] 24)).alloc (.cells #[.bool false,.slice none 0 0] 24)):=ex_
 have hE1:=hEA.trans hb
 have k1:w1.cell? ⟨w.heap.size,1,none⟩=some (.slice ao (dig m).length cap1):=(hb.cells.1 _ 1 c_26).trans c_12
 have k3:w1.cell? ⟨w.heap.size+1,1,none⟩=some (.slice bo (dig k).length cap2):=(hb.cells.1 _ 1 (by simp)).trans c_12
 have hA4:w.heap.size+1+1<w1.heap.size:=by have:=hb.size;simp only[World.size_alloc]at this;omega
 have c0:w1.cell? ⟨w.heap.size+1+1,0,none⟩=some (.bool false):=(hb.cells.1 _ 0 (by simp)).trans c_12
 have c1:w1.cell? ⟨w.heap.size+1+1,1,none⟩=some (.slice none 0 0):=(hb.cells.1 _ 1 (by simp)).trans c_12
 have f0:∀o,w1.frozen? ⟨w.heap.size+1+1,o,none⟩=false:=fun o=>(hb.cells.2 _ o (by simp)).trans c_12
 have hnu:NoU w1 (w.heap.size+1+1):=by
  have:=(NoU.new ((w.alloc (.cells #[.bool sa,.slice ao (dig m).length cap1] 24)).alloc (.cells #[.bool false,.slice bo (dig k).length cap2] 24)) #[.bool false,.slice none 0 0] 24 (noU2 (by simp) (by simp))).ext (by simp) hb
  simpa using this
 clear hbo hb hEA
 go_quiet (fail)
 go_wp2_with fail
 go_loopw [6,7] (fun p q wr=>∃a c:Nat,Small a∧Small c∧Hid (Nat.gcd a c=Nat.gcd m k)∧Hid (Lim wr p (dig a))∧Hid (Lim wr q (dig c))∧Hid (Ext w1 wr)) (fun _ q wr=>lmeas wr q)
 case atStart=>exact⟨m,k,hs,hs2,rfl,hu.ext (hE1.trans ((Ext.refl _).drewN _)),hv.ext (hE1.trans ((Ext.refl _).drewN _)),(Ext.refl _).drewN _⟩
 case round=>
  obtain⟨a,c,a1,cc1,hg,HA,HC,HB⟩:=hrel
  obtain⟨ao4,b4,o4,cap4,rfl, -⟩:=HA.out.view
  obtain⟨ao5,b5,o5,cap5,rfl, -⟩:=HC.out.view
  rcases Nat.eq_zero_or_pos c with h0|h0
  ·subst h0
   have hl0:(dig 0).length=0:=rfl
   have hga:Hid (a=Nat.gcd m k):=by show a=_;rw[←hg.out,Nat.gcd_zero_right]
   rw[hl0]
   have hla:(dig a).length≤4096:=a1
   go_wp2_with (go_at_call 67;(with_reducible refine(r_madeN _ (dig a) a _ HA.out (dig_val a) hla).mono ?_);rintro e w5 ⟨y16,rfl,hu6,hb6⟩;obtain⟨ao7,b7,o7,cap7,rfl,_⟩:=hu6.view;have hEx:=HB.out.trans hb6;have d0:=(hEx.cells.1 _ 0 hA4).trans c0;have d1:=(hEx.cells.1 _ 1 hA4).trans c1;have g0:=(hEx.cells.2 _ 0 hA4).trans (f0 0);have g1:=(hEx.cells.2 _ 1 hA4).trans (f0 1);have hnv:=hnu.ext hA4 hEx)
   rw[←hga.out]
   refine bodyPost_ret (v:=.tuple #[.agg #[.bool false,.slice ao7 (dig a).length cap7],O 0]) ?_ rfl ⟨_,rfl,⟨_,rfl, ?_⟩, ?_⟩
   ·simp[results,Tryz.results126,go_sem, ↓IntWalk.iteOmega,d0,d1]
   ·exact Lim.box (Lim.box hu6 hnv) (NoU.set hnv (fun z e=>by cases e))
   ·exact((hE1.trans hEx).setCell (p:=⟨w.heap.size+1+1,0,none⟩) c_57 _).setCell (p:=⟨w.heap.size+1+1,1,none⟩) c_57 _
  ·have hl1:0<(dig c).length:=dig_pos.2 h0
   have hdv:=r_over _ _ (dig a) (dig c) wr HA.out HC.out (dig_nz a) (dig_nz c) (by unfold Small at a1;omega) hl1
   have hmeas:lmeas wr (.slice ao5 (dig c).length cap5)=c:=HC.out.meas
   go_wp2_with (go_at_call 162;(with_reducible refine hdv.mono ?_);rintro e w4 ⟨y14,y15,qs,rs,rfl,hq,hr,nq,nr,hval,hlt,hb5⟩)
   obtain⟨eq,er⟩:=div_dig hq.lb hr.lb nq nr hval hlt
   rw[er]at hr
   have hrc:a%c<c:=Nat.mod_lt _ h0
   have hm2:lmeas w4 y15=a%c:=hr.meas
   go_roundw
   case rel=>exact⟨c,a%c,cc1,Nat.le_trans (dig_mono (Nat.le_of_lt hrc)) cc1,(by rw[Nat.gcd_comm, ←Nat.gcd_rec,Nat.gcd_comm,hg.out]:_=_),HC.out.ext hb5,hr,HB.out.trans hb5⟩
   case measure=>rw[hm2,hmeas];exact hrc
theorem r_GcdZ (va vb:Value) (n:Int) (k:Nat) (w:World) (ha:Wid w va n) (hb0:Nn w vb k) (hs:Sz n) (hs2:Small k):
    K_ 126 #[va,vb] w fun e w'=>∃u,e=.returned (.tuple #[u,O 0])∧Nn w' u (Nat.gcd n.natAbs k)∧Ext w w':=
  r_GcdS va vb (decide (n<0)) n.natAbs k w ha hb0 hs hs2 (fun w1 k1=>r_bothZ va vb n k w1 (ha.ext k1) (hb0.ext k1).wid hs hs2)
theorem r_FromN (n:Nat) (w:World) (h0:0<n) (hn:n≤9223372036854775808):
    K_ 26 #[O (-(n:Int))] w fun e w'=>∃u,e=.returned u∧Wid w' u (-(n:Int))∧Ext w w':=by
 have hL:=lim_two (w.alloc (.cells #[.bool false,.slice none 0 0] 24)) ((n:Int)%4294967296) ((n:Int)/4294967296) c_59 c_59
 rw[World.size_alloc]at hL
 have hv:val [(n:Int)%4294967296,(n:Int)/4294967296]=n:=by simp only[val];unfold BB;omega
 have hl:(dig n).length≤4096:=dig_bits (k:=64) (L:=4096) (by omega) (by decide)
 have hd:decide (-(n:Int)<0)=true:=decide_eq_true (by omega)
 have hwu:IntKind.u64.wrap (-(IntKind.u64.wrap (-(n:Int))))=n:=by rw[IntKind.wrap_u64,IntKind.wrap_u64];omega
 have hw2:(n:Int)/4294967296%4294967296=(n:Int)/4294967296:=by omega
 have hlen:=dig_pos.2 h0
 have hmd:=(r_madeS true _ _ n _ hL hv hl).mono (R':=fun e w'=>∃u,e=.returned (.tuple #[.agg #[.bool true,u],O 0])∧Lim w' u (dig n)∧Ext ((w.alloc (.cells #[.bool false,.slice none 0 0] 24)).alloc (.cells #[.int .u32 ((n:Int)%4294967296),.int .u32 ((n:Int)/4294967296)] 54)) w') (by
  rintro e w1 ⟨s,bo,rfl,hs,hbo,hb⟩
  rw[decide_eq_true hlen]at hbo
  subst hbo
  exact⟨s,rfl,hs,hb⟩)
 clear hL hv hl
 go_enter Tryz.func26,Tryz.ntmps26
 go_wp2_with (go_at_call 67;(with_reducible refine hmd.mono ?_);rintro e w1 ⟨s,rfl,hs,hb⟩;obtain⟨ao,b1,o1,cap1,rfl, -⟩:=hs.view;obtain⟨_,_,⟨hc,hf⟩,hz⟩:=hb.c3;(try simp only[wsz]at hz hc hf))
 clear hwu hw2 hmd
 have hB:NoU w1 w.heap.size:=((NoU.new w _ _ (noU2 (by simp) (by simp))).alloc (by simp) _ _).ext c_26 hb
 refine bodyPost_ret (v:=.agg #[.bool true,.slice ao (dig n).length cap1]) ?_ rfl ⟨_,rfl,⟨_,by rw[hd], ?_⟩, ?_⟩
 ·simp[results,Tryz.results26,go_sem, ↓IntWalk.iteOmega, *]
 ·rw[Int.natAbs_neg,Int.natAbs_natCast]
  have hB3:=hB.alloc (c:=#[.bool true,.slice ao (dig n).length cap1]) (t:=24) (by omega)
  exact Lim.box (Lim.box (hs.alloc _) hB3) (NoU.set hB3 (fun z e=>by cases e))
 ·exact b_1
theorem r_FromZ (n:Int) (w:World) (h0: -9223372036854775808≤n) (h1:n≤9223372036854775807):
    K_ 26 #[O n] w fun e w'=>∃u,e=.returned u∧Wid w' u n∧Ext w w':=by
 by_cases h:n<0
 ·obtain⟨m,hm⟩:∃m:Nat,n= -(m:Int):=⟨n.natAbs,by omega⟩
  subst hm
  exact r_FromN m w (by omega) (by omega)
 ·obtain⟨m,hm⟩:∃m:Nat,n=(m:Int):=⟨n.natAbs,by omega⟩
  subst hm
  refine(r_From m w (by omega)).mono ?_
  rintro e w' ⟨u,rfl,hu,hb⟩
  exact⟨u,rfl,hu.wid,hb⟩
theorem T_RI_1 {p:Prop} (h:p:=by
 go_upto_region 13 with fail
 refine wp_name fun W hW=> ?_
 have hWE:Ext w W:=Ext.same hW ex_
 have hA0:Ext ((((w.alloc (.cells #[.bool false,.slice ao (dig m).length cap1] 24)).alloc (.cells #[.bool false,.slice bo (dig k).length cap2] 24)).alloc (.cells #[.bool false,.slice none 0 0] 24)).alloc (.cells #[.bool false,.slice none 0 0] 24)) W:=Ext.same hW ex_
 have hE3:Ext w3 W:=Ext.same hW ex_
 have hE4:Ext w4 W:=Ext.same hW ex_
 have e9:Ext (w3.alloc (.cells #[.bool false,.slice ao7 (dig (m/k)).length cap7] 24)) W:=Ext.same hW ex_
 have hz9:=e9.size
 simp only[World.size_alloc]at hz9
 have d0:W.cell? ⟨w3.heap.size,0,none⟩=some (.bool false):=(e9.cells.1 _ 0 (by simp)).trans c_47
 have d1:W.cell? ⟨w3.heap.size,1,none⟩=some (.slice ao7 (dig (m/k)).length cap7):=(e9.cells.1 _ 1 (by simp)).trans c_47
 have d2:W.cell? ⟨w4.heap.size,0,none⟩=some (.bool false):=by rw[hW.cells.1];simp[go_sem]
 have d3:W.cell? ⟨w4.heap.size,1,none⟩=some (.slice ao8 (dig (m%k)).length cap8):=by rw[hW.cells.1];simp[go_sem]
 have hzW:W.heap.size=w4.heap.size+1:=by rw[hW.cells.2.2];simp
 have hzA:=hA0.size
 simp only[World.size_alloc]at hzA
 have hz3:w.heap.size+1+1+1<w3.heap.size:=by have:=hAx3.size;simp only[World.size_alloc]at this;omega
 have hz4:w3.heap.size<w4.heap.size:=by have:=hb4.size;simp only[World.size_alloc]at this;omega
 have p0:W.cell? ⟨w.heap.size+1+1,0,none⟩=some (.bool false):=(hA0.cells.1 _ 0 c_30).trans c_12
 have p1:W.cell? ⟨w.heap.size+1+1,1,none⟩=some (.slice none 0 0):=(hA0.cells.1 _ 1 c_30).trans c_12
 have p2:W.cell? ⟨w.heap.size+1+1+1,0,none⟩=some (.bool false):=(hA0.cells.1 _ 0 (by simp)).trans c_12
 have p3:W.cell? ⟨w.heap.size+1+1+1,1,none⟩=some (.slice none 0 0):=(hA0.cells.1 _ 1 (by simp)).trans c_12
 have p4:W.frozen? ⟨w.heap.size+1+1,0,none⟩=false:=(hA0.cells.2 _ 0 c_30).trans c_12
 have p5:W.frozen? ⟨w.heap.size+1+1,1,none⟩=false:=(hA0.cells.2 _ 1 c_30).trans c_12
 have p6:W.frozen? ⟨w.heap.size+1+1+1,0,none⟩=false:=(hA0.cells.2 _ 0 (by simp)).trans c_12
 have p7:W.frozen? ⟨w.heap.size+1+1+1,1,none⟩=false:=(hA0.cells.2 _ 1 (by simp)).trans c_12
 have hnu:NoU W (w.heap.size+1+1):=by
  have:=((NoU.new ((w.alloc (.cells #[.bool false,.slice ao (dig m).length cap1] 24)).alloc (.cells #[.bool false,.slice bo (dig k).length cap2] 24)) #[.bool false,.slice none 0 0] 24 (noU2 (by simp) (by simp))).alloc (by simp) #[.bool false,.slice none 0 0] 24).ext (by simp) hA0
  simpa using this
 have hnv:NoU W (w.heap.size+1+1+1):=by
  have:=(NoU.new (((w.alloc (.cells #[.bool false,.slice ao (dig m).length cap1] 24)).alloc (.cells #[.bool false,.slice bo (dig k).length cap2] 24)).alloc (.cells #[.bool false,.slice none 0 0] 24)) #[.bool false,.slice none 0 0] 24 (noU2 (by simp) (by simp))).ext (by simp) hA0
  simpa using this
 have hq6:=hq3.ext hE3
 have hr6:=hr4.ext hE4
 clear hW hA0 e9 hE3 hE4 hAx3
 go_region
 all_goals
  go_wp2_with fail
  refine bodyPost_ret (v:=.tuple #[.agg #[.bool false,.slice ao7 (dig (m/k)).length cap7],.agg #[.bool false,.slice ao8 (dig (m%k)).length cap8],O 0]) ?_ rfl ⟨_,_,rfl,⟨_,rfl, ?_⟩,⟨_,rfl, ?_⟩, ?_⟩
  ·exact b_28
  ·refine Lim.ext ?_ ((Ext.refl _).drew)
   refine Lim.box (Lim.box (Lim.box (Lim.box hq6 ?_) ?_) ?_) ?_<;>(repeat(first|with_reducible exact hnu|with_reducible exact hnv|with_reducible refine NoU.set ?_ (fun z e=>by cases e)))
  ·refine Lim.ext ?_ ((Ext.refl _).drew)
   refine Lim.box (Lim.box (Lim.box (Lim.box hr6 ?_) ?_) ?_) ?_<;>(repeat(first|with_reducible exact hnu|with_reducible exact hnv|with_reducible refine NoU.set ?_ (fun z e=>by cases e)))
  ·repeat(first|with_reducible exact Ext.refl _|with_reducible assumption|with_reducible refine Ext.alloc ?_ _|with_reducible refine Ext.setCell ?_ c_27 _|with_reducible refine Ext.drewN ?_ _|with_reducible refine Ext.drew ?_|with_reducible refine Ext.trans ?_ c_7)):p:=h
theorem r_DivMod (va vb:Value) (m k:Nat) (w:World) (ha:Nn w va m) (hb0:Nn w vb k) (hs:Small m) (hk0:0<k) (hs2:Small k):
    K_ 128 #[va,vb] w fun e w'=>∃u v,e=.returned (.tuple #[u,v,O 0])∧Nn w' u (m/k)∧Nn w' v (m%k)∧Ext w w':=by
 obtain⟨u,rfl,hu⟩:=ha
 obtain⟨s,rfl,hv⟩:=hb0
 obtain⟨ao,b1,o1,cap1,rfl, -⟩:=hu.view
 obtain⟨bo,b2,o2,cap2,rfl, -⟩:=hv.view
 have hbo:=fun w1 (k1:Ext w w1)=>r_both (.agg #[.bool false,.slice ao (dig m).length cap1]) (.agg #[.bool false,.slice bo (dig k).length cap2]) m k w1 ⟨_,rfl,hu.ext k1⟩ ⟨_,rfl,hv.ext k1⟩ hs hs2
 have hl1:=dig_pos.2 hk0
 have z0:(((dig k).length:Int)==0)=false:=by simp;intro e;rw[e]at hl1;simp at hl1
 have hdv:=fun w1 (k1:Ext w w1)=>r_over _ _ (dig m) (dig k) w1 (hu.ext k1) (hv.ext k1) (dig_nz m) (dig_nz k) (by unfold Small at hs;omega) hl1
 have hmk:m/k≤m:=Nat.div_le_self _ _
 have hrk:m%k<k:=Nat.mod_lt _ hk0
 have hsq:(dig (m/k)).length≤4096:=Nat.le_trans (dig_mono hmk) hs
 have hsr:(dig (m%k)).length≤4096:=Nat.le_trans (dig_mono (Nat.le_of_lt hrk)) hs2
 clear hl1
 go_enter Tryz.func128,Tryz.ntmps128
 go_upto_region 6 with(first
  | (go_at_call 161;(with_reducible refine(hbo _ ex_).mono ?_);rintro e w1 ⟨rfl,hb1⟩;obtain⟨_,_,⟨hc1,hf1⟩,hz1⟩:=hb1.c3;(try simp only[wsz]at hz1 hc1 hf1);clear hbo)
  | (go_at_call 162;(with_reducible refine(hdv _ ex_).mono ?_);rintro e w2 ⟨y14,y15,qs,rs,rfl,hq,hr,nq,nr,hval,hlt,hb2⟩;obtain⟨ao6,b6,o6,cap6,rfl, -⟩:=hr.view;obtain⟨ao5,b5,o5,cap5,rfl, -⟩:=hq.view;obtain⟨_,_,⟨hc2,hf2⟩,hz2⟩:=hb2.c3;(try simp only[wsz]at hz2 hc2 hf2);clear hdv))
 obtain⟨eq,er⟩:=div_dig hq.lb hr.lb nq nr hval hlt
 subst eq
 subst er
 clear hval hlt nq nr
 go_upto_region 8 with(first
  | (go_at_call 67;(with_reducible refine(r_madeN _ (dig (m/k)) (m/k) _ hq (dig_val _) hsq).mono ?_);rintro e w3 ⟨y16,rfl,hq3,hb3⟩;obtain⟨ao7,b7,o7,cap7,rfl, -⟩:=hq3.view;obtain⟨_,_,⟨hc3,hf3⟩,hz3⟩:=hb3.c3;(try simp only[wsz]at hz3 hc3 hf3);have hAx3:Ext ((((w.alloc (.cells #[.bool false,.slice ao (dig m).length cap1] 24)).alloc (.cells #[.bool false,.slice bo (dig k).length cap2] 24)).alloc (.cells #[.bool false,.slice none 0 0] 24)).alloc (.cells #[.bool false,.slice none 0 0] 24)) w3:=ex_;replace hr:=hr.ext hb3;clear hq)
  | (go_at_call 67;(with_reducible refine(r_madeN _ (dig (m%k)) (m%k) _ (hr.alloc _) (dig_val _) hsr).mono ?_);rintro e w4 ⟨y17,rfl,hr4,hb4⟩;obtain⟨ao8,b8,o8,cap8,rfl, -⟩:=hr4.view;obtain⟨_,_,⟨hc4,hf4⟩,hz4⟩:=hb4.c3;(try simp only[wsz]at hz4 hc4 hf4);clear hr))
 by_cases hr0:0<(dig (m%k)).length
 ·skip
  exact T_RI_1
 ·skip
  exact T_RI_1
end Go.Proofs.YtaoioncjmfcolaaGreat
