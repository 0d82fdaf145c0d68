/- Limbs times a power of 2. -/
import Derived.Test.YtaoioncjmfcolaaGreatV04
import Derived.Laws.CopyOwn
set_option linter.unusedSimpArgs false
set_option linter.unusedVariables false
set_option maxRecDepth 100000
set_option maxHeartbeats 4000000
namespace Go.Proofs.YtaoioncjmfcolaaGreat
open Go.RowKit
theorem or_low (s:Nat) (hs:s<32) (hi lo:Int) (h0:0≤hi) (l0:0≤lo) (l1:lo<2^s) (h1:hi<4294967296):bits .or .u64 lo (hi*2^s)=lo+hi*2^s∧lo+hi*2^s<2^s*4294967296∧0≤lo+hi*2^s∧hi*2^s<18446744073709551616∧lo+hi*2^s<18446744073709551616∧0≤hi*2^s:=by
 obtain⟨a,rfl⟩:=Int.eq_ofNat_of_zero_le h0
 obtain⟨b,rfl⟩:=Int.eq_ofNat_of_zero_le l0
 have e3:(a:Int)*2^s=((2^s*a:Nat):Int):=by rw[Int.natCast_mul,Int.natCast_pow,Int.mul_comm];rfl
 have e4:(2:Int)^s*4294967296=((2^s*4294967296:Nat):Int):=by rw[Int.natCast_mul,Int.natCast_pow];rfl
 have hb:b<2^s:=by
  have:((b:Nat):Int)<((2^s:Nat):Int):=by rw[Int.natCast_pow];exact l1
  omega
 have hp:2^s≤2^31:=Nat.pow_le_pow_right (by decide) (by omega)
 rw[e3,e4]
 have m1:2^s*(a+1)≤2^s*4294967296:=Nat.mul_le_mul_left _ (by omega)
 rw[Nat.mul_add]at m1
 have e:=Nat.two_pow_add_eq_or_of_lt hb a
 rw[u64_or_nat _ _ (by omega) (by omega),Nat.or_comm, ←e]
 omega
theorem left_step {X zs:List Int} {j s:Nat} {z x:Int} {D:Nat} (hv:val zs+BB^(D+j)*z=BB^D*(val (X.take j)*2^s)) (hl:zs.length=D+j) (hx:X.getD j 0=x):
    val (zs++[(z+x*2^s)%4294967296])+BB^(D+(j+1))*((z+x*2^s)/4294967296)=BB^D*(val (X.take (j+1))*2^s):=by
 rw[val_take_succ',hx,val_append,hl]
 simp only[val]
 have hm:=lim_mod (z+x*2^s)
 have h4:BB=4294967296:=rfl
 rw[h4]at hm hv ⊢
 generalize(z+x*2^s)%4294967296=r at hm ⊢
 generalize(z+x*2^s)/4294967296=q at hm ⊢
 rw[show D+(j+1)=(D+j)+1 from rfl,Int.pow_succ,show(4294967296:Int)^(D+j)=4294967296^D*4294967296^j from Int.pow_add ..]at*
 generalize(4294967296:Int)^D=A at*
 generalize(4294967296:Int)^j=C at*
 generalize(2:Int)^s=S at*
 generalize val (X.take j)=V at*
 generalize val zs=U at*
 have h2:A*C*z=A*(V*S)-U:=by omega
 have:A*C*(r+4294967296*q)=A*C*(z+x*S):=by rw[hm]
 grind
theorem left_end {zs:List Int} {z:Int} (n:Nat) (hl:zs.length=n):val (zs++[z])=val zs+BB^n*z:=by
 rw[val_append,hl];simp[val]
theorem bb_two (D s:Nat) (v:Int):BB^D*(v*2^s)=v*2^(32*D+s):=by
 have:BB^D=2^(32*D):=by
  rw[Int.pow_mul];rfl
 rw[this,Int.pow_add]
 grind
theorem two_pow_le {s t:Nat} (h:s≤t):(2:Int)^s≤2^t:=by
 have:=Nat.pow_le_pow_right (n:=2) (by decide) h
 have e:=fun n:Nat=>Int.natCast_pow 2 n
 rw[show((2:Nat):Int)=2 from rfl]at e
 rw[←e, ←e]
 exact Int.ofNat_le.2 this
theorem cell_one_l (w:World) (x:Value) (t:TypeId):∀j u,[x][j]? =some u→(w.alloc (.cells #[x] t)).cell? ((⟨w.heap.size,0,none⟩:Addr).add j)=some u:=by
 intro j u hj
 match j,hj with
 |0,hj=>
  simp at hj
  subst hj
  rw[show(⟨w.heap.size,0,none⟩:Addr).add 0=⟨w.heap.size,0,none⟩from by simp[Addr.add],cell_al,if_pos rfl]
  rfl
 |j+1,hj=>simp at hj
theorem w_left (va:Value) (X:List Int) (d s:Nat) (w:World) (ha:Lim w va X) (hx:X.length≤100000) (hs:s<32) (hk:d≤1000000):
    K_ 82 #[va,O (32*d+s)] w fun e w'=>∃g cap zs,e=.returned (.slice (some ⟨g,0,none⟩) zs.length cap)∧O32 w' w.heap.size g zs.length cap zs∧Lb zs∧val zs=val X*2^(32*d+s)∧zs.length=d+X.length+1∧Ext w w':=by
  obtain⟨aoA,bA,oA,cA,rfl,a1,a2,a3,a4,a5,a6⟩:=ha.view
  have lA:=ha.lb
  obtain⟨i0,hi,hz0,hz1,hz2⟩:=info_parts info81
  have hq1:(32*(d:Int)+s)/32=d:=by omega
  have hq2:(32*(d:Int)+s)%32=s:=by omega
  go_enter Tryz.func82,Tryz.ntmps82
  go_wp2_with (at_make;refine wpList_make_lc _ rfl _ _ 22 rfl w.heap.size 54 i0 (.int .u32 0) 1 Tryz.underlying22 hi hz0 hz1 .i64 .i64 _ _ d (d+X.length+1) rfl rfl (by omega) (by omega) (by omega) c_48 c_31 (Nat.le_refl _) ?_;intro w0 hown0 hgrow0)
  have hR0:O32 w0 w.heap.size w.heap.size d (d+X.length+1) (List.replicate d 0):=O32.made (by omega) hown0
  have hE0:Ext w w0:=Ext.grown (Ext.refl w) hgrow0
  clear hown0 hgrow0
  go_loopw [5,6,20] (fun v c i wr=>∃(j:Nat) (z:Int) (zs:List Int),j≤X.length∧v=.slice (some ⟨w.heap.size,0,none⟩) (d+j) (d+X.length+1)∧c=.int .u64 z∧i=O j∧0≤z∧z<2^s∧zs.length=d+j∧Lb zs∧val zs+BB^(d+j)*z=BB^d*(val (X.take j)*2^s)∧
      Hid (O32 wr w.heap.size w.heap.size (d+j) (d+X.length+1) zs)∧Hid (Ext w wr)) (fun _ _ i _=>X.length-(intOf i).toNat)
  case atStart=>exact⟨0,0,List.replicate d 0,Nat.zero_le _,rfl,rfl,rfl,by decide,Int.pow_pos (by decide),by simp,fun y hy=>by rw[List.eq_of_mem_replicate hy];decide,by simp[val,val_zeros],hR0,hE0⟩
  case round=>
    obtain⟨j,z,zs,hj,rfl,rfl,rfl,z0,z1,hzl,hzb,hv,HR,HE⟩:=hrel
    by_cases hjx:j<X.length
    · have eA:=a1 (by omega)
      subst eA
      have hca:=(HE.out.cells.1 _ (oA+j) (a4 (by omega))).trans (a5 j hjx)
      have hxk:U32 (X.getD j 0):=lA.getD j
      obtain⟨x,ex⟩:∃x,X.getD j 0=x:=⟨_,rfl⟩
      have hq:=left_step hv hzl ex
      rw[ex]at hca hxk
      unfold U32 at hxk
      obtain⟨o1,o2,o3,o4,o5,o6⟩:=or_low s hs x z hxk.1 z0 z1 hxk.2
      replace hq:Hid _:=hq
      clear ex hv a5
      have hlt:=HR.out.parts
      go_wp2_with (at_builtin;refine wpList_append_fits _ rfl _ _ 22 rfl w.heap.size 54 i0 1 Tryz.underlying22 hi hz1 w.heap.size (d+j) (d+X.length+1) (zs.map (Value.int .u32)) rfl (O32.alloc HR.out _) ⟨wr.heap.size,0,none⟩ 1 1 [Value.int .u32 ((z+x*2^s)%4294967296)] rfl rfl (cell_one_l _ _ _) c_29 (by omega) ?_;intro w1 hown1 hgrow1)
      have hR1:=O32.appended hown1
      have hE1:Ext w w1:=Ext.grownAt (HE.out.alloc _) hgrow1 (Nat.le_refl _)
      clear hown1 hgrow1
      replace hR1:Hid _:=hR1
      replace hE1:Hid _:=hE1
      go_roundw
      case rel=>exact⟨j+1,_,zs++[(z+x*2^s)%4294967296],hjx,rfl,rfl,by go_num,Int.ediv_nonneg o3 (by decide),Int.ediv_lt_of_lt_mul (by decide) o2,by simp[hzl];omega,hzb.snoc (U32.mod _),hq.out,hR1,hE1⟩
      case measure=>simp[intOf];omega
    · have hjl:j=X.length:=by omega
      subst hjl
      have hz32:z<4294967296:=by
        have:(2:Int)^s≤2^32:=two_pow_le (by omega)
        omega
      have hlt:=HR.out.parts
      go_wp2_with (at_builtin;refine wpList_append_fits _ rfl _ _ 22 rfl w.heap.size 54 i0 1 Tryz.underlying22 hi hz1 w.heap.size (d+X.length) (d+X.length+1) (zs.map (Value.int .u32)) rfl (O32.alloc HR.out _) ⟨wr.heap.size,0,none⟩ 1 1 [Value.int .u32 z] rfl rfl (cell_one_l _ _ _) c_29 (by omega) ?_;intro w1 hown1 hgrow1)
      have hR1:=O32.appended hown1
      have hE1:Ext w w1:=Ext.grownAt (HE.out.alloc _) hgrow1 (Nat.le_refl _)
      have hlen:(zs++[z]).length=d+X.length+1:=by simp[hzl]
      go_ret
      refine⟨w.heap.size,d+X.length+1,zs++[z],by rw[hlen];rfl,by rw[hlen];exact hR1,hzb.snoc ⟨z0,hz32⟩, ?_,hlen,hE1⟩
      rw[left_end _ hzl,hv,List.take_length,bb_two]
theorem grown_set {a w:World} {g k:Nat} (h:a.grownBy w (some g)) (x:Value):a.grownBy (w.setCell ⟨g,k,none⟩ x) (some g):=by
 refine⟨h.os,h.tape,h.output,by simpa using h.size,fun i hi hne=> ?_⟩
 rw[←h.block i hi hne]
 simp only[World.setCell]
 rw[Array.getElem?_modify,if_neg (fun e=>hne (by rw[e]))]
theorem grown_ext {a b c:World} {g:Nat} (h:a.grownBy b (some g)) (k:Ext b c):a.grownBy c (some g):=
 ⟨k.os.trans h.os,k.tape.trans h.tape,k.output.trans h.output,Nat.le_trans h.size k.size,fun i hi hne=>(k.block i (Nat.lt_of_lt_of_le hi h.size)).trans (h.block i hi hne)⟩
def Off (v:Value) (g:Nat):Prop:=∀a n c,v=.slice (some a) n c→a.block≠g
theorem Off.mk {b o n c g:Nat} (h:b≠g):Off (.slice (some ⟨b,o,none⟩) n c) g:=fun a _ _ e=>by cases e;exact h
theorem Off.none {n c g:Nat}:Off (.slice none n c) g:=fun a _ _ e=>by cases e
theorem Lim.grownAt {w w':World} {v:Value} {xs:List Int} {g:Nat} (h:Lim w v xs) (k:w.grownBy w' (some g)) (ho:Off v g):Lim w' v xs:=by
 refine⟨h.1, ?_⟩
 rcases h.2 with h| ⟨b,o,cap,hv,h1,h2,h3,h4⟩
 ·exact Or.inl h
 ·refine Or.inr ⟨b,o,cap,hv,h1,h2,Nat.lt_of_lt_of_le h3 k.size,fun i hi=> ?_⟩
  have hb:b≠g:=ho _ _ _ hv
  rw[World.cell?_of_block (k.block b h3 (by simpa using hb))]
  exact h4 i hi
theorem drop_set {ps us:List Int} {j:Nat} {z:Int} (hl:ps.length=j) (hj:j<us.length):(ps++us.drop j).set j z=(ps++[z])++us.drop (j+1):=by
 rw[List.set_append_right _ _ (by omega),hl,Nat.sub_self,List.drop_eq_getElem_cons hj,List.set_cons_zero,List.append_assoc];rfl
theorem drop_get {ps us:List Int} {j:Nat} (hl:ps.length=j):(ps++us.drop j).getD j 0=us.getD j 0:=by
 rw[List.getD_eq_getElem?_getD,List.getElem?_append_right (by omega),hl,Nat.sub_self,List.getElem?_drop,Nat.add_zero, ←List.getD_eq_getElem?_getD]
theorem sub_step {U Y ps:List Int} {i:Nat} {q b c u y:Int} (hv:val ps-BB^i*(b+c)=val (U.take i)-q*val (Y.take i)) (hl:ps.length=i) (hu:U.getD i 0=u) (hy:Y.getD i 0=y):
    val (ps++[(u-(c+q*y)%4294967296-b)%4294967296])-BB^(i+1)*(-((u-(c+q*y)%4294967296-b)/4294967296)+(c+q*y)/4294967296)=val (U.take (i+1))-q*val (Y.take (i+1)):=by
 rw[val_take_succ',val_take_succ',hu,hy,val_append,hl]
 simp only[val]
 have hm:=lim_mod (c+q*y)
 have h4:BB=4294967296:=rfl
 rw[h4]at hm hv ⊢
 generalize(c+q*y)%4294967296=t at hm ⊢
 generalize(c+q*y)/4294967296=c' at hm ⊢
 have hm2:=lim_mod (u-t-b)
 rw[h4]at hm2
 generalize(u-t-b)%4294967296=p at hm2 ⊢
 generalize(u-t-b)/4294967296=d at hm2 ⊢
 rw[Int.pow_succ]
 generalize(4294967296:Int)^i=C at*
 generalize val (U.take i)=V at*
 generalize val (Y.take i)=W at*
 generalize val ps=Z at*
 have e1:C*(t+4294967296*c')=C*(c+q*y):=by rw[hm]
 have e2:C*(p+4294967296*d)=C*(u-t-b):=by rw[hm2]
 grind
theorem sub_lim {q y c b u:Int} (hq:U32 q) (hy:U32 y) (hc:U32 c) (hb:0≤b∧b≤1) (hu:U32 u):
    0≤c+q*y∧c+q*y<18446744073709551616∧U32 ((c+q*y)%4294967296)∧U32 ((c+q*y)/4294967296)∧0≤ -((u-(c+q*y)%4294967296-b)/4294967296)∧ -((u-(c+q*y)%4294967296-b)/4294967296)≤1:=by
 have h:=prod_bound hq hy
 have hm:=U32.mod (c+q*y)
 unfold U32 at*
 generalize q*y=Q at*
 refine⟨by omega,by omega,hm,by omega,by omega,by omega⟩
theorem prod_lim {q y:Int} (hq:U32 q) (hy:U32 y):0≤q*y∧q*y<18446744073709551616:=by
 have h:=prod_bound hq hy
 omega
theorem w_subtract (g cap:Nat) (U Y:List Int) (q:Int) (vb:Value) (w:World) (hU:O32 w 0 g (Y.length+1) cap U) (hb:Lim w vb Y) (ho:Off vb g) (hUb:Lb U) (hq:U32 q) (hY:Y.length≤100000):
    K_ 166 #[.slice (some ⟨g,0,none⟩) (Y.length+1) cap,vb,.int .u32 q] w fun e w'=>∃U',e=.returned (.bool (decide (q*val Y≤val U)))∧O32 w' 0 g (Y.length+1) cap U'∧Lb U'∧(q*val Y≤val U→val U'=val U-q*val Y)∧w.grownBy w' (some g):=by
  have lY:=hb.lb
  have hUl:=hU.len
  obtain⟨aoB,bB,oB,cB,rfl,b1,b2,b3,b4,b5,b6⟩:=hb.view
  have hge:w.grownBy w (some g):=World.grownBy.refl _ _
  go_enter Tryz.func166,Tryz.ntmps166
  go_wp2_with fail
  go_loopw [7,8,14] (fun c b i wr=>∃(j:Nat) (z t:Int) (ps:List Int),j≤Y.length∧c=.int .u64 z∧b=.int .u32 t∧i=O j∧U32 z∧0≤t∧t≤1∧ps.length=j∧Lb ps∧val ps-BB^j*(t+z)=val (U.take j)-q*val (Y.take j)∧
      Hid (O32 wr 0 g (Y.length+1) cap (ps++U.drop j))∧Hid (w.grownBy wr (some g))) (fun _ _ i _=>Y.length-(intOf i).toNat)
  case atStart=>exact⟨0,0,0,[],Nat.zero_le _,rfl,rfl,rfl,⟨by decide,by decide⟩,by decide,by decide,rfl,Lb.nil,by simp[val],hU,hge⟩
  case round=>
    obtain⟨j,z,t,ps,hj,rfl,rfl,rfl,hz,t0,t1,hpl,hpb,hv,HR,HE⟩:=hrel
    have hcu:=HR.out.cell (k:=j) (by omega)
    rw[drop_get hpl]at hcu
    have hfu:=HR.out.frozen j
    have hgl:=HR.out.parts
    have huU:U32 (U.getD j 0):=hUb.getD j
    obtain⟨u,eu⟩:∃u,U.getD j 0=u:=⟨_,rfl⟩
    rw[eu]at hcu huU
    by_cases hjx:j<Y.length
    · have eB:=b1 (by omega)
      subst eB
      have hne:bB≠g:=ho _ _ _ rfl
      have hcb:=(World.cell?_of_block (a:=⟨bB,oB+j,none⟩) (HE.out.block bB (b4 (by omega)) (by simpa using hne))).trans (b5 j hjx)
      have hyU:U32 (Y.getD j 0):=lY.getD j
      obtain⟨y,ey⟩:∃y,Y.getD j 0=y:=⟨_,rfl⟩
      rw[ey]at hcb hyU
      have hst:=sub_step hv hpl eu ey
      obtain⟨l1,l2,l3,l4,l5,l6⟩:=sub_lim hq hyU hz ⟨t0,t1⟩ huU
      have l7:=prod_lim hq hyU
      have hw1:IntKind.u64.wrap q=q:=u64_small hq.1 (by unfold U32 at hq;omega)
      have hw2:IntKind.u64.wrap y=y:=u64_small hyU.1 (by unfold U32 at hyU;omega)
      have hw3:IntKind.u64.wrap (q*y)=q*y:=u64_small l7.1 l7.2
      have hw4:IntKind.u64.wrap (z+q*y)=z+q*y:=u64_small l1 l2
      have hz0:=hz
      have hu0:=huU
      have hset:=HR.out.set j ((u-(z+q*y)%4294967296-t)%4294967296)
      rw[drop_set hpl (by omega)]at hset
      have hes:=grown_set (k:=j) HE.out (.int .u32 ((u-(z+q*y)%4294967296-t)%4294967296))
      replace hset:Hid _:=hset
      replace hes:Hid _:=hes
      replace hst:Hid _:=hst
      clear eu ey hv b5
      go_wp2_with (go_at_call 164;(with_reducible refine(w_sub32 u _ t _ huU l3 ⟨t0,t1⟩).mono ?_);rintro e w2 ⟨rfl,rfl⟩)
      go_roundw
      case rel=>exact⟨j+1,_,_,ps++[(u-(z+q*y)%4294967296-t)%4294967296],hjx,rfl,rfl,by go_num,l4,l5,l6,by simp[hpl],(hpb.snoc (U32.mod _):Lb _),hst.out,hset,hes⟩
      case measure=>simp[intOf];omega
    · have hjl:j=Y.length:=by omega
      subst hjl
      have hpn:=left_end (zs:=ps) (z:=(u-z-t)%4294967296) Y.length hpl
      have hset:=HR.out.set Y.length ((u-z-t)%4294967296)
      rw[drop_set hpl (by omega),List.drop_eq_nil_of_le (by omega),List.append_nil]at hset
      have hes:=grown_set (k:=Y.length) HE.out (.int .u32 ((u-z-t)%4294967296))
      have hlb:Lb (ps++[(u-z-t)%4294967296]):=hpb.snoc (U32.mod _)
      have hvU:val U=val (U.take Y.length)+BB^Y.length*u:=by
        have:=val_take_succ' U Y.length
        rw[List.take_of_length_le (by omega),eu]at this;exact this
      have hmod:=lim_mod (u-z-t)
      have hlo:=val_nonneg hlb
      have hhi:=val_lt hlb
      rw[List.length_append,hpl,List.length_singleton]at hhi
      obtain⟨V,eV⟩:∃V,val (ps++[(u-z-t)%4294967296])=V:=⟨_,rfl⟩
      have h0:0≤ -((u-z-t)/4294967296)∧ -((u-z-t)/4294967296)≤1:=by unfold U32 at huU hz;omega
      obtain⟨bo,ebo⟩:∃bo, -((u-z-t)/4294967296)=bo:=⟨_,rfl⟩
      have hmain:val (ps++[(u-z-t)%4294967296])-BB^(Y.length+1)*bo=val U-q*val Y:=by
        rw[hpn,hvU,Int.pow_succ]
        rw[List.take_length]at hv
        have h4:BB=4294967296:=rfl
        rw[h4]at hmod hv ⊢
        generalize(u-z-t)%4294967296=p at hmod ⊢
        have hmm:u-z-t=p-4294967296*bo:=by omega
        generalize(4294967296:Int)^Y.length=C at*
        have e:C*(u-z-t)=C*(p-4294967296*bo):=by rw[hmm]
        grind
      rw[ebo]at h0
      rw[eV]at hmain hlo hhi
      have hdec:decide (q*val Y≤val U)=decide (bo=0):=by
        have p1:(0:Int)<BB^(Y.length+1):=Int.pow_pos (by decide)
        rcases(show bo=0∨bo=1 by omega)with rfl|rfl
        · simp only[Int.mul_zero]at hmain;simp;omega
        · simp only[Int.mul_one]at hmain
          simp;omega
      have hres:q*val Y≤val U→val (ps++[(u-z-t)%4294967296])=val U-q*val Y:=fun h=>by
        rw[decide_eq_true h]at hdec
        have:bo=0:=of_decide_eq_true hdec.symm
        subst this;rw[eV];simp only[Int.mul_zero]at hmain;omega
      replace hset:Hid _:=hset
      replace hes:Hid _:=hes
      replace hres:Hid _:=hres
      have hzs:z%4294967296=z:=by unfold U32 at hz;omega
      clear hmain hpn hv hlo hhi hmod hvU eu
      have hz0:=hz
      have hu0:=huU
      unfold U32 at hz
      go_wp2_with (go_at_call 164;(with_reducible refine(w_sub32 u z t _ huU hz0 ⟨t0,t1⟩).mono ?_);rintro e w2 ⟨rfl,rfl⟩)
      have hd2:decide (q*val Y≤val U)=(bo==0):=hdec
      rw[hd2]
      go_ret
      exact⟨_,rfl,hset.out,hlb,hres.out,hes.out⟩
theorem row_take {α:Type} {L B:List α} {off m n:Nat} (hn:n≤L.length) (hf:off+m≤n) (hB:B.length=m):(L.take off++(B++L.drop (off+m))).take n=(L.take n).take off++(B++(L.take n).drop (off+m)):=by
 have h1:(L.take off).length=off:=by rw[List.length_take];omega
 rw[List.take_append,h1,List.take_take,Nat.min_eq_right (show off≤n by omega),List.take_take,Nat.min_eq_left (show off≤n by omega),List.take_append,hB,List.take_of_length_le (l:=B) (by omega),List.drop_take,Nat.sub_sub]
theorem at_copy {P:Program} {w:World} {ops:Array Oper} {rest:List Oper} {a:Act} {Q:Exit→Act→World→Prop} {x y:Operand} {ts:Array TypeId} {dst:Option Tmp} {ty:TypeId} {pos:String} {af:Array Edge} {g:Option (Nat×Bool)}
    (h:wpList P ops Q (⟨dst,.call ⟨.builtin .copy,#[x,y],ts⟩,ty,pos,af,g⟩::rest) a w):wpList P ops Q (⟨dst,.call ⟨.builtin .copy,#[x,y],ts⟩,ty,pos,af,g⟩::rest) a w:=h
theorem wpList_copy32 {w:World} {ops:Array Oper} {rest:List Oper} {o:Oper} {a:Act} {Q:Exit→Act→World→Prop} (hgd:o.guard=none) (d s:Operand)
    (ho:o.op=.call {callee:=.builtin .copy,args:=#[d,s],argTypes:=#[22,22]})
    (base g off n cap dCap m c:Nat) (ad:Addr) (U R:List Int) (hd:a.eval d=.slice (some ⟨g,off,none⟩) m dCap) (hs:a.eval s=.slice (some ad) m c) (hU:O32 w base g n cap U) (hR:R.length=m)
    (hsrc:∀j,j<m→w.cell? (ad.add j)=some (.int .u32 (R.getD j 0))) (hfit:off+m≤n)
    (h:∀w',O32 w' base g n cap (U.take off++(R++U.drop (off+m)))→w.grownBy w' (some g)→wpList Tryz.prog ops Q rest (a.put o.dst (goInt m)) w'):
    wpList Tryz.prog ops Q (o::rest) a w:=by
 have hUl:=hU.len
 rcases hU.2 with⟨e,_⟩| ⟨g',cap',cur,hv,hb,hg,hnc,hcm,hcs,ht⟩
 ·cases e
 ·cases hv
  have hsz:(Tryz.prog.info? 54).map (·.size)=some 1:=by
   obtain⟨i,hi, -,h1, -⟩:=info_parts info81
   rw[hi];simp[h1]
  have hcl:(R.map (Value.int .u32)).length=m:=by simp[hR]
  refine wpList_copy_own hgd d s 22 22 ho 54 Tryz.underlying22 hsz g off m dCap ad m c hd hs cur 54 hg (R.map (Value.int .u32)) (by simp[hR]) ?_ (by rw[hcl];omega) (ints_oneCell .u32 R) ?_
  ·intro j v hj
   rw[List.getElem?_map]at hj
   cases hx:R[j]? with
   |none=>rw[hx]at hj;cases hj
   |some x=>
    rw[hx]at hj
    have hjl:j<R.length:=(List.getElem?_eq_some_iff.1 hx).1
    rw[hsrc j (by omega),List.getD_eq_getElem?_getD,hx]
    simpa using hj
  ·rw[hcl]
   refine h _ ⟨by simp[hR];omega,Or.inr ⟨g,cap,_,rfl,hb,setRow_heap w g cur _ 54 _ hg,hnc,hcm, ?_, ?_⟩⟩ ⟨rfl,rfl,rfl,by simp[World.setRow],fun k hk hne=>setRow_other w g k _ (fun e=>hne (by rw[e]))⟩
   ·simp[hR];omega
   ·simp only[List.toList_toArray,List.map_append,List.map_take,List.map_drop, ←ht,Nat.mul_one]
    rw[Nat.mul_one]at hcs
    exact row_take c_26 hfit (by simp[hR])
theorem w_CloneO (va:Value) (X:List Int) (w:World) (ha:Lim w va X) (hx:X.length≤100000) (h0:0<X.length):
    K_ 130 #[va] w fun e w'=>∃g cap,e=.returned (.slice (some ⟨g,0,none⟩) X.length cap)∧O32 w' w.heap.size g X.length cap X∧Ext w w':=by
 rcases ha.2 with⟨rfl,rfl⟩| ⟨b,o,cap,rfl,h1,h2,h3,h4⟩
 ·exact absurd h0 (by simp)
 ·obtain⟨i0,hi,hz0,hz1,hz2⟩:=info_parts info81
  go_enter Tryz.func130,Tryz.ntmps130
  have hq:∀w,(binOp .eql 22 (.slice (some ⟨b,o,none⟩) X.length cap) (.slice none 0 0)).run Tryz.prog w=.ok (.bool false) w:=fun _=>rfl
  have hown:(w.alloc (.cells #[] 54)).ownsRow w.heap.size 54 1 (.slice (some ⟨w.heap.size,0,none⟩) 0 0) 0 []:=World.ownsRow_lit w #[] 0 (Nat.le_refl _) (by decide) rfl
  have hnews:∀j u,(X.map (Value.int .u32))[j]? =some u→(w.alloc (.cells #[] 54)).cell? ((⟨b,o,none⟩:Addr).add j)=some u:=fun j u hu=>by
   rw[List.getElem?_map]at hu
   cases hj:X[j]? with
   |none=>rw[hj]at hu;cases hu
   |some x=>
    rw[hj]at hu
    have hjl:j<X.length:=(List.getElem?_eq_some_iff.1 hj).1
    have:=h4 j hjl
    rw[List.getD_eq_getElem?_getD,hj]at this
    rw[show(⟨b,o,none⟩:Addr).add j=⟨b,o+j,none⟩from by simp[Addr.add],cell_al,if_neg (by omega),this]
    simpa using hu
  go_wp2_with (at_builtin;refine wpList_append_own _ rfl _ _ 22 rfl w.heap.size 54 i0 (.int .u32 0) 1 4 Tryz.underlying22 hi hz0 hz1 hz2 rfl (by decide) _ _ _ rfl hown ⟨b,o,none⟩ X.length cap (X.map (Value.int .u32)) rfl (by simp) hnews (ints_oneCell .u32 X) c_31 (by omega) (by simp) ?_;intro v' w1 hown' hgrow hnil)
  have hE:Ext w w1:=Below.grown (row:=some w.heap.size) ((Ext.refl w).alloc _) hgrow (by simp) (fun k e=>by cases e;exact Nat.le_refl _)
  rw[Nat.zero_add,List.nil_append]at hown'
  have hv:∃g c,v'=.slice (some ⟨g,0,none⟩) X.length c:=by
   rcases hown'.2 with⟨_,e⟩| ⟨g,c,cur,e,_⟩
   ·omega
   ·exact⟨g,c,e⟩
  obtain⟨g,c,rfl⟩:=hv
  go_ret
  exact⟨g,c,rfl,hown',hE⟩
theorem T_DT_1 {p:Prop} (h:p:=by
 obtain⟨G,rfl,hG,hgl,HE⟩:=hrel
 have hcl:=w_CloneO_n (n1+1+1) hMl _ M wr (hM.ext HE.out) (by omega) (by omega)
 have hGw:=hG
 by_cases hle:G*val Y≤val M
 ·have hdt:decide (G*val Y≤val M)=true:=decide_eq_true hle
  go_wp2_with (first
   | (go_at_call 130;(with_reducible refine hcl.mono ?_);rintro e w1 ⟨g2,c2,rfl,hO1,hb1⟩;have p1:=hO1.parts;have hsz1:=hb1.size;have hsz0:=HE.out.size)
   | (go_at_call 166;(with_reducible refine(w_subtract_n (n1+1) hn1 g2 c2 M Y G _ _ (hO1.base (Nat.zero_le _)) (hb.ext (HE.out.trans hb1)) (Off.mk (by omega)) lM hG (by omega)).mono ?_);rintro e w2 ⟨R,rfl,hO2,lR,hRv,hgr2⟩;rw[hdt];have hU2:=(hU.ext (HE.out.trans hb1)).grownAt hgr2 (by omega))
   | ((with_reducible refine at_copy ?_);refine wpList_copy32 rfl _ _ rfl 0 g o n cap cu (n1+1+1) c2 ⟨g2,0,none⟩ U R rfl rfl hU2 hO2.len (fun j hj=>by rw[show(⟨g2,0,none⟩:Addr).add j=⟨g2,j,none⟩from by rw[Addr.add_lit,Nat.zero_add]];exact hO2.cell hj) (by omega) ?_;intro w3 hO3 hgr3))
  have hgl2:val R<val Y:=by
   rw[hRv hle]
   have e:(G+1)*val Y=G*val Y+val Y:=by rw[Int.add_mul,Int.one_mul]
   omega
  have hgf:w.grownBy w3 (some g):=grown_then (grown_in (HE.out.trans hb1) hgr2 (by omega)) hgr3
  have hR3:=hO2.len
  go_ret
  exact⟨G,R,rfl,hG,hO3,hR3,lR,hRv hle,hgl2,hgf⟩
 ·have hdt:decide (G*val Y≤val M)=false:=decide_eq_false hle
  have hm0:=val_nonneg lM
  have hG1:1≤G:=by
   rcases Int.lt_or_le 0 G with h|h
   ·omega
   ·have:G=0:=by have:=hG.1;omega
    subst this;simp only[Int.zero_mul]at hle;omega
  have hnx:val M<(G-1+1)*val Y:=by rw[Int.sub_add_cancel];omega
  have hGm:U32 (G-1):=⟨by omega,by have:=hG.2;omega⟩
  unfold U32 at hGw
  go_wp2_with (first
   | (go_at_call 130;(with_reducible refine hcl.mono ?_);rintro e w1 ⟨g2,c2,rfl,hO1,hb1⟩;have p1:=hO1.parts;have hsz1:=hb1.size;have hsz0:=HE.out.size)
   | (go_at_call 166;(with_reducible refine(w_subtract_n (n1+1) hn1 g2 c2 M Y G _ _ (hO1.base (Nat.zero_le _)) (hb.ext (HE.out.trans hb1)) (Off.mk (by omega)) lM hG (by omega)).mono ?_);rintro e w2 ⟨R,rfl,hO2,lR,hRv,hgr2⟩;rw[hdt]))
  have hE2:Hid (Ext w w2):=(ext_in (HE.out.trans hb1) hgr2 (by omega):Ext w w2)
  go_roundw
  case rel=>exact⟨G-1,by go_num,hGm,hnx,hE2⟩
  case measure=>simp[intOf];omega):p:=h
theorem guess_ok {M Y:List Int} {n:Nat} {a b v:Int} (hM:M.length=n+2) (hY:Y.length=n+1) (lM:Lb M) (lY:Lb Y) (ha:M.getD (n+1) 0=a) (hb:M.getD n 0=b) (hv:Y.getD n 0=v) (h:a<v):
    val M<((a*4294967296+b)/v+1)*val Y:=by
 have e1:val M=val (M.take n)+BB^n*b+BB^n*(BB*a):=by
  have h2:=val_take_succ' M (n+1)
  rw[List.take_of_length_le (by omega),val_take_succ',ha,hb,Int.pow_succ]at h2
  rw[h2];grind
 have e2:val Y=val (Y.take n)+BB^n*v:=by
  have h2:=val_take_succ' Y n
  rw[List.take_of_length_le (by omega),hv]at h2
  exact h2
 have l1:=val_lt (lM.take n)
 rw[List.length_take,Nat.min_eq_left (by omega)]at l1
 have l2:=val_nonneg (lY.take n)
 have a0:0≤a:=by rw[←ha];exact(lM.getD _).1
 have b0:0≤b:=by rw[←hb];exact(lM.getD _).1
 have hq:=Int.lt_ediv_add_one_mul_self (a*4294967296+b) (show 0<v by omega)
 have hq0:0≤(a*4294967296+b)/v:=Int.ediv_nonneg (by omega) (by omega)
 generalize(a*4294967296+b)/v=q at*
 rw[e1,e2]
 have hP:(0:Int)≤BB^n:=Int.pow_nonneg (by decide)
 generalize val (M.take n)=P at*
 generalize val (Y.take n)=R at*
 have m1:BB^n*(a*4294967296+b+1)≤BB^n*((q+1)*v):=Int.mul_le_mul_of_nonneg_left (by omega) hP
 have m2:0≤(q+1)*R:=Int.mul_nonneg (by omega) l2
 have h4:BB=4294967296:=rfl
 generalize hC:BB^n=C at*
 rw[h4]
 have m3:C*(a*4294967296+b+1)=C*b+C*(4294967296*a)+C:=by grind
 have m4:(q+1)*(R+C*v)=(q+1)*R+C*((q+1)*v):=by grind
 omega
theorem mid_get {U:List Int} {o n i:Nat} (h:i<n):((U.drop o).take n).getD i 0=U.getD (o+i) 0:=by
 rw[take_getD h,List.getD_eq_getElem?_getD,List.getElem?_drop, ←List.getD_eq_getElem?_getD]
theorem O32.mid {w:World} {g n cap cu o m:Nat} {U:List Int} (h:O32 w 0 g n cap U) (hU:Lb U) (hm:o+m≤n) (hc:m≤cu∧cu≤9223372036854775807) (hn:m≤1099511627776):Lim w (.slice (some ⟨g,o,none⟩) m cu) ((U.drop o).take m):=by
 have hl:=h.len
 have hlen:((U.drop o).take m).length=m:=by simp;omega
 refine⟨(show Lb ((U.drop o).take m)from fun y hy=>hU y (List.mem_of_mem_drop (List.mem_of_mem_take hy))),Or.inr ⟨g,o,cu,by rw[hlen],by omega,⟨hc.2,by omega⟩,h.parts.1,fun i hi=> ?_⟩⟩
 rw[hlen]at hi
 rw[mid_get hi]
 exact h.cell (by omega)
theorem w_subtract_n (n:Nat) {Y:List Int} (hn:Y.length=n) (g cap:Nat) (U Y':List Int) (q:Int) (vb:Value) (w:World) (hU:O32 w 0 g (n+1) cap U) (hb:Lim w vb Y) (ho:Off vb g) (hUb:Lb U) (hq:U32 q) (hY:n≤100000):
    K_ 166 #[.slice (some ⟨g,0,none⟩) (n+1) cap,vb,.int .u32 q] w fun e w'=>∃U',e=.returned (.bool (decide (q*val Y≤val U)))∧O32 w' 0 g (n+1) cap U'∧Lb U'∧(q*val Y≤val U→val U'=val U-q*val Y)∧w.grownBy w' (some g):=by
 subst hn;exact w_subtract g cap U Y q vb w hU hb ho hUb hq hY
theorem w_CloneO_n (n:Nat) {X:List Int} (hn:X.length=n) (va:Value) (X':List Int) (w:World) (ha:Lim w va X) (hx:n≤100000) (h0:0<n):
    K_ 130 #[va] w fun e w'=>∃g cap,e=.returned (.slice (some ⟨g,0,none⟩) n cap)∧O32 w' w.heap.size g n cap X∧Ext w w':=by
 subst hn;exact w_CloneO va X w ha hx h0
theorem grown_in {a b c:World} {g g2:Nat} (h:Ext a b) (k:b.grownBy c (some g2)) (hg:a.heap.size≤g2):a.grownBy c (some g):=
 ⟨k.os.trans h.os,k.tape.trans h.tape,k.output.trans h.output,Nat.le_trans h.size k.size,fun i hi _=>(k.block i (Nat.lt_of_lt_of_le hi h.size) (fun e=>by cases e;omega)).trans (h.block i hi)⟩
theorem ext_in {a b c:World} {g2:Nat} (h:Ext a b) (k:b.grownBy c (some g2)) (hg:a.heap.size≤g2):Ext a c:=
 ⟨k.os.trans h.os,k.tape.trans h.tape,k.output.trans h.output,Nat.le_trans h.size k.size,fun i hi=>(k.block i (Nat.lt_of_lt_of_le hi h.size) (fun e=>by cases e;omega)).trans (h.block i hi)⟩
theorem grown_then {a b c:World} {g:Nat} (h:a.grownBy b (some g)) (k:b.grownBy c (some g)):a.grownBy c (some g):=
 ⟨k.os.trans h.os,k.tape.trans h.tape,k.output.trans h.output,Nat.le_trans h.size k.size,fun i hi hne=>(k.block i (Nat.lt_of_lt_of_le hi h.size) hne).trans (h.block i hi hne)⟩
theorem w_step (g o n cap cu:Nat) (U Y:List Int) (vb:Value) (w:World) (hU:O32 w 0 g n cap U) (hon:o+(Y.length+1)≤n) (hcu:Y.length+1≤cu∧cu≤9223372036854775807) (hb:Lim w vb Y) (hoff:Off vb g) (hUb:Lb U) (h1:1≤Y.length) (hY:Y.length≤50000)
    (hlt:val ((U.drop o).take (Y.length+1))<BB*val Y):
    K_ 140 #[.slice (some ⟨g,o,none⟩) (Y.length+1) cu,vb] w fun e w'=>∃d R,e=.returned (.int .u32 d)∧U32 d∧O32 w' 0 g n cap (U.take o++(R++U.drop (o+(Y.length+1))))∧R.length=Y.length+1∧Lb R∧val R=val ((U.drop o).take (Y.length+1))-d*val Y∧val R<val Y∧w.grownBy w' (some g):=by
 have lY:=hb.lb
 have hUl:=hU.len
 have hM:=hU.mid (o:=o) (m:=Y.length+1) hUb hon hcu (by omega)
 obtain⟨M,eM⟩:∃M,(U.drop o).take (Y.length+1)=M:=⟨_,rfl⟩
 have hMl:M.length=Y.length+1:=by rw[←eM];simp;omega
 obtain⟨n1,hn1⟩:∃n1,Y.length=n1+1:=⟨Y.length-1,by omega⟩
 have lM:=hM.lb
 have ea:M.getD (n1+1) 0=U.getD (o+(n1+1)) 0:=by rw[←eM];exact mid_get (by omega)
 have eb:M.getD n1 0=U.getD (o+n1) 0:=by rw[←eM];exact mid_get (by omega)
 have ca:=hU.cell (k:=o+(n1+1)) (by omega)
 have cb:=hU.cell (k:=o+n1) (by omega)
 rw[←ea]at ca
 rw[←eb]at cb
 rw[eM]at hM lM hlt ⊢
 have ga:U32 (M.getD (n1+1) 0):=lM.getD _
 have gb:U32 (M.getD n1 0):=lM.getD _
 have gv:U32 (Y.getD n1 0):=lY.getD _
 obtain⟨bo,b2,o2,cap2,rfl,y1,y2,y3,y4,y5,y6⟩:=hb.view
 have eB:=y1 (by omega)
 subst eB
 have cv:=y5 n1 (by omega)
 have hb2:=y4 (by omega)
 have hgp:=hU.parts
 have hgs:=fun h=>guess_ok (n:=n1) (by omega) hn1 lM lY rfl rfl rfl h
 generalize M.getD (n1+1) 0=x at*
 generalize M.getD n1 0=y at*
 generalize Y.getD n1 0=v at*
 rw[hn1]at hon hcu hMl hM hb hY ⊢
 clear y1 y5 y4 ea eb
 have hge:w.grownBy w (some g):=World.grownBy.refl _ _
 go_enter Tryz.func140,Tryz.ntmps140
 go_wp2_with fail
 have hEw:Ext w w:=Ext.refl w
 by_cases hxv:x<v
 ·have hgs2:=hgs hxv
  have q0:0≤x*4294967296+y:=by unfold U32 at ga gb;omega
  have q1:x*4294967296+y<v*4294967296:=by unfold U32 at ga gb;omega
  obtain⟨r0,r1⟩:=div_small q0 (show 0<v by unfold U32 at ga;omega) q1
  go_quiet (fail)
  go_wp2_with fail
  go_quiet ((go_at_call 165;refine(w_div32 x y v _ ga.1 hxv gb gv.2).mono ?_;rintro _ _ ⟨rfl,m,rfl⟩;exact⟨rfl,_,by rw[World.drewN_drewN,Nat.add_assoc]⟩))
  go_wp2_with fail
  have hG0:U32 ((x*4294967296+y)/v):=⟨r0,r1⟩
  have hG1:=hgs2
  go_loopw [6] (fun gv wr=>∃(G:Int),gv=.int .u32 G∧U32 G∧val M<(G+1)*val Y∧Hid (Ext w wr)) (fun gv _=>(intOf gv).toNat)
  case atStart=>exact⟨_,rfl,hG0,hG1,(((Ext.refl w).drewN _).drewN _:Ext _ _)⟩
  case round=>
   exact T_DT_1
 ·go_quiet (fail)
  go_wp2_with fail
  have hG0:U32 4294967295:=⟨by decide,by decide⟩
  have hG1:val M<(4294967295+1)*val Y:=hlt
  go_loopw [6] (fun gv wr=>∃(G:Int),gv=.int .u32 G∧U32 G∧val M<(G+1)*val Y∧Hid (Ext w wr)) (fun gv _=>(intOf gv).toNat)
  case atStart=>exact⟨_,rfl,hG0,hG1,((Ext.refl w).drewN _:Ext _ _)⟩
  case round=>
   exact T_DT_1
def GB (T:Nat) (w w':World):Prop:=w.grownBy w' (some T)
theorem GB.refl (T:Nat) (w:World):GB T w w:=World.grownBy.refl w _
theorem GB.trans {T:Nat} {a b c:World} (h:GB T a b) (k:GB T b c):GB T a c:=grown_then h k
theorem GB.ext {T:Nat} {a b:World} (h:Ext a b):GB T a b:=⟨h.os,h.tape,h.output,h.size,fun i hi _=>h.block i hi⟩
theorem GB.drew {T:Nat} {a b:World} (h:GB T a b):GB T a b.drew:=h.trans (GB.ext (Ext.refl b).drew)
theorem GB.alloc {T:Nat} {a b:World} (h:GB T a b) (o:Obj):GB T a (b.alloc o):=h.trans (GB.ext ((Ext.refl b).alloc o))
theorem GB.size {T:Nat} {a b:World} (h:GB T a b):a.heap.size≤b.heap.size:=World.grownBy.size h
theorem GB.set {T j:Nat} {a b:World} (h:GB T a b) (v:Value):GB T a (b.setCell ⟨T,j,none⟩ v):=by
 refine h.trans ?_
 have hs:(b.setCell ⟨T,j,none⟩ v).heap.size=b.heap.size:=by simp
 refine⟨rfl,rfl,rfl,Nat.le_of_eq hs.symm,fun i hi hne=> ?_⟩
 have hne':T≠i:=fun e=>hne (by rw[e])
 simp only[World.setCell,Array.getElem?_modify]
 rw[if_neg hne']
theorem GB.new {T B j:Nat} {a b:World} (h:GB T a b) (hB:a.heap.size≤B) (v:Value):GB T a (b.setCell ⟨B,j,none⟩ v):=by
 have hs:(b.setCell ⟨B,j,none⟩ v).heap.size=b.heap.size:=by simp
 refine⟨h.os,h.tape,h.output,by rw[hs];exact h.size,fun i hi hne=> ?_⟩
 have hne':B≠i:=by omega
 have:=World.grownBy.block h i hi hne
 simp only[World.setCell,Array.getElem?_modify]
 rw[if_neg hne']
 exact this
theorem GB.cell {T:Nat} {a b:World} (h:GB T a b) {B o:Nat} (hB:B<a.heap.size) (hne:B≠T):b.cell? ⟨B,o,none⟩=a.cell? ⟨B,o,none⟩:=
 World.cell?_of_block (World.grownBy.block h B hB (fun e=>hne (by cases e;rfl)))
theorem GB.frozen {T:Nat} {a b:World} (h:GB T a b) {B o:Nat} (hB:B<a.heap.size) (hne:B≠T):b.frozen? ⟨B,o,none⟩=a.frozen? ⟨B,o,none⟩:=
 World.frozen?_of_block (World.grownBy.block h B hB (fun e=>hne (by cases e;rfl)))
theorem GB.below {T n:Nat} {a b:World} (h:GB T a b) (hn:n≤T) (hs:n≤a.heap.size):Below n a b:=
 ⟨h.os,h.tape,h.output,h.size,fun i hi=>World.grownBy.block h i (by omega) (fun e=>by cases e;omega)⟩
theorem GB.out {T:Nat} {a b:World} (h:GB T a b) (hn:a.heap.size≤T):Ext a b:=
 ⟨h.os,h.tape,h.output,h.size,fun i hi=>World.grownBy.block h i hi (fun e=>by cases e;omega)⟩
theorem GB.pre {T:Nat} {a b c:World} (h:Ext a b) (k:GB T b c) (hT:a.heap.size≤T):Ext a c:=ext_in h k hT
theorem NoU.grown {T B:Nat} {a b:World} (h:NoU a B) (k:GB T a b) (hB:B<a.heap.size) (hne:B≠T):NoU b B:=fun o z e=>h o z ((k.cell hB hne).symm.trans e)
theorem Lim.grown {T:Nat} {a b:World} {v:Value} {xs:List Int} (h:Lim a v xs) (hT:NoU a T) (k:GB T a b):Lim b v xs:=by
 refine⟨h.1, ?_⟩
 rcases h.2 with h| ⟨c,o,cap,hv,h1,h2,h3,h4⟩
 ·exact Or.inl h
 ·refine Or.inr ⟨c,o,cap,hv,h1,h2,Nat.lt_of_lt_of_le h3 k.size,fun i hi=> ?_⟩
  have hc:=h4 i hi
  rw[k.cell h3 (fun e=>by rw[e]at hc;exact hT _ _ hc)]
  exact hc
theorem Wid.grown {T:Nat} {a b:World} {v:Value} {x:Int} (h:Wid a v x) (hT:NoU a T) (k:GB T a b):Wid b v x:=by
 obtain⟨u,e,hu⟩:=h;exact⟨u,e,hu.grown hT k⟩
def WAt (w:World) (g:Nat) (x:Int):Prop:=∃s u,w.cell? ⟨g,0,none⟩=some (.bool s)∧w.cell? ⟨g,1,none⟩=some u∧Wid w (.agg #[.bool s,u]) x∧(∀o,w.frozen? ⟨g,o,none⟩=false)∧NoU w g∧g<w.heap.size
theorem WAt.noU {w:World} {g:Nat} {x:Int} (h:WAt w g x):NoU w g:=by obtain⟨s,u,_,_,_,_,h,_⟩:=h;exact h
theorem WAt.lt {w:World} {g:Nat} {x:Int} (h:WAt w g x):g<w.heap.size:=by obtain⟨s,u,_,_,_,_,_,h⟩:=h;exact h
theorem WAt.grown {T g:Nat} {a b:World} {x:Int} (h:WAt a g x) (hT:NoU a T) (k:GB T a b) (hne:g≠T):WAt b g x:=by
 obtain⟨s,u,h1,h2,h3,h4,h5,h6⟩:=h
 exact⟨s,u,(k.cell h6 hne).trans h1,(k.cell h6 hne).trans h2,h3.grown hT k,fun o=>(k.frozen h6 hne).trans (h4 o),h5.grown k h6 hne,Nat.lt_of_lt_of_le h6 k.size⟩
theorem WAt.ext {g:Nat} {a b:World} {x:Int} (h:WAt a g x) (k:Ext a b):WAt b g x:=by
 obtain⟨s,u,h1,h2,h3,h4,h5,h6⟩:=h
 exact⟨s,u,(k.cells.1 g 0 h6).trans h1,(k.cells.1 g 1 h6).trans h2,h3.ext k,fun o=>(k.cells.2 g o h6).trans (h4 o),h5.ext h6 k,Nat.lt_of_lt_of_le h6 k.size⟩
theorem WAt.open {w:World} {g:Nat} {x:Int} (h:WAt w g x):∃ao cap,w.cell? ⟨g,0,none⟩=some (.bool (decide (x<0)))∧w.cell? ⟨g,1,none⟩=some (.slice ao (dig x.natAbs).length cap)∧Wid w (.agg #[.bool (decide (x<0)),.slice ao (dig x.natAbs).length cap]) x∧(∀o,w.frozen? ⟨g,o,none⟩=false):=by
 obtain⟨s,u,h1,h2,⟨u',e,hu⟩,h4,h5,h6⟩:=h
 cases e
 obtain⟨ao,b1,o1,cap1,rfl, -⟩:=hu.view
 exact⟨ao,cap1,h1,h2,⟨_,rfl,hu⟩,h4⟩
def Bx2 (w:World) (g:Nat):Prop:=(∃a,w.cell? ⟨g,0,none⟩=some a)∧(∃a,w.cell? ⟨g,1,none⟩=some a)∧(∀o,w.frozen? ⟨g,o,none⟩=false)∧NoU w g∧g<w.heap.size
theorem WAt.box {w:World} {g:Nat} {x:Int} (h:WAt w g x):Bx2 w g:=by
 obtain⟨s,u,h1,h2,h3,h4,h5,h6⟩:=h;exact⟨⟨_,h1⟩,⟨_,h2⟩,h4,h5,h6⟩
theorem Bx2.ext {g:Nat} {a b:World} (h:Bx2 a g) (k:Ext a b):Bx2 b g:=by
 obtain⟨⟨x,h1⟩,⟨y,h2⟩,h4,h5,h6⟩:=h
 exact⟨⟨x,(k.cells.1 g 0 h6).trans h1⟩,⟨y,(k.cells.1 g 1 h6).trans h2⟩,fun o=>(k.cells.2 g o h6).trans (h4 o),h5.ext h6 k,Nat.lt_of_lt_of_le h6 k.size⟩
theorem Bx2.grown {T g:Nat} {a b:World} (h:Bx2 a g) (k:GB T a b) (hne:g≠T):Bx2 b g:=by
 obtain⟨⟨x,h1⟩,⟨y,h2⟩,h4,h5,h6⟩:=h
 exact⟨⟨x,(k.cell h6 hne).trans h1⟩,⟨y,(k.cell h6 hne).trans h2⟩,fun o=>(k.frozen h6 hne).trans (h4 o),h5.grown k h6 hne,Nat.lt_of_lt_of_le h6 k.size⟩
theorem Bx2.fresh (w:World):Bx2 (w.alloc (.cells #[.bool false,.slice none 0 0] 24)) w.heap.size:=by
 refine⟨⟨.bool false,by simp[go_sem, ↓IntWalk.iteOmega]⟩,⟨.slice none 0 0,by simp[go_sem, ↓IntWalk.iteOmega]⟩,fun o=>by simp[go_sem, ↓IntWalk.iteOmega],NoU.new w _ _ (noU2 (by simp) (by simp)),by simp⟩
theorem Bx2.store {w:World} {g:Nat} {s:Bool} {u:Value} {x:Int} (h:Bx2 w g) (hw:Wid w (.agg #[.bool s,u]) x):WAt ((w.setCell ⟨g,0,none⟩ (.bool s)).setCell ⟨g,1,none⟩ u) g x:=by
 obtain⟨⟨a,h1⟩,⟨b,h2⟩,h4,h5,h6⟩:=h
 have hu:∀z,u≠ .int .u32 z:=by
  obtain⟨u',e,hu⟩:=hw
  cases e
  obtain⟨ao,b1,o1,cap1,rfl, -⟩:=hu.view
  intro z e;cases e
 have hn1:NoU (w.setCell ⟨g,0,none⟩ (.bool s)) g:=h5.set (fun z e=>by cases e)
 refine⟨s,u, ?_, ?_,(hw.box h5).box hn1,fun o=>by rw[World.frozen?_setCell,World.frozen?_setCell];exact h4 o,hn1.set hu,by simpa using h6⟩
 ·rw[cell_sc,if_neg (fun e=>by have:=congrArg Addr.off e;simp at this),cell_sc,if_pos rfl,h1];rfl
 ·rw[cell_sc,if_pos rfl,cell_sc,if_neg (fun e=>by have:=congrArg Addr.off e;simp at this),h2];rfl
theorem WAt.other {w:World} {g B j:Nat} {x:Int} {v:Value} (h:WAt w g x) (hne:g≠B) (hB:NoU w B):WAt (w.setCell ⟨B,j,none⟩ v) g x:=
 h.grown hB ((GB.refl B w).set v) hne
theorem Wid.nat {w:World} {v:Value} {m:Nat} (h:Wid w v (m:Int)):Nn w v m:=by
 have:=h.nn (by omega)
 rwa [Int.natAbs_natCast]at this
theorem Wid.natE {w:World} {v:Value} {m:Nat} {x:Int} (h:Wid w v x) (e:x=(m:Int)):Nn w v m:=by subst e;exact h.nat
theorem WAt.openN {w:World} {g m:Nat} (h:WAt w g (m:Int)):∃ao cap,w.cell? ⟨g,0,none⟩=some (.bool false)∧w.cell? ⟨g,1,none⟩=some (.slice ao (dig m).length cap)∧Nn w (.agg #[.bool false,.slice ao (dig m).length cap]) m∧(∀o,w.frozen? ⟨g,o,none⟩=false):=by
 obtain⟨ao,cap,h1,h2,h3,h4⟩:=h.open
 rw[decide_eq_false (by omega)]at h1 h3
 rw[Int.natAbs_natCast]at h2 h3
 exact⟨ao,cap,h1,h2,h3.nat,h4⟩
theorem Nn.open {w:World} {v:Value} {m:Nat} (h:Nn w v m):∃ao cap,v=.agg #[.bool false,.slice ao (dig m).length cap]∧Nn w (.agg #[.bool false,.slice ao (dig m).length cap]) m:=by
 obtain⟨u,rfl,hu⟩:=h
 obtain⟨ao,b1,o1,cap1,rfl, -⟩:=hu.view
 exact⟨ao,cap1,rfl,_,rfl,hu⟩
theorem Wid.open {w:World} {v:Value} {x:Int} (h:Wid w v x):∃s ao n cap,v=.agg #[.bool s,.slice ao n cap]∧Wid w (.agg #[.bool s,.slice ao n cap]) x:=by
 obtain⟨u,rfl,hu⟩:=h
 obtain⟨ao,b1,o1,cap1,rfl, -⟩:=hu.view
 exact⟨_,ao,_,cap1,rfl,_,rfl,hu⟩
theorem fresh_of {W X:World} (h:Ext W X):Bx2 (X.alloc (.cells #[.bool false,.slice none 0 0] 24)) X.heap.size∧W.heap.size≤X.heap.size:=⟨Bx2.fresh X,h.size⟩
theorem Small.le {a b:Nat} (h:Small b) (k:a≤b):Small a:=Nat.le_trans (dig_mono k) h
theorem WAt.lit {w:World} {s:Bool} {u:Value} {x:Int} (h:Wid w (.agg #[.bool s,u]) x):WAt (w.alloc (.cells #[.bool s,u] 24)) w.heap.size x:=by
 have hu:∀z,u≠ .int .u32 z:=by
  obtain⟨u',e,hu⟩:=h
  cases e
  obtain⟨ao,b1,o1,cap1,rfl, -⟩:=hu.view
  intro z e;cases e
 exact⟨s,u,by simp[go_sem, ↓IntWalk.iteOmega],by simp[go_sem, ↓IntWalk.iteOmega],h.ext ((Ext.refl w).alloc _),fun o=>by simp[go_sem, ↓IntWalk.iteOmega],NoU.new w _ _ (noU2 (fun z e=>by cases e) hu),by simp⟩
def Bw (W:World) (g:Nat) (x:Int) (w0:World):Prop:=Ext W w0∧W.heap.size≤g∧WAt w0 g x
end Go.Proofs.YtaoioncjmfcolaaGreat
