/- The reference: numbers multiplied. -/
import Derived.Test.YtaoioncjmfcolaaGreatV30
set_option linter.unusedSimpArgs false
set_option linter.unusedVariables false
set_option maxRecDepth 100000
set_option maxHeartbeats 4000000
namespace Go.Proofs.YtaoioncjmfcolaaGreat
open Go.RowKit
theorem r_both (va vb:Value) (m k:Nat) (w:World) (ha:Nn w va m) (hb0:Nn w vb k) (hs:Small m) (hs2:Small k):
    K_ 161 #[va,vb] w fun e w'=>e=.returned (O 0)∧Ext w w':=by
 obtain⟨u,rfl,hu⟩:=ha
 obtain⟨s,rfl,hv⟩:=hb0
 obtain⟨ao,b1,o1,cap1,rfl, -⟩:=hu.view
 obtain⟨bo,b2,o2,cap2,rfl, -⟩:=hv.view
 have h1:=fun w1 (k1:Ext w w1)=>r_Check (.agg #[.bool false,.slice ao (dig m).length cap1]) m w1 ⟨_,rfl,hu.ext k1⟩ hs
 have h2:=fun w1 (k1:Ext w w1)=>r_Check (.agg #[.bool false,.slice bo (dig k).length cap2]) k w1 ⟨_,rfl,hv.ext k1⟩ hs2
 go_enter Tryz.func161,Tryz.ntmps161
 go_upto_region 3 with(go_at_call 65;(with_reducible refine(h1 _ ex_).mono ?_);rintro e w1 ⟨rfl,hb⟩;obtain⟨_,_,⟨hc,hf⟩,hz⟩:=hb.c3;(try simp only[wsz]at hz hc hf))
 go_wp2_with (go_at_call 65;(with_reducible refine(h2 _ ex_).mono ?_);rintro e w2 ⟨rfl,hb2⟩)
 go_ret
 exact⟨rfl,ex_⟩
theorem r_madeS (neg:Bool) (v:Value) (xs:List Int) (m:Nat) (w:World) (h:Lim w v xs) (hm:val xs=m) (hl:(dig m).length≤4096):
    K_ 67 #[.bool neg,v] w fun e w'=>∃u bo,e=.returned (.tuple #[.agg #[.bool bo,u],O 0])∧Lim w' u (dig m)∧bo=(neg&&decide (0<(dig m).length))∧Ext w w':=by
 have ht:=trim_dig h.lb hm
 have hk:=fun w1 (k:Ext w w1)=>r_trim v xs w1 (h.ext k)
 rw[ht]at hk
 clear ht hm
 generalize hd:dig m=ds at hk hl ⊢
 by_cases hpos:0<ds.length
 ·have hp1:decide ((0:Int)<(ds.length:Int))=true:=decide_eq_true (by omega)
  have hp2:decide (0<ds.length)=true:=decide_eq_true hpos
  rw[hp2]
  cases neg
  all_goals
   go_enter Tryz.func67,Tryz.ntmps67
   go_wp2_with (go_at_call 129;(with_reducible refine(hk _ ex_).mono ?_);rintro e w1 ⟨u,rfl,hu,hb⟩;obtain⟨ao,b1,o1,cap1,rfl,v1,v2,v3,v4,v5,v6⟩:=hu.view;obtain⟨_,_,⟨hc,hf⟩,hz⟩:=hb.c3;(try simp only[wsz]at hz hc hf))
   have hB:NoU w1 w.heap.size:=(NoU.new w _ _ (noU2 (by simp) (by simp))).ext (by simp) hb
  ·refine bodyPost_ret (v:=.tuple #[.agg #[.bool false,.slice ao ds.length cap1],O 0]) ?_ rfl ⟨_,false,rfl, ?_,rfl, ?_⟩
   ·exact b_27
   ·exact b_9
   ·exact b_1
  ·refine bodyPost_ret (v:=.tuple #[.agg #[.bool true,.slice ao ds.length cap1],O 0]) ?_ rfl ⟨_,true,rfl, ?_,rfl, ?_⟩
   ·exact b_27
   ·exact b_9
   ·exact b_1
 ·have hp1:decide ((0:Int)<(ds.length:Int))=false:=decide_eq_false (by omega)
  have hp2:decide (0<ds.length)=false:=decide_eq_false hpos
  rw[hp2]
  cases neg
  all_goals
   go_enter Tryz.func67,Tryz.ntmps67
   go_wp2_with (go_at_call 129;(with_reducible refine(hk _ ex_).mono ?_);rintro e w1 ⟨u,rfl,hu,hb⟩;obtain⟨ao,b1,o1,cap1,rfl,v1,v2,v3,v4,v5,v6⟩:=hu.view;obtain⟨_,_,⟨hc,hf⟩,hz⟩:=hb.c3;(try simp only[wsz]at hz hc hf))
   have hB:NoU w1 w.heap.size:=(NoU.new w _ _ (noU2 (by simp) (by simp))).ext (by simp) hb
   refine bodyPost_ret (v:=.tuple #[.agg #[.bool false,.slice ao ds.length cap1],O 0]) ?_ rfl ⟨_,false,rfl, ?_,rfl, ?_⟩
   ·exact b_27
   ·exact b_9
   ·exact b_1
theorem r_CheckZ (v:Value) (n:Int) (w:World) (h:Wid w v n) (hs:Sz n):
    K_ 65 #[v] w fun e w'=>e=.returned (O 0)∧Ext w w':=by
 by_cases hn:n<0
 ·obtain⟨u,rfl,hu⟩:=h
  rw[decide_eq_true hn]
  unfold Sz Small at hs
  have hpos:=(dig_pos (m:=n.natAbs)).2 (by omega)
  have hln:=last_ne (m:=n.natAbs) hpos
  obtain⟨ao,b1,o1,cap1,rfl,v1,v2,v3,v4,v5,v6⟩:=hu.view
  generalize dig n.natAbs=ds at*
  have e:=v1 hpos
  subst e
  have hlw:=v4 hpos
  obtain⟨q,eq⟩:∃q,ds.length=q+1:=⟨ds.length-1,by omega⟩
  have hl:=v5 q (by omega)
  rw[eq,Nat.add_sub_cancel]at hln
  obtain⟨z,ez⟩:∃z,ds.getD q 0=z:=⟨_,rfl⟩
  rw[ez]at hl hln
  rw[eq]at hs ⊢
  have z1:(z==0)=false:=by simpa using hln
  have z2:decide ((4096:Int)<(q:Int)+1)=false:=decide_eq_false (by omega)
  have z3:((q:Int)+1==0)=false:=by simp;omega
  have z4:decide ((0:Int)<(q:Int)+1)=true:=decide_eq_true (by omega)
  clear hu v5 v6 v4 v1 v2 ez eq hpos
  go_enter Tryz.func65,Tryz.ntmps65
  go_wp2_with fail
  go_ret
  exact⟨rfl,ex_⟩
 ·have h2:=h.nn (by omega)
  exact r_Check v n.natAbs w h2 hs
theorem own_ext {a w w':World} {v:Value} {n:Nat} {xs:List Value} (h:Ext a w) (ho:w.ownsRow a.heap.size 54 1 v n xs) (k:w.grownBy w' v.ownBlock):Ext a w':=
 Below.grown h k h.size (fun g e=>by
  rcases ho.2 with⟨e1,_⟩| ⟨g',cap,cur,e1,hb,_⟩
  ·subst e1;cases e
  ·subst e1;simp only[Value.ownBlock]at e;cases e;exact hb)
def A32 (w:World) (base:Nat) (v:Value) (xs:List Int):Prop:=w.ownsRow base 54 1 v xs.length (xs.map (.int .u32))
theorem A32.nil (w:World) (base:Nat):A32 w base (.slice none 0 0) []:=⟨rfl,Or.inl ⟨rfl,rfl⟩⟩
theorem A32.snoc {w:World} {base n:Nat} {v:Value} {xs:List Int} {z:Int} (h:w.ownsRow base 54 1 v (n+1) (xs.map (.int .u32)++[.int .u32 z])) (hn:xs.length=n):A32 w base v (xs++[z]):=by
 unfold A32;rw[List.map_append,List.length_append,hn];exact h
theorem A32.alloc {w:World} {base:Nat} {v:Value} {xs:List Int} (h:A32 w base v xs) (o:Obj):A32 (w.alloc o) base v xs:=World.ownsRow.alloc h o
theorem A32.own {w:World} {base:Nat} {v:Value} {xs:List Int} (h:A32 w base v xs) (h0:0<xs.length):∃g cap,v=.slice (some ⟨g,0,none⟩) xs.length cap∧O32 w base g xs.length cap xs:=by
 have h2:=h
 rcases h.2 with⟨_,e⟩| ⟨g,cap,cur,e,_⟩
 ·omega
 ·subst e;exact⟨g,cap,rfl,h2⟩
theorem A32.lim {w:World} {base:Nat} {v:Value} {xs:List Int} (h:A32 w base v xs) (hl:Lb xs) (hn:xs.length≤1099511627776):Lim w v xs:=Lim.own' h hl hn
theorem A32.ext {a w:World} {base:Nat} {v:Value} {xs:List Int} (h:A32 a base v xs) (k:Ext a w):A32 w base v xs:=by
 rcases h.2 with h2| ⟨g,cap,cur,e1,hb,hg,h3⟩
 ·exact⟨h.1,Or.inl h2⟩
 ·exact⟨h.1,Or.inr ⟨g,cap,cur,e1,hb,(k.block g (Array.getElem?_eq_some_iff.1 hg).1).trans hg,h3⟩⟩
theorem r_left (va:Value) (X:List Int) (s:Nat) (w:World) (ha:Lim w va X) (hx:X.length≤100000) (hs:s<32):
    K_ 179 #[va,.int .u64 s] w fun e w'=>∃g cap zs,e=.returned (.slice (some ⟨g,0,none⟩) zs.length cap)∧O32 w' w.heap.size g zs.length cap zs∧Lb zs∧val zs=val X*2^s∧zs.length=X.length+1∧Ext w w':=by
  obtain⟨aoA,bA,oA,cA,rfl,a1,a2,a3,a4,a5,a6⟩:=ha.view
  have lA:=ha.lb
  obtain⟨i0,hi,hz0,hz1,hz2⟩:=info_parts info81
  have hA0:A32 w w.heap.size (.slice none 0 0) []:=A32.nil _ _
  go_enter Tryz.func179,Tryz.ntmps179
  go_wp2_with fail
  go_loopw [5,6,7] (fun v c i wr=>∃(j:Nat) (z:Int) (zs:List Int),j≤X.length∧c=.int .u64 z∧i=O j∧0≤z∧z<2^s∧zs.length=j∧Lb zs∧val zs+BB^j*z=val (X.take j)*2^s∧
      Hid (A32 wr w.heap.size v zs)∧Hid (Ext w wr)) (fun _ _ i _=>X.length-(intOf i).toNat)
  case atStart=>exact⟨0,0,[],Nat.zero_le _,rfl,rfl,by decide,Int.pow_pos (by decide),rfl,Lb.nil,by simp[val],hA0,Ext.refl w⟩
  case round=>
    obtain⟨j,z,zs,hj,rfl,rfl,z0,z1,hzl,hzb,hv,HR,HE⟩:=hrel
    have hsz:=HE.out.size
    by_cases hjx:j<X.length
    · have eA:=a1 (by omega)
      subst eA
      have hca:=(HE.out.cells.1 _ (oA+j) (a4 (by omega))).trans (a5 j hjx)
      have hxk:U32 (X.getD j 0):=lA.getD j
      obtain⟨x,ex⟩:∃x,X.getD j 0=x:=⟨_,rfl⟩
      have hq:=left_step (D:=0) (by simpa using hv) (by omega) ex
      rw[ex]at hca hxk
      unfold U32 at hxk
      obtain⟨o1,o2,o3,o4,o5,o6⟩:=or_low s hs x z hxk.1 z0 z1 hxk.2
      simp only[Nat.zero_add,Int.pow_zero,Int.one_mul]at hq
      replace hq:Hid _:=hq
      have hown:(wr.alloc (.cells #[.int .u32 ((z+x*2^s)%4294967296)] 54)).ownsRow w.heap.size 54 1 u5 j (zs.map (Value.int .u32)):=by have:=HR.out.alloc (.cells #[.int .u32 ((z+x*2^s)%4294967296)] 54);unfold A32 at this;rw[hzl]at this;exact this
      clear ex hv a5
      go_wp2_with (at_builtin;refine wpList_append_own _ rfl _ _ 22 rfl w.heap.size 54 i0 (.int .u32 0) 1 4 Tryz.underlying22 hi hz0 hz1 hz2 rfl (by decide) _ _ _ rfl hown ⟨wr.heap.size,0,none⟩ 1 1 [Value.int .u32 ((z+x*2^s)%4294967296)] rfl rfl (cell_one_l _ _ _) c_29 c_31 (by omega) c_26 ?_;intro v' w1 hown1 hgrow1 hnil)
      have hR1:Hid (A32 w1 w.heap.size v' (zs++[(z+x*2^s)%4294967296])):=A32.snoc hown1 hzl
      have hE1:Hid (Ext w w1):=(own_ext (HE.out.alloc _) hown hgrow1:Ext w w1)
      go_roundw
      case rel=>exact⟨j+1,_,zs++[(z+x*2^s)%4294967296],hjx,rfl,by go_num,Int.ediv_nonneg o3 (by decide),Int.ediv_lt_of_lt_mul (by decide) o2,by simp[hzl],hzb.snoc (U32.mod _),hq.out,hR1,hE1⟩
      case measure=>simp[intOf];omega
    · have hjl:j=X.length:=by omega
      subst hjl
      have hz32:z<4294967296:=by
        have:(2:Int)^s≤2^32:=two_pow_le (by omega)
        omega
      have hown:(wr.alloc (.cells #[.int .u32 z] 54)).ownsRow w.heap.size 54 1 u5 X.length (zs.map (Value.int .u32)):=by have:=HR.out.alloc (.cells #[.int .u32 z] 54);unfold A32 at this;rw[hzl]at this;exact this
      go_wp2_with (at_builtin;refine wpList_append_own _ rfl _ _ 22 rfl w.heap.size 54 i0 (.int .u32 0) 1 4 Tryz.underlying22 hi hz0 hz1 hz2 rfl (by decide) _ _ _ rfl hown ⟨wr.heap.size,0,none⟩ 1 1 [Value.int .u32 z] rfl rfl (cell_one_l _ _ _) c_29 c_31 (by omega) c_26 ?_;intro v' w1 hown1 hgrow1 hnil)
      have hR1:A32 w1 w.heap.size v' (zs++[z]):=A32.snoc hown1 hzl
      have hE1:Ext w w1:=own_ext (HE.out.alloc _) hown hgrow1
      obtain⟨g,cap,rfl,hO⟩:=hR1.own (by simp)
      have hlen:(zs++[z]).length=X.length+1:=by simp[hzl]
      go_ret
      refine⟨g,cap,zs++[z],rfl,hO,hzb.snoc ⟨z0,hz32⟩, ?_,hlen,hE1⟩
      rw[left_end _ hzl,hv,List.take_length]
theorem r_minus (va vb:Value) (X Y:List Int) (w:World) (ha:Lim w va X) (hb:Lim w vb Y) (hx:X.length≤100000) (hle:Y.length≤X.length) (hv0:val Y≤val X):
    K_ 182 #[va,vb] w fun e w'=>∃u zs,e=.returned u∧Lim w' u zs∧val zs=val X-val Y∧Ext w w':=by
  obtain⟨aoA,bA,oA,cA,rfl,a1,a2,a3,a4,a5,a6⟩:=ha.view
  obtain⟨aoB,bB,oB,cB,rfl,b1,b2,b3,b4,b5,b6⟩:=hb.view
  have lA:=ha.lb
  have lB:=hb.lb
  obtain⟨i0,hi,hz0,hz1,hz2⟩:=info_parts info81
  have hA0:A32 w w.heap.size (.slice none 0 0) []:=A32.nil _ _
  clear a6 b6
  go_enter Tryz.func182,Tryz.ntmps182
  go_wp2_with fail
  go_loopw [5,6,7] (fun v c i wr=>∃(k:Nat) (z:Int) (zs:List Int),k≤X.length∧c=O z∧i=O k∧0≤z∧z≤1∧zs.length=k∧Lb zs∧val zs-BB^k*z=val (X.take k)-val (Y.take k)∧
      Hid (A32 wr w.heap.size v zs)∧Hid (Ext w wr)) (fun _ _ i _=>X.length-(intOf i).toNat)
  case atStart=>exact⟨0,0,[],Nat.zero_le _,rfl,rfl,by decide,by decide,rfl,Lb.nil,by simp[val],hA0,Ext.refl w⟩
  case round=>
    obtain⟨k,z,zs,hk,rfl,rfl,z0,z1,hzl,hzb,hv,HR,HE⟩:=hrel
    have hsz:=HE.out.size
    have hk1:k≤100000:=by omega
    have hm1:Hid (k+1≤maxLen):=(Nat.le_trans (Nat.succ_le_succ hk1) (by decide):k+1≤maxLen)
    have hm2:Hid ((k+1)*4≤140737488355328):=(Nat.le_trans (Nat.mul_le_mul_right 4 (Nat.succ_le_succ hk1)) (by decide):(k+1)*4≤140737488355328)
    by_cases hkx:k<X.length
    · have eA:=a1 (by omega)
      subst eA
      have hca:=(HE.out.cells.1 _ (oA+k) (a4 (by omega))).trans (a5 k hkx)
      have hxk:U32 (X.getD k 0):=lA.getD k
      have hyk:U32 (Y.getD k 0):=lB.getD k
      obtain⟨x,ex⟩:∃x,X.getD k 0=x:=⟨_,rfl⟩
      obtain⟨y,ey⟩:∃y,Y.getD k 0=y:=⟨_,rfl⟩
      have hq:=minus_step hv hzl ex ey
      rw[ex]at hca hxk
      rw[ey]at hyk
      unfold U32 at hxk hyk
      by_cases hky:k<Y.length
      · have eB:=b1 (by omega)
        subst eB
        have hcb:=(HE.out.cells.1 _ (oB+k) (b4 (by omega))).trans (b5 k hky)
        rw[ey]at hcb
        by_cases hn:x-y-z<0
        · have hd:(x-z-y:Int)<0:=by omega
          have e1:(x-y-z)%4294967296=x-z-y+4294967296:=by omega
          have e2: -((x-y-z)/4294967296)=1:=by omega
          rw[e1,e2]at hq
          have hU:U32 (x-z-y+4294967296):=by unfold U32;omega
          have hown:(wr.alloc (.cells #[.int .u32 (x-z-y+4294967296)] 54)).ownsRow w.heap.size 54 1 u5 k (zs.map (Value.int .u32)):=by have:=HR.out.alloc (.cells #[.int .u32 (x-z-y+4294967296)] 54);unfold A32 at this;rw[hzl]at this;exact this
          replace hq:Hid _:=hq
          clear ex ey hv a5 b5 e1 e2
          go_wp2_with (at_builtin;refine wpList_append_own _ rfl _ _ 22 rfl w.heap.size 54 i0 (.int .u32 0) 1 4 Tryz.underlying22 hi hz0 hz1 hz2 rfl (by decide) _ _ _ rfl hown ⟨wr.heap.size,0,none⟩ 1 1 [Value.int .u32 (x-z-y+4294967296)] rfl rfl (cell_one_l _ _ _) c_29 hm1.out hm2.out c_26 ?_;intro v' w1 hown1 hgrow1 hnil)
          have hR1:Hid (A32 w1 w.heap.size v' (zs++[x-z-y+4294967296])):=A32.snoc hown1 hzl
          have hE1:Hid (Ext w w1):=(own_ext (HE.out.alloc _) hown hgrow1:Ext w w1)
          go_roundw
          case rel=>exact⟨k+1,1,zs++[x-z-y+4294967296],by omega,rfl,by go_num,by decide,by decide,by simp[hzl],hzb.snoc hU,hq.out,hR1,hE1⟩
          case measure=>simp[intOf];omega
        · have hd:¬(x-z-y:Int)<0:=by omega
          have e1:(x-y-z)%4294967296=x-z-y:=by omega
          have e2: -((x-y-z)/4294967296)=0:=by omega
          rw[e1,e2]at hq
          have hU:U32 (x-z-y):=by unfold U32;omega
          have hown:(wr.alloc (.cells #[.int .u32 (x-z-y)] 54)).ownsRow w.heap.size 54 1 u5 k (zs.map (Value.int .u32)):=by have:=HR.out.alloc (.cells #[.int .u32 (x-z-y)] 54);unfold A32 at this;rw[hzl]at this;exact this
          replace hq:Hid _:=hq
          clear ex ey hv a5 b5 e1 e2
          go_wp2_with (at_builtin;refine wpList_append_own _ rfl _ _ 22 rfl w.heap.size 54 i0 (.int .u32 0) 1 4 Tryz.underlying22 hi hz0 hz1 hz2 rfl (by decide) _ _ _ rfl hown ⟨wr.heap.size,0,none⟩ 1 1 [Value.int .u32 (x-z-y)] rfl rfl (cell_one_l _ _ _) c_29 hm1.out hm2.out c_26 ?_;intro v' w1 hown1 hgrow1 hnil)
          have hR1:Hid (A32 w1 w.heap.size v' (zs++[x-z-y])):=A32.snoc hown1 hzl
          have hE1:Hid (Ext w w1):=(own_ext (HE.out.alloc _) hown hgrow1:Ext w w1)
          go_roundw
          case rel=>exact⟨k+1,0,zs++[x-z-y],by omega,rfl,by go_num,by decide,by decide,by simp[hzl],hzb.snoc hU,hq.out,hR1,hE1⟩
          case measure=>simp[intOf];omega
      · have hy0:y=0:=by rw[←ey,List.getD_eq_getElem?_getD,List.getElem?_eq_none (by omega)];rfl
        subst hy0
        by_cases hn:x-0-z<0
        · have hd:(x-z:Int)<0:=by omega
          have e1:(x-0-z)%4294967296=x-z+4294967296:=by omega
          have e2: -((x-0-z)/4294967296)=1:=by omega
          rw[e1,e2]at hq
          have hU:U32 (x-z+4294967296):=by unfold U32;omega
          have hown:(wr.alloc (.cells #[.int .u32 (x-z+4294967296)] 54)).ownsRow w.heap.size 54 1 u5 k (zs.map (Value.int .u32)):=by have:=HR.out.alloc (.cells #[.int .u32 (x-z+4294967296)] 54);unfold A32 at this;rw[hzl]at this;exact this
          replace hq:Hid _:=hq
          clear ex ey hv a5 b5 e1 e2
          go_wp2_with (at_builtin;refine wpList_append_own _ rfl _ _ 22 rfl w.heap.size 54 i0 (.int .u32 0) 1 4 Tryz.underlying22 hi hz0 hz1 hz2 rfl (by decide) _ _ _ rfl hown ⟨wr.heap.size,0,none⟩ 1 1 [Value.int .u32 (x-z+4294967296)] rfl rfl (cell_one_l _ _ _) c_29 hm1.out hm2.out c_26 ?_;intro v' w1 hown1 hgrow1 hnil)
          have hR1:Hid (A32 w1 w.heap.size v' (zs++[x-z+4294967296])):=A32.snoc hown1 hzl
          have hE1:Hid (Ext w w1):=(own_ext (HE.out.alloc _) hown hgrow1:Ext w w1)
          go_roundw
          case rel=>exact⟨k+1,1,zs++[x-z+4294967296],by omega,rfl,by go_num,by decide,by decide,by simp[hzl],hzb.snoc hU,hq.out,hR1,hE1⟩
          case measure=>simp[intOf];omega
        · have hd:¬(x-z:Int)<0:=by omega
          have e1:(x-0-z)%4294967296=x-z:=by omega
          have e2: -((x-0-z)/4294967296)=0:=by omega
          rw[e1,e2]at hq
          have hU:U32 (x-z):=by unfold U32;omega
          have hown:(wr.alloc (.cells #[.int .u32 (x-z)] 54)).ownsRow w.heap.size 54 1 u5 k (zs.map (Value.int .u32)):=by have:=HR.out.alloc (.cells #[.int .u32 (x-z)] 54);unfold A32 at this;rw[hzl]at this;exact this
          replace hq:Hid _:=hq
          clear ex ey hv a5 b5 e1 e2
          go_wp2_with (at_builtin;refine wpList_append_own _ rfl _ _ 22 rfl w.heap.size 54 i0 (.int .u32 0) 1 4 Tryz.underlying22 hi hz0 hz1 hz2 rfl (by decide) _ _ _ rfl hown ⟨wr.heap.size,0,none⟩ 1 1 [Value.int .u32 (x-z)] rfl rfl (cell_one_l _ _ _) c_29 hm1.out hm2.out c_26 ?_;intro v' w1 hown1 hgrow1 hnil)
          have hR1:Hid (A32 w1 w.heap.size v' (zs++[x-z])):=A32.snoc hown1 hzl
          have hE1:Hid (Ext w w1):=(own_ext (HE.out.alloc _) hown hgrow1:Ext w w1)
          go_roundw
          case rel=>exact⟨k+1,0,zs++[x-z],by omega,rfl,by go_num,by decide,by decide,by simp[hzl],hzb.snoc hU,hq.out,hR1,hE1⟩
          case measure=>simp[intOf];omega
    · have hkl:k=X.length:=by omega
      subst hkl
      have hvv:val zs=val X-val Y:=by
        rw[List.take_length,List.take_of_length_le hle]at hv
        have hlt:=val_lt hzb
        rw[hzl]at hlt
        rcases(by omega:z=0∨z=1)with rfl|rfl<;>omega
      have hL:=HR.out.lim hzb (by omega)
      have htr:=r_trim _ zs wr hL
      clear hv a5 b5
      go_wp2_with (go_at_call 129;(with_reducible refine htr.mono ?_);rintro e w1 ⟨y1,rfl,hy1,hb1⟩)
      go_ret
      exact⟨_,trimL zs,rfl,hy1,by rw[val_trim];exact hvv,HE.out.trans hb1⟩
theorem r_plus (va vb:Value) (X Y:List Int) (w:World) (ha:Lim w va X) (hb:Lim w vb Y) (hx:X.length≤100000∧Y.length≤100000):
    K_ 181 #[va,vb] w fun e w'=>∃u zs,e=.returned u∧Lim w' u zs∧val zs=val X+val Y∧Ext w w':=by
  obtain⟨aoA,bA,oA,cA,rfl,a1,a2,a3,a4,a5,a6⟩:=ha.view
  obtain⟨aoB,bB,oB,cB,rfl,b1,b2,b3,b4,b5,b6⟩:=hb.view
  have lA:=ha.lb
  have lB:=hb.lb
  obtain⟨i0,hi,hz0,hz1,hz2⟩:=info_parts info81
  have hA0:A32 w w.heap.size (.slice none 0 0) []:=A32.nil _ _
  clear a6 b6
  go_enter Tryz.func181,Tryz.ntmps181
  go_wp2_with fail
  go_loopw [5,6,7] (fun v c i wr=>∃(k:Nat) (z:Int) (zs:List Int),k≤max X.length Y.length∧c=.int .u64 z∧i=O k∧0≤z∧z≤1∧zs.length=k∧Lb zs∧val zs+BB^k*z=val (X.take k)+val (Y.take k)∧
      Hid (A32 wr w.heap.size v zs)∧Hid (Ext w wr)) (fun _ _ i _=>max X.length Y.length-(intOf i).toNat)
  case atStart=>exact⟨0,0,[],Nat.zero_le _,rfl,rfl,by decide,by decide,rfl,Lb.nil,by simp[val],hA0,Ext.refl w⟩
  case round=>
    obtain⟨k,z,zs,hk,rfl,rfl,z0,z1,hzl,hzb,hv,HR,HE⟩:=hrel
    have hsz:=HE.out.size
    have hk1:k≤100000:=by omega
    have hm1:Hid (k+1≤maxLen):=(Nat.le_trans (Nat.succ_le_succ hk1) (by decide):k+1≤maxLen)
    have hm2:Hid ((k+1)*4≤140737488355328):=(Nat.le_trans (Nat.mul_le_mul_right 4 (Nat.succ_le_succ hk1)) (by decide):(k+1)*4≤140737488355328)
    by_cases hkx:k<X.length
    · by_cases hky:k<Y.length
      · have eA:=a1 (by omega)
        subst eA
        have hca:=(HE.out.cells.1 _ (oA+k) (a4 (by omega))).trans (a5 k hkx)
        have eB:=b1 (by omega)
        subst eB
        have hcb:=(HE.out.cells.1 _ (oB+k) (b4 (by omega))).trans (b5 k hky)
        obtain⟨x,ex⟩:∃x,X.getD k 0=x:=⟨_,rfl⟩
        obtain⟨y,ey⟩:∃y,Y.getD k 0=y:=⟨_,rfl⟩
        have hxk:U32 (X.getD k 0):=lA.getD k
        have hyk:U32 (Y.getD k 0):=lB.getD k
        have hq:=plus_step hv hzl ex ey
        rw[ex]at hca
        rw[ey]at hcb
        rw[ex]at hxk
        rw[ey]at hyk
        rw[show x+y+z=z+x+y from by omega]at hq
        unfold U32 at hxk hyk
        have hnx:0≤(z+x+y)/4294967296∧(z+x+y)/4294967296≤1:=by omega
        have hsum:0≤z+x+y∧z+x+y<8589934592:=by omega
        have hown:(wr.alloc (.cells #[.int .u32 ((z+x+y)%4294967296)] 54)).ownsRow w.heap.size 54 1 u5 k (zs.map (Value.int .u32)):=by have:=HR.out.alloc (.cells #[.int .u32 ((z+x+y)%4294967296)] 54);unfold A32 at this;rw[hzl]at this;exact this
        replace hq:Hid _:=hq
        clear ex ey hv a5 b5
        go_wp2_with (at_builtin;refine wpList_append_own _ rfl _ _ 22 rfl w.heap.size 54 i0 (.int .u32 0) 1 4 Tryz.underlying22 hi hz0 hz1 hz2 rfl (by decide) _ _ _ rfl hown ⟨wr.heap.size,0,none⟩ 1 1 [Value.int .u32 ((z+x+y)%4294967296)] rfl rfl (cell_one_l _ _ _) c_29 hm1.out hm2.out c_26 ?_;intro v' w1 hown1 hgrow1 hnil)
        have hR1:Hid (A32 w1 w.heap.size v' (zs++[(z+x+y)%4294967296])):=A32.snoc hown1 hzl
        have hE1:Hid (Ext w w1):=(own_ext (HE.out.alloc _) hown hgrow1:Ext w w1)
        go_roundw
        case rel=>exact⟨k+1,_,zs++[(z+x+y)%4294967296],by omega,rfl,by go_num,hnx.1,hnx.2,by simp[hzl],hzb.snoc (U32.mod _),hq.out,hR1,hE1⟩
        case measure=>simp[intOf];omega
      · have eA:=a1 (by omega)
        subst eA
        have hca:=(HE.out.cells.1 _ (oA+k) (a4 (by omega))).trans (a5 k hkx)
        obtain⟨x,ex⟩:∃x,X.getD k 0=x:=⟨_,rfl⟩
        obtain⟨y,ey⟩:∃y,Y.getD k 0=y:=⟨_,rfl⟩
        have hxk:U32 (X.getD k 0):=lA.getD k
        have hyk:U32 (Y.getD k 0):=lB.getD k
        have hq:=plus_step hv hzl ex ey
        rw[ex]at hca
        rw[ex]at hxk
        rw[ey]at hyk
        have hy0:y=0:=by rw[←ey,List.getD_eq_getElem?_getD,List.getElem?_eq_none (by omega)];rfl
        subst hy0
        rw[show x+0+z=z+x from by omega]at hq
        unfold U32 at hxk hyk
        have hnx:0≤(z+x)/4294967296∧(z+x)/4294967296≤1:=by omega
        have hsum:0≤z+x∧z+x<8589934592:=by omega
        have hown:(wr.alloc (.cells #[.int .u32 ((z+x)%4294967296)] 54)).ownsRow w.heap.size 54 1 u5 k (zs.map (Value.int .u32)):=by have:=HR.out.alloc (.cells #[.int .u32 ((z+x)%4294967296)] 54);unfold A32 at this;rw[hzl]at this;exact this
        replace hq:Hid _:=hq
        clear ex ey hv a5 b5
        go_wp2_with (at_builtin;refine wpList_append_own _ rfl _ _ 22 rfl w.heap.size 54 i0 (.int .u32 0) 1 4 Tryz.underlying22 hi hz0 hz1 hz2 rfl (by decide) _ _ _ rfl hown ⟨wr.heap.size,0,none⟩ 1 1 [Value.int .u32 ((z+x)%4294967296)] rfl rfl (cell_one_l _ _ _) c_29 hm1.out hm2.out c_26 ?_;intro v' w1 hown1 hgrow1 hnil)
        have hR1:Hid (A32 w1 w.heap.size v' (zs++[(z+x)%4294967296])):=A32.snoc hown1 hzl
        have hE1:Hid (Ext w w1):=(own_ext (HE.out.alloc _) hown hgrow1:Ext w w1)
        go_roundw
        case rel=>exact⟨k+1,_,zs++[(z+x)%4294967296],by omega,rfl,by go_num,hnx.1,hnx.2,by simp[hzl],hzb.snoc (U32.mod _),hq.out,hR1,hE1⟩
        case measure=>simp[intOf];omega
    · by_cases hky:k<Y.length
      · have eB:=b1 (by omega)
        subst eB
        have hcb:=(HE.out.cells.1 _ (oB+k) (b4 (by omega))).trans (b5 k hky)
        obtain⟨x,ex⟩:∃x,X.getD k 0=x:=⟨_,rfl⟩
        obtain⟨y,ey⟩:∃y,Y.getD k 0=y:=⟨_,rfl⟩
        have hxk:U32 (X.getD k 0):=lA.getD k
        have hyk:U32 (Y.getD k 0):=lB.getD k
        have hq:=plus_step hv hzl ex ey
        rw[ey]at hcb
        rw[ex]at hxk
        rw[ey]at hyk
        have hx0:x=0:=by rw[←ex,List.getD_eq_getElem?_getD,List.getElem?_eq_none (by omega)];rfl
        subst hx0
        rw[show 0+y+z=z+y from by omega]at hq
        unfold U32 at hxk hyk
        have hnx:0≤(z+y)/4294967296∧(z+y)/4294967296≤1:=by omega
        have hsum:0≤z+y∧z+y<8589934592:=by omega
        have hown:(wr.alloc (.cells #[.int .u32 ((z+y)%4294967296)] 54)).ownsRow w.heap.size 54 1 u5 k (zs.map (Value.int .u32)):=by have:=HR.out.alloc (.cells #[.int .u32 ((z+y)%4294967296)] 54);unfold A32 at this;rw[hzl]at this;exact this
        replace hq:Hid _:=hq
        clear ex ey hv a5 b5
        go_wp2_with (at_builtin;refine wpList_append_own _ rfl _ _ 22 rfl w.heap.size 54 i0 (.int .u32 0) 1 4 Tryz.underlying22 hi hz0 hz1 hz2 rfl (by decide) _ _ _ rfl hown ⟨wr.heap.size,0,none⟩ 1 1 [Value.int .u32 ((z+y)%4294967296)] rfl rfl (cell_one_l _ _ _) c_29 hm1.out hm2.out c_26 ?_;intro v' w1 hown1 hgrow1 hnil)
        have hR1:Hid (A32 w1 w.heap.size v' (zs++[(z+y)%4294967296])):=A32.snoc hown1 hzl
        have hE1:Hid (Ext w w1):=(own_ext (HE.out.alloc _) hown hgrow1:Ext w w1)
        go_roundw
        case rel=>exact⟨k+1,_,zs++[(z+y)%4294967296],by omega,rfl,by go_num,hnx.1,hnx.2,by simp[hzl],hzb.snoc (U32.mod _),hq.out,hR1,hE1⟩
        case measure=>simp[intOf];omega
      · have hkm:k=max X.length Y.length:=by omega
        have hvv:val (zs++[z])=val X+val Y:=by
          rw[val_append,hzl];simp only[val]
          rw[List.take_of_length_le (by omega),List.take_of_length_le (by omega)]at hv
          simpa using hv
        have hz32:z%4294967296=z:=by omega
        have hown:(wr.alloc (.cells #[.int .u32 (z)] 54)).ownsRow w.heap.size 54 1 u5 k (zs.map (Value.int .u32)):=by have:=HR.out.alloc (.cells #[.int .u32 (z)] 54);unfold A32 at this;rw[hzl]at this;exact this
        clear hv a5 b5 hz32
        go_wp2_with (at_builtin;refine wpList_append_own _ rfl _ _ 22 rfl w.heap.size 54 i0 (.int .u32 0) 1 4 Tryz.underlying22 hi hz0 hz1 hz2 rfl (by decide) _ _ _ rfl hown ⟨wr.heap.size,0,none⟩ 1 1 [Value.int .u32 (z)] rfl rfl (cell_one_l _ _ _) c_29 hm1.out hm2.out c_26 ?_;intro v' w1 hown1 hgrow1 hnil)
        have hR1:A32 w1 w.heap.size v' (zs++[z]):=A32.snoc hown1 hzl
        have hE1:Ext w w1:=own_ext (HE.out.alloc _) hown hgrow1
        go_ret
        exact⟨_,zs++[z],rfl,hR1.lim (hzb.snoc ⟨z0,by omega⟩) c_26,hvv,hE1⟩
theorem T_RC_1 {p:Prop} (h:p:=by
 rw[hv]
 clear hv
 go_enter Tryz.func177,Tryz.ntmps177
 go_wp2_with fail
 go_ret
 exact⟨rfl,Ext.refl w⟩):p:=h
theorem ext_from {X Y:List Int} (hl:X.length=Y.length) (h:∀j,0≤j→j<X.length→X.getD j 0=Y.getD j 0):X=Y:=ext_getD hl fun j hj=>h j (Nat.zero_le _) hj
theorem r_compare (va vb:Value) (X Y:List Int) (w:World) (ha:Lim w va X) (hb:Lim w vb Y) (hX:Nz X) (hY:Nz Y):
    K_ 177 #[va,vb] w fun e w'=>e=.returned (O (cmpI (val X) (val Y)))∧Ext w w':=by
 have lX:=ha.lb
 have lY:=hb.lb
 obtain⟨aoA,bA,oA,cA,rfl,a1,a2,a3,a4,a5,a6⟩:=ha.view
 obtain⟨aoB,bB,oB,cB,rfl,b1,b2,b3,b4,b5,b6⟩:=hb.view
 by_cases hl:X.length=Y.length
 rotate_left
 ·rcases Nat.lt_or_ge X.length Y.length with h|h
  ·have hv:cmpI (val X) (val Y)= -1:=cmp_lt (val_lt_of_len lX lY hY h)
   exact T_RC_1
  ·have hv:cmpI (val X) (val Y)=1:=cmp_gt (val_lt_of_len lY lX hX (by omega))
   exact T_RC_1
 ·have HL:Hid (X.length=Y.length):=hl
  generalize hcv:cmpI (val X) (val Y)=cv
  have HV:Hid (cmpI (val X) (val Y)=cv):=hcv
  clear hcv
  rw[hl]at a1 a4 a5 a6 ha ⊢
  clear hl a2 b2
  generalize hN:Y.length=N at*
  have HN:Hid (Y.length=N):=hN
  clear hN
  have hXY:Hid (X.length=Y.length):=HL.out.trans HN.out.symm
  go_enter Tryz.func177,Tryz.ntmps177
  go_wp2_with fail
  go_loopw [5] (fun i wr=>∃m:Nat,m≤N∧i=O ((m:Int)-1)∧Hid (∀j,m≤j→j<N→X.getD j 0=Y.getD j 0)∧Hid (Ext w wr)) (fun i _=>(intOf i+1).toNat)
  case atStart=>exact⟨N,Nat.le_refl _,rfl,fun j h1 h2=>absurd h2 (by omega),Ext.refl w⟩
  case round=>
   obtain⟨m,hm,hi,hall,HE⟩:=hrel
   have hE:=HE.out
   cases m with
   |zero=>
    have hi2:_=Value.int .i64 (-1):=hi
    clear hi
    subst hi2
    have hv:Hid (cv=0):=HV.out.symm.trans (cmp_eq (by rw[ext_from hXY.out (fun j h1 h2=>hall.out j h1 (by have:=HL.out;omega))]))
    clear a5 b5
    go_wp2_with fail
    go_ret
    exact⟨by rw[hv.out];rfl,hE⟩
   |succ m=>
    have hi2:_=Value.int .i64 (m:Int):=hi.trans (by congr 1;omega)
    clear hi
    subst hi2
    have eA:=a1 (by omega)
    have eB:=b1 (by omega)
    subst eA
    subst eB
    have hca:=(hE.cells.1 _ (oA+m) (a4 (by omega))).trans (a5 m (by omega))
    have hcb:=(hE.cells.1 _ (oB+m) (b4 (by omega))).trans (b5 m (by omega))
    have hXm:m<X.length:=by have:=HN.out;have:=HL.out;omega
    have htop:∀j,m<j→j<X.length→X.getD j 0=Y.getD j 0:=fun j h1 h2=>hall.out j (by omega) (by have:=HN.out;have:=HL.out;omega)
    have hlt:=fun h=>HV.out.symm.trans (cmp_lt (top_lt hXY.out hXm lX lY h htop))
    have hgt:=fun h=>HV.out.symm.trans (cmp_gt (top_lt hXY.out.symm (by have:=hXY.out;omega) lY lX h (fun j h1 h2=>(htop j h1 (by have:=hXY.out;omega)).symm)))
    have hnx:X.getD m 0=Y.getD m 0→∀j,m≤j→j<N→X.getD j 0=Y.getD j 0:=fun h j h1 h2=>by
     rcases Nat.eq_or_lt_of_le h1 with e|e
     ·rw[←e];exact h
     ·exact hall.out j (by omega) h2
    obtain⟨x,ex⟩:∃x,X.getD m 0=x:=⟨_,rfl⟩
    obtain⟨y,ey⟩:∃y,Y.getD m 0=y:=⟨_,rfl⟩
    rw[ex]at hca hlt hgt hnx
    rw[ey]at hcb hlt hgt hnx
    replace hnx:Hid _:=hnx
    clear a5 b5 htop ex ey
    rcases Int.lt_trichotomy x y with h|h|h
    ·have hv:Hid (cv= -1):=hlt h
     clear hlt hgt
     go_wp2_with fail
     go_quiet (fail)
     go_wp2_with fail
     go_ret
     exact⟨by rw[hv.out];rfl,ex_⟩
    ·subst h
     clear hlt hgt
     go_wp2_with fail
     go_quiet (fail)
     go_wp2_with fail
     go_quiet (fail)
     go_wp2_with fail
     go_roundw
     case rel=>exact⟨m,by omega,rfl,hnx.out (by first|rfl|trivial),(ex_:Ext _ _)⟩
     case measure=>first| (simp[intOf];done)| (simp[intOf];omega)
    ·have hv:Hid (cv=1):=hgt h
     clear hlt hgt
     go_wp2_with fail
     go_quiet (fail)
     go_wp2_with fail
     go_quiet (fail)
     go_wp2_with fail
     go_ret
     exact⟨by rw[hv.out];rfl,ex_⟩
end Go.Proofs.YtaoioncjmfcolaaGreat
