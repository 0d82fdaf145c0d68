/- Rows of limbs that the call itself has made. -/
import Derived.Test.YtaoioncjmfcolaaGreatV01
import Derived.RangeFuncNested
import Derived.RangeFuncBound
import Derived.Shelf.RegionOpen
import Derived.OwnWalkIn
import Derived.LoopNIn
import Derived.LoopIn
set_option linter.unusedSimpArgs false
set_option linter.unusedVariables false
set_option maxRecDepth 100000
set_option maxHeartbeats 4000000
namespace Go.Proofs.YtaoioncjmfcolaaGreat
open Go.RowKit
theorem info81:(Tryz.prog.info? 54).map (fun i=>(i.zero,i.size,i.bytes))=some (some (.int .u32 0),1,4):=by kernel_rfl
def R32 (w:World) (base g n:Nat) (xs:List Int):Prop:=w.ownsRow base 54 1 (.slice (some ⟨g,0,none⟩) n n) n (xs.map (.int .u32))
theorem R32.len {w:World} {base g n:Nat} {xs:List Int} (h:R32 w base g n xs):xs.length=n:=by have:=h.1;simpa using this
theorem R32.lt {w:World} {base g n:Nat} {xs:List Int} (h:R32 w base g n xs):g<w.heap.size:=by
 rcases h.2 with⟨e,_⟩| ⟨g',cap',cur,hv,hb,hg,_⟩
 ·cases e
 ·cases hv;exact(Array.getElem?_eq_some_iff.1 hg).1
theorem R32.ge {w:World} {base g n:Nat} {xs:List Int} (h:R32 w base g n xs):base≤g:=by
 rcases h.2 with⟨e,_⟩| ⟨g',cap',cur,hv,hb,hg,_⟩
 ·cases e
 ·cases hv;exact hb
theorem R32.cell {w:World} {base g n:Nat} {xs:List Int} (h:R32 w base g n xs) {k:Nat} (hk:k<n):w.cell? ⟨g,k,none⟩=some (.int .u32 (xs.getD k 0)):=by
 have hl:=h.len
 rw[World.ownsRow.cellAt h k (by omega)]
 simp[List.getElem?_map,List.getD_eq_getElem?_getD,List.getElem?_eq_getElem (show k<xs.length by omega)]
theorem R32.frozen {w:World} {base g n:Nat} {xs:List Int} (h:R32 w base g n xs) (k:Nat):w.frozen? ⟨g,k,none⟩=false:=World.ownsRow.frozenAt h k
theorem R32.set {w:World} {base g n:Nat} {xs:List Int} (h:R32 w base g n xs) (k:Nat) (z:Int):R32 (w.setCell ⟨g,k,none⟩ (.int .u32 z)) base g n (xs.set k z):=by
 have:=(World.ownsRow.stored h k (.int .u32 z)).1
 unfold R32
 rw[List.map_set];exact this
theorem R32.alloc {w:World} {base g n:Nat} {xs:List Int} (h:R32 w base g n xs) (o:Obj):R32 (w.alloc o) base g n xs:=World.ownsRow.alloc h o
theorem R32.ext {a w:World} {base g n:Nat} {xs:List Int} (h:R32 a base g n xs) (k:Ext a w):R32 w base g n xs:=
 World.ownsRow.kept (row:=none) h ⟨k.os,k.tape,k.output,k.size,fun i hi _=>k.block i hi⟩ (Or.inr (by simp[Value.ownBlock]))
theorem R32.lim {w:World} {base g n:Nat} {xs:List Int} (h:R32 w base g n xs) (hl:Lb xs) (hn:n≤1099511627776):Lim w (.slice (some ⟨g,0,none⟩) n n) xs:=Lim.own h hl hn
theorem R32.made {w:World} {base g n:Nat} (h:w.ownsRow base 54 1 (.slice (some ⟨g,0,none⟩) n n) n (madeCells (Value.int .u32 0).cells (n*1)).toList):R32 w base g n (List.replicate n 0):=by
 unfold R32
 have e:(madeCells (Value.int .u32 0).cells (n*1)).toList=(List.replicate n (0:Int)).map (Value.int .u32):=by
  rw[Nat.mul_one,List.map_replicate];exact toList_madeCells_one _ _
 rw[←e];exact h
theorem Ext.grown {a w w':World} (h:Ext a w) (k:w.grownBy w' none):Ext a w':=Below.grown h k h.size (fun _ e=>by cases e)
theorem set_mid (zs:List Int) (m:Nat) (z:Int):(zs++List.replicate (m+1) 0).set zs.length z=(zs++[z])++List.replicate m 0:=by
 rw[List.set_append_right _ _ (Nat.le_refl _),Nat.sub_self,List.replicate_succ,List.set_cons_zero,List.append_assoc];rfl
theorem getD_mid (zs:List Int) (m:Nat):(zs++List.replicate m 0).getD zs.length 0=0:=by
 rw[List.getD_eq_getElem?_getD,List.getElem?_append_right (Nat.le_refl _),Nat.sub_self]
 cases m<;>simp[List.replicate_succ]
theorem val_take_succ {xs:List Int} {k:Nat} (h:k<xs.length):val (xs.take (k+1))=val (xs.take k)+BB^k*xs.getD k 0:=by
 rw[take_succ_getD h,val_append,List.length_take,Nat.min_eq_left (by omega)];simp[val]
theorem val_take_succ' (xs:List Int) (k:Nat):val (xs.take (k+1))=val (xs.take k)+BB^k*xs.getD k 0:=by
 rcases Nat.lt_or_ge k xs.length with h|h
 ·exact val_take_succ h
 ·rw[List.take_of_length_le (by omega),List.take_of_length_le h,List.getD_eq_getElem?_getD,List.getElem?_eq_none h];simp
theorem R32.step {w:World} {base g n k:Nat} {zs:List Int} (h:R32 w base g n (zs++List.replicate (n-k) 0)) (hl:zs.length=k) (hk:k<n) (z:Int):
    R32 (w.setCell ⟨g,k,none⟩ (.int .u32 z)) base g n ((zs++[z])++List.replicate (n-(k+1)) 0):=by
 have:=h.set k z
 subst hl
 rw[show n-zs.length=(n-(zs.length+1))+1 from by omega,set_mid]at this
 exact this
theorem R32.zero {w:World} {base g n k:Nat} {zs:List Int} (h:R32 w base g n (zs++List.replicate (n-k) 0)) (hl:zs.length=k) (hk:k<n):w.cell? ⟨g,k,none⟩=some (.int .u32 0):=by
 have:=h.cell hk
 rw[←hl,getD_mid,hl]at this
 exact this
theorem lim_mod (s:Int):s%BB+BB*(s/BB)=s:=Int.emod_add_mul_ediv s BB
theorem U32.mod (s:Int):U32 (s%4294967296):=⟨Int.emod_nonneg _ (by decide),Int.emod_lt_of_pos _ (by decide)⟩
theorem Lb.snoc {zs:List Int} {z:Int} (h:Lb zs) (k:U32 z):Lb (zs++[z]):=h.append (Lb.cons k Lb.nil)
theorem plus_step {X Y zs:List Int} {k:Nat} {z x y:Int} (hv:val zs+BB^k*z=val (X.take k)+val (Y.take k)) (hl:zs.length=k) (hx:X.getD k 0=x) (hy:Y.getD k 0=y):
    val (zs++[(x+y+z)%4294967296])+BB^(k+1)*((x+y+z)/4294967296)=val (X.take (k+1))+val (Y.take (k+1)):=by
 rw[val_append,hl,val_take_succ',val_take_succ',hx,hy,Int.pow_succ]
 simp only[val]
 have e:=lim_mod (x+y+z)
 change (x+y+z)%4294967296+4294967296*((x+y+z)/4294967296)=x+y+z at e
 generalize(x+y+z)%4294967296=r at*
 generalize(x+y+z)/4294967296=q at*
 have e2:BB^k*(r+4294967296*q)=BB^k*(x+y+z):=by rw[e]
 unfold BB at*
 grind
theorem prod_bound {x y:Int} (hx:U32 x) (hy:U32 y):0≤x*y∧x*y≤18446744065119617025:=by
 unfold U32 at hx hy
 refine⟨Int.mul_nonneg hx.1 hy.1, ?_⟩
 have h1:x*y≤4294967295*y:=Int.mul_le_mul_of_nonneg_right (by omega) hy.1
 omega
theorem inner_step {us Y ps:List Int} {i k:Nat} {c x y o:Int} (hv:val ps+BB^(i+k)*c=val (us.take (i+k))+BB^i*(x*val (Y.take k))) (hl:ps.length=i+k) (hy:Y.getD k 0=y) (ho:us.getD (i+k) 0=o):
    val (ps++[(c+(x*y+o))%4294967296])+BB^(i+(k+1))*((c+(x*y+o))/4294967296)=val (us.take (i+(k+1)))+BB^i*(x*val (Y.take (k+1))):=by
 rw[val_append,hl, ←Nat.add_assoc,val_take_succ',val_take_succ',hy,ho]
 simp only[val]
 have e:=lim_mod (c+(x*y+o))
 change (c+(x*y+o))%4294967296+4294967296*((c+(x*y+o))/4294967296)=c+(x*y+o)at e
 generalize(c+(x*y+o))%4294967296=r at*
 generalize(c+(x*y+o))/4294967296=q at*
 have e2:BB^(i+k)*(r+4294967296*q)=BB^(i+k)*(c+(x*y+o)):=by rw[e]
 have e3:BB^(i+k+1)=BB^(i+k)*BB:=Int.pow_succ _ _
 have e4:BB^(i+k)=BB^i*BB^k:=Int.pow_add ..
 rw[e3]
 unfold BB at*
 grind
theorem outer_step {X Y us ps:List Int} {i:Nat} {c x:Int} (hv:val ps+BB^(i+Y.length)*c=val (us.take (i+Y.length))+BB^i*(x*val (Y.take Y.length))) (hl:ps.length=i+Y.length) (hu:us.length=i+Y.length) (hus:val us=val (X.take i)*val Y) (hx:X.getD i 0=x):
    val (ps++[c])=val (X.take (i+1))*val Y:=by
 rw[val_append,hl,val_take_succ',hx]
 rw[←hu,List.take_length,List.take_length,hus,hu]at hv
 simp only[val]
 grind
theorem row_get {ps us:List Int} {j m:Nat} (hl:ps.length=j):(ps++(us.drop j++List.replicate m 0)).getD j 0=us.getD j 0:=by
 rw[List.getD_eq_getElem?_getD,List.getElem?_append_right (by omega),hl,Nat.sub_self,List.getD_eq_getElem?_getD]
 rcases Nat.lt_or_ge j us.length with h|h
 ·rw[List.getElem?_append_left (by rw[List.length_drop];omega),List.getElem?_drop,Nat.add_zero]
 ·rw[List.drop_eq_nil_of_le h,List.nil_append,List.getElem?_eq_none h]
  cases m<;>simp[List.replicate_succ]
theorem row_set {ps us:List Int} {j m:Nat} {z:Int} (hl:ps.length=j) (hj:j<us.length):(ps++(us.drop j++List.replicate m 0)).set j z=(ps++[z])++(us.drop (j+1)++List.replicate m 0):=by
 rw[List.set_append_right _ _ (by omega),hl,Nat.sub_self,List.drop_eq_getElem_cons hj,List.cons_append,List.set_cons_zero,List.append_assoc];rfl
end Go.Proofs.YtaoioncjmfcolaaGreat
namespace Go.Proofs.YtaoioncjmfcolaaGreat
open Go.RowKit Go.Shelf
attribute [local go_sem] Oper.semAt_some
def upto {α:Type} (f:Nat→α) (k:Nat):List α:=(List.range k).map f
theorem upto_succ {α:Type} (f:Nat→α) (k:Nat):upto f (k+1)=upto f k++[f k]:=by simp[upto,List.range_succ]
theorem upto_length {α:Type} (f:Nat→α) (k:Nat):(upto f k).length=k:=by simp[upto]
abbrev DN (N:Nat):={j:Nat//0<N→j<N}
def dn (N j:Nat):DN N:=⟨N-1-j,fun h=>by omega⟩
def K2 (n₁ Bs:Nat) (A B:World):Prop:=Below n₁ A B∧B.cell? ⟨Bs,0,none⟩=A.cell? ⟨Bs,0,none⟩
theorem K2.refl (n₁ Bs:Nat) (A:World):K2 n₁ Bs A A:=⟨Below.refl _ _,rfl⟩
theorem K2.trans {n₁ Bs:Nat} {A B C:World} (h:K2 n₁ Bs A B) (k:K2 n₁ Bs B C):K2 n₁ Bs A C:=⟨h.1.trans k.1,k.2.trans h.2⟩
theorem k2_b {n₁ Bs:Nat} {w:World} (hn:n₁≤w.heap.size) (hB:Bs<w.heap.size) (W:World) (l:Nat) (o o':Obj) (hl:w.heap.size≤l) (h:W.heap[l]? =some o) (h1:o.isCells=false) (h2:o.isWalk=false):K2 n₁ Bs W (W.putObj l o'):=by
 have:=belowK_b (w:=w) (Nat.le_refl _) W l o o' hl h h1 h2
 exact⟨this.mono hn,this.cell (p:=⟨Bs,0,none⟩) hB⟩
theorem Below.k2 {n n₁ Bs:Nat} {A B:World} (h:Below n A B) (h1:n₁≤n) (h2:Bs<n):K2 n₁ Bs A B:=⟨h.mono h1,h.cell (p:=⟨Bs,0,none⟩) h2⟩
theorem down1_in (F:Fence) (n:Nat) (h7:F.fn 168) (hro:F.round=none) (hn:1≤n) (l Bs n₀ b off cap:Nat) (xs:List Int) (hreach:xs.length≤1099511627776) (hb:b<n₀) (J Jx:List (DN xs.length)→World→Prop)
    (hY:∀pre x W,J pre W→pre.length<xs.length→YieldAt F (n-1) Tryz.prog l #[O (x.1:Int),.int .u32 (xs.getD x.1 0)] W fun e W'=>
      (e=.returned (.bool true)∧J (pre++[x]) W'∧K2 n₀ Bs W W')∨(e=.returned (.bool false)∧Jx (pre++[x]) W'))
    (W:World) (hBs:W.cell? ⟨Bs,0,none⟩=some (.slice (some ⟨b,off,none⟩) xs.length cap)) (hc:∀j,j<xs.length→W.cell? ⟨b,off+j,none⟩=some (.int .u32 (xs.getD j 0))) (h0:J [] W):
    CallsIn F n Tryz.prog 168 #[.func (.yield l) #[] #[],.pointer (some ⟨Bs,0,none⟩)] W fun e W'=>(∃v,e=.returned v)∧
      ((∃ys,ys=upto (dn xs.length) xs.length∧J ys W')∨(∃pre,(∃k,k≤xs.length∧pre=upto (dn xs.length) k)∧Jx pre W')):=by
 refine callsIn_of_wp Tryz.func168 rfl h7 ?_ hro
 simp only[Tryz.ntmps168,List.size_toArray,List.length_cons,List.length_nil,Nat.reduceAdd,Nat.reduceSub,Array.replicate_succ,Array.replicate_zero,List.push_toArray,List.append_toArray,List.nil_append,List.cons_append]
 gi_wp2
 gi_loopw [3] (fun i wr=>∃m:Nat,m≤xs.length∧i=O ((m:Int)-1)∧J (upto (dn xs.length) (xs.length-m)) wr∧K2 n₀ Bs W wr)
  (fun i _=>(intOf i+1).toNat)
 case atStart=>exact⟨xs.length,Nat.le_refl _,rfl,by rw[Nat.sub_self];exact h0,K2.refl _ _ _⟩
 case round=>
  obtain⟨m,hm,hi,hJs,hnx⟩:=hrel
  cases m with
  |zero=>
   have hi2:_=Value.int .i64 (-1):=hi
   clear hi
   subst hi2
   gi_wp2
   go_end0
   exact⟨⟨_,rfl⟩,.inl ⟨_,rfl,hJs⟩⟩
  |succ m=>
   have hi2:_=Value.int .i64 (m:Int):=hi.trans (by congr 1;omega)
   clear hi
   subst hi2
   have hbx:wr.cell? ⟨Bs,0,none⟩=some (.slice (some ⟨b,off,none⟩) xs.length cap):=hnx.2.trans hBs
   have hcx:wr.cell? ⟨b,off+m,none⟩=some (.int .u32 (xs.getD m 0)):=(hnx.1.cell (p:=⟨b,off+m,none⟩) hb).trans (hc m (by omega))
   have hdn:dn xs.length (xs.length-(m+1))=⟨m,fun _=>hm⟩:=Subtype.ext (by show xs.length-1-(xs.length-(m+1))=m;omega)
   have hup:upto (dn xs.length) (xs.length-m)=upto (dn xs.length) (xs.length-(m+1))++[⟨m,fun _=>hm⟩]:=by rw[←hdn, ←upto_succ,show xs.length-(m+1)+1=xs.length-m from by omega]
   obtain⟨fn,tmps,assign,body,hy,hR⟩:=hY _ ⟨m,fun _=>hm⟩ wr hJs (by rw[upto_length];omega)
   dsimp only at hy
   obtain⟨z,hz⟩:∃z,xs.getD m 0=z:=⟨_,rfl⟩
   rw[hz]at hcx hy
   clear hdn hz hc
   gi_wp2
   refine hR.mono ?_
   rintro e W3 (⟨rfl,hJ3,hk3⟩| ⟨rfl,hJx3⟩)
   ·gi_wp2
    go_roundw
    case rel=>exact⟨m,by omega,rfl,by rw[hup];exact hJ3,hnx.trans hk3⟩
    case measure=>first| (simp[intOf];done)| (simp[intOf];omega)
   ·gi_wp2
    refine bodyPost_ret (results_none rfl _ _ _) rfl ?_
    exact⟨⟨_,rfl⟩,.inr ⟨_,⟨xs.length-m,by omega,hup.symm⟩,hJx3⟩⟩
theorem down1_nil_in (F:Fence) (n:Nat) (h7:F.fn 168) (hro:F.round=none) (l Bs:Nat) (J:List (DN 0)→World→Prop) (W:World) (hBs:W.cell? ⟨Bs,0,none⟩=some (.slice none 0 0)) (h0:J [] W):
    CallsIn F n Tryz.prog 168 #[.func (.yield l) #[] #[],.pointer (some ⟨Bs,0,none⟩)] W fun e W'=>(∃v,e=.returned v)∧J [] W':=by
 refine callsIn_of_wp Tryz.func168 rfl h7 ?_ hro
 simp only[Tryz.ntmps168,List.size_toArray,List.length_cons,List.length_nil,Nat.reduceAdd,Nat.reduceSub,Array.replicate_succ,Array.replicate_zero,List.push_toArray,List.append_toArray,List.nil_append,List.cons_append]
 gi_wp2
 gi_loopw [3] (fun i wr=>i=O (-1)∧J [] wr) (fun _ _=>0)
 case atStart=>exact⟨rfl,h0⟩
 case round=>
  obtain⟨rfl,hJs⟩:=hrel
  gi_wp2
  go_end0
  exact⟨⟨_,rfl⟩,hJs⟩
theorem down_in (F:Fence) (n:Nat) (h5:F.fn 143) (hro:F.round=none) (a:Option Addr) (len cap:Nat) (w:World):
    CallsIn F n Tryz.prog 143 #[.slice a len cap] w fun e w'=>e=.returned (.func (.func 168) #[] #[.pointer (some ⟨w.heap.size,0,none⟩)])∧w'=w.alloc (.cells #[.slice a len cap] 22):=by
 refine callsIn_of_wp Tryz.func143 rfl h5 ?_ hro
 simp only[Tryz.ntmps143,List.size_toArray,List.length_cons,List.length_nil,Nat.reduceAdd,Nat.reduceSub,Array.replicate_succ,Array.replicate_zero,List.push_toArray,List.append_toArray,List.nil_append,List.cons_append]
 gi_wp2
 go_ret
 exact⟨rfl,rfl⟩
theorem down_stops (F:Fence) (n:Nat) (h8:F.fn 168) (hro:F.round=none) (hn:1≤n) (Bs n₁:Nat) (w0 w:World) (v:Value) (xs:List Int) (h:Lim w0 v xs) (hw0:w0.heap.size=n₁) (k:Ext w0 w) (hBs:Bs<w.heap.size)
    (hc:w.cell? ⟨Bs,0,none⟩=some v):
    SeqStopsK F n Tryz.prog 168 #[.pointer (some ⟨Bs,0,none⟩)] (fun x:DN xs.length=>#[Value.int .i64 (x.1:Int),Value.int .u32 (xs.getD x.1 0)]) (K2 n₁ Bs) (fun ys=>ys=upto (dn xs.length) xs.length)
      (fun pre=>∃k,k≤xs.length∧pre=upto (dn xs.length) k) xs.length w:=fun l J Jx W hW _ _ hY h0=>by
  have hc':=(hW.cell (p:=⟨Bs,0,none⟩) hBs).trans hc
  have hWk:Ext w0 W:=k.trans hW
  rcases h.2 with⟨rfl,rfl⟩| ⟨b,o,cap,rfl,h1,h2,h3,h4⟩
  · exact(down1_nil_in F n h8 hro l Bs J W hc' h0).mono fun e W' ⟨he,hj⟩=>⟨he,.inl ⟨_,rfl,hj⟩⟩
  · exact down1_in F n h8 hro hn l Bs n₁ b o cap xs (by omega) (by omega) J Jx hY W hc' (fun j hj=>(hWk.cells.1 b (o+j) h3).trans (h4 j hj)) h0
end Go.Proofs.YtaoioncjmfcolaaGreat
namespace Go.Proofs.YtaoioncjmfcolaaGreat
open Go.RowKit
theorem cell_new_l (W:World) (v:Value) (t:TypeId):(W.alloc (.cells #[v] t)).cell? ⟨W.heap.size,0,none⟩=some v∧(W.alloc (.cells #[v] t)).frozen? ⟨W.heap.size,0,none⟩=false:=
 ⟨by rw[cell_al,if_pos rfl];rfl,by rw[frozen_al,if_pos rfl]⟩
theorem cell_alloc_l {W:World} {a:Addr} {v:Value} (o:Obj) (h:W.cell? a=some v):(W.alloc o).cell? a=some v:=cell_kept h (World.grownBy_alloc W o none) (fun r e=>by cases e)
theorem frozen_alloc_l {W:World} {a:Addr} {v:Value} (o:Obj) (h:W.cell? a=some v) (hf:W.frozen? a=false):(W.alloc o).frozen? a=false:=(frozen_kept h (World.grownBy_alloc W o none) (fun r e=>by cases e)).trans hf
def cmpI (a b:Int):Int:=if a<b then -1 else if b<a then 1 else 0
theorem cmp_lt {a b:Int} (h:a<b):cmpI a b= -1:=if_pos h
theorem cmp_gt {a b:Int} (h:b<a):cmpI a b=1:=by unfold cmpI;rw[if_neg (by omega),if_pos h]
theorem cmp_eq {a b:Int} (h:a=b):cmpI a b=0:=by unfold cmpI;rw[if_neg (by omega),if_neg (by omega)]
theorem ext_getD {X Y:List Int} (hl:X.length=Y.length) (h:∀j,j<X.length→X.getD j 0=Y.getD j 0):X=Y:=by
 apply List.ext_getElem hl
 intro i h1 h2
 have:=h i h1
 simpa [List.getD_eq_getElem?_getD,List.getElem?_eq_getElem h1,List.getElem?_eq_getElem h2]using this
theorem val_split {X:List Int} {j:Nat} (h:j<X.length):val X=val (X.take j)+BB^j*(X.getD j 0+BB*val (X.drop (j+1))):=by
 have e:X=X.take j++(X.getD j 0::X.drop (j+1)):=by
  have:=List.drop_eq_getElem_cons h
  rw[List.getD_eq_getElem?_getD,List.getElem?_eq_getElem h]
  simp only[Option.getD_some]
  rw[←this,List.take_append_drop]
 conv=>lhs;rw[e]
 rw[val_append,List.length_take,Nat.min_eq_left (by omega)]
 simp only[val]
theorem top_lt {X Y:List Int} {j:Nat} (hl:X.length=Y.length) (hj:j<X.length) (hX:Lb X) (hY:Lb Y) (h:X.getD j 0<Y.getD j 0) (he:∀m,j<m→m<X.length→X.getD m 0=Y.getD m 0):val X<val Y:=by
 have ed:X.drop (j+1)=Y.drop (j+1):=by
  apply ext_getD
  ·rw[List.length_drop,List.length_drop,hl]
  ·intro i hi
   rw[List.length_drop]at hi
   have:=he (j+1+i) (by omega) (by omega)
   simpa [List.getD_eq_getElem?_getD,List.getElem?_drop]using this
 rw[val_split hj,val_split (show j<Y.length by omega),ed]
 have h1:=val_lt (hX.take j)
 have h2:=val_nonneg (hY.take j)
 rw[List.length_take,Nat.min_eq_left (by omega)]at h1
 generalize val (Y.drop (j+1))=R
 have h3:BB^j*(X.getD j 0+1+BB*R)≤BB^j*(Y.getD j 0+BB*R):=Int.mul_le_mul_of_nonneg_left (by omega) (Int.pow_nonneg (by decide))
 have h4:BB^j*(X.getD j 0+1+BB*R)=BB^j+BB^j*(X.getD j 0+BB*R):=by grind
 omega
theorem mem_upto {N k j:Nat} (hj:j<N) (hk:N-1-j<k):∃y∈upto (dn N) k,y.1=j:=
 ⟨dn N (N-1-j),List.mem_map.2 ⟨N-1-j,List.mem_range.2 hk,rfl⟩,by show N-1-(N-1-j)=j;omega⟩
theorem upto_split {N k:Nat} {q:List (DN N)} {x:DN N} (h:q++[x]=upto (dn N) k):k=q.length+1∧q=upto (dn N) q.length∧x=dn N q.length:=by
 have hk:k=q.length+1:=by have:=congrArg List.length h;rw[upto_length]at this;simpa using this.symm
 subst hk
 rw[upto_succ]at h
 obtain⟨h1,h2⟩:=List.append_inj' h rfl
 exact⟨rfl,h1,by simpa using h2⟩
theorem all_eq {X Y:List Int} (hl:X.length=Y.length) {ys:List (DN X.length)} (hy:ys=upto (dn X.length) X.length) (h:∀y∈ys,X.getD y.1 0=Y.getD y.1 0):X=Y:=
 ext_getD hl fun j hj=>by
  obtain⟨y,hm,e⟩:=mem_upto (N:=X.length) (k:=X.length) hj (by omega)
  subst hy
  rw[←e];exact h y hm
theorem stop_lt {X Y:List Int} (hl:X.length=Y.length) (hX:Lb X) (hY:Lb Y) {k:Nat} (hk:k≤X.length) {q:List (DN X.length)} {x:DN X.length} (h:q++[x]=upto (dn X.length) k) (he:∀y∈q,X.getD y.1 0=Y.getD y.1 0):
    (X.getD x.1 0<Y.getD x.1 0→val X<val Y)∧(Y.getD x.1 0<X.getD x.1 0→val Y<val X):=by
 obtain⟨rfl,hq,rfl⟩:=upto_split h
 have hall:∀m,X.length-1-q.length<m→m<X.length→X.getD m 0=Y.getD m 0:=fun m h1 h2=>by
  obtain⟨y,hm,e⟩:=mem_upto (N:=X.length) (k:=q.length) h2 (by omega)
  rw[←hq]at hm
  rw[←e];exact he y hm
 refine⟨fun hx=>top_lt hl (show X.length-1-q.length<X.length by omega) hX hY hx hall,fun hx=>top_lt hl.symm (show X.length-1-q.length<Y.length by omega) hY hX hx (fun m h1 h2=>(hall m h1 (by omega)).symm)⟩
end Go.Proofs.YtaoioncjmfcolaaGreat
namespace Go.Proofs.YtaoioncjmfcolaaGreat
open Go.RowKit Go.Shelf
attribute [local go_sem] Oper.semAt_some
def CI (s:Nat) (vb:Value) (X Y:List Int) (pre:List (DN X.length)) (W:World):Prop:=
 (∀y∈pre,X.getD y.1 0=Y.getD y.1 0)∧W.cell? ⟨s,0,none⟩=some vb∧W.cell? ⟨s+1,0,none⟩=some (O 0)∧W.frozen? ⟨s+1,0,none⟩=false
def CX (s:Nat) (X Y:List Int) (c:Code) (pre:List (DN X.length)) (W:World):Prop:=
 c=.ret∧∃q x,pre=q++[x]∧(∀y∈q,X.getD y.1 0=Y.getD y.1 0)∧((X.getD x.1 0<Y.getD x.1 0∧W.cell? ⟨s+1,0,none⟩=some (O (-1)))∨(Y.getD x.1 0<X.getD x.1 0∧W.cell? ⟨s+1,0,none⟩=some (O 1)))
theorem compare_in (F:Fence) (n:Nat) (hC:F.fn 86) (hD:F.fn 143) (hK:F.fn 168) (hro:F.round=none) (hn:4≤n) (va vb:Value) (X Y:List Int) (w:World) (ha:Lim w va X) (hb:Lim w vb Y) (hl:X.length=Y.length):
    CallsIn F n Tryz.prog 86 #[va,vb] w fun e w'=>e=.returned (O (cmpI (val X) (val Y)))∧Ext w w':=by
  obtain⟨aoA,bA,oA,cA,rfl,a1,a2,a3,a4,a5,a6⟩:=ha.view
  obtain⟨aoB,bB,oB,cB,rfl,b1,b2,b3,b4,b5,b6⟩:=hb.view
  have h1:1≤n:=by omega
  have lX:=ha.lb
  have lY:=hb.lb
  have HL:Hid (X.length=Y.length):=hl
  rw[hl]at ha
  refine callsIn_of_wp_marks Tryz.func86 rfl hC ?_ hro
  simp only[Tryz.ntmps86,List.size_toArray,List.length_cons,List.length_nil,Nat.reduceAdd,Nat.reduceSub,Array.replicate_succ,Array.replicate_zero,List.push_toArray,List.append_toArray,List.nil_append,List.cons_append]
  gi_wp2_with (gi_at_call 143;refine(down_in F (n-1) hD hro _ _ _ _).mono ?_;rintro e w' ⟨rfl,rfl⟩)
  have c0:=cell_new_l w (.slice aoB Y.length cB) 22
  have c1:=cell_new_l (w.alloc (.cells #[.slice aoB Y.length cB] 22)) (O 0) 3
  have c2:=cell_new_l ((w.alloc (.cells #[.slice aoB Y.length cB] 22)).alloc (.cells #[O 0] 3)) (.slice aoA Y.length cA) 22
  simp only[World.size_alloc]at c1 c2
  have hB0:Below w.heap.size w (((w.alloc (.cells #[.slice aoB Y.length cB] 22)).alloc (.cells #[O 0] 3)).alloc (.cells #[.slice aoA Y.length cA] 22)):=(((Below.refl _ w).alloc (Nat.le_refl _) _).alloc (by simp) _).alloc c_26 _
  refine wpIn_rangeFunc_ownF hro h1 (gf:=168) (lb:=#[.pointer (some ⟨w.heap.size+1+1,0,none⟩)]) rfl hK (enters_of Tryz.func168 c_3 rfl)
    (down_stops F (n-1) hK hro (by omega) (w.heap.size+1+1) w.heap.size w _ _ X ha rfl hB0 (by simp) c2.1) K2.trans (k2_b c_26 (by simp)) (Below.refl _ _) (fun _=>rfl)
    (fun pre W=>CI w.heap.size (.slice aoB Y.length cB) X Y pre W∧Below w.heap.size w W) (fun c pre W=>CX w.heap.size X Y c pre W∧Below w.heap.size w W)
    (OwnFrom.and (Own.from (fun s A B row hs hg hr=>⟨hs.1,cell_kept hs.2.1 hg hr,cell_kept hs.2.2.1 hg hr,(frozen_kept hs.2.2.1 hg hr).trans hs.2.2.2⟩) _) (ownFrom_below (Nat.le_refl _) c_26))
    (fun c=>OwnFrom.and (Own.from (fun s A B row hs hg hr=>⟨hs.1,by
        obtain⟨q,x,e,he,h|h⟩:=hs.2
        · exact⟨q,x,e,he,.inl ⟨h.1,cell_kept h.2 hg hr⟩⟩
        · exact⟨q,x,e,he,.inr ⟨h.1,cell_kept h.2 hg hr⟩⟩⟩) _) (ownFrom_below (Nat.le_refl _) c_26))
    ⟨⟨by simp,cell_alloc_l _ (cell_alloc_l _ c0.1),cell_alloc_l _ c1.1,frozen_alloc_l _ c1.1 c1.2⟩,hB0⟩
    (fun x=>{tmps:=#[.slice aoA Y.length cA,.slice aoB Y.length cB,undef,.pointer (some ⟨w.heap.size,0,none⟩),.pointer (some ⟨w.heap.size+1,0,none⟩),O (x.1:Int),.int .u32 (X.getD x.1 0),.slice aoA Y.length cA,O Y.length,.slice aoB Y.length cB,O Y.length,.bool false,undef,undef,undef,undef,undef,.slice aoA Y.length cA,.func (.func 168) #[] #[.pointer (some ⟨w.heap.size+1+1,0,none⟩)],O (x.1:Int),.int .u32 (X.getD x.1 0),undef,undef,undef,undef,undef,undef,undef,undef,undef,undef,undef,undef],defers:=[]}) ?assign ?body ?done ?stop
  case assign=>
    intro l x W K hK
    gi_wp2
    exact hK
  case body=>
    rintro l pre x W ⟨⟨hp,hcb,hcr,hfr⟩,hB⟩ hlen
    obtain⟨j,hj⟩:=x
    have hjl:j<X.length:=hj (by omega)
    have hjy:j<Y.length:=by have:=HL.out;omega
    have eB:=b1 (by omega)
    subst eB
    have hcy:=(hB.cell (p:=⟨bB,oB+j,none⟩) (b4 (by omega))).trans (b5 j hjy)
    have hex:(fun j=>X.getD j 0) j=X.getD j 0:=rfl
    obtain⟨z,ez⟩:∃z,X.getD j 0=z:=⟨_,rfl⟩
    obtain⟨y,ey⟩:∃y,Y.getD j 0=y:=⟨_,rfl⟩
    dsimp only
    rw[ez]
    rw[ey]at hcy
    clear hl hex b5 a5
    gi_wp2
    · rename_i hz
      exact⟨KeepsOthers.setCell _ _ _,⟨rfl,pre,⟨j,hj⟩,rfl,hp,.inl ⟨by dsimp only;rw[ez,ey];exact hz,World.cell?_setCell_same' _ _ _ (by rw[hcr];rfl)⟩⟩,hB.setCell (p:=⟨w.heap.size+1,0,none⟩) (by simp) _⟩
    · rename_i hz1 hz
      exact⟨KeepsOthers.setCell _ _ _,⟨rfl,pre,⟨j,hj⟩,rfl,hp,.inr ⟨by dsimp only;rw[ez,ey];exact hz,World.cell?_setCell_same' _ _ _ (by rw[hcr];rfl)⟩⟩,hB.setCell (p:=⟨w.heap.size+1,0,none⟩) (by simp) _⟩
    · rename_i hz1 hz
      exact⟨KeepsOthers.refl _,K2.refl _ _ _,⟨fun u hu=>(List.mem_append.1 hu).elim (hp u) (fun e=>by have e2:=List.mem_singleton.1 e;subst e2;dsimp only;rw[ez,ey];omega),hcb,hcr,hfr⟩,hB⟩
  case done=>
    rintro D ys W hD hys ⟨⟨hne,_,hcr,hfr⟩,hB⟩ hK2
    have hv:cmpI (val X) (val Y)=0:=cmp_eq (by rw[all_eq HL.out hys hne])
    clear hl
    gi_wp2
    have hK':=(KeepsOthers.setCell W ⟨w.heap.size+1,0,none⟩ (O 0)).same D _ hK2 rfl
    refine⟨by simp,.inl ⟨_,_,rfl,run_takeDeferred hK', ?_⟩⟩
    have hc5:=cell_kept (World.cell?_setCell_same' W ⟨w.heap.size+1,0,none⟩ (O 0) (by rw[hcr];rfl)) (grownBy_putObj' _ D (.deferred none)) (fun r e=>by cases e;exact⟨_,hK',rfl⟩)
    refine⟨O 0, ?_,by rw[hv],(hB.setCell (p:=⟨w.heap.size+1,0,none⟩) (by simp) _).trans (belowK_b (w:=w) (Nat.le_refl _) _ D _ _ (by simp at hD;omega) hK' rfl rfl)⟩
    simp[results,Tryz.f86,go_sem,hc5]
  case stop=>
    rintro D c pre W hD ⟨k,hk,hpre⟩ ⟨⟨rfl,q,x,rfl,he,h|h⟩,hB⟩ hK2
    · have hv:cmpI (val X) (val Y)= -1:=cmp_lt ((stop_lt HL.out lX lY hk hpre he).1 h.1)
      have hcr:=h.2
      clear hl
      gi_wp2
      refine⟨by simp,.inl ⟨_,_,rfl,run_takeDeferred hK2, ?_⟩⟩
      have hc5:=cell_kept hcr (grownBy_putObj' _ D (.deferred none)) (fun r e=>by cases e;exact⟨_,hK2,rfl⟩)
      refine⟨O (-1), ?_,by rw[hv],hB.trans (belowK_b (w:=w) (Nat.le_refl _) W D _ _ (by simp at hD;omega) hK2 rfl rfl)⟩
      simp[results,Tryz.f86,go_sem,hc5]
    · have hv:cmpI (val X) (val Y)=1:=cmp_gt ((stop_lt HL.out lX lY hk hpre he).2 h.1)
      have hcr:=h.2
      clear hl
      gi_wp2
      refine⟨by simp,.inl ⟨_,_,rfl,run_takeDeferred hK2, ?_⟩⟩
      have hc5:=cell_kept hcr (grownBy_putObj' _ D (.deferred none)) (fun r e=>by cases e;exact⟨_,hK2,rfl⟩)
      refine⟨O 1, ?_,by rw[hv],hB.trans (belowK_b (w:=w) (Nat.le_refl _) W D _ _ (by simp at hD;omega) hK2 rfl rfl)⟩
      simp[results,Tryz.f86,go_sem,hc5]
end Go.Proofs.YtaoioncjmfcolaaGreat
namespace Go.Proofs.YtaoioncjmfcolaaGreat
open Go.RowKit
theorem w_compare (va vb:Value) (X Y:List Int) (w:World) (ha:Lim w va X) (hb:Lim w vb Y) (hX:Nz X) (hY:Nz Y):
    K_ 86 #[va,vb] w fun e w'=>e=.returned (O (cmpI (val X) (val Y)))∧Ext w w':=by
 by_cases hl:X.length=Y.length
 ·exact(callsIn_wide (n:=6)).1 (compare_in Fence.wide 6 trivial trivial trivial rfl (by omega) va vb X Y w ha hb hl)
 have lX:=ha.lb
 have lY:=hb.lb
 obtain⟨aoA,bA,oA,cA,rfl,a1,a2,a3,a4,a5,a6⟩:=ha.view
 obtain⟨aoB,bB,oB,cB,rfl,b1,b2,b3,b4,b5,b6⟩:=hb.view
 rcases Nat.lt_or_ge X.length Y.length with h|h
 ·have hv:cmpI (val X) (val Y)= -1:=cmp_lt (val_lt_of_len lX lY hY h)
  go_enter Tryz.func86,Tryz.ntmps86
  go_wp2_with fail
  refine bodyPost_ret (v:=O (-1)) ?_ rfl ⟨by rw[hv], ?_⟩
  ·simp[results,Tryz.results86,go_sem, ↓IntWalk.iteOmega]
  ·exact b_1
 ·have hv:cmpI (val X) (val Y)=1:=cmp_gt (val_lt_of_len lY lX hX (by omega))
  go_enter Tryz.func86,Tryz.ntmps86
  go_wp2_with fail
  refine bodyPost_ret (v:=O 1) ?_ rfl ⟨by rw[hv], ?_⟩
  ·simp[results,Tryz.results86,go_sem, ↓IntWalk.iteOmega]
  ·exact b_1
theorem w_Clone (va:Value) (X:List Int) (w:World) (ha:Lim w va X) (hx:X.length≤100000):
    K_ 130 #[va] w fun e w'=>∃u,e=.returned u∧Lim w' u X∧Ext w w':=by
 have lX:=ha.lb
 rcases ha.2 with⟨rfl,rfl⟩| ⟨b,o,cap,rfl,h1,h2,h3,h4⟩
 ·have hq:∀w,(binOp .eql 22 (.slice none 0 0) (.slice none 0 0)).run Tryz.prog w=.ok (.bool true) w:=fun _=>rfl
  go_enter Tryz.func130,Tryz.ntmps130
  go_wp2
  go_ret
  exact⟨_,rfl,Lim.nil w,Ext.refl w⟩
 ·obtain⟨i0,hi,hz0,hz1,hz2⟩:=info_parts info81
  go_enter Tryz.func130,Tryz.ntmps130
  have hq:∀w,(binOp .eql 22 (.slice (some ⟨b,o,none⟩) X.length cap) (.slice none 0 0)).run Tryz.prog w=.ok (.bool false) w:=fun _=>rfl
  have hown:(w.alloc (.cells #[] 54)).ownsRow w.heap.size 54 1 (.slice (some ⟨w.heap.size,0,none⟩) 0 0) 0 []:=World.ownsRow_lit w #[] 0 (Nat.le_refl _) (by decide) rfl
  have hnews:∀j u,(X.map (Value.int .u32))[j]? =some u→(w.alloc (.cells #[] 54)).cell? ((⟨b,o,none⟩:Addr).add j)=some u:=fun j u hu=>by
   rw[List.getElem?_map]at hu
   cases hj:X[j]? with
   |none=>rw[hj]at hu;cases hu
   |some x=>
    rw[hj]at hu
    have hjl:j<X.length:=(List.getElem?_eq_some_iff.1 hj).1
    have:=h4 j hjl
    rw[List.getD_eq_getElem?_getD,hj]at this
    rw[show(⟨b,o,none⟩:Addr).add j=⟨b,o+j,none⟩from by simp[Addr.add],cell_al,if_neg (by omega),this]
    simpa using hu
  go_wp2_with (at_builtin;refine wpList_append_own _ rfl _ _ 22 rfl w.heap.size 54 i0 (.int .u32 0) 1 4 Tryz.underlying22 hi hz0 hz1 hz2 rfl (by decide) _ _ _ rfl hown ⟨b,o,none⟩ X.length cap (X.map (Value.int .u32)) rfl (by simp) hnews (ints_oneCell .u32 X) c_31 (by omega) (by simp) ?_;intro v' w1 hown' hgrow hnil)
  have hE:Ext w w1:=Below.grown (row:=some w.heap.size) ((Ext.refl w).alloc _) hgrow (by simp) (fun k e=>by cases e;exact Nat.le_refl _)
  rw[Nat.zero_add,List.nil_append]at hown'
  have hL:=Lim.own' hown' lX (by omega)
  go_ret
  exact⟨_,rfl,hL,hE⟩
theorem T_WI_1 {p:Prop} (h:p:=by
 go_wp2_with fail
 go_roundw
 case rel=>exact⟨k+1,hkn,by go_num,(c_42:Ext _ _)⟩
 case measure=>simp[intOf];omega):p:=h
def NnAt (w:World) (b o:Nat) (m:Nat):Prop:=∃u,w.cell? ⟨b,o,none⟩=some (.bool false)∧w.cell? ⟨b,o+1,none⟩=some u∧Lim w u (dig m)
def Small (m:Nat):Prop:=(dig m).length≤4096
theorem last_ne {m:Nat} (h:0<(dig m).length):¬(dig m).getD ((dig m).length-1) 0=0:=by
 intro e
 refine dig_nz m ((dig m).getD ((dig m).length-1) 0) ?_ e
 rw[List.getLast?_eq_getElem?,List.getD_eq_getElem?_getD,List.getElem?_eq_getElem (by omega)];rfl
theorem w_checks (b n cap:Nat) (ms:Nat→Nat) (w:World) (hn:n≤1000) (hb:b<w.heap.size) (h:∀i,i<n→NnAt w b (i*2) (ms i)) (hs:∀i,i<n→Small (ms i)):
    K_ 77 #[.slice (some ⟨b,0,none⟩) n cap] w fun e w'=>e=.returned (O 0)∧Ext w w':=by
 go_enter Tryz.func77,Tryz.ntmps77
 go_wp2_with fail
 go_loopw [8] (fun i wr=>∃k:Nat,k≤n∧i=O k∧Hid (Ext w wr)) (fun i _=>n-(intOf i).toNat)
 case atStart=>exact⟨0,Nat.zero_le _,rfl,Ext.refl w⟩
 case round=>
  obtain⟨k,hk,rfl,HE⟩:=hrel
  by_cases hkn:k<n
  ·obtain⟨u,h1,h2,h3⟩:=h k hkn
   obtain⟨ao,b1,o1,cap1,rfl,v1,v2,v3,v4,v5,v6⟩:=h3.view
   have hsm:=hs k hkn
   unfold Small at hsm
   replace h1:=(HE.out.cells.1 b (k*2) hb).trans h1
   replace h2:=(HE.out.cells.1 b (k*2+1) hb).trans h2
   have hln:=last_ne (m:=ms k)
   have hwz:=HE.out.size
   generalize dig (ms k)=ds at*
   rcases Nat.eq_zero_or_pos ds.length with h0|h0
   ·rw[h0]at h2
    clear h hs
    exact T_WI_1
   ·have e:=v1 h0
    subst e
    have hlw:=v4 h0
    obtain⟨q,eq⟩:∃q,ds.length=q+1:=⟨ds.length-1,by omega⟩
    have hl:=v5 q (by omega)
    replace hln:=hln h0
    rw[eq,Nat.add_sub_cancel]at hln
    obtain⟨z,ez⟩:∃z,ds.getD q 0=z:=⟨_,rfl⟩
    rw[ez]at hl hln
    replace hl:=(HE.out.cells.1 b1 (o1+q) hlw).trans hl
    rw[eq]at h2 hsm
    have z1:(z==0)=false:=by simpa using hln
    have z2:decide ((4096:Int)<(q:Int)+1)=false:=decide_eq_false (by omega)
    have z3:((q:Int)+1==0)=false:=by simp;omega
    clear h hs v5 v6 v4 v1 h3 v2
    exact T_WI_1
  ·clear h hs
   go_wp2_with fail
   go_ret
   exact⟨rfl,HE.out⟩
def BX (w:World) (B:Nat) (L:List (Nat×Nat×Value)) (w0:World):Prop:=
 Ext w w0∧(∀p∈L,w0.cell? ⟨p.1,p.2.1,none⟩=some p.2.2)∧(∃a,w0.cell? ⟨B,0,none⟩=some a)∧(∃a,w0.cell? ⟨B,1,none⟩=some a)∧(∀o,w0.frozen? ⟨B,o,none⟩=false)∧NoU w0 B∧B<w0.heap.size
theorem BX.base {w w0:World} {B:Nat} {L:List (Nat×Nat×Value)} (h:BX w B L w0):Ext w w0:=h.1
theorem BX.box {w w0:World} {B:Nat} {L:List (Nat×Nat×Value)} (h:BX w B L w0):(∃a,w0.cell? ⟨B,0,none⟩=some a)∧(∃a,w0.cell? ⟨B,1,none⟩=some a)∧(∀o,w0.frozen? ⟨B,o,none⟩=false)∧NoU w0 B∧B<w0.heap.size:=h.2.2
theorem BX.get {w w0:World} {B:Nat} {L:List (Nat×Nat×Value)} (h:BX w B L w0) (i:Nat) {b o:Nat} {v:Value} (hi:L[i]? =some (b,o,v)):w0.cell? ⟨b,o,none⟩=some v:=h.2.1 (b,o,v) (List.mem_of_getElem? hi)
theorem BX.ext {w a w0:World} {B:Nat} {L:List (Nat×Nat×Value)} (h:BX w B L a) (k:Ext a w0):BX w B L w0:=by
 obtain⟨h1,h2,⟨a0,h3⟩,⟨a1,h4⟩,h5,h6,h7⟩:=h
 have lt:∀{b o v},a.cell? ⟨b,o,none⟩=some v→b<a.heap.size:=fun h=>World.block_lt_of_cell? a _ h
 exact⟨h1.trans k,fun p hp=>(k.cells.1 p.1 p.2.1 (lt (h2 p hp))).trans (h2 p hp),⟨a0,(k.cells.1 B 0 h7).trans h3⟩,⟨a1,(k.cells.1 B 1 h7).trans h4⟩,fun o=>(k.cells.2 B o h7).trans (h5 o),h6.ext h7 k,Nat.lt_of_lt_of_le h7 k.size⟩
theorem BX.drew {w w0:World} {B:Nat} {L:List (Nat×Nat×Value)} (h:BX w B L w0):BX w B L w0.drew:=h.ext ((Ext.refl w0).drew)
theorem BX.set {w w0:World} {B j:Nat} {L:List (Nat×Nat×Value)} {x:Value} (h:BX w B L w0) (hB:w.heap.size≤B) (hL:∀p∈L,p.1≠B) (hx:∀z,x≠ .int .u32 z):BX w B L (w0.setCell ⟨B,j,none⟩ x):=by
 obtain⟨h1,h2,⟨a0,h3⟩,⟨a1,h4⟩,h5,h6,h7⟩:=h
 have some':∀o a,w0.cell? ⟨B,o,none⟩=some a→∃c,(w0.setCell ⟨B,j,none⟩ x).cell? ⟨B,o,none⟩=some c:=fun o a ha=>by
  rw[cell_sc]
  split
  ·rename_i e
   have:o=j:=by have:=congrArg Addr.off e;simpa using this
   subst this
   rw[ha];exact⟨x,rfl⟩
  ·exact⟨a,ha⟩
 refine⟨h1.setCell (p:=⟨B,j,none⟩) hB x,fun p hp=> ?_,some' 0 a0 h3,some' 1 a1 h4,fun o=>by rw[World.frozen?_setCell];exact h5 o,h6.set hx,by simpa using h7⟩
 rw[cell_sc,if_neg]
 ·exact h2 p hp
 ·intro e;exact hL p hp (by have:=congrArg Addr.block e;simpa using this)
theorem BX.other {w w0:World} {B B' j:Nat} {L:List (Nat×Nat×Value)} {x:Value} (h:BX w B L w0) (hB:w.heap.size≤B') (hL:∀p∈L,p.1≠B') (hne:B'≠B) (hx:∀z,x≠ .int .u32 z):BX w B L (w0.setCell ⟨B',j,none⟩ x):=by
 obtain⟨h1,h2,⟨a0,h3⟩,⟨a1,h4⟩,h5,h6,h7⟩:=h
 have same:∀b o,b≠B'→(w0.setCell ⟨B',j,none⟩ x).cell? ⟨b,o,none⟩=w0.cell? ⟨b,o,none⟩:=fun b o hb=>by
  rw[cell_sc,if_neg (fun e=>hb (by have:=congrArg Addr.block e;simpa using this))]
 exact⟨h1.setCell (p:=⟨B',j,none⟩) hB x,fun p hp=>(same _ _ (hL p hp)).trans (h2 p hp),⟨a0,(same _ _ (Ne.symm hne)).trans h3⟩,⟨a1,(same _ _ (Ne.symm hne)).trans h4⟩,fun o=>by rw[World.frozen?_setCell];exact h5 o,h6.set hx,by simpa using h7⟩
end Go.Proofs.YtaoioncjmfcolaaGreat
