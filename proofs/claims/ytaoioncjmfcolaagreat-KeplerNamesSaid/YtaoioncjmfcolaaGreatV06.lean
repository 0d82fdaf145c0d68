/- A region that draws its order: one obligation an operation, whatever t -/
import Derived.Test.YtaoioncjmfcolaaGreatV05
set_option linter.unusedSimpArgs false
set_option linter.unusedVariables false
namespace Go.Proofs.YtaoioncjmfcolaaGreat
open Go.RowKit
def Eff (P:Program) (r:Result Next) (X:Value→World→Prop):Prop:=
 match r with
 | .ok (.value v) w=>X v w
 | .ok .skip w=>X undef w
 | .ok (.enter f args) w=>Calls P f args w fun| .returned v,w'=>X v w'|_,_=>False
 |_=>False
@[go_sem] theorem Eff.value {P:Program} {v:Value} {w:World} {X:Value→World→Prop}:Eff P (.ok (.value v) w) X=X v w:=rfl
@[go_sem] theorem Eff.skip {P:Program} {w:World} {X:Value→World→Prop}:Eff P (.ok .skip w) X=X undef w:=rfl
@[go_sem] theorem Eff.enter {P:Program} {f:FuncId} {args:Array Value} {w:World} {X:Value→World→Prop}:Eff P (.ok (.enter f args) w) X=Calls P f args w (fun| .returned v,w'=>X v w'|_,_=>False):=rfl
theorem Eff.upon {P:Program} {o:Oper} {a:Act} {r:Result Next} {K:Act→World→Prop} {Q:Exit→Act→World→Prop} (h:Eff P r fun v w=>K (a.put o.dst v) w):o.upon P a K Q r:=by
 cases r with
 |ok n w'=>cases n with
  |value v=>exact h
  |skip=>exact h
  |enter f args=>
   refine Calls.mono (show Calls P f args w' _ from h) fun e w'' he=> ?_
   cases e with
   |returned v=>exact he
   |_=>exact False.elim he
  |_=>exact False.elim h
 |halt x w'=>exact False.elim h
structure VF where
 p:Value→World→Prop
 ext:∀v a b,p v a→Ext a b→p v b
 gb:∀v a b T,p v a→NoU a T→GB T a b→p v b
structure BF where
 p:Nat→World→Prop
 ext:∀g a b,p g a→Ext a b→p g b
 gb:∀g a b T,p g a→NoU a T→GB T a b→g≠T→p g b
 noU:∀g a,p g a→NoU a g
 lt:∀g a,p g a→g<a.heap.size
def VF.any:VF:=⟨fun _ _=>True,fun _ _ _ _ _=>trivial,fun _ _ _ _ _ _ _=>trivial⟩
def VF.eq (u:Value):VF:=⟨fun v _=>v=u,fun _ _ _ h _=>h,fun _ _ _ _ h _ _=>h⟩
structure BR where
 al:Option Nat
 old:Nat
 st:List Nat
 bf:Nat→BF
def shp (k g:Nat):Value:=if k=0 then .pointer (some ⟨g,0,none⟩)else .slice (some ⟨g,0,none⟩) k k
def dstOf (ops:Array Oper) (j:Nat):Option Tmp:=(ops[j]?).bind (·.dst)
def putL (ops:Array Oper) (vs:Nat→Value):List Nat→Act→Act
 | [],a=>a
 |j::l,a=>(putL ops vs l a).put (dstOf ops j) (vs j)
def needs (o:Oper):List Nat:=(o.after.toList.filter (Region.binds .any ·)).map (·.on)
def free (B:List (Option Nat×List Nat)) (i:Nat):Bool:=B.all fun x=> !(x.1==some i)&& !x.2.contains i
def BR.key (x:BR):Option Nat×List Nat:=(x.al,x.st)
def wants (ops:Array Oper) (s k:Nat):Bool:=match ops[s]? with|some o=>(needs o).contains k|none=>false
def chk (ops:Array Oper) (n:Nat) (B:List (Option Nat×List Nat)):Bool:=
 Region.noSelect ops&&((List.range ops.size).all fun i=>match ops[i]? with
  |none=>true
  |some o=>(match o.dst with|some d=>decide (d<n)&&(List.range ops.size).all (fun j=>j==i || !(dstOf ops j==some d))|none=>true)
   &&(needs o).all (fun j=>decide (j<i))&&(o.looksAt ops).all (fun x=>(List.range ops.size).all fun j=> !(dstOf ops j==some x) || (needs o).contains j))
 &&(List.range B.length).all (fun m=>(List.range B.length).all fun n=>m==n || (match B[m]?,B[n]? with
  |some x,some y=>(match x.1 with|some k=> !(y.1==some k)&& !y.2.contains k|none=>true)&&x.2.all (fun s=> !y.2.contains s&& !(y.1==some s))
  |_,_=>true))
 &&B.all (fun x=>(match x.1 with|some k=>x.2.all fun s=>wants ops s k|none=>true)&&(List.range x.2.length).all fun m=>match x.2[m]?,x.2[m+1]? with|some s,some t=>wants ops t s|_,_=>true)
section
variable {P:Program} {ops:Array Oper} {V:Nat→VF} {B:List BR} {a0:Act} {n0:Nat}
structure Avail (ops:Array Oper) (n0:Nat) (x:BR) (i:Nat) (o:Oper) (vs:Nat→Value) (g:Nat) (w:World):Prop where
 old:x.al=none→g=x.old
 ptr:∀k,x.al=some k→k∈needs o→vs k=shp x.old g∧n0≤g
 any:x.al=none→∃m,(x.bf m).p g w
 at':(x.al=none∨(∃k,x.al=some k∧k∈needs o)∨∃s∈x.st,s∈needs o)→∀m,(m=0∨∃s,x.st[m-1]? =some s∧s∈needs o)→(x.st[m]? =none∨∃s,x.st[m]? =some s∧(s=i∨∃u,ops[s]? =some u∧i∈needs u))→(x.bf m).p g w
inductive Stp (B:List BR) (i:Nat) (gs:Nat→Nat) (w:World) (v:Value) (w':World):Prop
 |plain:free (B.map BR.key) i=true→Ext w w'→Stp B i gs w v w'
 |alloc (n:Nat) (x:BR) (g:Nat):B[n]? =some x→x.al=some i→v=shp x.old g→w.heap.size≤g→Ext w w'→(x.bf 0).p g w'→Stp B i gs w v w'
 |store (n m:Nat) (x:BR):B[n]? =some x→x.st[m]? =some i→GB (gs n) w w'→(x.bf (m+1)).p (gs n) w'→Stp B i gs w v w'
structure ObI (P:Program) (ops:Array Oper) (V:Nat→VF) (B:List BR) (Kp:World→Prop) (a0:Act) (n0:Nat) (i:Nat) (o:Oper):Prop where
 out:∀(vs:Nat→Value) (gs:Nat→Nat) (w:World),Kp w→n0≤w.heap.size→(∀j∈needs o,(V j).p (vs j) w)→(∀n x,B[n]? =some x→Avail ops n0 x i o vs (gs n) w)→
  ∀X:Value→World→Prop,Shut (∀v w',(V i).p v w'→Stp B i gs w v w'→X v w')→
   if Region.wanted o (yielded ops (putL ops vs (needs o) a0).tmps)=true then Eff P ((execOp (putL ops vs (needs o) a0).eval o).run P w) X else X undef w
/-! The slots. -/
theorem put_get_ne (a:Act) (d:Option Tmp) (v:Value) (x:Tmp) (h:d≠some x):(a.put d v).tmps[x]? =a.tmps[x]? :=by
 cases d with
 |none=>rfl
 |some d=>
  have:d≠x:=fun e=>h (by rw[e])
  simp[Act.put,Array.getElem?_setIfInBounds_ne this]
theorem put_get_eq (a:Act) (v:Value) (x:Tmp) (h:x<a.tmps.size):(a.put (some x) v).tmps[x]? =some v:=by
 simp[Act.put,h]
theorem put_size (a:Act) (d:Option Tmp) (v:Value):(a.put d v).tmps.size=a.tmps.size:=by
 cases d<;>simp[Act.put]
theorem put_defers' (a:Act) (d:Option Tmp) (v:Value):(a.put d v).defers=a.defers:=by
 cases d<;>rfl
theorem putL_size (vs:Nat→Value):∀(l:List Nat) (a:Act),(putL ops vs l a).tmps.size=a.tmps.size
 | [],_=>rfl
 |j::l,a=>by rw[putL,put_size];exact putL_size vs l a
theorem putL_defers (vs:Nat→Value):∀(l:List Nat) (a:Act),(putL ops vs l a).defers=a.defers
 | [],_=>rfl
 |j::l,a=>by rw[putL,put_defers'];exact putL_defers vs l a
theorem putL_out (vs:Nat→Value) (x:Tmp):∀(l:List Nat) (a:Act),(∀j∈l,dstOf ops j≠some x)→(putL ops vs l a).tmps[x]? =a.tmps[x]?
 | [],_,_=>rfl
 |j::l,a,h=>by
  rw[putL,put_get_ne _ _ _ _ (h j (by simp))]
  exact putL_out vs x l a fun k hk=>h k (by simp[hk])
theorem putL_in (vs:Nat→Value) (x:Tmp) (i:Nat) (hi:dstOf ops i=some x) (hu:∀j,dstOf ops j=some x→j=i):∀(l:List Nat) (a:Act),x<a.tmps.size→i∈l→(putL ops vs l a).tmps[x]? =some (vs i)
 | [],_,_,h=>by cases h
 |j::l,a,hx,h=>by
  rw[putL]
  by_cases hj:dstOf ops j=some x
  ·have e:=hu j hj
   subst e
   rw[hj]
   exact put_get_eq _ _ _ (by rw[putL_size];exact hx)
  ·rw[put_get_ne _ _ _ _ hj]
   exact putL_in vs x i hi hu l a hx (by
    rcases List.mem_cons.1 h with e|e
    ·subst e;exact absurd hi hj
    ·exact e)
/-! What the check says. -/
structure Chk (ops:Array Oper) (n:Nat) (B:List (Option Nat×List Nat)):Prop where
 sel:Region.noSelect ops=true
 dlt:∀i d,dstOf ops i=some d→d<n
 uni:∀i j d,dstOf ops i=some d→dstOf ops j=some d→j=i
 acy:∀(i:Nat) (o:Oper),ops[i]? =some o→∀j∈needs o,j<i
 look:∀(i:Nat) (o:Oper),ops[i]? =some o→∀x∈o.looksAt ops,∀j,dstOf ops j=some x→j∈needs o
 box:∀(m n:Nat) (x y:Option Nat×List Nat),B[m]? =some x→B[n]? =some y→m≠n→(∀k,x.1=some k→y.1≠some k∧k ∉ y.2)∧(∀k∈x.2,k ∉ y.2∧y.1≠some k)
 stn:∀x∈B,∀k,∀s∈x.2,x.1=some k→∃o,ops[s]? =some o∧k∈needs o
 chain:∀x∈B,∀m s t,x.2[m]? =some s→x.2[m+1]? =some t→∃o,ops[t]? =some o∧s∈needs o
theorem wants_spec {s k:Nat} (h:wants ops s k=true):∃o,ops[s]? =some o∧k∈needs o:=by
 unfold wants at h
 cases ho:ops[s]? with
 |none=>rw[ho]at h;cases h
 |some o=>rw[ho]at h;exact⟨o,rfl,by simpa using h⟩
theorem dst_lt {i:Nat} {d:Tmp} (h:dstOf ops i=some d):i<ops.size∧∃o,ops[i]? =some o∧o.dst=some d:=by
 unfold dstOf at h
 cases ho:ops[i]? with
 |none=>rw[ho]at h;cases h
 |some o=>rw[ho]at h;exact⟨(Array.getElem?_eq_some_iff.1 ho).1,o,rfl,h⟩
theorem chk_spec {n:Nat} {B:List (Option Nat×List Nat)} (h:chk ops n B=true):Chk ops n B:=by
 unfold chk at h
 rw[Bool.and_eq_true,Bool.and_eq_true,Bool.and_eq_true]at h
 obtain⟨⟨⟨h1,h2⟩,h3⟩,h4⟩:=h
 rw[List.all_eq_true]at h2 h3 h4
 have g:=fun(i:Nat) (o:Oper) (ho:ops[i]? =some o)=>by
  have:=h2 i (List.mem_range.2 (Array.getElem?_eq_some_iff.1 ho).1)
  rw[ho]at this
  exact this
 simp only[Bool.and_eq_true,List.all_eq_true,List.mem_range,Bool.or_eq_true,beq_iff_eq,Bool.not_eq_true',List.contains_iff_mem,decide_eq_true_eq]at g
 refine⟨h1,fun i d hd=> ?_,fun i j d hi hj=> ?_,fun i o ho=>(g i o ho).1.2,fun i o ho x hx j hj=> ?_,fun m n x y hm hn hne=> ?_,fun x hx k s hs hk=> ?_,fun x hx m s u hs hu=> ?_⟩
 ·obtain⟨hlt,o,ho,hd⟩:=dst_lt hd
  have:=(g i o ho).1.1
  rw[hd]at this
  simp only[Bool.and_eq_true,decide_eq_true_eq]at this
  exact this.1
 ·obtain⟨hlt,o,ho,hd⟩:=dst_lt hi
  have:=(g i o ho).1.1
  rw[hd]at this
  simp only[Bool.and_eq_true,List.all_eq_true,List.mem_range,Bool.or_eq_true,beq_iff_eq,Bool.not_eq_true']at this
  rcases this.2 j (dst_lt hj).1 with e|e
  ·exact e
  ·rw[hj]at e;simp at e
 ·rcases(g i o ho).2 x hx j (dst_lt hj).1 with e|e
  ·rw[hj]at e;simp at e
  ·exact e
 ·have h5:=h3 m (List.mem_range.2 (List.getElem?_eq_some_iff.1 hm).1)
  rw[List.all_eq_true]at h5
  have h6:=h5 n (List.mem_range.2 (List.getElem?_eq_some_iff.1 hn).1)
  rw[hm,hn]at h6
  have hmn:(m==n)=false:=by simpa using hne
  rw[hmn,Bool.false_or,Bool.and_eq_true]at h6
  obtain⟨h7,h8⟩:=h6
  refine⟨fun k hk=> ?_,fun k hk=> ?_⟩
  ·rw[hk]at h7
   simp only[Bool.and_eq_true,Bool.not_eq_true',beq_eq_false_iff_ne]at h7
   exact⟨h7.1,by simpa using h7.2⟩
  ·rw[List.all_eq_true]at h8
   have:=h8 k hk
   simp only[Bool.and_eq_true,Bool.not_eq_true',beq_eq_false_iff_ne]at this
   exact⟨by simpa using this.1,this.2⟩
 ·have:=h4 x hx
  rw[Bool.and_eq_true,hk]at this
  have h5:=this.1
  dsimp only at h5
  rw[List.all_eq_true]at h5
  exact wants_spec (h5 s hs)
 ·have:=h4 x hx
  rw[Bool.and_eq_true,List.all_eq_true]at this
  have h5:=this.2 m (List.mem_range.2 (List.getElem?_eq_some_iff.1 hs).1)
  rw[hs,hu]at h5
  exact wants_spec h5
/-! Two acts that agree on what an operation looks at. -/
theorem same_exec {o:Oper} {a b:Act} (hs:∀cs d,o.op≠ .select cs d) (h:∀x∈o.looksAt ops,a.tmps[x]? =b.tmps[x]?):execOp a.eval o=execOp b.eval o:=by
 refine execOp_congr o hs fun x hx=> ?_
 cases x with
 |tmp t=>
  have:=h t (List.mem_append_left _ (List.mem_filterMap.2 ⟨.tmp t,by simpa using hx,rfl⟩))
  simp[Act.eval,Array.getD_eq_getD_getElem?,this]
 |_=>rfl
theorem same_wanted {o:Oper} {a b:Act} (h:∀x∈o.looksAt ops,a.tmps[x]? =b.tmps[x]?):Region.wanted o (yielded ops a.tmps)=Region.wanted o (yielded ops b.tmps):=by
 unfold Region.wanted
 cases hg:o.guard with
 |none=>rfl
 |some gw=>
  obtain⟨g,want⟩:=gw
  have hy:yielded ops a.tmps g=yielded ops b.tmps g:=by
   unfold yielded
   cases ht:(ops[g]?).bind (·.dst)with
   |none=>rfl
   |some t=>
    have:=h t (by simp[Oper.looksAt,hg,ht])
    simp[this]
  simp only[hy]
def exB (x:BR) (l:Array Bool):Prop:=∀k,x.al=some k→l.getD k false=true
structure DnB (x:BR) (l:Array Bool) (m:Nat):Prop where
 le:m≤x.st.length
 lo:∀j s,j<m→x.st[j]? =some s→l.getD s false=true
 hi:∀s,x.st[m]? =some s→l.getD s false≠true
theorem dn_ex (x:BR) (l:Array Bool):∃m,DnB x l m:=by
 have h:∀k,k≤x.st.length→(∃m,DnB x l m)∨∀j s,j<k→x.st[j]? =some s→l.getD s false=true:=by
  intro k
  induction k with
  |zero=>exact fun _=>.inr fun j s hj=>absurd hj (by omega)
  |succ k ih=>
   intro hk
   rcases ih (by omega)with h|h
   ·exact .inl h
   ·by_cases e:l.getD x.st[k] false=true
    ·refine .inr fun j s hj hs=> ?_
     by_cases hjk:j=k
     ·subst hjk
      rw[List.getElem?_eq_getElem (by omega)]at hs
      cases hs;exact e
     ·exact h j s (by omega) hs
    ·refine .inl ⟨k,by omega,h,fun s hs=> ?_⟩
     rw[List.getElem?_eq_getElem (by omega)]at hs
     cases hs;exact e
 rcases h _ (Nat.le_refl _)with h|h
 ·exact h
 ·exact⟨x.st.length,Nat.le_refl _,h,fun s hs=>by rw[List.getElem?_eq_none (Nat.le_refl _)]at hs;cases hs⟩
structure Inv (ops:Array Oper) (V:Nat→VF) (B:List BR) (Kp:World→Prop) (a0:Act) (n0:Nat) (l:Array Bool) (a:Act) (w:World) (vs:Nat→Value) (gs:Nat→Nat):Prop where
 sz:l.size=ops.size
 dt:a.defers=a0.defers
 ts:a.tmps.size=a0.tmps.size
 inn:∀j d,l.getD j false=true→dstOf ops j=some d→a.tmps[d]? =some (vs j)
 out:∀x,(∀j,l.getD j false=true→dstOf ops j≠some x)→a.tmps[x]? =a0.tmps[x]?
 k:Kp w
 n:n0≤w.heap.size
 cl:∀(j:Nat) (o:Oper),ops[j]? =some o→l.getD j false=true→∀k∈needs o,l.getD k false=true
 v:∀j,l.getD j false=true→(V j).p (vs j) w
 bo:∀(n:Nat) (x:BR),B[n]? =some x→x.al=none→gs n=x.old
 bp:∀(n:Nat) (x:BR),B[n]? =some x→∀k,x.al=some k→l.getD k false=true→vs k=shp x.old (gs n)∧n0≤gs n
 bb:∀(n:Nat) (x:BR),B[n]? =some x→exB x l→∀m,DnB x l m→(x.bf m).p (gs n) w
 d:∀(m n:Nat) (x y:BR),B[m]? =some x→B[n]? =some y→m≠n→exB x l→exB y l→gs m≠gs n
 sm:∀(m:Nat) (x:BR),B[m]? =some x→exB x l→gs m<w.heap.size
theorem getD_self {l:Array Bool} {i:Nat} (h:i<l.size) (d:Bool):(l.setIfInBounds i true).getD i d=true:=by
 simp[Array.getD_eq_getD_getElem?,h]
theorem get_map {B:List BR} {n:Nat} {x:BR} (h:B[n]? =some x):(B.map BR.key)[n]? =some (x.al,x.st):=by
 rw[List.getElem?_map,h];rfl
theorem free_spec {B:List BR} {i:Nat} (h:free (B.map BR.key) i=true) {n:Nat} {x:BR} (hx:B[n]? =some x):x.al≠some i∧i ∉ x.st:=by
 unfold free at h
 rw[List.all_eq_true]at h
 have:=h (x.al,x.st) (List.mem_map.2 ⟨x,List.mem_of_getElem? hx,rfl⟩)
 simp only[Bool.and_eq_true,Bool.not_eq_true',beq_eq_false_iff_ne]at this
 exact⟨this.1,by simpa using this.2⟩
section
variable {Kp:World→Prop} {l:Array Bool} {a:Act} {w w':World} {vs:Nat→Value} {gs:Nat→Nat} {i:Nat} {o:Oper} {v:Value}
theorem ex_mono {x:BR} (h:x.al≠some i) (hx:exB x (l.setIfInBounds i true)):exB x l:=fun k hk=>by
 have:=hx k hk
 rwa [getD_set_ne false (fun e=>h (by rw[e];exact hk))]at this
theorem rg_dn_mono {x:BR} {m:Nat} (h:i ∉ x.st) (hx:DnB x (l.setIfInBounds i true) m):DnB x l m:=
 ⟨hx.le,fun j s hj hs=>by
  have:=hx.lo j s hj hs
  rwa [getD_set_ne false (fun e=>h (by rw[e];exact List.mem_of_getElem? hs))]at this,fun s hs e=>hx.hi s hs (getD_set_true e)⟩
theorem slots_step (C:Chk ops a0.tmps.size (B.map BR.key)) (I:Inv ops V B Kp a0 n0 l a w vs gs) (ho:ops[i]? =some o) (hu:l.getD i true=false) (hn:∀k∈needs o,l.getD k false=true):
    (l.setIfInBounds i true).size=ops.size∧(a.put o.dst v).defers=a0.defers∧(a.put o.dst v).tmps.size=a0.tmps.size∧
    (∀j d,(l.setIfInBounds i true).getD j false=true→dstOf ops j=some d→(a.put o.dst v).tmps[d]? =some (if j=i then v else vs j))∧
    (∀x,(∀j,(l.setIfInBounds i true).getD j false=true→dstOf ops j≠some x)→(a.put o.dst v).tmps[x]? =a0.tmps[x]?)∧
    (∀(j:Nat) (o:Oper),ops[j]? =some o→(l.setIfInBounds i true).getD j false=true→∀k∈needs o,(l.setIfInBounds i true).getD k false=true):=by
 have hlt:i<l.size:=by rw[I.sz];exact(Array.getElem?_eq_some_iff.1 ho).1
 have hd:dstOf ops i=o.dst:=by unfold dstOf;rw[ho];rfl
 refine⟨by simp[I.sz],by rw[put_defers'];exact I.dt,by rw[put_size];exact I.ts,fun j d hj hjd=> ?_,fun x hx=> ?_,fun j u hj hl k hk=> ?_⟩
 ·by_cases e:j=i
  ·subst e
   rw[if_pos rfl, ←hd,hjd]
   exact put_get_eq _ _ _ (by rw[I.ts];exact C.dlt _ _ hjd)
  ·rw[if_neg e,put_get_ne]
   ·exact I.inn j d (by rwa [getD_set_ne false (Ne.symm e)]at hj) hjd
   ·intro e2
    exact e (C.uni _ _ _ (hd.trans e2) hjd)
 ·rw[put_get_ne _ _ _ _ (by rw[←hd];exact hx i (getD_self hlt false))]
  exact I.out x fun j hj=>hx j (getD_set_true hj)
 ·by_cases e:j=i
  ·subst e
   rw[ho]at hj
   cases hj
   exact getD_set_true (hn k hk)
  ·exact getD_set_true (I.cl j u hj (by rwa [getD_set_ne false (Ne.symm e)]at hl) k hk)
theorem inv_step (C:Chk ops a0.tmps.size (B.map BR.key)) (hK1:∀a b,Kp a→Ext a b→Kp b)
    (hK2:∀a b T,Kp a→NoU a T→GB T a b→(n0≤T∨∃x∈B,x.al=none∧x.old=T)→Kp b)
    (I:Inv ops V B Kp a0 n0 l a w vs gs) (ho:ops[i]? =some o) (hu:l.getD i true=false) (hn:∀k∈needs o,l.getD k false=true)
    (hv:(V i).p v w') (hs:Stp B i gs w v w'):∃vs' gs',Inv ops V B Kp a0 n0 (l.setIfInBounds i true) (a.put o.dst v) w' vs' gs':=by
 have hlt0:i<l.size:=by rw[I.sz];exact(Array.getElem?_eq_some_iff.1 ho).1
 have huf:l.getD i false≠true:=by
  intro e
  simp[Array.getD_eq_getD_getElem?,hlt0]at hu e
  rw[e]at hu;cases hu
 obtain⟨s1,s2,s3,s4,s5,s6⟩:=slots_step (v:=v) C I ho hu hn
 have low:∀j,(l.setIfInBounds i true).getD j false=true→j≠i→l.getD j false=true:=fun j hj e=>by rwa [getD_set_ne false (Ne.symm e)]at hj
 have mk:∀(n:Nat) (x:BR),B[n]? =some x→(x.al,x.st)∈B.map BR.key:=fun n x hx=>List.mem_map.2 ⟨x,List.mem_of_getElem? hx,rfl⟩
 have noti:∀(n:Nat) (x:BR),B[n]? =some x→x.al=some i→i ∉ x.st:=fun n x hx h1 h2=>by
  obtain⟨u,hu1,hu2⟩:=C.stn _ (mk n x hx) i i h2 h1
  exact Nat.lt_irrefl _ (C.acy _ _ hu1 _ hu2)
 cases hs with
 |plain hf he=>
  refine⟨fun j=>if j=i then v else vs j,gs,s1,s2,s3,s4,s5,hK1 _ _ I.k he,Nat.le_trans I.n he.size,s6,fun j hj=> ?_,I.bo,fun n x hx k hk hlk=> ?_,fun n x hx h1 m h2=> ?_,fun m n x y hx hy hne h1 h2=> ?_,fun n x hx h1=>Nat.lt_of_lt_of_le (I.sm n x hx (ex_mono (free_spec hf hx).1 h1)) he.size⟩
  ·by_cases e:j=i
   ·subst e;rw[if_pos rfl];exact hv
   ·rw[if_neg e];exact(V j).ext _ _ _ (I.v j (low j hj e)) he
  ·have hki:k≠i:=fun e=>(free_spec hf hx).1 (by rw[hk,e])
   rw[if_neg hki]
   exact I.bp n x hx k hk (low k hlk hki)
  ·exact(x.bf m).ext _ _ _ (I.bb n x hx (ex_mono (free_spec hf hx).1 h1) m (rg_dn_mono (free_spec hf hx).2 h2)) he
  ·exact I.d m n x y hx hy hne (ex_mono (free_spec hf hx).1 h1) (ex_mono (free_spec hf hy).1 h2)
 |alloc n x g hx hal hvg hg he hb=>
  have oth:∀(m:Nat) (y:BR),B[m]? =some y→m≠n→y.al≠some i∧i ∉ y.st:=fun m y hy hne=>
   (C.box n m _ _ (get_map hx) (get_map hy) (Ne.symm hne)).1 i hal
  refine⟨fun j=>if j=i then v else vs j,fun m=>if m=n then g else gs m,s1,s2,s3,s4,s5,hK1 _ _ I.k he,Nat.le_trans I.n he.size,s6,fun j hj=> ?_,fun m y hy h=> ?_,fun m y hy k hk hlk=> ?_,fun m y hy h1 q h2=> ?_,fun m m' y z hy hz hne h1 h2=> ?_,fun m y hy h1=> ?_⟩
  ·by_cases e:j=i
   ·subst e;rw[if_pos rfl];exact hv
   ·rw[if_neg e];exact(V j).ext _ _ _ (I.v j (low j hj e)) he
  ·have:m≠n:=fun e=>by subst e;rw[hx]at hy;cases hy;rw[hal]at h;cases h
   rw[if_neg this];exact I.bo m y hy h
  ·by_cases e:m=n
   ·subst e
    rw[hx]at hy;cases hy
    rw[hal]at hk;cases hk
    rw[if_pos rfl,if_pos rfl]
    exact⟨hvg,Nat.le_trans I.n hg⟩
   ·have hki:k≠i:=fun e2=>(oth m y hy e).1 (by rw[hk,e2])
    rw[if_neg hki,if_neg e]
    exact I.bp m y hy k hk (low k hlk hki)
  ·by_cases e:m=n
   ·subst e
    rw[hx]at hy;cases hy
    rw[if_pos rfl]
    have hq:q=0:=by
     rcases Nat.eq_zero_or_pos q with e|e
     ·exact e
     ·exfalso
      have hlen:0<x.st.length:=Nat.lt_of_lt_of_le e h2.le
      have hs0:x.st[0]? =some x.st[0]:=by simp
      have h3:=(rg_dn_mono (noti m x hx hal) h2).lo 0 _ e hs0
      obtain⟨u,hu1,hu2⟩:=C.stn _ (mk m x hx) i x.st[0] (by simp) hal
      exact huf (I.cl _ u hu1 h3 i hu2)
    subst hq;exact hb
   ·rw[if_neg e]
    exact(y.bf q).ext _ _ _ (I.bb m y hy (ex_mono (oth m y hy e).1 h1) q (rg_dn_mono (oth m y hy e).2 h2)) he
  ·have small:∀(m:Nat) (y:BR),B[m]? =some y→exB y l→m≠n→gs m<g:=fun m y hy h hne=>Nat.lt_of_lt_of_le (I.sm m y hy h) hg
   by_cases e:m=n
   ·subst e
    have e2:m'≠m:=Ne.symm hne
    rw[if_pos rfl,if_neg e2]
    exact Nat.ne_of_gt (small m' z hz (ex_mono (oth m' z hz e2).1 h2) e2)
   ·by_cases e3:m'=n
    ·subst e3
     rw[if_pos rfl,if_neg e]
     exact Nat.ne_of_lt (small m y hy (ex_mono (oth m y hy e).1 h1) e)
    ·rw[if_neg e,if_neg e3]
     exact I.d m m' y z hy hz hne (ex_mono (oth m y hy e).1 h1) (ex_mono (oth m' z hz e3).1 h2)
  ·by_cases e:m=n
   ·subst e
    rw[hx]at hy;cases hy
    rw[if_pos rfl];exact(x.bf 0).lt _ _ hb
   ·rw[if_neg e];exact Nat.lt_of_lt_of_le (I.sm m y hy (ex_mono (oth m y hy e).1 h1)) he.size
 |store n m0 x hx hst hg hb=>
  have hmem:i∈x.st:=List.mem_of_getElem? hst
  have oth:∀(m:Nat) (y:BR),B[m]? =some y→m≠n→y.al≠some i∧i ∉ y.st:=fun m y hy hne=>
   ((C.box n m _ _ (get_map hx) (get_map hy) (Ne.symm hne)).2 i hmem).symm
  have hex:exB x l:=fun k hk=>by
   obtain⟨u,hu1,hu2⟩:=C.stn _ (mk n x hx) k i hmem hk
   rw[ho]at hu1;cases hu1
   exact hn k hu2
  -- those ahead of it have come up, those behind it not
  have ahead:∀d j s,j+d+1=m0→x.st[j]? =some s→l.getD s false=true:=by
   intro d
   induction d with
   |zero=>
    intro j s hj hs
    obtain⟨u,hu1,hu2⟩:=C.chain _ (mk n x hx) j s i hs (by rw[show j+1=m0 by omega];exact hst)
    rw[ho]at hu1;cases hu1
    exact hn s hu2
   |succ d ih=>
    intro j s hj hs
    have hlt:j+1<x.st.length:=by have:=(List.getElem?_eq_some_iff.1 hst).1;omega
    have hs1:x.st[j+1]? =some x.st[j+1]:=by simp[hlt]
    have h3:=ih (j+1) _ (by omega) hs1
    obtain⟨u,hu1,hu2⟩:=C.chain _ (mk n x hx) j s _ hs hs1
    exact I.cl _ u hu1 h3 s hu2
  have hdn:DnB x l m0:=⟨Nat.le_of_lt (List.getElem?_eq_some_iff.1 hst).1,fun j s hj hs=>ahead (m0-j-1) j s (by omega) hs,fun s hs=>by rw[hst]at hs;cases hs;exact huf⟩
  have hbn:=I.bb n x hx hex m0 hdn
  have hnu:=(x.bf m0).noU _ _ hbn
  have hali:x.al≠some i:=fun h=>noti n x hx h hmem
  refine⟨fun j=>if j=i then v else vs j,gs,s1,s2,s3,s4,s5,hK2 _ _ _ I.k hnu hg ?_,Nat.le_trans I.n hg.size,s6,fun j hj=> ?_,I.bo,fun m y hy k hk hlk=> ?_,fun m y hy h1 q h2=> ?_,fun m m' y z hy hz hne h1 h2=> ?_,fun m y hy h1=> ?_⟩
  ·cases hc:x.al with
   |none=>exact .inr ⟨x,List.mem_of_getElem? hx,hc,(I.bo n x hx hc).symm⟩
   |some k=>exact .inl (I.bp n x hx k hc (hex k hc)).2
  ·by_cases e:j=i
   ·subst e;rw[if_pos rfl];exact hv
   ·rw[if_neg e];exact(V j).gb _ _ _ _ (I.v j (low j hj e)) hnu hg
  ·by_cases e:m=n
   ·subst e
    rw[hx]at hy;cases hy
    have hki:k≠i:=fun e2=>hali (by rw[hk,e2])
    rw[if_neg hki]
    exact I.bp m x hx k hk (low k hlk hki)
   ·have hki:k≠i:=fun e2=>(oth m y hy e).1 (by rw[hk,e2])
    rw[if_neg hki]
    exact I.bp m y hy k hk (low k hlk hki)
  ·by_cases e:m=n
   ·subst e
    rw[hx]at hy;cases hy
    have hq:q=m0+1:=by
     rcases Nat.lt_trichotomy q (m0+1)with e|e|e
     ·exfalso
      have hlt:q<x.st.length:=by have:=(List.getElem?_eq_some_iff.1 hst).1;omega
      have hs1:x.st[q]? =some x.st[q]:=by simp[hlt]
      refine h2.hi _ hs1 ?_
      by_cases e2:q=m0
      ·subst e2
       rw[hst]at hs1
       cases hs1
       exact getD_self hlt0 false
      ·exact getD_set_true (hdn.lo q _ (by omega) hs1)
     ·exact e
     ·exfalso
      have hlt:m0+1<x.st.length:=Nat.lt_of_lt_of_le e h2.le
      have hs1:x.st[m0+1]? =some x.st[m0+1]:=by simp[hlt]
      obtain⟨u,hu1,hu2⟩:=C.chain _ (mk m x hx) m0 i _ hst hs1
      have hne:x.st[m0+1]≠i:=fun e2=>by rw[e2]at hu1;exact Nat.lt_irrefl _ (C.acy _ _ hu1 _ hu2)
      exact huf (I.cl _ u hu1 (low _ (h2.lo (m0+1) _ e hs1) hne) i hu2)
    subst hq;exact hb
   ·have h1':=ex_mono (oth m y hy e).1 h1
    exact(y.bf q).gb _ _ _ _ (I.bb m y hy h1' q (rg_dn_mono (oth m y hy e).2 h2)) hnu hg (I.d m n y x hy hx e h1' hex)
  ·have f1:exB y l:=by
    by_cases e:m=n
    ·subst e;rw[hx]at hy;cases hy;exact hex
    ·exact ex_mono (oth m y hy e).1 h1
   have f2:exB z l:=by
    by_cases e:m'=n
    ·subst e;rw[hx]at hz;cases hz;exact hex
    ·exact ex_mono (oth m' z hz e).1 h2
   exact I.d m m' y z hy hz hne f1 f2
  ·have f1:exB y l:=by
    by_cases e:m=n
    ·subst e;rw[hx]at hy;cases hy;exact hex
    ·exact ex_mono (oth m y hy e).1 h1
   exact Nat.lt_of_lt_of_le (I.sm m y hy f1) hg.size
theorem inv_op {Q:Exit→Act→World→Prop} (C:Chk ops a0.tmps.size (B.map BR.key)) (hK1:∀a b,Kp a→Ext a b→Kp b)
    (hK2:∀a b T,Kp a→NoU a T→GB T a b→(n0≤T∨∃x∈B,x.al=none∧x.old=T)→Kp b)
    (I:Inv ops V B Kp a0 n0 l a w vs gs) (ho:ops[i]? =some o) (hu:l.getD i true=false) (hn:∀k∈needs o,l.getD k false=true)
    (hob:ObI P ops V B Kp a0 n0 i o):wpOp P ops Q i (fun a' w'=>∃vs' gs',Inv ops V B Kp a0 n0 (l.setIfInBounds i true) a' w' vs' gs') a w:=by
  have hlt:i<l.size:=by rw[I.sz];exact(Array.getElem?_eq_some_iff.1 ho).1
  have huf:l.getD i false≠true:=by
    intro e
    simp[Array.getD_eq_getD_getElem?,hlt]at hu e
    rw[e]at hu;cases hu
  have hag:∀x∈o.looksAt ops,a.tmps[x]? =(putL ops vs (needs o) a0).tmps[x]? :=fun x hx=>by
    by_cases h:∃j,dstOf ops j=some x
    · obtain⟨j,hj⟩:=h
      have hjn:=C.look i o ho x hx j hj
      rw[I.inn j x (hn j hjn) hj,putL_in vs x j hj (fun m hm=>C.uni _ _ _ hj hm) _ _ (C.dlt _ _ hj) hjn]
    · rw[I.out x (fun j _ e=>h ⟨j,e⟩),putL_out vs x _ _ (fun j _ e=>h ⟨j,e⟩)]
  have hX:=hob.out vs gs w I.k I.n (fun j hj=>I.v j (hn j hj)) (fun n x hx=>⟨I.bo n x hx,fun k hk hkn=>I.bp n x hx k hk (hn k hkn),fun hal=>(dn_ex x l).elim fun m hm=>⟨m,I.bb n x hx (fun k hk=>by rw[hal]at hk;cases hk) m hm⟩,fun h1 m h0 h2=>by
      have mk:(x.al,x.st)∈B.map BR.key:=List.mem_map.2 ⟨x,List.mem_of_getElem? hx,rfl⟩
      refine I.bb n x hx (fun k hk=> ?_) m ⟨?_,fun j s hj hs=> ?_,fun s hs e=> ?_⟩
      · rcases h1 with e| ⟨k',e,e2⟩| ⟨s,hs,hs2⟩
        · rw[e]at hk;cases hk
        · rw[e]at hk;cases hk;exact hn _ e2
        · obtain⟨u,e1,e2⟩:=C.stn _ mk k s hs hk
          exact I.cl s u e1 (hn s hs2) k e2
      · rcases h0 with e| ⟨s,e, -⟩
        · omega
        · have:=(List.getElem?_eq_some_iff.1 e).1;omega
      · rcases h0 with e| ⟨s1,e,e2⟩
        · omega
        · have back:∀d j s,j+d=m-1→x.st[j]? =some s→l.getD s false=true:=by
            intro d
            induction d with
            |zero=>
              intro j s hj hs
              rw[show j=m-1 by omega,e]at hs
              cases hs;exact hn _ e2
            |succ d ih=>
              intro j s hj hs
              have hlt:j+1<x.st.length:=by have:=(List.getElem?_eq_some_iff.1 e).1;omega
              have hs1:x.st[j+1]? =some x.st[j+1]:=by simp[hlt]
              have h3:=ih (j+1) _ (by omega) hs1
              obtain⟨u,hu1,hu2⟩:=C.chain _ mk j s _ hs hs1
              exact I.cl _ u hu1 h3 s hu2
          exact back (m-1-j) j s (by omega) hs
      · rcases h2 with e1| ⟨s',e1,e2⟩
        · rw[e1]at hs;cases hs
        · rw[e1]at hs;cases hs
          rcases e2 with e2| ⟨u,e2,e3⟩
          · subst e2;exact huf e
          · exact huf (I.cl _ _ e2 e i e3)⟩)
    (fun v w'=>∃vs' gs',Inv ops V B Kp a0 n0 (l.setIfInBounds i true) (a.put o.dst v) w' vs' gs') (fun v w' hv hs=>inv_step C hK1 hK2 I ho hu hn hv hs)
  unfold wpOp
  rw[ho]
  dsimp only
  rw[same_wanted hag]
  split
  · rename_i hw
    rw[if_pos hw]at hX
    refine .inl ?_
    unfold Oper.wp
    rw[same_exec (Region.noSelect_spec C.sel i o · · ho) hag]
    exact Eff.upon hX
  · rename_i hw
    rw[if_neg hw]at hX
    exact hX
theorem inv_any {Q:Exit→Act→World→Prop} (C:Chk ops a0.tmps.size (B.map BR.key)) (hK1:∀a b,Kp a→Ext a b→Kp b)
    (hK2:∀a b T,Kp a→NoU a T→GB T a b→(n0≤T∨∃x∈B,x.al=none∧x.old=T)→Kp b)
    (hob:∀(i:Nat) (o:Oper),ops[i]? =some o→ObI P ops V B Kp a0 n0 i o)
    (hend:∀(l:Array Bool) (a:Act) (w:World) (vs:Nat→Value) (gs:Nat→Nat),Inv ops V B Kp a0 n0 l a w vs gs→(∀i,i<ops.size→l.getD i false=true)→Q .normal a w):
    ∀(fuel:Nat) (l:Array Bool) (a:Act) (w:World),(∃vs gs,Inv ops V B Kp a0 n0 l a w vs gs)→((List.range ops.size).filter fun i=> !l.getD i true).length≤fuel→wpAny P .any ops Q fuel l a w:=by
 have allOf:∀(l:Array Bool),l.size=ops.size→Region.ready .any ops l=[]→∀i,i<ops.size→l.getD i false=true:=by
  intro l hsz hr i
  induction i using Nat.strongRecOn with
  |_ i ih=>
   intro hi
   by_cases hl:l.getD i false=true
   ·exact hl
   ·exfalso
    have:i∈Region.ready .any ops l:=by
     refine mem_ready.2 ⟨?_,ops[i],by simp[hi],fun e he hb=> ?_⟩
     ·have h9:i<l.size:=by omega
      simp[Array.getD_eq_getD_getElem?,h9]at hl ⊢
      exact hl
     ·have hm:e.on∈needs ops[i]:=List.mem_map.2 ⟨e,List.mem_filter.2 ⟨by simpa using he,by simpa using hb⟩,rfl⟩
      have h8:=C.acy i _ (by simp[hi]) _ hm
      exact ih _ h8 (by omega)
    rw[hr]at this
    cases this
 intro fuel
 induction fuel with
 |zero=>
  rintro l a w ⟨vs,gs,I⟩ hf
  have hz:Region.ready .any ops l=[]:=by
   rw[List.eq_nil_iff_forall_not_mem]
   intro i hi
   have h0:=(mem_ready.1 hi).1
   obtain⟨_,o,ho,_⟩:=mem_ready.1 hi
   have:i∈(List.range ops.size).filter fun i=> !l.getD i true:=List.mem_filter.2 ⟨List.mem_range.2 (Array.getElem?_eq_some_iff.1 ho).1,by simpa using h0⟩
   rw[List.length_eq_zero_iff.1 (Nat.le_zero.1 hf)]at this
   cases this
  exact⟨hz,hend l a w vs gs I (allOf l I.sz hz)⟩
 |succ fuel ih=>
  rintro l a w ⟨vs,gs,I⟩ hf
  refine⟨fun hz=>hend l a w vs gs I (allOf l I.sz hz),fun i hi=> ?_⟩
  obtain⟨hu,o,ho,hn0⟩:=mem_ready.1 hi
  have hn:∀k∈needs o,l.getD k false=true:=fun k hk=>by
   obtain⟨e,he,rfl⟩:=List.mem_map.1 hk
   have:=List.mem_filter.1 he
   exact hn0 e (by simpa using this.1) (by simpa using this.2)
  refine wpOp_mono (fun a' w' hI=>ih _ a' w' hI ?_) (inv_op (Q:=Q) C hK1 hK2 I ho hu hn (hob i o ho))
  have hlt:i<l.size:=by rw[I.sz];exact(Array.getElem?_eq_some_iff.1 ho).1
  have hlt2:i<ops.size:=(Array.getElem?_eq_some_iff.1 ho).1
  refine Nat.le_of_lt_succ (Nat.lt_of_lt_of_le ?_ hf)
  have e1:((List.range ops.size).filter fun j=> !(l.setIfInBounds i true).getD j true)=((List.range ops.size).filter fun j=> !l.getD j true).filter (fun j=> !(j==i)):=by
   rw[List.filter_filter]
   refine List.filter_congr fun j _=> ?_
   by_cases e:j=i
   ·subst e;simp[getD_self hlt]
   ·rw[getD_set_ne true (Ne.symm e)];simp[e]
  rw[e1]
  have hmem:i∈(List.range ops.size).filter fun j=> !l.getD j true:=List.mem_filter.2 ⟨List.mem_range.2 hlt2,by rw[hu];rfl⟩
  refine Nat.lt_of_le_of_ne (List.length_filter_le _ _) fun e=> ?_
  have:=List.length_filter_eq_length_iff.1 e i hmem
  simp at this
def EndI (ops:Array Oper) (V:Nat→VF) (B:List BR) (Kp:World→Prop) (a0:Act) (n0:Nat) (L:List Nat) (Q:Exit→Act→World→Prop):Prop:=
  ∀(vs:Nat→Value) (gs:Nat→Nat) (w:World),Kp w→n0≤w.heap.size→(∀i,i<ops.size→(V i).p (vs i) w)→
      (∀(n:Nat) (x:BR),B[n]? =some x→(x.al=none→gs n=x.old)∧(∀k,x.al=some k→k<ops.size→vs k=shp x.old (gs n)∧n0≤gs n)∧((∀k,x.al=some k→k<ops.size)→(∀s∈x.st,s<ops.size)→(x.bf x.st.length).p (gs n) w))→
      (∀(m n:Nat) (x y:BR),B[m]? =some x→B[n]? =some y→m≠n→(∀k,x.al=some k→k<ops.size)→(∀k,y.al=some k→k<ops.size)→gs m≠gs n)→
      Q .normal (putL ops vs L a0) w
theorem inv_final {Q:Exit→Act→World→Prop} (C:Chk ops a0.tmps.size (B.map BR.key)) {L:List Nat} (hL:∀j,j<ops.size→j∈L) (hend:EndI ops V B Kp a0 n0 L Q)
    (I:Inv ops V B Kp a0 n0 l a w vs gs) (hall:∀i,i<ops.size→l.getD i false=true):Q .normal a w:=by
 have ha:a=putL ops vs L a0:=by
  have h1:a.defers=(putL ops vs L a0).defers:=by rw[putL_defers];exact I.dt
  have h2:a.tmps=(putL ops vs L a0).tmps:=by
   refine Array.ext_getElem? fun x=> ?_
   by_cases h:∃j,dstOf ops j=some x
   ·obtain⟨j,hj⟩:=h
    have hjn:=(dst_lt hj).1
    rw[I.inn j x (hall j hjn) hj,putL_in vs x j hj (fun m hm=>C.uni _ _ _ hj hm) _ _ (C.dlt _ _ hj) (hL j hjn)]
   ·rw[I.out x (fun j _ e=>h ⟨j,e⟩),putL_out vs x _ _ (fun j _ e=>h ⟨j,e⟩)]
  cases a;cases h3:putL ops vs L a0
  rw[h3]at h1 h2
  dsimp only at h1 h2
  rw[h1,h2]
 rw[ha]
 refine hend vs gs w I.k I.n (fun i hi=>I.v i (hall i hi)) (fun n x hx=>⟨I.bo n x hx,fun k hk hks=>I.bp n x hx k hk (hall k hks),fun hex hss=>I.bb n x hx (fun k hk=>hall k (hex k hk)) _ ⟨Nat.le_refl _,fun j s _ hs=>hall s (hss s (List.mem_of_getElem? hs)),fun s hs=>by rw[List.getElem?_eq_none (Nat.le_refl _)]at hs;cases hs⟩⟩)
  (fun m n x y hx hy hne h1 h2=>I.d m n x y hx hy hne (fun k hk=>hall k (h1 k hk)) (fun k hk=>hall k (h2 k hk)))
theorem inv_init {W:World} (h0:Kp W) (hn:n0≤W.heap.size) (hB:∀(n:Nat) (x:BR),B[n]? =some x→x.al=none→(x.bf 0).p x.old W)
    (hd:∀(m n:Nat) (x y:BR),B[m]? =some x→B[n]? =some y→m≠n→x.al=none→y.al=none→x.old≠y.old):
    Inv ops V B Kp a0 n0 (Array.replicate ops.size false) a0 W (fun _=>undef) (fun n=>(B[n]?.map BR.old).getD 0):=by
 have rep:∀j,(Array.replicate ops.size false).getD j false≠true:=fun j=>by
  by_cases h:j<ops.size<;>simp[Array.getD_eq_getD_getElem?,h]
 have non:∀(x:BR),exB x (Array.replicate ops.size false)→x.al=none:=fun x h1=>by
  cases h:x.al with
  |none=>rfl
  |some k=>exact absurd (h1 k h) (rep k)
 refine⟨by simp,rfl,rfl,fun j d hj=>absurd hj (rep j),fun x _=>rfl,h0,hn,fun j o _ hj=>absurd hj (rep j),fun j hj=>absurd hj (rep j),fun n x hx _=>by rw[hx];rfl,fun n x hx k hk hj=>absurd hj (rep k),fun n x hx h1 m h2=> ?_,fun m n x y hx hy hne h1 h2=> ?_,fun n x hx h1=> ?_⟩
 ·have hq:m=0:=by
   rcases Nat.eq_zero_or_pos m with e|e
   ·exact e
   ·exfalso
    have hlen:0<x.st.length:=Nat.lt_of_lt_of_le e h2.le
    exact absurd (h2.lo 0 x.st[0] e (by simp)) (rep _)
  subst hq
  have:=hB n x hx (non x h1)
  simpa [hx]using this
 ·have:=hd m n x y hx hy hne (non x h1) (non y h2)
  simpa [hx,hy]using this
 ·have:=(x.bf 0).lt _ _ (hB n x hx (non x h1))
  simpa [hx]using this
theorem inv_seq {Q:Exit→Act→World→Prop} (C:Chk ops a0.tmps.size (B.map BR.key)) (hK1:∀a b,Kp a→Ext a b→Kp b)
    (hK2:∀a b T,Kp a→NoU a T→GB T a b→(n0≤T∨∃x∈B,x.al=none∧x.old=T)→Kp b)
    (hob:∀(i:Nat) (o:Oper),ops[i]? =some o→ObI P ops V B Kp a0 n0 i o)
    (hend:∀(l:Array Bool) (a:Act) (w:World) (vs:Nat→Value) (gs:Nat→Nat),Inv ops V B Kp a0 n0 l a w vs gs→(∀i,i<ops.size→l.getD i false=true)→Q .normal a w):
    ∀(k s:Nat) (l:Array Bool) (a:Act) (w:World),s+k=ops.size→(∀j,j<s→l.getD j false=true)→(∀j,s≤j→j<ops.size→l.getD j true=false)→(∃vs gs,Inv ops V B Kp a0 n0 l a w vs gs)→wpOps P ops Q (List.range' s k) a w
  |0,s,l,a,w,hs,h1,h2,⟨vs,gs,I⟩=>hend l a w vs gs I fun i hi=>h1 i (by omega)
  |k+1,s,l,a,w,hs,h1,h2,⟨vs,gs,I⟩=>by
    have hlt:s<ops.size:=by omega
    have hl:s<l.size:=by rw[I.sz];exact hlt
    rw[List.range'_succ,wpOps_cons]
    have ho:ops[s]? =some ops[s]:=by simp[hlt]
    refine wpOp_mono (fun a' w' hI=>inv_seq C hK1 hK2 hob hend k (s+1) _ a' w' (by omega) (fun j hj=> ?_) (fun j hj hj2=> ?_) hI) (inv_op (Q:=Q) C hK1 hK2 I ho (h2 s (Nat.le_refl _) hlt) (fun j hj=>h1 j (C.acy _ _ ho _ hj)) (hob s _ ho))
    · by_cases e:j=s
      · subst e;exact getD_self hl false
      · exact getD_set_true (h1 j (by omega))
    · rw[getD_set_ne true (by omega)]
      exact h2 j (by omega) hj2
theorem wp_region_facts {id:Nat} {d:Bool} {Q:Exit→Act→World→Prop} {w0:World} (V:Nat→VF) (B:List BR) (Kp:World→Prop) (L:List Nat) (hL:∀j,j<ops.size→j∈L) (hm:P.follows .mixedOrders=true)
    (hc:chk ops a0.tmps.size (B.map BR.key)=true) (hK1:∀a b,Kp a→Ext a b→Kp b)
    (hK2:∀a b T,Kp a→NoU a T→GB T a b→(w0.heap.size≤T∨∃x∈B,x.al=none∧x.old=T)→Kp b)
    (h0:Kp w0) (hB:∀(n:Nat) (x:BR),B[n]? =some x→x.al=none→(x.bf 0).p x.old w0)
    (hd:∀(m n:Nat) (x y:BR),B[m]? =some x→B[n]? =some y→m≠n→x.al=none→y.al=none→x.old≠y.old)
    (hob:∀(i:Nat) (o:Oper),ops[i]? =some o→ObI P ops V B Kp a0 w0.heap.size i o)
    (hend:EndI ops V B Kp a0 w0.heap.size L Q):(Code.region id ops d).wp P Q a0 w0:=by
 have C:=chk_spec hc
 cases d with
 |true=>
  exact wp_region_any hm (inv_any (B:=B) C hK1 hK2 hob (fun l a w vs gs I hall=>inv_final C hL hend I hall) ops.size _ a0 w0.drew ⟨_,_,inv_init (hK1 _ _ h0 (Ext.refl w0).drew) (Nat.le_refl _) (fun n x hx h=>(x.bf 0).ext _ _ _ (hB n x hx h) (Ext.refl w0).drew) hd⟩ (Nat.le_trans (List.length_filter_le _ _) (by simp)))
 |false=>
  refine wp_region ?_
  rw[List.range_eq_range']
  exact inv_seq (B:=B) C hK1 hK2 hob (fun l a w vs gs I hall=>inv_final C hL hend I hall) ops.size 0 (Array.replicate ops.size false) a0 w0 (by omega) (fun j hj=>by omega) (fun j _ hj=>by simp[Array.getD_eq_getD_getElem?,hj]) ⟨_,_,inv_init h0 (Nat.le_refl _) hB hd⟩
end
end
end Go.Proofs.YtaoioncjmfcolaaGreat
