/- Obligations of a region: boxes with known values, boxes with wide numb -/
import Derived.Test.YtaoioncjmfcolaaGreatV13
set_option linter.unusedSimpArgs false
set_option linter.unusedVariables false
set_option maxRecDepth 100000
namespace Go.Proofs.YtaoioncjmfcolaaGreat
open Go.RowKit
def BF.own (l:List Value):BF:=⟨fun g w=>(∀k v,l[k]? =some v→w.cell? ⟨g,k,none⟩=some v)∧(∀o,w.frozen? ⟨g,o,none⟩=false)∧NoU w g∧g<w.heap.size,
 fun g _ _ h k=>⟨fun j v hv=>(k.cells.1 g j h.2.2.2).trans (h.1 j v hv),fun o=>(k.cells.2 g o h.2.2.2).trans (h.2.1 o),h.2.2.1.ext h.2.2.2 k,Nat.lt_of_lt_of_le h.2.2.2 k.size⟩,
 fun g _ _ _ h _ k hne=>⟨fun j v hv=>(k.cell h.2.2.2 hne).trans (h.1 j v hv),fun o=>(k.frozen h.2.2.2 hne).trans (h.2.1 o),h.2.2.1.grown k h.2.2.2 hne,Nat.lt_of_lt_of_le h.2.2.2 k.size⟩,fun _ _ h=>h.2.2.1,fun _ _ h=>h.2.2.2⟩
def BF.b2:BF:=⟨fun g w=>Bx2 w g,fun _ _ _ h k=>h.ext k,fun _ _ _ _ h _ k hne=>h.grown k hne,fun _ _ h=>h.2.2.2.1,fun _ _ h=>h.2.2.2.2⟩
def BF.wat (n:Int):BF:=⟨fun g w=>WAt w g n,fun _ _ _ h k=>h.ext k,fun _ _ _ _ h hT k hne=>h.grown hT k hne,fun _ _ h=>h.noU,fun _ _ h=>h.lt⟩
theorem own_set {w:World} {g k:Nat} {l:List Value} {v:Value} (h:(BF.own l).p g w) (hk:k<l.length) (hv:∀z,v≠ .int .u32 z):(BF.own (l.set k v)).p g (w.setCell ⟨g,k,none⟩ v):=by
 obtain⟨h1,h2,h3,h4⟩:=h
 refine⟨fun j u hu=> ?_,fun o=>by rw[World.frozen?_setCell];exact h2 o,h3.set hv,by rw[World.size_setCell];exact h4⟩
 rw[cell_sc]
 by_cases e:j=k
 ·subst e
  rw[if_pos rfl,h1 j l[j] (by simp[hk])]
  rw[List.getElem?_set_self hk]at hu
  cases hu;rfl
 ·rw[if_neg (by simp[e])]
  rw[List.getElem?_set_ne (Ne.symm e)]at hu
  exact h1 j u hu
theorem own_new (w:World) (l:List Value) (T:TypeId) (h:∀v∈l,∀z,v≠ .int .u32 z):(BF.own l).p w.heap.size (w.alloc (.cells l.toArray T)):=by
 obtain⟨h1,h2,h3⟩:=BF.lit_new w l T h
 exact⟨h1,fun o=>by simp[go_sem],h2,h3⟩
theorem calls_err {P:Program} {f:Nat} {av:Array Value} {w:World} {n:Int} {F:Value→World→Prop} (h:Calls P f av w fun e w'=>∃u,e=.returned (.tuple #[u,O n])∧F u w'∧Ext w w'):
    Calls P f av w fun e w'=>∃u,e=.returned u∧(∃t,u=.tuple #[t,O n]∧F t w')∧Ext w w':=h.mono fun _ _ ⟨u,h1,h2,h3⟩=>⟨_,h1,⟨u,rfl,h2⟩,h3⟩
theorem calls_eq {P:Program} {f:Nat} {av:Array Value} {w:World} {v:Value} (h:Calls P f av w fun e w'=>e=.returned v∧Ext w w'):Calls P f av w fun e w'=>∃u,e=.returned u∧u=v∧Ext w w':=h.mono fun _ _ ⟨h1,h2⟩=>⟨_,h1,rfl,h2⟩
section
variable {ops:Array Oper} {V:Nat→VF} {B:List BR} {Kp:World→Prop} {a0:Act} {n0:Nat} {i:Nat} {o:Oper}
theorem Ctx.own {vs:Nat→Value} {gs:Nat→Nat} {w:World} (c:Ctx ops V B Kp n0 i o vs gs w) (n k:Nat) {g:Nat} {l:List Value} {v:Value} {st:List Nat} {bf:Nat→BF} (m:Nat:=0) (hx:B[n]? =some ⟨none,g,st,bf⟩:=by rfl) (hb:bf m=BF.own l:=by rfl) (hv:l[k]? =some v:=by rfl) (he:early ops st m i=true:=by kernel_rfl) (hl:late o st m=true:=by kernel_rfl):w.cell? ⟨g,k,none⟩=some v:=by
 have h:=c.b0 n m hx rfl he hl
 rw[show(BR.bf ⟨none,g,st,bf⟩ m)=BF.own l from hb]at h
 exact h.1 k v hv
theorem ob_new {n:Nat} {x:BR} (l:List Value) (T:TypeId) (hx:B[n]? =some x) (hc:ChkP ops a0 B) (hop:o.op=.alloc T) (hal:x.al=some i) (hb:x.bf 0=BF.own l)
    (hs:∀(ρ:Operand→Value) (w:World),(execOp ρ o).run Tryz.prog w=.ok (.value (.pointer (some ⟨w.heap.size,0,none⟩))) (w.alloc (.cells l.toArray T)):=by intro ρ w;go_simp) (hl:∀v∈l,∀z,v≠ .int .u32 z:=by simp) (hV:∀v w,(V i).p v w:=by exact fun _ _=>trivial)
    (hg:Gd ops V o:=by first|exact .inl rfl|exact .inr ⟨_,_,rfl,rfl,by kernel_rfl⟩) (ho:x.old=0:=by rfl):ObI Tryz.prog ops V B Kp a0 n0 i o:=
  ob_of hc hg fun vs gs w ρ hr c X hX=>by
    rw[hs]
    exact hX.out _ _ (hV _ _) (.alloc n x w.heap.size hx hal (by rw[ho];rfl) (Nat.le_refl _) ((Ext.refl w).alloc _) (by rw[hb];exact own_new w l T hl))
theorem ob_allocW {n:Nat} {x:BR} (hx:B[n]? =some x) (hc:ChkP ops a0 B) (hop:o.op=.alloc 24) (hal:x.al=some i) (hb:x.bf 0=BF.b2) (hV:∀v w,(V i).p v w:=by exact fun _ _=>trivial)
    (hg:Gd ops V o:=by first|exact .inl rfl|exact .inr ⟨_,_,rfl,rfl,by kernel_rfl⟩) (ho:x.old=0:=by rfl):ObI Tryz.prog ops V B Kp a0 n0 i o:=
  ob_of hc hg fun vs gs w ρ hr c X hX=>by
    obtain⟨dst,op,ty,pos,af,gd⟩:=o
    dsimp only at hop
    subst hop
    have e:(execOp ρ {dst:=dst,op:=.alloc 24,type:=ty,pos:=pos,after:=af,guard:=gd}).run Tryz.prog w=.ok (.value (.pointer (some ⟨w.heap.size,0,none⟩))) (w.alloc (.cells #[.bool false,.slice none 0 0] 24)):=by
      go_simp
    rw[e]
    exact hX.out _ _ (hV _ _) (.alloc n x w.heap.size hx hal (by rw[ho];rfl) (Nat.le_refl _) ((Ext.refl w).alloc _) (by rw[hb];exact Bx2.fresh w))
def BoxPtr (ops:Array Oper) (V:Nat→VF) (a0:Act) (o:Oper) (x:BR) (f:Nat) (y:Operand):Prop:=match x.al with
 |none=>∃p,Opd ops V a0 o y (.pointer (some ⟨x.old,f,none⟩)) p
 |some k=>(f,x.old)=(0,0)∧(∀vs,rho ops a0 o vs y=vs k)∧(needs o).contains k=true
theorem BoxPtr.get {x:BR} {f n m:Nat} {y:Operand} {vs:Nat→Value} {gs:Nat→Nat} {w:World} (h:BoxPtr ops V a0 o x f y) (c:Ctx ops V B Kp n0 i o vs gs w) (hx:B[n]? =some x) (hst:x.st[m]? =some i) (hl:late o x.st m=true):rho ops a0 o vs y=.pointer (some ⟨gs n,f,none⟩)∧(x.bf m).p (gs n) w:=by
 have hA:=c.b n x hx
 unfold BoxPtr at h
 cases hal:x.al with
 |none=>
  rw[hal]at h
  obtain⟨p,hp⟩:=h
  exact⟨by rw[hA.old hal];exact hp.get c (fun _=>rfl),hA.at' (.inl hal) m (late_spec hl) (.inr ⟨i,hst,.inl rfl⟩)⟩
 |some k=>
  rw[hal]at h
  obtain⟨h0,h1,h2⟩:=h
  obtain⟨rfl,ho⟩:=Prod.mk.inj h0
  have hm:k∈needs o:=by simpa using h2
  have hp:=(hA.ptr k hal hm).1
  rw[ho]at hp
  exact⟨(h1 vs).trans hp,hA.at' (.inr (.inl ⟨k,hal,hm⟩)) m (late_spec hl) (.inr ⟨i,hst,.inl rfl⟩)⟩
theorem ob_putW {y z:Operand} {n:Nat} {x:BR} {q:Int} (hx:B[n]? =some x) (j:Nat) (hc:ChkP ops a0 B) (hop:o.op=.store 24 y z) (m:Nat:=0) (hst:x.st[m]? =some i:=by rfl) (hb:x.bf (m+1)=BF.wat q:=by rfl) (hl:late o x.st m=true:=by kernel_rfl)
    (hy:BoxPtr ops V a0 o x 0 y:=by first|exact⟨rfl,fun _=>by kernel_rfl,by kernel_rfl⟩|exact⟨none,fun _=>by kernel_rfl⟩)
    (hz:∀vs,rho ops a0 o vs z=vs j:=by intro _;kernel_rfl) (hj:(needs o).contains j=true:=by kernel_rfl) (hVj:(V j).p=(VF.wid q).p:=by rfl) (h4:∀g w,(x.bf m).p g w→Bx2 w g:=by first|exact fun _ _ h=>h|exact fun _ _ h=>WAt.box h)
    (hV:∀v w,(V i).p v w:=by exact fun _ _=>trivial) (hg:Gd ops V o:=by first|exact .inl rfl|exact .inr ⟨_,_,rfl,rfl,by kernel_rfl⟩):ObI Tryz.prog ops V B Kp a0 n0 i o:=
  ob_of hc hg fun vs gs w ρ hr c X hX=>by
    obtain⟨h1,hb0⟩:=hy.get c hx hst hl
    have hv:=c.v j hj
    rw[hVj]at hv
    have hz':=(hr z).trans (hz vs)
    obtain⟨s,ao,l,cap,e,hw⟩:=Wid.open (show Wid w (vs j) q from hv)
    have e1:=(hr y).trans h1
    have e2:=hz'.trans e
    have hs:=(h4 _ _ hb0).store hw
    obtain⟨⟨xa,ea⟩,⟨xb,eb⟩,ef,en,el⟩:=h4 _ _ hb0
    obtain⟨dst,op,ty,pos,af,gd⟩:=o
    dsimp only at hop
    subst hop
    have e:(execOp ρ {dst:=dst,op:=.store 24 y z,type:=ty,pos:=pos,after:=af,guard:=gd}).run Tryz.prog w=.ok .skip ((w.setCell ⟨gs n,0,none⟩ (.bool s)).setCell ⟨gs n,1,none⟩ (.slice ao l cap)):=by
      clear hs hw c hX h1 hr hz' hv
      go_simp
    rw[e]
    exact hX.out _ _ (hV _ _) (.store n m x hx hst (((GB.refl (gs n) w).set _).set _) (by rw[hb];exact hs))
theorem ob_getW {x:Operand} (g:Nat) (q:Int) (hc:ChkP ops a0 B) (hop:o.op=.load 24 x)
    (h:∀(vs:Nat→Value) (gs:Nat→Nat) (w:World),Ctx ops V B Kp n0 i o vs gs w→WAt w g q) (hx:∀vs,rho ops a0 o vs x=.pointer (some ⟨g,0,none⟩):=by intro _;kernel_rfl) (hV:(V i).p=(VF.wid q).p:=by rfl)
    (hg:Gd ops V o:=by first|exact .inl rfl|exact .inr ⟨_,_,rfl,rfl,by kernel_rfl⟩) (hfr:free (B.map BR.key) i=true:=by kernel_rfl):ObI Tryz.prog ops V B Kp a0 n0 i o:=
  ob_val hc (fun vs gs w ρ hr c=>by
    have h2:=h vs gs w c
    obtain⟨s,u,e0,e1,e2, -⟩:=h2
    refine⟨.agg #[.bool s,u], ?_,by rw[hV];exact e2⟩
    obtain⟨dst,op,ty,pos,af,gd⟩:=o
    dsimp only at hop
    subst hop
    have h5:=(hr x).trans (hx vs)
    clear h e2 c hr
    go_simp) hg hfr
theorem ob_ld2 {x:Operand} {g f:Nat} {u0 u1:Value} (p:Option Nat) (hc:ChkP ops a0 B) (hop:o.op=.load 30 x) (h:∀(vs:Nat→Value) (gs:Nat→Nat) (w:World),Ctx ops V B Kp n0 i o vs gs w→w.cell? ⟨g,f,none⟩=some u0∧w.cell? ⟨g,f+1,none⟩=some u1)
    (ha:Opd ops V a0 o x (.pointer (some ⟨g,f,none⟩)) p:=by first|exact⟨fun _=>by kernel_rfl,rfl,by kernel_rfl⟩|exact fun _=>by kernel_rfl) (hV:(V i).p=(VF.eq (.agg #[u0,u1])).p:=by rfl) (hg:Gd ops V o:=by first|exact .inl rfl|exact .inr ⟨_,_,rfl,rfl,by kernel_rfl⟩) (hfr:free (B.map BR.key) i=true:=by kernel_rfl):ObI Tryz.prog ops V B Kp a0 n0 i o:=
  ob_val hc (fun vs gs w ρ hr c=>⟨.agg #[u0,u1],by
    have e1:=ha.get c hr
    obtain⟨k0,k1⟩:=h vs gs w c
    obtain⟨dst,op,ty,pos,af,gd⟩:=o
    dsimp only at hop
    subst hop
    clear c h hr ha
    go_simp,by rw[hV];rfl⟩) hg hfr
theorem run_put1 {y z:Operand} {ρ:Operand→Value} {w:World} {g f:Nat} {a:Int} {p:Value} (hop:o.op=.store 2 y z) (hy:ρ y=.pointer (some ⟨g,f,none⟩)) (hz:ρ z=O a) (c0:w.cell? ⟨g,f,none⟩=some p) (hf:∀o,w.frozen? ⟨g,o,none⟩=false):
    (execOp ρ o).run Tryz.prog w=.ok .skip (w.setCell ⟨g,f,none⟩ (O a)):=by
 obtain⟨dst,op,ty,pos,af,gd⟩:=o
 dsimp only at hop
 subst hop
 go_simp
theorem run_put2 {y z:Operand} {ρ:Operand→Value} {w:World} {g f:Nat} {a b:Int} {p q:Value} (hop:o.op=.store 30 y z) (hy:ρ y=.pointer (some ⟨g,f,none⟩)) (hz:ρ z=.agg #[O a,O b]) (c0:w.cell? ⟨g,f,none⟩=some p) (c1:w.cell? ⟨g,f+1,none⟩=some q) (hf:∀o,w.frozen? ⟨g,o,none⟩=false):
    (execOp ρ o).run Tryz.prog w=.ok .skip ((w.setCell ⟨g,f,none⟩ (O a)).setCell ⟨g,f+1,none⟩ (O b)):=by
 obtain⟨dst,op,ty,pos,af,gd⟩:=o
 dsimp only at hop
 subst hop
 go_simp
theorem ob_put2 {y z:Operand} {n:Nat} {x:BR} {l:List Value} {a b:Int} (f:Nat) (hx:B[n]? =some x) (p:Option Nat) (hc:ChkP ops a0 B) (hop:o.op=.store 30 y z) (m:Nat:=0) (hst:x.st[m]? =some i:=by rfl) (hl:late o x.st m=true:=by kernel_rfl) (hb0:x.bf m=BF.own l:=by rfl) (hb:x.bf (m+1)=BF.own ((l.set f (O a)).set (f+1) (O b)):=by rfl)
    (hf:f+1<l.length:=by decide) (hy:BoxPtr ops V a0 o x f y:=by first|exact⟨rfl,fun _=>by kernel_rfl,by kernel_rfl⟩|exact⟨none,fun _=>by kernel_rfl⟩)
    (hz:Opd ops V a0 o z (.agg #[O a,O b]) p:=by first|exact⟨fun _=>by kernel_rfl,rfl,by kernel_rfl⟩|exact fun _=>by kernel_rfl) (hV:∀v w,(V i).p v w:=by exact fun _ _=>trivial) (hg:Gd ops V o:=by first|exact .inl rfl|exact .inr ⟨_,_,rfl,rfl,by kernel_rfl⟩):ObI Tryz.prog ops V B Kp a0 n0 i o:=
  ob_of hc hg fun vs gs w ρ hr c X hX=>by
    obtain⟨h1,h0⟩:=hy.get c hx hst hl
    rw[hb0]at h0
    have h2:=own_set (own_set h0 (k:=f) (v:=O a) (by omega) (by simp)) (k:=f+1) (v:=O b) c_26 (by simp)
    rw[run_put2 hop ((hr y).trans h1) (hz.get c hr) (h0.1 f l[f] (by simp)) (h0.1 (f+1) l[f+1] (by simp)) h0.2.1]
    exact hX.out _ _ (hV _ _) (.store n m x hx hst (((GB.refl (gs n) w).set _).set _) (by rw[hb];exact h2))
theorem ob_put1 {y z:Operand} {n:Nat} {x:BR} {l:List Value} {a:Int} (f:Nat) (hx:B[n]? =some x) (p:Option Nat) (hc:ChkP ops a0 B) (hop:o.op=.store 2 y z) (m:Nat:=0) (hst:x.st[m]? =some i:=by rfl) (hl:late o x.st m=true:=by kernel_rfl) (hb0:x.bf m=BF.own l:=by rfl) (hb:x.bf (m+1)=BF.own (l.set f (O a)):=by rfl)
    (hf:f<l.length:=by decide) (hy:BoxPtr ops V a0 o x f y:=by first|exact⟨rfl,fun _=>by kernel_rfl,by kernel_rfl⟩|exact⟨none,fun _=>by kernel_rfl⟩)
    (hz:Opd ops V a0 o z (O a) p:=by first|exact⟨fun _=>by kernel_rfl,rfl,by kernel_rfl⟩|exact fun _=>by kernel_rfl) (hV:∀v w,(V i).p v w:=by exact fun _ _=>trivial) (hg:Gd ops V o:=by first|exact .inl rfl|exact .inr ⟨_,_,rfl,rfl,by kernel_rfl⟩):ObI Tryz.prog ops V B Kp a0 n0 i o:=
  ob_of hc hg fun vs gs w ρ hr c X hX=>by
    obtain⟨h1,h0⟩:=hy.get c hx hst hl
    rw[hb0]at h0
    have h2:=own_set h0 (k:=f) (v:=O a) (by omega) (by simp)
    rw[run_put1 hop ((hr y).trans h1) (hz.get c hr) (h0.1 f l[f] (by simp)) h0.2.1]
    exact hX.out _ _ (hV _ _) (.store n m x hx hst ((GB.refl (gs n) w).set _) (by rw[hb];exact h2))
def rgSetsL (g:Nat):Nat→List Value→World→World
 |_,[],w=>w
 |f,v::l,w=>rgSetsL g (f+1) l (w.setCell ⟨g,f,none⟩ v)
theorem own_sets {g:Nat}:∀(us:List Value) (f:Nat) (l:List Value) (w:World),(∀v∈us,∀z,v≠ .int .u32 z)→f+us.length=l.length→(BF.own l).p g w→(BF.own (l.take f++us)).p g (rgSetsL g f us w)∧GB g w (rgSetsL g f us w)
 | [],f,l,w,_,hl,h=>by
  refine⟨?_,GB.refl g w⟩
  rw[List.append_nil,List.take_of_length_le (by simp at hl;omega)]
  exact h
 |v::us,f,l,w,hu,hl,h=>by
  rw[List.length_cons]at hl
  have h1:=own_set h (k:=f) (v:=v) (by omega) (hu v (by simp))
  obtain⟨h2,h3⟩:=own_sets us (f+1) (l.set f v) _ (fun x hx=>hu x (by simp[hx])) (by rw[List.length_set];omega) h1
  refine⟨?_,((GB.refl g w).set v).trans h3⟩
  have e:(l.set f v).take (f+1)++us=l.take f++v::us:=by
   rw[List.take_add_one,List.take_set_of_le (Nat.le_refl _),List.getElem?_set_self (by omega)]
   simp
  rw[e]at h2
  exact h2
theorem ob_putV {y z:Operand} {n:Nat} {x:BR} {l us:List Value} {T:TypeId} (hx:B[n]? =some x) (p:Option Nat) (hc:ChkP ops a0 B) (hop:o.op=.store T y z) (hb:x.bf 1=BF.own us) (hst:x.st[0]? =some i:=by rfl) (hl:late o x.st 0=true:=by kernel_rfl) (hb0:x.bf 0=BF.own l:=by rfl)
    (hlen:us.length=l.length:=by rfl) (hu:∀v∈us,∀z,v≠ .int .u32 z:=by simp) (hs:∀(ρ:Operand→Value) (w:World) (g:Nat),ρ y=.pointer (some ⟨g,0,none⟩)→ρ z=.agg us.toArray→(∀k v,l[k]? =some v→w.cell? ⟨g,k,none⟩=some v)→(∀o,w.frozen? ⟨g,o,none⟩=false)→(execOp ρ o).run Tryz.prog w=.ok .skip (rgSetsL g 0 us w):=by
      intro ρ w g h k hc hf;(try have e0:=hc 0 _ rfl);(try have e1:=hc 1 _ rfl);(try have e2:=hc 2 _ rfl);(try have e3:=hc 3 _ rfl);(try have e4:=hc 4 _ rfl);(try have e5:=hc 5 _ rfl);clear hc;go_simp;(try rfl))
    (hy:BoxPtr ops V a0 o x 0 y:=by first|exact⟨rfl,fun _=>by kernel_rfl,by kernel_rfl⟩|exact⟨none,fun _=>by kernel_rfl⟩)
    (hz:Opd ops V a0 o z (.agg us.toArray) p:=by first|exact⟨fun _=>by kernel_rfl,rfl,by kernel_rfl⟩|exact fun _=>by kernel_rfl) (hV:∀v w,(V i).p v w:=by exact fun _ _=>trivial) (hg:Gd ops V o:=by first|exact .inl rfl|exact .inr ⟨_,_,rfl,rfl,by kernel_rfl⟩):ObI Tryz.prog ops V B Kp a0 n0 i o:=
  ob_of hc hg fun vs gs w ρ hr c X hX=>by
    obtain⟨h1,h0⟩:=hy.get c hx hst hl
    rw[hb0]at h0
    obtain⟨h2,h3⟩:=own_sets us 0 l w hu (by omega) h0
    rw[hs ρ w (gs n) ((hr y).trans h1) (hz.get c hr) h0.1 h0.2.1]
    exact hX.out _ _ (hV _ _) (.store n 0 x hx hst h3 (by rw[hb];simpa using h2))
end
theorem KBd.own {w0 a:World} {l:List (Nat×BF)} (h:KBd w0 l a) (n k:Nat) {g:Nat} {m:List Value} {v:Value} (hx:l[n]? =some (g,BF.own m):=by rfl) (hv:m[k]? =some v:=by rfl):a.cell? ⟨g,k,none⟩=some v:=(h.at n hx).1 k v hv
theorem KBd.lit {w0 a:World} {l:List (Nat×BF)} (h:KBd w0 l a) (n k:Nat) {g:Nat} {m:List Value} {v:Value} (hx:l[n]? =some (g,BF.lit m):=by rfl) (hv:m[k]? =some v:=by rfl):a.cell? ⟨g,k,none⟩=some v:=(h.at n hx).1 k v hv
end Go.Proofs.YtaoioncjmfcolaaGreat
namespace Go.Proofs.YtaoioncjmfcolaaGreat
open Go.RowKit
section
variable {ops:Array Oper} {V:Nat→VF} {B:List BR} {Kp:World→Prop} {a0:Act} {n0:Nat} {i:Nat} {o:Oper}
theorem ob_callB {f:Nat} {args:Array Operand} {tys:Array TypeId} {n:Nat} {x:BR} (m:Nat) (g:Nat) (av:(Nat→Value)→List Value) (hx:B[n]? =some x) (hc:ChkP ops a0 B) (hop:o.op=.call ⟨.value (.func f),args,tys⟩)
    (h:∀(vs:Nat→Value) (gs:Nat→Nat) (w:World),Ctx ops V B Kp n0 i o vs gs w→(x.bf m).p g w→K_ f (av vs).toArray w fun e w'=>∃u,e=.returned u∧(V i).p u w'∧GB g w w'∧(x.bf (m+1)).p g w')
    (hal:x.al=none:=by rfl) (hgo:x.old=g:=by rfl) (hst:x.st[m]? =some i:=by rfl) (hl:late o x.st m=true:=by kernel_rfl)
    (hg:Gd ops V o:=by first|exact .inl rfl|exact .inr ⟨_,_,rfl,rfl,by kernel_rfl⟩) (has:∀vs,args.toList.map (rho ops a0 o vs)=av vs:=by intro vs;kernel_rfl) (hp:plainFn Tryz.prog f=true:=by kernel_rfl):ObI Tryz.prog ops V B Kp a0 n0 i o:=
  ob_of hc hg fun vs gs w ρ hr c X hX=>by
    have hA:=c.b n x hx
    have e0:gs n=g:=(hA.old hal).trans hgo
    have hb:=hA.at' (.inl hal) m (late_spec hl) (.inr ⟨i,hst,.inl rfl⟩)
    rw[e0]at hb
    refine eff_call hop (by rw[hr];rfl) hp ?_
    have e:args.map ρ=(av vs).toArray:=by
      rw[←has vs, ←List.map_toArray,Array.toArray_toList]
      exact Array.map_congr_left fun x _=>hr x
    rw[e]
    refine(h vs gs w c hb).mono ?_
    rintro e w' ⟨u,rfl,hu,hb1,hb2⟩
    exact⟨u,rfl,hX.out _ _ hu (.store n m x hx hst (by rw[e0];exact hb1) (by rw[e0];exact hb2))⟩
end
theorem gb_in {p T:Nat} {a b c:World} (h:GB p a b) (k:GB T b c) (hT:a.heap.size≤T∨T=p):GB p a c:=by
 rcases hT with hT|rfl
 ·exact⟨(World.grownBy.os k).trans (World.grownBy.os h),(World.grownBy.tape k).trans (World.grownBy.tape h),(World.grownBy.output k).trans (World.grownBy.output h),Nat.le_trans h.size k.size,fun i hi hne=>(World.grownBy.block k i (Nat.lt_of_lt_of_le hi h.size) (fun e=>by cases e;omega)).trans (World.grownBy.block h i hi hne)⟩
 ·exact h.trans k
structure KBp (p:Nat) (w0:World) (l:List (Nat×BF)) (w:World):Prop where
 e:GB p w0 w
 b:Bxs l w
 nd:(l.map (·.1)).Nodup
 ge:∀x∈l,w0.heap.size≤x.1∨x.1=p
theorem KBp.ext {p:Nat} {w0 a b:World} {l:List (Nat×BF)} (h:KBp p w0 l a) (k:Ext a b):KBp p w0 l b:=⟨h.e.trans (GB.ext k),Bxs.of fun x hx=>x.2.ext _ _ _ (h.b.mem x hx) k,h.nd,h.ge⟩
theorem KBp.take {p:Nat} {w0 a:World} {l:List (Nat×BF)} (h:KBp p w0 l a) (n:Nat):KBp p w0 (l.take n) a:=
 ⟨h.e,Bxs.of fun x hx=>h.b.mem x (List.mem_of_mem_take hx),(h.nd.sublist ((List.take_sublist n l).map _)),fun x hx=>h.ge x (List.mem_of_mem_take hx)⟩
theorem KBp.at {p:Nat} {w0 a:World} {l:List (Nat×BF)} (h:KBp p w0 l a) (n:Nat) {x:Nat×BF} (hx:l[n]? =some x:=by rfl):x.2.p x.1 a:=h.b.mem x (List.mem_of_getElem? hx)
theorem KBp.own {p:Nat} {w0 a:World} {l:List (Nat×BF)} (h:KBp p w0 l a) (n k:Nat) {g:Nat} {m:List Value} {v:Value} (hx:l[n]? =some (g,BF.own m):=by rfl) (hv:m[k]? =some v:=by rfl):a.cell? ⟨g,k,none⟩=some v:=(h.at n hx).1 k v hv
theorem KBp.lit {p:Nat} {w0 a:World} {l:List (Nat×BF)} (h:KBp p w0 l a) (n k:Nat) {g:Nat} {m:List Value} {v:Value} (hx:l[n]? =some (g,BF.lit m):=by rfl) (hv:m[k]? =some v:=by rfl):a.cell? ⟨g,k,none⟩=some v:=(h.at n hx).1 k v hv
section
variable {V:Nat→VF} {B:List BR} {a0:Act} {w0:World}
theorem wp_regQ {id:Nat} {d:Bool} {Q:Exit→Act→World→Prop} {l:List Oper} (p:Nat) (w:World) (V:Nat→VF) (B:List BR) (hk:GB p w w0)
    (hob:ChkP l.toArray a0 B→ObAll Tryz.prog l.toArray V B (GB p w) a0 w0.heap.size 0 l)
    (hend:∀(vs:Nat→Value) (gs:Nat→Nat) (w':World),GB p w w'→w0.heap.size≤w'.heap.size→(∀i,i<l.length→(V i).p (vs i) w')→Fin l.length B w0.heap.size vs gs w'→Q .normal (putS vs 0 l a0) w')
    (hold:∀(n:Nat) (x:BR),B[n]? =some x→x.al=none→(w.heap.size≤x.old∨x.old=p)∧(x.bf 0).p x.old w0)
    (hd:∀(m n:Nat) (x y:BR),B[m]? =some x→B[n]? =some y→m≠n→x.al=none→y.al=none→x.old≠y.old)
    (hm:Tryz.prog.follows .mixedOrders=true:=by kernel_rfl)
    (hc:chk l.toArray a0.tmps.size (B.map BR.key)=true:=by kernel_rfl):(Code.region id l.toArray d).wp Tryz.prog Q a0 w0:=by
 refine wp_region_facts V B (GB p w) ((List.range' 0 l.length).reverse++[]) (fun j hj=>by simpa using hj) hm hc (fun a b h k=>h.trans (GB.ext k)) (fun a b T h hT k hor=> ?_) hk (fun n x hx hal=>(hold n x hx hal).2) hd (ob_all (hob hc)) (fun vs gs w' h1 h2 h3 h4 h5=> ?_)
 ·rcases hor with h1| ⟨x,hx,h1,rfl⟩
  ·exact gb_in h k (.inl (Nat.le_trans hk.size h1))
  ·obtain⟨n,hn⟩:=List.getElem?_of_mem hx
   exact gb_in h k (hold n x hn h1).1
 ·rw[←putS_eq l.toArray vs l 0 [] a0 (fun i o ho=>by simpa using ho)]
  rw[List.size_toArray]at h3
  refine hend vs gs w' h1 h2 h3 ⟨fun m x hx=>(h4 m x hx).1,fun m x hx k hk hlt=>(h4 m x hx).2.1 k hk (by simpa using hlt),fun m x hx hk hs=>(h4 m x hx).2.2 (fun k e=>by simpa using hk k e) (fun s e=>by simpa using hs s e),fun m k x y hx hy hne h6 h7=>h5 m k x y hx hy hne (fun j e=>by simpa using h6 j e) (fun j e=>by simpa using h7 j e)⟩
end
section
variable {a0:Act} {w0:World}
theorem wp_regP {p:Nat} {id:Nat} {d:Bool} {Q:Exit→Act→World→Prop} {l:List Oper} {w:World} {L:List (Nat×BF)} (u:List (List (Nat×BF))) (F:List FB) (V:Nat→VF) (hk:KBp p w L w0)
    (hob:ChkP l.toArray a0 (oldB L u++F.map FB.br)→ObAll Tryz.prog l.toArray V (oldB L u++F.map FB.br) (GB p w) a0 w0.heap.size 0 l)
    (hend:∀(vs:Nat→Value) (gl:Nat→Nat) (w':World),KBp p w (updB L u++newB F gl) w'→(∀i,i<l.length→(V i).p (vs i) w')→(∀(k:Nat) (f:FB),F[k]? =some f→vs f.al=shp f.br.old (gl k))→Q .normal (putS vs 0 l a0) w')
    (hm:Tryz.prog.follows .mixedOrders=true:=by kernel_rfl)
    (hc:chk l.toArray a0.tmps.size ((oldB L u++F.map FB.br).map BR.key)=true:=by kernel_rfl)
    (hr:inR l.length ((oldB L u++F.map FB.br).map BR.key)=true:=by kernel_rfl):(Code.region id l.toArray d).wp Tryz.prog Q a0 w0:=by
 refine wp_regQ p w V (oldB L u++F.map FB.br) hk.e hob (fun vs gs w' h1 h2 h3 h4=> ?_) (fun n x hx hal=> ?_) (fun m n x y hx hy hne h1 h2=> ?_) hm hc
 ·have ex:∀(m:Nat) (x:BR),(oldB L u++F.map FB.br)[m]? =some x→(∀k,x.al=some k→k<l.length):=fun m x hx=>(inR_spec hr hx).1
  have ss:∀(m:Nat) (x:BR),(oldB L u++F.map FB.br)[m]? =some x→(∀k∈x.st,k<l.length):=fun m x hx=>(inR_spec hr hx).2
  have bx:∀(m:Nat) (x:BR),(oldB L u++F.map FB.br)[m]? =some x→(x.bf x.st.length).p (gs m) w':=fun m x hx=>h4.post m x hx (ex m x hx) (ss m x hx)
  -- the new list, by its numbers
  have get:∀m,(updB L u++newB F fun k=>gs (L.length+k))[m]? =((oldB L u++F.map FB.br)[m]?).map fun x=>(gs m,x.bf x.st.length):=by
   intro m
   by_cases hml:m<L.length
   ·rw[List.getElem?_append_left (by rw[updB_len];exact hml),List.getElem?_append_left (by rw[oldB_len];exact hml),updB_get,oldB_get,Option.map_map]
    cases hy:L[m]? with
    |none=>rfl
    |some y=>
     have hx:(oldB L u++F.map FB.br)[m]? =some (mkO y ((u[m]?).getD [])):=by
      rw[List.getElem?_append_left (by rw[oldB_len];exact hml),oldB_get,hy];rfl
     have h5:=h4.old m _ hx (mkO_old _ _).1
     rw[(mkO_old _ _).2.1]at h5
     simp only[Option.map_some,Function.comp,h5,lastB]
     simp[mkO]
   ·rw[List.getElem?_append_right (by rw[updB_len];omega),List.getElem?_append_right (by rw[oldB_len];omega),updB_len,oldB_len,newB_get,List.getElem?_map,Option.map_map]
    cases F[m-L.length]? with
    |none=>rfl
    |some f=>
     simp only[Option.map_some,Function.comp]
     rw[show L.length+(m-L.length)=m by omega]
     rw[FB.br_end]
     rfl
  refine hend vs (fun k=>gs (L.length+k)) w' ⟨h1,Bxs.of fun x hx=> ?_, ?_,fun x hx=> ?_⟩ h3 (fun k f hf=> ?_)
  ·obtain⟨m,hm'⟩:=List.getElem?_of_mem hx
   rw[get,Option.map_eq_some_iff]at hm'
   obtain⟨y,h5,rfl⟩:=hm'
   exact bx m y h5
  ·rw[List.nodup_iff_pairwise_ne,List.pairwise_iff_getElem]
   intro i j hi hj hij
   rw[List.length_map]at hi hj
   rw[List.getElem_map,List.getElem_map]
   have gi:=get i
   have gj:=get j
   rw[List.getElem?_eq_getElem hi]at gi
   rw[List.getElem?_eq_getElem hj]at gj
   obtain⟨x,hx,ex'⟩:=Option.map_eq_some_iff.1 gi.symm
   obtain⟨y,hy,ey'⟩:=Option.map_eq_some_iff.1 gj.symm
   rw[←ex', ←ey']
   exact h4.ne i j x y hx hy (by omega) (ex i x hx) (ex j y hy)
  ·obtain⟨m,hm'⟩:=List.getElem?_of_mem hx
   rw[get,Option.map_eq_some_iff]at hm'
   obtain⟨y,h5,rfl⟩:=hm'
   dsimp only
   rcases box_at h5 with⟨h6,z,h7,rfl⟩| ⟨h6,f,h7,rfl⟩
   ·rw[h4.old m _ h5 (mkO_old _ _).1,(mkO_old _ _).2.1]
    exact hk.ge z (List.mem_of_getElem? h7)
   ·exact .inl (Nat.le_trans hk.e.size (h4.ptr m _ h5 f.al rfl (ex m _ h5 _ rfl)).2)
  ·have hx:(oldB L u++F.map FB.br)[L.length+k]? =some f.br:=by
    rw[List.getElem?_append_right (by rw[oldB_len];omega),oldB_len,List.getElem?_map,show L.length+k-L.length=k by omega,hf];rfl
   exact(h4.ptr _ _ hx f.al rfl (ex _ _ hx _ rfl)).1
 ·rcases box_at hx with⟨h6,z,h7,rfl⟩| ⟨h6,f,h7,rfl⟩
  ·obtain⟨-,e1,e2⟩:=mkO_old z ((u[n]?).getD [])
   rw[e1,e2]
   exact⟨hk.ge z (List.mem_of_getElem? h7),hk.b.mem z (List.mem_of_getElem? h7)⟩
  ·cases hal
 ·rcases box_at hx with⟨h6,z,h7,rfl⟩| ⟨h6,f,h7,rfl⟩
  ·rcases box_at hy with⟨h8,z',h9,rfl⟩| ⟨h8,f,h9,rfl⟩
   ·rw[(mkO_old _ _).2.1,(mkO_old _ _).2.1]
    have hnd:=hk.nd
    rw[List.nodup_iff_pairwise_ne,List.pairwise_iff_getElem]at hnd
    have a1:=(List.getElem?_eq_some_iff.1 h7).2
    have a2:=(List.getElem?_eq_some_iff.1 h9).2
    rcases Nat.lt_or_gt_of_ne hne with hlt|hlt
    ·have:=hnd m n (by simpa using h6) (by simpa using h8) hlt
     rw[List.getElem_map,List.getElem_map,a1,a2]at this
     exact this
    ·have:=hnd n m (by simpa using h8) (by simpa using h6) hlt
     rw[List.getElem_map,List.getElem_map,a1,a2]at this
     exact fun e=>this e.symm
   ·cases h2
  ·cases h1
end
end Go.Proofs.YtaoioncjmfcolaaGreat
namespace Go.Proofs.YtaoioncjmfcolaaGreat
open Go.RowKit
section
variable {ops:Array Oper} {V:Nat→VF} {B:List BR} {Kp:World→Prop} {a0:Act} {n0:Nat} {i:Nat} {o:Oper}
theorem oT {a u:Value} (t p:Nat) (hc:ChkP ops a0 B) (hA:V p=VF.eq a:=by exact rfl) (hV:V i=VF.eq u:=by exact rfl) (hs:∀(ρ:Operand→Value) (w:World),ρ (.tmp t)=a→(execOp ρ o).run Tryz.prog w=.ok (.value u) w:=by intro ρ w h;go_simp)
    (hx:∀vs,rho ops a0 o vs (.tmp t)=vs p:=by intro _;kernel_rfl) (hj:(needs o).contains p=true:=by kernel_rfl) (hg:Gd ops V o:=by first|exact .inl rfl|exact .inr ⟨_,_,rfl,rfl,by kernel_rfl⟩) (hfr:free (B.map BR.key) i=true:=by kernel_rfl):ObI Tryz.prog ops V B Kp a0 n0 i o:=
  ob_e1 (some p) hc hs ⟨hx,by rw[hA],hj⟩ (by rw[hV]) hg hfr
theorem oN {u:Value} (x:Operand) (a:Value) (hc:ChkP ops a0 B) (hV:V i=VF.eq u:=by exact rfl) (hs:∀(ρ:Operand→Value) (w:World),ρ x=a→(execOp ρ o).run Tryz.prog w=.ok (.value u) w:=by intro ρ w h;go_simp)
    (hx:∀vs,rho ops a0 o vs x=a:=by intro _;kernel_rfl) (hg:Gd ops V o:=by first|exact .inl rfl|exact .inr ⟨_,_,rfl,rfl,by kernel_rfl⟩) (hfr:free (B.map BR.key) i=true:=by kernel_rfl):ObI Tryz.prog ops V B Kp a0 n0 i o:=
  ob_e1 none hc hs hx (by rw[hV]) hg hfr
theorem oTT {a b u:Value} (t p s q:Nat) (hc:ChkP ops a0 B) (hA:V p=VF.eq a:=by exact rfl) (hB:V q=VF.eq b:=by exact rfl) (hV:V i=VF.eq u:=by exact rfl) (hs:∀(ρ:Operand→Value) (w:World),ρ (.tmp t)=a→ρ (.tmp s)=b→(execOp ρ o).run Tryz.prog w=.ok (.value u) w:=by intro ρ w h k;go_simp)
    (hx:∀vs,rho ops a0 o vs (.tmp t)=vs p:=by intro _;kernel_rfl) (hj:(needs o).contains p=true:=by kernel_rfl) (hy:∀vs,rho ops a0 o vs (.tmp s)=vs q:=by intro _;kernel_rfl) (hk:(needs o).contains q=true:=by kernel_rfl) (hg:Gd ops V o:=by first|exact .inl rfl|exact .inr ⟨_,_,rfl,rfl,by kernel_rfl⟩) (hfr:free (B.map BR.key) i=true:=by kernel_rfl):ObI Tryz.prog ops V B Kp a0 n0 i o:=
  ob_e2 (some p) (some q) hc hs ⟨hx,by rw[hA],hj⟩ ⟨hy,by rw[hB],hk⟩ (by rw[hV]) hg hfr
theorem oTN {a u:Value} (t p:Nat) (y:Operand) (b:Value) (hc:ChkP ops a0 B) (hA:V p=VF.eq a:=by exact rfl) (hV:V i=VF.eq u:=by exact rfl) (hs:∀(ρ:Operand→Value) (w:World),ρ (.tmp t)=a→ρ y=b→(execOp ρ o).run Tryz.prog w=.ok (.value u) w:=by intro ρ w h k;go_simp)
    (hx:∀vs,rho ops a0 o vs (.tmp t)=vs p:=by intro _;kernel_rfl) (hj:(needs o).contains p=true:=by kernel_rfl) (hy:∀vs,rho ops a0 o vs y=b:=by intro _;kernel_rfl) (hg:Gd ops V o:=by first|exact .inl rfl|exact .inr ⟨_,_,rfl,rfl,by kernel_rfl⟩) (hfr:free (B.map BR.key) i=true:=by kernel_rfl):ObI Tryz.prog ops V B Kp a0 n0 i o:=
  ob_e2 (some p) none hc hs ⟨hx,by rw[hA],hj⟩ hy (by rw[hV]) hg hfr
theorem oNT {b u:Value} (x:Operand) (a:Value) (s q:Nat) (hc:ChkP ops a0 B) (hB:V q=VF.eq b:=by exact rfl) (hV:V i=VF.eq u:=by exact rfl) (hs:∀(ρ:Operand→Value) (w:World),ρ x=a→ρ (.tmp s)=b→(execOp ρ o).run Tryz.prog w=.ok (.value u) w:=by intro ρ w h k;go_simp)
    (hx:∀vs,rho ops a0 o vs x=a:=by intro _;kernel_rfl) (hy:∀vs,rho ops a0 o vs (.tmp s)=vs q:=by intro _;kernel_rfl) (hk:(needs o).contains q=true:=by kernel_rfl) (hg:Gd ops V o:=by first|exact .inl rfl|exact .inr ⟨_,_,rfl,rfl,by kernel_rfl⟩) (hfr:free (B.map BR.key) i=true:=by kernel_rfl):ObI Tryz.prog ops V B Kp a0 n0 i o:=
  ob_e2 none (some q) hc hs hx ⟨hy,by rw[hB],hk⟩ (by rw[hV]) hg hfr
theorem oNN {u:Value} (x:Operand) (a:Value) (y:Operand) (b:Value) (hc:ChkP ops a0 B) (hV:V i=VF.eq u:=by exact rfl) (hs:∀(ρ:Operand→Value) (w:World),ρ x=a→ρ y=b→(execOp ρ o).run Tryz.prog w=.ok (.value u) w:=by intro ρ w h k;go_simp)
    (hx:∀vs,rho ops a0 o vs x=a:=by intro _;kernel_rfl) (hy:∀vs,rho ops a0 o vs y=b:=by intro _;kernel_rfl) (hg:Gd ops V o:=by first|exact .inl rfl|exact .inr ⟨_,_,rfl,rfl,by kernel_rfl⟩) (hfr:free (B.map BR.key) i=true:=by kernel_rfl):ObI Tryz.prog ops V B Kp a0 n0 i o:=
  ob_e2 none none hc hs hx hy (by rw[hV]) hg hfr
theorem oL {g f G F:Nat} {u U:Value} (t p:Nat) (hc:ChkP ops a0 B) (h:∀(vs:Nat→Value) (gs:Nat→Nat) (w:World),Ctx ops V B Kp n0 i o vs gs w→w.cell? ⟨G,F,none⟩=some U) (hA:V p=VF.eq (.pointer (some ⟨g,f,none⟩)):=by exact rfl) (hV:V i=VF.eq u:=by exact rfl)
    (hG:G=g:=by exact rfl) (hF:F=f:=by exact rfl) (hU:U=u:=by exact rfl) (hs:∀(ρ:Operand→Value) (w:World),ρ (.tmp t)=.pointer (some ⟨g,f,none⟩)→w.cell? ⟨g,f,none⟩=some u→(execOp ρ o).run Tryz.prog w=.ok (.value u) w:=by intro ρ w h k;go_simp)
    (hx:∀vs,rho ops a0 o vs (.tmp t)=vs p:=by intro _;kernel_rfl) (hj:(needs o).contains p=true:=by kernel_rfl) (hg:Gd ops V o:=by first|exact .inl rfl|exact .inr ⟨_,_,rfl,rfl,by kernel_rfl⟩) (hfr:free (B.map BR.key) i=true:=by kernel_rfl):ObI Tryz.prog ops V B Kp a0 n0 i o:=by
 subst hG hF hU
 exact ob_ld (some p) hc h hs ⟨hx,by rw[hA],hj⟩ (by rw[hV]) hg hfr
end
def AllV (l:List VF) (vs:Nat→Value) (w:World):List Nat→Prop
 | []=>True
 |i::r=>(l.getD i VF.any).p (vs i) w∧AllV l vs w r
def AllP (vs:Nat→Value):List FB→List Nat→Prop
 |f::F,g::r=>vs f.al=shp f.len g∧AllP vs F r
 |_,_=>True
def newL:List FB→List Nat→List (Nat×BF)
 |f::F,g::r=>(g,f.bf)::newL F r
 |_,_=>[]
def NB:List FB→(List Nat→Prop)→Prop
 | [],k=>k []
 |_::F,k=>∀g:Nat,NB F fun r=>k (g::r)
theorem nb_out:∀(F:List FB) (k:List Nat→Prop) (gl:Nat→Nat),NB F k→∃r,k r∧newL F r=newB F gl∧∀vs:Nat→Value,(∀(m:Nat) (f:FB),F[m]? =some f→vs f.al=shp f.len (gl m))→AllP vs F r
 | [],k,gl,h=>⟨[],h,rfl,fun _ _=>trivial⟩
 |f::F,k,gl,h=>by
  obtain⟨r,h1,h2,h3⟩:=nb_out F (fun r=>k (gl 0::r)) (fun m=>gl (m+1)) (h (gl 0))
  exact⟨gl 0::r,h1,by simp only[newL,newB,h2],fun vs hv=>⟨hv 0 f rfl,h3 vs fun m x hx=>hv (m+1) x (by simpa using hx)⟩⟩
theorem allV_of {l:List VF} {vs:Nat→Value} {w:World} {n:Nat} (h:∀i,i<n→(l.getD i VF.any).p (vs i) w):∀L:List Nat,(L.all fun i=>decide (i<n))=true→AllV l vs w L
 | [],_=>trivial
 |i::r,hr=>by
  rw[List.all_cons,Bool.and_eq_true,decide_eq_true_eq]at hr
  exact⟨h i hr.1,allV_of h r hr.2⟩
section
variable {a0:Act} {w0:World}
theorem rB {id:Nat} {d:Bool} {Q:Exit→Act→World→Prop} {l:List Oper} {w:World} {L:List (Nat×BF)} (u:List (List (Nat×BF))) (F:List FB) (vl:List VF) (J:List Nat) (hk:KBd w L w0)
    (hob:ChkP l.toArray a0 (oldB L u++F.map FB.br)→ObAll Tryz.prog l.toArray (fun z=>vl.getD z VF.any) (oldB L u++F.map FB.br) (KB w []) a0 w0.heap.size 0 l)
    (hend:NB F fun r=>∀(vs:Nat→Value) (w':World),KBd w (updB L u++newL F r) w'→AllP vs F r→AllV vl vs w' J→Q .normal (putS vs 0 l a0) w')
    (hm:Tryz.prog.follows .mixedOrders=true:=by kernel_rfl)
    (hc:chk l.toArray a0.tmps.size ((oldB L u++F.map FB.br).map BR.key)=true:=by kernel_rfl)
    (hr:inR l.length ((oldB L u++F.map FB.br).map BR.key)=true:=by kernel_rfl) (hJ:(J.all fun i=>decide (i<l.length))=true:=by kernel_rfl):(Code.region id l.toArray d).wp Tryz.prog Q a0 w0:=
  wp_regB u F _ hk hob (fun vs gl w' h hv hp=>by
    obtain⟨r,h1,h2,h3⟩:=nb_out F _ gl hend
    exact h1 vs w' (by rw[h2];exact h) (h3 vs hp) (allV_of hv J hJ)) hm hc hr
theorem rP {p:Nat} {id:Nat} {d:Bool} {Q:Exit→Act→World→Prop} {l:List Oper} {w:World} {L:List (Nat×BF)} (u:List (List (Nat×BF))) (F:List FB) (vl:List VF) (J:List Nat) (hk:KBp p w L w0)
    (hob:ChkP l.toArray a0 (oldB L u++F.map FB.br)→ObAll Tryz.prog l.toArray (fun z=>vl.getD z VF.any) (oldB L u++F.map FB.br) (GB p w) a0 w0.heap.size 0 l)
    (hend:NB F fun r=>∀(vs:Nat→Value) (w':World),KBp p w (updB L u++newL F r) w'→AllP vs F r→AllV vl vs w' J→Q .normal (putS vs 0 l a0) w')
    (hm:Tryz.prog.follows .mixedOrders=true:=by kernel_rfl)
    (hc:chk l.toArray a0.tmps.size ((oldB L u++F.map FB.br).map BR.key)=true:=by kernel_rfl)
    (hr:inR l.length ((oldB L u++F.map FB.br).map BR.key)=true:=by kernel_rfl) (hJ:(J.all fun i=>decide (i<l.length))=true:=by kernel_rfl):(Code.region id l.toArray d).wp Tryz.prog Q a0 w0:=
  wp_regP u F _ hk hob (fun vs gl w' h hv hp=>by
    obtain⟨r,h1,h2,h3⟩:=nb_out F _ gl hend
    exact h1 vs w' (by rw[h2];exact h) (h3 vs hp) (allV_of hv J hJ)) hm hc hr
end
theorem nl_:(∀r,newL [] r=[])∧(∀(f:FB) (F:List FB) (g:Nat) (r:List Nat),newL (f::F) (g::r)=(g,f.bf)::newL F r):=⟨fun r=>rfl,fun _ _ _ _=>rfl⟩
theorem ap_:(∀(vs:Nat→Value) r,AllP vs [] r=True)∧(∀(vs:Nat→Value) (k:Nat) (b c:BF) (F:List FB) (g:Nat) (r:List Nat),AllP vs (⟨k,none,b,c⟩::F) (g::r)=(vs k=.pointer (some ⟨g,0,none⟩)∧AllP vs F r))∧(∀(vs:Nat→Value) (k s:Nat) (b c:BF) (F:List FB) (g:Nat) (r:List Nat),AllP vs (⟨k,some s,b,c⟩::F) (g::r)=(vs k=shp (k+1-s) g∧AllP vs F r))∧(∀g,shp 0 g=.pointer (some ⟨g,0,none⟩))∧(∀n g,shp (n+1) g=.slice (some ⟨g,0,none⟩) (n+1) (n+1)):=
 ⟨fun _ _=>rfl,fun _ _ _ _ _ _ _=>rfl,fun _ _ _ _ _ _ _ _=>rfl,fun _=>rfl,fun _ _=>rfl⟩
theorem av_:(∀(l:List VF) vs w,AllV l vs w []=True)∧(∀(l:List VF) vs w i r,AllV l vs w (i::r)=((l.getD i VF.any).p (vs i) w∧AllV l vs w r))∧(∀(u v:Value) (w:World),(VF.eq u).p v w=(v=u))∧(∀(x:VF) (l:List VF) (d:VF),(x::l).getD 0 d=x)∧(∀(x:VF) (l:List VF) (n:Nat) (d:VF),(x::l).getD (n+1) d=l.getD n d):=
 ⟨fun _ _ _=>rfl,fun _ _ _ _ _=>rfl,fun _ _ _=>rfl,fun _ _ _=>rfl,fun _ _ _ _=>rfl⟩
theorem tl {p q:Prop} (h:q) (t:q→p:=by
    intro h hK hp hv
    simp only[kb_,nl_]at hK
    first
      | (simp only[ap_,Nat.reduceAdd,Nat.reduceSub,and_true]at hp;simp only[av_,and_true]at hv;simp only[putS,Nat.reduceAdd,Act.put,List.setIfInBounds_toArray,List.set_cons_zero,List.set_cons_succ,hp,hv])
      | (simp only[ap_,Nat.reduceAdd,Nat.reduceSub,and_true]at hp;simp only[putS,Nat.reduceAdd,Act.put,List.setIfInBounds_toArray,List.set_cons_zero,List.set_cons_succ,hp])
      | (simp only[av_,and_true]at hv;simp only[putS,Nat.reduceAdd,Act.put,List.setIfInBounds_toArray,List.set_cons_zero,List.set_cons_succ,hv])
      |simp only[putS,Nat.reduceAdd,Act.put,List.setIfInBounds_toArray,List.set_cons_zero,List.set_cons_succ]
    revert hK
    exact h):p:=t h
end Go.Proofs.YtaoioncjmfcolaaGreat
