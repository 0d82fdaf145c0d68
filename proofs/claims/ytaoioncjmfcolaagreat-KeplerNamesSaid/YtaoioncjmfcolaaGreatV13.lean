/- Obligations of a region, a lemma for each kind of operation. -/
import Derived.Test.YtaoioncjmfcolaaGreatV12
set_option linter.unusedSimpArgs false
set_option linter.unusedVariables false
namespace Go.Proofs.YtaoioncjmfcolaaGreat
open Go.RowKit
def ChkP (ops:Array Oper) (a0:Act) (B:List BR):Prop:=chk ops a0.tmps.size (B.map BR.key)=true
def rho (ops:Array Oper) (a0:Act) (o:Oper) (vs:Nat→Value) (x:Operand):Value:=
 match x with
 | .tmp t=>match (needs o).find? fun j=>dstOf ops j==some t with
  |some j=>vs j
  |none=>a0.eval (.tmp t)
 |y=>a0.eval y
section
variable {P:Program} {ops:Array Oper} {V:Nat→VF} {B:List BR} {Kp:World→Prop} {a0:Act} {n0:Nat} {i:Nat} {o:Oper}
structure Ctx (ops:Array Oper) (V:Nat→VF) (B:List BR) (Kp:World→Prop) (n0:Nat) (i:Nat) (o:Oper) (vs:Nat→Value) (gs:Nat→Nat) (w:World):Prop where
 k:Kp w
 n:n0≤w.heap.size
 v0:∀j∈needs o,(V j).p (vs j) w
 b:∀(n:Nat) (x:BR),B[n]? =some x→Avail ops n0 x i o vs (gs n) w
theorem Ctx.v {vs:Nat→Value} {gs:Nat→Nat} {w:World} (c:Ctx ops V B Kp n0 i o vs gs w) (j:Nat) (h:(needs o).contains j=true:=by kernel_rfl):(V j).p (vs j) w:=c.v0 j (by simpa using h)
def uniq (ops:Array Oper) (o:Oper):Bool:=(needs o).all fun j=>(needs o).all fun k=>match dstOf ops j with|some d=> !(dstOf ops k==some d) || j==k|none=>true
theorem rho_eval {vs:Nat→Value} {l:List Nat} (hl:l=needs o) (hd:∀j d,dstOf ops j=some d→d<a0.tmps.size) (hu:∀i j d,dstOf ops i=some d→dstOf ops j=some d→j=i) (x:Operand):(putL ops vs l a0).eval x=rho ops a0 o vs x:=by
 subst hl
 cases x with
 |tmp t=>
  unfold rho
  dsimp only
  cases h:(needs o).find? fun j=>dstOf ops j==some t with
  |some j=>
   have h1:=List.find?_some h
   have h2:=List.mem_of_find?_eq_some h
   simp only[beq_iff_eq]at h1
   have:=putL_in (ops:=ops) vs t j h1 (fun m hm=>hu _ _ _ h1 hm) (needs o) a0 (hd _ _ h1) h2
   simp[Act.eval,Array.getD_eq_getD_getElem?,this]
  |none=>
   have h1:=List.find?_eq_none.1 h
   have:=putL_out (ops:=ops) vs t (needs o) a0 (fun j hj e=>h1 j hj (by simp[e]))
   simp[Act.eval,Array.getD_eq_getD_getElem?,this]
 |_=>rfl
def Gd (ops:Array Oper) (V:Nat→VF) (o:Oper):Prop:=o.guard=none∨∃g want,o.guard=some (g,want)∧(V g).p=(VF.eq (.bool want)).p∧((needs o).contains g&&(dstOf ops g).isSome)=true
theorem yielded_at {C:Chk ops a0.tmps.size (B.map BR.key)} {vs:Nat→Value} {g:Nat} {l:List Nat} (hg:g∈l) {b:Bool} (hv:vs g=.bool b) (hd:(dstOf ops g).isSome=true):yielded ops (putL ops vs l a0).tmps g=some b:=by
 obtain⟨d,hd⟩:=Option.isSome_iff_exists.1 hd
 have h1:=putL_in vs d g hd (fun j hj=>C.uni _ _ _ hd hj) l a0 (C.dlt _ _ hd) hg
 unfold dstOf at hd
 unfold yielded
 rw[hd]
 simp only[Option.bind_some]
 rw[h1,hv]
theorem ob_of (hc:ChkP ops a0 B) (hg:Gd ops V o)
    (h:∀(vs:Nat→Value) (gs:Nat→Nat) (w:World) (ρ:Operand→Value),(∀x,ρ x=rho ops a0 o vs x)→Ctx ops V B Kp n0 i o vs gs w→
      ∀X:Value→World→Prop,Shut (∀v w',(V i).p v w'→Stp B i gs w v w'→X v w')→Eff P ((execOp ρ o).run P w) X):ObI P ops V B Kp a0 n0 i o:=by
 have C:=chk_spec hc
 refine⟨fun vs gs w hk hn hv hb X hX=> ?_⟩
 rw[if_pos ?_]
 ·exact h vs gs w _ (rho_eval rfl C.dlt C.uni) ⟨hk,hn,hv,hb⟩ X hX
 ·rcases hg with hg| ⟨g,want,hg,h1,h2⟩
  ·simp[Region.wanted,hg]
  ·rw[Bool.and_eq_true]at h2
   have hm:g∈needs o:=by simpa using h2.1
   have h3:=hv g hm
   rw[h1]at h3
   have h4:=yielded_at (C:=C) hm h3 h2.2
   simp[Region.wanted,hg,h4]
theorem ob_skip {g:Nat} {want:Bool} (hc:ChkP ops a0 B) (hg:o.guard=some (g,want):=by rfl) (h1:(V g).p=(VF.eq (.bool (!want))).p∨(V g).p=(VF.eq undef).p:=by first|exact .inl rfl|exact .inr rfl) (h2:((needs o).contains g&&(dstOf ops g).isSome)=true:=by kernel_rfl)
    (hV:(V i).p=(VF.eq undef).p:=by rfl) (hfr:free (B.map BR.key) i=true:=by kernel_rfl):ObI P ops V B Kp a0 n0 i o:=by
 have C:=chk_spec hc
 refine⟨fun vs gs w hk hn hv hb X hX=> ?_⟩
 rw[Bool.and_eq_true]at h2
 have hm:g∈needs o:=by simpa using h2.1
 have h3:=hv g hm
 rw[if_neg ?_]
 ·exact hX.out _ _ (by rw[hV];rfl) (.plain hfr (Ext.refl w))
 ·rcases h1 with h1|h1
  ·rw[h1]at h3
   have h4:=yielded_at (C:=C) hm h3 h2.2
   simp[Region.wanted,hg,h4]
  ·rw[h1]at h3
   obtain⟨d,hd⟩:=Option.isSome_iff_exists.1 h2.2
   have h5:=putL_in vs d g hd (fun j hj=>C.uni _ _ _ hd hj) (needs o) a0 (C.dlt _ _ hd) hm
   have h4:yielded ops (putL ops vs (needs o) a0).tmps g=none:=by
    unfold dstOf at hd
    unfold yielded
    rw[hd]
    simp only[Option.bind_some]
    rw[h5,show vs g=undef from h3]
    rfl
   simp[Region.wanted,hg,h4]
def ObAll (P:Program) (ops:Array Oper) (V:Nat→VF) (B:List BR) (Kp:World→Prop) (a0:Act) (n0:Nat):Nat→List Oper→Prop
 |_,[]=>True
 |i,o::l=>ObI P ops V B Kp a0 n0 i o∧ObAll P ops V B Kp a0 n0 (i+1) l
theorem ob_all0:∀(l:List Oper) (s:Nat),ObAll P ops V B Kp a0 n0 s l→∀(i:Nat) (o:Oper),l[i]? =some o→ObI P ops V B Kp a0 n0 (s+i) o
 | [],_,_,i,o,h=>by simp at h
 |u::l,s,h,0,o,ho=>by simp at ho;subst ho;exact h.1
 |u::l,s,h,i+1,o,ho=>by
  have:=ob_all0 l (s+1) h.2 i o (by simpa using ho)
  rwa [Nat.add_assoc,Nat.add_comm 1 i]at this
theorem ob_all {l:List Oper} (h:ObAll P l.toArray V B Kp a0 n0 0 l) (i:Nat) (o:Oper) (ho:l.toArray[i]? =some o):ObI P l.toArray V B Kp a0 n0 i o:=by
 have:=ob_all0 l 0 h i o (by simpa using ho)
 rwa [Nat.zero_add]at this
def plainFn (P:Program) (f:Nat):Bool:=match P.funcs[f]? with|some fn=> !(fn.name== "runtime.NumGoroutine")&&fn.body.isSome|none=>false
theorem run_enter {f:Nat} (h:plainFn P f=true) (args:Array Value) (w:World):(callFunc f args).run P w=.ok (.enter f args) w:=by
 unfold plainFn at h
 cases hf:P.funcs[f]? with
 |none=>rw[hf]at h;cases h
 |some fn=>
  rw[hf]at h
  simp only[Bool.and_eq_true,Bool.not_eq_true',Option.isSome_iff_exists]at h
  obtain⟨h1,c,h2⟩:=h
  have h3:¬fn.name= "runtime.NumGoroutine" :=by simpa using h1
  simp[callFunc,go_sem,hf,h2,h3]
theorem eff_call {f:Nat} {args:Array Operand} {tys:Array TypeId} {ρ:Operand→Value} {w:World} {X:Value→World→Prop} (ho:o.op=.call ⟨.value (.func f),args,tys⟩) (hf:ρ (.func f)=.func (.func f) #[] #[]) (hp:plainFn P f=true)
    (h:Calls P f (args.map ρ) w fun e w'=>∃u,e=.returned u∧X u w'):Eff P ((execOp ρ o).run P w) X:=by
 obtain⟨dst,op,ty,pos,af,gd⟩:=o
 dsimp only at ho
 subst ho
 go_simp
 rw[run_enter hp]
 refine Calls.mono h fun e w' he=> ?_
 obtain⟨u,rfl,hu⟩:=he
 exact hu
theorem ob_call {f:Nat} {args:Array Operand} {tys:Array TypeId} (av:(Nat→Value)→List Value) (hc:ChkP ops a0 B) (hop:o.op=.call ⟨.value (.func f),args,tys⟩)
    (h:∀(vs:Nat→Value) (gs:Nat→Nat) (w:World),Ctx ops V B Kp n0 i o vs gs w→Calls P f (av vs).toArray w fun e w'=>∃u,e=.returned u∧(V i).p u w'∧Ext w w')
    (hg:Gd ops V o:=by first|exact .inl rfl|exact .inr ⟨_,_,rfl,rfl,by kernel_rfl⟩) (has:∀vs,args.toList.map (rho ops a0 o vs)=av vs:=by intro vs;kernel_rfl) (hfr:free (B.map BR.key) i=true:=by kernel_rfl) (hp:plainFn P f=true:=by kernel_rfl):ObI P ops V B Kp a0 n0 i o:=
  ob_of hc hg fun vs gs w ρ hr c X hX=>by
    refine eff_call hop (by rw[hr];rfl) hp ?_
    have e:args.map ρ=(av vs).toArray:=by
      rw[←has vs, ←List.map_toArray,Array.toArray_toList]
      exact Array.map_congr_left fun x _=>hr x
    rw[e]
    refine(h vs gs w c).mono ?_
    rintro e w' ⟨u,rfl,hu,hb⟩
    exact⟨u,rfl,hX.out _ _ hu (.plain hfr hb)⟩
theorem ob_val (hc:ChkP ops a0 B)
    (h:∀(vs:Nat→Value) (gs:Nat→Nat) (w:World) (ρ:Operand→Value),(∀x,ρ x=rho ops a0 o vs x)→Ctx ops V B Kp n0 i o vs gs w→∃v,(execOp ρ o).run P w=.ok (.value v) w∧(V i).p v w)
    (hg:Gd ops V o:=by first|exact .inl rfl|exact .inr ⟨_,_,rfl,rfl,by kernel_rfl⟩) (hfr:free (B.map BR.key) i=true:=by kernel_rfl):ObI P ops V B Kp a0 n0 i o:=
  ob_of hc hg fun vs gs w ρ hr c X hX=>by
    obtain⟨v,h1,h2⟩:=h vs gs w ρ hr c
    rw[h1]
    exact hX.out _ _ h2 (.plain hfr (Ext.refl w))
end
section
variable {ops:Array Oper} {V:Nat→VF} {B:List BR} {Kp:World→Prop} {a0:Act} {n0:Nat} {i:Nat} {o:Oper}
theorem Ctx.r {vs:Nat→Value} {gs:Nat→Nat} {w:World} {ρ:Operand→Value} (c:Ctx ops V B Kp n0 i o vs gs w) (hr:∀x,ρ x=rho ops a0 o vs x) (j:Nat) {x:Operand} {u:Value} (h:rho ops a0 o vs x=vs j:=by kernel_rfl) (hV:(V j).p=(VF.eq u).p:=by rfl) (hj:(needs o).contains j=true:=by kernel_rfl):ρ x=u:=by
 have:=c.v j hj
 rw[hV]at this
 rw[hr,h];exact this
theorem ob_mv {x:Operand} {u:Value} (hc:ChkP ops a0 B) (hop:o.op=.move x∨o.op=.assign x) (hx:∀vs,rho ops a0 o vs x=u:=by intro _;kernel_rfl) (hV:(V i).p=(VF.eq u).p:=by rfl)
    (hg:Gd ops V o:=by first|exact .inl rfl|exact .inr ⟨_,_,rfl,rfl,by kernel_rfl⟩) (hfr:free (B.map BR.key) i=true:=by kernel_rfl):ObI Tryz.prog ops V B Kp a0 n0 i o:=
  ob_val hc (fun vs gs w ρ hr c=>⟨u,by
    obtain⟨dst,op,ty,pos,af,gd⟩:=o
    dsimp only at hop
    have h5:=(hr x).trans (hx vs)
    clear c
    rcases hop with rfl|rfl<;>go_simp,by rw[hV];rfl⟩) hg hfr
theorem ob_cp {x:Operand} (j:Nat) (hc:ChkP ops a0 B) (hop:o.op=.move x∨o.op=.assign x) (hx:∀vs,rho ops a0 o vs x=vs j:=by intro _;kernel_rfl) (hV:(V i).p=(V j).p:=by rfl)
    (hj:(needs o).contains j=true:=by kernel_rfl) (hg:Gd ops V o:=by first|exact .inl rfl|exact .inr ⟨_,_,rfl,rfl,by kernel_rfl⟩) (hfr:free (B.map BR.key) i=true:=by kernel_rfl):ObI Tryz.prog ops V B Kp a0 n0 i o:=
  ob_val hc (fun vs gs w ρ hr c=>⟨vs j,by
    obtain⟨dst,op,ty,pos,af,gd⟩:=o
    dsimp only at hop
    have h5:=(hr x).trans (hx vs)
    clear c
    rcases hop with rfl|rfl<;>go_simp,by rw[hV];exact c.v j hj⟩) hg hfr
def Opd (ops:Array Oper) (V:Nat→VF) (a0:Act) (o:Oper) (x:Operand) (u:Value):Option Nat→Prop
 |none=>∀vs,rho ops a0 o vs x=u
 |some j=>(∀vs,rho ops a0 o vs x=vs j)∧(V j).p=(VF.eq u).p∧(needs o).contains j=true
theorem Opd.get {x:Operand} {u:Value} {p:Option Nat} {vs:Nat→Value} {gs:Nat→Nat} {w:World} {ρ:Operand→Value} (h:Opd ops V a0 o x u p) (c:Ctx ops V B Kp n0 i o vs gs w) (hr:∀x,ρ x=rho ops a0 o vs x):ρ x=u:=by
 cases p with
 |none=>rw[hr];exact h vs
 |some j=>exact c.r hr j (h.1 vs) h.2.1 h.2.2
theorem ob_e1 {x:Operand} {a u:Value} (p:Option Nat) (hc:ChkP ops a0 B) (hs:∀(ρ:Operand→Value) (w:World),ρ x=a→(execOp ρ o).run Tryz.prog w=.ok (.value u) w:=by intro ρ w h;go_simp)
    (ha:Opd ops V a0 o x a p:=by first|exact⟨fun _=>by kernel_rfl,rfl,by kernel_rfl⟩|exact fun _=>by kernel_rfl) (hV:(V i).p=(VF.eq u).p:=by rfl) (hg:Gd ops V o:=by first|exact .inl rfl|exact .inr ⟨_,_,rfl,rfl,by kernel_rfl⟩) (hfr:free (B.map BR.key) i=true:=by kernel_rfl):ObI Tryz.prog ops V B Kp a0 n0 i o:=
  ob_val hc (fun vs gs w ρ hr c=>⟨u,hs ρ w (ha.get c hr),by rw[hV];rfl⟩) hg hfr
theorem ob_e2 {x y:Operand} {a b u:Value} (p q:Option Nat) (hc:ChkP ops a0 B) (hs:∀(ρ:Operand→Value) (w:World),ρ x=a→ρ y=b→(execOp ρ o).run Tryz.prog w=.ok (.value u) w:=by intro ρ w h k;go_simp)
    (ha:Opd ops V a0 o x a p:=by first|exact⟨fun _=>by kernel_rfl,rfl,by kernel_rfl⟩|exact fun _=>by kernel_rfl) (hb:Opd ops V a0 o y b q:=by first|exact⟨fun _=>by kernel_rfl,rfl,by kernel_rfl⟩|exact fun _=>by kernel_rfl)
    (hV:(V i).p=(VF.eq u).p:=by rfl) (hg:Gd ops V o:=by first|exact .inl rfl|exact .inr ⟨_,_,rfl,rfl,by kernel_rfl⟩) (hfr:free (B.map BR.key) i=true:=by kernel_rfl):ObI Tryz.prog ops V B Kp a0 n0 i o:=
  ob_val hc (fun vs gs w ρ hr c=>⟨u,hs ρ w (ha.get c hr) (hb.get c hr),by rw[hV];rfl⟩) hg hfr
theorem ob_pickT {c x y:Operand} {u:Value} (p q:Option Nat) (hc:ChkP ops a0 B) (hop:o.op=.pick c x y) (ha:Opd ops V a0 o c (.bool true) p:=by first|exact⟨fun _=>by kernel_rfl,rfl,by kernel_rfl⟩|exact fun _=>by kernel_rfl)
    (hb:Opd ops V a0 o x u q:=by first|exact⟨fun _=>by kernel_rfl,rfl,by kernel_rfl⟩|exact fun _=>by kernel_rfl) (hV:(V i).p=(VF.eq u).p:=by rfl) (hg:Gd ops V o:=by first|exact .inl rfl|exact .inr ⟨_,_,rfl,rfl,by kernel_rfl⟩) (hfr:free (B.map BR.key) i=true:=by kernel_rfl):ObI Tryz.prog ops V B Kp a0 n0 i o:=
  ob_val hc (fun vs gs w ρ hr cc=>⟨u,by
    have h1:=ha.get cc hr
    have h2:=hb.get cc hr
    obtain⟨dst,op,ty,pos,af,gd⟩:=o
    dsimp only at hop
    subst hop
    clear cc hr ha hb
    go_simp,by rw[hV];rfl⟩) hg hfr
theorem ob_pickF {c x y:Operand} {u:Value} (p q:Option Nat) (hc:ChkP ops a0 B) (hop:o.op=.pick c x y) (ha:Opd ops V a0 o c (.bool false) p:=by first|exact⟨fun _=>by kernel_rfl,rfl,by kernel_rfl⟩|exact fun _=>by kernel_rfl)
    (hb:Opd ops V a0 o y u q:=by first|exact⟨fun _=>by kernel_rfl,rfl,by kernel_rfl⟩|exact fun _=>by kernel_rfl) (hV:(V i).p=(VF.eq u).p:=by rfl) (hg:Gd ops V o:=by first|exact .inl rfl|exact .inr ⟨_,_,rfl,rfl,by kernel_rfl⟩) (hfr:free (B.map BR.key) i=true:=by kernel_rfl):ObI Tryz.prog ops V B Kp a0 n0 i o:=
  ob_val hc (fun vs gs w ρ hr cc=>⟨u,by
    have h1:=ha.get cc hr
    have h2:=hb.get cc hr
    obtain⟨dst,op,ty,pos,af,gd⟩:=o
    dsimp only at hop
    subst hop
    clear cc hr ha hb
    go_simp,by rw[hV];rfl⟩) hg hfr
theorem ob_ld {x:Operand} {g f:Nat} {u:Value} (p:Option Nat) (hc:ChkP ops a0 B) (h:∀(vs:Nat→Value) (gs:Nat→Nat) (w:World),Ctx ops V B Kp n0 i o vs gs w→w.cell? ⟨g,f,none⟩=some u)
    (hs:∀(ρ:Operand→Value) (w:World),ρ x=.pointer (some ⟨g,f,none⟩)→w.cell? ⟨g,f,none⟩=some u→(execOp ρ o).run Tryz.prog w=.ok (.value u) w:=by intro ρ w h k;go_simp)
    (ha:Opd ops V a0 o x (.pointer (some ⟨g,f,none⟩)) p:=by first|exact⟨fun _=>by kernel_rfl,rfl,by kernel_rfl⟩|exact fun _=>by kernel_rfl) (hV:(V i).p=(VF.eq u).p:=by rfl) (hg:Gd ops V o:=by first|exact .inl rfl|exact .inr ⟨_,_,rfl,rfl,by kernel_rfl⟩) (hfr:free (B.map BR.key) i=true:=by kernel_rfl):ObI Tryz.prog ops V B Kp a0 n0 i o:=
  ob_val hc (fun vs gs w ρ hr c=>⟨u,hs ρ w (ha.get c hr) (h vs gs w c),by rw[hV];rfl⟩) hg hfr
theorem ob_eq {u:Value} (hc:ChkP ops a0 B) (h:∀(vs:Nat→Value) (gs:Nat→Nat) (w:World) (ρ:Operand→Value),(∀x,ρ x=rho ops a0 o vs x)→Ctx ops V B Kp n0 i o vs gs w→(execOp ρ o).run Tryz.prog w=.ok (.value u) w)
    (hV:(V i).p=(VF.eq u).p:=by rfl) (hg:Gd ops V o:=by first|exact .inl rfl|exact .inr ⟨_,_,rfl,rfl,by kernel_rfl⟩) (hfr:free (B.map BR.key) i=true:=by kernel_rfl):ObI Tryz.prog ops V B Kp a0 n0 i o:=
  ob_val hc (fun vs gs w ρ hr c=>⟨u,h vs gs w ρ hr c,by rw[hV];rfl⟩) hg hfr
theorem ob_ext0 {x:Operand} (j:Nat) {f:VF} {e:Int} (hc:ChkP ops a0 B) (hop:o.op=.extract x 0) (hVj:V j=f.err e:=by rfl) (hV:(V i).p=f.p:=by rfl) (hx:∀vs,rho ops a0 o vs x=vs j:=by intro _;kernel_rfl) (hj:(needs o).contains j=true:=by kernel_rfl)
    (hg:Gd ops V o:=by first|exact .inl rfl|exact .inr ⟨_,_,rfl,rfl,by kernel_rfl⟩) (hfr:free (B.map BR.key) i=true:=by kernel_rfl):ObI Tryz.prog ops V B Kp a0 n0 i o:=
  ob_val hc (fun vs gs w ρ hr c=>by
    have h:=c.v j hj
    rw[hVj]at h
    obtain⟨u,h1,h2⟩:=h
    refine⟨u, ?_,by rw[hV];exact h2⟩
    have h5:=((hr x).trans (hx vs)).trans h1
    obtain⟨dst,op,ty,pos,af,gd⟩:=o
    dsimp only at hop
    subst hop
    clear c h2
    go_simp) hg hfr
theorem ob_ext1 {x:Operand} (j:Nat) {f:VF} {e:Int} (hc:ChkP ops a0 B) (hop:o.op=.extract x 1) (hVj:V j=f.err e:=by rfl) (hV:(V i).p=(VF.eq (O e)).p:=by rfl) (hx:∀vs,rho ops a0 o vs x=vs j:=by intro _;kernel_rfl) (hj:(needs o).contains j=true:=by kernel_rfl)
    (hg:Gd ops V o:=by first|exact .inl rfl|exact .inr ⟨_,_,rfl,rfl,by kernel_rfl⟩) (hfr:free (B.map BR.key) i=true:=by kernel_rfl):ObI Tryz.prog ops V B Kp a0 n0 i o:=
  ob_val hc (fun vs gs w ρ hr c=>by
    have h:=c.v j hj
    rw[hVj]at h
    obtain⟨u,h1,h2⟩:=h
    refine⟨O e, ?_,by rw[hV];rfl⟩
    have h5:=((hr x).trans (hx vs)).trans h1
    obtain⟨dst,op,ty,pos,af,gd⟩:=o
    dsimp only at hop
    subst hop
    clear c h2
    go_simp) hg hfr
def early (ops:Array Oper) (st:List Nat) (m i:Nat):Bool:=match st[m]? with
 |none=>true
 |some s=>s==i || wants ops s i
def late (o:Oper) (st:List Nat) (m:Nat):Bool:=m==0 || (match st[m-1]? with|some s=>(needs o).contains s|none=>false)
theorem early_spec {st:List Nat} {m i:Nat} (h:early ops st m i=true):st[m]? =none∨∃s,st[m]? =some s∧(s=i∨∃u,ops[s]? =some u∧i∈needs u):=by
 unfold early at h
 cases hs:st[m]? with
 |none=>exact .inl rfl
 |some s=>
  rw[hs]at h
  simp only[Bool.or_eq_true,beq_iff_eq]at h
  exact .inr ⟨s,rfl,h.imp id wants_spec⟩
theorem late_spec {st:List Nat} {m:Nat} (h:late o st m=true):m=0∨∃s,st[m-1]? =some s∧s∈needs o:=by
 unfold late at h
 rw[Bool.or_eq_true,beq_iff_eq]at h
 refine h.imp id fun h=> ?_
 cases hs:st[m-1]? with
 |none=>rw[hs]at h;cases h
 |some s=>rw[hs]at h;exact⟨s,rfl,by simpa using h⟩
theorem Ctx.b0 {vs:Nat→Value} {gs:Nat→Nat} {w:World} (c:Ctx ops V B Kp n0 i o vs gs w) (n:Nat) (m:Nat:=0) {x:BR} (hx:B[n]? =some x:=by rfl) (hal:x.al=none:=by rfl) (he:early ops x.st m i=true:=by kernel_rfl) (hl:late o x.st m=true:=by kernel_rfl):(x.bf m).p x.old w:=by
 have h:=c.b n x hx
 rw[←h.old hal]
 exact h.at' (.inl hal) m (late_spec hl) (early_spec he)
theorem ob_two0 {x:Operand} (j:Nat) {f g:VF} (hc:ChkP ops a0 B) (hop:o.op=.extract x 0) (hVj:V j=f.two g:=by rfl) (hV:(V i).p=f.p:=by rfl) (hx:∀vs,rho ops a0 o vs x=vs j:=by intro _;kernel_rfl) (hj:(needs o).contains j=true:=by kernel_rfl)
    (hg:Gd ops V o:=by first|exact .inl rfl|exact .inr ⟨_,_,rfl,rfl,by kernel_rfl⟩) (hfr:free (B.map BR.key) i=true:=by kernel_rfl):ObI Tryz.prog ops V B Kp a0 n0 i o:=
  ob_val hc (fun vs gs w ρ hr c=>by
    have h:=c.v j hj
    rw[hVj]at h
    obtain⟨u,t,h1,h2,h3⟩:=h
    refine⟨u, ?_,by rw[hV];exact h2⟩
    have h5:=((hr x).trans (hx vs)).trans h1
    obtain⟨dst,op,ty,pos,af,gd⟩:=o
    dsimp only at hop
    subst hop
    clear c h2 h3
    go_simp) hg hfr
theorem ob_two1 {x:Operand} (j:Nat) {f g:VF} (hc:ChkP ops a0 B) (hop:o.op=.extract x 1) (hVj:V j=f.two g:=by rfl) (hV:(V i).p=g.p:=by rfl) (hx:∀vs,rho ops a0 o vs x=vs j:=by intro _;kernel_rfl) (hj:(needs o).contains j=true:=by kernel_rfl)
    (hg:Gd ops V o:=by first|exact .inl rfl|exact .inr ⟨_,_,rfl,rfl,by kernel_rfl⟩) (hfr:free (B.map BR.key) i=true:=by kernel_rfl):ObI Tryz.prog ops V B Kp a0 n0 i o:=
  ob_val hc (fun vs gs w ρ hr c=>by
    have h:=c.v j hj
    rw[hVj]at h
    obtain⟨u,t,h1,h2,h3⟩:=h
    refine⟨t, ?_,by rw[hV];exact h3⟩
    have h5:=((hr x).trans (hx vs)).trans h1
    obtain⟨dst,op,ty,pos,af,gd⟩:=o
    dsimp only at hop
    subst hop
    clear c h2 h3
    go_simp) hg hfr
theorem Ctx.lit {vs:Nat→Value} {gs:Nat→Nat} {w:World} (c:Ctx ops V B Kp n0 i o vs gs w) (n k:Nat) {g:Nat} {l:List Value} {v:Value} {st:List Nat} {bf:Nat→BF} (m:Nat:=0) (hx:B[n]? =some ⟨none,g,st,bf⟩:=by rfl) (hb:bf m=BF.lit l:=by rfl) (hv:l[k]? =some v:=by rfl) (he:early ops st m i=true:=by kernel_rfl) (hl:late o st m=true:=by kernel_rfl):w.cell? ⟨g,k,none⟩=some v:=by
 have h:=c.b0 n m hx rfl he hl
 rw[show(BR.bf ⟨none,g,st,bf⟩ m)=BF.lit l from hb]at h
 exact h.1 k v hv
end
theorem BF.lit_new (w:World) (l:List Value) (T:TypeId) (h:∀v∈l,∀z,v≠ .int .u32 z):(BF.lit l).p w.heap.size (w.alloc (.cells l.toArray T)):=by
 refine⟨fun k v hv=> ?_,NoU.new w _ _ (fun o z e=> ?_),by simp⟩
 ·simp[go_sem,hv]
 ·exact h _ (List.mem_of_getElem? (by simpa using e)) z rfl
/-! The region, ready for use. -/
def putS (vs:Nat→Value):Nat→List Oper→Act→Act
 |_,[],a=>a
 |i,o::l,a=>putS vs (i+1) l (a.put o.dst (vs i))
theorem putS_eq (ops:Array Oper) (vs:Nat→Value):∀(l:List Oper) (s:Nat) (L:List Nat) (a:Act),(∀i o,l[i]? =some o→ops[s+i]? =some o)→putS vs s l (putL ops vs L a)=putL ops vs ((List.range' s l.length).reverse++L) a
 | [],_,_,_,_=>rfl
 |o::l,s,L,a,h=>by
  have h0:dstOf ops s=o.dst:=by
   have:=h 0 o rfl
   unfold dstOf
   rw[Nat.add_zero]at this
   rw[this];rfl
  have:=putS_eq ops vs l (s+1) (s::L) a (fun i u hu=>by
   have:=h (i+1) u (by simpa using hu)
   rwa [Nat.add_assoc,Nat.add_comm 1 i])
  rw[putL,h0]at this
  rw[putS,this,List.length_cons,List.range'_succ,List.reverse_cons,List.append_assoc]
  rfl
def Bxs:List (Nat×BF)→World→Prop
 | [],_=>True
 |x::l,w=>x.2.p x.1 w∧Bxs l w
theorem Bxs.mem {w:World}:∀{l:List (Nat×BF)},Bxs l w→∀x∈l,x.2.p x.1 w
 |_::_,h,x,hx=>by
  rcases List.mem_cons.1 hx with e|e
  ·rw[e];exact h.1
  ·exact h.2.mem x e
theorem Bxs.of {w:World}:∀{l:List (Nat×BF)},(∀x∈l,x.2.p x.1 w)→Bxs l w
 | [],_=>trivial
 |x::_,h=>⟨h x (by simp),Bxs.of fun y hy=>h y (by simp[hy])⟩
def KB (w0:World) (l:List (Nat×BF)) (w:World):Prop:=Ext w0 w∧Bxs l w
theorem KB.ext {w0 a b:World} {l:List (Nat×BF)} (h:KB w0 l a) (k:Ext a b):KB w0 l b:=⟨Ext.trans h.1 k,Bxs.of fun x hx=>x.2.ext _ _ _ (h.2.mem x hx) k⟩
theorem KB.drew {w0 a:World} {l:List (Nat×BF)} (h:KB w0 l a):KB w0 l a.drew:=h.ext (Ext.refl a).drew
theorem KB.gb {w0 a b:World} {l:List (Nat×BF)} {T:Nat} (h:KB w0 l a) (hT:NoU a T) (k:GB T a b) (h0:w0.heap.size≤T) (hl:∀x∈l,x.1≠T):KB w0 l b:=⟨GB.pre h.1 k h0,Bxs.of fun x hx=>x.2.gb _ _ _ _ (h.2.mem x hx) hT k (hl x hx)⟩
theorem KB.lt {w0 a:World} {l:List (Nat×BF)} (h:KB w0 l a):∀x∈l,x.1<a.heap.size:=fun x hx=>x.2.lt _ _ (h.2.mem x hx)
section
variable {V:Nat→VF} {B:List BR} {a0:Act} {w0:World}
structure Fin (n:Nat) (B:List BR) (n0:Nat) (vs:Nat→Value) (gs:Nat→Nat) (w:World):Prop where
 old:∀(m:Nat) (x:BR),B[m]? =some x→x.al=none→gs m=x.old
 ptr:∀(m:Nat) (x:BR),B[m]? =some x→∀k,x.al=some k→k<n→vs k=shp x.old (gs m)∧n0≤gs m
 post:∀(m:Nat) (x:BR),B[m]? =some x→(∀k,x.al=some k→k<n)→(∀s∈x.st,s<n)→(x.bf x.st.length).p (gs m) w
 ne:∀(m k:Nat) (x y:BR),B[m]? =some x→B[k]? =some y→m≠k→(∀j,x.al=some j→j<n)→(∀j,y.al=some j→j<n)→gs m≠gs k
theorem wp_reg {id:Nat} {d:Bool} {Q:Exit→Act→World→Prop} {l:List Oper} (w:World) (K:List (Nat×BF)) (V:Nat→VF) (B:List BR) (hk:KB w K w0)
    (hob:ChkP l.toArray a0 B→ObAll Tryz.prog l.toArray V B (KB w K) a0 w0.heap.size 0 l)
    (hend:∀(vs:Nat→Value) (gs:Nat→Nat) (w':World),KB w K w'→w0.heap.size≤w'.heap.size→(∀i,i<l.length→(V i).p (vs i) w')→Fin l.length B w0.heap.size vs gs w'→Q .normal (putS vs 0 l a0) w')
    (hold:∀(n:Nat) (x:BR),B[n]? =some x→x.al=none→w.heap.size≤x.old∧(x.bf 0).p x.old w0∧∀y∈K,y.1≠x.old)
    (hd:∀(m n:Nat) (x y:BR),B[m]? =some x→B[n]? =some y→m≠n→x.al=none→y.al=none→x.old≠y.old)
    (hm:Tryz.prog.follows .mixedOrders=true:=by kernel_rfl)
    (hc:chk l.toArray a0.tmps.size (B.map BR.key)=true:=by kernel_rfl):(Code.region id l.toArray d).wp Tryz.prog Q a0 w0:=by
 refine wp_region_facts V B (KB w K) ((List.range' 0 l.length).reverse++[]) (fun j hj=>by simpa using hj) hm hc (fun a b h k=>h.ext k) (fun a b T h hT k hor=> ?_) hk (fun n x hx hal=>(hold n x hx hal).2.1) hd (ob_all (hob hc)) (fun vs gs w' h1 h2 h3 h4 h5=> ?_)
 ·rcases hor with h1| ⟨x,hx,h1,rfl⟩
  ·refine h.gb hT k (Nat.le_trans hk.1.size h1) (fun y hy e=> ?_)
   have:=hk.lt y hy
   omega
  ·obtain⟨n,hn⟩:=List.getElem?_of_mem hx
   obtain⟨q1,q2,q3⟩:=hold n x hn h1
   exact h.gb hT k q1 q3
 ·rw[←putS_eq l.toArray vs l 0 [] a0 (fun i o ho=>by simpa using ho)]
  rw[List.size_toArray]at h3
  refine hend vs gs w' h1 h2 h3 ⟨fun m x hx=>(h4 m x hx).1,fun m x hx k hk hlt=>(h4 m x hx).2.1 k hk (by simpa using hlt),fun m x hx hk hs=>(h4 m x hx).2.2 (fun k e=>by simpa using hk k e) (fun s e=>by simpa using hs s e),fun m k x y hx hy hne h6 h7=>h5 m k x y hx hy hne (fun j e=>by simpa using h6 j e) (fun j e=>by simpa using h7 j e)⟩
end
/-! The same with boxes that lie in a list. -/
structure KBd (w0:World) (l:List (Nat×BF)) (w:World):Prop where
 e:Ext w0 w
 b:Bxs l w
 nd:(l.map (·.1)).Nodup
 ge:∀x∈l,w0.heap.size≤x.1
theorem KBd.ext {w0 a b:World} {l:List (Nat×BF)} (h:KBd w0 l a) (k:Ext a b):KBd w0 l b:=⟨Ext.trans h.e k,Bxs.of fun x hx=>x.2.ext _ _ _ (h.b.mem x hx) k,h.nd,h.ge⟩
def mkO (x:Nat×BF) (u:List (Nat×BF)):BR:=⟨none,x.1,u.map (·.1),fun m=>match m with|0=>x.2|k+1=>((u[k]?).map (·.2)).getD x.2⟩
def oldB:List (Nat×BF)→List (List (Nat×BF))→List BR
 | [],_=>[]
 |x::l,u=>mkO x (u.headD [])::oldB l u.tail
def lastB (x:Nat×BF) (u:List (Nat×BF)):BF:=(mkO x u).bf u.length
def updB:List (Nat×BF)→List (List (Nat×BF))→List (Nat×BF)
 | [],_=>[]
 |x::l,u=>(x.1,lastB x (u.headD []))::updB l u.tail
structure FB where
 al:Nat
 st:Option Nat
 b0:BF
 b1:BF
def FB.len (f:FB):Nat:=match f.st with|none=>0|some s=>f.al+1-s
def FB.stl (f:FB):List Nat:=match f.len with|0=>f.st.toList|_+1=>[]
def FB.bfl (f:FB) (m:Nat):BF:=match f.len with|0=>(match m with|0=>f.b0|_+1=>f.b1)|_+1=>f.b1
def FB.br (f:FB):BR:=⟨some f.al,f.len,f.stl,f.bfl⟩
theorem FB.br_end (f:FB):f.br.bf f.br.st.length=match f.st with|none=>f.b0|some _=>f.b1:=by
 rcases f with⟨fa,fs,f0,f1⟩
 cases fs with
 |none=>rfl
 |some s=>
  unfold FB.br FB.stl FB.bfl
  dsimp only
  cases FB.len ⟨fa,some s,f0,f1⟩with
  |zero=>rfl
  |succ n=>rfl
def FB.bf (f:FB):BF:=match f.st with|none=>f.b0|some _=>f.b1
def newB:List FB→(Nat→Nat)→List (Nat×BF)
 | [],_=>[]
 |f::l,g=>(g 0,f.bf)::newB l fun k=>g (k+1)
theorem oldB_get:∀(l:List (Nat×BF)) (u:List (List (Nat×BF))) (m:Nat),(oldB l u)[m]? =(l[m]?).map fun x=>mkO x ((u[m]?).getD [])
 | [],_,_=>by simp[oldB]
 |x::l,u,0=>by cases u<;>simp[oldB]
 |x::l,u,m+1=>by
  have:=oldB_get l u.tail m
  cases u<;>simpa [oldB]using this
theorem updB_get:∀(l:List (Nat×BF)) (u:List (List (Nat×BF))) (m:Nat),(updB l u)[m]? =(l[m]?).map fun x=>(x.1,lastB x ((u[m]?).getD []))
 | [],_,_=>by simp[updB]
 |x::l,u,0=>by cases u<;>simp[updB]
 |x::l,u,m+1=>by
  have:=updB_get l u.tail m
  cases u<;>simpa [updB]using this
theorem newB_get:∀(l:List FB) (g:Nat→Nat) (m:Nat),(newB l g)[m]? =(l[m]?).map fun f=>(g m,f.bf)
 | [],_,_=>by simp[newB]
 |f::l,g,0=>by simp[newB]
 |f::l,g,m+1=>by simpa [newB]using newB_get l (fun k=>g (k+1)) m
theorem oldB_len:∀(l:List (Nat×BF)) (u:List (List (Nat×BF))),(oldB l u).length=l.length
 | [],_=>rfl
 |x::l,u=>by simp[oldB,oldB_len l]
theorem updB_len:∀(l:List (Nat×BF)) (u:List (List (Nat×BF))),(updB l u).length=l.length
 | [],_=>rfl
 |x::l,u=>by simp[updB,updB_len l]
def inR (n:Nat) (B:List (Option Nat×List Nat)):Bool:=B.all fun x=>(match x.1 with|some k=>decide (k<n)|none=>true)&&x.2.all fun k=>decide (k<n)
theorem inR_spec {n:Nat} {B:List BR} (h:inR n (B.map BR.key)=true) {m:Nat} {x:BR} (hx:B[m]? =some x):(∀k,x.al=some k→k<n)∧(∀k∈x.st,k<n):=by
 unfold inR at h
 rw[List.all_eq_true]at h
 have:=h (x.al,x.st) (List.mem_map.2 ⟨x,List.mem_of_getElem? hx,rfl⟩)
 rw[Bool.and_eq_true]at this
 refine⟨fun k hk=> ?_,fun k hk=> ?_⟩
 ·rw[hk]at this;simpa using this.1
 ·have h2:=this.2
  rw[List.all_eq_true]at h2
  simpa using h2 k hk
theorem KBd.take {w0 a:World} {l:List (Nat×BF)} (h:KBd w0 l a) (n:Nat):KBd w0 (l.take n) a:=
 ⟨h.e,Bxs.of fun x hx=>h.b.mem x (List.mem_of_mem_take hx),(h.nd.sublist ((List.take_sublist n l).map _)),fun x hx=>h.ge x (List.mem_of_mem_take hx)⟩
theorem KBd.at {w0 a:World} {l:List (Nat×BF)} (h:KBd w0 l a) (n:Nat) {x:Nat×BF} (hx:l[n]? =some x:=by rfl):x.2.p x.1 a:=h.b.mem x (List.mem_of_getElem? hx)
theorem kb_:(∀(x:Nat×BF) (l:List (Nat×BF)),updB (x::l) []=x::updB l [])∧(∀(x:Nat×BF) (l:List (Nat×BF)) (u:List (List (Nat×BF))),updB (x::l) ([]::u)=x::updB l u)∧(∀(x:Nat×BF) (l:List (Nat×BF)) (s:Nat×BF) (u:List (List (Nat×BF))),updB (x::l) ([s]::u)=(x.1,s.2)::updB l u)∧(∀(x:Nat×BF) (l:List (Nat×BF)) (s t:Nat×BF) (u:List (List (Nat×BF))),updB (x::l) ([s,t]::u)=(x.1,t.2)::updB l u)∧(∀u,updB [] u=[])∧(∀g,newB [] g=[])∧
    (∀(f:FB) (l:List FB) (g:Nat→Nat),newB (f::l) g=(g 0,f.bf)::newB l (fun k=>g (k+1)))∧(∀a s x y,FB.bf ⟨a,some s,x,y⟩=y)∧(∀a x y,FB.bf ⟨a,none,x,y⟩=x)∧(∀l:List (Nat×BF),[]++l=l)∧(∀(x:Nat×BF) (l k:List (Nat×BF)),(x::l)++k=x::(l++k))∧(∀l:List (Nat×BF),l++[]=l):=
  ⟨fun _ _=>rfl,fun _ _ _=>rfl,fun _ _ _ _=>rfl,fun _ _ _ _ _=>rfl,fun _=>rfl,fun _=>rfl,fun _ _ _=>rfl,fun _ _ _ _=>rfl,fun _ _ _=>rfl,fun _=>rfl,fun _ _ _=>rfl,List.append_nil⟩
section
variable {a0:Act} {w0:World}
theorem box_at {L:List (Nat×BF)} {u:List (List (Nat×BF))} {F:List FB} {m:Nat} {x:BR} (h:(oldB L u++F.map FB.br)[m]? =some x):
    (m<L.length∧∃y,L[m]? =some y∧x=mkO y ((u[m]?).getD []))∨(L.length≤m∧∃f,F[m-L.length]? =some f∧x=f.br):=by
 by_cases hm:m<L.length
 ·refine .inl ⟨hm, ?_⟩
  rw[List.getElem?_append_left (by rw[oldB_len];exact hm),oldB_get,Option.map_eq_some_iff]at h
  obtain⟨y,h1,h2⟩:=h
  exact⟨y,h1,h2.symm⟩
 ·refine .inr ⟨by omega, ?_⟩
  rw[List.getElem?_append_right (by rw[oldB_len];omega),oldB_len,List.getElem?_map,Option.map_eq_some_iff]at h
  obtain⟨f,h1,h2⟩:=h
  exact⟨f,h1,h2.symm⟩
theorem mkO_old (y:Nat×BF) (o:List (Nat×BF)):(mkO y o).al=none∧(mkO y o).old=y.1∧(mkO y o).bf 0=y.2:=⟨rfl,rfl,rfl⟩
theorem wp_regB {id:Nat} {d:Bool} {Q:Exit→Act→World→Prop} {l:List Oper} {w:World} {L:List (Nat×BF)} (u:List (List (Nat×BF))) (F:List FB) (V:Nat→VF) (hk:KBd w L w0)
    (hob:ChkP l.toArray a0 (oldB L u++F.map FB.br)→ObAll Tryz.prog l.toArray V (oldB L u++F.map FB.br) (KB w []) a0 w0.heap.size 0 l)
    (hend:∀(vs:Nat→Value) (gl:Nat→Nat) (w':World),KBd w (updB L u++newB F gl) w'→(∀i,i<l.length→(V i).p (vs i) w')→(∀(k:Nat) (f:FB),F[k]? =some f→vs f.al=shp f.br.old (gl k))→Q .normal (putS vs 0 l a0) w')
    (hm:Tryz.prog.follows .mixedOrders=true:=by kernel_rfl)
    (hc:chk l.toArray a0.tmps.size ((oldB L u++F.map FB.br).map BR.key)=true:=by kernel_rfl)
    (hr:inR l.length ((oldB L u++F.map FB.br).map BR.key)=true:=by kernel_rfl):(Code.region id l.toArray d).wp Tryz.prog Q a0 w0:=by
 refine wp_reg w [] V (oldB L u++F.map FB.br) ⟨hk.e,trivial⟩ hob (fun vs gs w' h1 h2 h3 h4=> ?_) (fun n x hx hal=> ?_) (fun m n x y hx hy hne h1 h2=> ?_) hm hc
 ·have ex:∀(m:Nat) (x:BR),(oldB L u++F.map FB.br)[m]? =some x→(∀k,x.al=some k→k<l.length):=fun m x hx=>(inR_spec hr hx).1
  have ss:∀(m:Nat) (x:BR),(oldB L u++F.map FB.br)[m]? =some x→(∀k∈x.st,k<l.length):=fun m x hx=>(inR_spec hr hx).2
  have bx:∀(m:Nat) (x:BR),(oldB L u++F.map FB.br)[m]? =some x→(x.bf x.st.length).p (gs m) w':=fun m x hx=>h4.post m x hx (ex m x hx) (ss m x hx)
  -- the new list, by its numbers
  have get:∀m,(updB L u++newB F fun k=>gs (L.length+k))[m]? =((oldB L u++F.map FB.br)[m]?).map fun x=>(gs m,x.bf x.st.length):=by
   intro m
   by_cases hml:m<L.length
   ·rw[List.getElem?_append_left (by rw[updB_len];exact hml),List.getElem?_append_left (by rw[oldB_len];exact hml),updB_get,oldB_get,Option.map_map]
    cases hy:L[m]? with
    |none=>rfl
    |some y=>
     have hx:(oldB L u++F.map FB.br)[m]? =some (mkO y ((u[m]?).getD [])):=by
      rw[List.getElem?_append_left (by rw[oldB_len];exact hml),oldB_get,hy];rfl
     have h5:=h4.old m _ hx (mkO_old _ _).1
     rw[(mkO_old _ _).2.1]at h5
     simp only[Option.map_some,Function.comp,h5,lastB]
     simp[mkO]
   ·rw[List.getElem?_append_right (by rw[updB_len];omega),List.getElem?_append_right (by rw[oldB_len];omega),updB_len,oldB_len,newB_get,List.getElem?_map,Option.map_map]
    cases F[m-L.length]? with
    |none=>rfl
    |some f=>
     simp only[Option.map_some,Function.comp]
     rw[show L.length+(m-L.length)=m by omega]
     rw[FB.br_end]
     rfl
  refine hend vs (fun k=>gs (L.length+k)) w' ⟨h1.1,Bxs.of fun x hx=> ?_, ?_,fun x hx=> ?_⟩ h3 (fun k f hf=> ?_)
  ·obtain⟨m,hm'⟩:=List.getElem?_of_mem hx
   rw[get,Option.map_eq_some_iff]at hm'
   obtain⟨y,h5,rfl⟩:=hm'
   exact bx m y h5
  ·rw[List.nodup_iff_pairwise_ne,List.pairwise_iff_getElem]
   intro i j hi hj hij
   rw[List.length_map]at hi hj
   rw[List.getElem_map,List.getElem_map]
   have gi:=get i
   have gj:=get j
   rw[List.getElem?_eq_getElem hi]at gi
   rw[List.getElem?_eq_getElem hj]at gj
   obtain⟨x,hx,ex'⟩:=Option.map_eq_some_iff.1 gi.symm
   obtain⟨y,hy,ey'⟩:=Option.map_eq_some_iff.1 gj.symm
   rw[←ex', ←ey']
   exact h4.ne i j x y hx hy (by omega) (ex i x hx) (ex j y hy)
  ·obtain⟨m,hm'⟩:=List.getElem?_of_mem hx
   rw[get,Option.map_eq_some_iff]at hm'
   obtain⟨y,h5,rfl⟩:=hm'
   dsimp only
   rcases box_at h5 with⟨h6,z,h7,rfl⟩| ⟨h6,f,h7,rfl⟩
   ·rw[h4.old m _ h5 (mkO_old _ _).1,(mkO_old _ _).2.1]
    exact hk.ge z (List.mem_of_getElem? h7)
   ·exact Nat.le_trans hk.e.size (h4.ptr m _ h5 f.al rfl (ex m _ h5 _ rfl)).2
  ·have hx:(oldB L u++F.map FB.br)[L.length+k]? =some f.br:=by
    rw[List.getElem?_append_right (by rw[oldB_len];omega),oldB_len,List.getElem?_map,show L.length+k-L.length=k by omega,hf];rfl
   exact(h4.ptr _ _ hx f.al rfl (ex _ _ hx _ rfl)).1
 ·rcases box_at hx with⟨h6,z,h7,rfl⟩| ⟨h6,f,h7,rfl⟩
  ·obtain⟨-,e1,e2⟩:=mkO_old z ((u[n]?).getD [])
   rw[e1,e2]
   exact⟨hk.ge z (List.mem_of_getElem? h7),hk.b.mem z (List.mem_of_getElem? h7),fun y hy=>by cases hy⟩
  ·cases hal
 ·rcases box_at hx with⟨h6,z,h7,rfl⟩| ⟨h6,f,h7,rfl⟩
  ·rcases box_at hy with⟨h8,z',h9,rfl⟩| ⟨h8,f,h9,rfl⟩
   ·rw[(mkO_old _ _).2.1,(mkO_old _ _).2.1]
    have hnd:=hk.nd
    rw[List.nodup_iff_pairwise_ne,List.pairwise_iff_getElem]at hnd
    have a1:=(List.getElem?_eq_some_iff.1 h7).2
    have a2:=(List.getElem?_eq_some_iff.1 h9).2
    rcases Nat.lt_or_gt_of_ne hne with hlt|hlt
    ·have:=hnd m n (by simpa using h6) (by simpa using h8) hlt
     rw[List.getElem_map,List.getElem_map,a1,a2]at this
     exact this
    ·have:=hnd n m (by simpa using h8) (by simpa using h6) hlt
     rw[List.getElem_map,List.getElem_map,a1,a2]at this
     exact fun e=>this e.symm
   ·cases h2
  ·cases h1
end
end Go.Proofs.YtaoioncjmfcolaaGreat
