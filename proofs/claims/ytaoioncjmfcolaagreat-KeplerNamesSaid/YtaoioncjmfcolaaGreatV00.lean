/- Short names for phrases that the other texts use often. -/
import Derived.Test.YtaoioncjmfcolaaGreatProg
import Derived.OrdersHeld
import Derived.OrdersIn
import Derived.Deep.RegionHeld
import Derived.BigQuiet
import Derived.ChangeAlike
import Derived.Deep.QuietTactic
import Derived.Deep.RegionHeld3
import Derived.Lib.Hide
import Derived.Outline
import Derived.OwnWalk
import Derived.RegionTactic
import Derived.WalkKit
import Derived.WalkLawsBesides
import Derived.WalkSpells
import Derived.Test.YtaoioncjmfcolaaGreatProg

namespace Go.Proofs.YtaoioncjmfcolaaGreat
open Go Go.RowKit
structure J_ where
def O:J_:=⟨⟩
instance:CoeFun J_ fun _=>Int→Value:=⟨fun _=>.int .i64⟩
structure J2_ where
def K_:J2_:=⟨⟩
instance:CoeFun J2_ fun _=>Nat→Array Value→World→(Ending→World→Prop)→Prop:=⟨fun _=>Calls Tryz.prog⟩
theorem sx_:(∀(a:Act) (d:Tmp) (v:Value),a.put (some d) v={a with tmps:=a.tmps.setIfInBounds d v})∧(∀(a:Act) (v:Value),a.put none v=a)∧(∀{α:Type} (l:List α) (i:Nat) (v:α),l.toArray.setIfInBounds i v=(l.set i v).toArray)∧(∀{α:Type} (a b:α) (l:List α),(a::l).set 0 b=b::l)∧(∀{α:Type} (a b:α) (l:List α) (n:Nat),(a::l).set (n+1) b=a::l.set n b)∧(∀{α:Type} (l:List α) (i:Nat) (h:i<l.toArray.size),l.toArray[i]=l[i]'(by simpa using h))∧(∀{α:Type} (a:α) (l:List α) (i:Nat) (h:i+1<(a::l).length),(a::l)[i+1]=l[i]'(by simpa using h))∧(∀{α:Type} (a:α) (l:List α) (h:0<(a::l).length),(a::l)[0]=a):=⟨fun _ _ _=>rfl,fun _ _=>rfl,fun _ _ _=>List.setIfInBounds_toArray ..,fun _ _ _=>rfl,fun _ _ _ _=>rfl,fun _ _ _=>rfl,fun _ _ _ _=>rfl,fun _ _ _=>rfl⟩
theorem tk {P:Program} {ops:Array Oper} {Q:Exit→Act→World→Prop} {md:Region.Mode} {S:World→Prop} (i:Nat) {oi:Oper} {v:Value} {fuel:Nat} {listed:Array Bool} {a:Act} {w:World} (hi:ops[i]? =some oi) (hy:∀w,S w→(execOp a.eval oi).run P w=.ok (.value v) w) (h:wpAnyH P md ops Q S fuel (listed.setIfInBounds i true) (a.put oi.dst v) w)
    (hs:Region.noSelect ops=true:=by kernel_rfl) (hf:Region.free md ops listed i=true:=by kernel_rfl) (hr:(Region.ready md ops listed).contains i=true:=by kernel_rfl) (hQ:∀c a w,Q (.panic c) (a.put oi.dst v) w→Q (.panic c) a w:=by exact fun _ _ _ h=>h) (hg:Region.wanted oi (yielded ops a.tmps)=true:=by rfl) (hS:S w:=by assumption):wpAnyH P md ops Q S (fuel+1) listed a w:=wpAnyH_take hi hs hf hr hQ (Or.inl ⟨hg,hy⟩) hS h
theorem ti {P:Program} {F:Fence} {n:Nat} {ops:Array Oper} {Q:Exit→Act→World→Prop} {md:Region.Mode} (i:Nat) {oi:Oper} {v:Value} {fuel:Nat} {listed:Array Bool} {a:Act} {w:World} (hi:ops[i]? =some oi) (hy:∀w,(execOp a.eval oi).run P w=.ok (.value v) w) (h:wpAnyIn F n P md ops Q fuel (listed.setIfInBounds i true) (a.put oi.dst v) w) (hro:F.round=none:=by exact rfl)
    (hs:Region.noSelect ops=true:=by kernel_rfl) (hf:Region.free md ops listed i=true:=by kernel_rfl) (hr:(Region.ready md ops listed).contains i=true:=by kernel_rfl) (hQ:∀c a w,Q (.panic c) (a.put oi.dst v) w→Q (.panic c) a w:=by exact fun _ _ _ h=>h) (hg:Region.wanted oi (yielded ops a.tmps)=true:=by rfl) (hab:∀w,oi.about P w a.eval=none:=by exact fun _=>rfl):wpAnyIn F n P md ops Q (fuel+1) listed a w:=wpAnyIn_take hro hi hs hf hr hQ ⟨Or.inl ⟨hg,hy⟩,hab⟩ h
theorem sK {P:Program} {ops:Array Oper} {Q:Exit→Act→World→Prop} {md:Region.Mode} {S:World→Prop} (i:Nat) {oi:Oper} {v:Value} {fuel:Nat} {listed l':Array Bool} {a a':Act} {w:World} (h:wpAnyH P md ops Q S fuel l' a' w) (hi:ops[i]? =some oi:=by rfl) (hy:∀w,S w→(execOp a.eval oi).run P w=.ok (.value v) w:=by intro w0 hSw;go_simp;try with_reducible rfl) (hs:Region.noSelect ops=true:=by kernel_rfl) (hf:Region.free md ops listed i=true:=by kernel_rfl) (hr:(Region.ready md ops listed).contains i=true:=by kernel_rfl) (hQ:∀c a w,Q (.panic c) (a.put oi.dst v) w→Q (.panic c) a w:=by exact fun _ _ _ h=>h) (hg:Region.wanted oi (yielded ops a.tmps)=true:=by rfl) (hS:S w:=by assumption) (hl:listed.setIfInBounds i true=l':=by(try simp only[sx_]);exact rfl) (ha:a.put oi.dst v=a':=by(try simp only[sx_]);exact rfl):wpAnyH P md ops Q S (fuel+1) listed a w:=by subst hl ha;exact tk i hi hy h hs hf hr hQ hg hS
theorem sKx {P:Program} {ops:Array Oper} {Q:Exit→Act→World→Prop} {md:Region.Mode} {S:World→Prop} (i:Nat) {oi:Oper} {v:Value} {fuel:Nat} {listed l':Array Bool} {a a':Act} {w:World} (hy:∀w,S w→(execOp a.eval oi).run P w=.ok (.value v) w) (h:wpAnyH P md ops Q S fuel l' a' w) (hi:ops[i]? =some oi:=by rfl) (hs:Region.noSelect ops=true:=by kernel_rfl) (hf:Region.free md ops listed i=true:=by kernel_rfl) (hr:(Region.ready md ops listed).contains i=true:=by kernel_rfl) (hQ:∀c a w,Q (.panic c) (a.put oi.dst v) w→Q (.panic c) a w:=by exact fun _ _ _ h=>h) (hg:Region.wanted oi (yielded ops a.tmps)=true:=by rfl) (hS:S w:=by assumption) (hl:listed.setIfInBounds i true=l':=by(try simp only[sx_]);exact rfl) (ha:a.put oi.dst v=a':=by(try simp only[sx_]);exact rfl):wpAnyH P md ops Q S (fuel+1) listed a w:=by subst hl ha;exact tk i hi hy h hs hf hr hQ hg hS
theorem sI {P:Program} {F:Fence} {n:Nat} {ops:Array Oper} {Q:Exit→Act→World→Prop} {md:Region.Mode} (i:Nat) {oi:Oper} {v:Value} {fuel:Nat} {listed l':Array Bool} {a a':Act} {w:World} (h:wpAnyIn F n P md ops Q fuel l' a' w) (hi:ops[i]? =some oi:=by rfl) (hy:∀w,(execOp a.eval oi).run P w=.ok (.value v) w:=by intro w1;go_simp;try with_reducible rfl) (hs:Region.noSelect ops=true:=by kernel_rfl) (hf:Region.free md ops listed i=true:=by kernel_rfl) (hr:(Region.ready md ops listed).contains i=true:=by kernel_rfl) (hro:F.round=none:=by exact rfl) (hQ:∀c a w,Q (.panic c) (a.put oi.dst v) w→Q (.panic c) a w:=by exact fun _ _ _ h=>h) (hg:Region.wanted oi (yielded ops a.tmps)=true:=by rfl) (hab:∀w,oi.about P w a.eval=none:=by exact fun _=>rfl) (hl:listed.setIfInBounds i true=l':=by(try simp only[sx_]);exact rfl) (ha:a.put oi.dst v=a':=by(try simp only[sx_]);exact rfl):wpAnyIn F n P md ops Q (fuel+1) listed a w:=by subst hl ha;exact ti i hi hy h hro hs hf hr hQ hg hab
theorem sIx {P:Program} {F:Fence} {n:Nat} {ops:Array Oper} {Q:Exit→Act→World→Prop} {md:Region.Mode} (i:Nat) {oi:Oper} {v:Value} {fuel:Nat} {listed l':Array Bool} {a a':Act} {w:World} (hy:∀w,(execOp a.eval oi).run P w=.ok (.value v) w) (h:wpAnyIn F n P md ops Q fuel l' a' w) (hi:ops[i]? =some oi:=by rfl) (hs:Region.noSelect ops=true:=by kernel_rfl) (hf:Region.free md ops listed i=true:=by kernel_rfl) (hr:(Region.ready md ops listed).contains i=true:=by kernel_rfl) (hro:F.round=none:=by exact rfl) (hQ:∀c a w,Q (.panic c) (a.put oi.dst v) w→Q (.panic c) a w:=by exact fun _ _ _ h=>h) (hg:Region.wanted oi (yielded ops a.tmps)=true:=by rfl) (hab:∀w,oi.about P w a.eval=none:=by exact fun _=>rfl) (hl:listed.setIfInBounds i true=l':=by(try simp only[sx_]);exact rfl) (ha:a.put oi.dst v=a':=by(try simp only[sx_]);exact rfl):wpAnyIn F n P md ops Q (fuel+1) listed a w:=by subst hl ha;exact ti i hi hy h hro hs hf hr hQ hg hab
theorem rd1 {P:Program} {ops:Array Oper} {Q:Exit→Act→World→Prop} {md:Region.Mode} {S:World→Prop} {fuel:Nat} {listed:Array Bool} {a:Act} {w:World} {i:Nat} {o:Oper} (ho:ops[i]? =some o) (h:(∀K':Act→World→Prop,Shut (∀a w,S w→(S w→wpAnyH P md ops Q S fuel (listed.setIfInBounds i true) a w)→K' a w)→if Region.wanted o (yielded ops a.tmps)=true then Oper.wp P o a w K' Q else K' (a.put o.dst undef) w)):AllReadyH P md ops Q S fuel listed a w [i]:=AllReadyH.cons ho h AllReadyH.nil
theorem rd2 {P:Program} {ops:Array Oper} {Q:Exit→Act→World→Prop} {md:Region.Mode} {S:World→Prop} {fuel:Nat} {listed:Array Bool} {a:Act} {w:World} {i j:Nat} {o u:Oper} (ho:ops[i]? =some o) (hu:ops[j]? =some u) (h:(∀K':Act→World→Prop,Shut (∀a w,S w→(S w→wpAnyH P md ops Q S fuel (listed.setIfInBounds i true) a w)→K' a w)→if Region.wanted o (yielded ops a.tmps)=true then Oper.wp P o a w K' Q else K' (a.put o.dst undef) w)) (k:(∀K':Act→World→Prop,Shut (∀a w,S w→(S w→wpAnyH P md ops Q S fuel (listed.setIfInBounds j true) a w)→K' a w)→if Region.wanted u (yielded ops a.tmps)=true then Oper.wp P u a w K' Q else K' (a.put u.dst undef) w)):AllReadyH P md ops Q S fuel listed a w [i,j]:=AllReadyH.cons ho h (AllReadyH.cons hu k AllReadyH.nil)
theorem wsz:(∀(w:World) (o:Obj),(w.alloc o).heap.size=w.heap.size+1)∧(∀(w:World) (a:Addr) (v:Value),(w.setCell a v).heap.size=w.heap.size):=⟨fun w o=>World.size_alloc w o,fun w a v=>World.size_setCell w a v⟩
theorem bn_:(∀{α:Type} [BEq α] [LawfulBEq α] {a b:α},(a != b)=true↔a≠b)∧(∀{α:Type} (a b:α),(a≠b)=¬a=b)∧(∀{α:Type} [BEq α] [LawfulBEq α] {a b:α},(a != b)=false↔a=b):=⟨bne_iff_ne,ne_eq,bne_eq_false_iff_eq⟩
theorem bm_:(∀{α:Type} [BEq α] [LawfulBEq α] {a b:α},(a==b)=true↔a=b)∧(∀{α:Type} [BEq α] [LawfulBEq α] {a b:α},(a==b)=false↔a≠b):=⟨beq_iff_eq,beq_eq_false_iff_ne⟩
theorem wsd:(∀w:World,w.drew.heap.size=w.heap.size)∧(∀(w:World) (o:Obj),(w.alloc o).heap.size=w.heap.size+1)∧(∀(w:World) (a:Addr) (v:Value),(w.setCell a v).heap.size=w.heap.size):=⟨fun _=>rfl,wsz⟩
theorem rh {P:Program} {ops:Array Oper} {Q:Exit→Act→World→Prop} {md:Region.Mode} {S:World→Prop} {fuel:Nat} {listed:Array Bool} {a:Act} {w:World} (i:Nat) (h:AllReadyH P md ops Q S fuel listed a w [i]) (hr:Region.ready md ops listed=[i]:=by kernel_rfl):wpAnyH P md ops Q S (fuel+1) listed a w:=wpAnyH_ready hr (by simp) h
theorem rh1 {P:Program} {ops:Array Oper} {Q:Exit→Act→World→Prop} {md:Region.Mode} {S:World→Prop} {fuel:Nat} {listed:Array Bool} {a:Act} {w:World} (i:Nat) {o:Oper} (ho:ops[i]? =some o) (h:(∀K':Act→World→Prop,Shut (∀a w,S w→(S w→wpAnyH P md ops Q S fuel (listed.setIfInBounds i true) a w)→K' a w)→if Region.wanted o (yielded ops a.tmps)=true then Oper.wp P o a w K' Q else K' (a.put o.dst undef) w)) (hr:Region.ready md ops listed=[i]:=by kernel_rfl):wpAnyH P md ops Q S (fuel+1) listed a w:=wpAnyH_ready hr (by simp) (AllReadyH.cons ho h AllReadyH.nil)
theorem rh2 {P:Program} {ops:Array Oper} {Q:Exit→Act→World→Prop} {md:Region.Mode} {S:World→Prop} {fuel:Nat} {listed:Array Bool} {a:Act} {w:World} (i j:Nat) {o u:Oper} (ho:ops[i]? =some o) (hu:ops[j]? =some u) (h:(∀K':Act→World→Prop,Shut (∀a w,S w→(S w→wpAnyH P md ops Q S fuel (listed.setIfInBounds i true) a w)→K' a w)→if Region.wanted o (yielded ops a.tmps)=true then Oper.wp P o a w K' Q else K' (a.put o.dst undef) w)) (k:(∀K':Act→World→Prop,Shut (∀a w,S w→(S w→wpAnyH P md ops Q S fuel (listed.setIfInBounds j true) a w)→K' a w)→if Region.wanted u (yielded ops a.tmps)=true then Oper.wp P u a w K' Q else K' (a.put u.dst undef) w)) (hr:Region.ready md ops listed=[i,j]:=by kernel_rfl):wpAnyH P md ops Q S (fuel+1) listed a w:=wpAnyH_ready hr (by simp) (AllReadyH.cons ho h (AllReadyH.cons hu k AllReadyH.nil))
theorem ri1 {P:Program} {F:Fence} {n:Nat} {ops:Array Oper} {Q:Exit→Act→World→Prop} {md:Region.Mode} {fuel:Nat} {listed:Array Bool} {a:Act} {w:World} (i:Nat) {o:Oper} (ho:ops[i]? =some o) (h:∀K':Act→World→Prop,(∀a w,wpAnyIn F n P md ops Q fuel (listed.setIfInBounds i true) a w→K' a w)→if Region.wanted o (yielded ops a.tmps)=true then Oper.wpIn F n P o a w K' Q else(∀f,o.about P w a.eval=some f→F.fn f)∧K' (a.put o.dst undef) w) (hr:Region.ready md ops listed=[i]:=by kernel_rfl):wpAnyIn F n P md ops Q (fuel+1) listed a w:=wpAnyIn_ready hr (by simp) (AllReadyIn.cons ho h AllReadyIn.nil)
theorem q_0 (a b c d e:Nat) (h:a<b∧c<b∧d<b∧e<b:=by refine⟨?_, ?_, ?_, ?_⟩<;>omega):type_of%h:=h
theorem q_1 (a b c d e f:Nat) (h:a<b∧c<b∧d<b∧e<b∧f<b:=by omega):type_of%h:=h
theorem q_2 (a b c d e f:Nat) (h:a<b∧c<b∧d<b∧e<b∧f<b:=by refine⟨?_, ?_, ?_, ?_, ?_⟩<;>omega):type_of%h:=h
theorem q_3 (a b c d e f g:Nat) (h:a<b∧c<b∧d<b∧e<b∧f<b∧g<b:=by refine⟨?_, ?_, ?_, ?_, ?_, ?_⟩<;>omega):type_of%h:=h
theorem q_4 (a b:Nat) (h:a<b∧(∀j,a<b+j)∧(¬a=b)∧(∀j,¬a=b+j)∧(¬b=a)∧(∀j,¬b+j=a):=by refine⟨?_,fun j=> ?_, ?_,fun j=> ?_, ?_,fun j=> ?_⟩<;>omega):type_of%h:=h
theorem q_5 (a b c d e f:Nat) (h:a<b∧¬a=b∧c<b∧¬c=b∧d<b∧¬d=b∧e<b∧¬e=b∧f<b∧¬f=b:=by omega):type_of%h:=h
theorem q_6 (a b c d e:Nat) (h:a<b∧¬a=b∧¬b=a∧a<c∧¬a=c∧¬c=a∧d<b∧¬d=b∧¬b=d∧d<c∧¬d=c∧¬c=d∧e<b∧¬e=b∧¬b=e∧e<c∧¬e=c∧¬c=e:=by omega):type_of%h:=h
theorem q_7 (a b c d e f:Nat) (h:a<b∧¬a=b∧¬b=a∧c<b∧¬c=b∧¬b=c∧d<b∧¬d=b∧¬b=d∧e<b∧¬e=b∧¬b=e∧f<b∧¬f=b∧¬b=f:=by omega):type_of%h:=h
theorem q_8 (a b c d e f:Nat) (h:¬a=b∧¬a=c∧¬a=d∧¬a=e∧¬a=f∧¬b=a∧¬b=c∧¬b=d∧¬b=e∧¬b=f∧¬c=a∧¬c=b∧¬c=d∧¬c=e∧¬c=f∧¬d=a∧¬d=b∧¬d=c∧¬d=e∧¬d=f∧¬e=a∧¬e=b∧¬e=c∧¬e=d∧¬e=f∧¬f=a∧¬f=b∧¬f=c∧¬f=d∧¬f=e:=by refine⟨?_, ?_, ?_, ?_, ?_, ?_, ?_, ?_, ?_, ?_, ?_, ?_, ?_, ?_, ?_, ?_, ?_, ?_, ?_, ?_, ?_, ?_, ?_, ?_, ?_, ?_, ?_, ?_, ?_, ?_⟩<;>omega):type_of%h:=h
theorem q_9 (a b c d e:Nat) (h:¬a=b∧¬a=c∧¬a=d∧¬a=e∧¬b=a∧¬b=c∧¬b=d∧¬b=e∧¬c=a∧¬c=b∧¬c=d∧¬c=e∧¬d=a∧¬d=b∧¬d=c∧¬d=e∧¬e=a∧¬e=b∧¬e=c∧¬e=d:=by refine⟨?_, ?_, ?_, ?_, ?_, ?_, ?_, ?_, ?_, ?_, ?_, ?_, ?_, ?_, ?_, ?_, ?_, ?_, ?_, ?_⟩<;>omega):type_of%h:=h
theorem q_10 (a b c d:Nat) (h:¬a=b∧¬a=c∧¬a=d∧¬b=a∧¬b=c∧¬b=d∧¬c=a∧¬c=b∧¬c=d∧¬d=a∧¬d=b∧¬d=c:=by refine⟨?_, ?_, ?_, ?_, ?_, ?_, ?_, ?_, ?_, ?_, ?_, ?_⟩<;>omega):type_of%h:=h
theorem q_11 (a b c:Nat) (h:¬a=b∧¬a=c∧¬b=a∧¬b=c∧¬c=a∧¬c=b:=by refine⟨?_, ?_, ?_, ?_, ?_, ?_⟩<;>omega):type_of%h:=h
theorem q_12 (a b c d e f:Nat) (h:¬a=b∧¬c=b∧¬d=b∧¬e=b∧¬f=b:=by omega):type_of%h:=h
theorem c_61 {p:Prop} (h:p:=by simp[go_sem, ↓IntWalk.iteOmega, *]):p:=h
theorem c_60 {p:Prop} (h:p:=by simpa using hk):p:=h
theorem c_59 {p:Prop} (h:p:=by unfold U32;omega):p:=h
theorem c_58 {p:Prop} (h:p:=by unfold Sz;rw[Int.natAbs_natCast];exact sr):p:=h
theorem c_57 {p:Prop} (h:p:=by dsimp only;omega):p:=h
theorem c_56 {p:Prop} (h:p:=by simp only[sg,if_true];simp;omega):p:=h
theorem c_55 {p:Prop} (h:p:=by unfold IsRoot;decide):p:=h
theorem c_54 {p:Prop} (h:p:=by intro ρ w1 h k;go_simp;first|done|exact hr1):p:=h
theorem c_53 {p:Prop} (h:p:=by intro ρ w1 h;go_simp;first|done| (simp only[IntKind.wrap_i64];omega)):p:=h
theorem c_52 {p:Prop} (h:p:=by intro ρ w1 h k;go_simp;first|done|rfl| (simp only[IntKind.wrap_i64];omega)):p:=h
theorem c_51 {p:Prop} (h:p:=by intro ρ w1 h k;go_simp;first|done|rfl):p:=h
theorem c_50 {p:Prop} (h:p:=by(try dsimp only);(try simp only[wsz]);omega):p:=h
theorem c_49 {p:Prop} (h:p:=by(try simp only[cell_drew,frozen_drew]);first|with_reducible assumption|simp[go_sem, *]):p:=h
theorem c_48 {p:Prop} (h:p:=by rw[hz2];omega):p:=h
theorem c_47 {p:Prop} (h:p:=by simp[go_sem]):p:=h
theorem c_46 {p:Prop} (h:p:=by(try simp only[cell_drew,frozen_drew]);first|with_reducible assumption| (rw[cell_al,if_neg (by(try simp only[size_drew]);omega)];(try simp only[cell_drew]);with_reducible assumption)|simp[go_sem, *]):p:=h
theorem c_45 {p:Prop} (h:p:=by simp[go_sem, *]):p:=h
theorem c_44 {p:Prop} (h:p:=by(try dsimp only);omega):p:=h
theorem c_43 {p:Prop} (h:p:=by first|rfl|simp):p:=h
theorem c_42 {p:Prop} (h:p:=by refine Ext.trans HE.out ?_;repeat(first|with_reducible exact Ext.refl _|with_reducible assumption|with_reducible refine Ext.alloc ?_ _|with_reducible refine Ext.setCell ?_ c_27 _|with_reducible refine Ext.drewN ?_ _|with_reducible refine Ext.drew ?_|with_reducible refine Ext.trans ?_ c_7)):p:=h
theorem c_41 {p:Prop} (h:p:=by intro ρ w1 h k;go_simp;first|done| (rw[show(10000:Nat)=9998+1+1 from rfl,eq_iv];rfl)):p:=h
theorem c_40 {p:Prop} (h:p:=by assumption):p:=h
theorem c_39 {p:Prop} (h:p:=by rintro e w' ⟨⟨h,_⟩| ⟨_,h⟩,k⟩;exact absurd h h0;exact⟨h,k⟩):p:=h
theorem c_38 {p:Prop} (h:p:=by intro w0 hSw;have q0:=(GB.cell (o:=0) hSw hbl (by omega)).trans b0;have q1:=(GB.cell (o:=1) hSw hbl (by omega)).trans b1;go_simp;try with_reducible rfl):p:=h
theorem c_37 {p:Prop} (h:p:=by have:=congrArg Addr.block h;simpa using this):p:=h
theorem c_36 {p:Prop} (h:p:=by intro w0 hSw;have q0:=(GB.cell (o:=0) hSw hbl1 (by omega)).trans b0';have q1:=(GB.cell (o:=1) hSw hbl1 (by omega)).trans b1';go_simp;try with_reducible rfl):p:=h
theorem c_35 {p:Prop} (h:p:=by intro w0 hSw;have q0:=(Ext.cells hSw).1 _ 0 (World.block_lt_of_cell? _ _ a0);rw[a0]at q0;have q1:=(Ext.cells hSw).1 _ 1 (World.block_lt_of_cell? _ _ a1);rw[a1]at q1;have q2:=(Ext.cells hSw).1 _ 0 (World.block_lt_of_cell? _ _ b0);rw[b0]at q2;have q3:=(Ext.cells hSw).1 _ 1 (World.block_lt_of_cell? _ _ b1);rw[b1]at q3;go_simp;try with_reducible rfl):p:=h
theorem c_34 {p:Prop} (h:p:=by(try simp only[size_drew,World.size_setCell]);omega):p:=h
theorem c_33 {p:Prop} (h:p:=by have:=hge;(try simp only[size_drew,World.size_alloc]at this ⊢);first|exact this|omega):p:=h
theorem c_32 {p:Prop} (h:p:=by(try simp only[frozen_drew]);first|with_reducible assumption|simp[go_sem, *]):p:=h
theorem c_31 {p:Prop} (h:p:=by unfold maxLen;omega):p:=h
theorem c_30 {p:Prop} (h:p:=by first| (simp;done)| (simp;omega)):p:=h
theorem c_29 {p:Prop} (h:p:=by intro u hu;simp at hu;subst hu;rfl):p:=h
theorem c_28 {p:Prop} (h:p:=by intro ρ w1 h k;go_simp;first|done| (simp only[Int.max_def];split<;>rfl)):p:=h
theorem c_27 {p:Prop} (h:p:=by(try simp only[wsz]);omega):p:=h
theorem c_26 {p:Prop} (h:p:=by simp;omega):p:=h
theorem c_25 {p:Prop} (h:p:=by rintro e w' ⟨⟨_,h⟩| ⟨h,_⟩,k⟩;exact⟨h,k⟩;exact absurd rfl h):p:=h
theorem c_24 {p:Prop} (h:p:=by(try simp only[cell_drew,frozen_drew]);first|with_reducible assumption|simp[go_sem, ↓IntWalk.iteOmega, *]):p:=h
theorem c_23 {p:Prop} (h:p:=by(try simp only[frozen_drew]);first|with_reducible assumption| (rw[cell_al,if_neg (by(try simp only[size_drew]);omega)];(try simp only[cell_drew]);with_reducible assumption)|simp[go_sem, *]):p:=h
theorem c_22 {p:Prop} (h:p:=by repeat(first|exact Ext.refl _|with_reducible assumption|refine Ext.alloc ?_ _|refine Ext.setCell ?_ (by(try simp only[wsz]);omega) _|refine Ext.drewN ?_ _|refine Ext.drew ?_|refine Ext.trans ?_ c_7)):p:=h
theorem c_21 {p:Prop} (h:p:=by(try simp only[cell_drew,frozen_drew]);first|with_reducible assumption| (rw[cell_al,if_neg (by(try simp only[size_drew]);omega)];(try simp only[cell_drew]);with_reducible assumption)|simp[go_sem, ↓IntWalk.iteOmega, *]):p:=h
theorem c_20 {p:Prop} (h:p:=by intro ρ w1 h k;go_simp;first|done|rfl|omega| (simp;omega)):p:=h
theorem c_19 {p:Prop} (h:p:=by(repeat(first|with_reducible refine ExtP.set ?_| (with_reducible refine ExtP.store ?_ ?_;rotate_left;(focus ((try simp only[]);omega)))|with_reducible refine ExtP.ext ?_ ((Ext.refl _).alloc _)|with_reducible refine ExtP.ext ?_ ((Ext.refl _).drew)|with_reducible assumption|with_reducible exact ExtP.of _ _ (Ext.refl w)|with_reducible refine ExtP.ext ?_ c_7))):p:=h
theorem c_18 {p:Prop} (h:p:=by intro w0 hSw;have qh0:=hSw.1.at 0 x1 (by decide) rfl;have qh1:=hSw.1.at 1 x2 (by decide) rfl;have qh2:=hSw.1.at 2 x3 (by decide) rfl;have qh3:=hSw.1.at 3 x4 (by decide) rfl;have qh4:=hSw.1.at 4 x5 (by decide) rfl;have qh5:=hSw.1.at 5 x6 (by decide) rfl;have qg0:=hSw.2.1.at 0 325358913 (by decide) rfl;have qg1:=hSw.2.1.at 1 325358914 (by decide) rfl;obtain⟨qo0,qo1⟩:=hSw.2.2.1;go_simp;try with_reducible rfl):p:=h
theorem c_17 {p:Prop} (h:p:=by intro w0 hSw;have qv0:=hSw.1.at 0 v1 (by decide) rfl;have qv1:=hSw.1.at 1 v1 (by decide) rfl;have qv2:=hSw.1.at 2 v2 (by decide) rfl;have qv3:=hSw.1.at 3 v2 (by decide) rfl;have qv4:=hSw.1.at 4 v3 (by decide) rfl;have qv5:=hSw.1.at 5 v3 (by decide) rfl;have qg0:=hSw.2.1.at 0 325358913 (by decide) rfl;have qg1:=hSw.2.1.at 1 325358914 (by decide) rfl;obtain⟨qo0,qo1⟩:=hSw.2.2.1;go_simp;try with_reducible rfl):p:=h
theorem c_16 {p:Prop} (h:p:=by(try simp only[cell_drew]);first|with_reducible assumption|simp[go_sem, *]):p:=h
theorem c_15 {p:Prop} (h:p:=by intro w0 hSw;have r2:=(hSw.cells.1 _ 2 hB).trans k2;have r3:=(hSw.cells.1 _ 3 hB).trans k3;have g0:=(hSw.cells.1 _ 0 hG).trans l0;have g1:=(hSw.cells.1 _ 1 hG).trans l1;go_simp;try with_reducible rfl):p:=h
theorem c_14 {p:Prop} (h:p:=by first| (refine Or.inl ⟨?_, ?_, ?_⟩<;>(first|rfl| (dsimp only;omega)))| (refine Or.inr ?_;(try dsimp only);(try simp only[wsz]);omega)):p:=h
theorem c_13 {p:Prop} (h:p:=by(try simp only[cell_drew]);first|with_reducible assumption| (rw[cell_al,if_neg (by(try simp only[size_drew]);omega)];(try simp only[cell_drew]);with_reducible assumption)|simp[go_sem, *]):p:=h
theorem c_12 {p:Prop} (h:p:=by simp[go_sem, ↓IntWalk.iteOmega]):p:=h
theorem c_11 {p:Prop} (h:p:=by unfold I64;decide):p:=h
theorem c_10 {p:Prop} (h:p:=by(repeat(first|with_reducible refine ExtP.set ?_| (with_reducible refine ExtP.store ?_ ?_;rotate_left;(focus ((try simp only[wsz]);omega)))|with_reducible refine ExtP.ext ?_ ((Ext.refl _).alloc _)|with_reducible refine ExtP.ext ?_ ((Ext.refl _).drew)|with_reducible assumption|with_reducible exact ExtP.of _ _ (Ext.refl w)|with_reducible refine ExtP.ext ?_ c_7))):p:=h
theorem c_9 {p:Prop} (h:p:=by intro w0 hSw;have q0:=(GB.cell (o:=0) hSw hgl ng).trans d0;have q1:=(GB.cell (o:=1) hSw hgl ng).trans d1;have q2:=(GB.cell (o:=0) hSw lc2 nc).trans cU0;have q3:=(GB.cell (o:=1) hSw lc2 nc).trans cU1;have q4:=(GB.cell (o:=2) hSw la2 na).trans aU;have q5:=(GB.cell (o:=2) hSw lb2 nb).trans bU;have q6:=(GB.cell (o:=2) hSw lc2 nc).trans cU2;go_simp;try with_reducible rfl):p:=h
theorem c_8 {p:Prop} (h:p:=by first|exact Or.inl (by refine⟨?_, ?_, ?_⟩<;>(first|rfl| (dsimp only;omega)))|exact Or.inr (by(try simp only[wsz]);omega)):p:=h
theorem c_7 {p:Prop} (h:p:=by with_reducible assumption):p:=h
theorem c_6 {p:Prop} (h:p:=by intro ρ w1 h k;go_simp;first|done|omega| (simp;omega)):p:=h
theorem c_5 {p:Prop} (h:p:=by intro w0 hSw;(try dsimp only at hSw);go_simp;try with_reducible rfl):p:=h
theorem c_4 {p:Prop} (h:p:=by first| (refine Or.inl ⟨?_, ?_, ?_⟩<;>(first|rfl| (dsimp only;omega)))| (refine Or.inr (Or.inl ⟨?_, ?_⟩)<;>(first|rfl| (dsimp only;omega)))| (refine Or.inr (Or.inr ?_);(try dsimp only);(try simp only[wsz]);omega)):p:=h
theorem c_3 {p:Prop} (h:p:=by kernel_rfl):p:=h
theorem c_2 {p:Prop} (h:p:=by intro ρ w1 h k;go_simp;first|done|omega| (have hm:=hm.out;omega)| (have hz:=hz.out;omega)| (simp;omega)| (have hm:=hm.out;simp;omega)| (have hz:=hz.out;simp;omega)):p:=h
theorem c_1 {p:Prop} (h:p:=by intro ρ w1 h k;go_simp;first|done| (simp only[IntKind.wrap_i64];omega)):p:=h
theorem c_0 {p:Prop} (h:p:=by intro w0 hSw;have q0:=BX.get hSw 0 rfl;have q1:=BX.get hSw 1 rfl;have q2:=BX.get hSw 2 rfl;have q3:=BX.get hSw 3 rfl;go_simp;try with_reducible rfl):p:=h
theorem ex_ {p:Prop} (h:p:=by repeat(first|with_reducible exact Ext.refl _|with_reducible assumption|with_reducible refine Ext.alloc ?_ _|with_reducible refine Ext.setCell ?_ (by(try simp only[wsz]);omega) _|with_reducible refine Ext.drewN ?_ _|with_reducible refine Ext.drew ?_|with_reducible refine Ext.trans ?_ (by with_reducible assumption))):p:=h
theorem k_0 {p:Prop} (h:p:=by(first| (with_reducible exact held0 hWe)| (with_reducible exact held1 c_7 c_7)| (with_reducible exact held3 c_7)| (repeat(first| (with_reducible assumption)| (with_reducible refine held2 ?_ c_8 (by(try simp only[]);omega)))))):p:=h
theorem k_1 {p:Prop} (h:p:=by(first| ((with_reducible refine held5 c_7 ?_ ?_)<;>((try simp only[size_drew]);omega))| ((with_reducible refine held4 c_7 ?_ ?_)<;>((try simp only[World.size_alloc,World.size_setCell,size_drew]);omega))| (with_reducible exact held3d c_7)| (with_reducible exact held0 hWe)| (with_reducible exact held1 c_7 c_7)| (with_reducible exact held3 c_7)| ((with_reducible refine held4 c_7 ?_ ?_)<;>omega)| ((with_reducible refine held3 ?_);(repeat(with_reducible refine held2 ?_ c_14 c_50));((with_reducible refine heldDrop c_7 ?_ ?_)<;>((try simp only[size_drew]);omega)))| (repeat(first| (with_reducible assumption)| (with_reducible refine held2 ?_ c_14 c_50))))):p:=h
theorem k_2 {p:Prop} (h:p:=by(first| (with_reducible exact held0 hWe)| (with_reducible exact held1 c_7 c_7)| (with_reducible exact held3 c_7)| ((with_reducible refine held4 c_7 ?_ ?_)<;>omega)| (repeat(first| (with_reducible assumption)| (with_reducible refine held2 ?_ c_14 c_50))))):p:=h
theorem k_3 {p:Prop} (h:p:=by(first| (with_reducible exact hel0 hWe)| (with_reducible exact hel1p c_7 c_7)| (with_reducible exact hel1 c_7 c_7)| (with_reducible exact hel3d c_7)| (with_reducible exact hel3 c_7)| ((with_reducible refine hel4 c_7 ?_ ?_)<;>omega)| (repeat(first| (with_reducible assumption)| (with_reducible refine hel2 ?_ c_4 c_50))))):p:=h
theorem b_0 {p:Prop} (h:p:=by rw[←he]at hp;exact absurd hc (Nat.not_lt.2 hp)):p:=h
theorem b_1 {p:Prop} (h:p:=by repeat(first|with_reducible exact Ext.refl _|with_reducible assumption|with_reducible refine Ext.alloc ?_ _|with_reducible refine Ext.setCell ?_ c_27 _|with_reducible refine Ext.drewN ?_ _|with_reducible refine Ext.drew ?_|with_reducible refine Ext.trans ?_ c_7)):p:=h
theorem b_2 {p:Prop} (h:p:=by exact⟨.bool false,by simp[go_sem, ↓IntWalk.iteOmega]⟩):p:=h
theorem b_3 {p:Prop} (h:p:=by exact⟨.slice none 0 0,by simp[go_sem, ↓IntWalk.iteOmega]⟩):p:=h
theorem b_4 {p:Prop} (h:p:=by intro o;simp[go_sem, ↓IntWalk.iteOmega]):p:=h
theorem b_5 {p:Prop} (h:p:=by(try dsimp only);exact hH.ext hx2):p:=h
theorem b_6 {p:Prop} (h:p:=by(try dsimp only);exact hH.ext hx3):p:=h
theorem b_7 {p:Prop} (h:p:=by(try dsimp only);exact(hH.set (by omega) hLn (fun z e=>by cases e)).set (by omega) hLn (fun z e=>by cases e)):p:=h
theorem b_8 {p:Prop} (h:p:=by repeat(first|with_reducible exact hx|with_reducible refine Lim.box ?_ ?_|with_reducible refine NoU.set ?_ (fun z e=>by cases e)|with_reducible exact hnu|with_reducible refine NoU.alloc ?_ (by first|exact hsz| (simp only[World.size_alloc];omega)) _ _|with_reducible refine Lim.alloc ?_ _)):p:=h
theorem b_9 {p:Prop} (h:p:=by exact Lim.box (Lim.box hu hB) (NoU.set hB (fun z e=>by cases e))):p:=h
theorem b_10 {p:Prop} (h:p:=by(try dsimp only);exact Ext.trans hH hx):p:=h
theorem b_11 {p:Prop} (h:p:=by(try dsimp only);exact Ext.setCell (Ext.setCell hH c_33 _) c_33 _):p:=h
theorem b_12 {p:Prop} (h:p:=by(try dsimp only);exact GB.trans hH (GB.ext hx)):p:=h
theorem b_13 {p:Prop} (h:p:=by(try dsimp only);exact(GB.set hH _).set _):p:=h
theorem b_14 {p:Prop} (h:p:=by(try dsimp only);exact Ext.alloc hH _):p:=h
theorem b_15 {p:Prop} (h:p:=by repeat(first|exact Ext.refl _|with_reducible assumption|refine Ext.alloc ?_ _|refine Ext.setCell ?_ (by(try simp only[]);omega) _|refine Ext.trans ?_ c_7)):p:=h
theorem b_16 {p:Prop} (h:p:=by repeat(first|exact Ext.refl _|with_reducible assumption|refine Ext.alloc ?_ _|refine Ext.setCell ?_ c_27 _|refine Ext.drewN ?_ _|refine Ext.drew ?_|refine Ext.trans ?_ c_7)):p:=h
theorem b_17 {p:Prop} (h:p:=by repeat(first|exact Ext.refl _|with_reducible assumption|refine Ext.alloc ?_ _|refine Ext.setCell ?_ (by(try simp only[]);omega) _|refine Ext.drewN ?_ _|refine Ext.drew ?_|refine Ext.trans ?_ c_7)):p:=h
theorem b_18 {p:Prop} (h:p:=by repeat(first|with_reducible exact Ext.refl _|with_reducible assumption|with_reducible refine Ext.alloc ?_ _|with_reducible refine Ext.setCell ?_ (by(try simp only[]);omega) _|with_reducible refine Ext.drewN ?_ _|with_reducible refine Ext.drew ?_|with_reducible refine Ext.trans ?_ c_7)):p:=h
theorem b_19 {p:Prop} (h:p:=by(repeat(first|with_reducible refine ExtP.set ?_| (with_reducible refine ExtP.store ?_ ?_;rotate_left;(focus ((try simp only[]);omega)))|with_reducible refine ExtP.ext ?_ ((Ext.refl _).alloc _)|with_reducible refine ExtP.ext ?_ ((Ext.refl _).drew)|with_reducible assumption|with_reducible exact ExtP.of _ _ (Ext.refl w)|with_reducible refine ExtP.ext ?_ c_7))):p:=h
theorem b_20 {p:Prop} (h:p:=by(repeat(first|with_reducible exact Ext.refl _|with_reducible exact Ext.same hV (Ext.refl _)|with_reducible assumption|with_reducible refine Ext.alloc ?_ _| (with_reducible refine Ext.setCell ?_ ?_ _;rotate_left;(focus ((try simp only[wsz]);omega)))|with_reducible refine Ext.drew ?_|with_reducible refine Ext.trans ?_ c_7))):p:=h
theorem b_21 {p:Prop} (h:p:=by refine Lim.box (Lim.box (Lim.box (Lim.box hxW ?_) ?_) ?_) ?_<;>(repeat(first|with_reducible exact hnu|with_reducible refine NoU.set ?_ (fun z e=>by cases e)))):p:=h
theorem b_22 {p:Prop} (h:p:=by refine Lim.box (Lim.box (Lim.box (Lim.box hyW ?_) ?_) ?_) ?_<;>(repeat(first|with_reducible exact hnu|with_reducible refine NoU.set ?_ (fun z e=>by cases e)))):p:=h
theorem b_23 {p:Prop} (h:p:=by refine Lim.box (Lim.box (Lim.box (Lim.box (Lim.box hx ?_) ?_) ?_) ?_) ?_<;>(repeat(first|with_reducible exact hnu|with_reducible exact hnv|with_reducible refine NoU.set ?_ (fun z e=>by cases e)))):p:=h
theorem b_24 {p:Prop} (h:p:=by refine Lim.box (Lim.box (Lim.box (Lim.box (Lim.box hy ?_) ?_) ?_) ?_) ?_<;>(repeat(first|with_reducible exact hnu|with_reducible exact hnv|with_reducible refine NoU.set ?_ (fun z e=>by cases e)))):p:=h
theorem b_25 {p:Prop} (h:p:=by refine Lim.box (Lim.box (Lim.box (Lim.box hx ?_) ?_) ?_) ?_<;>(repeat(first|with_reducible exact hnu|with_reducible refine NoU.set ?_ (fun z e=>by cases e)))):p:=h
theorem b_26 {p:Prop} (h:p:=by refine Lim.box (Lim.box (Lim.box (Lim.box hy ?_) ?_) ?_) ?_<;>(repeat(first|with_reducible exact hnu|with_reducible refine NoU.set ?_ (fun z e=>by cases e)))):p:=h
theorem b_27 {p:Prop} (h:p:=by simp[results,Tryz.results67,go_sem, ↓IntWalk.iteOmega, *]):p:=h
theorem b_28 {p:Prop} (h:p:=by simp[results,Tryz.results128,go_sem, ↓IntWalk.iteOmega,p0,p1,p2,p3,d0,d1,d2,d3]):p:=h
theorem b_29 {p:Prop} (h:p:=by(repeat(first|with_reducible refine ExtP.set ?_| (with_reducible refine ExtP.store ?_ ?_;rotate_left;(focus ((try simp only[]);omega)))|with_reducible refine ExtP.ext ?_ ((Ext.refl _).alloc _)|with_reducible refine ExtP.ext ?_ ((Ext.refl _).drew)|with_reducible assumption|with_reducible exact ExtP.of _ _ (Ext.refl V)|with_reducible refine ExtP.ext ?_ c_7))):p:=h
theorem b_30 {p:Prop} (h:p:=by exact GB.pre hE (((((((((((((((((GB.refl _ _).set (j:=0) _).set (j:=1) _).set (j:=2) _).set (j:=3) _).set (j:=4) _).set (j:=5) _).set (j:=6) _).set (j:=7) _).set (j:=8) _).set (j:=9) _).set (j:=10) _).set (j:=11) _).set (j:=12) _).set (j:=13) _).set (j:=14) _).set (j:=15) _) (by omega)):p:=h
theorem b_31 {p:Prop} (h:p:=by intro w0 hSw;go_simp;try with_reducible rfl):p:=h
end Go.Proofs.YtaoioncjmfcolaaGreat
