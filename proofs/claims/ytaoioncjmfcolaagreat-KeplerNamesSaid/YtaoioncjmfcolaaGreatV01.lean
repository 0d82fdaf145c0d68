/- Lists of limbs: what they are worth, without zeros at the end; sums, p -/
import Derived.Test.YtaoioncjmfcolaaGreatV00
set_option linter.unusedSimpArgs false
set_option linter.unusedVariables false
set_option maxRecDepth 100000
set_option maxHeartbeats 1000000
namespace Go.Proofs.YtaoioncjmfcolaaGreat
def BB:Int:=4294967296
def val:List Int→Int
 | []=>0
 |x::r=>x+BB*val r
def Lb (xs:List Int):Prop:=∀x∈xs,0≤x∧x<BB
theorem Lb.nil:Lb []:=fun _ h=>by cases h
theorem Lb.cons {x:Int} {r:List Int} (h:0≤x∧x<BB) (k:Lb r):Lb (x::r):=fun y hy=>by
 rcases List.mem_cons.1 hy with rfl|hy
 ·exact h
 ·exact k y hy
theorem Lb.head {x:Int} {r:List Int} (h:Lb (x::r)):0≤x∧x<BB:=h x List.mem_cons_self
theorem Lb.tail {x:Int} {r:List Int} (h:Lb (x::r)):Lb r:=fun y hy=>h y (List.mem_cons_of_mem _ hy)
theorem Lb.append {a b:List Int} (h:Lb a) (k:Lb b):Lb (a++b):=fun y hy=>(List.mem_append.1 hy).elim (h y) (k y)
theorem Lb.take {a:List Int} (h:Lb a) (n:Nat):Lb (a.take n):=fun y hy=>h y (List.mem_of_mem_take hy)
theorem Lb.getD {a:List Int} (h:Lb a) (i:Nat):0≤a.getD i 0∧a.getD i 0<BB:=by
 rw[List.getD_eq_getElem?_getD]
 cases hi:a[i]? with
 |none=>exact⟨by decide,by decide⟩
 |some x=>exact h x (List.mem_of_getElem? hi)
theorem val_append (a b:List Int):val (a++b)=val a+BB^a.length*val b:=by
 induction a with
 |nil=>simp[val]
 |cons x r ih=>
  simp only[List.cons_append,val,ih,List.length_cons,Int.pow_succ]
  grind
theorem val_nonneg {a:List Int} (h:Lb a):0≤val a:=by
 induction a with
 |nil=>exact Int.le_refl 0
 |cons x r ih=>have:=h.head;have:=ih h.tail;unfold val BB;omega
theorem val_lt {a:List Int} (h:Lb a):val a<BB^a.length:=by
 induction a with
 |nil=>simp[val]
 |cons x r ih=>
  have hx:=h.head;have:=ih h.tail
  simp only[List.length_cons,Int.pow_succ,val]
  unfold BB at*;omega
theorem val_zeros (n:Nat):val (List.replicate n 0)=0:=by
 induction n with
 |zero=>rfl
 |succ n ih=>simp[List.replicate_succ,val,ih]
def Nz (a:List Int):Prop:=∀x,a.getLast? =some x→x≠0
theorem Nz.nil:Nz []:=fun x h=>by simp at h
def trimL:List Int→List Int
 | []=>[]
 |x::r=>match trimL r with
  | []=>if x=0 then[]else[x]
  |y::s=>x::y::s
theorem val_trim (a:List Int):val (trimL a)=val a:=by
 induction a with
 |nil=>rfl
 |cons x r ih=>
  unfold trimL
  cases h:trimL r with
  |nil=>
   rw[h]at ih
   have h0:val r=0:=by simpa [val]using ih.symm
   by_cases hx:x=0
   ·simp[hx,val,h0]
   ·simp[hx,val,h0]
  |cons y s=>rw[h]at ih;simp only[val]at ih ⊢;rw[ih]
theorem trim_nz (a:List Int):Nz (trimL a):=by
 induction a with
 |nil=>exact Nz.nil
 |cons x r ih=>
  unfold trimL
  cases h:trimL r with
  |nil=>
   by_cases hx:x=0
   ·simp[hx];exact Nz.nil
   ·intro z hz;simp[hx]at hz;exact hz▸hx
  |cons y s=>
   rw[h]at ih
   intro z hz
   exact ih z (by simpa [List.getLast?_cons_cons]using hz)
theorem trim_take (a:List Int):trimL a=a.take (trimL a).length:=by
 induction a with
 |nil=>rfl
 |cons x r ih=>
  unfold trimL
  cases h:trimL r with
  |nil=>by_cases hx:x=0<;>simp[hx]
  |cons y s=>
   rw[h]at ih
   simp only[List.length_cons,List.take_succ_cons]
   simp only[List.length_cons]at ih
   rw[←ih]
theorem trim_le (a:List Int):(trimL a).length≤a.length:=by
 have:=congrArg List.length (trim_take a)
 rw[List.length_take]at this
 omega
theorem trim_lb {a:List Int} (h:Lb a):Lb (trimL a):=by rw[trim_take];exact h.take _
theorem trim_of_nz {a:List Int} (h:Nz a):trimL a=a:=by
 induction a with
 |nil=>rfl
 |cons x r ih=>
  cases r with
  |nil=>
   have:x≠0:=h x rfl
   simp[trimL,this]
  |cons y s=>
   have:=ih (fun z hz=>h z (by simpa [List.getLast?_cons_cons]using hz))
   unfold trimL;rw[this]
theorem trim_snoc (a:List Int):trimL (a++[0])=trimL a:=by
 induction a with
 |nil=>rfl
 |cons x r ih=>simp only[List.cons_append];unfold trimL;rw[ih]
theorem trim_snoc_ne (a:List Int) {x:Int} (hx:x≠0):trimL (a++[x])=a++[x]:=
 trim_of_nz fun z hz=>by simp at hz;exact hz▸hx
theorem val_pos {a:List Int} (h:Lb a) (k:Nz a) (ne:a≠[]):BB^(a.length-1)≤val a:=by
 obtain⟨b,x,rfl⟩:∃b x,a=b++[x]:=⟨a.dropLast,a.getLast ne,(List.dropLast_concat_getLast ne).symm⟩
 have hx:x≠0:=k x (by simp)
 have hx0:=h x (by simp)
 have hb:Lb b:=fun y hy=>h y (by simp[hy])
 rw[val_append]
 simp only[List.length_append,List.length_cons,List.length_nil,val]
 have h1:=val_nonneg hb
 have h2:BB^b.length*1≤BB^b.length*(x+BB*0):=Int.mul_le_mul_of_nonneg_left (by omega) (Int.pow_nonneg (by decide))
 simp only[Nat.zero_add,Nat.add_sub_cancel]
 omega
theorem val_inj:∀{a b:List Int},Lb a→Lb b→Nz a→Nz b→val a=val b→a=b
 | [],[],_,_,_,_,_=>rfl
 | [],y::s,_,hb,_,kb,h=>by
  have:=val_pos hb kb (by simp);rw[←h]at this
  have p:(0:Int)<BB^((y::s).length-1):=Int.pow_pos (by decide)
  simp only[val]at this;omega
 |x::r,[],ha,_,ka,_,h=>by
  have:=val_pos ha ka (by simp);rw[h]at this
  have p:(0:Int)<BB^((x::r).length-1):=Int.pow_pos (by decide)
  simp only[val]at this;omega
 |x::r,y::s,ha,hb,ka,kb,h=>by
  have hx:=ha.head;have hy:=hb.head
  simp only[val]at h
  have e1:x=y:=by unfold BB at*;omega
  have e2:val r=val s:=by unfold BB at*;omega
  have kr:Nz r:=fun z hz=>ka z (by cases r with|nil=>simp at hz|cons u v=>simpa [List.getLast?_cons_cons]using hz)
  have ks:Nz s:=fun z hz=>kb z (by cases s with|nil=>simp at hz|cons u v=>simpa [List.getLast?_cons_cons]using hz)
  rw[e1,val_inj ha.tail hb.tail kr ks e2]
theorem bb_mono {m n:Nat} (h:m≤n):BB^m≤BB^n:=by
  induction n with
  | zero => have:m=0:=by omega
            subst this;exact Int.le_refl _
  |succ n ih=>
    by_cases hm:m=n+1
    · subst hm;exact Int.le_refl _
    · have:=ih (by omega)
      have p:(0:Int)<BB^n:=Int.pow_pos (by decide)
      rw[Int.pow_succ];unfold BB at*;omega
theorem val_lt_of_len {a b:List Int} (ha:Lb a) (hb:Lb b) (kb:Nz b) (h:a.length<b.length):val a<val b:=by
 have h1:=val_lt ha
 have h2:=val_pos hb kb (by rintro rfl;simp at h)
 have h3:BB^a.length≤BB^(b.length-1):=bb_mono (by omega)
 omega
def digN:Nat→Nat→List Int
 |0,_=>[]
 |f+1,n=>if n=0 then[]else(n%4294967296:Nat)::digN f (n/4294967296)
def dig (n:Nat):List Int:=digN n n
theorem digN_ok:∀(f n:Nat),n≤f→Lb (digN f n)∧Nz (digN f n)∧val (digN f n)=n
 |0,n,h=>by
  have:n=0:=by omega
  subst this;exact⟨Lb.nil,Nz.nil,rfl⟩
 |f+1,n,h=>by
  unfold digN
  by_cases hn:n=0
  ·simp[hn];exact⟨Lb.nil,Nz.nil,rfl⟩
  ·rw[if_neg hn]
   obtain⟨h1,h2,h3⟩:=digN_ok f (n/4294967296) (by omega)
   refine⟨Lb.cons (by unfold BB;omega) h1, ?_,by simp only[val,h3];unfold BB;omega⟩
   intro z hz
   cases hd:digN f (n/4294967296)with
   |nil=>
    rw[hd]at hz h3;simp at hz;simp only[val]at h3;subst hz;omega
   |cons u v=>rw[hd]at hz h2;exact h2 z (by simpa [List.getLast?_cons_cons]using hz)
theorem dig_lb (n:Nat):Lb (dig n):=(digN_ok n n (Nat.le_refl _)).1
theorem dig_nz (n:Nat):Nz (dig n):=(digN_ok n n (Nat.le_refl _)).2.1
theorem dig_val (n:Nat):val (dig n)=n:=(digN_ok n n (Nat.le_refl _)).2.2
theorem eq_dig {a:List Int} (h:Lb a) (k:Nz a) {n:Nat} (e:val a=n):a=dig n:=val_inj h (dig_lb n) k (dig_nz n) (e.trans (dig_val n).symm)
theorem trim_dig {a:List Int} (h:Lb a) {n:Nat} (e:val a=n):trimL a=dig n:=eq_dig (trim_lb h) (trim_nz a) ((val_trim a).trans e)
end Go.Proofs.YtaoioncjmfcolaaGreat
namespace Go.Proofs.YtaoioncjmfcolaaGreat
open Go.RowKit
def Ext (w w':World):Prop:=Below w.heap.size w w'
theorem Ext.refl (w:World):Ext w w:=Below.refl _ _
theorem Ext.trans {a b c:World} (h:Ext a b) (k:Ext b c):Ext a c:=Below.trans h (Below.mono k (Below.size h))
theorem Ext.alloc {a w:World} (h:Ext a w) (o:Obj):Ext a (w.alloc o):=Below.alloc h (Below.size h) o
theorem Ext.setCell {a w:World} (h:Ext a w) {p:Addr} (hp:a.heap.size≤p.block) (u:Value):Ext a (w.setCell p u):=Below.setCell h hp u
theorem Ext.drew {a w:World} (h:Ext a w):Ext a w.drew:=Below.drew h
theorem Ext.drewN {a w:World} (h:Ext a w) (n:Nat):Ext a (w.drewN n):=⟨h.os,h.tape,h.output,h.size,h.block⟩
theorem Ext.size {a w:World} (h:Ext a w):a.heap.size≤w.heap.size:=Below.size h
theorem Ext.cells {W w1:World} (hb:Ext W w1):(∀b o,b<W.heap.size→w1.cell? ⟨b,o,none⟩=W.cell? ⟨b,o,none⟩)∧(∀b o,b<W.heap.size→w1.frozen? ⟨b,o,none⟩=W.frozen? ⟨b,o,none⟩):=
 ⟨fun b o h=>Below.cell hb (p:=⟨b,o,none⟩) h,fun b o h=>Below.frozen hb (p:=⟨b,o,none⟩) h⟩
def Same (W w:World):Prop:=W=w
theorem wp_name {P:Program} {c:Code} {Q:Exit→Act→World→Prop} {a:Act} {w:World} (h:∀W,Same W w→c.wp P Q a W):c.wp P Q a w:=h w rfl
theorem Same.cells {W w:World} (h:Same W w):(∀p,W.cell? p=w.cell? p)∧(∀p,W.frozen? p=w.frozen? p)∧W.heap.size=w.heap.size:=by
 cases (h:W=w);exact⟨fun _=>rfl,fun _=>rfl,rfl⟩
theorem Ext.same {a W w:World} (h:Same W w) (k:Ext a w):Ext a W:=by cases (h:W=w);exact k
def oc (w:World) (b o:Nat):Option Value:=w.cell? ⟨b,o,none⟩
def ofz (w:World) (b o:Nat):Bool:=w.frozen? ⟨b,o,none⟩
def obx (w:World) (b o:Nat) (x:Value):Value:=(w.cell? ⟨b,o,none⟩).getD x
@[go_sem] theorem cell_al (W:World) (c:Array Value) (t:TypeId) (b o:Nat):(W.alloc (.cells c t)).cell? ⟨b,o,none⟩=if b=W.heap.size then c[o]? else W.cell? ⟨b,o,none⟩:=by
 split
 ·subst b;exact World.cell?_alloc_new W c t o
 ·exact World.cell?_alloc_old _ _ _ ‹_›
@[go_sem] theorem frozen_al (W:World) (c:Array Value) (t:TypeId) (b o:Nat):(W.alloc (.cells c t)).frozen? ⟨b,o,none⟩=if b=W.heap.size then false else W.frozen? ⟨b,o,none⟩:=by
 split
 ·exact World.frozen?_alloc_at (w:=W) c t b o ‹_›
 ·show(match (W.heap.push (.cells c t))[b]? with|some (.cells _ _ (lo,hi))=>decide (lo≤o)&&decide (o<hi)|_=>false)=_
  rw[Array.getElem?_push,if_neg ‹_›]
  rfl
@[go_sem] theorem cell_sc (W:World) (p q:Addr) (v:Value):(W.setCell p v).cell? q=if q=p then(W.cell? p).map (fun _=>v)else W.cell? q:=by
 split
 ·subst q
  cases h:W.cell? p with
  |some u=>exact World.cell?_setCell_same _ _ _ h
  |none=>
   simp only[Option.map_none]
   simp only[World.cell?,World.setCell,Array.getElem?_modify]at h ⊢
   cases hh:W.heap[p.block]? with
   |none=>simp
   |some ob=>
    rw[hh]at h
    cases ob<;>simp_all
 ·exact World.cell?_setCell_other _ _ _ _ (fun e=>‹¬q=p› e.symm)
theorem size_drew (w:World):w.drew.heap.size=w.heap.size:=rfl
theorem held0 {w W:World} {RB lo hi:Nat} (hw:Ext w W):
    (∀b o,b<W.heap.size→W.drew.cell? ⟨b,o,none⟩=if b=RB∧lo≤o∧o<hi then(W.cell? ⟨b,o,none⟩).map (obx W.drew b o)else W.cell? ⟨b,o,none⟩)∧(∀b o,b<W.heap.size→W.drew.frozen? ⟨b,o,none⟩=W.frozen? ⟨b,o,none⟩)∧W.heap.size≤W.drew.heap.size∧Ext w W.drew:=by
 refine⟨fun b o _=> ?_,fun _ _ _=>rfl,Nat.le_refl _,hw.drew⟩
 show W.cell? ⟨b,o,none⟩=_
 split
 ·cases h:W.cell? ⟨b,o,none⟩with
  |none=>rfl
  |some x=>simp[obx,show W.drew.cell? ⟨b,o,none⟩=W.cell? ⟨b,o,none⟩from rfl,h]
 ·rfl
theorem held1 {w W w' w1:World} {RB lo hi:Nat}
    (h:(∀b o,b<W.heap.size→w'.cell? ⟨b,o,none⟩=if b=RB∧lo≤o∧o<hi then(W.cell? ⟨b,o,none⟩).map (obx w' b o)else W.cell? ⟨b,o,none⟩)∧(∀b o,b<W.heap.size→w'.frozen? ⟨b,o,none⟩=W.frozen? ⟨b,o,none⟩)∧W.heap.size≤w'.heap.size∧Ext w w')
    (hb:Ext w' w1):
    (∀b o,b<W.heap.size→w1.cell? ⟨b,o,none⟩=if b=RB∧lo≤o∧o<hi then(W.cell? ⟨b,o,none⟩).map (obx w1 b o)else W.cell? ⟨b,o,none⟩)∧(∀b o,b<W.heap.size→w1.frozen? ⟨b,o,none⟩=W.frozen? ⟨b,o,none⟩)∧W.heap.size≤w1.heap.size∧Ext w w1:=by
 obtain⟨h1,h2,h3,h4⟩:=h
 refine⟨fun b o hc=> ?_,fun b o hc=> ?_,Nat.le_trans h3 hb.size,h4.trans hb⟩
 ·have e:w1.cell? ⟨b,o,none⟩=w'.cell? ⟨b,o,none⟩:=Below.cell hb (p:=⟨b,o,none⟩) (Nat.lt_of_lt_of_le hc h3)
  rw[e,h1 b o hc]
  split
  ·congr 1
   funext x
   simp only[obx,e]
  ·rfl
 ·rw[Below.frozen hb (p:=⟨b,o,none⟩) (Nat.lt_of_lt_of_le hc h3),h2 b o hc]
theorem held2 {w W w':World} {RB lo hi:Nat} {p:Addr} {v:Value}
    (h:(∀b o,b<W.heap.size→w'.cell? ⟨b,o,none⟩=if b=RB∧lo≤o∧o<hi then(W.cell? ⟨b,o,none⟩).map (obx w' b o)else W.cell? ⟨b,o,none⟩)∧(∀b o,b<W.heap.size→w'.frozen? ⟨b,o,none⟩=W.frozen? ⟨b,o,none⟩)∧W.heap.size≤w'.heap.size∧Ext w w')
    (hp:(p.block=RB∧lo≤p.off∧p.off<hi)∨W.heap.size≤p.block) (hw:w.heap.size≤p.block):
    (∀b o,b<W.heap.size→(w'.setCell p v).cell? ⟨b,o,none⟩=if b=RB∧lo≤o∧o<hi then(W.cell? ⟨b,o,none⟩).map (obx (w'.setCell p v) b o)else W.cell? ⟨b,o,none⟩)∧(∀b o,b<W.heap.size→(w'.setCell p v).frozen? ⟨b,o,none⟩=W.frozen? ⟨b,o,none⟩)∧W.heap.size≤(w'.setCell p v).heap.size∧Ext w (w'.setCell p v):=by
 obtain⟨h1,h2,h3,h4⟩:=h
 refine⟨fun b o hc=> ?_,fun b o hc=> ?_,by simpa using h3,h4.setCell (by omega) _⟩
 ·have h1':=h1 b o hc
  by_cases he:(⟨b,o,none⟩:Addr)=p
  ·have hr:b=RB∧lo≤o∧o<hi:=by
    rcases hp with hp|hp
    ·rw[←he]at hp;exact hp
    ·exact b_0
   rw[if_pos hr]at h1' ⊢
   cases hx:W.cell? ⟨b,o,none⟩with
   |none=>
    rw[hx]at h1'
    simp only[Option.map_none]at h1' ⊢
    rw[cell_sc,if_pos he, ←he,h1'];rfl
   |some x=>
    rw[hx]at h1'
    simp only[Option.map_some]at h1' ⊢
    have hs:(w'.setCell p v).cell? ⟨b,o,none⟩=some v:=by
     rw[cell_sc,if_pos he, ←he,h1'];rfl
    simp only[obx,hs,Option.getD_some]
  ·have e:(w'.setCell p v).cell? ⟨b,o,none⟩=w'.cell? ⟨b,o,none⟩:=by rw[cell_sc,if_neg he]
   rw[e,h1']
   split
   ·congr 1
    funext x
    simp only[obx,e]
   ·rfl
 ·rw[World.frozen?_setCell,h2 b o hc]
theorem held3 {w W w':World} {RB lo hi:Nat} {ob:Obj}
    (h:(∀b o,b<W.heap.size→w'.cell? ⟨b,o,none⟩=if b=RB∧lo≤o∧o<hi then(W.cell? ⟨b,o,none⟩).map (obx w' b o)else W.cell? ⟨b,o,none⟩)∧(∀b o,b<W.heap.size→w'.frozen? ⟨b,o,none⟩=W.frozen? ⟨b,o,none⟩)∧W.heap.size≤w'.heap.size∧Ext w w'):
    (∀b o,b<W.heap.size→(w'.alloc ob).cell? ⟨b,o,none⟩=if b=RB∧lo≤o∧o<hi then(W.cell? ⟨b,o,none⟩).map (obx (w'.alloc ob) b o)else W.cell? ⟨b,o,none⟩)∧(∀b o,b<W.heap.size→(w'.alloc ob).frozen? ⟨b,o,none⟩=W.frozen? ⟨b,o,none⟩)∧W.heap.size≤(w'.alloc ob).heap.size∧Ext w (w'.alloc ob):=
  held1 h ((Ext.refl _).alloc _)
theorem heldBack {W w':World} {RB lo hi:Nat} {p:Addr} {v:Value}
    (h:(∀b o,b<W.heap.size→(w'.setCell p v).cell? ⟨b,o,none⟩=if b=RB∧lo≤o∧o<hi then(W.cell? ⟨b,o,none⟩).map (obx (w'.setCell p v) b o)else W.cell? ⟨b,o,none⟩)∧(∀b o,b<W.heap.size→(w'.setCell p v).frozen? ⟨b,o,none⟩=W.frozen? ⟨b,o,none⟩)∧W.heap.size≤(w'.setCell p v).heap.size)
    (hp:(p.block=RB∧lo≤p.off∧p.off<hi)∨W.heap.size≤p.block):
    (∀b o,b<W.heap.size→w'.cell? ⟨b,o,none⟩=if b=RB∧lo≤o∧o<hi then(W.cell? ⟨b,o,none⟩).map (obx w' b o)else W.cell? ⟨b,o,none⟩)∧(∀b o,b<W.heap.size→w'.frozen? ⟨b,o,none⟩=W.frozen? ⟨b,o,none⟩)∧W.heap.size≤w'.heap.size:=by
 obtain⟨h1,h2,h3⟩:=h
 refine⟨fun b o hc=> ?_,fun b o hc=> ?_,by simpa using h3⟩
 ·have h1':=h1 b o hc
  rw[cell_sc]at h1'
  split at h1'
  ·rename_i he
   have hr:b=RB∧lo≤o∧o<hi:=by
    rcases hp with hp|hp
    ·rw[←he]at hp;exact hp
    ·exact b_0
   rw[if_pos hr]at h1' ⊢
   rw[←he]at h1'
   cases hx:W.cell? ⟨b,o,none⟩with
   |none=>rw[hx]at h1';simpa using h1'
   |some x=>
    rw[hx]at h1'
    cases hy:w'.cell? ⟨b,o,none⟩with
    |none=>rw[hy]at h1';simp at h1'
    |some y=>simp[obx,hy]
  ·rename_i he
   have e:(w'.setCell p v).cell? ⟨b,o,none⟩=w'.cell? ⟨b,o,none⟩:=by rw[cell_sc,if_neg he]
   rw[h1']
   split
   ·congr 1
    funext x
    simp only[obx,e]
   ·rfl
 ·have h2':=h2 b o hc
  rw[World.frozen?_setCell]at h2'
  exact h2'
theorem heldBackA {W w':World} {RB lo hi:Nat} {ob:Obj}
    (h:(∀b o,b<W.heap.size→(w'.alloc ob).cell? ⟨b,o,none⟩=if b=RB∧lo≤o∧o<hi then(W.cell? ⟨b,o,none⟩).map (obx (w'.alloc ob) b o)else W.cell? ⟨b,o,none⟩)∧(∀b o,b<W.heap.size→(w'.alloc ob).frozen? ⟨b,o,none⟩=W.frozen? ⟨b,o,none⟩)∧W.heap.size≤(w'.alloc ob).heap.size)
    (hz:W.heap.size≤w'.heap.size):
    (∀b o,b<W.heap.size→w'.cell? ⟨b,o,none⟩=if b=RB∧lo≤o∧o<hi then(W.cell? ⟨b,o,none⟩).map (obx w' b o)else W.cell? ⟨b,o,none⟩)∧(∀b o,b<W.heap.size→w'.frozen? ⟨b,o,none⟩=W.frozen? ⟨b,o,none⟩)∧W.heap.size≤w'.heap.size:=by
 obtain⟨h1,h2,h3⟩:=h
 refine⟨fun b o hc=> ?_,fun b o hc=> ?_,hz⟩
 ·have e:(w'.alloc ob).cell? ⟨b,o,none⟩=w'.cell? ⟨b,o,none⟩:=Below.cell ((Ext.refl w').alloc ob) (p:=⟨b,o,none⟩) (Nat.lt_of_lt_of_le hc hz)
  rw[←e,h1 b o hc]
  split
  ·congr 1
   funext x
   simp only[obx,e]
  ·rfl
 ·have e:(w'.alloc ob).frozen? ⟨b,o,none⟩=w'.frozen? ⟨b,o,none⟩:=Below.frozen ((Ext.refl w').alloc ob) (p:=⟨b,o,none⟩) (Nat.lt_of_lt_of_le hc hz)
  rw[←e,h2 b o hc]
theorem held4 {w W w':World} {RB lo hi:Nat} {ob ob':Obj}
    (h:(∀b o,b<W.heap.size→(w'.alloc ob).cell? ⟨b,o,none⟩=if b=RB∧lo≤o∧o<hi then(W.cell? ⟨b,o,none⟩).map (obx (w'.alloc ob) b o)else W.cell? ⟨b,o,none⟩)∧(∀b o,b<W.heap.size→(w'.alloc ob).frozen? ⟨b,o,none⟩=W.frozen? ⟨b,o,none⟩)∧W.heap.size≤(w'.alloc ob).heap.size∧Ext w (w'.alloc ob))
    (hz:W.heap.size≤w'.heap.size) (hz2:w.heap.size≤w'.heap.size):
    (∀b o,b<W.heap.size→(w'.alloc ob').cell? ⟨b,o,none⟩=if b=RB∧lo≤o∧o<hi then(W.cell? ⟨b,o,none⟩).map (obx (w'.alloc ob') b o)else W.cell? ⟨b,o,none⟩)∧(∀b o,b<W.heap.size→(w'.alloc ob').frozen? ⟨b,o,none⟩=W.frozen? ⟨b,o,none⟩)∧W.heap.size≤(w'.alloc ob').heap.size∧Ext w (w'.alloc ob'):=by
 have hE:=h.2.2.2
 have h3:=heldBackA ⟨h.1,h.2.1,h.2.2.1⟩ hz
 have hE':Ext w w':=⟨hE.os,hE.tape,hE.output,hz2,fun k hk=>by
  rw[←hE.block k hk];exact(Below.heap_alloc w' ob k (Nat.lt_of_lt_of_le hk hz2)).symm⟩
 exact held3 ⟨h3.1,h3.2.1,h3.2.2,hE'⟩
theorem heldEnd {W w':World} {RB lo hi:Nat}
    (h:(∀b o,b<W.heap.size→w'.cell? ⟨b,o,none⟩=if b=RB∧lo≤o∧o<hi then(W.cell? ⟨b,o,none⟩).map (obx w' b o)else W.cell? ⟨b,o,none⟩)∧(∀b o,b<W.heap.size→w'.frozen? ⟨b,o,none⟩=W.frozen? ⟨b,o,none⟩)∧W.heap.size≤w'.heap.size):
    (∀b o,w'.cell? ⟨b,o,none⟩=if b<W.heap.size then(if b=RB∧lo≤o∧o<hi then(W.cell? ⟨b,o,none⟩).map (obx w' b o)else W.cell? ⟨b,o,none⟩)else oc w' b o)∧(∀b o,w'.frozen? ⟨b,o,none⟩=if b<W.heap.size then W.frozen? ⟨b,o,none⟩else ofz w' b o)∧W.heap.size≤w'.heap.size:=
  ⟨fun b o=>by
    split
    · exact h.1 b o ‹_›
    · rfl,fun b o=>by
    split
    · exact h.2.1 b o ‹_›
    · rfl,h.2.2⟩
theorem Ext.cells2 {W w1:World} (hb:Ext W w1):∃(f:Nat→Nat→Option Value) (g:Nat→Nat→Bool),
    (∀b o,w1.cell? ⟨b,o,none⟩=if b<W.heap.size then W.cell? ⟨b,o,none⟩else f b o)∧
    (∀b o,w1.frozen? ⟨b,o,none⟩=if b<W.heap.size then W.frozen? ⟨b,o,none⟩else g b o):=by
 refine⟨fun b o=>w1.cell? ⟨b,o,none⟩,fun b o=>w1.frozen? ⟨b,o,none⟩,fun b o=> ?_,fun b o=> ?_⟩
 ·split
  ·exact Below.cell hb (p:=⟨b,o,none⟩) ‹_›
  ·rfl
 ·split
  ·exact Below.frozen hb (p:=⟨b,o,none⟩) ‹_›
  ·rfl
theorem Ext.c3 {W w1:World} (hb:Ext W w1):∃(f:Nat→Nat→Option Value) (g:Nat→Nat→Bool),((∀b o,w1.cell? ⟨b,o,none⟩=if b<W.heap.size then W.cell? ⟨b,o,none⟩else f b o)∧
    (∀b o,w1.frozen? ⟨b,o,none⟩=if b<W.heap.size then W.frozen? ⟨b,o,none⟩else g b o))∧W.heap.size≤w1.heap.size:=by
 obtain⟨f,g,hc,hf⟩:=hb.cells2
 exact⟨f,g,⟨hc,hf⟩,hb.size⟩
def Lim (w:World) (v:Value) (xs:List Int):Prop:=
 Lb xs∧((v=.slice none 0 0∧xs=[])∨
  ∃b o cap,v=.slice (some ⟨b,o,none⟩) xs.length cap∧xs.length≤cap∧(cap≤9223372036854775807∧xs.length≤1099511627776)∧b<w.heap.size∧∀i,i<xs.length→w.cell? ⟨b,o+i,none⟩=some (.int .u32 (xs.getD i 0)))
theorem Lim.lb {w:World} {v:Value} {xs:List Int} (h:Lim w v xs):Lb xs:=h.1
theorem Lim.ext {a w:World} {v:Value} {xs:List Int} (h:Lim a v xs) (k:Ext a w):Lim w v xs:=by
 refine⟨h.1, ?_⟩
 rcases h.2 with h| ⟨b,o,cap,hv,h1,h2,h3,h4⟩
 ·exact Or.inl h
 ·exact Or.inr ⟨b,o,cap,hv,h1,h2,Nat.lt_of_lt_of_le h3 k.size,fun i hi=>(k.cells.1 b (o+i) h3).trans (h4 i hi)⟩
theorem Lim.nil (w:World):Lim w (.slice none 0 0) []:=⟨Lb.nil,Or.inl ⟨rfl,rfl⟩⟩
theorem Lim.view {w:World} {v:Value} {xs:List Int} (h:Lim w v xs):∃(ao:Option Addr) (b o cap:Nat),v=.slice ao xs.length cap∧(0<xs.length→ao=some ⟨b,o,none⟩)∧xs.length≤cap∧cap≤9223372036854775807∧(0<xs.length→b<w.heap.size)∧
    (∀i,i<xs.length→w.cell? ⟨b,o+i,none⟩=some (.int .u32 (xs.getD i 0)))∧xs.length≤1099511627776:=by
 rcases h.2 with⟨rfl,rfl⟩| ⟨b,o,cap,hv,h1,h2,h3,h4⟩
 ·exact⟨none,0,0,0,rfl,fun h=>absurd h (by simp),Nat.le_refl _,by omega,fun h=>absurd h (by simp),fun i h=>absurd h (by simp),by simp⟩
 ·exact⟨some ⟨b,o,none⟩,b,o,cap,hv,fun _=>rfl,h1,h2.1,fun _=>h3,h4,h2.2⟩
theorem take_getD {xs:List Int} {k i:Nat} (h:i<k):(xs.take k).getD i 0=xs.getD i 0:=by
 simp[List.getD_eq_getElem?_getD,List.getElem?_take,h]
theorem Lim.take {w:World} {xs:List Int} {b o cap:Nat} (h:Lim w (.slice (some ⟨b,o,none⟩) xs.length cap) xs) (k:Nat) (hk:k≤xs.length):Lim w (.slice (some ⟨b,o,none⟩) k cap) (xs.take k):=by
 refine⟨h.1.take k, ?_⟩
 rcases h.2 with⟨e,_⟩| ⟨b',o',cap',hv,h1,h2,h3,h4⟩
 ·cases e
 ·cases hv
  refine Or.inr ⟨b,o,cap,by rw[List.length_take,Nat.min_eq_left hk],by rw[List.length_take];omega,⟨h2.1,by rw[List.length_take];omega⟩,h3,fun i hi=> ?_⟩
  have hi':i<k:=by rw[List.length_take]at hi;omega
  rw[take_getD hi'];exact h4 i (by omega)
theorem take_succ_getD {xs:List Int} {k:Nat} (h:k<xs.length):xs.take (k+1)=xs.take k++[xs.getD k 0]:=by
 rw[List.take_add_one,List.getD_eq_getElem?_getD,List.getElem?_eq_getElem h];simp
theorem trim_step {xs:List Int} {k:Nat} (h:k<xs.length) (h0:xs.getD k 0=0):trimL (xs.take (k+1))=trimL (xs.take k):=by
 rw[take_succ_getD h,h0,trim_snoc]
theorem trim_stop {xs:List Int} {k:Nat} (h:k<xs.length) (h0:¬xs.getD k 0=0):trimL (xs.take (k+1))=xs.take (k+1):=by
 rw[take_succ_getD h,trim_snoc_ne _ h0]
theorem Lim.own {w:World} {base e g n cap:Nat} {xs:List Int} (h:w.ownsRow base e 1 (.slice (some ⟨g,0,none⟩) n cap) n (xs.map (.int .u32))) (hl:Lb xs) (hc:n≤1099511627776):Lim w (.slice (some ⟨g,0,none⟩) n cap) xs:=by
 have hn:xs.length=n:=by have:=h.1;simpa using this
 have h2:=h.2
 rcases h2 with⟨e,_⟩| ⟨g',cap',cur,hv,hb,hg,hnc,hcm,hcs,ht⟩
 ·cases e
 ·cases hv
  subst hn
  refine⟨hl,Or.inr ⟨g,0,cap,rfl,hnc,⟨hcm,hc⟩,(Array.getElem?_eq_some_iff.1 hg).1,fun i hi=> ?_⟩⟩
  rw[Nat.zero_add,h.cellAt i (by omega)]
  simp[List.getElem?_map,List.getD_eq_getElem?_getD,List.getElem?_eq_getElem hi]
theorem Lim.own' {w:World} {base e n:Nat} {v:Value} {xs:List Int} (h:w.ownsRow base e 1 v n (xs.map (.int .u32))) (hl:Lb xs) (hc:n≤1099511627776):Lim w v xs:=by
 rcases h.2 with⟨e1,e2⟩| ⟨g',cap',cur,hv,_⟩
 ·have hx:xs=[]:=by have:=h.1;rw[e2]at this;simpa using this
  subst hx;subst e1;exact Lim.nil w
 ·subst hv;exact Lim.own h hl hc
def sg (neg:Bool) (m:Nat):Int:=if neg then -(m:Int)else m
def Wid (w:World) (v:Value) (n:Int):Prop:=∃u,v=.agg #[.bool (decide (n<0)),u]∧Lim w u (dig n.natAbs)
theorem Wid.ext {a w:World} {v:Value} {n:Int} (h:Wid a v n) (k:Ext a w):Wid w v n:=by
 obtain⟨u,e,hu⟩:=h;exact⟨u,e,hu.ext k⟩
theorem dig_nil {m:Nat}:dig m=[]↔m=0:=by
 constructor
 ·intro h;have:=dig_val m;rw[h]at this;simp only[val]at this;omega
 ·rintro rfl;rfl
theorem dig_pos {m:Nat}:0<(dig m).length↔0<m:=by
 have:=dig_nil (m:=m)
 constructor
 ·intro h;rcases Nat.eq_zero_or_pos m with e|e
  ·rw[this.2 e]at h;simp at h
  ·exact e
 ·intro h;rcases Nat.eq_zero_or_pos (dig m).length with e|e
  ·have:=this.1 (List.length_eq_zero_iff.1 e);omega
  ·exact e
theorem sg_neg (neg:Bool) (m:Nat):decide (sg neg m<0)=(neg&&decide (0<(dig m).length)):=by
 have:=dig_pos (m:=m)
 cases neg<;>simp[sg,this]<;>omega
theorem sg_abs (neg:Bool) (m:Nat):(sg neg m).natAbs=m:=by cases neg<;>simp[sg]
theorem Wid.mk {w:World} {u:Value} {neg:Bool} {m:Nat} (h:Lim w u (dig m)):Wid w (.agg #[.bool (neg&&decide (0<(dig m).length)),u]) (sg neg m):=
 ⟨u,by rw[sg_neg],by rw[sg_abs];exact h⟩
theorem Wid.mk' {w:World} {u:Value} {b neg:Bool} {m:Nat} (h:Lim w u (dig m)) (hb:b=(neg&&decide (0<(dig m).length))):Wid w (.agg #[.bool b,u]) (sg neg m):=hb▸Wid.mk h
def NoU (w:World) (B:Nat):Prop:=∀o z,w.cell? ⟨B,o,none⟩≠some (.int .u32 z)
theorem NoU.ext {a w:World} {B:Nat} (h:NoU a B) (hB:B<a.heap.size) (k:Ext a w):NoU w B:=fun o z e=>h o z ((k.cells.1 B o hB).symm.trans e)
theorem NoU.set {w:World} {B B' j:Nat} {x:Value} (h:NoU w B) (hx:∀z,x≠ .int .u32 z):NoU (w.setCell ⟨B',j,none⟩ x) B:=fun o z e=>by
 rw[cell_sc]at e
 split at e
 ·cases hc:w.cell? ⟨B',j,none⟩with
  |none=>rw[hc]at e;cases e
  |some y=>rw[hc]at e;exact hx z (by simpa using e)
 ·exact h o z e
theorem NoU.alloc {w:World} {B:Nat} (h:NoU w B) (hB:B<w.heap.size) (c:Array Value) (t:TypeId):NoU (w.alloc (.cells c t)) B:=fun o z e=>by
 rw[cell_al,if_neg (by omega)]at e;exact h o z e
theorem NoU.new (w:World) (c:Array Value) (t:TypeId) (hc:∀(o:Nat) z,c[o]? ≠some (.int .u32 z)):NoU (w.alloc (.cells c t)) w.heap.size:=fun o z e=>by
 rw[cell_al,if_pos rfl]at e;exact hc o z e
theorem noU1 {a:Value} (ha:∀z,a≠ .int .u32 z) (o:Nat) (z:Int):(#[a]:Array Value)[o]? ≠some (.int .u32 z):=by
 match o with
 |0=>simpa using ha z
 |o+1=>simp
theorem noU2 {a b:Value} (ha:∀z,a≠ .int .u32 z) (hb:∀z,b≠ .int .u32 z) (o:Nat) (z:Int):(#[a,b]:Array Value)[o]? ≠some (.int .u32 z):=by
 match o with
 |0=>simpa using ha z
 |1=>simpa using hb z
 |o+2=>simp
theorem noU4 {a b c d:Value} (ha:∀z,a≠ .int .u32 z) (hb:∀z,b≠ .int .u32 z) (hc:∀z,c≠ .int .u32 z) (hd:∀z,d≠ .int .u32 z) (o:Nat) (z:Int):(#[a,b,c,d]:Array Value)[o]? ≠some (.int .u32 z):=by
 match o with
 |0=>simpa using ha z
 |1=>simpa using hb z
 |2=>simpa using hc z
 |3=>simpa using hd z
 |o+4=>simp
theorem Lim.box {w:World} {v:Value} {xs:List Int} {B j:Nat} {x:Value} (h:Lim w v xs) (hB:NoU w B):Lim (w.setCell ⟨B,j,none⟩ x) v xs:=by
 refine⟨h.1, ?_⟩
 rcases h.2 with h| ⟨b,o,cap,hv,h1,h2,h3,h4⟩
 ·exact Or.inl h
 ·refine Or.inr ⟨b,o,cap,hv,h1,h2,by simpa using h3,fun i hi=> ?_⟩
  rw[cell_sc,if_neg]
  ·exact h4 i hi
  ·intro e
   have hc:=h4 i hi
   have:b=B:=by have:=congrArg Addr.block e;simpa using this
   rw[this]at hc
   exact hB _ _ hc
theorem Lim.alloc {w:World} {v:Value} {xs:List Int} (h:Lim w v xs) (o:Obj):Lim (w.alloc o) v xs:=h.ext ((Ext.refl w).alloc o)
theorem Wid.box {w:World} {v:Value} {n:Int} {B j:Nat} {x:Value} (h:Wid w v n) (hB:NoU w B):Wid (w.setCell ⟨B,j,none⟩ x) v n:=by
 obtain⟨u,e,hu⟩:=h;exact⟨u,e,hu.box hB⟩
def Nn (w:World) (v:Value) (m:Nat):Prop:=∃u,v=.agg #[.bool false,u]∧Lim w u (dig m)
theorem Nn.ext {a w:World} {v:Value} {m:Nat} (h:Nn a v m) (k:Ext a w):Nn w v m:=by
 obtain⟨u,e,hu⟩:=h;exact⟨u,e,hu.ext k⟩
theorem Nn.box {w:World} {v:Value} {m:Nat} {B j:Nat} {x:Value} (h:Nn w v m) (hB:NoU w B):Nn (w.setCell ⟨B,j,none⟩ x) v m:=by
 obtain⟨u,e,hu⟩:=h;exact⟨u,e,hu.box hB⟩
theorem w_trim (v:Value) (xs:List Int) (w:World) (h:Lim w v xs):
    K_ 81 #[v] w fun e w'=>∃u,e=.returned u∧Lim w' u (trimL xs)∧Ext w w':=by
 have hlb:=h.lb
 rcases h.2 with⟨rfl,rfl⟩| ⟨b,o,cap,rfl,h1,h2,h3,h4⟩
 ·go_enter Tryz.func81,Tryz.ntmps81
  go_wp2
  refine wp_loop_rounds 1 ?_
  rw[rounds_succ]
  go_wp2
  go_ret
  exact⟨_,rfl,Lim.nil w,Ext.refl w⟩
 ·go_enter Tryz.func81,Tryz.ntmps81
  go_wp2
  go_loop [3] (fun i=>∃k:Nat,k≤xs.length∧i=O k∧trimL (xs.take k)=trimL xs) (fun i=>(intOf i).toNat)
  case atStart=>exact⟨xs.length,Nat.le_refl _,rfl,by rw[List.take_length]⟩
  case round=>
   obtain⟨k,hk,rfl,ht⟩:=hrel
   cases k with
   |zero=>
    go_wp2
    go_ret
    have e:trimL xs=[]:=by rw[←ht];rfl
    rw[e]
    exact⟨_,rfl,⟨Lb.nil,Or.inr ⟨b,o,cap,rfl,Nat.zero_le _,⟨h2.1,Nat.zero_le _⟩,h3,fun i hi=>absurd hi (by simp)⟩⟩,Ext.refl w⟩
   |succ k=>
    have hck:=h4 k (by omega)
    by_cases h0:xs.getD k 0=0
    ·rw[h0]at hck
     go_wp2
     go_round
     case rel=>exact⟨k,by omega,by go_num,by rw[←ht];exact(trim_step (by omega) h0).symm⟩
     case measure=>simp[intOf]
    ·have e:trimL xs=xs.take (k+1):=ht.symm.trans (trim_stop (by omega) h0)
     have L:=h.take (k+1) hk
     obtain⟨z,hz⟩:∃z,xs.getD k 0=z:=⟨_,rfl⟩
     rw[hz]at hck h0
     go_wp2
     go_ret
     exact⟨_,rfl,L,Ext.refl w⟩
theorem w_made (neg:Bool) (v:Value) (xs:List Int) (m:Nat) (w:World) (h:Lim w v xs) (hm:val xs=m) (hl:(dig m).length≤4096):
    K_ 76 #[.bool neg,v] w fun e w'=>∃u,e=.returned (.tuple #[u,O 0])∧Wid w' u (sg neg m)∧Ext w w':=by
 have ht:=trim_dig h.lb hm
 have hk:=w_trim v xs
 rw[ht]at hk
 clear ht hm
 generalize hd:dig m=ds at hk hl
 cases neg with
 |false=>
  go_enter Tryz.func76,Tryz.ntmps76
  go_wp2_with (go_at_call 81;(with_reducible refine(hk _ (h.ext ex_)).mono ?_);rintro e w1 ⟨u,rfl,hu,hb⟩;obtain⟨ao,b1,o1,cap1,rfl,v1,v2,v3,v4,v5,v6⟩:=hu.view;obtain⟨_,_,⟨hc,hf⟩,hz⟩:=hb.c3;(try simp only[wsz]at hz hc hf))
  have hB:NoU w1 w.heap.size:=(NoU.new w _ _ (noU2 (by simp) (by simp))).ext (by simp) hb
  refine bodyPost_ret (v:=.tuple #[.agg #[.bool (false&&decide (0<ds.length)),.slice ao ds.length cap1],O 0]) ?_ rfl ⟨_,rfl, ?_, ?_⟩
  ·simp[results,Tryz.results76,go_sem, ↓IntWalk.iteOmega, *]
  ·refine Wid.mk' ?_ (by rw[hd])
   rw[hd]
   exact Lim.box (Lim.box hu hB) (NoU.set hB (fun z e=>by cases e))
  ·exact b_1
 |true=>
  go_enter Tryz.func76,Tryz.ntmps76
  go_wp2_with (go_at_call 81;(with_reducible refine(hk _ (h.ext ex_)).mono ?_);rintro e w1 ⟨u,rfl,hu,hb⟩;obtain⟨ao,b1,o1,cap1,rfl,v1,v2,v3,v4,v5,v6⟩:=hu.view;obtain⟨_,_,⟨hc,hf⟩,hz⟩:=hb.c3;(try simp only[wsz]at hz hc hf))
  have hB:NoU w1 w.heap.size:=(NoU.new w _ _ (noU2 (by simp) (by simp))).ext (by simp) hb
  refine bodyPost_ret (v:=.tuple #[.agg #[.bool (true&&decide (0<ds.length)),.slice ao ds.length cap1],O 0]) ?_ rfl ⟨_,rfl, ?_, ?_⟩
  ·simp[results,Tryz.results76,go_sem, ↓IntWalk.iteOmega, *]
  ·refine Wid.mk' ?_ (by rw[hd])
   rw[hd]
   exact Lim.box (Lim.box hu hB) (NoU.set hB (fun z e=>by cases e))
  ·exact b_1
theorem w_madeN (v:Value) (xs:List Int) (m:Nat) (w:World) (h:Lim w v xs) (hm:val xs=m) (hl:(dig m).length≤4096):
    K_ 76 #[.bool false,v] w fun e w'=>∃u,e=.returned (.tuple #[.agg #[.bool false,u],O 0])∧Lim w' u (dig m)∧Ext w w':=by
 refine(w_made false v xs m w h hm hl).mono ?_
 rintro e w1 ⟨u,rfl,⟨s,rfl,hs⟩,hb⟩
 rw[sg_abs]at hs
 exact⟨s,by rw[sg_neg];rfl,hs,hb⟩
def U32 (x:Int):Prop:=0≤x∧x<4294967296
theorem or_hl (h l:Int) (h0:0≤h) (h1:h<4294967296) (hl:U32 l):bits .or .u64 (h*4294967296) l=h*4294967296+l:=by
 unfold U32 at hl
 obtain⟨a,rfl⟩:=Int.eq_ofNat_of_zero_le h0
 obtain⟨b,rfl⟩:=Int.eq_ofNat_of_zero_le hl.1
 have hb:b<2^32:=by have:=hl.2;omega
 have e:=Nat.two_pow_add_eq_or_of_lt hb a
 rw[show((a:Int)*4294967296:Int)=((2^32*a:Nat):Int)from by omega,u64_or_nat _ _ (by omega) (by omega), ←e]
 omega
theorem u64_small {x:Int} (h0:0≤x) (h1:x<18446744073709551616):IntKind.u64.wrap x=x:=by
 rw[IntKind.wrap_u64];exact Int.emod_eq_of_lt h0 h1
theorem div_small {x d:Int} (h0:0≤x) (hd:0<d) (h1:x<d*4294967296):0≤x/d∧x/d<4294967296:=
 ⟨Int.ediv_nonneg h0 (by omega),Int.ediv_lt_of_lt_mul hd (by rw[Int.mul_comm];exact h1)⟩
theorem w_add32 (x y c:Int) (w:World) (hx:U32 x) (hy:U32 y) (hc:0≤c∧c≤1):
    K_ 144 #[.int .u32 x,.int .u32 y,.int .u32 c] w fun e w'=>e=.returned (.tuple #[.int .u32 ((x+y+c)%4294967296),.int .u32 ((x+y+c)/4294967296)])∧w'=w:=by
 unfold U32 at hx hy
 go_enter Tryz.func144,Tryz.ntmps144
 go_wp2
 go_ret2
 exact⟨rfl,rfl⟩
theorem w_div32 (h l d:Int) (w:World) (hh:0≤h) (hd:h<d) (hl:U32 l) (hb:d<4294967296):
    K_ 165 #[.int .u32 h,.int .u32 l,.int .u32 d] w fun e w'=>e=.returned (.tuple #[.int .u32 ((h*4294967296+l)/d),.int .u32 ((h*4294967296+l)%d)])∧∃m,w'=w.drewN m:=by
 have ho:=or_hl h l hh (by omega) hl
 unfold U32 at hl
 obtain⟨X,hX⟩:∃X,h*4294967296+l=X:=⟨_,rfl⟩
 have X0:0≤X:=by omega
 have X1:X<d*4294967296:=by omega
 obtain⟨q0,q1⟩:=div_small X0 (by omega) X1
 have r0:=Int.emod_nonneg X (show d≠0 by omega)
 have r1:=Int.emod_lt_of_pos X (show 0<d by omega)
 have e1:IntKind.u64.wrap (X.tdiv d)%4294967296=X/d:=by
  rw[Int.tdiv_eq_ediv_of_nonneg X0,u64_small q0 (by omega)];exact Int.emod_eq_of_lt q0 q1
 have e2:X.tmod d%4294967296=X%d:=by
  rw[Int.tmod_eq_emod_of_nonneg X0];exact Int.emod_eq_of_lt r0 (by omega)
 rw[hX]at ho ⊢
 clear X0 X1 q0 q1 r0 r1
 go_enter Tryz.func165,Tryz.ntmps165
 go_wp2
 go_quiet (fail)
 go_wp2
 go_ret2
 exact⟨rfl,_,rfl⟩
theorem lim_two (w:World) (a b:Int) (ha:U32 a) (hb:U32 b):Lim (w.alloc (.cells #[.int .u32 a,.int .u32 b] 54)) (.slice (some ⟨w.heap.size,0,none⟩) 2 2) [a,b]:=
 ⟨Lb.cons ha (Lb.cons hb Lb.nil),Or.inr ⟨_,0,2,rfl,Nat.le_refl _,⟨by decide,by simp⟩,by simp,fun i hi=>by
  rw[cell_al,if_pos rfl]
  match i,hi with
  |0,_=>rfl
  |1,_=>rfl
  |i+2,hi=>exact absurd hi (by simp)⟩⟩
theorem dig_len2 {m:Nat} (h:m<9223372036854775808):(dig m).length≤4096:=by
 rcases Nat.lt_or_ge 4096 (dig m).length with h1|h1
 ·have h2:=val_pos (dig_lb m) (dig_nz m) (by intro e;rw[e]at h1;simp at h1)
  have h3:=bb_mono (show 2≤(dig m).length-1 from by omega)
  rw[dig_val]at h2
  have h4:BB^2=18446744073709551616:=by decide
  omega
 ·exact h1
theorem w_From (n:Nat) (w:World) (hn:n<9223372036854775808):
    K_ 34 #[O n] w fun e w'=>∃u,e=.returned u∧Nn w' u n∧Ext w w':=by
 have hlt:¬((n:Int)<0):=by omega
 have hd:decide ((n:Int)<0)=false:=decide_eq_false hlt
 have hL:=lim_two (w.alloc (.cells #[.bool false,.slice none 0 0] 24)) ((n:Int)%4294967296) ((n:Int)/4294967296) c_59 c_59
 rw[World.size_alloc]at hL
 have hv:val [(n:Int)%4294967296,(n:Int)/4294967296]=n:=by simp only[val];unfold BB;omega
 go_enter Tryz.func34,Tryz.ntmps34
 go_wp2_with (go_at_call 76;(with_reducible refine(w_madeN _ _ n _ hL hv (dig_len2 hn)).mono ?_);rintro e w1 ⟨s,rfl,hs,hb⟩;obtain⟨ao,b1,o1,cap1,rfl,v1,v2,v3,v4,v5,v6⟩:=hs.view;obtain⟨_,_,⟨hc,hf⟩,hz⟩:=hb.c3;(try simp only[wsz]at hz hc hf))
 have hB:NoU w1 w.heap.size:=((NoU.new w _ _ (noU2 (by simp) (by simp))).alloc (by simp) _ _).ext c_26 hb
 refine bodyPost_ret (v:=.agg #[.bool false,.slice ao (dig n).length cap1]) ?_ rfl ⟨_,rfl,⟨_,rfl, ?_⟩, ?_⟩
 ·simp[results,Tryz.results34,go_sem, ↓IntWalk.iteOmega, *]
 ·have hB3:=hB.alloc (c:=#[.bool false,.slice ao (dig n).length cap1]) (t:=24) (by omega)
  exact Lim.box (Lim.box (hs.alloc _) hB3) (NoU.set hB3 (fun z e=>by cases e))
 ·exact b_1
end Go.Proofs.YtaoioncjmfcolaaGreat
