/- A cell behind a pointer. -/
import Derived.Test.YtaoioncjmfcolaaGreatV17
set_option linter.unusedSimpArgs false
set_option linter.unusedVariables false
set_option maxRecDepth 100000
set_option maxHeartbeats 1000000
namespace Go.Proofs.YtaoioncjmfcolaaGreat
open Go.RowKit
theorem setCell_self (w:World) (b o:Nat) (v:Value) (h:w.cell? ⟨b,o,none⟩=some v):w.setCell ⟨b,o,none⟩ v=w:=by
 simp only[World.cell?]at h
 have hh:(w.setCell ⟨b,o,none⟩ v).heap=w.heap:=by
  apply Array.ext_getElem?
  intro k
  simp only[World.setCell,Array.getElem?_modify]
  split
  ·subst k
   cases hx:w.heap[b]? with
   |none=>rfl
   |some x=>
    rw[hx]at h
    cases x with
    |cells c e f=>
     obtain⟨f1,f2⟩:=f
     simp only[Option.isSome_none,Bool.false_eq_true,if_false]at h
     have hc:c.setIfInBounds o v=c:=by
      apply Array.ext_getElem?
      intro j
      rw[Array.getElem?_setIfInBounds]
      split
      ·subst j
       split
       ·exact h.symm
       ·rename_i hn
        exact(Array.getElem?_eq_none (by omega)).symm
      ·rfl
     simp only[Option.map_some,Option.isSome_none,Bool.false_eq_true,if_false,hc]
    |_=>simp at h
  ·rfl
 cases w
 simp only[World.setCell]at hh ⊢
 rw[World.mk.injEq]
 exact⟨hh,rfl,rfl,rfl,rfl⟩
theorem Ext.reset {w w':World} {b o:Nat} {v v':Value} (h:Ext (w.setCell ⟨b,o,none⟩ v) w') (_hb:b<w.heap.size):Ext (w.setCell ⟨b,o,none⟩ v') (w'.setCell ⟨b,o,none⟩ v'):=by
 have hz:w.heap.size≤w'.heap.size:=by have:=h.size;simpa using this
 refine⟨h.os,h.tape,h.output,by simpa using hz,fun k hk=> ?_⟩
 have hk':k<w.heap.size:=by simpa using hk
 have e:=h.block k (by simpa using hk')
 by_cases c:b=k
 ·subst c
  simp only[World.setCell,Array.getElem?_modify,if_true]at e ⊢
  rw[e]
  cases hx:w.heap[b]? with
  |none=>rfl
  |some x=>
   cases x with
   |cells c t f=>simp
   |_=>rfl
 ·simp only[World.setCell,Array.getElem?_modify,if_neg c]at e ⊢
  exact e
theorem Ext.keep {w w':World} {b o:Nat} {v:Value} (h:Ext w w') (hc:w.cell? ⟨b,o,none⟩=some v):Ext (w.setCell ⟨b,o,none⟩ v) w':=by
 rw[setCell_self w b o v hc];exact h
theorem cell_drew (w:World) (p:Addr):w.drew.cell? p=w.cell? p:=rfl
theorem frozen_drew (w:World) (p:Addr):w.drew.frozen? p=w.frozen? p:=rfl
theorem setCell_some (w:World) (b o:Nat):∃v,w.setCell ⟨b,o,none⟩ v=w:=by
 cases h:w.cell? ⟨b,o,none⟩with
 |some v=>exact⟨v,setCell_self w b o v h⟩
 |none=>
  refine⟨.bool false, ?_⟩
  simp only[World.cell?]at h
  have hh:(w.setCell ⟨b,o,none⟩ (.bool false)).heap=w.heap:=by
   apply Array.ext_getElem?
   intro k
   simp only[World.setCell,Array.getElem?_modify]
   split
   ·subst k
    cases hx:w.heap[b]? with
    |none=>rfl
    |some x=>
     rw[hx]at h
     cases x with
     |cells c e f=>
      obtain⟨f1,f2⟩:=f
      simp only[Option.isSome_none,Bool.false_eq_true,if_false]at h
      have hc:c.setIfInBounds o (.bool false)=c:=by
       apply Array.ext_getElem?
       intro j
       rw[Array.getElem?_setIfInBounds]
       split
       ·subst j
        split
        ·rename_i hn
         have:=Array.getElem?_eq_none_iff.1 h
         omega
        ·rename_i hn
         exact(Array.getElem?_eq_none (by omega)).symm
       ·rfl
      simp only[Option.map_some,Option.isSome_none,Bool.false_eq_true,if_false,hc]
     |_=>rfl
   ·rfl
  cases w
  simp only[World.setCell]at hh ⊢
  rw[World.mk.injEq]
  exact⟨hh,rfl,rfl,rfl,rfl⟩
def ExtP (w:World) (p k:Nat) (w':World):Prop:=∃v,Ext (w.setCell ⟨p,k,none⟩ v) w'
theorem ExtP.of {w w':World} (p k:Nat) (h:Ext w w'):ExtP w p k w':=by
 obtain⟨v,hv⟩:=setCell_some w p k
 exact⟨v,by rw[hv];exact h⟩
theorem ExtP.ext {w w' w1:World} {p k:Nat} (h:ExtP w p k w') (hb:Ext w' w1):ExtP w p k w1:=by
 obtain⟨v,hv⟩:=h;exact⟨v,hv.trans hb⟩
theorem setCell_out (w:World) (b o:Nat) (v:Value) (h:w.heap.size≤b):w.setCell ⟨b,o,none⟩ v=w:=by
 have hh:(w.setCell ⟨b,o,none⟩ v).heap=w.heap:=by
  apply Array.ext_getElem?
  intro k
  simp only[World.setCell,Array.getElem?_modify]
  split
  ·subst k
   rw[Array.getElem?_eq_none (by omega)];rfl
  ·rfl
 cases w
 simp only[World.setCell]at hh ⊢
 rw[World.mk.injEq]
 exact⟨hh,rfl,rfl,rfl,rfl⟩
theorem ExtP.out {w w':World} {p k:Nat} (h:ExtP w p k w') (hp:w.heap.size≤p):Ext w w':=by
 obtain⟨v,hv⟩:=h
 rw[setCell_out w p k v hp]at hv;exact hv
theorem ExtP.set {w w':World} {p k:Nat} {v':Value} (h:ExtP w p k w'):ExtP w p k (w'.setCell ⟨p,k,none⟩ v'):=by
 by_cases hp:p<w.heap.size
 ·obtain⟨v,hv⟩:=h
  exact⟨v',hv.reset hp⟩
 ·exact ExtP.of _ _ ((h.out (by omega)).setCell (by show w.heap.size≤p;omega) _)
theorem ExtP.store {w w':World} {p k:Nat} {q:Addr} {v':Value} (h:ExtP w p k w') (hq:w.heap.size≤q.block):ExtP w p k (w'.setCell q v'):=by
 obtain⟨v,hv⟩:=h
 exact⟨v,hv.setCell (by simpa using hq) _⟩
theorem ExtP.same {w w' W:World} {p k:Nat} (h:Same W w') (k1:ExtP w p k w'):ExtP w p k W:=by cases (h:W=w');exact k1
theorem ExtP.fin {w w':World} {p k:Nat} {v':Value} (h:ExtP w p k w') (c:w'.cell? ⟨p,k,none⟩=some v') (hp:p<w.heap.size):Ext (w.setCell ⟨p,k,none⟩ v') w':=by
 obtain⟨v,hv⟩:=h
 have e:w'.cell? ⟨p,k,none⟩=(w.setCell ⟨p,k,none⟩ v).cell? ⟨p,k,none⟩:=Below.cell hv (p:=⟨p,k,none⟩) (by simpa using hp)
 rw[cell_sc,if_pos rfl,c]at e
 cases hx:w.cell? ⟨p,k,none⟩with
 |none=>rw[hx]at e;cases e
 |some x=>
  rw[hx]at e
  have e2:v'=v:=by simpa using e
  rw[e2];exact hv
theorem Ext.got {w w':World} {p k:Nat} {v u:Value} (h:Ext (w.setCell ⟨p,k,none⟩ v) w') (c:w.cell? ⟨p,k,none⟩=some u):w'.cell? ⟨p,k,none⟩=some v∧w'.frozen? ⟨p,k,none⟩=w.frozen? ⟨p,k,none⟩:=by
 have hb:=World.block_lt_of_cell? w _ c
 have e:w'.cell? ⟨p,k,none⟩=(w.setCell ⟨p,k,none⟩ v).cell? ⟨p,k,none⟩:=Below.cell h (p:=⟨p,k,none⟩) (by simpa using hb)
 have f:w'.frozen? ⟨p,k,none⟩=(w.setCell ⟨p,k,none⟩ v).frozen? ⟨p,k,none⟩:=Below.frozen h (p:=⟨p,k,none⟩) (by simpa using hb)
 rw[World.frozen?_setCell]at f
 rw[cell_sc,if_pos rfl,c]at e
 exact⟨e,f⟩
theorem ExtP.trans {a b c:World} {p k:Nat} (h:ExtP a p k b) (h2:ExtP b p k c):ExtP a p k c:=by
 obtain⟨v,hv⟩:=h2
 exact(h.set (v':=v)).ext hv
theorem ExtP.cells2 {V x:World} {p k:Nat} {v:Value} (h:ExtP V p k x) (hc:x.cell? ⟨p,k,none⟩=some v):
    (∀b o,x.cell? ⟨b,o,none⟩=if b<V.heap.size then(if b=p∧o=k then some v else V.cell? ⟨b,o,none⟩)else oc x b o)∧
    (∀b o,x.frozen? ⟨b,o,none⟩=if b<V.heap.size then V.frozen? ⟨b,o,none⟩else ofz x b o)∧V.heap.size≤x.heap.size:=by
 obtain⟨u,hu⟩:=h
 have hz:V.heap.size≤x.heap.size:=by have:=hu.size;simpa using this
 refine⟨fun b o=> ?_,fun b o=> ?_,hz⟩
 ·split
  ·split
   ·rename_i hb;obtain⟨rfl,rfl⟩:=hb;exact hc
   ·rename_i h1 h2
    have e:x.cell? ⟨b,o,none⟩=(V.setCell ⟨p,k,none⟩ u).cell? ⟨b,o,none⟩:=Below.cell hu (p:=⟨b,o,none⟩) (by simpa using h1)
    rw[e,cell_sc,if_neg (by intro e;injection e;exact h2 ⟨‹_›,‹_›⟩)]
  ·rfl
 ·split
  ·rename_i h1
   have e:x.frozen? ⟨b,o,none⟩=(V.setCell ⟨p,k,none⟩ u).frozen? ⟨b,o,none⟩:=Below.frozen hu (p:=⟨b,o,none⟩) (by simpa using h1)
   rw[e,World.frozen?_setCell]
  ·rfl
theorem obx_of {w:World} {b o:Nat} {v:Value} (h:w.cell? ⟨b,o,none⟩=some v) (x:Value):obx w b o x=v:=by simp[obx,h]
theorem hel0 {w W:World} {RB lo hi P k:Nat} (hw:ExtP w P k W):
    (∀b o,b<W.heap.size→(W.drew).cell? ⟨b,o,none⟩=if(b=RB∧lo≤o∧o<hi∨b=P∧o=k)then(W.cell? ⟨b,o,none⟩).map (obx (W.drew) b o)else W.cell? ⟨b,o,none⟩)∧(∀b o,b<W.heap.size→(W.drew).frozen? ⟨b,o,none⟩=W.frozen? ⟨b,o,none⟩)∧W.heap.size≤(W.drew).heap.size∧ExtP w P k (W.drew):=by
 refine⟨fun b o _=> ?_,fun _ _ _=>rfl,Nat.le_refl _,hw.ext ((Ext.refl _).drew)⟩
 show W.cell? ⟨b,o,none⟩=_
 split
 ·cases h:W.cell? ⟨b,o,none⟩with
  |none=>rfl
  |some x=>simp[obx,show W.drew.cell? ⟨b,o,none⟩=W.cell? ⟨b,o,none⟩from rfl,h]
 ·rfl
theorem hel1 {w W w' w1:World} {RB lo hi P k:Nat} (h:(∀b o,b<W.heap.size→(w').cell? ⟨b,o,none⟩=if(b=RB∧lo≤o∧o<hi∨b=P∧o=k)then(W.cell? ⟨b,o,none⟩).map (obx (w') b o)else W.cell? ⟨b,o,none⟩)∧(∀b o,b<W.heap.size→(w').frozen? ⟨b,o,none⟩=W.frozen? ⟨b,o,none⟩)∧W.heap.size≤(w').heap.size∧ExtP w P k (w'))
    (hb:Ext w' w1):(∀b o,b<W.heap.size→(w1).cell? ⟨b,o,none⟩=if(b=RB∧lo≤o∧o<hi∨b=P∧o=k)then(W.cell? ⟨b,o,none⟩).map (obx (w1) b o)else W.cell? ⟨b,o,none⟩)∧(∀b o,b<W.heap.size→(w1).frozen? ⟨b,o,none⟩=W.frozen? ⟨b,o,none⟩)∧W.heap.size≤(w1).heap.size∧ExtP w P k (w1):=by
 obtain⟨h1,h2,h3,h4⟩:=h
 refine⟨fun b o hc=> ?_,fun b o hc=> ?_,Nat.le_trans h3 hb.size,h4.ext hb⟩
 ·have e:w1.cell? ⟨b,o,none⟩=w'.cell? ⟨b,o,none⟩:=Below.cell hb (p:=⟨b,o,none⟩) (Nat.lt_of_lt_of_le hc h3)
  rw[e,h1 b o hc]
  split
  ·congr 1
   funext x
   simp only[obx,e]
  ·rfl
 ·rw[Below.frozen hb (p:=⟨b,o,none⟩) (Nat.lt_of_lt_of_le hc h3),h2 b o hc]
theorem hel2a {W w':World} {RB lo hi P k:Nat} {p:Addr} {v:Value}
    (h:(∀b o,b<W.heap.size→(w').cell? ⟨b,o,none⟩=if(b=RB∧lo≤o∧o<hi∨b=P∧o=k)then(W.cell? ⟨b,o,none⟩).map (obx (w') b o)else W.cell? ⟨b,o,none⟩)∧(∀b o,b<W.heap.size→(w').frozen? ⟨b,o,none⟩=W.frozen? ⟨b,o,none⟩)∧W.heap.size≤(w').heap.size)
    (hp:(p.block=RB∧lo≤p.off∧p.off<hi)∨(p.block=P∧p.off=k)∨W.heap.size≤p.block):
    (∀b o,b<W.heap.size→(w'.setCell p v).cell? ⟨b,o,none⟩=if(b=RB∧lo≤o∧o<hi∨b=P∧o=k)then(W.cell? ⟨b,o,none⟩).map (obx (w'.setCell p v) b o)else W.cell? ⟨b,o,none⟩)∧(∀b o,b<W.heap.size→(w'.setCell p v).frozen? ⟨b,o,none⟩=W.frozen? ⟨b,o,none⟩)∧W.heap.size≤(w'.setCell p v).heap.size:=by
 obtain⟨h1,h2,h3⟩:=h
 refine⟨fun b o hc=> ?_,fun b o hc=> ?_,by simpa using h3⟩
 ·have h1':=h1 b o hc
  by_cases he:(⟨b,o,none⟩:Addr)=p
  ·have hr:(b=RB∧lo≤o∧o<hi∨b=P∧o=k):=by
    rcases hp with hp|hp|hp
    ·rw[←he]at hp;exact Or.inl hp
    ·rw[←he]at hp;exact Or.inr hp
    ·exact b_0
   rw[if_pos hr]at h1' ⊢
   cases hx:W.cell? ⟨b,o,none⟩with
   |none=>
    rw[hx]at h1'
    simp only[Option.map_none]at h1' ⊢
    rw[cell_sc,if_pos he, ←he,h1'];rfl
   |some x=>
    rw[hx]at h1'
    simp only[Option.map_some]at h1' ⊢
    have hs:(w'.setCell p v).cell? ⟨b,o,none⟩=some v:=by
     rw[cell_sc,if_pos he, ←he,h1'];rfl
    simp only[obx,hs,Option.getD_some]
  ·have e:(w'.setCell p v).cell? ⟨b,o,none⟩=w'.cell? ⟨b,o,none⟩:=by rw[cell_sc,if_neg he]
   rw[e,h1']
   split
   ·congr 1
    funext x
    simp only[obx,e]
   ·rfl
 ·rw[World.frozen?_setCell,h2 b o hc]
theorem hel2 {w W w':World} {RB lo hi P k:Nat} {p:Addr} {v:Value}
    (h:(∀b o,b<W.heap.size→(w').cell? ⟨b,o,none⟩=if(b=RB∧lo≤o∧o<hi∨b=P∧o=k)then(W.cell? ⟨b,o,none⟩).map (obx (w') b o)else W.cell? ⟨b,o,none⟩)∧(∀b o,b<W.heap.size→(w').frozen? ⟨b,o,none⟩=W.frozen? ⟨b,o,none⟩)∧W.heap.size≤(w').heap.size∧ExtP w P k (w'))
    (hp:(p.block=RB∧lo≤p.off∧p.off<hi)∨(p.block=P∧p.off=k)∨W.heap.size≤p.block) (hw:w.heap.size≤p.block):
    (∀b o,b<W.heap.size→(w'.setCell p v).cell? ⟨b,o,none⟩=if(b=RB∧lo≤o∧o<hi∨b=P∧o=k)then(W.cell? ⟨b,o,none⟩).map (obx (w'.setCell p v) b o)else W.cell? ⟨b,o,none⟩)∧(∀b o,b<W.heap.size→(w'.setCell p v).frozen? ⟨b,o,none⟩=W.frozen? ⟨b,o,none⟩)∧W.heap.size≤(w'.setCell p v).heap.size∧ExtP w P k (w'.setCell p v):=by
 obtain⟨h1,h2,h3,h4⟩:=h
 have g:=hel2a (v:=v) ⟨h1,h2,h3⟩ hp
 exact⟨g.1,g.2.1,g.2.2,h4.store hw⟩
theorem hel2p {w W w':World} {RB lo hi P k:Nat} {v:Value}
    (h:(∀b o,b<W.heap.size→(w').cell? ⟨b,o,none⟩=if(b=RB∧lo≤o∧o<hi∨b=P∧o=k)then(W.cell? ⟨b,o,none⟩).map (obx (w') b o)else W.cell? ⟨b,o,none⟩)∧(∀b o,b<W.heap.size→(w').frozen? ⟨b,o,none⟩=W.frozen? ⟨b,o,none⟩)∧W.heap.size≤(w').heap.size∧ExtP w P k (w')):
    (∀b o,b<W.heap.size→(w'.setCell ⟨P,k,none⟩ v).cell? ⟨b,o,none⟩=if(b=RB∧lo≤o∧o<hi∨b=P∧o=k)then(W.cell? ⟨b,o,none⟩).map (obx (w'.setCell ⟨P,k,none⟩ v) b o)else W.cell? ⟨b,o,none⟩)∧(∀b o,b<W.heap.size→(w'.setCell ⟨P,k,none⟩ v).frozen? ⟨b,o,none⟩=W.frozen? ⟨b,o,none⟩)∧W.heap.size≤(w'.setCell ⟨P,k,none⟩ v).heap.size∧ExtP w P k (w'.setCell ⟨P,k,none⟩ v):=by
 obtain⟨h1,h2,h3,h4⟩:=h
 have g:=hel2a (p:=⟨P,k,none⟩) (v:=v) ⟨h1,h2,h3⟩ (Or.inr (Or.inl ⟨rfl,rfl⟩))
 exact⟨g.1,g.2.1,g.2.2,h4.set⟩
theorem hel1p {w W w' w1:World} {RB lo hi P k:Nat} {v:Value} (h:(∀b o,b<W.heap.size→(w').cell? ⟨b,o,none⟩=if(b=RB∧lo≤o∧o<hi∨b=P∧o=k)then(W.cell? ⟨b,o,none⟩).map (obx (w') b o)else W.cell? ⟨b,o,none⟩)∧(∀b o,b<W.heap.size→(w').frozen? ⟨b,o,none⟩=W.frozen? ⟨b,o,none⟩)∧W.heap.size≤(w').heap.size∧ExtP w P k (w'))
    (hb:Ext (w'.setCell ⟨P,k,none⟩ v) w1):(∀b o,b<W.heap.size→(w1).cell? ⟨b,o,none⟩=if(b=RB∧lo≤o∧o<hi∨b=P∧o=k)then(W.cell? ⟨b,o,none⟩).map (obx (w1) b o)else W.cell? ⟨b,o,none⟩)∧(∀b o,b<W.heap.size→(w1).frozen? ⟨b,o,none⟩=W.frozen? ⟨b,o,none⟩)∧W.heap.size≤(w1).heap.size∧ExtP w P k (w1):=hel1 (hel2p h) hb
theorem hel3 {w W w':World} {RB lo hi P k:Nat} {ob:Obj} (h:(∀b o,b<W.heap.size→(w').cell? ⟨b,o,none⟩=if(b=RB∧lo≤o∧o<hi∨b=P∧o=k)then(W.cell? ⟨b,o,none⟩).map (obx (w') b o)else W.cell? ⟨b,o,none⟩)∧(∀b o,b<W.heap.size→(w').frozen? ⟨b,o,none⟩=W.frozen? ⟨b,o,none⟩)∧W.heap.size≤(w').heap.size∧ExtP w P k (w')):
    (∀b o,b<W.heap.size→(w'.alloc ob).cell? ⟨b,o,none⟩=if(b=RB∧lo≤o∧o<hi∨b=P∧o=k)then(W.cell? ⟨b,o,none⟩).map (obx (w'.alloc ob) b o)else W.cell? ⟨b,o,none⟩)∧(∀b o,b<W.heap.size→(w'.alloc ob).frozen? ⟨b,o,none⟩=W.frozen? ⟨b,o,none⟩)∧W.heap.size≤(w'.alloc ob).heap.size∧ExtP w P k (w'.alloc ob):=hel1 h ((Ext.refl _).alloc _)
theorem hel3d {w W w':World} {RB lo hi P k:Nat} {ob:Obj} (h:(∀b o,b<W.heap.size→(w'.drew).cell? ⟨b,o,none⟩=if(b=RB∧lo≤o∧o<hi∨b=P∧o=k)then(W.cell? ⟨b,o,none⟩).map (obx (w'.drew) b o)else W.cell? ⟨b,o,none⟩)∧(∀b o,b<W.heap.size→(w'.drew).frozen? ⟨b,o,none⟩=W.frozen? ⟨b,o,none⟩)∧W.heap.size≤(w'.drew).heap.size∧ExtP w P k (w'.drew)):
    (∀b o,b<W.heap.size→((w'.alloc ob).drew).cell? ⟨b,o,none⟩=if(b=RB∧lo≤o∧o<hi∨b=P∧o=k)then(W.cell? ⟨b,o,none⟩).map (obx ((w'.alloc ob).drew) b o)else W.cell? ⟨b,o,none⟩)∧(∀b o,b<W.heap.size→((w'.alloc ob).drew).frozen? ⟨b,o,none⟩=W.frozen? ⟨b,o,none⟩)∧W.heap.size≤((w'.alloc ob).drew).heap.size∧ExtP w P k ((w'.alloc ob).drew):=hel3 (w':=w'.drew) h
theorem helBack {W w':World} {RB lo hi P k:Nat} {p:Addr} {v:Value}
    (h:(∀b o,b<W.heap.size→(w'.setCell p v).cell? ⟨b,o,none⟩=if(b=RB∧lo≤o∧o<hi∨b=P∧o=k)then(W.cell? ⟨b,o,none⟩).map (obx (w'.setCell p v) b o)else W.cell? ⟨b,o,none⟩)∧(∀b o,b<W.heap.size→(w'.setCell p v).frozen? ⟨b,o,none⟩=W.frozen? ⟨b,o,none⟩)∧W.heap.size≤(w'.setCell p v).heap.size)
    (hp:(p.block=RB∧lo≤p.off∧p.off<hi)∨(p.block=P∧p.off=k)∨W.heap.size≤p.block):
    (∀b o,b<W.heap.size→(w').cell? ⟨b,o,none⟩=if(b=RB∧lo≤o∧o<hi∨b=P∧o=k)then(W.cell? ⟨b,o,none⟩).map (obx (w') b o)else W.cell? ⟨b,o,none⟩)∧(∀b o,b<W.heap.size→(w').frozen? ⟨b,o,none⟩=W.frozen? ⟨b,o,none⟩)∧W.heap.size≤(w').heap.size:=by
 obtain⟨h1,h2,h3⟩:=h
 refine⟨fun b o hc=> ?_,fun b o hc=> ?_,by simpa using h3⟩
 ·have h1':=h1 b o hc
  rw[cell_sc]at h1'
  split at h1'
  ·rename_i he
   have hr:(b=RB∧lo≤o∧o<hi∨b=P∧o=k):=by
    rcases hp with hp|hp|hp
    ·rw[←he]at hp;exact Or.inl hp
    ·rw[←he]at hp;exact Or.inr hp
    ·exact b_0
   rw[if_pos hr]at h1' ⊢
   rw[←he]at h1'
   cases hx:W.cell? ⟨b,o,none⟩with
   |none=>rw[hx]at h1';simpa using h1'
   |some x=>
    rw[hx]at h1'
    cases hy:w'.cell? ⟨b,o,none⟩with
    |none=>rw[hy]at h1';simp at h1'
    |some y=>simp[obx,hy]
  ·rename_i he
   have e:(w'.setCell p v).cell? ⟨b,o,none⟩=w'.cell? ⟨b,o,none⟩:=by rw[cell_sc,if_neg he]
   rw[h1']
   split
   ·congr 1
    funext x
    simp only[obx,e]
   ·rfl
 ·have h2':=h2 b o hc
  rw[World.frozen?_setCell]at h2'
  exact h2'
theorem helBackA {W w':World} {RB lo hi P k:Nat} {ob:Obj}
    (h:(∀b o,b<W.heap.size→(w'.alloc ob).cell? ⟨b,o,none⟩=if(b=RB∧lo≤o∧o<hi∨b=P∧o=k)then(W.cell? ⟨b,o,none⟩).map (obx (w'.alloc ob) b o)else W.cell? ⟨b,o,none⟩)∧(∀b o,b<W.heap.size→(w'.alloc ob).frozen? ⟨b,o,none⟩=W.frozen? ⟨b,o,none⟩)∧W.heap.size≤(w'.alloc ob).heap.size)
    (hz:W.heap.size≤w'.heap.size):
    (∀b o,b<W.heap.size→(w').cell? ⟨b,o,none⟩=if(b=RB∧lo≤o∧o<hi∨b=P∧o=k)then(W.cell? ⟨b,o,none⟩).map (obx (w') b o)else W.cell? ⟨b,o,none⟩)∧(∀b o,b<W.heap.size→(w').frozen? ⟨b,o,none⟩=W.frozen? ⟨b,o,none⟩)∧W.heap.size≤(w').heap.size:=by
 obtain⟨h1,h2,h3⟩:=h
 refine⟨fun b o hc=> ?_,fun b o hc=> ?_,hz⟩
 ·have e:(w'.alloc ob).cell? ⟨b,o,none⟩=w'.cell? ⟨b,o,none⟩:=Below.cell ((Ext.refl w').alloc ob) (p:=⟨b,o,none⟩) (Nat.lt_of_lt_of_le hc hz)
  rw[←e,h1 b o hc]
  split
  ·congr 1
   funext x
   simp only[obx,e]
  ·rfl
 ·have e:(w'.alloc ob).frozen? ⟨b,o,none⟩=w'.frozen? ⟨b,o,none⟩:=Below.frozen ((Ext.refl w').alloc ob) (p:=⟨b,o,none⟩) (Nat.lt_of_lt_of_le hc hz)
  rw[←e,h2 b o hc]
theorem hel4 {w W w':World} {RB lo hi P k:Nat} {ob ob':Obj} (h:(∀b o,b<W.heap.size→(w'.alloc ob).cell? ⟨b,o,none⟩=if(b=RB∧lo≤o∧o<hi∨b=P∧o=k)then(W.cell? ⟨b,o,none⟩).map (obx (w'.alloc ob) b o)else W.cell? ⟨b,o,none⟩)∧(∀b o,b<W.heap.size→(w'.alloc ob).frozen? ⟨b,o,none⟩=W.frozen? ⟨b,o,none⟩)∧W.heap.size≤(w'.alloc ob).heap.size∧ExtP w P k (w'.alloc ob)) (hz:W.heap.size≤w'.heap.size) (hz2:w.heap.size≤w'.heap.size):
    (∀b o,b<W.heap.size→(w'.alloc ob').cell? ⟨b,o,none⟩=if(b=RB∧lo≤o∧o<hi∨b=P∧o=k)then(W.cell? ⟨b,o,none⟩).map (obx (w'.alloc ob') b o)else W.cell? ⟨b,o,none⟩)∧(∀b o,b<W.heap.size→(w'.alloc ob').frozen? ⟨b,o,none⟩=W.frozen? ⟨b,o,none⟩)∧W.heap.size≤(w'.alloc ob').heap.size∧ExtP w P k (w'.alloc ob'):=by
 have h3:=helBackA ⟨h.1,h.2.1,h.2.2.1⟩ hz
 obtain⟨v,hE⟩:=h.2.2.2
 have hE':Ext (w.setCell ⟨P,k,none⟩ v) w':=⟨hE.os,hE.tape,hE.output,by simpa using hz2,fun j hj=>by
  have hj':j<w'.heap.size:=Nat.lt_of_lt_of_le (by simpa using hj) hz2
  rw[←hE.block j hj];exact(Below.heap_alloc w' ob j hj').symm⟩
 exact hel3 ⟨h3.1,h3.2.1,h3.2.2,⟨v,hE'⟩⟩
theorem helEnd {W w':World} {RB lo hi P k:Nat}
    (h:(∀b o,b<W.heap.size→(w').cell? ⟨b,o,none⟩=if(b=RB∧lo≤o∧o<hi∨b=P∧o=k)then(W.cell? ⟨b,o,none⟩).map (obx (w') b o)else W.cell? ⟨b,o,none⟩)∧(∀b o,b<W.heap.size→(w').frozen? ⟨b,o,none⟩=W.frozen? ⟨b,o,none⟩)∧W.heap.size≤(w').heap.size):
    (∀b o,w'.cell? ⟨b,o,none⟩=if b<W.heap.size then(if(b=RB∧lo≤o∧o<hi∨b=P∧o=k)then(W.cell? ⟨b,o,none⟩).map (obx w' b o)else W.cell? ⟨b,o,none⟩)else oc w' b o)∧(∀b o,w'.frozen? ⟨b,o,none⟩=if b<W.heap.size then W.frozen? ⟨b,o,none⟩else ofz w' b o)∧W.heap.size≤w'.heap.size:=
  ⟨fun b o=>by
    split
    · exact h.1 b o ‹_›
    · rfl,fun b o=>by
    split
    · exact h.2.1 b o ‹_›
    · rfl,h.2.2⟩
def doI (E:Int) (r:R3):R3:=if E≠0 then⟨0,0,E⟩else r
def kpI (E x y e:Int):R3:=if E≠0 then⟨0,0,E⟩else if e≠0 then⟨0,0,e⟩else⟨x,y,0⟩
def R3.Z (r:R3):Prop:=r.e≠0→r.lo=0∧r.hi=0
def sqR (a b:Int):R3:=if(absI a b).e≠0 then⟨0,0,(absI a b).e⟩else mulI (absI a b).lo (absI a b).hi (absI a b).lo (absI a b).hi
def negR (a b:Int):R3:=if ckI a b≠0 then⟨0,0,ckI a b⟩else madeI (wrap64 (-b)) (wrap64 (-a))
def absR (a b:Int):R3:=if ckI a b≠0 then⟨0,0,ckI a b⟩else if 0≤a then⟨a,b,0⟩else if b≤0 then madeI (wrap64 (-b)) (wrap64 (-a))else madeI 0 (max (wrap64 (-a)) b)
theorem I64_0:I64 0:=by unfold I64;omega
theorem madeI_I64 (a b:Int) (ha:I64 a) (hb:I64 b):I64 (madeI a b).lo∧I64 (madeI a b).hi:=by
 unfold madeI;split
 ·exact⟨I64_0,I64_0⟩
 ·exact⟨ha,hb⟩
theorem w64_I64 (x:Int):I64 (wrap64 x):=⟨(w64_mod x).2.1,(w64_mod x).2.2⟩
def R3.W (r:R3):Prop:=I64 r.lo∧I64 r.hi
theorem ifW {p:Prop} [Decidable p] {e:Int} {r:R3} (h:r.W):(if p then⟨0,0,e⟩else r:R3).W:=by
 split
 ·exact⟨I64_0,I64_0⟩
 ·exact h
theorem addI_W (a b c d:Int):(addI a b c d).W:=ifW (madeI_I64 _ _ (w64_I64 _) (w64_I64 _))
theorem subI_W (a b c d:Int):(subI a b c d).W:=ifW (madeI_I64 _ _ (w64_I64 _) (w64_I64 _))
theorem dn_I64 (T d:Int):I64 (dnT T d):=by have:=dnT_range T d;unfold I64;omega
theorem up_I64 (T d:Int):I64 (upT T d):=by have:=upT_range T d;unfold I64;omega
theorem mulI_W (a b c d:Int):(mulI a b c d).W:=ifW (madeI_I64 _ _ (dn_I64 _ _) (up_I64 _ _))
theorem doI_W {E:Int} {r:R3} (h:r.W):(doI E r).W:=ifW h
structure V3 where
 (a b c d e f:Int)
structure V7 where
 v:V3
 e:Int
def V3.O:V3:=⟨0,0,0,0,0,0⟩
def V3.I (v:V3):Prop:=(I64 v.a∧I64 v.b)∧(I64 v.c∧I64 v.d)∧(I64 v.e∧I64 v.f)
def ckV (v:V3):Int:=if ckI v.a v.b≠0 then ckI v.a v.b else ck2 v.c v.d v.e v.f
def ck2V (a b:V3):Int:=if ckV a≠0 then ckV a else ckV b
def v3 (x y z:R3):V3:=⟨x.lo,x.hi,y.lo,y.hi,z.lo,z.hi⟩
def vecV (E:Int) (v:V3):V7:=if E≠0 then⟨V3.O,E⟩else⟨v,0⟩
def each0 (f:Int→Int→Int→Int→R3) (a b:V3):R3:=doI 0 (f a.a a.b b.a b.b)
def each1 (f:Int→Int→Int→Int→R3) (a b:V3):R3:=doI (each0 f a b).e (f a.c a.d b.c b.d)
def each2 (f:Int→Int→Int→Int→R3) (a b:V3):R3:=doI (each1 f a b).e (f a.e a.f b.e b.f)
def eachV (f:Int→Int→Int→Int→R3) (a b:V3):V7:=if ck2V a b≠0 then⟨V3.O,ck2V a b⟩else vecV (each2 f a b).e (v3 (each0 f a b) (each1 f a b) (each2 f a b))
def dot0 (E:Int) (a b:V3):R3:=doI E (mulI a.a a.b b.a b.b)
def dot1 (E:Int) (a b:V3):R3:=doI (dot0 E a b).e (mulI a.c a.d b.c b.d)
def dot2 (E:Int) (a b:V3):R3:=doI (dot1 E a b).e (addI (dot0 E a b).lo (dot0 E a b).hi (dot1 E a b).lo (dot1 E a b).hi)
def dot3 (E:Int) (a b:V3):R3:=doI (dot2 E a b).e (mulI a.e a.f b.e b.f)
def dotI (E:Int) (a b:V3):R3:=doI (dot3 E a b).e (addI (dot2 E a b).lo (dot2 E a b).hi (dot3 E a b).lo (dot3 E a b).hi)
def dotV (a b:V3):R3:=if ck2V a b≠0 then⟨0,0,ck2V a b⟩else dotI 0 a b
def nrm0 (E:Int) (a:V3):R3:=doI E (sqI a.a a.b)
def nrm1 (E:Int) (a:V3):R3:=doI (nrm0 E a).e (sqI a.c a.d)
def nrm2 (E:Int) (a:V3):R3:=doI (nrm1 E a).e (addI (nrm0 E a).lo (nrm0 E a).hi (nrm1 E a).lo (nrm1 E a).hi)
def nrm3 (E:Int) (a:V3):R3:=doI (nrm2 E a).e (sqI a.e a.f)
def nrmI (E:Int) (a:V3):R3:=doI (nrm3 E a).e (addI (nrm2 E a).lo (nrm2 E a).hi (nrm3 E a).lo (nrm3 E a).hi)
def nrmV (a:V3):R3:=if ckV a≠0 then⟨0,0,ckV a⟩else nrmI 0 a
def mm0 (E a b c d:Int):R3:=doI E (mulI a b c d)
def mm1 (E a b c d e f g h:Int):R3:=doI (mm0 E a b c d).e (mulI e f g h)
def mmI (E a b c d e f g h:Int):R3:=doI (mm1 E a b c d e f g h).e (subI (mm0 E a b c d).lo (mm0 E a b c d).hi (mm1 E a b c d e f g h).lo (mm1 E a b c d e f g h).hi)
def crs0 (a b:V3):R3:=mmI 0 a.c a.d b.e b.f a.e a.f b.c b.d
def crs1 (a b:V3):R3:=mmI (crs0 a b).e a.e a.f b.a b.b a.a a.b b.e b.f
def crs2 (a b:V3):R3:=mmI (crs1 a b).e a.a a.b b.c b.d a.c a.d b.a b.b
def crsV (a b:V3):V7:=if ck2V a b≠0 then⟨V3.O,ck2V a b⟩else vecV (crs2 a b).e (v3 (crs0 a b) (crs1 a b) (crs2 a b))
def scaV (a:V3) (x y:Int):V7:=eachV mulI a ⟨x,y,x,y,x,y⟩
theorem s_check1 (a b:Int) (w:World):
    K_ 93 #[.agg #[O a,O b]] w fun e w'=>e=.returned (O (ckI a b))∧Ext w w':=by
 have l0:IntKind.i64.wrap 0=0:=rfl
 have l1:IntKind.i64.wrap 1=1:=rfl
 have l2:IntKind.i64.wrap 2=2:=rfl
 have l3:IntKind.i64.wrap 3=3:=rfl
 go_enter Tryz.func93,Tryz.ntmps93
 go_wp2_with (first| (go_at_call 91;(with_reducible refine(check_1 _ _ _ _ c_43).mono ?_);rintro e w1 ⟨rfl,hb⟩;obtain⟨_,_,⟨hc,hf⟩,hz⟩:=hb.c3;(try simp only[World.size_alloc]at hz hc hf)))
 all_goals
  go_ret
  refine⟨?_, ?_⟩
  ·(try simp only[]at*)
   first| (simp[ckI, *];done)| (simp[ckI, *];omega)
  ·exact b_1
theorem s_check (v:V3) (w:World):
    K_ 43 #[.agg #[O v.a,O v.b,O v.c,O v.d,O v.e,O v.f]] w fun e w'=>e=.returned (O (ckV v))∧Ext w w':=by
 have l0:IntKind.i64.wrap 0=0:=rfl
 have l1:IntKind.i64.wrap 1=1:=rfl
 have l2:IntKind.i64.wrap 2=2:=rfl
 have l3:IntKind.i64.wrap 3=3:=rfl
 go_enter Tryz.func43,Tryz.ntmps43
 go_wp2_with fail
 refine wp_loop_rounds 4 ?_
 repeat
  any_goals
   rw[rounds_succ]
   go_wp2_with (first| (go_at_call 93;(with_reducible refine(s_check1 _ _ _).mono ?_);rintro e w1 ⟨rfl,hb⟩;obtain⟨_,_,⟨hc,hf⟩,hz⟩:=hb.c3;(try simp only[World.size_alloc]at hz hc hf)))
 all_goals
  go_ret
  refine⟨?_, ?_⟩
  ·(try simp only[bn_]at*)
   first| (simp[ckV,ck2, *];done)| (simp[ckV,ck2, *];omega)
  ·exact b_1
theorem s_look (a b:V3) (w:World):
    K_ 38 #[.agg #[O a.a,O a.b,O a.c,O a.d,O a.e,O a.f],.agg #[O b.a,O b.b,O b.c,O b.d,O b.e,O b.f]] w fun e w'=>e=.returned (O (ck2V a b))∧Ext w w':=by
 have l0:IntKind.i64.wrap 0=0:=rfl
 have l1:IntKind.i64.wrap 1=1:=rfl
 have l2:IntKind.i64.wrap 2=2:=rfl
 have l3:IntKind.i64.wrap 3=3:=rfl
 go_enter Tryz.func38,Tryz.ntmps38
 go_wp2_with (first| (go_at_call 43;(with_reducible refine(s_check a _).mono ?_);rintro e w1 ⟨rfl,hb⟩;obtain⟨_,_,⟨hc,hf⟩,hz⟩:=hb.c3;(try simp only[World.size_alloc]at hz hc hf))| (go_at_call 43;(with_reducible refine(s_check b _).mono ?_);rintro e w1 ⟨rfl,hb⟩;obtain⟨_,_,⟨hc,hf⟩,hz⟩:=hb.c3;(try simp only[wsz]at hz hc hf)))
 all_goals
  go_ret
  refine⟨?_, ?_⟩
  ·(try simp only[bn_]at*)
   first| (simp[ck2V, *];done)| (simp[ck2V, *];omega)
  ·exact b_1
theorem s_nsq (a b c d:Int) (w:World) (ha:I64 a∧I64 b):
    K_ 44 #[.agg #[O a,O b],.agg #[O c,O d]] w fun e w'=>e=.returned (.tuple #[.agg #[O (sqI a b).lo,O (sqI a b).hi],O (sqI a b).e])∧Ext w w':=by
 go_enter Tryz.func44,Tryz.ntmps44
 go_wp2_with (first| (go_at_call 45;(with_reducible refine(span_sq _ _ _ ha.1 ha.2).mono ?_);rintro e w1 ⟨rfl,hb⟩;obtain⟨_,_,⟨hc,hf⟩,hz⟩:=hb.c3;(try simp only[World.size_alloc]at hz hc hf)))
 all_goals
  refine bodyPost_ret (v:=.tuple #[.agg #[O (sqI a b).lo,O (sqI a b).hi],O (sqI a b).e]) ?_ rfl ⟨rfl, ?_⟩
  ·(try simp only[]at*)
   simp[results,Tryz.results44,go_sem, *]
  ·exact b_18
theorem s_begin (w:World):
    K_ 30 #[] w fun e w'=>e=.returned (.pointer (some ⟨w.heap.size,0,none⟩))∧w'=w.alloc (.cells #[.func (.func 42) #[] #[],.func (.func 70) #[] #[],.func (.func 48) #[] #[],.func (.func 71) #[] #[],O 0] 74):=by
 go_enter Tryz.func30,Tryz.ntmps30
 go_wp2_with fail
 all_goals go_ret
 exact⟨rfl,rfl⟩
theorem d_add (p:Nat) (E a b c d:Int) (w:World) (hc:w.cell? ⟨p,4,none⟩=some (O E)) (hf:w.frozen? ⟨p,4,none⟩=false):
    K_ 32 #[.pointer (some ⟨p,0,none⟩),.func (.func 42) #[] #[],.agg #[O a,O b],.agg #[O c,O d]] w fun e w'=>e=.returned (.agg #[O (doI E (addI a b c d)).lo,O (doI E (addI a b c d)).hi])∧Ext (w.setCell ⟨p,4,none⟩ (O ((doI E (addI a b c d)).e))) w':=by
 have hp:p<w.heap.size:=World.block_lt_of_cell? w _ hc
 go_enter Tryz.func32,Tryz.ntmps32
 go_wp2_with (first| (go_at_call 42;(with_reducible refine(span_add _ _ _ _ _).mono ?_);rintro e w1 ⟨rfl,hb⟩;obtain⟨_,_,⟨hc,hf⟩,hz⟩:=hb.c3;(try simp only[World.size_alloc]at hz hc hf)))
 all_goals
  refine bodyPost_ret (v:=.agg #[O (doI E (addI a b c d)).lo,O (doI E (addI a b c d)).hi]) ?_ rfl ⟨rfl, ?_⟩
  ·(try simp only[bn_]at*)
   simp[results,Tryz.results32,go_sem, ↓IntWalk.iteOmega,doI, *]
  ·refine ExtP.fin ?_ ?_ hp
   ·exact b_19
   ·(try simp only[bn_]at*)
    simp[go_sem, ↓IntWalk.iteOmega,doI, *]
theorem d_sub (p:Nat) (E a b c d:Int) (w:World) (hc:w.cell? ⟨p,4,none⟩=some (O E)) (hf:w.frozen? ⟨p,4,none⟩=false):
    K_ 32 #[.pointer (some ⟨p,0,none⟩),.func (.func 70) #[] #[],.agg #[O a,O b],.agg #[O c,O d]] w fun e w'=>e=.returned (.agg #[O (doI E (subI a b c d)).lo,O (doI E (subI a b c d)).hi])∧Ext (w.setCell ⟨p,4,none⟩ (O ((doI E (subI a b c d)).e))) w':=by
 have hp:p<w.heap.size:=World.block_lt_of_cell? w _ hc
 go_enter Tryz.func32,Tryz.ntmps32
 go_wp2_with (first| (go_at_call 70;(with_reducible refine(span_sub _ _ _ _ _).mono ?_);rintro e w1 ⟨rfl,hb⟩;obtain⟨_,_,⟨hc,hf⟩,hz⟩:=hb.c3;(try simp only[World.size_alloc]at hz hc hf)))
 all_goals
  refine bodyPost_ret (v:=.agg #[O (doI E (subI a b c d)).lo,O (doI E (subI a b c d)).hi]) ?_ rfl ⟨rfl, ?_⟩
  ·(try simp only[bn_]at*)
   simp[results,Tryz.results32,go_sem, ↓IntWalk.iteOmega,doI, *]
  ·refine ExtP.fin ?_ ?_ hp
   ·exact b_19
   ·(try simp only[bn_]at*)
    simp[go_sem, ↓IntWalk.iteOmega,doI, *]
theorem d_mul (p:Nat) (E a b c d:Int) (w:World) (hc:w.cell? ⟨p,4,none⟩=some (O E)) (hf:w.frozen? ⟨p,4,none⟩=false) (ha:I64 a∧I64 b) (hc0:I64 c∧I64 d):
    K_ 32 #[.pointer (some ⟨p,0,none⟩),.func (.func 48) #[] #[],.agg #[O a,O b],.agg #[O c,O d]] w fun e w'=>e=.returned (.agg #[O (doI E (mulI a b c d)).lo,O (doI E (mulI a b c d)).hi])∧Ext (w.setCell ⟨p,4,none⟩ (O ((doI E (mulI a b c d)).e))) w':=by
 have hp:p<w.heap.size:=World.block_lt_of_cell? w _ hc
 go_enter Tryz.func32,Tryz.ntmps32
 go_wp2_with (first| (go_at_call 48;(with_reducible refine(span_mul _ _ _ _ _ ha hc0).mono ?_);rintro e w1 ⟨rfl,hb⟩;obtain⟨_,_,⟨hc,hf⟩,hz⟩:=hb.c3;(try simp only[World.size_alloc]at hz hc hf)))
 all_goals
  refine bodyPost_ret (v:=.agg #[O (doI E (mulI a b c d)).lo,O (doI E (mulI a b c d)).hi]) ?_ rfl ⟨rfl, ?_⟩
  ·(try simp only[bn_]at*)
   simp[results,Tryz.results32,go_sem, ↓IntWalk.iteOmega,doI, *]
  ·refine ExtP.fin ?_ ?_ hp
   ·exact b_19
   ·(try simp only[bn_]at*)
    simp[go_sem, ↓IntWalk.iteOmega,doI, *]
theorem d_sq (p:Nat) (E a b c d:Int) (w:World) (hc:w.cell? ⟨p,4,none⟩=some (O E)) (hf:w.frozen? ⟨p,4,none⟩=false) (ha:I64 a∧I64 b):
    K_ 32 #[.pointer (some ⟨p,0,none⟩),.func (.func 44) #[] #[],.agg #[O a,O b],.agg #[O c,O d]] w fun e w'=>e=.returned (.agg #[O (doI E (sqI a b)).lo,O (doI E (sqI a b)).hi])∧Ext (w.setCell ⟨p,4,none⟩ (O ((doI E (sqI a b)).e))) w':=by
 have hp:p<w.heap.size:=World.block_lt_of_cell? w _ hc
 go_enter Tryz.func32,Tryz.ntmps32
 go_wp2_with (first| (go_at_call 44;(with_reducible refine(s_nsq _ _ _ _ _ ha).mono ?_);rintro e w1 ⟨rfl,hb⟩;obtain⟨_,_,⟨hc,hf⟩,hz⟩:=hb.c3;(try simp only[World.size_alloc]at hz hc hf)))
 all_goals
  refine bodyPost_ret (v:=.agg #[O (doI E (sqI a b)).lo,O (doI E (sqI a b)).hi]) ?_ rfl ⟨rfl, ?_⟩
  ·(try simp only[bn_]at*)
   simp[results,Tryz.results32,go_sem, ↓IntWalk.iteOmega,doI, *]
  ·refine ExtP.fin ?_ ?_ hp
   ·exact b_19
   ·(try simp only[bn_]at*)
    simp[go_sem, ↓IntWalk.iteOmega,doI, *]
theorem s_vec (p:Nat) (E:Int) (v:V3) (w:World) (hc:w.cell? ⟨p,4,none⟩=some (O E)):
    K_ 90 #[.pointer (some ⟨p,0,none⟩),.agg #[O v.a,O v.b,O v.c,O v.d,O v.e,O v.f]] w fun e w'=>e=.returned (.tuple #[.agg #[O ((vecV E v).v).a,O ((vecV E v).v).b,O ((vecV E v).v).c,O ((vecV E v).v).d,O ((vecV E v).v).e,O ((vecV E v).v).f],O (vecV E v).e])∧Ext w w':=by
 have hp:p<w.heap.size:=World.block_lt_of_cell? w _ hc
 go_enter Tryz.func90,Tryz.ntmps90
 go_wp2_with fail
 any_goals go_region
 all_goals go_wp2_with fail
 all_goals
  refine bodyPost_ret (v:=.tuple #[.agg #[O ((vecV E v).v).a,O ((vecV E v).v).b,O ((vecV E v).v).c,O ((vecV E v).v).d,O ((vecV E v).v).e,O ((vecV E v).v).f],O (vecV E v).e]) ?_ rfl ⟨rfl, ?_⟩
  ·(try simp only[bn_]at*)
   simp[results,Tryz.results90,go_sem,vecV,V3.O, *]
  ·exact b_1
theorem s_vec6 (p:Nat) (E x0 x1 x2 x3 x4 x5:Int) (w:World) (hc:w.cell? ⟨p,4,none⟩=some (O E)):
    K_ 90 #[.pointer (some ⟨p,0,none⟩),.agg #[O x0,O x1,O x2,O x3,O x4,O x5]] w fun e w'=>e=.returned (.tuple #[.agg #[O ((vecV E ⟨x0,x1,x2,x3,x4,x5⟩).v).a,O ((vecV E ⟨x0,x1,x2,x3,x4,x5⟩).v).b,O ((vecV E ⟨x0,x1,x2,x3,x4,x5⟩).v).c,O ((vecV E ⟨x0,x1,x2,x3,x4,x5⟩).v).d,O ((vecV E ⟨x0,x1,x2,x3,x4,x5⟩).v).e,O ((vecV E ⟨x0,x1,x2,x3,x4,x5⟩).v).f],O (vecV E ⟨x0,x1,x2,x3,x4,x5⟩).e])∧Ext w w':=s_vec p E ⟨x0,x1,x2,x3,x4,x5⟩ w hc
theorem ediv_le_pos {T c d:Int} (h:0≤T) (c0:0<c) (hcd:c≤d):T/d≤T/c:=by
 have q:0≤T/d:=Int.ediv_nonneg h (by omega)
 rw[Int.le_ediv_iff_mul_le c0]
 have h1:T/d*c≤T/d*d:=Int.mul_le_mul_of_nonneg_left hcd q
 have h2:T/d*d≤T:=Int.ediv_mul_le _ (by omega)
 omega
theorem ediv_le_neg {T c d:Int} (h:T<0) (c0:0<c) (hcd:c≤d):T/c≤T/d:=by
 have q:T/c<0:=Int.ediv_neg_of_neg_of_pos h c0
 rw[Int.le_ediv_iff_mul_le (by omega)]
 have h1: -(T/c)*c≤ -(T/c)*d:=Int.mul_le_mul_of_nonneg_left hcd (by omega)
 have h2:T/c*c≤T:=Int.ediv_mul_le _ (by omega)
 rw[Int.neg_mul,Int.neg_mul]at h1
 omega
theorem dn_min {T c d:Int} (c0:0<c) (hcd:c≤d):min (dnT T c) (dnT T d)=dnT T (if T<0 then c else d):=by
 split
 ·have:=ediv_le_neg ‹_› c0 hcd
  unfold dnT;omega
 ·have:=ediv_le_pos (T:=T) (by omega) c0 hcd
  unfold dnT;omega
theorem up_max {T c d:Int} (c0:0<c) (hcd:c≤d):max (upT T c) (upT T d)=upT T (if 0<T then c else d):=by
 have h:=dn_min (T:= -T) c0 hcd
 have e:(if -T<0 then c else d)=(if 0<T then c else d):=by split<;>split<;>omega
 rw[e]at h
 unfold upT
 rw[←h];omega
def divP (a b c d:Int):R3:=madeI (dnT (a*1099511627776) (if a<0 then c else d)) (upT (b*1099511627776) (if 0<b then c else d))
def divI (a b c d:Int):R3:=if ck2 a b c d≠0 then⟨0,0,ck2 a b c d⟩else if c≤0∧0≤d then⟨0,0,18⟩else if d<0 then divP (-b) (-a) (-d) (-c)else divP a b c d
theorem divP_prog {a b c d:Int} (c0:0<c) (hcd:c≤d):divP a b c d=madeI (min (dnT (a*1099511627776) c) (dnT (a*1099511627776) d)) (max (upT (b*1099511627776) c) (upT (b*1099511627776) d)):=by
 unfold divP
 rw[dn_min c0 hcd,up_max c0 hcd]
 have e1:(if a*1099511627776<0 then c else d)=(if a<0 then c else d):=by split<;>split<;>omega
 have e2:(if 0<b*1099511627776 then c else d)=(if 0<b then c else d):=by split<;>split<;>omega
 rw[e1,e2]
def IsRoot (x r:Int):Prop:=0≤r∧r*r≤x*1099511627776∧x*1099511627776<(r+1)*(r+1)
theorem sq_lt {r s:Int} (h0:0≤s) (h:r*r<s*s):r<s:=by
 rcases Int.lt_or_le r s with h1|h1
 ·exact h1
 ·have:=Int.mul_le_mul h1 h1 h0 (by omega);omega
theorem IsRoot.one {x r s:Int} (h:IsRoot x r) (k:IsRoot x s):r=s:=by
 have h1:=sq_lt (r:=r) (s:=s+1) (by have:=k.1;omega) (by have:=h.2.1;have:=k.2.2;omega)
 have h2:=sq_lt (r:=s) (s:=r+1) (by have:=h.1;omega) (by have:=k.2.1;have:=h.2.2;omega)
 omega
noncomputable def rootI (x:Int):Int:= @Classical.epsilon Int ⟨0⟩ (IsRoot x)
theorem IsRoot.eq {x r:Int} (h:IsRoot x r):r=rootI x:=h.one (Classical.epsilon_spec (p:=IsRoot x) ⟨r,h⟩)
theorem IsRoot.of {x r:Int} (h:IsRoot x r):IsRoot x (rootI x):=h.eq▸h
noncomputable def sqrtI (a b:Int):R3:=if ckI a b≠0 then⟨0,0,ckI a b⟩else if a<0 then⟨0,0,2⟩else⟨rootI a,if rootI b*rootI b=b*1099511627776 then rootI b else rootI b+1,0⟩
def sc3I (a b:Int):R3:=if ckI a b≠0 then⟨0,0,ckI a b⟩else madeI (dnT (a*3) 1) (upT (b*3) 1)
def absv (x:Int):Int:=if x<0 then -x else x
def ovS (T d:Int) (up:Bool):Int:=if up then upT T d else dnT T d
theorem held3d {w W w':World} {RB lo hi:Nat} {ob:Obj}
    (h:(∀b o,b<W.heap.size→w'.drew.cell? ⟨b,o,none⟩=if b=RB∧lo≤o∧o<hi then(W.cell? ⟨b,o,none⟩).map (obx w'.drew b o)else W.cell? ⟨b,o,none⟩)∧(∀b o,b<W.heap.size→w'.drew.frozen? ⟨b,o,none⟩=W.frozen? ⟨b,o,none⟩)∧W.heap.size≤w'.drew.heap.size∧Ext w w'.drew):
    (∀b o,b<W.heap.size→(w'.alloc ob).drew.cell? ⟨b,o,none⟩=if b=RB∧lo≤o∧o<hi then(W.cell? ⟨b,o,none⟩).map (obx (w'.alloc ob).drew b o)else W.cell? ⟨b,o,none⟩)∧(∀b o,b<W.heap.size→(w'.alloc ob).drew.frozen? ⟨b,o,none⟩=W.frozen? ⟨b,o,none⟩)∧W.heap.size≤(w'.alloc ob).drew.heap.size∧Ext w (w'.alloc ob).drew:=
  held3 (w':=w'.drew) h
end Go.Proofs.YtaoioncjmfcolaaGreat
