/- Limbs divided by one limb. -/
import Derived.Test.YtaoioncjmfcolaaGreatV03
import Derived.Shelf.Small.Bits
import Derived.Shelf.Bits.Mul64
set_option linter.unusedSimpArgs false
set_option linter.unusedVariables false
set_option maxRecDepth 100000
set_option maxHeartbeats 4000000
namespace Go.Proofs.YtaoioncjmfcolaaGreat
open Go.RowKit Go.Shelf
attribute [local go_sem] Oper.semAt_some
theorem T_WH_5 {p:Prop} (h:p:=by
 go_simp
 refine hK _ _ ?_
 clear hK K
 try simp only[sx_]
 refine ri1 2 rfl fun K hK=> ?_
 exact T_WH_1):p:=h
theorem T_WH_4 {p:Prop} (h:p:=by
 go_simp
 refine hK _ _ ?_
 clear hK K
 try simp only[sx_]
 refine ri1 4 rfl fun K hK=> ?_
 exact T_WH_1):p:=h
theorem T_WH_3 {p:Prop} (h:p:=by
 refine sI 9 ?_
 refine ri1 10 rfl fun K hK=> ?_
 go_simp
 refine hK _ _ ?_
 clear hK K
 try simp only[sx_]
 refine ri1 11 rfl fun K hK=> ?_
 go_simp
 refine hK _ _ ?_
 clear hK K
 try simp only[sx_]
 refine wpAnyIn_done c_3 ?_ _
 exact hfin.out _ _ rfl):p:=h
theorem T_WH_2 {p:Prop} (h:p:=by
 refine AllReadyIn.cons rfl (fun K hK=> ?_) AllReadyIn.nil
 go_simp
 refine hK _ _ ?_
 clear hK K
 try simp only[sx_]
 refine wpAnyIn_ready (rs:=[0,5]) c_3 (by simp) ?_
 refine AllReadyIn.cons rfl (fun K hK=> ?_) ?_
 ·exact T_WH_1
 refine AllReadyIn.cons rfl (fun K hK=> ?_) AllReadyIn.nil
 go_simp
 refine⟨trivial, ?_⟩
 gi_at_call 165
 refine(callsIn_wide.2 (w_div32 r z d _ k3 k4 hzU hd2)).mono ?_
 rintro e w1 ⟨rfl,m,rfl⟩
 refine hK _ _ ?_
 clear hK K
 try simp only[sx_]
 refine sI 6 ?_
 refine sI 7 ?_
 refine sI 8 ?_
 refine ri1 0 rfl fun K hK=> ?_
 go_simp
 refine hK _ _ ?_
 clear hK K
 try simp only[sx_]
 exact T_WH_3):p:=h
theorem T_WH_1 {p:Prop} (h:p:=by
 go_simp
 refine hK _ _ ?_
 clear hK K
 try simp only[sx_]
 refine ri1 5 rfl fun K hK=> ?_
 go_simp
 refine⟨trivial, ?_⟩
 gi_at_call 165
 refine(callsIn_wide.2 (w_div32 r z d _ k3 k4 hzU hd2)).mono ?_
 rintro e w1 ⟨rfl,m,rfl⟩
 refine hK _ _ ?_
 clear hK K
 try simp only[sx_]
 refine sI 6 ?_
 refine sI 7 ?_
 refine sI 8 ?_
 exact T_WH_3):p:=h
def SI (X:List Int) (d:Int) (s p:Nat) (pre:List (DN X.length)) (W:World):Prop:=
 W.cell? ⟨s,0,none⟩=some (.int .u32 d)∧W.cell? ⟨p,0,none⟩=some (.slice (some ⟨s+1,0,none⟩) X.length X.length)∧W.cell? ⟨p+1,0,none⟩=some (.int .u32 (stA X d pre).2)∧W.frozen? ⟨p+1,0,none⟩=false∧R32 W s (s+1) X.length (stA X d pre).1
theorem short_in (va:Value) (X:List Int) (d:Int) (w:World) (ha:Lim w va X) (hd:0<d) (hd2:d<4294967296) (hx:X.length≤100000):
    CallsIn Fence.wide 6 Tryz.prog 138 #[va,.int .u32 d] w fun e w'=>∃u qs r,e=.returned (.tuple #[u,.int .u32 r])∧Lim w' u (trimL qs)∧val qs*d+r=val X∧0≤r∧r<d∧Ext w w':=by
  obtain⟨aoA,bA,oA,cA,rfl,a1,a2,a3,a4,a5,a6⟩:=ha.view
  have lX:=ha.lb
  obtain⟨i0,hi,hz0,hz1,hz2⟩:=info_parts info81
  refine callsIn_of_wp_marks Tryz.func138 rfl trivial ?_ rfl
  simp only[Tryz.ntmps138,List.size_toArray,List.length_cons,List.length_nil,Nat.reduceAdd,Nat.reduceSub,Array.replicate_succ,Array.replicate_zero,List.push_toArray,List.append_toArray,List.nil_append,List.cons_append]
  gi_wp2_with fail
  obtain⟨w0,hrun,hown0,hgrow0⟩:=run_make_full (P:=Tryz.prog) (w.alloc (.cells #[.int .u32 d] 54)) w.heap.size 22 54 i0 (.int .u32 0) 1 Tryz.underlying22 hi hz0 hz1 .i64 .i64 X.length c_48 c_31 (by simp)
  rw[hrun]
  have hs0:=hgrow0.size
  simp only[World.size_alloc]at hown0 hs0
  have hR0:R32 w0 w.heap.size (w.heap.size+1) X.length (List.replicate X.length 0):=R32.made hown0
  have hE0:Ext w w0:=Ext.grown ((Ext.refl w).alloc _) hgrow0
  have hg1:=hR0.lt
  have c0:=cell_new_l w (.int .u32 d) 54
  have c0':=cell_kept c0.1 hgrow0 (fun r e=>by cases e)
  clear hrun hown0 hgrow0
  gi_wp2_with (refine⟨trivial, ?_⟩;gi_at_call 143;refine(down_in Fence.wide 5 trivial rfl _ _ _ _).mono ?_;rintro e w' ⟨rfl,rfl⟩)
  have c1:=cell_new_l w0 (.slice (some ⟨w.heap.size+1,0,none⟩) X.length X.length) 22
  have c2:=cell_new_l (w0.alloc (.cells #[.slice (some ⟨w.heap.size+1,0,none⟩) X.length X.length] 22)) (.int .u32 0) 54
  have c3:=cell_new_l ((w0.alloc (.cells #[.slice (some ⟨w.heap.size+1,0,none⟩) X.length X.length] 22)).alloc (.cells #[.int .u32 0] 54)) (.slice aoA X.length cA) 22
  simp only[World.size_alloc]at c2 c3
  have hB0:Below w.heap.size w (((w0.alloc (.cells #[.slice (some ⟨w.heap.size+1,0,none⟩) X.length X.length] 22)).alloc (.cells #[.int .u32 0] 54)).alloc (.cells #[.slice aoA X.length cA] 22)):=((hE0.alloc _).alloc _).alloc _
  have hI0:SI X d w.heap.size w0.heap.size [] (((w0.alloc (.cells #[.slice (some ⟨w.heap.size+1,0,none⟩) X.length X.length] 22)).alloc (.cells #[.int .u32 0] 54)).alloc (.cells #[.slice aoA X.length cA] 22)):=
    ⟨cell_alloc_l _ (cell_alloc_l _ (cell_alloc_l _ c0')),cell_alloc_l _ (cell_alloc_l _ c1.1),cell_alloc_l _ c2.1,frozen_alloc_l _ c2.1 c2.2,((hR0.alloc _).alloc _).alloc _⟩
  refine wpIn_rangeFunc_ownF rfl (by omega) (gf:=168) (lb:=#[.pointer (some ⟨w0.heap.size+1+1,0,none⟩)]) rfl trivial (enters_of Tryz.func168 c_3 rfl)
    (down_stops Fence.wide 5 trivial rfl (by omega) (w0.heap.size+1+1) w.heap.size w _ _ X ha rfl hB0 (by simp) c3.1) K2.trans (k2_b c_26 (by simp)) (Below.refl _ _) (fun _=>rfl)
    (fun pre W=>SI X d w.heap.size w0.heap.size pre W∧Below w.heap.size w W) (fun _ _ _=>False)
    (OwnFrom.and (Own.from (fun s A B row hs hg hr=>⟨cell_kept hs.1 hg hr,cell_kept hs.2.1 hg hr,cell_kept hs.2.2.1 hg hr,(frozen_kept hs.2.2.1 hg hr).trans hs.2.2.2.1,R32.kept hs.2.2.2.2 hg hr⟩) _) (ownFrom_below (Nat.le_refl _) c_26))
    (fun _ _ _ _ _ hs _ _=>hs)
    ⟨hI0,hB0⟩
    (fun x=>{tmps:=#[.slice aoA X.length cA,.int .u32 d,undef,.pointer (some ⟨w.heap.size,0,none⟩),.slice none 0 0,.int .u32 0,.pointer (some ⟨w0.heap.size,0,none⟩),.pointer (some ⟨w0.heap.size+1,0,none⟩),O (x.1:Int),.int .u32 (X.getD x.1 0),.slice aoA X.length cA,O X.length,.slice (some ⟨w.heap.size+1,0,none⟩) X.length X.length,.slice aoA X.length cA,.func (.func 168) #[] #[.pointer (some ⟨w0.heap.size+1+1,0,none⟩)],O (x.1:Int),.int .u32 (X.getD x.1 0),undef,undef,undef,undef,undef,undef,undef,undef,undef,undef,undef,undef,undef],defers:=[]}) ?assign ?body ?done ?stop
  case assign=>
    intro l x W K hK
    gi_wp2
    exact hK
  case body=>
    rintro l pre x W ⟨⟨h1,h2,h3,h4,h5⟩,hB⟩ hlen
    obtain⟨j,hj⟩:=x
    have hjl:j<X.length:=hj (by omega)
    obtain⟨k1,k2,k3,k4⟩:=stA_ok lX hd pre
    have e5:=h5.cell hjl
    have f5:=h5.frozen j
    have hzU:U32 (X.getD j 0):=lX.getD j
    have hsn:=stA_snoc X d pre ⟨j,hj⟩
    obtain⟨z,ez⟩:∃z,X.getD j 0=z:=⟨_,rfl⟩
    obtain⟨r,er⟩:∃r,(stA X d pre).2=r:=⟨_,rfl⟩
    obtain⟨o,eo⟩:∃o,(stA X d pre).1.getD j 0=o:=⟨_,rfl⟩
    have hmx:Tryz.prog.follows .mixedOrders=true:=by kernel_rfl
    have hWl:w0.heap.size+1<W.heap.size:=World.block_lt_of_cell? W _ h3
    have hstp:stA X d (pre++[⟨j,hj⟩])=((stA X d pre).1.set j ((r*4294967296+z)/d),(r*4294967296+z)%d):=by rw[hsn];unfold stp;dsimp only;rw[ez,er]
    have hfin:Hid (∀m W',W'=((W.drewN m).setCell ⟨w.heap.size+1,j,none⟩ (.int .u32 ((r*4294967296+z)/d))).setCell ⟨w0.heap.size+1,0,none⟩ (.int .u32 ((r*4294967296+z)%d))→
        KeepsOthers W W'∧K2 w.heap.size (w0.heap.size+1+1) W W'∧SI X d w.heap.size w0.heap.size (pre++[⟨j,hj⟩]) W'∧Below w.heap.size w W'):=by
      intro m W' e
      have hD:∀q,(W.drewN m).cell? q=W.cell? q:=fun q=>rfl
      have hDf:∀q,(W.drewN m).frozen? q=W.frozen? q:=fun q=>rfl
      have hDs:(W.drewN m).heap.size=W.heap.size:=rfl
      have hbe:Below w.heap.size W (W.drewN m):=⟨rfl,rfl,rfl,Nat.le_refl _,fun _ _=>rfl⟩
      have hbel:Below w.heap.size W W':=by
        rw[e]
        exact(hbe.setCell (p:=⟨w.heap.size+1,j,none⟩) (by simp) _).setCell (p:=⟨w0.heap.size+1,0,none⟩) c_57 _
      have hcell:∀b,b≠w.heap.size+1→b≠w0.heap.size+1→W'.cell? ⟨b,0,none⟩=W.cell? ⟨b,0,none⟩:=fun b hb1 hb2=>by
        rw[e,cell_sc,if_neg (fun h=>hb2 c_37),cell_sc,if_neg (fun h=>hb1 c_37),hD]
      refine⟨?_,⟨hbel,hcell _ (by omega) (by omega)⟩, ?_,hB.trans hbel⟩
      · rw[e]
        exact((KeepsOthers.drewN _ m).trans (KeepsOthers.setCell _ _ _)).trans (KeepsOthers.setCell _ _ _)
      · unfold SI
        rw[hstp]
        refine⟨(hcell _ (by omega) (by omega)).trans h1,(hcell _ (by omega) (by omega)).trans h2, ?_, ?_, ?_⟩
        · rw[e,cell_sc,if_pos rfl,cell_sc,if_neg (fun h=>by have:=congrArg Addr.block h;simp at this;omega),hD,h3];rfl
        · rw[e,World.frozen?_setCell,World.frozen?_setCell,hDf];exact h4
        · rw[e]
          have h6:R32 (W.drewN m) w.heap.size (w.heap.size+1) X.length (stA X d pre).1:=h5
          exact(h6.set j _).other (by omega)
    dsimp only
    rw[ez]at hzU ⊢
    rw[er]at h3 k3 k4
    rw[eo]at e5
    gi_wp2
    refine region_inRound hmx (noDefer_ok c_3) ?_
    refine sI 1 ?_
    refine sI 3 ?_
    refine wpAnyIn_ready (rs:=[0,2,4]) c_3 (by simp) ?_
    refine AllReadyIn.cons rfl (fun K hK=> ?_) ?_
    · go_simp
      refine hK _ _ ?_
      clear hK K
      try simp only[sx_]
      refine wpAnyIn_ready (rs:=[2,4]) c_3 (by simp) ?_
      refine AllReadyIn.cons rfl (fun K hK=> ?_) ?_
      · exact T_WH_4
      refine AllReadyIn.cons rfl (fun K hK=> ?_) AllReadyIn.nil
      exact T_WH_5
    refine AllReadyIn.cons rfl (fun K hK=> ?_) ?_
    · go_simp
      refine hK _ _ ?_
      clear hK K
      try simp only[sx_]
      refine wpAnyIn_ready (rs:=[0,4]) c_3 (by simp) ?_
      refine AllReadyIn.cons rfl (fun K hK=> ?_) ?_
      · exact T_WH_4
      exact T_WH_2
    refine AllReadyIn.cons rfl (fun K hK=> ?_) AllReadyIn.nil
    go_simp
    refine hK _ _ ?_
    clear hK K
    try simp only[sx_]
    refine wpAnyIn_ready (rs:=[0,2]) c_3 (by simp) ?_
    refine AllReadyIn.cons rfl (fun K hK=> ?_) ?_
    · exact T_WH_5
    exact T_WH_2
  case done=>
    rintro D ys W hD hys ⟨⟨h1,h2,h3,h4,h5⟩,hB⟩ hK2
    obtain⟨k1,k2,k3,k4⟩:=stA_ok lX hd ys
    have hv:=short_all lX hd hys
    generalize stA X d ys=st at*
    obtain⟨qs,r⟩:=st
    have hL:Lim W (.slice (some ⟨w.heap.size+1,0,none⟩) X.length X.length) qs:=R32.lim h5 k2 (by omega)
    have hmx:Tryz.prog.follows .mixedOrders=true:=by kernel_rfl
    dsimp only at h3 k3 k4 hv
    clear h5 h1 h4 hys
    gi_wp2
    refine wpIn_wide.2 ?_
    refine wp_region_noPanic ?_
    refine wp_region_held_drew (S:=(fun w1=>Ext W w1∧w1.cell? ⟨w0.heap.size,0,none⟩=some (.slice (some ⟨w.heap.size+1,0,none⟩) X.length X.length)∧w1.cell? ⟨w0.heap.size+1,0,none⟩=some (.int .u32 r))) c_3 ?_ (fun hH=> ?_)
    · exact⟨(Ext.refl W).drew,h2,h3⟩
    try simp only[sx_]
    refine tk 0 rfl (by intro w0 hSw;obtain⟨_,q0,q1⟩:=hSw;go_simp;try with_reducible rfl) ?_
    try simp only[sx_]
    refine tk 2 rfl (by intro w0 hSw;obtain⟨_,q0,q1⟩:=hSw;go_simp;try with_reducible rfl) ?_
    try simp only[sx_]
    refine rh1 1 rfl fun K hK=> ?_
    go_simp
    (go_at_call 81;(with_reducible refine(w_trim _ qs _ (hL.ext hH.1)).mono ?_);rintro e w1 ⟨u,rfl,hu,hx⟩)
    refine hK.out _ _ ?_ fun _=> ?_
    · (try dsimp only);exact⟨hH.1.trans hx,(hx.cells.1 _ 0 (World.block_lt_of_cell? _ _ hH.2.1)).trans hH.2.1,(hx.cells.1 _ 0 (World.block_lt_of_cell? _ _ hH.2.2)).trans hH.2.2⟩
    clear hK K hH
    rename_i hH
    try simp only[sx_]
    refine sK 3 ?_
    refine sK 4 ?_
    refine wpAnyH_done c_3 ?_ _
    refine NoPanic.normal ?_
    gi_wp2
    have hK3:w1.heap[D]? =some (.deferred (some [])):=(hH.1.block D (Array.getElem?_eq_some_iff.1 hK2).1).trans hK2
    refine⟨by simp,.inl ⟨_,_,rfl,run_takeDeferred hK3, ?_⟩⟩
    refine⟨.tuple #[u,.int .u32 r], ?_,u,qs,r,rfl,hu.kept (grownBy_putObj' _ D (.deferred none)) (fun q e=>by cases e;exact⟨_,hK3,rfl⟩),hv,k3,k4, ?_⟩
    · simp[results,Tryz.f138,go_sem]
    · exact(hB.trans (hH.1.mono hB.size)).trans (belowK_b (w:=w) (Nat.le_refl _) w1 D _ _ (by simp at hD;omega) hK3 rfl rfl)
  case stop=>
    rintro D c pre W _ _ h _
    exact h.elim
end Go.Proofs.YtaoioncjmfcolaaGreat
namespace Go.Proofs.YtaoioncjmfcolaaGreat
open Go.RowKit
theorem w_short (va:Value) (X:List Int) (d:Int) (w:World) (ha:Lim w va X) (hd:0<d) (hd2:d<4294967296) (hx:X.length≤100000):
    K_ 138 #[va,.int .u32 d] w fun e w'=>∃u qs r,e=.returned (.tuple #[u,.int .u32 r])∧Lim w' u (trimL qs)∧val qs*d+r=val X∧0≤r∧r<d∧Ext w w':=
  (callsIn_wide (n:=6)).1 (short_in va X d w ha hd hd2 hx)
theorem lim_one (w:World) (r:Int) (h:U32 r):Lim (w.alloc (.cells #[.int .u32 r] 54)) (.slice (some ⟨w.heap.size,0,none⟩) 1 1) [r]:=
 ⟨Lb.cons h Lb.nil,Or.inr ⟨_,0,1,rfl,Nat.le_refl _,⟨by decide,by simp⟩,by simp,fun i hi=>by
  rw[cell_al,if_pos rfl]
  match i,hi with
  |0,_=>rfl
  |i+1,hi=>exact absurd hi (by simp)⟩⟩
def DivPost (X Y:List Int) (w:World):Ending→World→Prop:=fun e w'=>∃u v qs rs,e=.returned (.tuple #[u,v])∧Lim w' u qs∧Lim w' v rs∧Nz qs∧Nz rs∧val qs*val Y+val rs=val X∧val rs<val Y∧Ext w w'
theorem w_divide (va vb:Value) (X Y:List Int) (w:World) (ha:Lim w va X) (hb0:Lim w vb Y) (hX:Nz X) (hY:Nz Y) (hx:X.length≤100000) (h1:val X<val Y∨Y.length=1):
    K_ 83 #[va,vb] w (DivPost X Y w):=by
 have hcm:=w_compare va vb X Y w ha hb0 hX hY
 by_cases hlt:val X<val Y
 ·rw[cmp_lt hlt]at hcm
  have hcl:=fun w1 (k:Ext w w1)=>w_Clone va X w1 (ha.ext k) hx
  go_enter Tryz.func83,Tryz.ntmps83
  go_wp2_with (first
   | (go_at_call 86;(with_reducible refine hcm.mono ?_);rintro e w1 ⟨rfl,hb⟩)
   | (go_at_call 130;(with_reducible refine(hcl _ hb).mono ?_);rintro e w2 ⟨u,rfl,hu,hb2⟩))
  go_ret2
  exact⟨_,_,[],X,rfl,Lim.nil _,hu,Nz.nil,hX,by simp[val],hlt,hb.trans hb2⟩
 ·have hn:Y.length=1:=h1.resolve_left hlt
  obtain⟨d,rfl⟩:∃d,Y=[d]:=List.length_eq_one_iff.1 hn
  have hd0:d≠0:=hY d rfl
  have hdU:=hb0.lb.head
  have hvd:val [d]=d:=by simp[val]
  have hc0:decide (cmpI (val X) (val [d])<0)=false:=decide_eq_false (by unfold cmpI;rw[if_neg hlt];split<;>omega)
  obtain⟨c,ec⟩:∃c,cmpI (val X) (val [d])=c:=⟨_,rfl⟩
  rw[ec]at hcm hc0
  obtain⟨bo,b2,o2,cap2,rfl,y1,y2,y3,y4,y5,y6⟩:=hb0.view
  have e:=y1 (by simp)
  subst e
  have hcell:=y5 0 (by simp)
  simp only[List.getD_cons_zero,Nat.add_zero]at hcell
  have hbl:=y4 (by simp)
  simp only[List.length_cons,List.length_nil,Nat.zero_add]at hcm ⊢
  have hsh:=fun w1 (k:Ext w w1)=>w_short va X d w1 (ha.ext k) (by omega) hdU.2 hx
  clear ec y5 y4 y1
  go_enter Tryz.func83,Tryz.ntmps83
  go_upto_region 6 with(first
   | (go_at_call 86;(with_reducible refine hcm.mono ?_);rintro e w1 ⟨rfl,hb⟩;have hc1:=(hb.cells.1 b2 o2 hbl).trans hcell)
   | (go_at_call 138;(with_reducible refine(hsh _ hb).mono ?_);rintro e w2 ⟨u,qs,r,rfl,hu,hval,r0,r1,hb2⟩))
  have hL1:=lim_one w2 r ⟨r0,by unfold BB at hdU;omega⟩
  go_wp2_with (go_at_call 81;(with_reducible refine(w_trim _ [r] _ hL1).mono ?_);rintro e w3 ⟨v,rfl,hv,hb3⟩)
  go_ret2
  refine⟨_,_,trimL qs,trimL [r],rfl,hu.ext (((Ext.refl _).alloc _).trans hb3),hv,trim_nz _,trim_nz _, ?_, ?_,hb.trans (hb2.trans (((Ext.refl _).alloc _).trans hb3))⟩
  ·rw[val_trim,val_trim,hvd];simpa [val]using hval
  ·rw[val_trim,hvd];simpa [val]using r1
def cellZ (w:World) (b o:Nat):Int:=match w.cell? ⟨b,o,none⟩with
 |some (.int _ z)=>z
 |_=>0
def lmeas (w:World) (v:Value):Nat:=match v with
 | .slice (some a) n _=>(val ((List.range n).map fun i=>cellZ w a.block (a.off+i))).toNat
 |_=>0
theorem Lim.meas {w:World} {v:Value} {m:Nat} (h:Lim w v (dig m)):lmeas w v=m:=by
 rcases h.2 with⟨rfl,e⟩| ⟨b,o,cap,rfl,h1,h2,h3,h4⟩
 ·rw[dig_nil]at e;subst e;rfl
 ·show(val ((List.range (dig m).length).map fun i=>cellZ w b (o+i))).toNat=m
  have:(List.range (dig m).length).map (fun i=>cellZ w b (o+i))=dig m:=by
   apply List.ext_getElem
   ·simp
   ·intro i hi1 hi2
    rw[List.getElem_map,List.getElem_range]
    unfold cellZ
    rw[h4 i hi2,List.getD_eq_getElem?_getD,List.getElem?_eq_getElem hi2]
    rfl
  rw[this,dig_val];simp
theorem dig_mono {a b:Nat} (h:a≤b):(dig a).length≤(dig b).length:=by
 rcases Nat.lt_or_ge (dig b).length (dig a).length with h1|h1
 ·have:=val_lt_of_len (dig_lb b) (dig_lb a) (dig_nz a) h1
  rw[dig_val,dig_val]at this
  omega
 ·exact h1
theorem div_dig {a b:Nat} {qs rs:List Int} (lq:Lb qs) (lr:Lb rs) (nq:Nz qs) (nr:Nz rs) (h:val qs*val (dig b)+val rs=val (dig a)) (h2:val rs<val (dig b)):qs=dig (a/b)∧rs=dig (a%b):=by
 rw[dig_val,dig_val]at h
 rw[dig_val]at h2
 have r0:=val_nonneg lr
 have hb:(0:Int)<b:=by omega
 have e1:((a:Int)/b)=val qs:=by
  rw[←h]
  rw[Int.add_comm,Int.add_mul_ediv_right _ _ (by omega),Int.ediv_eq_zero_of_lt r0 h2,Int.zero_add]
 have e2:((a:Int)%b)=val rs:=by
  rw[←h,Int.add_comm,Int.add_mul_emod_self_right,Int.emod_eq_of_lt r0 h2]
 exact⟨eq_dig lq nq (by rw[←e1];exact(Int.natCast_ediv a b).symm),eq_dig lr nr (by rw[←e2];exact(Int.natCast_emod a b).symm)⟩
theorem T_ZI_1 {p:Prop} (h:p:=by
 go_wp2_with fail
 go_roundw
 case rel=>exact⟨k+1,hkn,by go_num,(c_42:Ext _ _)⟩
 case measure=>simp[intOf];omega):p:=h
def Sm (w:World) (v:Value) (s:Bool) (m:Nat):Prop:=∃u,v=.agg #[.bool s,u]∧Lim w u (dig m)
theorem Sm.ext {a w:World} {v:Value} {s:Bool} {m:Nat} (h:Sm a v s m) (k:Ext a w):Sm w v s m:=by
 obtain⟨u,e,hu⟩:=h;exact⟨u,e,hu.ext k⟩
theorem Nn.wid {w:World} {v:Value} {m:Nat} (h:Nn w v m):Wid w v (m:Int):=by
 obtain⟨u,e,hu⟩:=h
 exact⟨u,by rw[e,decide_eq_false (by omega)],by rw[Int.natAbs_natCast];exact hu⟩
theorem Wid.nn {w:World} {v:Value} {n:Int} (h:Wid w v n) (h0:0≤n):Nn w v n.natAbs:=by
 obtain⟨u,e,hu⟩:=h
 exact⟨u,by rw[e,decide_eq_false (by omega)],hu⟩
def NzAt (w:World) (b o:Nat) (s:Bool) (m:Nat):Prop:=∃u,w.cell? ⟨b,o,none⟩=some (.bool s)∧w.cell? ⟨b,o+1,none⟩=some u∧Lim w u (dig m)
theorem z_checks (b n cap:Nat) (ss:Nat→Bool) (ms:Nat→Nat) (w:World) (hn:n≤1000) (hb:b<w.heap.size) (h:∀i,i<n→NzAt w b (i*2) (ss i) (ms i)) (hs:∀i,i<n→Small (ms i)) (hz:∀i,i<n→ms i=0→ss i=false):
    K_ 77 #[.slice (some ⟨b,0,none⟩) n cap] w fun e w'=>e=.returned (O 0)∧Ext w w':=by
 go_enter Tryz.func77,Tryz.ntmps77
 go_wp2_with fail
 go_loopw [8] (fun i wr=>∃k:Nat,k≤n∧i=O k∧Hid (Ext w wr)) (fun i _=>n-(intOf i).toNat)
 case atStart=>exact⟨0,Nat.zero_le _,rfl,Ext.refl w⟩
 case round=>
  obtain⟨k,hk,rfl,HE⟩:=hrel
  by_cases hkn:k<n
  ·obtain⟨u,h1,h2,h3⟩:=h k hkn
   obtain⟨ao,b1,o1,cap1,rfl,v1,v2,v3,v4,v5,v6⟩:=h3.view
   have hsm:=hs k hkn
   unfold Small at hsm
   replace h1:=(HE.out.cells.1 b (k*2) hb).trans h1
   replace h2:=(HE.out.cells.1 b (k*2+1) hb).trans h2
   have hln:=last_ne (m:=ms k)
   have hwz:=HE.out.size
   have hsz:(dig (ms k)).length=0→ss k=false:=fun e=>hz k hkn (dig_nil.1 (List.length_eq_zero_iff.1 e))
   generalize ss k=sk at*
   generalize dig (ms k)=ds at*
   rcases Nat.eq_zero_or_pos ds.length with h0|h0
   ·rw[h0]at h2
    rw[hsz h0]at h1
    clear h hs hsz hz
    exact T_ZI_1
   ·have e:=v1 h0
    subst e
    have hlw:=v4 h0
    obtain⟨q,eq⟩:∃q,ds.length=q+1:=⟨ds.length-1,by omega⟩
    have hl:=v5 q (by omega)
    replace hln:=hln h0
    rw[eq,Nat.add_sub_cancel]at hln
    obtain⟨z,ez⟩:∃z,ds.getD q 0=z:=⟨_,rfl⟩
    rw[ez]at hl hln
    replace hl:=(HE.out.cells.1 b1 (o1+q) hlw).trans hl
    rw[eq]at h2 hsm
    have z1:(z==0)=false:=by simpa using hln
    have z2:decide ((4096:Int)<(q:Int)+1)=false:=decide_eq_false (by omega)
    have z3:((q:Int)+1==0)=false:=by simp;omega
    clear h hs v5 v6 v4 v1 h3 v2 hsz hz
    exact T_ZI_1
  ·clear h hs hz
   go_wp2_with fail
   go_ret
   exact⟨rfl,HE.out⟩
theorem nzAt1 (w:World) (u:Value) (s:Bool) (m:Nat) (h:Lim w u (dig m)):NzAt (w.alloc (.cells #[.bool s,u] 24)) w.heap.size 0 s m:=
 ⟨u,by rw[cell_al,if_pos rfl];rfl,by rw[cell_al,if_pos rfl];rfl,h.alloc _⟩
theorem nzAt2 (w:World) (u v:Value) (s t:Bool) (m k:Nat) (h:Lim w u (dig m)) (h2:Lim w v (dig k)):NzAt (w.alloc (.cells #[.bool s,u,.bool t,v] 24)) w.heap.size 0 s m∧NzAt (w.alloc (.cells #[.bool s,u,.bool t,v] 24)) w.heap.size 2 t k:=
 ⟨⟨u,by rw[cell_al,if_pos rfl];rfl,by rw[cell_al,if_pos rfl];rfl,h.alloc _⟩,⟨v,by rw[cell_al,if_pos rfl];rfl,by rw[cell_al,if_pos rfl];rfl,h2.alloc _⟩⟩
theorem z_check_one (w:World) (u:Value) (s:Bool) (m:Nat) (h:Lim w u (dig m)) (hs:Small m) (hz:m=0→s=false):
    K_ 77 #[.slice (some ⟨w.heap.size,0,none⟩) 1 1] (w.alloc (.cells #[.bool s,u] 24)) fun e w'=>e=.returned (O 0)∧Ext (w.alloc (.cells #[.bool s,u] 24)) w':=
  z_checks w.heap.size 1 1 (fun _=>s) (fun _=>m) _ (by decide) (by simp) (fun i hi=>by
    have:i=0:=by omega
    subst this;exact nzAt1 w u s m h) (fun _ _=>hs) (fun _ _=>hz)
theorem z_check_two (w:World) (u v:Value) (s t:Bool) (m k:Nat) (h:Lim w u (dig m)) (h2:Lim w v (dig k)) (hs:Small m) (hs2:Small k) (hz:m=0→s=false) (hz2:k=0→t=false):
    K_ 77 #[.slice (some ⟨w.heap.size,0,none⟩) 2 2] (w.alloc (.cells #[.bool s,u,.bool t,v] 24)) fun e w'=>e=.returned (O 0)∧Ext (w.alloc (.cells #[.bool s,u,.bool t,v] 24)) w':=
  z_checks w.heap.size 2 2 (fun i=>if i=0 then s else t) (fun i=>if i=0 then m else k) _ (by decide) (by simp) (fun i hi=>by
    rcases(show i=0∨i=1 by omega)with rfl|rfl
    · exact(nzAt2 w u v s t m k h h2).1
    · exact(nzAt2 w u v s t m k h h2).2) (fun i _=>by split<;>assumption) (fun i _=>by split<;>assumption)
theorem w_madeS (neg:Bool) (v:Value) (xs:List Int) (m:Nat) (w:World) (h:Lim w v xs) (hm:val xs=m) (hl:(dig m).length≤4096):
    K_ 76 #[.bool neg,v] w fun e w'=>∃u bo,e=.returned (.tuple #[.agg #[.bool bo,u],O 0])∧Lim w' u (dig m)∧bo=(neg&&decide (0<(dig m).length))∧Ext w w':=by
 refine(w_made neg v xs m w h hm hl).mono ?_
 rintro e w1 ⟨u,rfl,⟨s,rfl,hs⟩,hb⟩
 rw[sg_abs]at hs
 exact⟨s,_,rfl,hs,sg_neg neg m,hb⟩
theorem wid_s {n:Int} (s:Bool) (hs:s=decide (n<0)):n.natAbs=0→s=false:=by
 intro h;rw[hs];exact decide_eq_false (by omega)
theorem sg_wid {n:Int}:sg (decide (n<0)) n.natAbs=n:=by
 unfold sg
 by_cases h:n<0
 ·rw[decide_eq_true h,if_pos rfl];omega
 ·rw[decide_eq_false h,if_neg (by decide)];omega
def Sz (n:Int):Prop:=Small n.natAbs
theorem dig_bits {m k L:Nat} (h:m<2^k) (hk:k≤32*L):(dig m).length≤L:=by
 rcases Nat.lt_or_ge L (dig m).length with h1|h1
 ·exfalso
  have h2:=val_pos (dig_lb m) (dig_nz m) (by intro e;rw[e]at h1;simp at h1)
  rw[dig_val]at h2
  have h3:=bb_mono (show L≤(dig m).length-1 from by omega)
  have h4:BB^L=((2^(32*L):Nat):Int):=by
   have:BB=((2^32:Nat):Int):=rfl
   rw[this, ←Int.natCast_pow, ←Nat.pow_mul]
  have h5:2^k≤2^(32*L):=Nat.pow_le_pow_right (by decide) hk
  have h6:(m:Int)<((2^(32*L):Nat):Int):=Int.ofNat_lt.2 (Nat.lt_of_lt_of_le h h5)
  rw[h4]at h3
  exact absurd h6 (Int.not_lt.2 (Int.le_trans h3 h2))
 ·exact h1
theorem small_bits {m k:Nat} (h:m<2^k) (hk:k≤131072):Small m:=dig_bits h (L:=4096) hk
def O32 (w:World) (base g n cap:Nat) (xs:List Int):Prop:=w.ownsRow base 54 1 (.slice (some ⟨g,0,none⟩) n cap) n (xs.map (.int .u32))
theorem R32.own {w:World} {base g n:Nat} {xs:List Int} (h:R32 w base g n xs):O32 w base g n n xs:=h
theorem O32.len {w:World} {base g n cap:Nat} {xs:List Int} (h:O32 w base g n cap xs):xs.length=n:=by have:=h.1;simpa using this
theorem O32.parts {w:World} {base g n cap:Nat} {xs:List Int} (h:O32 w base g n cap xs):g<w.heap.size∧base≤g∧n≤cap∧cap≤9223372036854775807:=by
 rcases h.2 with⟨e,_⟩| ⟨g',cap',cur,hv,hb,hg,hnc,hcm,_⟩
 ·cases e
 ·cases hv;exact⟨(Array.getElem?_eq_some_iff.1 hg).1,hb,hnc,hcm⟩
theorem O32.cell {w:World} {base g n cap:Nat} {xs:List Int} (h:O32 w base g n cap xs) {k:Nat} (hk:k<n):w.cell? ⟨g,k,none⟩=some (.int .u32 (xs.getD k 0)):=by
 have hl:=h.len
 rw[World.ownsRow.cellAt h k (by omega)]
 simp[List.getElem?_map,List.getD_eq_getElem?_getD,List.getElem?_eq_getElem (show k<xs.length by omega)]
theorem O32.frozen {w:World} {base g n cap:Nat} {xs:List Int} (h:O32 w base g n cap xs) (k:Nat):w.frozen? ⟨g,k,none⟩=false:=World.ownsRow.frozenAt h k
theorem O32.set {w:World} {base g n cap:Nat} {xs:List Int} (h:O32 w base g n cap xs) (k:Nat) (z:Int):O32 (w.setCell ⟨g,k,none⟩ (.int .u32 z)) base g n cap (xs.set k z):=by
 have:=(World.ownsRow.stored h k (.int .u32 z)).1
 unfold O32
 rw[List.map_set];exact this
theorem O32.alloc {w:World} {base g n cap:Nat} {xs:List Int} (h:O32 w base g n cap xs) (o:Obj):O32 (w.alloc o) base g n cap xs:=World.ownsRow.alloc h o
theorem O32.ext {a w:World} {base g n cap:Nat} {xs:List Int} (h:O32 a base g n cap xs) (k:Ext a w):O32 w base g n cap xs:=
 World.ownsRow.kept (row:=none) h ⟨k.os,k.tape,k.output,k.size,fun i hi _=>k.block i hi⟩ (Or.inr (by simp[Value.ownBlock]))
theorem O32.lim {w:World} {base g n cap:Nat} {xs:List Int} (h:O32 w base g n cap xs) (hl:Lb xs) (hn:n≤1099511627776):Lim w (.slice (some ⟨g,0,none⟩) n cap) xs:=Lim.own h hl hn
theorem O32.take {w:World} {base g n cap:Nat} {xs:List Int} (h:O32 w base g n cap xs) (k:Nat) (hk:k≤n):O32 w base g k cap (xs.take k):=by
 have hl:=h.len
 refine⟨by simp[List.length_take];omega, ?_⟩
 rcases h.2 with⟨e,_⟩| ⟨g',cap',cur,hv,hb,hg,hnc,hcm,hcs,ht⟩
 ·cases e
 ·cases hv
  refine Or.inr ⟨g,cap,cur,rfl,hb,hg,by omega,hcm,hcs, ?_⟩
  rw[List.map_take, ←ht,List.take_take,Nat.mul_one,Nat.min_eq_left (by omega)]
theorem O32.other {w:World} {base g n cap:Nat} {xs:List Int} (h:O32 w base g n cap xs) {B j:Nat} (x:Value) (hB:B≠g):O32 (w.setCell ⟨B,j,none⟩ x) base g n cap xs:=by
 refine⟨h.1, ?_⟩
 rcases h.2 with⟨e,_⟩| ⟨g',cap',cur,hv,hb,hg,hnc,hcm,hcs,ht⟩
 ·cases e
 ·cases hv
  refine Or.inr ⟨g,cap,cur,rfl,hb, ?_,hnc,hcm,hcs,ht⟩
  simp only[World.setCell]
  rw[Array.getElem?_modify,if_neg hB];exact hg
theorem O32.base {w:World} {base base' g n cap:Nat} {xs:List Int} (h:O32 w base g n cap xs) (hb:base'≤g):O32 w base' g n cap xs:=by
 refine⟨h.1, ?_⟩
 rcases h.2 with⟨e,_⟩| ⟨g',cap',cur,hv,_,hg,hnc,hcm,hcs,ht⟩
 ·cases e
 ·cases hv
  exact Or.inr ⟨g,cap,cur,rfl,hb,hg,hnc,hcm,hcs,ht⟩
theorem Ext.grownAt {a w w':World} {g:Nat} (h:Ext a w) (k:w.grownBy w' (some g)) (hg:a.heap.size≤g):Ext a w':=Below.grown h k h.size (fun _ e=>by cases e;exact hg)
theorem O32.grownAt {w w':World} {base g n cap g2:Nat} {xs:List Int} (h:O32 w base g n cap xs) (k:w.grownBy w' (some g2)) (hg:g2≠g):O32 w' base g n cap xs:=
 World.ownsRow.kept h k (Or.inr (by simpa [Value.ownBlock]using fun e=>hg e.symm))
theorem wpList_make_lc {P:Program} (w:World) {ops:Array Oper} {rest:List Oper} {o:Oper} {a:Act} {Q:Exit→Act→World→Prop}
    (hg:o.guard=none) (l c:Operand) (t:TypeId) (hop:o.op=Op.makeSlice t l c)
    (base:Nat) (e:TypeId) (i:TypeInfo) (z:Value) (size:Nat) (h1:P.underlying t=some (.slice e)) (h2:P.info? e=some i) (h3:i.zero=some z) (h4:i.size=size)
    (kl kc:IntKind) (L C:Int) (n m:Nat) (hl:a.eval l=.int kl L) (hc:a.eval c=.int kc C) (hL:L=(n:Int)) (hC:C=(m:Int)) (hnm:n≤m) (b2:i.bytes*m≤281474976710656) (b3:m≤maxLen) (b4:base≤w.heap.size)
    (hK:∀w',w'.ownsRow base e size (.slice (some ⟨w.heap.size,0,none⟩) n m) n ((madeCells z.cells (m*size)).toList.take (n*size))→w.grownBy w' none→wpList P ops Q rest (a.put o.dst (.slice (some ⟨w.heap.size,0,none⟩) n m)) w'):
    wpList P ops Q (o::rest) a w:=by
 subst h4
 have h63:(m:Int)≤9223372036854775807:=by have h:=b3;simp[maxLen]at h;omega
 have hb':(i.bytes:Int)*(m:Int)≤281474976710656:=by
  have h:((i.bytes*m:Nat):Int)≤281474976710656:=by omega
  rwa [Int.natCast_mul]at h
 have hr:=run_make (P:=P) w t e i z h1 h2 h3 kl kc n m (by omega) (by omega) hb' h63
 simp only[Int.toNat_natCast]at hr
 subst hL
 subst hC
 refine wpList_plain hg fun K hK'=> ?_
 unfold Oper.wp
 simp[execOp,hop,hl,hc,hr,Result.andThen]
 refine hK' _ _ (hK _ ?_ (World.grownBy_alloc w _ none))
 refine⟨?_,Or.inr ⟨w.heap.size,m,_,rfl,b4,heap_alloc_new w _,hnm,b3,size_madeCells _ _,rfl⟩⟩
 rw[List.length_take,Array.length_toList,size_madeCells]
 exact Nat.min_eq_left (Nat.mul_le_mul_right _ hnm)
theorem O32.made {w:World} {base g n m:Nat} (hnm:n≤m) (h:w.ownsRow base 54 1 (.slice (some ⟨g,0,none⟩) n m) n ((madeCells (Value.int .u32 0).cells (m*1)).toList.take (n*1))):O32 w base g n m (List.replicate n 0):=by
 unfold O32
 have e:(madeCells (Value.int .u32 0).cells (m*1)).toList.take (n*1)=(List.replicate n (0:Int)).map (Value.int .u32):=by
  rw[Nat.mul_one,Nat.mul_one,List.map_replicate,show(madeCells (Value.int .u32 0).cells m).toList=List.replicate m (Value.int .u32 0)from toList_madeCells_one _ _,List.take_replicate,Nat.min_eq_left hnm]
 rw[←e];exact h
theorem O32.appended {w:World} {base g n cap:Nat} {xs:List Int} {z:Int} (h:w.ownsRow base 54 1 (.slice (some ⟨g,0,none⟩) (n+1) cap) (n+1) (xs.map (.int .u32)++[.int .u32 z])):O32 w base g (n+1) cap (xs++[z]):=by
 unfold O32;rw[List.map_append];exact h
end Go.Proofs.YtaoioncjmfcolaaGreat
namespace Go.Proofs
open Go.Shelf
def Tryz.lays128_ren:Go.Shelf.Ren:=⟨fun|128=>137|n=>n,fun|51=>54|3=>3|4=>4|46=>117|5=>5|9=>9|n=>n,fun|n=>n⟩
theorem Tryz.lays128:Go.Proofs.Lays.n128 Tryz.prog Tryz.lays128_ren:={
  mixed:=by kernel_rfl
  f128:=Tryz.func137.trans (congrArg some (by kernel_rfl))
  t3:=Tryz.underlying3
  a3:=Tryz.isAgg3
  z3:=Tryz.sizeOf3
  v3:=Tryz.zeroValue3
  t4:=Tryz.underlying4
  a4:=Tryz.isAgg4
  z4:=Tryz.sizeOf4
  v4:=Tryz.zeroValue4
  t5:=Tryz.underlying5
  a5:=Tryz.isAgg5
  z5:=Tryz.sizeOf5
  v5:=Tryz.zeroValue5
  t9:=Tryz.underlying9
  a9:=Tryz.isAgg9
  z9:=Tryz.sizeOf9
  v9:=Tryz.zeroValue9
  t46:=Tryz.underlying117
  a46:=Tryz.isAgg117
  z46:=Tryz.sizeOf117
  v46:=Tryz.zeroValue117
  t51:=Tryz.underlying54
  a51:=Tryz.isAgg54
  z51:=Tryz.sizeOf54
  v51:=Tryz.zeroValue54}
theorem Tryz.bits_Len32 (x:Int) (w:World) (h0:0≤x) (h1:x≤4294967295):
    Calls Tryz.prog 137 #[.int .u32 x] w fun e w'=>e=.returned (.int .i64 (Lib.bitLen x.toNat))∧w'=w:=Any.bits_Len32 Tryz.lays128 x w h0 h1
def Tryz.lays133_ren:Go.Shelf.Ren:=⟨fun|133=>139|128=>137|n=>n,fun|51=>54|3=>3|4=>4|46=>117|5=>5|9=>9|n=>n,fun|n=>n⟩
theorem Tryz.lays133:Go.Proofs.Lays.n133 Tryz.prog Tryz.lays133_ren:={
  mixed:=by kernel_rfl
  f128:=Tryz.func137.trans (congrArg some (by kernel_rfl))
  f133:=Tryz.func139.trans (congrArg some (by kernel_rfl))
  t3:=Tryz.underlying3
  a3:=Tryz.isAgg3
  z3:=Tryz.sizeOf3
  v3:=Tryz.zeroValue3
  t4:=Tryz.underlying4
  a4:=Tryz.isAgg4
  z4:=Tryz.sizeOf4
  v4:=Tryz.zeroValue4
  t5:=Tryz.underlying5
  a5:=Tryz.isAgg5
  z5:=Tryz.sizeOf5
  v5:=Tryz.zeroValue5
  t9:=Tryz.underlying9
  a9:=Tryz.isAgg9
  z9:=Tryz.sizeOf9
  v9:=Tryz.zeroValue9
  t46:=Tryz.underlying117
  a46:=Tryz.isAgg117
  z46:=Tryz.sizeOf117
  v46:=Tryz.zeroValue117
  t51:=Tryz.underlying54
  a51:=Tryz.isAgg54
  z51:=Tryz.sizeOf54
  v51:=Tryz.zeroValue54}
theorem Tryz.bits_LeadingZeros32 (x:Int) (w:World) (h0:0≤x) (h1:x≤4294967295):
    Calls Tryz.prog 139 #[.int .u32 x] w fun e w'=>e=.returned (.int .i64 (32-(Lib.bitLen x.toNat:Int)))∧w'=w:=Any.bits_LeadingZeros32 Tryz.lays133 x w h0 h1
def Tryz.lays134_ren:Go.Shelf.Ren:=⟨fun|134=>171|129=>185|n=>n,fun|53=>114|3=>3|4=>4|46=>117|5=>5|9=>9|n=>n,fun|n=>n⟩
theorem Tryz.lays134:Go.Proofs.Lays.n134 Tryz.prog Tryz.lays134_ren:={
  mixed:=by kernel_rfl
  f129:=Tryz.func185.trans (congrArg some (by kernel_rfl))
  f134:=Tryz.func171.trans (congrArg some (by kernel_rfl))
  t3:=Tryz.underlying3
  a3:=Tryz.isAgg3
  z3:=Tryz.sizeOf3
  v3:=Tryz.zeroValue3
  t4:=Tryz.underlying4
  a4:=Tryz.isAgg4
  z4:=Tryz.sizeOf4
  v4:=Tryz.zeroValue4
  t5:=Tryz.underlying5
  a5:=Tryz.isAgg5
  z5:=Tryz.sizeOf5
  v5:=Tryz.zeroValue5
  t9:=Tryz.underlying9
  a9:=Tryz.isAgg9
  z9:=Tryz.sizeOf9
  v9:=Tryz.zeroValue9
  t46:=Tryz.underlying117
  a46:=Tryz.isAgg117
  z46:=Tryz.sizeOf117
  v46:=Tryz.zeroValue117
  t53:=Tryz.underlying114
  a53:=Tryz.isAgg114
  z53:=Tryz.sizeOf114
  v53:=Tryz.zeroValue114}
theorem Tryz.bits_LeadingZeros64 (x:Int) (w:World) (h0:0≤x) (h1:x≤18446744073709551615):
    Calls Tryz.prog 171 #[.int .u64 x] w fun e w'=>e=.returned (.int .i64 (64-(Lib.bitLen x.toNat:Int)))∧w'=w:=Any.bits_LeadingZeros64 Tryz.lays134 x w h0 h1
def Tryz.lays129_ren:Go.Shelf.Ren:=⟨fun|129=>185|n=>n,fun|53=>114|3=>3|4=>4|46=>117|5=>5|9=>9|n=>n,fun|n=>n⟩
theorem Tryz.lays129:Go.Proofs.Lays.n129 Tryz.prog Tryz.lays129_ren:={
  mixed:=by kernel_rfl
  f129:=Tryz.func185.trans (congrArg some (by kernel_rfl))
  t3:=Tryz.underlying3
  a3:=Tryz.isAgg3
  z3:=Tryz.sizeOf3
  v3:=Tryz.zeroValue3
  t4:=Tryz.underlying4
  a4:=Tryz.isAgg4
  z4:=Tryz.sizeOf4
  v4:=Tryz.zeroValue4
  t5:=Tryz.underlying5
  a5:=Tryz.isAgg5
  z5:=Tryz.sizeOf5
  v5:=Tryz.zeroValue5
  t9:=Tryz.underlying9
  a9:=Tryz.isAgg9
  z9:=Tryz.sizeOf9
  v9:=Tryz.zeroValue9
  t46:=Tryz.underlying117
  a46:=Tryz.isAgg117
  z46:=Tryz.sizeOf117
  v46:=Tryz.zeroValue117
  t53:=Tryz.underlying114
  a53:=Tryz.isAgg114
  z53:=Tryz.sizeOf114
  v53:=Tryz.zeroValue114}
theorem Tryz.bits_Len64 (x:Int) (w:World) (h0:0≤x) (h1:x≤18446744073709551615):
    Calls Tryz.prog 185 #[.int .u64 x] w fun e w'=>e=.returned (.int .i64 (Lib.bitLen x.toNat))∧w'=w:=Any.bits_Len64 Tryz.lays129 x w h0 h1
def Tryz.lays264_ren:Go.Shelf.Ren:=⟨fun|264=>148|n=>n,fun|53=>114|46=>117|n=>n,fun|n=>n⟩
theorem Tryz.lays264:Go.Proofs.Lays.n264 Tryz.prog Tryz.lays264_ren:={
  mixed:=by kernel_rfl
  f264:=Tryz.func148.trans (congrArg some (by kernel_rfl))
  t46:=Tryz.underlying117
  a46:=Tryz.isAgg117
  z46:=Tryz.sizeOf117
  v46:=Tryz.zeroValue117
  t53:=Tryz.underlying114
  a53:=Tryz.isAgg114
  z53:=Tryz.sizeOf114
  v53:=Tryz.zeroValue114}
open Go.RowKit Go.Lib in
theorem Tryz.bits_Mul64 (x y:Nat) (hx:x<18446744073709551616) (hy:y<18446744073709551616) (w:World):
    Calls Tryz.prog 148 #[.int .u64 x,.int .u64 y] w fun e w'=>e=.returned (.tuple #[.int .u64 ((x*y/18446744073709551616:Nat):Int),.int .u64 ((x*y%18446744073709551616:Nat):Int)])∧w'=w:=Any.bits_Mul64 Tryz.lays264 x y hx hy w
end Go.Proofs
namespace Go.Proofs.YtaoioncjmfcolaaGreat
open Go.RowKit
theorem sub_bits (a b c d:Nat) (ha:a<4294967296) (hb:b<4294967296) (hc:c≤1) (hd:d<4294967296) (h:(d:Int)=((a:Int)-b-c)%4294967296):
    ((((4294967295^^^a)&&& b ||| (4294967295^^^(a^^^b))&&& d)/2147483648:Nat):Int)= -(((a:Int)-b-c)/4294967296):=by
 have e:((4294967295^^^a)&&& b ||| (4294967295^^^(a^^^b))&&& d)/2^31=(1^^^(a/2^31))&&& (b/2^31) ||| (1^^^((a/2^31)^^^(b/2^31)))&&& (d/2^31):=by
  rw[Nat.or_div_two_pow,Nat.and_div_two_pow,Nat.and_div_two_pow,Nat.xor_div_two_pow,Nat.xor_div_two_pow,Nat.xor_div_two_pow]
 rw[show(2147483648:Nat)=2^31 from rfl,e]
 have hA:a/2^31=0∨a/2^31=1:=by omega
 have hB:b/2^31=0∨b/2^31=1:=by omega
 have hD:d/2^31=0∨d/2^31=1:=by omega
 rcases hA with hA|hA<;>rcases hB with hB|hB<;>rcases hD with hD|hD<;>rw[hA,hB,hD]<;>simp<;>omega
theorem sub_bitsI (x y c:Int) (hx:U32 x) (hy:U32 y) (hc:0≤c∧c≤1):
    bits .or .u32 (bits .and .u32 (bits .xor .u32 IntKind.u32.max x) y) (bits .and .u32 (bits .xor .u32 IntKind.u32.max (bits .xor .u32 x y)) ((x-y-c)%4294967296))/2147483648= -((x-y-c)/4294967296):=by
 unfold U32 at hx hy
 obtain⟨a,rfl⟩:=Int.eq_ofNat_of_zero_le hx.1
 obtain⟨b,rfl⟩:=Int.eq_ofNat_of_zero_le hy.1
 obtain⟨c,rfl⟩:=Int.eq_ofNat_of_zero_le hc.1
 obtain⟨d,hd⟩:=Int.eq_ofNat_of_zero_le (Int.emod_nonneg ((a:Int)-b-c) (show(4294967296:Int)≠0 by decide))
 have hd1:=Int.emod_lt_of_pos ((a:Int)-b-c) (show(0:Int)<4294967296 by decide)
 rw[hd]at hd1 ⊢
 have xl:a^^^b<2^32:=Nat.xor_lt_two_pow (by omega) (by omega)
 have x1:4294967295^^^a<2^32:=Nat.xor_lt_two_pow (by decide) (by omega)
 have x2:4294967295^^^(a^^^b)<2^32:=Nat.xor_lt_two_pow (by decide) xl
 have a1:(4294967295^^^a)&&& b<2^32:=Nat.and_lt_two_pow _ (by omega)
 have a2:(4294967295^^^(a^^^b))&&& d<2^32:=Nat.and_lt_two_pow _ (by omega)
 rw[show IntKind.u32.max=((4294967295:Nat):Int)from rfl,u32_xor_nat _ a (by omega) (by omega),u32_xor_nat a b (by omega) (by omega),u32_and_nat _ _ (by omega) (by omega),
  u32_xor_nat _ _ (by decide) (by omega),u32_and_nat _ _ (by omega) (by omega),u32_or_nat _ _ (by omega) (by omega)]
 exact sub_bits a b c d (by omega) (by omega) (by omega) (by omega) hd.symm
theorem w_sub32 (x y c:Int) (w:World) (hx:U32 x) (hy:U32 y) (hc:0≤c∧c≤1):
    K_ 164 #[.int .u32 x,.int .u32 y,.int .u32 c] w fun e w'=>e=.returned (.tuple #[.int .u32 ((x-y-c)%4294967296),.int .u32 (-((x-y-c)/4294967296))])∧w'=w:=by
 rw[←sub_bitsI x y c hx hy hc]
 unfold U32 at hx hy
 go_enter Tryz.func164,Tryz.ntmps164
 go_wp2
 go_ret2
 exact⟨rfl,rfl⟩
theorem bitLen_spec:∀(k n:Nat),n<2^k→k≤64→n≠0→0<Lib.bitLen n∧n<2^Lib.bitLen n∧2^(Lib.bitLen n-1)≤n
 |0,n,h,_,h0=>absurd h (by omega)
 |k+1,n,h,hk,h0=>by
  have h64:n<2^64:=Nat.lt_of_lt_of_le h (Nat.pow_le_pow_right (by decide) hk)
  rw[Lib.bitLen_half n h0 h64]
  by_cases h2:n/2=0
  ·have:n=1:=by omega
   subst this
   decide
  ·obtain⟨a,b,c⟩:=bitLen_spec k (n/2) (by rw[Nat.pow_succ]at h;omega) (by omega) h2
   refine⟨by omega, ?_, ?_⟩
   ·rw[Nat.pow_add];omega
   ·rw[Nat.add_sub_cancel_left,show Lib.bitLen (n/2)=(Lib.bitLen (n/2)-1)+1 from by omega,Nat.pow_succ]
    omega
theorem w_lead (x:Int) (w:World) (hx:U32 x) (h0:x≠0):
    K_ 139 #[.int .u32 x] w fun e w'=>∃s:Nat,e=.returned (O s)∧s<32∧x*2^s<4294967296∧2147483648≤x*2^s∧w'=w:=by
 unfold U32 at hx
 refine(Tryz.bits_LeadingZeros32 x w hx.1 (by omega)).mono ?_
 rintro e w' ⟨rfl,rfl⟩
 obtain⟨n,rfl⟩:=Int.eq_ofNat_of_zero_le hx.1
 have b1:=Lib.bitLen_le n 32 (by omega) (by omega)
 obtain⟨b0,b2,b3⟩:=bitLen_spec 32 n (by omega) (by decide) (by omega)
 rw[Int.toNat_natCast]
 generalize Lib.bitLen n=L at*
 have e1:(2:Nat)^L*2^(32-L)=4294967296:=by rw[←Nat.pow_add,Nat.add_sub_cancel' b1]
 have e2:(2:Nat)^(L-1)*2^(32-L)=2147483648:=by rw[←Nat.pow_add,show L-1+(32-L)=31 from by omega]
 have e3:(n:Int)*2^(32-L)=((n*2^(32-L):Nat):Int):=by rw[Int.natCast_mul,Int.natCast_pow];rfl
 refine⟨32-L,by rw[Int.ofNat_sub b1];rfl,by omega, ?_, ?_,rfl⟩
 ·have:=Nat.mul_lt_mul_of_pos_right b2 (Nat.two_pow_pos (32-L))
  rw[e1]at this;rw[e3];exact Int.ofNat_lt.2 this
 ·have:=Nat.mul_le_mul_right (2^(32-L)) b3
  rw[e2]at this;rw[e3];exact Int.ofNat_le.2 this
end Go.Proofs.YtaoioncjmfcolaaGreat
