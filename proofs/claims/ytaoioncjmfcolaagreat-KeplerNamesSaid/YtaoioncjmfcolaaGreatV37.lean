/- kepler: vectors. -/
import Derived.Test.YtaoioncjmfcolaaGreatV36
set_option linter.unusedSimpArgs false
set_option linter.unusedVariables false
set_option maxRecDepth 100000
set_option maxHeartbeats 4000000
namespace Go.Proofs.YtaoioncjmfcolaaGreat
open Go.RowKit
theorem T_KV_1 {p:Prop} (h:p:=by
 rw[←hU]
 refine⟨fun o ho=> ?_,fun o=>by simp[go_sem, ↓IntWalk.iteOmega],by simp⟩
 have:o=0∨o=1∨o=2∨o=3∨o=4∨o=5:=by omega
 rcases this with rfl|rfl|rfl|rfl|rfl|rfl<;>simp[go_sem, ↓IntWalk.iteOmega]):p:=h
def Bv (w:World) (g:Nat) (f:Nat→Int):Prop:=(∀o,o<6→w.cell? ⟨g,o,none⟩=some (O (f o)))∧(∀o,w.frozen? ⟨g,o,none⟩=false)∧g<w.heap.size
theorem Bv.ext {a w:World} {g:Nat} {f:Nat→Int} (h:Bv a g f) (k:Ext a w):Bv w g f:=
 ⟨fun o ho=>(k.cells.1 g o h.2.2).trans (h.1 o ho),fun o=>(k.cells.2 g o h.2.2).trans (h.2.1 o),Nat.lt_of_lt_of_le h.2.2 k.size⟩
theorem Bv.grown {a w:World} {g T:Nat} {f:Nat→Int} (h:Bv a g f) (k:GB T a w) (hne:g≠T):Bv w g f:=
 ⟨fun o ho=>(k.cell h.2.2 hne).trans (h.1 o ho),fun o=>(k.frozen h.2.2 hne).trans (h.2.1 o),Nat.lt_of_lt_of_le h.2.2 k.size⟩
theorem Bv.set {w:World} {g:Nat} {f:Nat→Int} (h:Bv w g f) (j:Nat) (x:Int):Bv (w.setCell ⟨g,j,none⟩ (O x)) g (fun o=>if o=j then x else f o):=by
 refine⟨fun o ho=> ?_,fun o=>by rw[World.frozen?_setCell];exact h.2.1 o,by simpa using h.2.2⟩
 rw[cell_sc]
 by_cases e:o=j
 ·subst e
  rw[if_pos rfl,h.1 o ho]
  simp
 ·rw[if_neg (fun hh=>e (by have:=congrArg Addr.off hh;simpa using this)),h.1 o ho]
  simp[e]
def pf (a b c:Int) (o:Nat):Int:=if o<2 then a else if o<4 then b else c
theorem Bv.congr {w:World} {g:Nat} {f f':Nat→Int} (h:Bv w g f) (e:∀o,o<6→f o=f' o):Bv w g f':=⟨fun o ho=>by rw[h.1 o ho,e o ho],h.2⟩
theorem Bv.set6 {w:World} {g:Nat} {f:Nat→Int} (h:Bv w g f) (a b c:Int):Bv ((((((w.setCell ⟨g,0,none⟩ (O a)).setCell ⟨g,1,none⟩ (O a)).setCell ⟨g,2,none⟩ (O b)).setCell ⟨g,3,none⟩ (O b)).setCell ⟨g,4,none⟩ (O c)).setCell ⟨g,5,none⟩ (O c)) g (pf a b c):=by
 refine Bv.congr ((((((h.set 0 a).set 1 a).set 2 b).set 3 b).set 4 c).set 5 c) ?_
 intro o ho
 have hoo:o=0∨o=1∨o=2∨o=3∨o=4∨o=5:=by omega
 rcases hoo with rfl|rfl|rfl|rfl|rfl|rfl<;>rfl
theorem k_vectors (t p1 p2 p3 v1 v2 v3:Int) (w:World):
    K_ 112 #[.agg #[O t,O p1,O p2,O p3,O v1,O v2,O v3]] w fun e w'=>e=.returned (.tuple #[.agg #[O p1,O p1,O p2,O p2,O p3,O p3],.agg #[O v1,O v1,O v2,O v2,O v3,O v3]])∧Ext w w':=by
 have l0:IntKind.i64.wrap 0=0:=rfl
 have l1:IntKind.i64.wrap 1=1:=rfl
 have l2:IntKind.i64.wrap 2=2:=rfl
 have l3:IntKind.i64.wrap 3=3:=rfl
 go_enter Tryz.func112,Tryz.ntmps112
 go_wp2_with fail
 obtain⟨U0,hU⟩:∃U0,((w.alloc (.cells #[O t,O p1,O p2,O p3,O v1,O v2,O v3] 52)).alloc (.cells #[O 0,O 0,O 0,O 0,O 0,O 0] 32)).alloc (.cells #[O 0,O 0,O 0,O 0,O 0,O 0] 32)=U0:=⟨_,rfl⟩
 have hE:Ext w U0:=by rw[←hU];exact(((Ext.refl w).alloc _).alloc _).alloc _
 have hl0:w.heap.size<U0.heap.size:=by rw[←hU];simp;omega
 have c1:U0.cell? ⟨w.heap.size,1,none⟩=some (O p1):=by rw[←hU];simp[go_sem, ↓IntWalk.iteOmega]
 have c2:U0.cell? ⟨w.heap.size,2,none⟩=some (O p2):=by rw[←hU];simp[go_sem, ↓IntWalk.iteOmega]
 have c3:U0.cell? ⟨w.heap.size,3,none⟩=some (O p3):=by rw[←hU];simp[go_sem, ↓IntWalk.iteOmega]
 have c4:U0.cell? ⟨w.heap.size,4,none⟩=some (O v1):=by rw[←hU];simp[go_sem, ↓IntWalk.iteOmega]
 have c5:U0.cell? ⟨w.heap.size,5,none⟩=some (O v2):=by rw[←hU];simp[go_sem, ↓IntWalk.iteOmega]
 have c6:U0.cell? ⟨w.heap.size,6,none⟩=some (O v3):=by rw[←hU];simp[go_sem, ↓IntWalk.iteOmega]
 have hT0:Bv U0 (w.heap.size+1) (fun _=>0):=by
  exact T_KV_1
 have hT1:Bv U0 (w.heap.size+1+1) (fun _=>0):=by
  exact T_KV_1
 rw[hU]
 clear hU
 refine wp_loop_rounds 4 ?_
 rw[rounds_succ]
 go_upto_region 4 with fail
 refine wp_region_held_drew (S:=(fun w0=>GB (w.heap.size+1) U0 w0)) c_3 ?_ (fun hH=> ?_)
 ·exact(GB.refl _ _).drew
 try simp only[sx_]
 refine sK 0 ?_
 refine sK 1 ?_
 refine sK 2 ?_
 refine sK 3 ?_
 refine tk 4 rfl (by intro w0 hSw;have q0:=(GB.cell (o:=1) hSw hl0 (by omega)).trans c1;go_simp;try with_reducible rfl) ?_
 try simp only[sx_]
 refine sK 5 ?_
 refine sK 6 ?_
 refine sK 7 ?_
 refine tk 8 rfl (by intro w0 hSw;have q0:=(GB.cell (o:=1) hSw hl0 (by omega)).trans c1;go_simp;try with_reducible rfl) ?_
 try simp only[sx_]
 refine sK 9 ?_
 refine sK 10 ?_
 refine rh1 11 rfl fun K hK=> ?_
 have h3f:=hT0.2.1
 have h3a:=hT0.1 0 (by decide)
 have h3b:=hT0.1 1 (by decide)
 go_simp
 refine hK.out _ _ ?_ fun _=> ?_
 ·exact b_13
 clear hK K hH
 rename_i hH
 try simp only[sx_]
 refine wpAnyH_done c_3 ?_ _
 have hn0:=(hT0.ext ((Ext.refl U0).drew)).set 0 p1
 have hm0:=hn0.set 1 p1
 obtain⟨U1,hU⟩:∃X,((U0.setCell ⟨w.heap.size+1,0,none⟩ (O p1)).setCell ⟨w.heap.size+1,1,none⟩ (O p1)).drew=X:=⟨_,rfl⟩
 have hGn:GB (w.heap.size+1) U0 U1:=by rw[←hU];exact(((GB.refl _ _).set _).set _).drew
 have hU':((U0.drew.setCell ⟨w.heap.size+1,0,none⟩ (O p1)).setCell ⟨w.heap.size+1,1,none⟩ (O p1))=U1:=hU
 rw[hU']at hm0
 have hT0n:=hm0
 clear hU'
 have hT1n:=hT1.grown hGn (by omega)
 have c1n:=(hGn.cell (o:=1) hl0 (by omega)).trans c1
 have c2n:=(hGn.cell (o:=2) hl0 (by omega)).trans c2
 have c3n:=(hGn.cell (o:=3) hl0 (by omega)).trans c3
 have c4n:=(hGn.cell (o:=4) hl0 (by omega)).trans c4
 have c5n:=(hGn.cell (o:=5) hl0 (by omega)).trans c5
 have c6n:=(hGn.cell (o:=6) hl0 (by omega)).trans c6
 have hl0n:w.heap.size<U1.heap.size:=Nat.lt_of_lt_of_le hl0 hGn.size
 have hEn:Ext w U1:=GB.pre hE hGn (by omega)
 rw[hU]
 clear hU hGn hH hn0 hm0 hT0 hT1 c1 c2 c3 c4 c5 c6 hl0 hE
 have hT0:=hT0n
 have hT1:=hT1n
 have hl0:=hl0n
 have hE:=hEn
 have c1:=c1n
 have c2:=c2n
 have c3:=c3n
 have c4:=c4n
 have c5:=c5n
 have c6:=c6n
 clear hT0n hT1n hl0n hEn c1n c2n c3n c4n c5n c6n
 go_upto_region 5 with fail
 refine wp_region_held_drew (S:=(fun w0=>GB (w.heap.size+1+1) U1 w0)) c_3 ?_ (fun hH=> ?_)
 ·exact(GB.refl _ _).drew
 try simp only[sx_]
 refine sK 0 ?_
 refine sK 1 ?_
 refine sK 2 ?_
 refine sK 3 ?_
 refine tk 4 rfl (by intro w0 hSw;have q0:=(GB.cell (o:=4) hSw hl0 (by omega)).trans c4;go_simp;try with_reducible rfl) ?_
 try simp only[sx_]
 refine sK 5 ?_
 refine sK 6 ?_
 refine sK 7 ?_
 refine tk 8 rfl (by intro w0 hSw;have q0:=(GB.cell (o:=4) hSw hl0 (by omega)).trans c4;go_simp;try with_reducible rfl) ?_
 try simp only[sx_]
 refine sK 9 ?_
 refine sK 10 ?_
 refine rh1 11 rfl fun K hK=> ?_
 have h3f:=hT1.2.1
 have h3a:=hT1.1 0 (by decide)
 have h3b:=hT1.1 1 (by decide)
 go_simp
 refine hK.out _ _ ?_ fun _=> ?_
 ·exact b_13
 clear hK K hH
 rename_i hH
 try simp only[sx_]
 refine wpAnyH_done c_3 ?_ _
 have hn1:=(hT1.ext ((Ext.refl U1).drew)).set 0 v1
 have hm1:=hn1.set 1 v1
 obtain⟨U2,hU⟩:∃X,((U1.setCell ⟨w.heap.size+1+1,0,none⟩ (O v1)).setCell ⟨w.heap.size+1+1,1,none⟩ (O v1)).drew=X:=⟨_,rfl⟩
 have hGn:GB (w.heap.size+1+1) U1 U2:=by rw[←hU];exact(((GB.refl _ _).set _).set _).drew
 have hU':((U1.drew.setCell ⟨w.heap.size+1+1,0,none⟩ (O v1)).setCell ⟨w.heap.size+1+1,1,none⟩ (O v1))=U2:=hU
 rw[hU']at hm1
 have hT1n:=hm1
 clear hU'
 have hT0n:=hT0.grown hGn (by omega)
 have c1n:=(hGn.cell (o:=1) hl0 (by omega)).trans c1
 have c2n:=(hGn.cell (o:=2) hl0 (by omega)).trans c2
 have c3n:=(hGn.cell (o:=3) hl0 (by omega)).trans c3
 have c4n:=(hGn.cell (o:=4) hl0 (by omega)).trans c4
 have c5n:=(hGn.cell (o:=5) hl0 (by omega)).trans c5
 have c6n:=(hGn.cell (o:=6) hl0 (by omega)).trans c6
 have hl0n:w.heap.size<U2.heap.size:=Nat.lt_of_lt_of_le hl0 hGn.size
 have hEn:Ext w U2:=GB.pre hE hGn (by omega)
 rw[hU]
 clear hU hGn hH hn1 hm1 hT0 hT1 c1 c2 c3 c4 c5 c6 hl0 hE
 have hT0:=hT0n
 have hT1:=hT1n
 have hl0:=hl0n
 have hE:=hEn
 have c1:=c1n
 have c2:=c2n
 have c3:=c3n
 have c4:=c4n
 have c5:=c5n
 have c6:=c6n
 clear hT0n hT1n hl0n hEn c1n c2n c3n c4n c5n c6n
 go_wp2_with fail
 rw[rounds_succ]
 go_upto_region 4 with fail
 refine wp_region_held_drew (S:=(fun w0=>GB (w.heap.size+1) U2 w0)) c_3 ?_ (fun hH=> ?_)
 ·exact(GB.refl _ _).drew
 try simp only[sx_]
 refine sK 0 ?_
 refine sK 1 ?_
 refine sK 2 ?_
 refine sK 3 ?_
 refine tk 4 rfl (by intro w0 hSw;have q0:=(GB.cell (o:=2) hSw hl0 (by omega)).trans c2;go_simp;try with_reducible rfl) ?_
 try simp only[sx_]
 refine sK 5 ?_
 refine sK 6 ?_
 refine sK 7 ?_
 refine tk 8 rfl (by intro w0 hSw;have q0:=(GB.cell (o:=2) hSw hl0 (by omega)).trans c2;go_simp;try with_reducible rfl) ?_
 try simp only[sx_]
 refine sK 9 ?_
 refine sK 10 ?_
 refine rh1 11 rfl fun K hK=> ?_
 have h3f:=hT0.2.1
 have h3a:=hT0.1 2 (by decide)
 have h3b:=hT0.1 3 (by decide)
 go_simp
 refine hK.out _ _ ?_ fun _=> ?_
 ·exact b_13
 clear hK K hH
 rename_i hH
 try simp only[sx_]
 refine wpAnyH_done c_3 ?_ _
 have hn0:=(hT0.ext ((Ext.refl U2).drew)).set 2 p2
 have hm0:=hn0.set 3 p2
 obtain⟨U3,hU⟩:∃X,((U2.setCell ⟨w.heap.size+1,2,none⟩ (O p2)).setCell ⟨w.heap.size+1,3,none⟩ (O p2)).drew=X:=⟨_,rfl⟩
 have hGn:GB (w.heap.size+1) U2 U3:=by rw[←hU];exact(((GB.refl _ _).set _).set _).drew
 have hU':((U2.drew.setCell ⟨w.heap.size+1,2,none⟩ (O p2)).setCell ⟨w.heap.size+1,3,none⟩ (O p2))=U3:=hU
 rw[hU']at hm0
 have hT0n:=hm0
 clear hU'
 have hT1n:=hT1.grown hGn (by omega)
 have c1n:=(hGn.cell (o:=1) hl0 (by omega)).trans c1
 have c2n:=(hGn.cell (o:=2) hl0 (by omega)).trans c2
 have c3n:=(hGn.cell (o:=3) hl0 (by omega)).trans c3
 have c4n:=(hGn.cell (o:=4) hl0 (by omega)).trans c4
 have c5n:=(hGn.cell (o:=5) hl0 (by omega)).trans c5
 have c6n:=(hGn.cell (o:=6) hl0 (by omega)).trans c6
 have hl0n:w.heap.size<U3.heap.size:=Nat.lt_of_lt_of_le hl0 hGn.size
 have hEn:Ext w U3:=GB.pre hE hGn (by omega)
 rw[hU]
 clear hU hGn hH hn0 hm0 hT0 hT1 c1 c2 c3 c4 c5 c6 hl0 hE
 have hT0:=hT0n
 have hT1:=hT1n
 have hl0:=hl0n
 have hE:=hEn
 have c1:=c1n
 have c2:=c2n
 have c3:=c3n
 have c4:=c4n
 have c5:=c5n
 have c6:=c6n
 clear hT0n hT1n hl0n hEn c1n c2n c3n c4n c5n c6n
 go_upto_region 5 with fail
 refine wp_region_held_drew (S:=(fun w0=>GB (w.heap.size+1+1) U3 w0)) c_3 ?_ (fun hH=> ?_)
 ·exact(GB.refl _ _).drew
 try simp only[sx_]
 refine sK 0 ?_
 refine sK 1 ?_
 refine sK 2 ?_
 refine sK 3 ?_
 refine tk 4 rfl (by intro w0 hSw;have q0:=(GB.cell (o:=5) hSw hl0 (by omega)).trans c5;go_simp;try with_reducible rfl) ?_
 try simp only[sx_]
 refine sK 5 ?_
 refine sK 6 ?_
 refine sK 7 ?_
 refine tk 8 rfl (by intro w0 hSw;have q0:=(GB.cell (o:=5) hSw hl0 (by omega)).trans c5;go_simp;try with_reducible rfl) ?_
 try simp only[sx_]
 refine sK 9 ?_
 refine sK 10 ?_
 refine rh1 11 rfl fun K hK=> ?_
 have h3f:=hT1.2.1
 have h3a:=hT1.1 2 (by decide)
 have h3b:=hT1.1 3 (by decide)
 go_simp
 refine hK.out _ _ ?_ fun _=> ?_
 ·exact b_13
 clear hK K hH
 rename_i hH
 try simp only[sx_]
 refine wpAnyH_done c_3 ?_ _
 have hn1:=(hT1.ext ((Ext.refl U3).drew)).set 2 v2
 have hm1:=hn1.set 3 v2
 obtain⟨U4,hU⟩:∃X,((U3.setCell ⟨w.heap.size+1+1,2,none⟩ (O v2)).setCell ⟨w.heap.size+1+1,3,none⟩ (O v2)).drew=X:=⟨_,rfl⟩
 have hGn:GB (w.heap.size+1+1) U3 U4:=by rw[←hU];exact(((GB.refl _ _).set _).set _).drew
 have hU':((U3.drew.setCell ⟨w.heap.size+1+1,2,none⟩ (O v2)).setCell ⟨w.heap.size+1+1,3,none⟩ (O v2))=U4:=hU
 rw[hU']at hm1
 have hT1n:=hm1
 clear hU'
 have hT0n:=hT0.grown hGn (by omega)
 have c1n:=(hGn.cell (o:=1) hl0 (by omega)).trans c1
 have c2n:=(hGn.cell (o:=2) hl0 (by omega)).trans c2
 have c3n:=(hGn.cell (o:=3) hl0 (by omega)).trans c3
 have c4n:=(hGn.cell (o:=4) hl0 (by omega)).trans c4
 have c5n:=(hGn.cell (o:=5) hl0 (by omega)).trans c5
 have c6n:=(hGn.cell (o:=6) hl0 (by omega)).trans c6
 have hl0n:w.heap.size<U4.heap.size:=Nat.lt_of_lt_of_le hl0 hGn.size
 have hEn:Ext w U4:=GB.pre hE hGn (by omega)
 rw[hU]
 clear hU hGn hH hn1 hm1 hT0 hT1 c1 c2 c3 c4 c5 c6 hl0 hE
 have hT0:=hT0n
 have hT1:=hT1n
 have hl0:=hl0n
 have hE:=hEn
 have c1:=c1n
 have c2:=c2n
 have c3:=c3n
 have c4:=c4n
 have c5:=c5n
 have c6:=c6n
 clear hT0n hT1n hl0n hEn c1n c2n c3n c4n c5n c6n
 go_wp2_with fail
 rw[rounds_succ]
 go_upto_region 4 with fail
 refine wp_region_held_drew (S:=(fun w0=>GB (w.heap.size+1) U4 w0)) c_3 ?_ (fun hH=> ?_)
 ·exact(GB.refl _ _).drew
 try simp only[sx_]
 refine sK 0 ?_
 refine sK 1 ?_
 refine sK 2 ?_
 refine sK 3 ?_
 refine tk 4 rfl (by intro w0 hSw;have q0:=(GB.cell (o:=3) hSw hl0 (by omega)).trans c3;go_simp;try with_reducible rfl) ?_
 try simp only[sx_]
 refine sK 5 ?_
 refine sK 6 ?_
 refine sK 7 ?_
 refine tk 8 rfl (by intro w0 hSw;have q0:=(GB.cell (o:=3) hSw hl0 (by omega)).trans c3;go_simp;try with_reducible rfl) ?_
 try simp only[sx_]
 refine sK 9 ?_
 refine sK 10 ?_
 refine rh1 11 rfl fun K hK=> ?_
 have h3f:=hT0.2.1
 have h3a:=hT0.1 4 (by decide)
 have h3b:=hT0.1 5 (by decide)
 go_simp
 refine hK.out _ _ ?_ fun _=> ?_
 ·exact b_13
 clear hK K hH
 rename_i hH
 try simp only[sx_]
 refine wpAnyH_done c_3 ?_ _
 have hn0:=(hT0.ext ((Ext.refl U4).drew)).set 4 p3
 have hm0:=hn0.set 5 p3
 obtain⟨U5,hU⟩:∃X,((U4.setCell ⟨w.heap.size+1,4,none⟩ (O p3)).setCell ⟨w.heap.size+1,5,none⟩ (O p3)).drew=X:=⟨_,rfl⟩
 have hGn:GB (w.heap.size+1) U4 U5:=by rw[←hU];exact(((GB.refl _ _).set _).set _).drew
 have hU':((U4.drew.setCell ⟨w.heap.size+1,4,none⟩ (O p3)).setCell ⟨w.heap.size+1,5,none⟩ (O p3))=U5:=hU
 rw[hU']at hm0
 have hT0n:=hm0
 clear hU'
 have hT1n:=hT1.grown hGn (by omega)
 have c1n:=(hGn.cell (o:=1) hl0 (by omega)).trans c1
 have c2n:=(hGn.cell (o:=2) hl0 (by omega)).trans c2
 have c3n:=(hGn.cell (o:=3) hl0 (by omega)).trans c3
 have c4n:=(hGn.cell (o:=4) hl0 (by omega)).trans c4
 have c5n:=(hGn.cell (o:=5) hl0 (by omega)).trans c5
 have c6n:=(hGn.cell (o:=6) hl0 (by omega)).trans c6
 have hl0n:w.heap.size<U5.heap.size:=Nat.lt_of_lt_of_le hl0 hGn.size
 have hEn:Ext w U5:=GB.pre hE hGn (by omega)
 rw[hU]
 clear hU hGn hH hn0 hm0 hT0 hT1 c1 c2 c3 c4 c5 c6 hl0 hE
 have hT0:=hT0n
 have hT1:=hT1n
 have hl0:=hl0n
 have hE:=hEn
 have c1:=c1n
 have c2:=c2n
 have c3:=c3n
 have c4:=c4n
 have c5:=c5n
 have c6:=c6n
 clear hT0n hT1n hl0n hEn c1n c2n c3n c4n c5n c6n
 go_upto_region 5 with fail
 refine wp_region_held_drew (S:=(fun w0=>GB (w.heap.size+1+1) U5 w0)) c_3 ?_ (fun hH=> ?_)
 ·exact(GB.refl _ _).drew
 try simp only[sx_]
 refine sK 0 ?_
 refine sK 1 ?_
 refine sK 2 ?_
 refine sK 3 ?_
 refine tk 4 rfl (by intro w0 hSw;have q0:=(GB.cell (o:=6) hSw hl0 (by omega)).trans c6;go_simp;try with_reducible rfl) ?_
 try simp only[sx_]
 refine sK 5 ?_
 refine sK 6 ?_
 refine sK 7 ?_
 refine tk 8 rfl (by intro w0 hSw;have q0:=(GB.cell (o:=6) hSw hl0 (by omega)).trans c6;go_simp;try with_reducible rfl) ?_
 try simp only[sx_]
 refine sK 9 ?_
 refine sK 10 ?_
 refine rh1 11 rfl fun K hK=> ?_
 have h3f:=hT1.2.1
 have h3a:=hT1.1 4 (by decide)
 have h3b:=hT1.1 5 (by decide)
 go_simp
 refine hK.out _ _ ?_ fun _=> ?_
 ·exact b_13
 clear hK K hH
 rename_i hH
 try simp only[sx_]
 refine wpAnyH_done c_3 ?_ _
 have hn1:=(hT1.ext ((Ext.refl U5).drew)).set 4 v3
 have hm1:=hn1.set 5 v3
 obtain⟨U6,hU⟩:∃X,((U5.setCell ⟨w.heap.size+1+1,4,none⟩ (O v3)).setCell ⟨w.heap.size+1+1,5,none⟩ (O v3)).drew=X:=⟨_,rfl⟩
 have hGn:GB (w.heap.size+1+1) U5 U6:=by rw[←hU];exact(((GB.refl _ _).set _).set _).drew
 have hU':((U5.drew.setCell ⟨w.heap.size+1+1,4,none⟩ (O v3)).setCell ⟨w.heap.size+1+1,5,none⟩ (O v3))=U6:=hU
 rw[hU']at hm1
 have hT1n:=hm1
 clear hU'
 have hT0n:=hT0.grown hGn (by omega)
 have c1n:=(hGn.cell (o:=1) hl0 (by omega)).trans c1
 have c2n:=(hGn.cell (o:=2) hl0 (by omega)).trans c2
 have c3n:=(hGn.cell (o:=3) hl0 (by omega)).trans c3
 have c4n:=(hGn.cell (o:=4) hl0 (by omega)).trans c4
 have c5n:=(hGn.cell (o:=5) hl0 (by omega)).trans c5
 have c6n:=(hGn.cell (o:=6) hl0 (by omega)).trans c6
 have hl0n:w.heap.size<U6.heap.size:=Nat.lt_of_lt_of_le hl0 hGn.size
 have hEn:Ext w U6:=GB.pre hE hGn (by omega)
 rw[hU]
 clear hU hGn hH hn1 hm1 hT0 hT1 c1 c2 c3 c4 c5 c6 hl0 hE
 have hT0:=hT0n
 have hT1:=hT1n
 have hl0:=hl0n
 have hE:=hEn
 have c1:=c1n
 have c2:=c2n
 have c3:=c3n
 have c4:=c4n
 have c5:=c5n
 have c6:=c6n
 clear hT0n hT1n hl0n hEn c1n c2n c3n c4n c5n c6n
 go_wp2_with fail
 rw[rounds_succ]
 go_upto_region 7 with fail
 have hP:Bv U6 (w.heap.size+1) (pf p1 p2 p3):=hT0.congr (by
  intro o ho
  have hoo:o=0∨o=1∨o=2∨o=3∨o=4∨o=5:=by omega
  rcases hoo with rfl|rfl|rfl|rfl|rfl|rfl<;>rfl)
 have hV:Bv U6 (w.heap.size+1+1) (pf v1 v2 v3):=hT1.congr (by
  intro o ho
  have hoo:o=0∨o=1∨o=2∨o=3∨o=4∨o=5:=by omega
  rcases hoo with rfl|rfl|rfl|rfl|rfl|rfl<;>rfl)
 clear hT0 hT1 c1 c2 c3 c4 c5 c6
 refine wp_region_held_drew (S:=(fun w0=>Bv w0 (w.heap.size+1) (pf p1 p2 p3)∧Bv w0 (w.heap.size+1+1) (pf v1 v2 v3)∧Ext w w0)) c_3 ?_ (fun hH=> ?_)
 ·exact⟨hP.ext ((Ext.refl _).drew),hV.ext ((Ext.refl _).drew),hE.drew⟩
 try simp only[sx_]
 refine wpAnyH_name fun Y0 hY=> ?_
 rw[hY]at hH
 clear hY
 refine tk 0 rfl (by intro w0 hSw;have qa0:_=some (Value.int .i64 p1):=hSw.1.1 0 (by decide);have qa1:_=some (Value.int .i64 p1):=hSw.1.1 1 (by decide);have qa2:_=some (Value.int .i64 p2):=hSw.1.1 2 (by decide);have qa3:_=some (Value.int .i64 p2):=hSw.1.1 3 (by decide);have qa4:_=some (Value.int .i64 p3):=hSw.1.1 4 (by decide);have qa5:_=some (Value.int .i64 p3):=hSw.1.1 5 (by decide);have qb0:_=some (Value.int .i64 v1):=hSw.2.1.1 0 (by decide);have qb1:_=some (Value.int .i64 v1):=hSw.2.1.1 1 (by decide);have qb2:_=some (Value.int .i64 v2):=hSw.2.1.1 2 (by decide);have qb3:_=some (Value.int .i64 v2):=hSw.2.1.1 3 (by decide);have qb4:_=some (Value.int .i64 v3):=hSw.2.1.1 4 (by decide);have qb5:_=some (Value.int .i64 v3):=hSw.2.1.1 5 (by decide);go_simp;try with_reducible rfl) ?_
 try simp only[sx_]
 refine tk 1 rfl (by intro w0 hSw;have qa0:_=some (Value.int .i64 p1):=hSw.1.1 0 (by decide);have qa1:_=some (Value.int .i64 p1):=hSw.1.1 1 (by decide);have qa2:_=some (Value.int .i64 p2):=hSw.1.1 2 (by decide);have qa3:_=some (Value.int .i64 p2):=hSw.1.1 3 (by decide);have qa4:_=some (Value.int .i64 p3):=hSw.1.1 4 (by decide);have qa5:_=some (Value.int .i64 p3):=hSw.1.1 5 (by decide);have qb0:_=some (Value.int .i64 v1):=hSw.2.1.1 0 (by decide);have qb1:_=some (Value.int .i64 v1):=hSw.2.1.1 1 (by decide);have qb2:_=some (Value.int .i64 v2):=hSw.2.1.1 2 (by decide);have qb3:_=some (Value.int .i64 v2):=hSw.2.1.1 3 (by decide);have qb4:_=some (Value.int .i64 v3):=hSw.2.1.1 4 (by decide);have qb5:_=some (Value.int .i64 v3):=hSw.2.1.1 5 (by decide);go_simp;try with_reducible rfl) ?_
 try simp only[sx_]
 refine rh1 2 rfl fun K hK=> ?_
 obtain⟨hA,hB,hX⟩:=id hH
 have h3f:=hA.2.1
 have h30:_=some (Value.int .i64 p1):=hA.1 0 (by decide)
 have h31:_=some (Value.int .i64 p1):=hA.1 1 (by decide)
 have h32:_=some (Value.int .i64 p2):=hA.1 2 (by decide)
 have h33:_=some (Value.int .i64 p2):=hA.1 3 (by decide)
 have h34:_=some (Value.int .i64 p3):=hA.1 4 (by decide)
 have h35:_=some (Value.int .i64 p3):=hA.1 5 (by decide)
 have hcg:=hA.set6 p1 p2 p3
 have hog:=hB.grown ((((((((GB.refl _ _).set (j:=0) (O p1)).set (j:=1) (O p1)).set (j:=2) (O p2)).set (j:=3) (O p2)).set (j:=4) (O p3)).set (j:=5) (O p3)):GB (w.heap.size+1) _ _) (by omega)
 go_simp
 refine hK.out _ _ ?_ fun _=> ?_
 ·(try dsimp only);exact⟨hcg,hog,(Ext.setCell (p:=⟨w.heap.size+1,5,none⟩) (Ext.setCell (p:=⟨w.heap.size+1,4,none⟩) (Ext.setCell (p:=⟨w.heap.size+1,3,none⟩) (Ext.setCell (p:=⟨w.heap.size+1,2,none⟩) (Ext.setCell (p:=⟨w.heap.size+1,1,none⟩) (Ext.setCell (p:=⟨w.heap.size+1,0,none⟩) hX c_44 (O p1)) c_44 (O p1)) c_44 (O p2)) c_44 (O p2)) c_44 (O p3)) c_44 (O p3))⟩
 clear hK K hH
 rename_i hH
 try simp only[sx_]
 refine wpAnyH_name fun Y1 hY=> ?_
 rw[hY]at hH
 clear hY
 refine rh1 3 rfl fun K hK=> ?_
 obtain⟨hA,hB,hX⟩:=id hH
 have h3f:=hB.2.1
 have h30:_=some (Value.int .i64 v1):=hB.1 0 (by decide)
 have h31:_=some (Value.int .i64 v1):=hB.1 1 (by decide)
 have h32:_=some (Value.int .i64 v2):=hB.1 2 (by decide)
 have h33:_=some (Value.int .i64 v2):=hB.1 3 (by decide)
 have h34:_=some (Value.int .i64 v3):=hB.1 4 (by decide)
 have h35:_=some (Value.int .i64 v3):=hB.1 5 (by decide)
 have hcg:=hB.set6 v1 v2 v3
 have hog:=hA.grown ((((((((GB.refl _ _).set (j:=0) (O v1)).set (j:=1) (O v1)).set (j:=2) (O v2)).set (j:=3) (O v2)).set (j:=4) (O v3)).set (j:=5) (O v3)):GB (w.heap.size+1+1) _ _) (by omega)
 go_simp
 refine hK.out _ _ ?_ fun _=> ?_
 ·(try dsimp only);exact⟨hog,hcg,(Ext.setCell (p:=⟨w.heap.size+1+1,5,none⟩) (Ext.setCell (p:=⟨w.heap.size+1+1,4,none⟩) (Ext.setCell (p:=⟨w.heap.size+1+1,3,none⟩) (Ext.setCell (p:=⟨w.heap.size+1+1,2,none⟩) (Ext.setCell (p:=⟨w.heap.size+1+1,1,none⟩) (Ext.setCell (p:=⟨w.heap.size+1+1,0,none⟩) hX c_44 (O v1)) c_44 (O v1)) c_44 (O v2)) c_44 (O v2)) c_44 (O v3)) c_44 (O v3))⟩
 clear hK K hH
 rename_i hH
 try simp only[sx_]
 refine wpAnyH_name fun Y2 hY=> ?_
 rw[hY]at hH
 clear hY
 refine wpAnyH_done c_3 ?_ _
 obtain⟨hA,hB,hX⟩:=hH
 have ra0:_=some (Value.int .i64 p1):=hA.1 0 (by decide)
 have ra1:_=some (Value.int .i64 p1):=hA.1 1 (by decide)
 have ra2:_=some (Value.int .i64 p2):=hA.1 2 (by decide)
 have ra3:_=some (Value.int .i64 p2):=hA.1 3 (by decide)
 have ra4:_=some (Value.int .i64 p3):=hA.1 4 (by decide)
 have ra5:_=some (Value.int .i64 p3):=hA.1 5 (by decide)
 have rb0:_=some (Value.int .i64 v1):=hB.1 0 (by decide)
 have rb1:_=some (Value.int .i64 v1):=hB.1 1 (by decide)
 have rb2:_=some (Value.int .i64 v2):=hB.1 2 (by decide)
 have rb3:_=some (Value.int .i64 v2):=hB.1 3 (by decide)
 have rb4:_=some (Value.int .i64 v3):=hB.1 4 (by decide)
 have rb5:_=some (Value.int .i64 v3):=hB.1 5 (by decide)
 
 go_wp2_with fail
 refine bodyPost_ret (v:=.tuple #[.agg #[O p1,O p1,O p2,O p2,O p3,O p3],.agg #[O v1,O v1,O v2,O v2,O v3,O v3]]) ?_ rfl ⟨rfl,hX⟩
 simp[results,Tryz.results112,go_sem, ↓IntWalk.iteOmega, *]
def Bn (n:Nat) (w:World) (g:Nat) (f:Nat→Int):Prop:=(∀o,o<n→w.cell? ⟨g,o,none⟩=some (O (f o)))∧(∀o,w.frozen? ⟨g,o,none⟩=false)∧g<w.heap.size
theorem Bn.ext {n:Nat} {a w:World} {g:Nat} {f:Nat→Int} (h:Bn n a g f) (k:Ext a w):Bn n w g f:=
 ⟨fun o ho=>(k.cells.1 g o h.2.2).trans (h.1 o ho),fun o=>(k.cells.2 g o h.2.2).trans (h.2.1 o),Nat.lt_of_lt_of_le h.2.2 k.size⟩
theorem Bn.grown {n:Nat} {a w:World} {g T:Nat} {f:Nat→Int} (h:Bn n a g f) (k:GB T a w) (hne:g≠T):Bn n w g f:=
 ⟨fun o ho=>(k.cell h.2.2 hne).trans (h.1 o ho),fun o=>(k.frozen h.2.2 hne).trans (h.2.1 o),Nat.lt_of_lt_of_le h.2.2 k.size⟩
theorem Bn.set {n:Nat} {w:World} {g:Nat} {f:Nat→Int} (h:Bn n w g f) (j:Nat) (x:Int):Bn n (w.setCell ⟨g,j,none⟩ (O x)) g (fun o=>if o=j then x else f o):=by
 refine⟨fun o ho=> ?_,fun o=>by rw[World.frozen?_setCell];exact h.2.1 o,by simpa using h.2.2⟩
 rw[cell_sc]
 by_cases e:o=j
 ·subst e
  rw[if_pos rfl,h.1 o ho]
  simp
 ·rw[if_neg (fun hh=>e (by have:=congrArg Addr.off hh;simpa using this)),h.1 o ho]
  simp[e]
theorem Bn.gb2 {n:Nat} {w:World} {g:Nat} {f:Nat→Int} (h:Bn n w g f) (i j:Nat) (x y:Int):GB g w ((w.setCell ⟨g,i,none⟩ (O x)).setCell ⟨g,j,none⟩ (O y)):=((GB.refl g w).set _).set _
theorem Bn.at {n:Nat} {w:World} {g:Nat} {f:Nat→Int} (h:Bn n w g f) (o:Nat) (x:Int) (ho:o<n) (hx:f o=x):w.cell? ⟨g,o,none⟩=some (O x):=by rw[h.1 o ho,hx]
theorem wp_nameE {P:Program} {c:Code} {Q:Exit→Act→World→Prop} {a:Act} {X:World} (h:∀Y,X=Y→c.wp P Q a Y):c.wp P Q a X:=h X rfl
theorem Bn.two {Y Z:World} {a b:Int} {T:Nat} (h:Y.alloc (.cells #[O a,O b] T)=Z):Bn 2 Z Y.heap.size (fun o=>if o=0 then a else b)∧Ext Y Z:=by
 subst h
 refine⟨⟨fun o ho=> ?_,fun o=>by simp[go_sem, ↓IntWalk.iteOmega],by simp⟩,Ext.alloc (Ext.refl _) _⟩
 have hoo:o=0∨o=1:=by omega
 rcases hoo with rfl|rfl<;>simp[go_sem, ↓IntWalk.iteOmega]
theorem Bn.congr {n:Nat} {w:World} {g:Nat} {f f':Nat→Int} (h:Bn n w g f) (e:∀o,o<n→f o=f' o):Bn n w g f':=⟨fun o ho=>by rw[h.1 o ho,e o ho],h.2⟩
def dia (a b c:Int):V3:=⟨a,a,b,b,c,c⟩
noncomputable def shR (P:V3):R3:=sqrtI (nrmV P).lo (nrmV P).hi
noncomputable def shI (P:V3):R3:=divI 2199023255552 2199023255552 (shR P).lo (shR P).hi
def shB (V:V3):R3:=divI (nrmV V).lo (nrmV V).hi 325358913 325358914
noncomputable def shA (P V:V3):R3:=subI (shI P).lo (shI P).hi (shB V).lo (shB V).hi
def shN (P V:V3):R3:=nrmV (crsV P V).v
noncomputable def shM (P V:V3):R3:=mulI (shN P V).lo (shN P V).hi (shA P V).lo (shA P V).hi
noncomputable def shD (P V:V3):R3:=divI (shM P V).lo (shM P V).hi 325358913 325358914
noncomputable def shK (P V:V3):R3:=subI 1099511627776 1099511627776 (shD P V).lo (shD P V).hi
noncomputable def shZ:R3:=sqrtI 325358913 325358914
def ShOk (P V:V3):Prop:=(nrmV P).e=0∧(shR P).e=0∧(shI P).e=0∧(nrmV V).e=0∧(shB V).e=0∧(shA P V).e=0∧(crsV P V).e=0∧(shN P V).e=0∧(shM P V).e=0∧(shD P V).e=0∧(shK P V).e=0
theorem shZ_ok:shZ.e=0:=by unfold shZ sqrtI ckI;simp
theorem nrmV_I (a:V3):I64 (nrmV a).lo∧I64 (nrmV a).hi:=by
 unfold nrmV
 split
 ·exact⟨I64_0,I64_0⟩
 ·exact doI_W (addI_W _ _ _ _)
theorem mmI_W (E a b c d e f g h:Int):(mmI E a b c d e f g h).W:=doI_W (subI_W _ _ _ _)
theorem VO_I:V3.O.I:=⟨⟨I64_0,I64_0⟩,⟨I64_0,I64_0⟩,⟨I64_0,I64_0⟩⟩
theorem crsV_I (a b:V3):(crsV a b).v.I:=by
 unfold crsV
 split
 ·exact VO_I
 ·unfold vecV
  split
  ·exact VO_I
  ·exact⟨mmI_W _ _ _ _ _ _ _ _ _,mmI_W _ _ _ _ _ _ _ _ _,mmI_W _ _ _ _ _ _ _ _ _⟩
end Go.Proofs.YtaoioncjmfcolaaGreat
