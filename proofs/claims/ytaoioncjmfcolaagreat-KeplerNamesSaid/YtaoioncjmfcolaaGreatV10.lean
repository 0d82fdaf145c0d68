/- Limbs divided by a power of 2: any number of bits. -/
import Derived.Test.YtaoioncjmfcolaaGreatV09
set_option linter.unusedSimpArgs false
set_option linter.unusedVariables false
set_option maxRecDepth 100000
set_option maxHeartbeats 4000000
namespace Go.Proofs.YtaoioncjmfcolaaGreat
open Go.RowKit Go.Shelf
attribute [local go_sem] Oper.semAt_some
theorem T_ZR_7 {p:Prop} (h:p:=by
 refine sI 5 ?_
 refine ri1 6 rfl fun K hK=> ?_
 go_simp
 refine hK _ _ ?_
 clear hK K
 try simp only[sx_]
 refine wpAnyIn_done c_3 ?_ _
 exact hfin.out _ rfl):p:=h
theorem T_ZR_6 {p:Prop} (h:p:=by
 refine sI 5 ?_
 refine sI 6 ?_
 refine ri1 0 rfl fun K hK=> ?_
 go_simp
 refine hK _ _ ?_
 clear hK K
 try simp only[sx_]
 exact T_ZR_1):p:=h
theorem T_ZR_5 {p:Prop} (h:p:=by
 refine ri1 2 rfl fun K hK=> ?_
 go_simp
 refine hK _ _ ?_
 clear hK K
 try simp only[sx_]
 refine sI 5 ?_
 refine sI 6 ?_
 exact T_ZR_1):p:=h
theorem T_ZR_4 {p:Prop} (h:p:=by
 exact hB3.trans (belowK_b (w:=w) (Nat.le_refl _) _ D _ _ (by simp at hD;omega) hK3 rfl rfl)):p:=h
theorem T_ZR_3 {p:Prop} (h:p:=by
 go_simp
 refine hK _ _ ?_
 clear hK K
 try simp only[sx_]
 refine ri1 3 rfl fun K hK=> ?_
 go_simp
 refine hK _ _ ?_
 clear hK K
 try simp only[sx_]
 refine sI 4 ?_
 refine sI 5 ?_
 refine sI 6 ?_
 exact T_ZR_1):p:=h
theorem T_ZR_2 {p:Prop} (h:p:=by
 rintro D ys W hD hys ⟨⟨h1,h2,h3,h4,h5⟩,hB⟩ hK2
 obtain⟨k1,k2,k3,k4⟩:=stA_ok lY hd ys
 have hv:=short_all lY hd hys
 generalize stA ([]:List Int) (2^s) ys=st at*
 obtain⟨qs,r⟩:=st
 have hL:Lim W (.slice (some ⟨w.heap.size+1,0,none⟩) 0 0) qs:=R32.lim h5 k2 (by first|omega|decide)
 dsimp only at h3 k3 k4 hv
 clear h5 h1 h4 hys
 cases rb
 ·skip
  gi_wp2
  refine wpIn_wide.2 ?_
  refine wp_region_noPanic ?_
  go_quiet (fail)
  refine NoPanic.normal ?_
  gi_wp2
  have hK3:(W.drewN nq).heap[D]? =some (.deferred (some [])):=hK2
  have hL3:Lim (W.drewN nq) (.slice (some ⟨w.heap.size+1,0,none⟩) 0 0) qs:=hL
  have hB3:Below w.heap.size w (W.drewN nq):=hB.trans ⟨rfl,rfl,rfl,Nat.le_refl _,fun _ _=>rfl⟩
  refine⟨by simp,.inl ⟨_,_,rfl,run_takeDeferred hK3, ?_⟩⟩
  refine⟨.tuple #[.slice (some ⟨w.heap.size+1,0,none⟩) 0 0,.bool (decide (0<r))], ?_,_,qs,r,decide (0<r),rfl,(by simp),hL3.kept (grownBy_putObj' _ D (.deferred none)) (fun q e=>by cases e;exact⟨_,hK3,rfl⟩),(by have:=hL.len;omega),hv,k3,k4, ?_⟩
  ·simp[results,Tryz.f84,go_sem]
  ·exact T_ZR_4
 ·skip
  gi_wp2
  refine wpIn_wide.2 ?_
  refine wp_region_noPanic ?_
  go_quiet (fail)
  refine NoPanic.normal ?_
  gi_wp2
  have hK3:(W.drewN nq).heap[D]? =some (.deferred (some [])):=hK2
  have hL3:Lim (W.drewN nq) (.slice (some ⟨w.heap.size+1,0,none⟩) 0 0) qs:=hL
  have hB3:Below w.heap.size w (W.drewN nq):=hB.trans ⟨rfl,rfl,rfl,Nat.le_refl _,fun _ _=>rfl⟩
  refine⟨by simp,.inl ⟨_,_,rfl,run_takeDeferred hK3, ?_⟩⟩
  refine⟨.tuple #[.slice (some ⟨w.heap.size+1,0,none⟩) 0 0,.bool true], ?_,_,qs,r,true,rfl,(by simp),hL3.kept (grownBy_putObj' _ D (.deferred none)) (fun q e=>by cases e;exact⟨_,hK3,rfl⟩),(by have:=hL.len;omega),hv,k3,k4, ?_⟩
  ·simp[results,Tryz.f84,go_sem]
  ·exact T_ZR_4):p:=h
theorem T_ZR_1 {p:Prop} (h:p:=by
 refine sI 7 ?_
 refine ri1 8 rfl fun K hK=> ?_
 go_simp
 refine hK _ _ ?_
 clear hK K
 try simp only[sx_]
 refine wpAnyIn_done c_3 ?_ _
 gi_wp2
 refine region_inRound hmx (noDefer_ok c_3) ?_
 refine wpAnyIn_ready (rs:=[0,1]) c_3 (by simp) ?_
 refine AllReadyIn.cons rfl (fun K hK=> ?_) ?_
 ·go_simp
  refine hK _ _ ?_
  clear hK K
  try simp only[sx_]
  refine ri1 1 rfl fun K hK=> ?_
  go_simp
  refine hK _ _ ?_
  clear hK K
  try simp only[sx_]
  refine sI 2 ?_
  refine sI 3 ?_
  refine sI 4 ?_
  exact T_ZR_7
 refine AllReadyIn.cons rfl (fun K hK=> ?_) AllReadyIn.nil
 go_simp
 refine hK _ _ ?_
 clear hK K
 try simp only[sx_]
 refine sI 2 ?_
 refine sI 3 ?_
 refine sI 4 ?_
 refine ri1 0 rfl fun K hK=> ?_
 go_simp
 refine hK _ _ ?_
 clear hK K
 try simp only[sx_]
 exact T_ZR_7):p:=h
def SR2 (X:List Int) (sh k:Nat) (s p:Nat) (pre:List (DN X.length)) (W:World):Prop:=
 W.cell? ⟨s,0,none⟩=some (O k)∧W.cell? ⟨p,0,none⟩=some (.slice (some ⟨s+1,0,none⟩) X.length X.length)∧W.cell? ⟨p+1,0,none⟩=some (.int .u64 (stA X (2^sh) pre).2)∧W.frozen? ⟨p+1,0,none⟩=false∧R32 W s (s+1) X.length (stA X (2^sh) pre).1
theorem Lim.len {w:World} {a:Addr} {n cap:Nat} {xs:List Int} (h:Lim w (.slice (some a) n cap) xs):xs.length=n:=by
 rcases h.2 with⟨e,_⟩| ⟨b,o,c,e,_⟩
 ·cases e
 ·cases e;rfl
theorem Lim.drop {w:World} {xs:List Int} {b o cap:Nat} (h:Lim w (.slice (some ⟨b,o,none⟩) xs.length cap) xs) (c:Nat) (hc:c≤xs.length):Lim w (.slice (some ⟨b,o+c,none⟩) (xs.drop c).length (cap-c)) (xs.drop c):=by
 refine⟨fun y hy=>h.1 y (List.mem_of_mem_drop hy), ?_⟩
 rcases h.2 with⟨e,_⟩| ⟨b',o',cap',hv,h1,h2,h3,h4⟩
 ·cases e
 ·cases hv
  refine Or.inr ⟨b,o+c,cap-c,rfl,by rw[List.length_drop];omega,⟨by omega,by rw[List.length_drop];omega⟩,h3,fun i hi=> ?_⟩
  rw[List.length_drop]at hi
  rw[List.getD_eq_getElem?_getD,List.getElem?_drop, ←List.getD_eq_getElem?_getD,Nat.add_assoc]
  exact h4 (c+i) (by omega)
theorem right_in2 (va:Value) (X:List Int) (d s k:Nat) (w:World) (ha:Lim w va X) (hs:s<32) (hk:k=32*d+s) (hdb:d≤1000000) (hx:X.length≤100000):
    CallsIn Fence.wide 6 Tryz.prog 84 #[va,O k] w fun e w'=>∃u qs r bo,e=.returned (.tuple #[u,.bool bo])∧bo=(decide (0<val (X.take (min d X.length))) || decide (0<r))∧Lim w' u qs∧qs.length≤100000∧val qs*2^s+r=val (X.drop (min d X.length))∧0≤r∧r<2^s∧Ext w w':=by
  have lX:=ha.lb
  obtain⟨i0,hi,hz0,hz1,hz2⟩:=info_parts info81
  have hq1:(k:Int)/32=d:=by omega
  have hq3:(k:Int).tdiv 32=d:=by rw[Int.tdiv_eq_ediv_of_nonneg (by omega)];exact hq1
  have hs1:(k:Int)%32=s:=by omega
  have htm:(k:Int).tmod 32=s:=by rw[Int.tmod_eq_emod_of_nonneg (by omega)];exact hs1
  have hd:(0:Int)<2^s:=Int.pow_pos (by decide)
  have hd2:(2:Int)^s≤2147483648:=two_pow_le (t:=31) (by omega)
  have hmx:Tryz.prog.follows .mixedOrders=true:=by kernel_rfl
  have hkb:k≤100000000:=by omega
  clear hk
  rcases ha.2 with⟨rfl,rfl⟩| ⟨bA,oA,cA,rfl,a1,a2,a3,a4⟩
  · have hmin:min (d:Int) 0=0:=by omega
    have hcn:∀w1,K_ 141 #[.slice none 0 0,.func (.func 142) #[] #[]] w1 fun e w'=>e=.returned (.bool (decide (0<val ([]:List Int))))∧w'=w1:=fun w1=>w_contains _ _ w1 (Lim.nil w1)
    have lY:=lX
    rw[show([]:List Int).take (min d ([]:List Int).length)=[]from by simp,show([]:List Int).drop (min d ([]:List Int).length)=[]from by simp]
    obtain⟨rb,hrb⟩:∃rb,decide (0<val ([]:List Int))=rb:=⟨_,rfl⟩
    rw[hrb]at hcn ⊢
    clear hrb
    refine callsIn_of_wp_marks Tryz.func84 rfl trivial ?_ rfl
    simp only[Tryz.ntmps84,List.size_toArray,List.length_cons,List.length_nil,Nat.reduceAdd,Nat.reduceSub,Array.replicate_succ,Array.replicate_zero,List.push_toArray,List.append_toArray,List.nil_append,List.cons_append]
    gi_wp2_with (refine⟨trivial, ?_⟩;gi_at_call 141;refine(callsIn_wide.2 (hcn _)).mono ?_;rintro e w1 ⟨rfl,rfl⟩)
    obtain⟨w0,hrun,hown0,hgrow0⟩:=run_make_full (P:=Tryz.prog) (w.alloc (.cells #[O k] 3)) w.heap.size 22 54 i0 (.int .u32 0) 1 Tryz.underlying22 hi hz0 hz1 .i64 .i64 0 c_48 c_31 (by simp)
    rw[show((0:Nat):Int)=0 from rfl]at hrun
    rw[hrun]
    have hs0:=hgrow0.size
    simp only[World.size_alloc]at hown0 hs0
    have hR0:R32 w0 w.heap.size (w.heap.size+1) 0 (List.replicate 0 0):=R32.made hown0
    have hE0:Ext w w0:=Ext.grown ((Ext.refl w).alloc _) hgrow0
    have hg1:=hR0.lt
    have c0:=cell_new_l w (O k) 3
    have c0':=cell_kept c0.1 hgrow0 (fun r e=>by cases e)
    clear hrun hown0 hgrow0
    gi_wp2_with (refine⟨trivial, ?_⟩;gi_at_call 143;refine(down_in Fence.wide 5 trivial rfl _ _ _ _).mono ?_;rintro e w' ⟨rfl,rfl⟩)
    have c1:=cell_new_l w0 (.slice (some ⟨w.heap.size+1,0,none⟩) 0 0) 22
    have c2:=cell_new_l (w0.alloc (.cells #[.slice (some ⟨w.heap.size+1,0,none⟩) 0 0] 22)) (.int .u64 0) 114
    have c3:=cell_new_l ((w0.alloc (.cells #[.slice (some ⟨w.heap.size+1,0,none⟩) 0 0] 22)).alloc (.cells #[.int .u64 0] 114)) (.slice none 0 0) 22
    simp only[World.size_alloc]at c2 c3
    have hB0:Below w.heap.size w (((w0.alloc (.cells #[.slice (some ⟨w.heap.size+1,0,none⟩) 0 0] 22)).alloc (.cells #[.int .u64 0] 114)).alloc (.cells #[.slice none 0 0] 22)):=((hE0.alloc _).alloc _).alloc _
    have hI0:SR2 ([]:List Int) s k w.heap.size w0.heap.size [] (((w0.alloc (.cells #[.slice (some ⟨w.heap.size+1,0,none⟩) 0 0] 22)).alloc (.cells #[.int .u64 0] 114)).alloc (.cells #[.slice none 0 0] 22)):=
      ⟨cell_alloc_l _ (cell_alloc_l _ (cell_alloc_l _ c0')),cell_alloc_l _ (cell_alloc_l _ c1.1),cell_alloc_l _ c2.1,frozen_alloc_l _ c2.1 c2.2,((hR0.alloc _).alloc _).alloc _⟩
    refine wpIn_rangeFunc_ownF rfl (by omega) (gf:=168) (lb:=#[.pointer (some ⟨w0.heap.size+1+1,0,none⟩)]) rfl trivial (enters_of Tryz.func168 c_3 rfl)
      (down_stops Fence.wide 5 trivial rfl (by omega) (w0.heap.size+1+1) w.heap.size w _ _ ([]:List Int) ha rfl hB0 (by simp) c3.1) K2.trans (k2_b c_26 (by simp)) (Below.refl _ _) (fun _=>rfl)
      (fun pre W=>SR2 ([]:List Int) s k w.heap.size w0.heap.size pre W∧Below w.heap.size w W) (fun _ _ _=>False)
      (OwnFrom.and (Own.from (fun s A B row hs hg hr=>⟨cell_kept hs.1 hg hr,cell_kept hs.2.1 hg hr,cell_kept hs.2.2.1 hg hr,(frozen_kept hs.2.2.1 hg hr).trans hs.2.2.2.1,R32.kept hs.2.2.2.2 hg hr⟩) _) (ownFrom_below (Nat.le_refl _) c_26))
      (fun _ _ _ _ _ hs _ _=>hs)
      ⟨hI0,hB0⟩
      (fun x=>{tmps:=#[.slice none 0 0,O k,undef,.pointer (some ⟨w.heap.size,0,none⟩),.slice none 0 0,.bool false,O 0,.bool rb,.pointer (some ⟨w0.heap.size,0,none⟩),.pointer (some ⟨w0.heap.size+1,0,none⟩),O (x.1:Int),.int .u32 (([]:List Int).getD x.1 0),O k,O d,.slice none 0 0,O 0,O 0,.slice none 0 0,O 0,.slice none 0 0,.bool rb,.slice none 0 0,O 0,O 0,O 0,.slice (some ⟨w.heap.size+1,0,none⟩) 0 0,.slice none 0 0,O 0,.slice none 0 0,.func (.func 168) #[] #[.pointer (some ⟨w0.heap.size+1+1,0,none⟩)],O (x.1:Int),.int .u32 (([]:List Int).getD x.1 0),undef,undef,undef,undef,undef,undef,undef,undef,undef,undef,undef,undef,undef,undef,undef,undef,undef,undef,undef,undef,undef,undef,undef,undef,undef],defers:=[]}) ?assign ?body ?done ?stop
    case assign=>
      intro l x W K hK
      gi_wp2
      exact hK
    case body=>
      rintro l pre x W ⟨⟨h1,h2,h3,h4,h5⟩,hB⟩ hlen
      exact absurd hlen (by simp)
    case done=>
      exact T_ZR_2
    case stop=>
      rintro D c pre W _ _ h _
      exact h.elim
  · obtain⟨c,hc⟩:∃c,min d X.length=c:=⟨_,rfl⟩
    have hmin:min (d:Int) X.length=(c:Int):=by omega
    have hcX:c≤X.length:=by omega
    rw[hc]
    have haY:=ha.drop c hcX
    have haT:=ha.take c hcX
    have hnY:(X.length:Int)-c=(X.drop c).length:=by rw[List.length_drop];omega
    have hcn:∀w1,Ext w w1→K_ 141 #[.slice (some ⟨bA,oA,none⟩) c cA,.func (.func 142) #[] #[]] w1 fun e w'=>e=.returned (.bool (decide (0<val (X.take c))))∧w'=w1:=fun w1 k1=>w_contains _ _ w1 (haT.ext k1)
    obtain⟨rb,hrb⟩:∃rb,decide (0<val (X.take c))=rb:=⟨_,rfl⟩
    rw[hrb]at hcn ⊢
    clear hrb haT
    obtain⟨Y,hY⟩:∃Y,X.drop c=Y:=⟨_,rfl⟩
    have hYl:Y.length+c=X.length:=by rw[←hY,List.length_drop];omega
    rw[hY]at haY hnY ⊢
    clear hY
    have lY:=haY.lb
    replace hx:Y.length≤100000:=by omega
    rcases Nat.lt_or_ge c cA with hca|hca
    · have hnN:X.length-c=Y.length:=by omega
      have hcc:¬(cA-c=0):=by omega
      refine callsIn_of_wp_marks Tryz.func84 rfl trivial ?_ rfl
      simp only[Tryz.ntmps84,List.size_toArray,List.length_cons,List.length_nil,Nat.reduceAdd,Nat.reduceSub,Array.replicate_succ,Array.replicate_zero,List.push_toArray,List.append_toArray,List.nil_append,List.cons_append]
      gi_wp2_with (refine⟨trivial, ?_⟩;gi_at_call 141;refine(callsIn_wide.2 (hcn _ ((Ext.refl w).alloc _))).mono ?_;rintro e w1 ⟨rfl,rfl⟩)
      obtain⟨w0,hrun,hown0,hgrow0⟩:=run_make_full (P:=Tryz.prog) (w.alloc (.cells #[O k] 3)) w.heap.size 22 54 i0 (.int .u32 0) 1 Tryz.underlying22 hi hz0 hz1 .i64 .i64 Y.length c_48 c_31 (by simp)
      rw[hrun]
      have hs0:=hgrow0.size
      simp only[World.size_alloc]at hown0 hs0
      have hR0:R32 w0 w.heap.size (w.heap.size+1) Y.length (List.replicate Y.length 0):=R32.made hown0
      have hE0:Ext w w0:=Ext.grown ((Ext.refl w).alloc _) hgrow0
      have hg1:=hR0.lt
      have c0:=cell_new_l w (O k) 3
      have c0':=cell_kept c0.1 hgrow0 (fun r e=>by cases e)
      clear hrun hown0 hgrow0
      gi_wp2_with (refine⟨trivial, ?_⟩;gi_at_call 143;refine(down_in Fence.wide 5 trivial rfl _ _ _ _).mono ?_;rintro e w' ⟨rfl,rfl⟩)
      have c1:=cell_new_l w0 (.slice (some ⟨w.heap.size+1,0,none⟩) Y.length Y.length) 22
      have c2:=cell_new_l (w0.alloc (.cells #[.slice (some ⟨w.heap.size+1,0,none⟩) Y.length Y.length] 22)) (.int .u64 0) 114
      have c3:=cell_new_l ((w0.alloc (.cells #[.slice (some ⟨w.heap.size+1,0,none⟩) Y.length Y.length] 22)).alloc (.cells #[.int .u64 0] 114)) (.slice (some ⟨bA,oA+c,none⟩) Y.length (cA-c)) 22
      simp only[World.size_alloc]at c2 c3
      have hB0:Below w.heap.size w (((w0.alloc (.cells #[.slice (some ⟨w.heap.size+1,0,none⟩) Y.length Y.length] 22)).alloc (.cells #[.int .u64 0] 114)).alloc (.cells #[.slice (some ⟨bA,oA+c,none⟩) Y.length (cA-c)] 22)):=((hE0.alloc _).alloc _).alloc _
      have hI0:SR2 Y s k w.heap.size w0.heap.size [] (((w0.alloc (.cells #[.slice (some ⟨w.heap.size+1,0,none⟩) Y.length Y.length] 22)).alloc (.cells #[.int .u64 0] 114)).alloc (.cells #[.slice (some ⟨bA,oA+c,none⟩) Y.length (cA-c)] 22)):=
        ⟨cell_alloc_l _ (cell_alloc_l _ (cell_alloc_l _ c0')),cell_alloc_l _ (cell_alloc_l _ c1.1),cell_alloc_l _ c2.1,frozen_alloc_l _ c2.1 c2.2,((hR0.alloc _).alloc _).alloc _⟩
      refine wpIn_rangeFunc_ownF rfl (by omega) (gf:=168) (lb:=#[.pointer (some ⟨w0.heap.size+1+1,0,none⟩)]) rfl trivial (enters_of Tryz.func168 c_3 rfl)
        (down_stops Fence.wide 5 trivial rfl (by omega) (w0.heap.size+1+1) w.heap.size w _ _ Y haY rfl hB0 (by simp) c3.1) K2.trans (k2_b c_26 (by simp)) (Below.refl _ _) (fun _=>rfl)
        (fun pre W=>SR2 Y s k w.heap.size w0.heap.size pre W∧Below w.heap.size w W) (fun _ _ _=>False)
        (OwnFrom.and (Own.from (fun s A B row hs hg hr=>⟨cell_kept hs.1 hg hr,cell_kept hs.2.1 hg hr,cell_kept hs.2.2.1 hg hr,(frozen_kept hs.2.2.1 hg hr).trans hs.2.2.2.1,R32.kept hs.2.2.2.2 hg hr⟩) _) (ownFrom_below (Nat.le_refl _) c_26))
        (fun _ _ _ _ _ hs _ _=>hs)
        ⟨hI0,hB0⟩
        (fun x=>{tmps:=#[.slice (some ⟨bA,oA,none⟩) X.length cA,O k,undef,.pointer (some ⟨w.heap.size,0,none⟩),.slice none 0 0,.bool false,O c,.bool rb,.pointer (some ⟨w0.heap.size,0,none⟩),.pointer (some ⟨w0.heap.size+1,0,none⟩),O (x.1:Int),.int .u32 (Y.getD x.1 0),O k,O d,.slice (some ⟨bA,oA,none⟩) X.length cA,O X.length,O c,.slice (some ⟨bA,oA,none⟩) X.length cA,O c,.slice (some ⟨bA,oA,none⟩) c cA,.bool rb,.slice (some ⟨bA,oA,none⟩) X.length cA,O X.length,O c,O Y.length,.slice (some ⟨w.heap.size+1,0,none⟩) Y.length Y.length,.slice (some ⟨bA,oA,none⟩) X.length cA,O c,.slice (some ⟨bA,oA+c,none⟩) Y.length (cA-c),.func (.func 168) #[] #[.pointer (some ⟨w0.heap.size+1+1,0,none⟩)],O (x.1:Int),.int .u32 (Y.getD x.1 0),undef,undef,undef,undef,undef,undef,undef,undef,undef,undef,undef,undef,undef,undef,undef,undef,undef,undef,undef,undef,undef,undef,undef,undef,undef],defers:=[]}) ?assign ?body ?done ?stop
      case assign=>
        intro l x W K hK
        gi_wp2
        exact hK
      case body=>
        rintro l pre x W ⟨⟨h1,h2,h3,h4,h5⟩,hB⟩ hlen
        obtain⟨j,hj⟩:=x
        have hjl:j<Y.length:=hj (by omega)
        obtain⟨k1,k2,k3,k4⟩:=stA_ok lY hd pre
        have e5:=h5.cell hjl
        have f5:=h5.frozen j
        have hzU:U32 (Y.getD j 0):=lY.getD j
        have hsn:=stA_snoc Y (2^s) pre ⟨j,hj⟩
        obtain⟨z,ez⟩:∃z,Y.getD j 0=z:=⟨_,rfl⟩
        obtain⟨r,er⟩:∃r,(stA Y (2^s) pre).2=r:=⟨_,rfl⟩
        obtain⟨o,eo⟩:∃o,(stA Y (2^s) pre).1.getD j 0=o:=⟨_,rfl⟩
        have hWl:w0.heap.size+1<W.heap.size:=World.block_lt_of_cell? W _ h3
        have hstp:stA Y (2^s) (pre++[⟨j,hj⟩])=((stA Y (2^s) pre).1.set j ((r*4294967296+z)/2^s),(r*4294967296+z)%2^s):=by rw[hsn];unfold stp;dsimp only;rw[ez,er]
        have hfin:Hid (∀W',W'=(((((W.setCell ⟨w0.heap.size+1,0,none⟩ (.int .u64 (r*4294967296+z))).drew).setCell ⟨w.heap.size+1,j,none⟩ (.int .u32 ((r*4294967296+z)/2^s))).drew).setCell ⟨w0.heap.size+1,0,none⟩ (.int .u64 ((r*4294967296+z)%2^s)))→
            KeepsOthers W W'∧K2 w.heap.size (w0.heap.size+1+1) W W'∧SR2 Y s k w.heap.size w0.heap.size (pre++[⟨j,hj⟩]) W'∧Below w.heap.size w W'):=by
          intro W' e
          have hD:∀(A:World) q,A.drew.cell? q=A.cell? q:=fun A q=>rfl
          have hDf:∀(A:World) q,A.drew.frozen? q=A.frozen? q:=fun A q=>rfl
          have hbel:Below w.heap.size W W':=by
            rw[e]
            exact((((Below.refl _ W).setCell (p:=⟨w0.heap.size+1,0,none⟩) c_57 _).drew.setCell (p:=⟨w.heap.size+1,j,none⟩) (by simp) _).drew).setCell (p:=⟨w0.heap.size+1,0,none⟩) c_57 _
          have hcell:∀b,b≠w.heap.size+1→b≠w0.heap.size+1→W'.cell? ⟨b,0,none⟩=W.cell? ⟨b,0,none⟩:=fun b hb1 hb2=>by
            rw[e,cell_sc,if_neg (fun h=>hb2 c_37),hD,cell_sc,if_neg (fun h=>hb1 c_37),hD,cell_sc,if_neg (fun h=>hb2 c_37)]
          refine⟨?_,⟨hbel,hcell _ (by omega) (by omega)⟩, ?_,hB.trans hbel⟩
          · rw[e]
            exact(((KeepsOthers.setCell _ _ _).trans (KeepsOthers.drewN _ 1)).trans ((KeepsOthers.setCell _ _ _).trans (KeepsOthers.drewN _ 1))).trans (KeepsOthers.setCell _ _ _)
          · unfold SR2
            rw[hstp]
            refine⟨(hcell _ (by omega) (by omega)).trans h1,(hcell _ (by omega) (by omega)).trans h2, ?_, ?_, ?_⟩
            · rw[e,cell_sc,if_pos rfl,hD,cell_sc,if_neg (fun h=>by have:=congrArg Addr.block h;simp at this;omega),hD,cell_sc,if_pos rfl,h3];rfl
            · rw[e,World.frozen?_setCell,hDf,World.frozen?_setCell,hDf,World.frozen?_setCell];exact h4
            · rw[e]
              have h6:R32 ((W.setCell ⟨w0.heap.size+1,0,none⟩ (.int .u64 (r*4294967296+z))).drew) w.heap.size (w.heap.size+1) Y.length (stA Y (2^s) pre).1:=h5.other (by omega)
              have h7:R32 (((W.setCell ⟨w0.heap.size+1,0,none⟩ (.int .u64 (r*4294967296+z))).drew).setCell ⟨w.heap.size+1,j,none⟩ (.int .u32 ((r*4294967296+z)/2^s))).drew w.heap.size (w.heap.size+1) Y.length ((stA Y (2^s) pre).1.set j ((r*4294967296+z)/2^s)):=h6.set j _
              exact h7.other (by omega)
        dsimp only
        rw[ez]at hzU ⊢
        rw[er]at h3 k3 k4
        rw[eo]at e5
        have hor:=or_hl r z k3 (by omega) hzU
        unfold U32 at hzU
        obtain⟨q0,q1⟩:=div_small (x:=r*4294967296+z) (d:=2^s) (by omega) hd (by omega)
        have hand:=and_low s hs (r*4294967296+z) (by omega) (by omega)
        have hsh:(2:Int)^s<18446744073709551616:=by omega
        have hw1:IntKind.u32.wrap ((r*4294967296+z)/2^s)=(r*4294967296+z)/2^s:=by rw[IntKind.wrap_u32];exact Int.emod_eq_of_lt q0 q1
        have hw2:IntKind.u64.wrap (2^s)=2^s:=u64_small (by omega) hsh
        have hw3:IntKind.u64.wrap (2^s-1)=2^s-1:=u64_small (by omega) (by omega)
        gi_wp2
        refine region_inRound hmx (noDefer_ok c_3) ?_
        refine sI 1 ?_
        refine wpAnyIn_ready (rs:=[0,2,3]) c_3 (by simp) ?_
        refine AllReadyIn.cons rfl (fun K hK=> ?_) ?_
        · go_simp
          refine hK _ _ ?_
          clear hK K
          try simp only[sx_]
          refine wpAnyIn_ready (rs:=[2,3]) c_3 (by simp) ?_
          refine AllReadyIn.cons rfl (fun K hK=> ?_) ?_
          · exact T_ZR_3
          refine AllReadyIn.cons rfl (fun K hK=> ?_) AllReadyIn.nil
          go_simp
          refine hK _ _ ?_
          clear hK K
          try simp only[sx_]
          refine sI 4 ?_
          exact T_ZR_5
        refine AllReadyIn.cons rfl (fun K hK=> ?_) ?_
        · go_simp
          refine hK _ _ ?_
          clear hK K
          try simp only[sx_]
          refine wpAnyIn_ready (rs:=[0,3]) c_3 (by simp) ?_
          refine AllReadyIn.cons rfl (fun K hK=> ?_) ?_
          · exact T_ZR_3
          refine AllReadyIn.cons rfl (fun K hK=> ?_) AllReadyIn.nil
          go_simp
          refine hK _ _ ?_
          clear hK K
          try simp only[sx_]
          refine sI 4 ?_
          exact T_ZR_6
        refine AllReadyIn.cons rfl (fun K hK=> ?_) AllReadyIn.nil
        go_simp
        refine hK _ _ ?_
        clear hK K
        try simp only[sx_]
        refine sI 4 ?_
        refine wpAnyIn_ready (rs:=[0,2]) c_3 (by simp) ?_
        refine AllReadyIn.cons rfl (fun K hK=> ?_) ?_
        · go_simp
          refine hK _ _ ?_
          clear hK K
          try simp only[sx_]
          exact T_ZR_5
        refine AllReadyIn.cons rfl (fun K hK=> ?_) AllReadyIn.nil
        go_simp
        refine hK _ _ ?_
        clear hK K
        try simp only[sx_]
        exact T_ZR_6
      case done=>
        rintro D ys W hD hys ⟨⟨h1,h2,h3,h4,h5⟩,hB⟩ hK2
        obtain⟨k1,k2,k3,k4⟩:=stA_ok lY hd ys
        have hv:=short_all lY hd hys
        generalize stA Y (2^s) ys=st at*
        obtain⟨qs,r⟩:=st
        have hL:Lim W (.slice (some ⟨w.heap.size+1,0,none⟩) Y.length Y.length) qs:=R32.lim h5 k2 (by first|omega|decide)
        dsimp only at h3 k3 k4 hv
        clear h5 h1 h4 hys
        cases rb
        · skip
          gi_wp2
          refine wpIn_wide.2 ?_
          refine wp_region_noPanic ?_
          go_quiet (fail)
          refine NoPanic.normal ?_
          gi_wp2
          have hK3:(W.drewN nq).heap[D]? =some (.deferred (some [])):=hK2
          have hL3:Lim (W.drewN nq) (.slice (some ⟨w.heap.size+1,0,none⟩) Y.length Y.length) qs:=hL
          have hB3:Below w.heap.size w (W.drewN nq):=hB.trans ⟨rfl,rfl,rfl,Nat.le_refl _,fun _ _=>rfl⟩
          refine⟨by simp,.inl ⟨_,_,rfl,run_takeDeferred hK3, ?_⟩⟩
          refine⟨.tuple #[.slice (some ⟨w.heap.size+1,0,none⟩) Y.length Y.length,.bool (decide (0<r))], ?_,_,qs,r,decide (0<r),rfl,(by simp),hL3.kept (grownBy_putObj' _ D (.deferred none)) (fun q e=>by cases e;exact⟨_,hK3,rfl⟩),(by have:=hL.len;omega),hv,k3,k4, ?_⟩
          · simp[results,Tryz.f84,go_sem]
          · exact T_ZR_4
        · skip
          gi_wp2
          refine wpIn_wide.2 ?_
          refine wp_region_noPanic ?_
          go_quiet (fail)
          refine NoPanic.normal ?_
          gi_wp2
          have hK3:(W.drewN nq).heap[D]? =some (.deferred (some [])):=hK2
          have hL3:Lim (W.drewN nq) (.slice (some ⟨w.heap.size+1,0,none⟩) Y.length Y.length) qs:=hL
          have hB3:Below w.heap.size w (W.drewN nq):=hB.trans ⟨rfl,rfl,rfl,Nat.le_refl _,fun _ _=>rfl⟩
          refine⟨by simp,.inl ⟨_,_,rfl,run_takeDeferred hK3, ?_⟩⟩
          refine⟨.tuple #[.slice (some ⟨w.heap.size+1,0,none⟩) Y.length Y.length,.bool true], ?_,_,qs,r,true,rfl,(by simp),hL3.kept (grownBy_putObj' _ D (.deferred none)) (fun q e=>by cases e;exact⟨_,hK3,rfl⟩),(by have:=hL.len;omega),hv,k3,k4, ?_⟩
          · simp[results,Tryz.f84,go_sem]
          · exact T_ZR_4
      case stop=>
        rintro D c pre W _ _ h _
        exact h.elim
    · obtain rfl:cA=c:=by omega
      obtain rfl:Y=[]:=List.length_eq_zero_iff.1 (by omega)
      have hnN:X.length-cA=0:=by simp at hYl;omega
      have hXc:(X.length:Int)-cA=0:=by simp at hYl;omega
      have ha2:Lim w (.slice (some ⟨bA,oA,none⟩) 0 0) ([]:List Int):=⟨lY,Or.inr ⟨bA,oA,0,rfl,Nat.le_refl _,⟨by decide,by decide⟩,a3,fun i hi=>absurd hi (by simp)⟩⟩
      refine callsIn_of_wp_marks Tryz.func84 rfl trivial ?_ rfl
      simp only[Tryz.ntmps84,List.size_toArray,List.length_cons,List.length_nil,Nat.reduceAdd,Nat.reduceSub,Array.replicate_succ,Array.replicate_zero,List.push_toArray,List.append_toArray,List.nil_append,List.cons_append]
      gi_wp2_with (refine⟨trivial, ?_⟩;gi_at_call 141;refine(callsIn_wide.2 (hcn _ ((Ext.refl w).alloc _))).mono ?_;rintro e w1 ⟨rfl,rfl⟩)
      obtain⟨w0,hrun,hown0,hgrow0⟩:=run_make_full (P:=Tryz.prog) (w.alloc (.cells #[O k] 3)) w.heap.size 22 54 i0 (.int .u32 0) 1 Tryz.underlying22 hi hz0 hz1 .i64 .i64 0 c_48 c_31 (by simp)
      rw[show((0:Nat):Int)=0 from rfl]at hrun
      rw[hrun]
      have hs0:=hgrow0.size
      simp only[World.size_alloc]at hown0 hs0
      have hR0:R32 w0 w.heap.size (w.heap.size+1) 0 (List.replicate 0 0):=R32.made hown0
      have hE0:Ext w w0:=Ext.grown ((Ext.refl w).alloc _) hgrow0
      have hg1:=hR0.lt
      have c0:=cell_new_l w (O k) 3
      have c0':=cell_kept c0.1 hgrow0 (fun r e=>by cases e)
      clear hrun hown0 hgrow0
      gi_wp2_with (refine⟨trivial, ?_⟩;gi_at_call 143;refine(down_in Fence.wide 5 trivial rfl _ _ _ _).mono ?_;rintro e w' ⟨rfl,rfl⟩)
      have c1:=cell_new_l w0 (.slice (some ⟨w.heap.size+1,0,none⟩) 0 0) 22
      have c2:=cell_new_l (w0.alloc (.cells #[.slice (some ⟨w.heap.size+1,0,none⟩) 0 0] 22)) (.int .u64 0) 114
      have c3:=cell_new_l ((w0.alloc (.cells #[.slice (some ⟨w.heap.size+1,0,none⟩) 0 0] 22)).alloc (.cells #[.int .u64 0] 114)) (.slice (some ⟨bA,oA,none⟩) 0 0) 22
      simp only[World.size_alloc]at c2 c3
      have hB0:Below w.heap.size w (((w0.alloc (.cells #[.slice (some ⟨w.heap.size+1,0,none⟩) 0 0] 22)).alloc (.cells #[.int .u64 0] 114)).alloc (.cells #[.slice (some ⟨bA,oA,none⟩) 0 0] 22)):=((hE0.alloc _).alloc _).alloc _
      have hI0:SR2 ([]:List Int) s k w.heap.size w0.heap.size [] (((w0.alloc (.cells #[.slice (some ⟨w.heap.size+1,0,none⟩) 0 0] 22)).alloc (.cells #[.int .u64 0] 114)).alloc (.cells #[.slice (some ⟨bA,oA,none⟩) 0 0] 22)):=
        ⟨cell_alloc_l _ (cell_alloc_l _ (cell_alloc_l _ c0')),cell_alloc_l _ (cell_alloc_l _ c1.1),cell_alloc_l _ c2.1,frozen_alloc_l _ c2.1 c2.2,((hR0.alloc _).alloc _).alloc _⟩
      refine wpIn_rangeFunc_ownF rfl (by omega) (gf:=168) (lb:=#[.pointer (some ⟨w0.heap.size+1+1,0,none⟩)]) rfl trivial (enters_of Tryz.func168 c_3 rfl)
        (down_stops Fence.wide 5 trivial rfl (by omega) (w0.heap.size+1+1) w.heap.size w _ _ ([]:List Int) ha2 rfl hB0 (by simp) c3.1) K2.trans (k2_b c_26 (by simp)) (Below.refl _ _) (fun _=>rfl)
        (fun pre W=>SR2 ([]:List Int) s k w.heap.size w0.heap.size pre W∧Below w.heap.size w W) (fun _ _ _=>False)
        (OwnFrom.and (Own.from (fun s A B row hs hg hr=>⟨cell_kept hs.1 hg hr,cell_kept hs.2.1 hg hr,cell_kept hs.2.2.1 hg hr,(frozen_kept hs.2.2.1 hg hr).trans hs.2.2.2.1,R32.kept hs.2.2.2.2 hg hr⟩) _) (ownFrom_below (Nat.le_refl _) c_26))
        (fun _ _ _ _ _ hs _ _=>hs)
        ⟨hI0,hB0⟩
        (fun x=>{tmps:=#[.slice (some ⟨bA,oA,none⟩) X.length cA,O k,undef,.pointer (some ⟨w.heap.size,0,none⟩),.slice none 0 0,.bool false,O cA,.bool rb,.pointer (some ⟨w0.heap.size,0,none⟩),.pointer (some ⟨w0.heap.size+1,0,none⟩),O (x.1:Int),.int .u32 (([]:List Int).getD x.1 0),O k,O d,.slice (some ⟨bA,oA,none⟩) X.length cA,O X.length,O cA,.slice (some ⟨bA,oA,none⟩) X.length cA,O cA,.slice (some ⟨bA,oA,none⟩) cA cA,.bool rb,.slice (some ⟨bA,oA,none⟩) X.length cA,O X.length,O cA,O 0,.slice (some ⟨w.heap.size+1,0,none⟩) 0 0,.slice (some ⟨bA,oA,none⟩) X.length cA,O cA,.slice (some ⟨bA,oA,none⟩) 0 0,.func (.func 168) #[] #[.pointer (some ⟨w0.heap.size+1+1,0,none⟩)],O (x.1:Int),.int .u32 (([]:List Int).getD x.1 0),undef,undef,undef,undef,undef,undef,undef,undef,undef,undef,undef,undef,undef,undef,undef,undef,undef,undef,undef,undef,undef,undef,undef,undef,undef],defers:=[]}) ?assign ?body ?done ?stop
      case assign=>
        intro l x W K hK
        gi_wp2
        exact hK
      case body=>
        rintro l pre x W ⟨⟨h1,h2,h3,h4,h5⟩,hB⟩ hlen
        exact absurd hlen (by simp)
      case done=>
        exact T_ZR_2
      case stop=>
        rintro D c pre W _ _ h _
        exact h.elim
theorem w_right2 (va:Value) (X:List Int) (d s k:Nat) (w:World) (ha:Lim w va X) (hs:s<32) (hk:k=32*d+s) (hdb:d≤1000000) (hx:X.length≤100000):
    K_ 84 #[va,O k] w fun e w'=>∃u qs r bo,e=.returned (.tuple #[u,.bool bo])∧bo=(decide (0<val (X.take (min d X.length))) || decide (0<r))∧Lim w' u qs∧qs.length≤100000∧val qs*2^s+r=val (X.drop (min d X.length))∧0≤r∧r<2^s∧Ext w w':=
  (callsIn_wide (n:=6)).1 (right_in2 va X d s k w ha hs hk hdb hx)
end Go.Proofs.YtaoioncjmfcolaaGreat
