/- The long division of limbs: what a round does. -/
import Derived.Test.YtaoioncjmfcolaaGreatV05
set_option linter.unusedSimpArgs false
set_option linter.unusedVariables false
set_option maxRecDepth 100000
set_option maxHeartbeats 4000000
namespace Go.Proofs.YtaoioncjmfcolaaGreat
open Go.RowKit
theorem val_mid {U:List Int} {j m:Nat} (h:j+m≤U.length):val U=val (U.take j)+BB^j*(val ((U.drop j).take m)+BB^m*val (U.drop (j+m))):=by
 have e:U=U.take j++((U.drop j).take m++U.drop (j+m)):=by
  rw[←List.drop_drop,List.take_append_drop,List.take_append_drop]
 have l1:(U.take j).length=j:=by rw[List.length_take];omega
 have l2:((U.drop j).take m).length=m:=by rw[List.length_take,List.length_drop];omega
 conv=>lhs;rw[e]
 rw[val_append,val_append,l1,l2]
theorem Lb.drop {a:List Int} (h:Lb a) (n:Nat):Lb (a.drop n):=fun y hy=>h y (List.mem_of_mem_drop hy)
theorem div_pre {U V:List Int} {j n:Nat} (lU:Lb U) (lV:Lb V) (hn:V.length=n) (hj:j+(n+1)≤U.length) (h:val U<BB^(j+1)*val V):val ((U.drop j).take (n+1))<BB*val V∧val (U.drop (j+(n+1)))=0:=by
 have e:=val_mid hj
 have p0:=val_nonneg (lU.take j)
 have p1:=val_nonneg ((lU.drop j).take (n+1))
 have p2:=val_nonneg (lU.drop (j+(n+1)))
 have q:=val_lt lV
 rw[hn]at q
 have hj0:(0:Int)<BB^j:=Int.pow_pos (by decide)
 have hn0:(0:Int)<BB^(n+1):=Int.pow_pos (by decide)
 rw[Int.pow_succ]at h
 generalize val (U.take j)=A at*
 generalize val ((U.drop j).take (n+1))=M at*
 generalize val (U.drop (j+(n+1)))=Z at*
 generalize val V=v at*
 have hlt:M+BB^(n+1)*Z<BB*v:=by
  have:BB^j*(M+BB^(n+1)*Z)<BB^j*(BB*v):=by
   have e2:BB^j*BB*v=BB^j*(BB*v):=Int.mul_assoc ..
   omega
  exact Int.lt_of_mul_lt_mul_left this (Int.le_of_lt hj0)
 have hZ:0≤BB^(n+1)*Z:=Int.mul_nonneg (Int.le_of_lt hn0) p2
 refine⟨by omega, ?_⟩
 have hbv:BB*v<BB^(n+1):=by
  rw[Int.pow_succ,Int.mul_comm]
  exact Int.mul_lt_mul_of_pos_right q (by decide)
 rcases Int.lt_or_le 0 Z with hz|hz
 ·have:BB^(n+1)*1≤BB^(n+1)*Z:=Int.mul_le_mul_of_nonneg_left (by omega) (Int.le_of_lt hn0)
  omega
 ·omega
theorem div_post {U V R:List Int} {j n:Nat} {d:Int} (lU:Lb U) (lR:Lb R) (hR:R.length=n+1) (hj:j+(n+1)≤U.length) (h0:val (U.drop (j+(n+1)))=0)
    (hv:val R=val ((U.drop j).take (n+1))-d*val V) (hlt:val R<val V):
    val (U.take j++(R++U.drop (j+(n+1))))=val U-BB^j*(d*val V)∧val (U.take j++(R++U.drop (j+(n+1))))<BB^j*val V:=by
 have e:=val_mid hj
 have l1:(U.take j).length=j:=by rw[List.length_take];omega
 have p1:=val_lt (lU.take j)
 rw[l1]at p1
 rw[val_append,val_append,l1,hR,h0]
 rw[h0]at e
 have hj0:(0:Int)<BB^j:=Int.pow_pos (by decide)
 generalize val (U.take j)=A at*
 generalize val ((U.drop j).take (n+1))=M at*
 generalize val V=v at*
 generalize val R=r at*
 generalize val U=u at*
 generalize BB^(n+1)=N at*
 generalize BB^j=J at*
 have m1:J*(r+1)≤J*v:=Int.mul_le_mul_of_nonneg_left (by omega) (Int.le_of_lt hj0)
 subst hv
 refine⟨?_, ?_⟩
 ·rw[e];grind
 ·have:J*(M-d*v+N*0)=J*(M-d*v):=by grind
  have e3:J*(M-d*v+1)=J*(M-d*v)+J:=by grind
  omega
theorem set_val {Q:List Int} {j:Nat} {d:Int} (hj:j<Q.length) (h0:Q.getD j 0=0):val (Q.set j d)=val Q+BB^j*d:=by
 have e:=val_split hj
 have hj2:j<(Q.set j d).length:=by rw[List.length_set];exact hj
 have e2:=val_split hj2
 rw[e2,e,h0,List.take_set_of_le (Nat.le_refl _),List.drop_set_of_lt (by omega),List.getD_eq_getElem?_getD,List.getElem?_set_self hj]
 simp only[Option.getD_some]
 grind
theorem set_low {Q:List Int} {j i:Nat} {d:Int} (h:i<j):(Q.set j d).getD i 0=Q.getD i 0:=by
 rw[List.getD_eq_getElem?_getD,List.getElem?_set_ne (by omega), ←List.getD_eq_getElem?_getD]
theorem div_fin {t u q r S Q V Y X U0:Int} (ht:t=u) (hr:q*S+r=t) (r0:0≤r) (r1:r<S) (hS:0<S) (h:u+Q*V=U0) (hV:V=Y*S) (hU:U0=X*S) (hu:u<V):Q*Y+q=X∧q<Y:=by
 subst ht;subst hV;subst hU
 have e:(X-Q*Y-q)*S=r:=by
  have e1:(X-Q*Y-q)*S=X*S-Q*(Y*S)-q*S:=by grind
  omega
 have hz:X-Q*Y-q=0:=by
  rcases Int.lt_trichotomy (X-Q*Y-q) 0 with h1|h1|h1
  ·have:(X-Q*Y-q)*S<0:=Int.mul_neg_of_neg_of_pos h1 hS
   omega
  ·exact h1
  ·have:1*S≤(X-Q*Y-q)*S:=Int.mul_le_mul_of_nonneg_right (by omega) (Int.le_of_lt hS)
   omega
 refine⟨by omega, ?_⟩
 have:q*S<Y*S:=by omega
 exact Int.lt_of_mul_lt_mul_right this (Int.le_of_lt hS)
theorem two_room {y:Int} {s:Nat} (hs:s<32) (h:y*2^s<4294967296):y*2^s+2^s≤4294967296:=by
 have e:(4294967296:Int)=2^(32-s)*2^s:=by
  rw[←Int.pow_add,show 32-s+s=32 from by omega];rfl
 have hp:(0:Int)<2^s:=Int.pow_pos (by decide)
 have h1:y*2^s<2^(32-s)*2^s:=by rw[←e];exact h
 have h2:y<2^(32-s):=Int.lt_of_mul_lt_mul_right h1 (Int.le_of_lt hp)
 have h3:(y+1)*2^s≤2^(32-s)*2^s:=Int.mul_le_mul_of_nonneg_right (by omega) (Int.le_of_lt hp)
 rw[←e,Int.add_mul,Int.one_mul]at h3
 exact h3
theorem room_alg {a y N S B:Int} (ha:a<N) (hS:0<S) (hN:0<N) (h:y*S+S≤B):(a+N*y)*S<N*B:=by
 have m1:(a+1)*S≤N*S:=Int.mul_le_mul_of_nonneg_right (by omega) (Int.le_of_lt hS)
 have m2:N*(y*S+S)≤N*B:=Int.mul_le_mul_of_nonneg_left h (Int.le_of_lt hN)
 have e1:(a+1)*S=a*S+S:=by rw[Int.add_mul,Int.one_mul]
 have e2:N*(y*S+S)=N*y*S+N*S:=by rw[Int.mul_add,Int.mul_assoc]
 have e3:(a+N*y)*S=a*S+N*y*S:=Int.add_mul ..
 omega
theorem top_fits {Y Z:List Int} {s n:Nat} (hs:s<32) (hY:Y.length=n+1) (lY:Lb Y) (lZ:Lb Z) (hZ:Z.length=n+2) (hv:val Z=val Y*2^s) (ht:Y.getD n 0*2^s<4294967296):val (Z.take (n+1))=val Y*2^s∧(Z.take (n+1)).length=n+1:=by
 have e:=val_take_succ' Z (n+1)
 rw[List.take_of_length_le (by omega)]at e
 have eY:=val_take_succ' Y n
 rw[List.take_of_length_le (by omega)]at eY
 have p:=val_lt (lY.take n)
 rw[List.length_take,Nat.min_eq_left (by omega)]at p
 have z0:0≤Z.getD (n+1) 0:=(lZ.getD (n+1)).1
 have pz:=val_nonneg (lZ.take (n+1))
 have hp:(0:Int)<2^s:=Int.pow_pos (by decide)
 have hn0:(0:Int)<BB^n:=Int.pow_pos (by decide)
 have hn1:(0:Int)<BB^(n+1):=Int.pow_pos (by decide)
 have hb:val Y*2^s<BB^(n+1):=by
  rw[eY,Int.pow_succ]
  exact room_alg p hp hn0 (two_room hs ht)
 rw[←hv]at hb
 refine⟨?_,by rw[List.length_take];omega⟩
 rw[←hv]
 generalize Z.getD (n+1) 0=z at*
 generalize val (Z.take (n+1))=A at*
 generalize val Z=T at*
 generalize BB^(n+1)=N at*
 rcases Int.lt_or_le 0 z with h|h
 ·have:N*1≤N*z:=Int.mul_le_mul_of_nonneg_left (by omega) (Int.le_of_lt hn1)
  omega
 ·have:z=0:=by omega
  subst this
  omega
end Go.Proofs.YtaoioncjmfcolaaGreat
namespace Go.Proofs.YtaoioncjmfcolaaGreat
open Go.RowKit Go.Shelf
attribute [local go_sem] Oper.semAt_some
theorem T_DR_5 {p:Prop} (h:p:=by
 refine sI 5 ?_
 refine sI 6 ?_
 refine ri1 0 rfl fun K hK=> ?_
 go_simp
 refine hK _ _ ?_
 clear hK K
 try simp only[sx_]
 exact T_DR_1):p:=h
theorem T_DR_4 {p:Prop} (h:p:=by
 refine sI 5 ?_
 refine ri1 6 rfl fun K hK=> ?_
 go_simp
 refine hK _ _ ?_
 clear hK K
 try simp only[sx_]
 refine wpAnyIn_done c_3 ?_ _
 exact hfin.out _ rfl):p:=h
theorem T_DR_3 {p:Prop} (h:p:=by
 refine ri1 2 rfl fun K hK=> ?_
 go_simp
 refine hK _ _ ?_
 clear hK K
 try simp only[sx_]
 refine sI 5 ?_
 refine sI 6 ?_
 exact T_DR_1):p:=h
theorem T_DR_2 {p:Prop} (h:p:=by
 go_simp
 refine hK _ _ ?_
 clear hK K
 try simp only[sx_]
 refine ri1 3 rfl fun K hK=> ?_
 go_simp
 refine hK _ _ ?_
 clear hK K
 try simp only[sx_]
 refine sI 4 ?_
 refine sI 5 ?_
 refine sI 6 ?_
 exact T_DR_1):p:=h
theorem T_DR_1 {p:Prop} (h:p:=by
 refine sI 7 ?_
 refine ri1 8 rfl fun K hK=> ?_
 go_simp
 refine hK _ _ ?_
 clear hK K
 try simp only[sx_]
 refine wpAnyIn_done c_3 ?_ _
 gi_wp2
 refine region_inRound hmx (noDefer_ok c_3) ?_
 refine wpAnyIn_ready (rs:=[0,1]) c_3 (by simp) ?_
 refine AllReadyIn.cons rfl (fun K hK=> ?_) ?_
 ·go_simp
  refine hK _ _ ?_
  clear hK K
  try simp only[sx_]
  refine ri1 1 rfl fun K hK=> ?_
  go_simp
  refine hK _ _ ?_
  clear hK K
  try simp only[sx_]
  refine sI 2 ?_
  refine sI 3 ?_
  refine sI 4 ?_
  exact T_DR_4
 refine AllReadyIn.cons rfl (fun K hK=> ?_) AllReadyIn.nil
 go_simp
 refine hK _ _ ?_
 clear hK K
 try simp only[sx_]
 refine sI 2 ?_
 refine sI 3 ?_
 refine sI 4 ?_
 refine ri1 0 rfl fun K hK=> ?_
 go_simp
 refine hK _ _ ?_
 clear hK K
 try simp only[sx_]
 exact T_DR_4):p:=h
theorem and_low (s:Nat) (hs:s<32) (T:Int) (h0:0≤T) (h1:T<18446744073709551616):bits .and .u64 T (2^s-1)=T%2^s:=by
 obtain⟨n,rfl⟩:=Int.eq_ofNat_of_zero_le h0
 have hp:2^s≤2^31:=Nat.pow_le_pow_right (by decide) (by omega)
 have hp0:=Nat.two_pow_pos s
 have e:(2:Int)^s-1=((2^s-1:Nat):Int):=by rw[Int.ofNat_sub hp0,Int.natCast_pow];rfl
 rw[e,u64_and_nat _ _ (by omega) (by omega),Nat.and_two_pow_sub_one_eq_mod,Int.natCast_emod,Int.natCast_pow];rfl
theorem w_index0 (a:Option Addr) (c:Nat) (f:Value) (w:World):K_ 167 #[.slice a 0 c,f] w fun e w'=>e=.returned (O (-1))∧w'=w:=by
 go_enter Tryz.func167,Tryz.ntmps167
 go_wp2
 refine wp_loop_rounds 1 ?_
 rw[rounds_succ]
 go_wp2
 go_ret
 exact⟨rfl,rfl⟩
theorem w_contains0 (a:Option Addr) (c:Nat) (f:Value) (w:World):K_ 141 #[.slice a 0 c,f] w fun e w'=>e=.returned (.bool false)∧w'=w:=by
 go_enter Tryz.func141,Tryz.ntmps141
 go_wp2_with (go_at_call 167;(with_reducible refine(w_index0 _ _ _ _).mono ?_);rintro e w' ⟨rfl,rfl⟩)
 go_ret
 exact⟨rfl,rfl⟩
def SR (X:List Int) (sh:Nat) (s p:Nat) (pre:List (DN X.length)) (W:World):Prop:=
 W.cell? ⟨s,0,none⟩=some (O sh)∧W.cell? ⟨p,0,none⟩=some (.slice (some ⟨s+1,0,none⟩) X.length X.length)∧W.cell? ⟨p+1,0,none⟩=some (.int .u64 (stA X (2^sh) pre).2)∧W.frozen? ⟨p+1,0,none⟩=false∧R32 W s (s+1) X.length (stA X (2^sh) pre).1
theorem right_in (va:Value) (X:List Int) (s:Nat) (w:World) (ha:Lim w va X) (hs:s<32) (hx:X.length≤100000):
    CallsIn Fence.wide 6 Tryz.prog 84 #[va,O s] w fun e w'=>∃u qs r,e=.returned (.tuple #[u,.bool (decide (0<r))])∧Lim w' u qs∧val qs*2^s+r=val X∧0≤r∧r<2^s∧Ext w w':=by
  have lX:=ha.lb
  obtain⟨i0,hi,hz0,hz1,hz2⟩:=info_parts info81
  have hs0:(s:Int)/32=0:=by omega
  have hs1:(s:Int)%32=s:=by omega
  have hd:(0:Int)<2^s:=Int.pow_pos (by decide)
  have htm:(s:Int).tmod 32=s:=by rw[Int.tmod_eq_emod_of_nonneg (by omega)];exact hs1
  have hd2:(2:Int)^s≤2147483648:=two_pow_le (t:=31) (by omega)
  have hmx:Tryz.prog.follows .mixedOrders=true:=by kernel_rfl
  rcases ha.2 with⟨rfl,rfl⟩| ⟨bA,oA,cA,rfl,a1,a2,a3,a4⟩
  · have hmin:min (0:Int) 0=0:=rfl
    refine callsIn_of_wp_marks Tryz.func84 rfl trivial ?_ rfl
    simp only[Tryz.ntmps84,List.size_toArray,List.length_cons,List.length_nil,Nat.reduceAdd,Nat.reduceSub,Array.replicate_succ,Array.replicate_zero,List.push_toArray,List.append_toArray,List.nil_append,List.cons_append]
    gi_wp2_with (refine⟨trivial, ?_⟩;gi_at_call 141;refine(callsIn_wide.2 (w_contains0 _ _ _ _)).mono ?_;rintro e w1 ⟨rfl,rfl⟩)
    obtain⟨w0,hrun,hown0,hgrow0⟩:=run_make_full (P:=Tryz.prog) (w.alloc (.cells #[O s] 3)) w.heap.size 22 54 i0 (.int .u32 0) 1 Tryz.underlying22 hi hz0 hz1 .i64 .i64 0 c_48 c_31 (by simp)
    rw[show((0:Nat):Int)=0 from rfl]at hrun
    rw[hrun]
    have hs0:=hgrow0.size
    simp only[World.size_alloc]at hown0 hs0
    have hR0:R32 w0 w.heap.size (w.heap.size+1) 0 (List.replicate 0 0):=R32.made hown0
    have hE0:Ext w w0:=Ext.grown ((Ext.refl w).alloc _) hgrow0
    have hg1:=hR0.lt
    have c0:=cell_new_l w (O s) 3
    have c0':=cell_kept c0.1 hgrow0 (fun r e=>by cases e)
    clear hrun hown0 hgrow0
    gi_wp2_with (refine⟨trivial, ?_⟩;gi_at_call 143;refine(down_in Fence.wide 5 trivial rfl _ _ _ _).mono ?_;rintro e w' ⟨rfl,rfl⟩)
    have c1:=cell_new_l w0 (.slice (some ⟨w.heap.size+1,0,none⟩) 0 0) 22
    have c2:=cell_new_l (w0.alloc (.cells #[.slice (some ⟨w.heap.size+1,0,none⟩) 0 0] 22)) (.int .u64 0) 114
    have c3:=cell_new_l ((w0.alloc (.cells #[.slice (some ⟨w.heap.size+1,0,none⟩) 0 0] 22)).alloc (.cells #[.int .u64 0] 114)) (.slice none 0 0) 22
    simp only[World.size_alloc]at c2 c3
    have hB0:Below w.heap.size w (((w0.alloc (.cells #[.slice (some ⟨w.heap.size+1,0,none⟩) 0 0] 22)).alloc (.cells #[.int .u64 0] 114)).alloc (.cells #[.slice none 0 0] 22)):=((hE0.alloc _).alloc _).alloc _
    have hI0:SR ([]:List Int) s w.heap.size w0.heap.size [] (((w0.alloc (.cells #[.slice (some ⟨w.heap.size+1,0,none⟩) 0 0] 22)).alloc (.cells #[.int .u64 0] 114)).alloc (.cells #[.slice none 0 0] 22)):=
      ⟨cell_alloc_l _ (cell_alloc_l _ (cell_alloc_l _ c0')),cell_alloc_l _ (cell_alloc_l _ c1.1),cell_alloc_l _ c2.1,frozen_alloc_l _ c2.1 c2.2,((hR0.alloc _).alloc _).alloc _⟩
    refine wpIn_rangeFunc_ownF rfl (by omega) (gf:=168) (lb:=#[.pointer (some ⟨w0.heap.size+1+1,0,none⟩)]) rfl trivial (enters_of Tryz.func168 c_3 rfl)
      (down_stops Fence.wide 5 trivial rfl (by omega) (w0.heap.size+1+1) w.heap.size w _ _ ([]:List Int) ha rfl hB0 (by simp) c3.1) K2.trans (k2_b c_26 (by simp)) (Below.refl _ _) (fun _=>rfl)
      (fun pre W=>SR ([]:List Int) s w.heap.size w0.heap.size pre W∧Below w.heap.size w W) (fun _ _ _=>False)
      (OwnFrom.and (Own.from (fun s A B row hs hg hr=>⟨cell_kept hs.1 hg hr,cell_kept hs.2.1 hg hr,cell_kept hs.2.2.1 hg hr,(frozen_kept hs.2.2.1 hg hr).trans hs.2.2.2.1,R32.kept hs.2.2.2.2 hg hr⟩) _) (ownFrom_below (Nat.le_refl _) c_26))
      (fun _ _ _ _ _ hs _ _=>hs)
      ⟨hI0,hB0⟩
      (fun x=>{tmps:=#[.slice none 0 0,O s,undef,.pointer (some ⟨w.heap.size,0,none⟩),.slice none 0 0,.bool false,O 0,.bool false,.pointer (some ⟨w0.heap.size,0,none⟩),.pointer (some ⟨w0.heap.size+1,0,none⟩),O (x.1:Int),.int .u32 (([]:List Int).getD x.1 0),O s,O 0,.slice none 0 0,O 0,O 0,.slice none 0 0,O 0,.slice none 0 0,.bool false,.slice none 0 0,O 0,O 0,O 0,.slice (some ⟨w.heap.size+1,0,none⟩) 0 0,.slice none 0 0,O 0,.slice none 0 0,.func (.func 168) #[] #[.pointer (some ⟨w0.heap.size+1+1,0,none⟩)],O (x.1:Int),.int .u32 (([]:List Int).getD x.1 0),undef,undef,undef,undef,undef,undef,undef,undef,undef,undef,undef,undef,undef,undef,undef,undef,undef,undef,undef,undef,undef,undef,undef,undef,undef],defers:=[]}) ?assign ?body ?done ?stop
    case assign=>
      intro l x W K hK
      gi_wp2
      exact hK
    case body=>
      rintro l pre x W ⟨⟨h1,h2,h3,h4,h5⟩,hB⟩ hlen
      exact absurd hlen (by simp)
    case done=>
      rintro D ys W hD hys ⟨⟨h1,h2,h3,h4,h5⟩,hB⟩ hK2
      obtain⟨k1,k2,k3,k4⟩:=stA_ok lX hd ys
      have hv:=short_all lX hd hys
      generalize stA ([]:List Int) (2^s) ys=st at*
      obtain⟨qs,r⟩:=st
      have hL:Lim W (.slice (some ⟨w.heap.size+1,0,none⟩) 0 0) qs:=R32.lim h5 k2 (by first|omega|decide)
      dsimp only at h3 k3 k4 hv
      clear h5 h1 h4 hys
      gi_wp2
      refine wpIn_wide.2 ?_
      refine wp_region_noPanic ?_
      go_quiet (fail)
      refine NoPanic.normal ?_
      gi_wp2
      have hK3:(W.drewN nq).heap[D]? =some (.deferred (some [])):=hK2
      have hL3:Lim (W.drewN nq) (.slice (some ⟨w.heap.size+1,0,none⟩) 0 0) qs:=hL
      have hB3:Below w.heap.size w (W.drewN nq):=hB.trans ⟨rfl,rfl,rfl,Nat.le_refl _,fun _ _=>rfl⟩
      refine⟨by simp,.inl ⟨_,_,rfl,run_takeDeferred hK3, ?_⟩⟩
      refine⟨.tuple #[.slice (some ⟨w.heap.size+1,0,none⟩) 0 0,.bool (decide (0<r))], ?_,_,qs,r,rfl,hL3.kept (grownBy_putObj' _ D (.deferred none)) (fun q e=>by cases e;exact⟨_,hK3,rfl⟩),hv,k3,k4, ?_⟩
      · simp[results,Tryz.f84,go_sem]
      · exact hB3.trans (belowK_b (w:=w) (Nat.le_refl _) _ D _ _ (by simp at hD;omega) hK3 rfl rfl)
    case stop=>
      rintro D c pre W _ _ h _
      exact h.elim
  · have hmin:min (0:Int) X.length=0:=by omega
    refine callsIn_of_wp_marks Tryz.func84 rfl trivial ?_ rfl
    simp only[Tryz.ntmps84,List.size_toArray,List.length_cons,List.length_nil,Nat.reduceAdd,Nat.reduceSub,Array.replicate_succ,Array.replicate_zero,List.push_toArray,List.append_toArray,List.nil_append,List.cons_append]
    gi_wp2_with (refine⟨trivial, ?_⟩;gi_at_call 141;refine(callsIn_wide.2 (w_contains0 _ _ _ _)).mono ?_;rintro e w1 ⟨rfl,rfl⟩)
    obtain⟨w0,hrun,hown0,hgrow0⟩:=run_make_full (P:=Tryz.prog) (w.alloc (.cells #[O s] 3)) w.heap.size 22 54 i0 (.int .u32 0) 1 Tryz.underlying22 hi hz0 hz1 .i64 .i64 X.length c_48 c_31 (by simp)
    rw[hrun]
    have hs0:=hgrow0.size
    simp only[World.size_alloc]at hown0 hs0
    have hR0:R32 w0 w.heap.size (w.heap.size+1) X.length (List.replicate X.length 0):=R32.made hown0
    have hE0:Ext w w0:=Ext.grown ((Ext.refl w).alloc _) hgrow0
    have hg1:=hR0.lt
    have c0:=cell_new_l w (O s) 3
    have c0':=cell_kept c0.1 hgrow0 (fun r e=>by cases e)
    clear hrun hown0 hgrow0
    gi_wp2_with (refine⟨trivial, ?_⟩;gi_at_call 143;refine(down_in Fence.wide 5 trivial rfl _ _ _ _).mono ?_;rintro e w' ⟨rfl,rfl⟩)
    have c1:=cell_new_l w0 (.slice (some ⟨w.heap.size+1,0,none⟩) X.length X.length) 22
    have c2:=cell_new_l (w0.alloc (.cells #[.slice (some ⟨w.heap.size+1,0,none⟩) X.length X.length] 22)) (.int .u64 0) 114
    have c3:=cell_new_l ((w0.alloc (.cells #[.slice (some ⟨w.heap.size+1,0,none⟩) X.length X.length] 22)).alloc (.cells #[.int .u64 0] 114)) (.slice (some ⟨bA,oA,none⟩) X.length cA) 22
    simp only[World.size_alloc]at c2 c3
    have hB0:Below w.heap.size w (((w0.alloc (.cells #[.slice (some ⟨w.heap.size+1,0,none⟩) X.length X.length] 22)).alloc (.cells #[.int .u64 0] 114)).alloc (.cells #[.slice (some ⟨bA,oA,none⟩) X.length cA] 22)):=((hE0.alloc _).alloc _).alloc _
    have hI0:SR X s w.heap.size w0.heap.size [] (((w0.alloc (.cells #[.slice (some ⟨w.heap.size+1,0,none⟩) X.length X.length] 22)).alloc (.cells #[.int .u64 0] 114)).alloc (.cells #[.slice (some ⟨bA,oA,none⟩) X.length cA] 22)):=
      ⟨cell_alloc_l _ (cell_alloc_l _ (cell_alloc_l _ c0')),cell_alloc_l _ (cell_alloc_l _ c1.1),cell_alloc_l _ c2.1,frozen_alloc_l _ c2.1 c2.2,((hR0.alloc _).alloc _).alloc _⟩
    refine wpIn_rangeFunc_ownF rfl (by omega) (gf:=168) (lb:=#[.pointer (some ⟨w0.heap.size+1+1,0,none⟩)]) rfl trivial (enters_of Tryz.func168 c_3 rfl)
      (down_stops Fence.wide 5 trivial rfl (by omega) (w0.heap.size+1+1) w.heap.size w _ _ X ha rfl hB0 (by simp) c3.1) K2.trans (k2_b c_26 (by simp)) (Below.refl _ _) (fun _=>rfl)
      (fun pre W=>SR X s w.heap.size w0.heap.size pre W∧Below w.heap.size w W) (fun _ _ _=>False)
      (OwnFrom.and (Own.from (fun s A B row hs hg hr=>⟨cell_kept hs.1 hg hr,cell_kept hs.2.1 hg hr,cell_kept hs.2.2.1 hg hr,(frozen_kept hs.2.2.1 hg hr).trans hs.2.2.2.1,R32.kept hs.2.2.2.2 hg hr⟩) _) (ownFrom_below (Nat.le_refl _) c_26))
      (fun _ _ _ _ _ hs _ _=>hs)
      ⟨hI0,hB0⟩
      (fun x=>{tmps:=#[.slice (some ⟨bA,oA,none⟩) X.length cA,O s,undef,.pointer (some ⟨w.heap.size,0,none⟩),.slice none 0 0,.bool false,O 0,.bool false,.pointer (some ⟨w0.heap.size,0,none⟩),.pointer (some ⟨w0.heap.size+1,0,none⟩),O (x.1:Int),.int .u32 (X.getD x.1 0),O s,O 0,.slice (some ⟨bA,oA,none⟩) X.length cA,O X.length,O 0,.slice (some ⟨bA,oA,none⟩) X.length cA,O 0,.slice (some ⟨bA,oA,none⟩) 0 cA,.bool false,.slice (some ⟨bA,oA,none⟩) X.length cA,O X.length,O 0,O X.length,.slice (some ⟨w.heap.size+1,0,none⟩) X.length X.length,.slice (some ⟨bA,oA,none⟩) X.length cA,O 0,.slice (some ⟨bA,oA,none⟩) X.length cA,.func (.func 168) #[] #[.pointer (some ⟨w0.heap.size+1+1,0,none⟩)],O (x.1:Int),.int .u32 (X.getD x.1 0),undef,undef,undef,undef,undef,undef,undef,undef,undef,undef,undef,undef,undef,undef,undef,undef,undef,undef,undef,undef,undef,undef,undef,undef,undef],defers:=[]}) ?assign ?body ?done ?stop
    case assign=>
      intro l x W K hK
      gi_wp2
      exact hK
    case body=>
      rintro l pre x W ⟨⟨h1,h2,h3,h4,h5⟩,hB⟩ hlen
      obtain⟨j,hj⟩:=x
      have hjl:j<X.length:=hj (by omega)
      obtain⟨k1,k2,k3,k4⟩:=stA_ok lX hd pre
      have e5:=h5.cell hjl
      have f5:=h5.frozen j
      have hzU:U32 (X.getD j 0):=lX.getD j
      have hsn:=stA_snoc X (2^s) pre ⟨j,hj⟩
      obtain⟨z,ez⟩:∃z,X.getD j 0=z:=⟨_,rfl⟩
      obtain⟨r,er⟩:∃r,(stA X (2^s) pre).2=r:=⟨_,rfl⟩
      obtain⟨o,eo⟩:∃o,(stA X (2^s) pre).1.getD j 0=o:=⟨_,rfl⟩
      have hWl:w0.heap.size+1<W.heap.size:=World.block_lt_of_cell? W _ h3
      have hstp:stA X (2^s) (pre++[⟨j,hj⟩])=((stA X (2^s) pre).1.set j ((r*4294967296+z)/2^s),(r*4294967296+z)%2^s):=by rw[hsn];unfold stp;dsimp only;rw[ez,er]
      have hfin:Hid (∀W',W'=(((((W.setCell ⟨w0.heap.size+1,0,none⟩ (.int .u64 (r*4294967296+z))).drew).setCell ⟨w.heap.size+1,j,none⟩ (.int .u32 ((r*4294967296+z)/2^s))).drew).setCell ⟨w0.heap.size+1,0,none⟩ (.int .u64 ((r*4294967296+z)%2^s)))→
          KeepsOthers W W'∧K2 w.heap.size (w0.heap.size+1+1) W W'∧SR X s w.heap.size w0.heap.size (pre++[⟨j,hj⟩]) W'∧Below w.heap.size w W'):=by
        intro W' e
        have hD:∀(A:World) q,A.drew.cell? q=A.cell? q:=fun A q=>rfl
        have hDf:∀(A:World) q,A.drew.frozen? q=A.frozen? q:=fun A q=>rfl
        have hbel:Below w.heap.size W W':=by
          rw[e]
          exact((((Below.refl _ W).setCell (p:=⟨w0.heap.size+1,0,none⟩) c_57 _).drew.setCell (p:=⟨w.heap.size+1,j,none⟩) (by simp) _).drew).setCell (p:=⟨w0.heap.size+1,0,none⟩) c_57 _
        have hcell:∀b,b≠w.heap.size+1→b≠w0.heap.size+1→W'.cell? ⟨b,0,none⟩=W.cell? ⟨b,0,none⟩:=fun b hb1 hb2=>by
          rw[e,cell_sc,if_neg (fun h=>hb2 c_37),hD,cell_sc,if_neg (fun h=>hb1 c_37),hD,cell_sc,if_neg (fun h=>hb2 c_37)]
        refine⟨?_,⟨hbel,hcell _ (by omega) (by omega)⟩, ?_,hB.trans hbel⟩
        · rw[e]
          exact(((KeepsOthers.setCell _ _ _).trans (KeepsOthers.drewN _ 1)).trans ((KeepsOthers.setCell _ _ _).trans (KeepsOthers.drewN _ 1))).trans (KeepsOthers.setCell _ _ _)
        · unfold SR
          rw[hstp]
          refine⟨(hcell _ (by omega) (by omega)).trans h1,(hcell _ (by omega) (by omega)).trans h2, ?_, ?_, ?_⟩
          · rw[e,cell_sc,if_pos rfl,hD,cell_sc,if_neg (fun h=>by have:=congrArg Addr.block h;simp at this;omega),hD,cell_sc,if_pos rfl,h3];rfl
          · rw[e,World.frozen?_setCell,hDf,World.frozen?_setCell,hDf,World.frozen?_setCell];exact h4
          · rw[e]
            have h6:R32 ((W.setCell ⟨w0.heap.size+1,0,none⟩ (.int .u64 (r*4294967296+z))).drew) w.heap.size (w.heap.size+1) X.length (stA X (2^s) pre).1:=h5.other (by omega)
            have h7:R32 (((W.setCell ⟨w0.heap.size+1,0,none⟩ (.int .u64 (r*4294967296+z))).drew).setCell ⟨w.heap.size+1,j,none⟩ (.int .u32 ((r*4294967296+z)/2^s))).drew w.heap.size (w.heap.size+1) X.length ((stA X (2^s) pre).1.set j ((r*4294967296+z)/2^s)):=h6.set j _
            exact h7.other (by omega)
      dsimp only
      rw[ez]at hzU ⊢
      rw[er]at h3 k3 k4
      rw[eo]at e5
      have hor:=or_hl r z k3 (by omega) hzU
      unfold U32 at hzU
      obtain⟨q0,q1⟩:=div_small (x:=r*4294967296+z) (d:=2^s) (by omega) hd (by omega)
      have hand:=and_low s hs (r*4294967296+z) (by omega) (by omega)
      have hsh:(2:Int)^s<18446744073709551616:=by omega
      have hw1:IntKind.u32.wrap ((r*4294967296+z)/2^s)=(r*4294967296+z)/2^s:=by rw[IntKind.wrap_u32];exact Int.emod_eq_of_lt q0 q1
      have hw2:IntKind.u64.wrap (2^s)=2^s:=u64_small (by omega) hsh
      have hw3:IntKind.u64.wrap (2^s-1)=2^s-1:=u64_small (by omega) (by omega)
      gi_wp2
      refine region_inRound hmx (noDefer_ok c_3) ?_
      refine sI 1 ?_
      refine wpAnyIn_ready (rs:=[0,2,3]) c_3 (by simp) ?_
      refine AllReadyIn.cons rfl (fun K hK=> ?_) ?_
      · go_simp
        refine hK _ _ ?_
        clear hK K
        try simp only[sx_]
        refine wpAnyIn_ready (rs:=[2,3]) c_3 (by simp) ?_
        refine AllReadyIn.cons rfl (fun K hK=> ?_) ?_
        · exact T_DR_2
        refine AllReadyIn.cons rfl (fun K hK=> ?_) AllReadyIn.nil
        go_simp
        refine hK _ _ ?_
        clear hK K
        try simp only[sx_]
        refine sI 4 ?_
        exact T_DR_3
      refine AllReadyIn.cons rfl (fun K hK=> ?_) ?_
      · go_simp
        refine hK _ _ ?_
        clear hK K
        try simp only[sx_]
        refine wpAnyIn_ready (rs:=[0,3]) c_3 (by simp) ?_
        refine AllReadyIn.cons rfl (fun K hK=> ?_) ?_
        · exact T_DR_2
        refine AllReadyIn.cons rfl (fun K hK=> ?_) AllReadyIn.nil
        go_simp
        refine hK _ _ ?_
        clear hK K
        try simp only[sx_]
        refine sI 4 ?_
        exact T_DR_5
      refine AllReadyIn.cons rfl (fun K hK=> ?_) AllReadyIn.nil
      go_simp
      refine hK _ _ ?_
      clear hK K
      try simp only[sx_]
      refine sI 4 ?_
      refine wpAnyIn_ready (rs:=[0,2]) c_3 (by simp) ?_
      refine AllReadyIn.cons rfl (fun K hK=> ?_) ?_
      · go_simp
        refine hK _ _ ?_
        clear hK K
        try simp only[sx_]
        exact T_DR_3
      refine AllReadyIn.cons rfl (fun K hK=> ?_) AllReadyIn.nil
      go_simp
      refine hK _ _ ?_
      clear hK K
      try simp only[sx_]
      exact T_DR_5
    case done=>
      rintro D ys W hD hys ⟨⟨h1,h2,h3,h4,h5⟩,hB⟩ hK2
      obtain⟨k1,k2,k3,k4⟩:=stA_ok lX hd ys
      have hv:=short_all lX hd hys
      generalize stA X (2^s) ys=st at*
      obtain⟨qs,r⟩:=st
      have hL:Lim W (.slice (some ⟨w.heap.size+1,0,none⟩) X.length X.length) qs:=R32.lim h5 k2 (by first|omega|decide)
      dsimp only at h3 k3 k4 hv
      clear h5 h1 h4 hys
      gi_wp2
      refine wpIn_wide.2 ?_
      refine wp_region_noPanic ?_
      go_quiet (fail)
      refine NoPanic.normal ?_
      gi_wp2
      have hK3:(W.drewN nq).heap[D]? =some (.deferred (some [])):=hK2
      have hL3:Lim (W.drewN nq) (.slice (some ⟨w.heap.size+1,0,none⟩) X.length X.length) qs:=hL
      have hB3:Below w.heap.size w (W.drewN nq):=hB.trans ⟨rfl,rfl,rfl,Nat.le_refl _,fun _ _=>rfl⟩
      refine⟨by simp,.inl ⟨_,_,rfl,run_takeDeferred hK3, ?_⟩⟩
      refine⟨.tuple #[.slice (some ⟨w.heap.size+1,0,none⟩) X.length X.length,.bool (decide (0<r))], ?_,_,qs,r,rfl,hL3.kept (grownBy_putObj' _ D (.deferred none)) (fun q e=>by cases e;exact⟨_,hK3,rfl⟩),hv,k3,k4, ?_⟩
      · simp[results,Tryz.f84,go_sem]
      · exact hB3.trans (belowK_b (w:=w) (Nat.le_refl _) _ D _ _ (by simp at hD;omega) hK3 rfl rfl)
    case stop=>
      rintro D c pre W _ _ h _
      exact h.elim
theorem w_right (va:Value) (X:List Int) (s:Nat) (w:World) (ha:Lim w va X) (hs:s<32) (hx:X.length≤100000):
    K_ 84 #[va,O s] w fun e w'=>∃u qs r,e=.returned (.tuple #[u,.bool (decide (0<r))])∧Lim w' u qs∧val qs*2^s+r=val X∧0≤r∧r<2^s∧Ext w w':=
  (callsIn_wide (n:=6)).1 (right_in va X s w ha hs hx)
theorem w_left0 (va:Value) (X:List Int) (s:Nat) (w:World) (ha:Lim w va X) (hx:X.length≤100000) (hs:s<32):
    K_ 82 #[va,O s] w fun e w'=>∃g cap zs,e=.returned (.slice (some ⟨g,0,none⟩) zs.length cap)∧O32 w' w.heap.size g zs.length cap zs∧Lb zs∧val zs=val X*2^s∧zs.length=X.length+1∧Ext w w':=by
 have h:=w_left va X 0 s w ha hx hs (by decide)
 simp only[Int.natCast_zero,Int.mul_zero,Int.zero_add,Nat.mul_zero,Nat.zero_add,show((0:Nat):Int)=0 from rfl]at h
 exact h
theorem w_step_n (m:Nat) {V':List Int} (hm:V'.length=m) (g o n cap cu:Nat) (U Y':List Int) (vb:Value) (w:World) (hU:O32 w 0 g n cap U) (hon:o+(m+1)≤n) (hcu:m+1≤cu∧cu≤9223372036854775807) (hb:Lim w vb V') (hoff:Off vb g) (hUb:Lb U) (h1:1≤m) (hY:m≤50000)
    (hlt:val ((U.drop o).take (m+1))<BB*val V'):
    K_ 140 #[.slice (some ⟨g,o,none⟩) (m+1) cu,vb] w fun e w'=>∃d R,e=.returned (.int .u32 d)∧U32 d∧O32 w' 0 g n cap (U.take o++(R++U.drop (o+(m+1))))∧R.length=m+1∧Lb R∧val R=val ((U.drop o).take (m+1))-d*val V'∧val R<val V'∧w.grownBy w' (some g):=by
 subst hm;exact w_step g o n cap cu U V' vb w hU hon hcu hb hoff hUb h1 hY hlt
theorem w_divideG (va vb:Value) (X Y:List Int) (n1:Nat) (w:World) (ha:Lim w va X) (hb0:Lim w vb Y) (hX:Nz X) (hY:Nz Y) (hx:X.length≤49999) (hYl:Y.length=n1+2) (hle:val Y≤val X):
    K_ 83 #[va,vb] w (DivPost X Y w):=by
  have hcm:=w_compare va vb X Y w ha hb0 hX hY
  have lX:=ha.lb
  have lY:=hb0.lb
  have hlen:Y.length≤X.length:=by
    rcases Nat.lt_or_ge X.length Y.length with h|h
    · have:=val_lt_of_len lX lY hY h;omega
    · exact h
  have hc0:decide (cmpI (val X) (val Y)<0)=false:=decide_eq_false (by unfold cmpI;rw[if_neg (by omega)];split<;>omega)
  obtain⟨c,ec⟩:∃c,cmpI (val X) (val Y)=c:=⟨_,rfl⟩
  rw[ec]at hcm hc0
  obtain⟨bo,b2,o2,cap2,rfl,y1,y2,y3,y4,y5,y6⟩:=hb0.view
  have e:=y1 (by omega)
  subst e
  have hbl:=y4 (by omega)
  have hcell:=y5 (n1+1) (by omega)
  have hyU:U32 (Y.getD (n1+1) 0):=lY.getD _
  have hy0:Y.getD (n1+1) 0≠0:=by
    refine hY _ ?_
    rw[List.getLast?_eq_getElem?,hYl,List.getD_eq_getElem?_getD,List.getElem?_eq_getElem (show n1+1<Y.length by omega)]
    simp
  obtain⟨y,ey⟩:∃y,Y.getD (n1+1) 0=y:=⟨_,rfl⟩
  rw[ey]at hcell hyU hy0
  rw[hYl]at hcm hb0 ⊢
  clear ec y5 y4 y1
  go_enter Tryz.func83,Tryz.ntmps83
  go_upto_region 8 with(first
    | (go_at_call 86;(with_reducible refine hcm.mono ?_);rintro e w1 ⟨rfl,hb1⟩;have hc1:=(hb1.cells.1 b2 (o2+(n1+1)) hbl).trans hcell)
    | (go_at_call 139;(with_reducible refine(w_lead y _ hyU hy0).mono ?_);rintro e w2 ⟨s,rfl,hs,hsl,hsh,rfl⟩))
  refine wp_region_held_drew (S:=(fun w0=>Ext w2 w0)) c_3 ?_ (fun hHeld=> ?_)
  · exact(Ext.refl w2).drew
  try simp only[sx_]
  refine sK 0 ?_
  refine sK 1 ?_
  refine sK 3 ?_
  refine sK 5 ?_
  refine sK 6 ?_
  refine rh1 2 rfl fun K hK=> ?_
  go_simp
  (go_at_call 82;(with_reducible refine(w_left0 _ Y s _ (hb0.ext (hb1.trans hHeld)) (by omega) hs).mono ?_);rintro e t1 ⟨gv,cv,Z,rfl,hOv,lZ,vZ,nZ,hx1⟩;have pv:=hOv.parts)
  refine hK.out _ _ ?_ fun _=> ?_
  · (try dsimp only);exact hHeld.trans hx1
  clear hK K hHeld
  rename_i hHeld
  try simp only[sx_]
  refine tk 4 rfl (by intro w0 hSw;go_simp;rw[if_pos (by omega),show((n1:Int)+2).toNat=n1+2 from by omega];try with_reducible rfl) ?_
  try simp only[sx_]
  refine rh1 7 rfl fun K hK=> ?_
  go_simp
  (go_at_call 82;(with_reducible refine(w_left0 _ X s _ (ha.ext (hb1.trans hHeld)) (by omega) hs).mono ?_);rintro e t2 ⟨gu,cu,U0,rfl,hOu,lU0,vU0,nU0,hx2⟩;have pu:=hOu.parts;rw[nU0]at hOu pu)
  refine hK.out _ _ ?_ fun _=> ?_
  · (try dsimp only);exact hHeld.trans hx2
  clear hK K hHeld
  rename_i hHeld
  try simp only[sx_]
  refine sK 8 ?_
  refine sK 9 ?_
  refine wpAnyH_done c_3 ?_ _
  have hs1:=hHeld.size
  obtain⟨vV,lenV⟩:=top_fits (n:=n1+1) hs (by omega) lY lZ (by omega) vZ (by rw[ey];exact hsl)
  have lV:Lb (Z.take (n1+1+1)):=lZ.take _
  have hOv2:O32 t2 0 gv (n1+2) cv (Z.take (n1+1+1)):=((hOv.ext hx2).base (Nat.zero_le _)).take (n1+2) (by omega)
  have hLv:Lim t2 (.slice (some ⟨gv,0,none⟩) (n1+2) cv) (Z.take (n1+1+1)):=hOv2.lim lV (by omega)
  obtain⟨V,eV⟩:∃V,Z.take (n1+1+1)=V:=⟨_,rfl⟩
  rw[eV]at vV lenV lV hLv
  have hOu2:O32 t2 0 gu (X.length+1) cu U0:=hOu.base (Nat.zero_le _)
  have hE2:Ext w t2:=hb1.trans hHeld
  have hsz1:=hb1.size
  have hgv:w.heap.size≤gv∧gv<t1.heap.size∧t1.heap.size≤t2.heap.size∧t1.heap.size≤gu∧gu<t2.heap.size:=by
    have a1:=hx1.size;have a2:=hx2.size;have hdz:w2.drew.heap.size=w2.heap.size:=rfl;omega
  obtain⟨N,hN⟩:∃N,X.length=N+(n1+1):=⟨X.length-(n1+1),by omega⟩
  have hU0:val U0<BB^N*val V:=by
    rw[vU0,vV, ←Int.mul_assoc]
    refine Int.mul_lt_mul_of_pos_right ?_ (Int.pow_pos (by decide))
    have q1:=val_lt lX
    have q2:=val_pos lY hY (by rintro rfl;simp at hYl)
    rw[hN,Int.pow_add]at q1
    rw[hYl]at q2
    exact Int.lt_of_lt_of_le q1 (Int.mul_le_mul_of_nonneg_left q2 (Int.pow_nonneg (by decide)))
  have hV2:Hid (val V=val Y*2^s):=vV
  have hU2:Hid (val U0=val X*2^s):=vU0
  obtain⟨i0,hi,hz0,hz1,hz2⟩:=info_parts info81
  clear hOv hOu hOv2 hx1 hx2 hHeld hc1 hcell vV vU0 vZ eV hc0 hsl hsh ey hyU hy0 lZ nZ
  go_wp2_with (at_make;refine wpList_make_full _ rfl _ _ 22 rfl t2.heap.size 54 i0 (.int .u32 0) 1 Tryz.underlying22 hi hz0 hz1 .i64 .i64 _ _ N rfl rfl (by omega) (by omega) c_48 c_31 (Nat.le_refl _) ?_;intro w5 hown5 hgrow5)
  have hR5:R32 w5 t2.heap.size t2.heap.size N (List.replicate N 0):=R32.made hown5
  have hE5:Ext t2 w5:=Ext.grown (Ext.refl _) hgrow5
  have hOu5:=hOu2.ext hE5
  have hLv5:=hLv.ext hE5
  have hEw5:=hE2.trans hE5
  clear hown5 hgrow5 hOu2 hLv
  go_loopw [12] (fun i wr=>∃(k:Nat) (U Q:List Int),k≤N∧i=O ((k:Int)-1)∧Lb U∧Lb Q∧Hid (∀i,i<k→Q.getD i 0=0)∧Hid (val U+val Q*val V=val U0)∧val U<BB^k*val V∧
      Hid (O32 wr 0 gu (X.length+1) cu U)∧Hid (Lim wr (.slice (some ⟨gv,0,none⟩) (n1+2) cv) V)∧Hid (R32 wr t2.heap.size t2.heap.size N Q)∧Hid (Ext w wr)) (fun i _=>(intOf i+1).toNat)
  case atStart=>exact⟨N,U0,List.replicate N 0,Nat.le_refl _,by go_num,lU0,fun y hy=>by rw[List.eq_of_mem_replicate hy];exact⟨by decide,by decide⟩,(fun i _=>by simp[List.getD_eq_getElem?_getD,List.getElem?_replicate];split<;>rfl:∀i,i<N→_),(by rw[val_zeros];simp:val U0+_=_),hU0,hOu5,hLv5,hR5,hEw5⟩
  case round=>
    obtain⟨k,U,Q,hk,rfl,lU,lQ,hQ0,hval,hUk,HU,HV,HQ,HE⟩:=hrel
    have hpU:=HU.out.parts
    have hQl:=HQ.out.len
    have hUl:=HU.out.len
    have hglt:=HQ.out.lt
    cases k with
    |zero=>
      have hLu:=HU.out.lim lU (by omega)
      rw[hN]at hLu
      have hLq:=HQ.out.lim lQ (by omega)
      have hti:=trim_le U
      have hfin:=hval
      have hp0:(0:Int)<2^s:=Int.pow_pos (by decide)
      clear hval
      go_upto_region 15 with(first
        | (go_at_call 81;(with_reducible refine(w_trim _ U _ hLu).mono ?_);rintro e w6 ⟨u6,rfl,hu6,hb6⟩)
        | (go_at_call 84;(with_reducible refine(w_right _ _ s _ hu6 hs (by omega)).mono ?_);rintro e w7 ⟨u7,qs,rr,rfl,hu7,hrv,rr0,rr1,hb7⟩))
      have hLq7:=hLq.ext (hb6.trans hb7)
      clear hLu hLq hu6
      go_wp2_with (first
        | (go_at_call 81;(with_reducible refine(w_trim _ Q _ hLq7).mono ?_);rintro e w8 ⟨u8,rfl,hu8,hb8⟩;have hu7b:=hu7.ext hb8;clear hLq7 hu7)
        | (go_at_call 81;(with_reducible refine(w_trim _ qs _ hu7b).mono ?_);rintro e w9 ⟨u9,rfl,hu9,hb9⟩))
      go_ret2
      obtain⟨m1,m2⟩:=div_fin (val_trim U) hrv rr0 rr1 hp0 hfin.out hV2.out hU2.out (by rw[Int.pow_zero,Int.one_mul]at hUk;exact hUk)
      exact⟨_,_,trimL Q,trimL qs,rfl,hu8.ext hb9,hu9,trim_nz _,trim_nz _,by rw[val_trim,val_trim];exact m1,by rw[val_trim];exact m2,HE.out.trans (hb6.trans (hb7.trans (hb8.trans hb9)))⟩
    |succ j=>
      obtain⟨hm,hz⟩:=div_pre lU lV lenV (j:=j) (by omega) hUk
      have hgj:=HQ.out.cell (k:=j) (by omega)
      have hgf:=HQ.out.frozen j
      have hlj:j+(n1+2)+1-j=n1+2+1:=by omega
      have hst:=fun cuj hcuj=>w_step_n (n1+2) lenV gu j (X.length+1) cu cuj U V _ wr HU.out (by omega) hcuj HV.out (Off.mk (by omega)) lU (by omega) (by omega) hm
      go_wp2_with (go_at_call 140;(with_reducible refine(hst _ (by omega)).mono ?_);rintro e w6 ⟨d,R,rfl,hdU,hO6,lenR,lR,hRv,hRlt,hgr6⟩;have HQ6:O32 w6 t2.heap.size t2.heap.size N N Q:=(HQ.out.own).grownAt hgr6 (by omega);have c6:=HQ6.cell (k:=j) (by omega);have f6:=HQ6.frozen j)
      obtain⟨p1,p2⟩:=div_post lU lR lenR (V:=V) (j:=j) (n:=n1+2) (by omega) hz hRv hRlt
      have hsv:=set_val (d:=d) (show j<Q.length by omega) (hQ0.out j (by omega))
      have HO9:Hid (O32 (w6.setCell ⟨t2.heap.size,j,none⟩ (.int .u32 d)) 0 gu (X.length+1) cu (U.take j++(R++U.drop (j+(n1+2+1))))):=hO6.other _ (by omega)
      have HL9:Hid (Lim (w6.setCell ⟨t2.heap.size,j,none⟩ (.int .u32 d)) (.slice (some ⟨gv,0,none⟩) (n1+2) cv) V):=(HV.out.grownAt hgr6 (Off.mk (by omega))).grownAt (grown_set (k:=j) (World.grownBy.refl _ (some t2.heap.size)) _) (Off.mk (by omega))
      have HQ9:Hid (R32 (w6.setCell ⟨t2.heap.size,j,none⟩ (.int .u32 d)) t2.heap.size t2.heap.size N (Q.set j d)):=(HQ6.set j d:O32 _ _ _ _ _ _)
      have HE9:Hid (Ext w (w6.setCell ⟨t2.heap.size,j,none⟩ (.int .u32 d))):=(ext_in HE.out hgr6 (by omega)).setCell (p:=⟨t2.heap.size,j,none⟩) c_57 _
      have hvv:val (U.take j++(R++U.drop (j+(n1+2+1))))+val (Q.set j d)*val V=val U0:=by
        rw[p1,hsv, ←hval.out];grind
      go_roundw
      case rel=>exact⟨j,_,Q.set j d,by omega,rfl,(lU.take j).append (lR.append (lU.drop _)),lQ.set j hdU,(fun i hi=>by rw[set_low hi];exact hQ0.out i (by omega):∀i,i<j→_),hvv,p2,HO9,HL9,HQ9,HE9⟩
      case measure=>simp[intOf]
theorem w_divideA (va vb:Value) (X Y:List Int) (w:World) (ha:Lim w va X) (hb0:Lim w vb Y) (hX:Nz X) (hY:Nz Y) (hx:X.length≤49999) (h0:0<Y.length):
    K_ 83 #[va,vb] w (DivPost X Y w):=by
 by_cases h1:val X<val Y∨Y.length=1
 ·exact w_divide va vb X Y w ha hb0 hX hY (by omega) h1
 ·exact w_divideG va vb X Y (Y.length-2) w ha hb0 hX hY hx (by omega) (by omega)
end Go.Proofs.YtaoioncjmfcolaaGreat
