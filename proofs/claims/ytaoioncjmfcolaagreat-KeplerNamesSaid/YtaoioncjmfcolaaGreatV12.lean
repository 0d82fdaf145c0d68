/- trig: the arc tangent. -/
import Derived.Test.YtaoioncjmfcolaaGreatV11
import Derived.Test.YtaoioncjmfcolaaGreatV06
set_option linter.unusedSimpArgs false
set_option linter.unusedVariables false
set_option maxRecDepth 100000
set_option maxHeartbeats 4000000
namespace Go.Proofs.YtaoioncjmfcolaaGreat
open Go.RowKit
theorem T_TB_4 {p:Prop} (h:p:=by
 clear hK K hH
 rename_i hH
 try simp only[sx_]
 refine wpAnyH_done c_3 ?_ _
 go_wp2_with fail
 go_meet
 exact⟨_,rfl,hH,c_33,hst⟩):p:=h
theorem T_TB_3 {p:Prop} (h:p:=by
 clear hK K hH
 rename_i hH
 try simp only[sx_]
 refine rh1 2 rfl fun K hK=> ?_
 go_simp
 (go_at_call 169;(with_reducible refine(t_shiftU _ 1 p _ hf1 sz1 hp2 hp3).mono ?_);rintro e w2 ⟨y2,rfl,hf2,hx⟩)
 replace hf1:=hf1.ext hx
 replace hbk:=hbk.ext hx
 refine hK.out _ _ ?_ fun _=> ?_
 ·exact b_10
 exact T_TB_2):p:=h
theorem T_TB_2 {p:Prop} (h:p:=by
 clear hK K hH
 rename_i hH
 try simp only[sx_]
 refine rh1 4 rfl fun K hK=> ?_
 go_simp
 (go_at_call 134;(with_reducible refine(t_numZ (n:Int) _ (by omega) (by omega)).mono ?_);rintro e w3 ⟨y3,rfl,hf3,hx⟩)
 replace hf1:=hf1.ext hx
 replace hf2:=hf2.ext hx
 replace hbk:=hbk.ext hx
 refine hK.out _ _ ?_ fun _=> ?_
 ·exact b_10
 exact T_TB_1):p:=h
theorem T_TB_1 {p:Prop} (h:p:=by
 clear hK K hH
 rename_i hH
 try simp only[sx_]
 refine rh1 5 rfl fun K hK=> ?_
 go_simp
 (go_at_call 145;(with_reducible refine(t_div _ _ (2^p) n _ (hf2.natE hpw) hf3.nat hps hns hn0).mono ?_);rintro e w4 ⟨y4,rfl,hf4,hx⟩)
 replace hf1:=hf1.ext hx
 replace hf2:=hf2.ext hx
 replace hf3:=hf3.ext hx
 replace hbk:=hbk.ext hx
 obtain⟨ao4,cap4,rfl,hf5⟩:=hf4.open
 refine hK.out _ _ ?_ fun _=> ?_
 ·exact b_10
 clear hK K hH
 rename_i hH
 try simp only[sx_]
 refine rh1 7 rfl fun K hK=> ?_
 obtain⟨⟨xa,h3a⟩,⟨xb,h3b⟩,h3f,hnu,hsl⟩:=hbk
 have hst:=Bx2.store ⟨⟨xa,h3a⟩,⟨xb,h3b⟩,h3f,hnu,hsl⟩ hf5.wid
 go_simp
 refine hK.out _ _ ?_ fun _=> ?_
 ·exact b_11
 exact T_TB_4):p:=h
theorem sz1:Sz 1:=small_bits (k:=1) (by decide) (by decide)
def Ball (w:World) (v:Value) (x r:Int):Prop:=∃s u,v=.agg #[.bool s,u,O r]∧Wid w (.agg #[.bool s,u]) x
theorem Ball.ext {a w:World} {v:Value} {x r:Int} (h:Ball a v x r) (k:Ext a w):Ball w v x r:=by
 obtain⟨s,u,e,hu⟩:=h;exact⟨s,u,e,hu.ext k⟩
theorem Ball.open {w:World} {v:Value} {x r:Int} (h:Ball w v x r):∃s ao n cap,v=.agg #[.bool s,.slice ao n cap,O r]∧Wid w (.agg #[.bool s,.slice ao n cap]) x:=by
 obtain⟨s,u,rfl,hu⟩:=h
 obtain⟨s',ao,n,cap,e,hw⟩:=hu.open
 cases e
 exact⟨_,ao,n,cap,rfl,hw⟩
theorem noU3 {a b c:Value} (ha:∀z,a≠ .int .u32 z) (hb:∀z,b≠ .int .u32 z) (hc:∀z,c≠ .int .u32 z) (o:Nat) (z:Int):(#[a,b,c]:Array Value)[o]? ≠some (.int .u32 z):=by
 match o with
 |0=>simpa using ha z
 |1=>simpa using hb z
 |2=>simpa using hc z
 |o+3=>simp
theorem t_arctan (n p F:Nat) (v:Int) (cnt:Nat) (w:World) (hn0:0<n) (hn:n≤1000) (hp:p≤1000) (hF:F≤100000) (hcnt:cnt≤100000) (hr:atanF n F 0 (2^p/n) 0=some (v,cnt)):
    K_ 160 #[O n,O p] w fun e w'=>∃u,e=.returned u∧Ball w' u v (2*(cnt:Int)+4)∧Ext w w':=by
 have hps:Small (2^p):=small_bits (k:=p+1) (Nat.pow_lt_pow_right (by decide) (by omega)) (by omega)
 have hpw:(1:Int)*2^p=((2^p:Nat):Int):=by rw[Int.one_mul,Int.natCast_pow];rfl
 have hp3:Sz ((1:Int)*2^p):=by rw[hpw];unfold Sz;rw[Int.natAbs_natCast];exact hps
 have hp2:p≤131072:=by omega
 have hns:Small n:=small_bits (k:=64) (by omega) (by decide)
 have hnn:n*n≤1000000:=Nat.mul_le_mul hn hn
 have hnn0:0<n*n:=Nat.mul_pos hn0 hn0
 have hts:Small (2^p/n):=Small.le hps (Nat.div_le_self _ _)
 have cW0:((w.alloc (.cells #[O n] 2)).alloc (.cells #[.bool false,.slice none 0 0,O 0] 137)).cell? ⟨w.heap.size,0,none⟩=some (O n):=by simp[go_sem, ↓IntWalk.iteOmega]
 have hpl:(p:Int)≤1000:=by omega
 clear hp
 go_enter Tryz.func160,Tryz.ntmps160
 have hmf:∀(fn:Fn) (first cap:Array Value) (w:World),(Instr.makeFunc fn first cap).run Tryz.prog w=.ok (.func fn first cap) w:=fun _ _ _ _=>rfl
 go_upto_region 1 with fail
 go_cut [5,8,10,12,13] (fun s5 s8 s10 s12 s13 wx=>∃g,s5=.pointer (some ⟨g,0,none⟩)∧Ext ((w.alloc (.cells #[O n] 2)).alloc (.cells #[.bool false,.slice none 0 0,O 0] 137)) wx∧((w.alloc (.cells #[O n] 2)).alloc (.cells #[.bool false,.slice none 0 0,O 0] 137)).heap.size≤g∧WAt wx g ((2^p/n:Nat):Int))
 case first=>
  refine wp_region_held_drew (S:=(fun w0=>Ext ((w.alloc (.cells #[O n] 2)).alloc (.cells #[.bool false,.slice none 0 0,O 0] 137)) w0)) c_3 ?_ (fun hH=> ?_)
  ·exact(Ext.refl _).drew
  try simp only[sx_]
  refine sK 1 ?_
  refine tk 3 rfl (by intro w0 hSw;have q0:=(Ext.cells hSw).1 w.heap.size 0 c_26;rw[cW0]at q0;go_simp;try with_reducible rfl) ?_
  try simp only[sx_]
  refine rh2 0 6 rfl rfl (fun K hK=> ?_) fun K hK=> ?_
  ·go_simp
   (go_at_call 134;(with_reducible refine(t_numZ 1 _ (by omega) (by omega)).mono ?_);rintro e w1 ⟨y1,rfl,hf1,hx⟩)
   refine hK.out _ _ ?_ fun _=> ?_
   ·exact b_10
   clear hK K hH
   rename_i hH
   try simp only[sx_]
   refine rh2 2 6 rfl rfl (fun K hK=> ?_) fun K hK=> ?_
   ·go_simp
    (go_at_call 169;(with_reducible refine(t_shiftU _ 1 p _ hf1 sz1 hp2 hp3).mono ?_);rintro e w2 ⟨y2,rfl,hf2,hx⟩)
    replace hf1:=hf1.ext hx
    refine hK.out _ _ ?_ fun _=> ?_
    ·exact b_10
    clear hK K hH
    rename_i hH
    try simp only[sx_]
    refine rh2 4 6 rfl rfl (fun K hK=> ?_) fun K hK=> ?_
    ·go_simp
     (go_at_call 134;(with_reducible refine(t_numZ (n:Int) _ (by omega) (by omega)).mono ?_);rintro e w3 ⟨y3,rfl,hf3,hx⟩)
     replace hf1:=hf1.ext hx
     replace hf2:=hf2.ext hx
     refine hK.out _ _ ?_ fun _=> ?_
     ·exact b_10
     clear hK K hH
     rename_i hH
     try simp only[sx_]
     refine rh2 5 6 rfl rfl (fun K hK=> ?_) fun K hK=> ?_
     ·go_simp
      (go_at_call 145;(with_reducible refine(t_div _ _ (2^p) n _ (hf2.natE hpw) hf3.nat hps hns hn0).mono ?_);rintro e w4 ⟨y4,rfl,hf4,hx⟩)
      replace hf1:=hf1.ext hx
      replace hf2:=hf2.ext hx
      replace hf3:=hf3.ext hx
      obtain⟨ao4,cap4,rfl,hf5⟩:=hf4.open
      refine hK.out _ _ ?_ fun _=> ?_
      ·exact b_10
      clear hK K hH
      rename_i hH
      try simp only[sx_]
      refine rh1 6 rfl fun K hK=> ?_
      have hold:=hH
      obtain⟨hbk,hge⟩:=fresh_of (W:=((w.alloc (.cells #[O n] 2)).alloc (.cells #[.bool false,.slice none 0 0,O 0] 137))) hH
      (try simp only[size_drew,World.size_alloc]at hbk hge)
      go_simp
      refine hK.out _ _ ?_ fun _=> ?_
      ·exact b_14
      clear hK K hH
      rename_i hH
      try simp only[sx_]
      refine rh1 7 rfl fun K hK=> ?_
      have hst:=WAt.lit hf5.wid
      go_simp
      refine hK.out _ _ ?_ fun _=> ?_
      ·(try dsimp only);exact Ext.alloc hold _
      exact T_TB_4
     ·have hold:=hH
      obtain⟨hbk,hge⟩:=fresh_of (W:=((w.alloc (.cells #[O n] 2)).alloc (.cells #[.bool false,.slice none 0 0,O 0] 137))) hH
      (try simp only[size_drew,World.size_alloc]at hbk hge)
      replace hf1:=hf1.ext ((Ext.refl _).alloc (.cells #[.bool false,.slice none 0 0] 24))
      replace hf2:=hf2.ext ((Ext.refl _).alloc (.cells #[.bool false,.slice none 0 0] 24))
      replace hf3:=hf3.ext ((Ext.refl _).alloc (.cells #[.bool false,.slice none 0 0] 24))
      go_simp
      refine hK.out _ _ ?_ fun _=> ?_
      ·exact b_14
      exact T_TB_1
    ·have hold:=hH
     obtain⟨hbk,hge⟩:=fresh_of (W:=((w.alloc (.cells #[O n] 2)).alloc (.cells #[.bool false,.slice none 0 0,O 0] 137))) hH
     (try simp only[size_drew,World.size_alloc]at hbk hge)
     replace hf1:=hf1.ext ((Ext.refl _).alloc (.cells #[.bool false,.slice none 0 0] 24))
     replace hf2:=hf2.ext ((Ext.refl _).alloc (.cells #[.bool false,.slice none 0 0] 24))
     go_simp
     refine hK.out _ _ ?_ fun _=> ?_
     ·exact b_14
     exact T_TB_2
   ·have hold:=hH
    obtain⟨hbk,hge⟩:=fresh_of (W:=((w.alloc (.cells #[O n] 2)).alloc (.cells #[.bool false,.slice none 0 0,O 0] 137))) hH
    (try simp only[size_drew,World.size_alloc]at hbk hge)
    replace hf1:=hf1.ext ((Ext.refl _).alloc (.cells #[.bool false,.slice none 0 0] 24))
    go_simp
    refine hK.out _ _ ?_ fun _=> ?_
    ·exact b_14
    exact T_TB_3
  ·have hold:=hH
   obtain⟨hbk,hge⟩:=fresh_of (W:=((w.alloc (.cells #[O n] 2)).alloc (.cells #[.bool false,.slice none 0 0,O 0] 137))) hH
   (try simp only[size_drew,World.size_alloc]at hbk hge)
   go_simp
   refine hK.out _ _ ?_ fun _=> ?_
   ·exact b_14
   clear hK K hH
   rename_i hH
   try simp only[sx_]
   refine rh1 0 rfl fun K hK=> ?_
   go_simp
   (go_at_call 134;(with_reducible refine(t_numZ 1 _ (by omega) (by omega)).mono ?_);rintro e w1 ⟨y1,rfl,hf1,hx⟩)
   replace hbk:=hbk.ext hx
   refine hK.out _ _ ?_ fun _=> ?_
   ·exact b_10
   exact T_TB_3
 case rest=>
  obtain⟨g,rfl,hE,hgW,hWg⟩:=hcut
  have hB0:NoU ((w.alloc (.cells #[O n] 2)).alloc (.cells #[.bool false,.slice none 0 0,O 0] 137)) (w.heap.size+1):=by
   have:=NoU.new (w.alloc (.cells #[O n] 2)) #[.bool false,.slice none 0 0,O 0] 137 (noU3 (by simp) (by simp) (by simp))
   simpa using this
  have hnu:=hB0.ext (by simp) hE
  have hgl:=hWg.lt
  have hgU:=hWg.noU
  have hz:=hE.size
  simp only[World.size_alloc]at hz hgW
  have cN:wc.cell? ⟨w.heap.size,0,none⟩=some (O n):=(hE.cells.1 _ 0 c_26).trans cW0
  have b0:wc.cell? ⟨w.heap.size+1,0,none⟩=some (.bool false):=(hE.cells.1 _ 0 (by simp)).trans c_12
  have b1:wc.cell? ⟨w.heap.size+1,1,none⟩=some (.slice none 0 0):=(hE.cells.1 _ 1 (by simp)).trans c_12
  have b2:wc.cell? ⟨w.heap.size+1,2,none⟩=some (O 0):=(hE.cells.1 _ 2 (by simp)).trans c_12
  have b3:∀o,wc.frozen? ⟨w.heap.size+1,o,none⟩=false:=fun o=>(hE.cells.2 _ o (by simp)).trans c_12
  have hsum:=t_sumA g w.heap.size (2^p/n) n F v cnt wc hWg cN (by omega) hts hnn0 hnn hF hr
  have hEw:Ext w wc:=Ext.trans (((Ext.refl w).alloc _).alloc _) hE
  generalize 2^p/n=t0 at*
  go_wp2_with (go_at_call 175;go_loud ((with_reducible refine hsum.mono ?_);rintro e w5 ⟨y5,rfl,hy5,hg5⟩;obtain⟨s5,ao5,n5,cap5,rfl,hy6⟩:=hy5.open;have k1:=(hg5.cell (by omega) (by omega)).trans b0;have k2:=(hg5.cell (by omega) (by omega)).trans b1;have k3:=(hg5.cell (by omega) (by omega)).trans b2;have k4:=fun o=>(hg5.frozen (o:=o) (show w.heap.size+1<wc.heap.size by omega) (by omega)).trans (b3 o);have k5:=hg5.size;replace hnu:=hnu.grown hg5 (by omega) (by omega)))
  have hE5:Ext w w5:=GB.pre hEw hg5 (by omega)
  refine bodyPost_ret (v:=.agg #[.bool s5,.slice ao5 n5 cap5,O (2*(cnt:Int)+4)]) ?_ rfl ⟨_,rfl,⟨s5,.slice ao5 n5 cap5,rfl, ?_⟩, ?_⟩
  ·simp[results,Tryz.results160,go_sem, ↓IntWalk.iteOmega, *]
  ·obtain⟨u6,e6,hu6⟩:=hy6
   cases e6
   refine⟨_,rfl, ?_⟩
   repeat(first|with_reducible exact hu6|with_reducible refine Lim.box ?_ ?_|with_reducible refine NoU.set ?_ (fun z e=>by cases e)|with_reducible exact hnu|with_reducible refine NoU.alloc ?_ (by first|omega| (simp only[wsz];omega)) _ _|with_reducible refine Lim.alloc ?_ _)
  ·exact ex_
def VF.wid (n:Int):VF:=⟨fun v w=>Wid w v n,fun _ _ _ h k=>h.ext k,fun _ _ _ _ h hT k=>h.grown hT k⟩
def VF.err (f:VF) (e:Int):VF:=⟨fun v w=>∃u,v=.tuple #[u,O e]∧f.p u w,fun _ _ _ ⟨u,h,k⟩ j=>⟨u,h,f.ext _ _ _ k j⟩,fun _ _ _ _ ⟨u,h,k⟩ hT j=>⟨u,h,f.gb _ _ _ _ k hT j⟩⟩
def VF.two (f g:VF):VF:=⟨fun v w=>∃u t,v=.tuple #[u,t]∧f.p u w∧g.p t w,fun _ _ _ ⟨u,t,h,k,l⟩ j=>⟨u,t,h,f.ext _ _ _ k j,g.ext _ _ _ l j⟩,fun _ _ _ _ ⟨u,t,h,k,l⟩ hT j=>⟨u,t,h,f.gb _ _ _ _ k hT j,g.gb _ _ _ _ l hT j⟩⟩
def BF.lit (l:List Value):BF:=⟨fun g w=>(∀k v,l[k]? =some v→w.cell? ⟨g,k,none⟩=some v)∧NoU w g∧g<w.heap.size,fun g _ _ h k=>⟨fun j v hv=>(k.cells.1 g j h.2.2).trans (h.1 j v hv),h.2.1.ext h.2.2 k,Nat.lt_of_lt_of_le h.2.2 k.size⟩,
 fun g _ _ _ h _ k hne=>⟨fun j v hv=>(k.cell h.2.2 hne).trans (h.1 j v hv),h.2.1.grown k h.2.2 hne,Nat.lt_of_lt_of_le h.2.2 k.size⟩,fun _ _ h=>h.2.1,fun _ _ h=>h.2.2⟩
end Go.Proofs.YtaoioncjmfcolaaGreat
