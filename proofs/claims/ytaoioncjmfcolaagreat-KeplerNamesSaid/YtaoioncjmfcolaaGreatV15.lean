/- trig: the ratio of circumference and diameter. -/
import Derived.Test.YtaoioncjmfcolaaGreatV14
set_option linter.unusedSimpArgs false
set_option linter.unusedVariables false
set_option maxRecDepth 100000
set_option maxHeartbeats 4000000
namespace Go.Proofs.YtaoioncjmfcolaaGreat
open Go.RowKit
theorem T_TC_5 {p:Prop} (h:p:=by
 clear hK K hH
 rename_i hH
 try simp only[sx_]
 refine wpAnyH_done c_3 ?_ _
 go_wp2_with fail
 go_meet
 exact⟨_,rfl,hH,c_33,hst⟩):p:=h
theorem T_TC_4 {p:Prop} (h:p:=by
 clear hK K hH
 rename_i hH
 try simp only[sx_]
 refine rh1 4 rfl fun K hK=> ?_
 go_simp
 (go_at_call 134;(with_reducible refine(t_numZ 32 _ (by omega) (by omega)).mono ?_);rintro e w3 ⟨y3,rfl,hf3,hx⟩)
 replace hWa:=hWa.ext hx
 replace hWb:=hWb.ext hx
 replace hf1:=hf1.ext hx
 replace hf2:=hf2.ext hx
 replace hbk:=hbk.ext hx
 refine hK.out _ _ ?_ fun _=> ?_
 ·exact b_10
 exact T_TC_1):p:=h
theorem T_TC_3 {p:Prop} (h:p:=by
 clear hK K hH
 rename_i hH
 try simp only[sx_]
 refine rh1 3 rfl fun K hK=> ?_
 go_simp
 (go_at_call 132;(with_reducible refine(t_mulZ _ _ 48 a _ hf1 hWa sz48 (okN.sz hza) (okN.sz hk1)).mono ?_);rintro e w2 ⟨y2,rfl,hf2,hx⟩)
 replace hWa:=hWa.ext hx
 replace hWb:=hWb.ext hx
 replace hf1:=hf1.ext hx
 replace hbk:=hbk.ext hx
 refine hK.out _ _ ?_ fun _=> ?_
 ·exact b_10
 exact T_TC_4):p:=h
theorem T_TC_2 {p:Prop} (h:p:=by
 clear hK K hH
 rename_i hH
 try simp only[sx_]
 refine rh1 8 rfl fun K hK=> ?_
 go_simp
 (go_at_call 133;(with_reducible refine(t_addZ _ _ (48*a) (32*b) _ hf2 hf4 (okN.sz hk1) (okN.sz hk2) (okN.sz hk3)).mono ?_);rintro e w5 ⟨y5,rfl,hf5,hx⟩)
 replace hWa:=hWa.ext hx
 replace hWb:=hWb.ext hx
 replace hf1:=hf1.ext hx
 replace hf2:=hf2.ext hx
 replace hf3:=hf3.ext hx
 replace hf4:=hf4.ext hx
 replace hbk:=hbk.ext hx
 obtain⟨s6,ao6,n6,cap6,rfl,hf6⟩:=hf5.open
 refine hK.out _ _ ?_ fun _=> ?_
 ·exact b_10
 clear hK K hH
 rename_i hH
 try simp only[sx_]
 refine rh1 10 rfl fun K hK=> ?_
 obtain⟨⟨xa,h3a⟩,⟨xb,h3b⟩,h3f,hnu,hsl⟩:=hbk
 have hst:=Bx2.store ⟨⟨xa,h3a⟩,⟨xb,h3b⟩,h3f,hnu,hsl⟩ hf6
 go_simp
 refine hK.out _ _ ?_ fun _=> ?_
 ·exact b_11
 exact T_TC_5):p:=h
theorem T_TC_1 {p:Prop} (h:p:=by
 clear hK K hH
 rename_i hH
 try simp only[sx_]
 refine rh1 7 rfl fun K hK=> ?_
 go_simp
 (go_at_call 132;(with_reducible refine(t_mulZ _ _ 32 b _ hf3 hWb sz32 (okN.sz hzb) (okN.sz hk2)).mono ?_);rintro e w4 ⟨y4,rfl,hf4,hx⟩)
 replace hWa:=hWa.ext hx
 replace hWb:=hWb.ext hx
 replace hf1:=hf1.ext hx
 replace hf2:=hf2.ext hx
 replace hf3:=hf3.ext hx
 replace hbk:=hbk.ext hx
 refine hK.out _ _ ?_ fun _=> ?_
 ·exact b_10
 exact T_TC_2):p:=h
theorem sz48:Sz 48:=small_bits (k:=6) (by decide) (by decide)
theorem sz32:Sz 32:=small_bits (k:=6) (by decide) (by decide)
theorem sz20:Sz 20:=small_bits (k:=6) (by decide) (by decide)
def BAt (w:World) (g:Nat) (x r:Int):Prop:=∃s ao n cap,w.cell? ⟨g,0,none⟩=some (.bool s)∧w.cell? ⟨g,1,none⟩=some (.slice ao n cap)∧w.cell? ⟨g,2,none⟩=some (O r)∧Wid w (.agg #[.bool s,.slice ao n cap]) x
theorem BAt.ext {a w:World} {g:Nat} {x r:Int} (h:BAt a g x r) (k:Ext a w):BAt w g x r:=by
 obtain⟨s,ao,n,cap,h1,h2,h3,h4⟩:=h
 have hl:=World.block_lt_of_cell? _ _ h1
 exact⟨s,ao,n,cap,(k.cells.1 g 0 hl).trans h1,(k.cells.1 g 1 hl).trans h2,(k.cells.1 g 2 hl).trans h3,h4.ext k⟩
theorem BAt.lit {w:World} {g:Nat} {s:Bool} {ao:Option Addr} {n cap:Nat} {x r:Int} (h:Wid w (.agg #[.bool s,.slice ao n cap]) x) (hg:g=w.heap.size):BAt (w.alloc (.cells #[.bool s,.slice ao n cap,O r] 137)) g x r:=by
 subst hg
 exact⟨s,ao,n,cap,by simp[go_sem, ↓IntWalk.iteOmega],by simp[go_sem, ↓IntWalk.iteOmega],by simp[go_sem, ↓IntWalk.iteOmega],h.ext ((Ext.refl w).alloc _)⟩
def Bx3 (w:World) (g:Nat):Prop:=(∃a,w.cell? ⟨g,0,none⟩=some a)∧(∃a,w.cell? ⟨g,1,none⟩=some a)∧(∃a,w.cell? ⟨g,2,none⟩=some a)∧(∀o,w.frozen? ⟨g,o,none⟩=false)∧NoU w g∧g<w.heap.size
theorem Bx3.ext {g:Nat} {a b:World} (h:Bx3 a g) (k:Ext a b):Bx3 b g:=by
 obtain⟨⟨x,h1⟩,⟨y,h2⟩,⟨z,h3⟩,h4,h5,h6⟩:=h
 exact⟨⟨x,(k.cells.1 g 0 h6).trans h1⟩,⟨y,(k.cells.1 g 1 h6).trans h2⟩,⟨z,(k.cells.1 g 2 h6).trans h3⟩,fun o=>(k.cells.2 g o h6).trans (h4 o),h5.ext h6 k,Nat.lt_of_lt_of_le h6 k.size⟩
theorem Bx3.fresh (w:World):Bx3 (w.alloc (.cells #[.bool false,.slice none 0 0,O 0] 137)) w.heap.size:=
 ⟨⟨.bool false,by simp[go_sem, ↓IntWalk.iteOmega]⟩,⟨.slice none 0 0,by simp[go_sem, ↓IntWalk.iteOmega]⟩,⟨O 0,by simp[go_sem, ↓IntWalk.iteOmega]⟩,fun o=>by simp[go_sem, ↓IntWalk.iteOmega],NoU.new w _ _ (noU3 (by simp) (by simp) (by simp)),by simp⟩
theorem t_pi (p F:Nat) (a b c:Int) (ca cb cc:Nat) (w:World) (hp:p≤1000) (hF:F≤100000) (h1:ca≤100000) (h2:cb≤100000) (h3:cc≤100000)
    (r1:atanF 18 F 0 (2^p/18) 0=some (a,ca)) (r2:atanF 57 F 0 (2^p/57) 0=some (b,cb)) (r3:atanF 239 F 0 (2^p/239) 0=some (c,cc))
    (hk1:okN (48*a)=true) (hk2:okN (32*b)=true) (hk3:okN (48*a+32*b)=true) (hk4:okN (20*c)=true) (hk5:okN (48*a+32*b-20*c)=true):
    K_ 124 #[O p] w fun e w'=>∃u,e=.returned u∧Ball w' u (48*a+32*b-20*c) (48*(2*(ca:Int)+4)+32*(2*(cb:Int)+4)+20*(2*(cc:Int)+4))∧Ext w w':=by
 have hat1:∀w,K_ 160 #[O 18,O p] w fun e w'=>∃u,e=.returned u∧Ball w' u a (2*(ca:Int)+4)∧Ext w w':=fun w=>t_arctan 18 p F a ca w (by decide) (by decide) hp hF h1 r1
 have hat2:∀w,K_ 160 #[O 57,O p] w fun e w'=>∃u,e=.returned u∧Ball w' u b (2*(cb:Int)+4)∧Ext w w':=fun w=>t_arctan 57 p F b cb w (by decide) (by decide) hp hF h2 r2
 have hat3:∀w,K_ 160 #[O 239,O p] w fun e w'=>∃u,e=.returned u∧Ball w' u c (2*(cc:Int)+4)∧Ext w w':=fun w=>t_arctan 239 p F c cc w (by decide) (by decide) hp hF h3 r3
 have hza:okN a=true:=atanF_res r1
 have hzb:okN b=true:=atanF_res r2
 have hzc:okN c=true:=atanF_res r3
 obtain⟨ra,hra⟩:∃ra,2*(ca:Int)+4=ra:=⟨_,rfl⟩
 obtain⟨rb,hrb⟩:∃rb,2*(cb:Int)+4=rb:=⟨_,rfl⟩
 obtain⟨rc,hrc⟩:∃rc,2*(cc:Int)+4=rc:=⟨_,rfl⟩
 have l1:0≤ra∧ra≤1000000:=by omega
 have l2:0≤rb∧rb≤1000000:=by omega
 have l3:0≤rc∧rc≤1000000:=by omega
 rw[hra,hrb,hrc]
 rw[hra]at hat1
 rw[hrb]at hat2
 rw[hrc]at hat3
 have hv1:Hid (IntKind.i64.wrap (48*ra)=48*ra):=by show _=_;rw[IntKind.wrap_i64];omega
 have hv2:Hid (IntKind.i64.wrap (32*rb)=32*rb):=by show _=_;rw[IntKind.wrap_i64];omega
 have hv3:Hid (IntKind.i64.wrap (48*ra+32*rb)=48*ra+32*rb):=by show _=_;rw[IntKind.wrap_i64];omega
 have hv4:Hid (IntKind.i64.wrap (20*rc)=20*rc):=by show _=_;rw[IntKind.wrap_i64];omega
 have hv5:Hid (IntKind.i64.wrap (48*ra+32*rb+20*rc)=48*ra+32*rb+20*rc):=by show _=_;rw[IntKind.wrap_i64];omega
 clear r1 r2 r3 hra hrb hrc l1 l2 l3 h1 h2 h3
 go_enter Tryz.func124,Tryz.ntmps124
 go_upto_region 1 with fail
 go_cut [3,4,5,8,10,12] (fun s3 s4 s5 s8 s10 s12 wx=>∃g1 g2 g3,s3=.pointer (some ⟨g1,0,none⟩)∧s4=.pointer (some ⟨g2,0,none⟩)∧s5=.pointer (some ⟨g3,0,none⟩)∧Ext (w.alloc (.cells #[.bool false,.slice none 0 0,O 0] 137)) wx∧w.heap.size<g1∧w.heap.size<g2∧w.heap.size<g3∧BAt wx g1 a ra∧BAt wx g2 b rb∧BAt wx g3 c rc)
 case first=>
  go_wp2_with (first
   | (go_at_call 160;(with_reducible refine(hat1 _).mono ?_);rintro e w1 ⟨y1,rfl,hy1,hb1⟩;obtain⟨s1,ao1,n1,cap1,rfl,hw1⟩:=hy1.open;clear hat1;obtain⟨_,_,⟨hc1,hf1⟩,hz1⟩:=hb1.c3;(try simp only[wsz]at hz1 hc1 hf1))
   | (go_at_call 160;(with_reducible refine(hat2 _).mono ?_);rintro e w2 ⟨y2,rfl,hy2,hb2⟩;obtain⟨s2,ao2,n2,cap2,rfl,hw2⟩:=hy2.open;clear hat2;obtain⟨_,_,⟨hc2,hf2⟩,hz2⟩:=hb2.c3;(try simp only[wsz]at hz2 hc2 hf2))
   | (go_at_call 160;(with_reducible refine(hat3 _).mono ?_);rintro e w3 ⟨y3,rfl,hy3,hb3⟩;obtain⟨s3,ao3,n3,cap3,rfl,hw3⟩:=hy3.open;clear hat3;obtain⟨_,_,⟨hc3,hf3⟩,hz3⟩:=hb3.c3;(try simp only[wsz]at hz3 hc3 hf3)))
  go_meet
  have e1:BAt (w3.alloc (.cells #[.bool s1,.slice ao1 n1 cap1,O ra] 137)) w3.heap.size a ra:=BAt.lit (hw1.ext (Ext.trans hb2 hb3)) rfl
  have e2:BAt ((w3.alloc (.cells #[.bool s1,.slice ao1 n1 cap1,O ra] 137)).alloc (.cells #[.bool s2,.slice ao2 n2 cap2,O rb] 137)) (w3.heap.size+1) b rb:=BAt.lit ((hw2.ext hb3).ext ((Ext.refl w3).alloc (.cells #[.bool s1,.slice ao1 n1 cap1,O ra] 137))) (by simp)
  have e3:BAt (((w3.alloc (.cells #[.bool s1,.slice ao1 n1 cap1,O ra] 137)).alloc (.cells #[.bool s2,.slice ao2 n2 cap2,O rb] 137)).alloc (.cells #[.bool s3,.slice ao3 n3 cap3,O rc] 137)) (w3.heap.size+1+1) c rc:=BAt.lit ((hw3.ext ((Ext.refl w3).alloc (.cells #[.bool s1,.slice ao1 n1 cap1,O ra] 137))).ext ((Ext.refl (w3.alloc (.cells #[.bool s1,.slice ao1 n1 cap1,O ra] 137))).alloc (.cells #[.bool s2,.slice ao2 n2 cap2,O rb] 137))) (by simp)
  exact⟨_,_,_,rfl,rfl,rfl,ex_,by omega,by omega,by omega,(e1.ext ((Ext.refl _).alloc _)).ext ((Ext.refl _).alloc _),e2.ext ((Ext.refl _).alloc _),e3⟩
 case rest=>
  rename World=>V
  obtain⟨g1,g2,g3,rfl,rfl,rfl,hE,hg1,hg2,hg3,hA,hB,hC⟩:=hcut
  obtain⟨sA,aoA,nA,capA,a0,a1,a2,hWa⟩:=hA
  obtain⟨sB,aoB,nB,capB,b0,b1,b2,hWb⟩:=hB
  obtain⟨sC,aoC,nC,capC,c0,c1,c2,hWc⟩:=hC
  have la:g1<V.heap.size:=World.block_lt_of_cell? _ _ a0
  have lb:g2<V.heap.size:=World.block_lt_of_cell? _ _ b0
  have lc:g3<V.heap.size:=World.block_lt_of_cell? _ _ c0
  have hB3:=(Bx3.fresh w).ext hE
  have hEw:Ext w V:=Ext.trans ((Ext.refl w).alloc _) hE
  have hzw:=hE.size
  rw[World.size_alloc]at hzw
  clear hE hat1 hat2 hat3
  go_upto_region 2 with fail
  replace hWa:=hWa.ext ((Ext.refl V).drew)
  replace hWb:=hWb.ext ((Ext.refl V).drew)
  go_cut [6,13,16,17,20,21] (fun s6 s13 s16 s17 s20 s21 wx=>∃g,s6=.pointer (some ⟨g,0,none⟩)∧Ext V wx∧V.heap.size≤g∧WAt wx g (48*a+32*b))
  case first=>
   refine wp_region_held_drew (S:=(fun w0=>Ext V w0)) c_3 ?_ (fun hH=> ?_)
   ·exact(Ext.refl _).drew
   try simp only[sx_]
   refine sK 1 ?_
   refine tk 2 rfl c_35 ?_
   try simp only[sx_]
   refine sK 5 ?_
   refine tk 6 rfl c_35 ?_
   try simp only[sx_]
   refine rh2 0 9 rfl rfl (fun K hK=> ?_) fun K hK=> ?_
   ·go_simp
    (go_at_call 134;(with_reducible refine(t_numZ 48 _ (by omega) (by omega)).mono ?_);rintro e w1 ⟨y1,rfl,hf1,hx⟩)
    replace hWa:=hWa.ext hx
    replace hWb:=hWb.ext hx
    refine hK.out _ _ ?_ fun _=> ?_
    ·exact b_10
    clear hK K hH
    rename_i hH
    try simp only[sx_]
    refine rh2 3 9 rfl rfl (fun K hK=> ?_) fun K hK=> ?_
    ·go_simp
     (go_at_call 132;(with_reducible refine(t_mulZ _ _ 48 a _ hf1 hWa sz48 (okN.sz hza) (okN.sz hk1)).mono ?_);rintro e w2 ⟨y2,rfl,hf2,hx⟩)
     replace hWa:=hWa.ext hx
     replace hWb:=hWb.ext hx
     replace hf1:=hf1.ext hx
     refine hK.out _ _ ?_ fun _=> ?_
     ·exact b_10
     clear hK K hH
     rename_i hH
     try simp only[sx_]
     refine rh2 4 9 rfl rfl (fun K hK=> ?_) fun K hK=> ?_
     ·go_simp
      (go_at_call 134;(with_reducible refine(t_numZ 32 _ (by omega) (by omega)).mono ?_);rintro e w3 ⟨y3,rfl,hf3,hx⟩)
      replace hWa:=hWa.ext hx
      replace hWb:=hWb.ext hx
      replace hf1:=hf1.ext hx
      replace hf2:=hf2.ext hx
      refine hK.out _ _ ?_ fun _=> ?_
      ·exact b_10
      clear hK K hH
      rename_i hH
      try simp only[sx_]
      refine rh2 7 9 rfl rfl (fun K hK=> ?_) fun K hK=> ?_
      ·go_simp
       (go_at_call 132;(with_reducible refine(t_mulZ _ _ 32 b _ hf3 hWb sz32 (okN.sz hzb) (okN.sz hk2)).mono ?_);rintro e w4 ⟨y4,rfl,hf4,hx⟩)
       replace hWa:=hWa.ext hx
       replace hWb:=hWb.ext hx
       replace hf1:=hf1.ext hx
       replace hf2:=hf2.ext hx
       replace hf3:=hf3.ext hx
       refine hK.out _ _ ?_ fun _=> ?_
       ·exact b_10
       clear hK K hH
       rename_i hH
       try simp only[sx_]
       refine rh2 8 9 rfl rfl (fun K hK=> ?_) fun K hK=> ?_
       ·go_simp
        (go_at_call 133;(with_reducible refine(t_addZ _ _ (48*a) (32*b) _ hf2 hf4 (okN.sz hk1) (okN.sz hk2) (okN.sz hk3)).mono ?_);rintro e w5 ⟨y5,rfl,hf5,hx⟩)
        replace hWa:=hWa.ext hx
        replace hWb:=hWb.ext hx
        replace hf1:=hf1.ext hx
        replace hf2:=hf2.ext hx
        replace hf3:=hf3.ext hx
        replace hf4:=hf4.ext hx
        obtain⟨s6,ao6,n6,cap6,rfl,hf6⟩:=hf5.open
        refine hK.out _ _ ?_ fun _=> ?_
        ·exact b_10
        clear hK K hH
        rename_i hH
        try simp only[sx_]
        refine rh1 9 rfl fun K hK=> ?_
        have hold:=hH
        obtain⟨hbk,hge⟩:=fresh_of (W:=V) hH
        (try simp only[size_drew,World.size_alloc]at hbk hge)
        go_simp
        refine hK.out _ _ ?_ fun _=> ?_
        ·exact b_14
        clear hK K hH
        rename_i hH
        try simp only[sx_]
        refine rh1 10 rfl fun K hK=> ?_
        have hst:=WAt.lit hf6
        go_simp
        refine hK.out _ _ ?_ fun _=> ?_
        ·(try dsimp only);exact Ext.alloc hold _
        exact T_TC_5
       ·have hold:=hH
        obtain⟨hbk,hge⟩:=fresh_of (W:=V) hH
        (try simp only[size_drew,World.size_alloc]at hbk hge)
        replace hWa:=hWa.ext ((Ext.refl _).alloc (.cells #[.bool false,.slice none 0 0] 24))
        replace hWb:=hWb.ext ((Ext.refl _).alloc (.cells #[.bool false,.slice none 0 0] 24))
        replace hf1:=hf1.ext ((Ext.refl _).alloc (.cells #[.bool false,.slice none 0 0] 24))
        replace hf2:=hf2.ext ((Ext.refl _).alloc (.cells #[.bool false,.slice none 0 0] 24))
        replace hf3:=hf3.ext ((Ext.refl _).alloc (.cells #[.bool false,.slice none 0 0] 24))
        replace hf4:=hf4.ext ((Ext.refl _).alloc (.cells #[.bool false,.slice none 0 0] 24))
        go_simp
        refine hK.out _ _ ?_ fun _=> ?_
        ·exact b_14
        exact T_TC_2
      ·have hold:=hH
       obtain⟨hbk,hge⟩:=fresh_of (W:=V) hH
       (try simp only[size_drew,World.size_alloc]at hbk hge)
       replace hWa:=hWa.ext ((Ext.refl _).alloc (.cells #[.bool false,.slice none 0 0] 24))
       replace hWb:=hWb.ext ((Ext.refl _).alloc (.cells #[.bool false,.slice none 0 0] 24))
       replace hf1:=hf1.ext ((Ext.refl _).alloc (.cells #[.bool false,.slice none 0 0] 24))
       replace hf2:=hf2.ext ((Ext.refl _).alloc (.cells #[.bool false,.slice none 0 0] 24))
       replace hf3:=hf3.ext ((Ext.refl _).alloc (.cells #[.bool false,.slice none 0 0] 24))
       go_simp
       refine hK.out _ _ ?_ fun _=> ?_
       ·exact b_14
       exact T_TC_1
     ·have hold:=hH
      obtain⟨hbk,hge⟩:=fresh_of (W:=V) hH
      (try simp only[size_drew,World.size_alloc]at hbk hge)
      replace hWa:=hWa.ext ((Ext.refl _).alloc (.cells #[.bool false,.slice none 0 0] 24))
      replace hWb:=hWb.ext ((Ext.refl _).alloc (.cells #[.bool false,.slice none 0 0] 24))
      replace hf1:=hf1.ext ((Ext.refl _).alloc (.cells #[.bool false,.slice none 0 0] 24))
      replace hf2:=hf2.ext ((Ext.refl _).alloc (.cells #[.bool false,.slice none 0 0] 24))
      go_simp
      refine hK.out _ _ ?_ fun _=> ?_
      ·exact b_14
      exact T_TC_4
    ·have hold:=hH
     obtain⟨hbk,hge⟩:=fresh_of (W:=V) hH
     (try simp only[size_drew,World.size_alloc]at hbk hge)
     replace hWa:=hWa.ext ((Ext.refl _).alloc (.cells #[.bool false,.slice none 0 0] 24))
     replace hWb:=hWb.ext ((Ext.refl _).alloc (.cells #[.bool false,.slice none 0 0] 24))
     replace hf1:=hf1.ext ((Ext.refl _).alloc (.cells #[.bool false,.slice none 0 0] 24))
     go_simp
     refine hK.out _ _ ?_ fun _=> ?_
     ·exact b_14
     exact T_TC_3
   ·have hold:=hH
    obtain⟨hbk,hge⟩:=fresh_of (W:=V) hH
    (try simp only[size_drew,World.size_alloc]at hbk hge)
    replace hWa:=hWa.ext ((Ext.refl _).alloc (.cells #[.bool false,.slice none 0 0] 24))
    replace hWb:=hWb.ext ((Ext.refl _).alloc (.cells #[.bool false,.slice none 0 0] 24))
    go_simp
    refine hK.out _ _ ?_ fun _=> ?_
    ·exact b_14
    clear hK K hH
    rename_i hH
    try simp only[sx_]
    refine rh1 0 rfl fun K hK=> ?_
    go_simp
    (go_at_call 134;(with_reducible refine(t_numZ 48 _ (by omega) (by omega)).mono ?_);rintro e w1 ⟨y1,rfl,hf1,hx⟩)
    replace hWa:=hWa.ext hx
    replace hWb:=hWb.ext hx
    replace hbk:=hbk.ext hx
    refine hK.out _ _ ?_ fun _=> ?_
    ·exact b_10
    exact T_TC_3
  case rest=>
   obtain⟨g,rfl,hE,hgW,hWg⟩:=hcut
   clear hWa hWb
   rename World=>U
   have hgl:=hWg.lt
   obtain⟨ao6,cap6,d0,d1,hW6,hf6⟩:=hWg.open
   have aU:=(hE.cells.1 g1 2 la).trans a2
   have bU:=(hE.cells.1 g2 2 lb).trans b2
   have cU0:=(hE.cells.1 g3 0 lc).trans c0
   have cU1:=(hE.cells.1 g3 1 lc).trans c1
   have cU2:=(hE.cells.1 g3 2 lc).trans c2
   have hzU:=hE.size
   have la2:g1<U.heap.size:=by omega
   have lb2:g2<U.heap.size:=by omega
   have lc2:g3<U.heap.size:=by omega
   have na:g1≠w.heap.size:=by omega
   have nb:g2≠w.heap.size:=by omega
   have nc:g3≠w.heap.size:=by omega
   have ng:g≠w.heap.size:=by omega
   have hEu:Ext w U:=Ext.trans hEw hE
   replace hWc:=(hWc.ext hE).ext ((Ext.refl U).drew)
   replace hB3:=(hB3.ext hE).ext ((Ext.refl U).drew)
   replace hW6:=hW6.ext ((Ext.refl U).drew)
   clear hE hWg a0 a1 a2 b0 b1 b2 c0 c1 c2 hf6
   go_upto_region 3 with fail
   refine wp_region_held_drew (S:=(fun w0=>GB w.heap.size U w0)) c_3 ?_ (fun hH=> ?_)
   ·exact(GB.refl _ _).drew
   try simp only[sx_]
   refine tk 0 rfl c_9 ?_
   try simp only[sx_]
   refine sK 2 ?_
   refine tk 3 rfl c_9 ?_
   try simp only[sx_]
   refine sK 6 ?_
   refine tk 7 rfl c_9 ?_
   try simp only[sx_]
   refine sK 8 ?_
   refine sK 9 ?_
   refine tk 10 rfl c_9 ?_
   try simp only[sx_]
   refine sK 11 ?_
   refine sK 12 ?_
   refine sK 13 ?_
   refine tk 14 rfl c_9 ?_
   try simp only[sx_]
   refine sK 15 ?_
   refine sK 16 ?_
   refine rh1 1 rfl fun K hK=> ?_
   go_simp
   (go_at_call 134;(with_reducible refine(t_numZ 20 _ (by omega) (by omega)).mono ?_);rintro e w1 ⟨y1,rfl,hf1,hx⟩)
   replace hW6:=hW6.ext hx
   replace hWc:=hWc.ext hx
   replace hB3:=hB3.ext hx
   refine hK.out _ _ ?_ fun _=> ?_
   ·exact b_12
   clear hK K hH
   rename_i hH
   try simp only[sx_]
   refine rh1 4 rfl fun K hK=> ?_
   go_simp
   (go_at_call 132;(with_reducible refine(t_mulZ _ _ 20 c _ hf1 hWc sz20 (okN.sz hzc) (okN.sz hk4)).mono ?_);rintro e w2 ⟨y2,rfl,hf2,hx⟩)
   replace hW6:=hW6.ext hx
   replace hWc:=hWc.ext hx
   replace hB3:=hB3.ext hx
   replace hf1:=hf1.ext hx
   refine hK.out _ _ ?_ fun _=> ?_
   ·exact b_12
   clear hK K hH
   rename_i hH
   try simp only[sx_]
   refine rh1 5 rfl fun K hK=> ?_
   go_simp
   (go_at_call 131;(with_reducible refine(t_subZ _ _ (48*a+32*b) (20*c) _ hW6 hf2 (okN.sz hk3) (okN.sz hk4) (okN.sz hk5)).mono ?_);rintro e w3 ⟨y3,rfl,hf3,hx⟩)
   replace hW6:=hW6.ext hx
   replace hWc:=hWc.ext hx
   replace hB3:=hB3.ext hx
   replace hf1:=hf1.ext hx
   replace hf2:=hf2.ext hx
   obtain⟨s9,ao9,n9,cap9,rfl,hf4⟩:=hf3.open
   refine hK.out _ _ ?_ fun _=> ?_
   ·exact b_12
   clear hK K hH
   rename_i hH
   try simp only[sx_]
   refine sK 17 ?_
   refine rh1 18 rfl fun K hK=> ?_
   obtain⟨⟨xa,h3a⟩,⟨xb,h3b⟩,⟨xc,h3c⟩,h3f,hnu,hsl⟩:=hB3
   rw[hv1.out,hv2.out,hv3.out,hv4.out,hv5.out]
   go_simp
   refine hK.out _ _ ?_ fun _=> ?_
   ·(try dsimp only);exact((GB.set hH _).set _).set _
   clear hK K hH
   rename_i hH
   try simp only[sx_]
   refine wpAnyH_done c_3 ?_ _
   go_wp2_with fail
   refine bodyPost_ret (v:=.agg #[.bool s9,.slice ao9 n9 cap9,O (48*ra+32*rb+20*rc)]) ?_ rfl ⟨_,rfl,⟨s9,_,rfl, ?_⟩, ?_⟩
   ·simp[results,Tryz.results124,go_sem, ↓IntWalk.iteOmega,h3a,h3b,h3c]
   ·obtain⟨u9,e9,hu9⟩:=hf4
    cases e9
    have n1:=NoU.set (j:=0) (B':=w.heap.size) (x:=.bool (decide (48*a+32*b-20*c<0))) hnu (fun z e=>by cases e)
    have n2:=NoU.set (j:=1) (B':=w.heap.size) (x:=.slice ao9 n9 cap9) n1 (fun z e=>by cases e)
    exact⟨_,rfl,Lim.box (Lim.box (Lim.box hu9 hnu) n1) n2⟩
   ·exact GB.pre hEu hH (Nat.le_refl _)
end Go.Proofs.YtaoioncjmfcolaaGreat
theorem T_REGB_1 {p:Prop} (h:p:=by
 rw[List.map_append,List.nodup_append]
 refine⟨h.nd,by simp,fun x hx y hy=> ?_⟩
 obtain⟨z,hz,rfl⟩:=List.mem_map.1 hx
 have:=lt z hz
 simp only[List.map_cons,List.map_nil,List.mem_singleton]at hy
 omega):p:=h
namespace Go.Proofs.YtaoioncjmfcolaaGreat
open Go.RowKit
theorem Ball.grown {T:Nat} {a b:World} {v:Value} {x r:Int} (h:Ball a v x r) (hT:NoU a T) (k:GB T a b):Ball b v x r:=by
 obtain⟨s,u,e,hu⟩:=h;exact⟨s,u,e,hu.grown hT k⟩
def VF.ball (x r:Int):VF:=⟨fun v w=>Ball w v x r,fun _ _ _ h k=>h.ext k,fun _ _ _ _ h hT k=>h.grown hT k⟩
theorem Bx3.grown {T g:Nat} {a b:World} (h:Bx3 a g) (k:GB T a b) (hne:g≠T):Bx3 b g:=by
 obtain⟨⟨x,h1⟩,⟨y,h2⟩,⟨z,h3⟩,h4,h5,h6⟩:=h
 exact⟨⟨x,(k.cell h6 hne).trans h1⟩,⟨y,(k.cell h6 hne).trans h2⟩,⟨z,(k.cell h6 hne).trans h3⟩,fun o=>(k.frozen h6 hne).trans (h4 o),h5.grown k h6 hne,Nat.lt_of_lt_of_le h6 k.size⟩
structure BatP (w:World) (g:Nat) (x r:Int):Prop where
 c:∃s u,w.cell? ⟨g,0,none⟩=some (.bool s)∧w.cell? ⟨g,1,none⟩=some u∧Wid w (.agg #[.bool s,u]) x
 r:w.cell? ⟨g,2,none⟩=some (O r)
 f:∀o,w.frozen? ⟨g,o,none⟩=false
 n:NoU w g
 lt:g<w.heap.size
theorem BatP.ext {g:Nat} {a b:World} {x r:Int} (h:BatP a g x r) (k:Ext a b):BatP b g x r:=by
 obtain⟨s,u,h0,h1,h2⟩:=h.c
 exact⟨⟨s,u,(k.cells.1 g 0 h.lt).trans h0,(k.cells.1 g 1 h.lt).trans h1,h2.ext k⟩,(k.cells.1 g 2 h.lt).trans h.r,fun o=>(k.cells.2 g o h.lt).trans (h.f o),h.n.ext h.lt k,Nat.lt_of_lt_of_le h.lt k.size⟩
theorem BatP.grown {T g:Nat} {a b:World} {x r:Int} (h:BatP a g x r) (hT:NoU a T) (k:GB T a b) (hne:g≠T):BatP b g x r:=by
 obtain⟨s,u,h0,h1,h2⟩:=h.c
 exact⟨⟨s,u,(k.cell h.lt hne).trans h0,(k.cell h.lt hne).trans h1,h2.grown hT k⟩,(k.cell h.lt hne).trans h.r,fun o=>(k.frozen h.lt hne).trans (h.f o),h.n.grown k h.lt hne,Nat.lt_of_lt_of_le h.lt k.size⟩
def BF.bat (x r:Int):BF:=⟨fun g w=>BatP w g x r,fun _ _ _ h k=>h.ext k,fun _ _ _ _ h hT k hne=>h.grown hT k hne,fun _ _ h=>h.n,fun _ _ h=>h.lt⟩
theorem BatP.bx {g:Nat} {w:World} {x r:Int} (h:BatP w g x r):Bx3 w g:=by
 obtain⟨s,u,h0,h1, -⟩:=h.c
 exact⟨⟨_,h0⟩,⟨_,h1⟩,⟨_,h.r⟩,h.f,h.n,h.lt⟩
theorem own_bx3 {g:Nat} {w:World} {a b c:Value} (h:(BF.own [a,b,c]).p g w):Bx3 w g:=⟨⟨_,h.1 0 _ rfl⟩,⟨_,h.1 1 _ rfl⟩,⟨_,h.1 2 _ rfl⟩,h.2.1,h.2.2.1,h.2.2.2⟩
theorem own_bx2 {g:Nat} {w:World} {a b:Value} (h:(BF.own [a,b]).p g w):Bx2 w g:=⟨⟨_,h.1 0 _ rfl⟩,⟨_,h.1 1 _ rfl⟩,h.2.1,h.2.2.1,h.2.2.2⟩
theorem Bx3.put {w:World} {g:Nat} {s:Bool} {ao:Option Addr} {n cap:Nat} {x r:Int} (h:Bx3 w g) (hw:Wid w (.agg #[.bool s,.slice ao n cap]) x):BatP (((w.setCell ⟨g,0,none⟩ (.bool s)).setCell ⟨g,1,none⟩ (.slice ao n cap)).setCell ⟨g,2,none⟩ (O r)) g x r:=by
 obtain⟨⟨a,h1⟩,⟨b,h2⟩,⟨c,h3⟩,h4,h5,h6⟩:=h
 have n1:=NoU.set (j:=0) (B':=g) (x:=.bool s) h5 (fun z e=>by cases e)
 have n2:=NoU.set (j:=1) (B':=g) (x:=.slice ao n cap) n1 (fun z e=>by cases e)
 have n3:=NoU.set (j:=2) (B':=g) (x:=O r) n2 (fun z e=>by cases e)
 refine⟨⟨s,.slice ao n cap, ?_, ?_,((hw.box (j:=0) (x:=.bool s) h5).box (j:=1) (x:=.slice ao n cap) n1).box (j:=2) (x:=O r) n2⟩, ?_,fun o=>by simp only[World.frozen?_setCell];exact h4 o,n3,by simpa using h6⟩
 ·simp[go_sem, ↓IntWalk.iteOmega,h1]
 ·simp[go_sem, ↓IntWalk.iteOmega,h2]
 ·simp[go_sem, ↓IntWalk.iteOmega,h3]
theorem BatP.putW {w:World} {g:Nat} {s:Bool} {ao:Option Addr} {n cap:Nat} {x y r:Int} (h:BatP w g x r) (hw:Wid w (.agg #[.bool s,.slice ao n cap]) y):BatP ((w.setCell ⟨g,0,none⟩ (.bool s)).setCell ⟨g,1,none⟩ (.slice ao n cap)) g y r:=by
 obtain⟨s0,u0,h1,h2, -⟩:=h.c
 have n1:=NoU.set (j:=0) (B':=g) (x:=.bool s) h.n (fun z e=>by cases e)
 have n2:=NoU.set (j:=1) (B':=g) (x:=.slice ao n cap) n1 (fun z e=>by cases e)
 have hr:=h.r
 refine⟨⟨s,.slice ao n cap, ?_, ?_,(hw.box (j:=0) (x:=.bool s) h.n).box (j:=1) (x:=.slice ao n cap) n1⟩, ?_,fun o=>by simp only[World.frozen?_setCell];exact h.f o,n2,by simpa using h.lt⟩
 ·simp[go_sem, ↓IntWalk.iteOmega,h1]
 ·simp[go_sem, ↓IntWalk.iteOmega,h2]
 ·simp[go_sem, ↓IntWalk.iteOmega,hr]
section
variable {ops:Array Oper} {V:Nat→VF} {B:List BR} {Kp:World→Prop} {a0:Act} {n0:Nat} {i:Nat} {o:Oper}
theorem ob_getN {x:Operand} (g:Nat) (q r:Int) (p:Option Nat) (hc:ChkP ops a0 B) (hop:o.op=.load 24 x)
    (h:∀(vs:Nat→Value) (gs:Nat→Nat) (w:World),Ctx ops V B Kp n0 i o vs gs w→BatP w g q r) (ha:Opd ops V a0 o x (.pointer (some ⟨g,0,none⟩)) p:=by first|exact⟨fun _=>by kernel_rfl,rfl,by kernel_rfl⟩|exact fun _=>by kernel_rfl) (hV:(V i).p=(VF.wid q).p:=by rfl)
    (hg:Gd ops V o:=by first|exact .inl rfl|exact .inr ⟨_,_,rfl,rfl,by kernel_rfl⟩) (hfr:free (B.map BR.key) i=true:=by kernel_rfl):ObI Tryz.prog ops V B Kp a0 n0 i o:=
  ob_val hc (fun vs gs w ρ hr c=>by
    obtain⟨s,u,e0,e1,e2⟩:=(h vs gs w c).c
    refine⟨.agg #[.bool s,u], ?_,by rw[hV];exact e2⟩
    have h5:=ha.get c hr
    obtain⟨dst,op,ty,pos,af,gd⟩:=o
    dsimp only at hop
    subst hop
    clear h e2 c hr ha
    go_simp) hg hfr
theorem ob_getB {x:Operand} (g:Nat) (q r:Int) (hc:ChkP ops a0 B) (hop:o.op=.load 137 x)
    (h:∀(vs:Nat→Value) (gs:Nat→Nat) (w:World),Ctx ops V B Kp n0 i o vs gs w→BatP w g q r) (hx:∀vs,rho ops a0 o vs x=.pointer (some ⟨g,0,none⟩):=by intro _;kernel_rfl) (hV:(V i).p=(VF.ball q r).p:=by rfl)
    (hg:Gd ops V o:=by first|exact .inl rfl|exact .inr ⟨_,_,rfl,rfl,by kernel_rfl⟩) (hfr:free (B.map BR.key) i=true:=by kernel_rfl):ObI Tryz.prog ops V B Kp a0 n0 i o:=
  ob_val hc (fun vs gs w ρ hr c=>by
    have hb:=h vs gs w c
    have e3:=hb.r
    obtain⟨s,u,e0,e1,e2⟩:=hb.c
    refine⟨.agg #[.bool s,u,O r], ?_,by rw[hV];exact⟨s,u,rfl,e2⟩⟩
    have h5:=(hr x).trans (hx vs)
    obtain⟨dst,op,ty,pos,af,gd⟩:=o
    dsimp only at hop
    subst hop
    clear h e2 c hr hb
    go_simp) hg hfr
theorem ob_buildB {y z:Operand} {q r:Int} (j:Nat) (p:Option Nat) (hc:ChkP ops a0 B) (hop:o.op=.build 137 #[(0,y),(1,z)]) (hy:∀vs,rho ops a0 o vs y=vs j:=by intro _;kernel_rfl) (hj:(needs o).contains j=true:=by kernel_rfl) (hVj:(V j).p=(VF.wid q).p:=by rfl)
    (hz:Opd ops V a0 o z (O r) p:=by first|exact⟨fun _=>by kernel_rfl,rfl,by kernel_rfl⟩|exact fun _=>by kernel_rfl) (hV:(V i).p=(VF.ball q r).p:=by rfl)
    (hg:Gd ops V o:=by first|exact .inl rfl|exact .inr ⟨_,_,rfl,rfl,by kernel_rfl⟩) (hfr:free (B.map BR.key) i=true:=by kernel_rfl):ObI Tryz.prog ops V B Kp a0 n0 i o:=
  ob_val hc (fun vs gs w ρ hr c=>by
    have h:=c.v j hj
    rw[hVj]at h
    obtain⟨s,ao,l,cap,e,hw⟩:=Wid.open (show Wid w (vs j) q from h)
    have e1:=((hr y).trans (hy vs)).trans e
    have e2:=hz.get c hr
    refine⟨.agg #[.bool s,.slice ao l cap,O r], ?_,by rw[hV];exact⟨s,_,rfl,hw⟩⟩
    obtain⟨dst,op,ty,pos,af,gd⟩:=o
    dsimp only at hop
    subst hop
    clear c h hw hr hz
    go_simp) hg hfr
theorem ob_putB {y z:Operand} {n:Nat} {x:BR} {q r:Int} (hx:B[n]? =some x) (j:Nat) (hc:ChkP ops a0 B) (hop:o.op=.store 137 y z) (m:Nat:=0) (hst:x.st[m]? =some i:=by rfl) (hb:x.bf (m+1)=BF.bat q r:=by rfl) (hl:late o x.st m=true:=by kernel_rfl)
    (hy:BoxPtr ops V a0 o x 0 y:=by first|exact⟨rfl,fun _=>by kernel_rfl,by kernel_rfl⟩|exact⟨none,fun _=>by kernel_rfl⟩)
    (hz:∀vs,rho ops a0 o vs z=vs j:=by intro _;kernel_rfl) (hj:(needs o).contains j=true:=by kernel_rfl) (hVj:(V j).p=(VF.ball q r).p:=by rfl) (h4:∀g w,(x.bf m).p g w→Bx3 w g:=by first|exact fun _ _ h=>own_bx3 h|exact fun _ _ h=>BatP.bx h)
    (hV:∀v w,(V i).p v w:=by exact fun _ _=>trivial) (hg:Gd ops V o:=by first|exact .inl rfl|exact .inr ⟨_,_,rfl,rfl,by kernel_rfl⟩):ObI Tryz.prog ops V B Kp a0 n0 i o:=
  ob_of hc hg fun vs gs w ρ hr c X hX=>by
    obtain⟨h1,hb0⟩:=hy.get c hx hst hl
    have hv:=c.v j hj
    rw[hVj]at hv
    have hz':=(hr z).trans (hz vs)
    obtain⟨s,ao,l,cap,e,hw⟩:=Ball.open (show Ball w (vs j) q r from hv)
    have e1:=(hr y).trans h1
    have e2:=hz'.trans e
    have hs:=(h4 _ _ hb0).put (r:=r) hw
    obtain⟨⟨xa,ea⟩,⟨xb,eb⟩,⟨xc,ec⟩,ef,en,el⟩:=h4 _ _ hb0
    obtain⟨dst,op,ty,pos,af,gd⟩:=o
    dsimp only at hop
    subst hop
    have e:(execOp ρ {dst:=dst,op:=.store 137 y z,type:=ty,pos:=pos,after:=af,guard:=gd}).run Tryz.prog w=.ok .skip (((w.setCell ⟨gs n,0,none⟩ (.bool s)).setCell ⟨gs n,1,none⟩ (.slice ao l cap)).setCell ⟨gs n,2,none⟩ (O r)):=by
      clear hs hw c hX h1 hr hz' hv
      go_simp
    rw[e]
    exact hX.out _ _ (hV _ _) (.store n m x hx hst ((((GB.refl (gs n) w).set _).set _).set _) (by rw[hb];exact hs))
theorem ob_putBN {y z:Operand} {n:Nat} {x:BR} {q q0 r:Int} (hx:B[n]? =some x) (j:Nat) (hc:ChkP ops a0 B) (hop:o.op=.store 24 y z) (m:Nat:=0) (hst:x.st[m]? =some i:=by rfl) (hb0:x.bf m=BF.bat q0 r:=by rfl) (hb:x.bf (m+1)=BF.bat q r:=by rfl) (hl:late o x.st m=true:=by kernel_rfl)
    (hy:BoxPtr ops V a0 o x 0 y:=by first|exact⟨rfl,fun _=>by kernel_rfl,by kernel_rfl⟩|exact⟨none,fun _=>by kernel_rfl⟩)
    (hz:∀vs,rho ops a0 o vs z=vs j:=by intro _;kernel_rfl) (hj:(needs o).contains j=true:=by kernel_rfl) (hVj:(V j).p=(VF.wid q).p:=by rfl)
    (hV:∀v w,(V i).p v w:=by exact fun _ _=>trivial) (hg:Gd ops V o:=by first|exact .inl rfl|exact .inr ⟨_,_,rfl,rfl,by kernel_rfl⟩):ObI Tryz.prog ops V B Kp a0 n0 i o:=
  ob_of hc hg fun vs gs w ρ hr c X hX=>by
    obtain⟨h1,hbx⟩:=hy.get c hx hst hl
    rw[hb0]at hbx
    have hv:=c.v j hj
    rw[hVj]at hv
    have hz':=(hr z).trans (hz vs)
    obtain⟨s,ao,l,cap,e,hw⟩:=Wid.open (show Wid w (vs j) q from hv)
    have e1:=(hr y).trans h1
    have e2:=hz'.trans e
    have hs:=BatP.putW hbx hw
    obtain⟨⟨xa,ea⟩,⟨xb,eb⟩,⟨xc,ec⟩,ef,en,el⟩:=BatP.bx hbx
    obtain⟨dst,op,ty,pos,af,gd⟩:=o
    dsimp only at hop
    subst hop
    have e:(execOp ρ {dst:=dst,op:=.store 24 y z,type:=ty,pos:=pos,after:=af,guard:=gd}).run Tryz.prog w=.ok .skip ((w.setCell ⟨gs n,0,none⟩ (.bool s)).setCell ⟨gs n,1,none⟩ (.slice ao l cap)):=by
      clear hs hw c hX h1 hr hz' hv hbx
      go_simp
    rw[e]
    exact hX.out _ _ (hV _ _) (.store n m x hx hst (((GB.refl (gs n) w).set _).set _) (by rw[hb];exact hs))
end
theorem KBd.push {w W W':World} {L:List (Nat×BF)} (h:KBd w L W) (k:Ext W W') (bf:BF) (hb:bf.p W.heap.size W'):KBd w (L++[(W.heap.size,bf)]) W':=by
 have h2:=h.ext k
 have lt:∀x∈L,x.1<W.heap.size:=fun x hx=>x.2.lt _ _ (h.b.mem x hx)
 refine⟨h2.e,Bxs.of fun x hx=> ?_, ?_,fun x hx=> ?_⟩
 ·rcases List.mem_append.1 hx with hx|hx
  ·exact h2.b.mem x hx
  ·rw[List.mem_singleton.1 hx];exact hb
 ·exact T_REGB_1
 ·rcases List.mem_append.1 hx with hx|hx
  ·exact h.ge x hx
  ·rw[List.mem_singleton.1 hx];exact h.e.size
theorem BatP.new {w:World} {s:Bool} {u:Value} {x r:Int} (h:Wid w (.agg #[.bool s,u]) x):BatP (w.alloc (.cells #[.bool s,u,O r] 137)) w.heap.size x r:=by
 obtain⟨s',ao,n,cap,e,hw⟩:=Wid.open h
 obtain⟨rfl,rfl⟩:s=s'∧u=.slice ao n cap:=by injection e with e3;simpa using e3
 exact⟨⟨s,_,by simp[go_sem],by simp[go_sem],hw.ext ((Ext.refl w).alloc _)⟩,by simp[go_sem],fun o=>by simp[go_sem],NoU.new w _ _ (noU3 (by simp) (by simp) (by simp)),by simp⟩
section
variable {ops:Array Oper} {V:Nat→VF} {B:List BR} {Kp:World→Prop} {a0:Act} {n0:Nat} {i:Nat} {o:Oper}
theorem ob_callF {f:Nat} {x:Operand} {caps:List Value} {args:Array Operand} {tys:Array TypeId} (j:Nat) (av:(Nat→Value)→List Value) (hc:ChkP ops a0 B) (hop:o.op=.call ⟨.value x,args,tys⟩) (hx:∀vs,rho ops a0 o vs x=vs j:=by intro _;kernel_rfl) (hVj:(V j).p=(VF.eq (.func (.func f) #[] caps.toArray)).p:=by rfl) (hj:(needs o).contains j=true:=by kernel_rfl)
    (h:∀(vs:Nat→Value) (gs:Nat→Nat) (w:World),Ctx ops V B Kp n0 i o vs gs w→K_ f (av vs++caps).toArray w fun e w'=>∃u,e=.returned u∧(V i).p u w'∧Ext w w')
    (hg:Gd ops V o:=by first|exact .inl rfl|exact .inr ⟨_,_,rfl,rfl,by kernel_rfl⟩) (has:∀vs,args.toList.map (rho ops a0 o vs)=av vs:=by intro vs;kernel_rfl) (hfr:free (B.map BR.key) i=true:=by kernel_rfl) (hp:plainFn Tryz.prog f=true:=by kernel_rfl):ObI Tryz.prog ops V B Kp a0 n0 i o:=
  ob_of hc hg fun vs gs w ρ hr c X hX=>by
    have hv:=c.v j hj
    rw[hVj]at hv
    have e0:ρ x=_:=((hr x).trans (hx vs)).trans hv
    have e:args.map ρ=(av vs).toArray:=by
      rw[←has vs, ←List.map_toArray,Array.toArray_toList]
      exact Array.map_congr_left fun y _=>hr y
    have hcl:=h vs gs w c
    obtain⟨dst,op,ty,pos,af,gd⟩:=o
    dsimp only at hop
    subst hop
    clear c hr hv
    go_simp
    rw[run_enter hp]
    refine Calls.mono hcl fun e w' he=> ?_
    obtain⟨u,rfl,hu,hb⟩:=he
    exact hX.out _ _ hu (.plain hfr hb)
end
theorem KBd.new {w W:World} {L:List (Nat×BF)} (h:KBd w L W) (l:List Value) (T:TypeId) (hl:∀v∈l,∀z,v≠ .int .u32 z):KBd w (L++[(W.heap.size,BF.own l)]) (W.alloc (.cells l.toArray T)):=by
 have h2:=h.ext ((Ext.refl W).alloc (.cells l.toArray T))
 have lt:∀x∈L,x.1<W.heap.size:=fun x hx=>x.2.lt _ _ (h.b.mem x hx)
 refine⟨h2.e,Bxs.of fun x hx=> ?_, ?_,fun x hx=> ?_⟩
 ·rcases List.mem_append.1 hx with hx|hx
  ·exact h2.b.mem x hx
  ·rw[List.mem_singleton.1 hx];exact own_new W l T hl
 ·exact T_REGB_1
 ·rcases List.mem_append.1 hx with hx|hx
  ·exact h.ge x hx
  ·rw[List.mem_singleton.1 hx];exact h.e.size
theorem KBp.new {p:Nat} {w W:World} {L:List (Nat×BF)} (h:KBp p w L W) (l:List Value) (T:TypeId) (hl:∀v∈l,∀z,v≠ .int .u32 z):KBp p w (L++[(W.heap.size,BF.own l)]) (W.alloc (.cells l.toArray T)):=by
 have h2:=h.ext ((Ext.refl W).alloc (.cells l.toArray T))
 have lt:∀x∈L,x.1<W.heap.size:=fun x hx=>x.2.lt _ _ (h.b.mem x hx)
 refine⟨h2.e,Bxs.of fun x hx=> ?_, ?_,fun x hx=> ?_⟩
 ·rcases List.mem_append.1 hx with hx|hx
  ·exact h2.b.mem x hx
  ·rw[List.mem_singleton.1 hx];exact own_new W l T hl
 ·exact T_REGB_1
 ·rcases List.mem_append.1 hx with hx|hx
  ·exact h.ge x hx
  ·rw[List.mem_singleton.1 hx];exact .inl h.e.size
structure Fr2 (T K:Nat) (a b:World):Prop where
 os:b.os=a.os
 tape:b.tape=a.tape
 output:b.output=a.output
 size:a.heap.size≤b.heap.size
 block:∀k,k<a.heap.size→k≠T→k≠K→b.heap[k]? =a.heap[k]?
theorem Fr2.trans {T K:Nat} {a b c:World} (h:Fr2 T K a b) (k:Fr2 T K b c):Fr2 T K a c:=
 ⟨k.os.trans h.os,k.tape.trans h.tape,k.output.trans h.output,Nat.le_trans h.size k.size,fun j hj h1 h2=>(k.block j (Nat.lt_of_lt_of_le hj h.size) h1 h2).trans (h.block j hj h1 h2)⟩
theorem Fr2.ext {T K:Nat} {a b:World} (h:Ext a b):Fr2 T K a b:=⟨h.os,h.tape,h.output,h.size,fun j hj _ _=>h.block j hj⟩
theorem Fr2.gbT {T K:Nat} {a b:World} (h:GB T a b):Fr2 T K a b:=⟨h.os,h.tape,h.output,h.size,fun j hj h1 _=>h.block j hj (by simpa using h1)⟩
theorem Fr2.gbK {T K:Nat} {a b:World} (h:GB K a b):Fr2 T K a b:=⟨h.os,h.tape,h.output,h.size,fun j hj _ h2=>h.block j hj (by simpa using h2)⟩
theorem Fr2.new {T K B j:Nat} {a b:World} (h:Fr2 T K a b) (hB:a.heap.size≤B) (v:Value):Fr2 T K a (b.setCell ⟨B,j,none⟩ v):=by
 have g:GB B b (b.setCell ⟨B,j,none⟩ v):=(GB.refl B b).set v
 exact⟨g.os.trans h.os,g.tape.trans h.tape,g.output.trans h.output,Nat.le_trans h.size g.size,fun k hk h1 h2=>(g.block k (Nat.lt_of_lt_of_le hk h.size) c_26).trans (h.block k hk h1 h2)⟩
theorem Fr2.cell {T K B o:Nat} {a b:World} (h:Fr2 T K a b) (hB:B<a.heap.size) (h1:B≠T) (h2:B≠K):b.cell? ⟨B,o,none⟩=a.cell? ⟨B,o,none⟩:=World.cell?_of_block (h.block B hB h1 h2)
theorem Fr2.frozen {T K B o:Nat} {a b:World} (h:Fr2 T K a b) (hB:B<a.heap.size) (h1:B≠T) (h2:B≠K):b.frozen? ⟨B,o,none⟩=a.frozen? ⟨B,o,none⟩:=World.frozen?_of_block (h.block B hB h1 h2)
theorem Fr2.own {T K g:Nat} {a b:World} {l:List Value} (h:Fr2 T K a b) (hg:(BF.own l).p g a) (h1:g≠T) (h2:g≠K):(BF.own l).p g b:=
 ⟨fun k v hv=>(h.cell hg.2.2.2 h1 h2).trans (hg.1 k v hv),fun o=>(h.frozen hg.2.2.2 h1 h2).trans (hg.2.1 o),fun o z e=>hg.2.2.1 o z ((h.cell hg.2.2.2 h1 h2).symm.trans e),Nat.lt_of_lt_of_le hg.2.2.2 h.size⟩
theorem Fr2.below {T K:Nat} {a b c:World} (h:Ext a b) (k:Fr2 T K b c) (hT:a.heap.size≤T) (hK:a.heap.size≤K):Ext a c:=
 ⟨k.os.trans h.os,k.tape.trans h.tape,k.output.trans h.output,Nat.le_trans h.size k.size,fun j hj=>(k.block j (Nat.lt_of_lt_of_le hj h.size) (by omega) (by omega)).trans (h.block j hj)⟩
def KpW (T K:Nat) (a b:World):Prop:=∀g z,g≠T→g≠K→WAt a g z→WAt b g z
end Go.Proofs.YtaoioncjmfcolaaGreat
