/- trig: radian, two rounds. -/
import Derived.Test.YtaoioncjmfcolaaGreatV24
set_option linter.unusedSimpArgs false
set_option linter.unusedVariables false
set_option maxRecDepth 100000
set_option maxHeartbeats 4000000
namespace Go.Proofs.YtaoioncjmfcolaaGreat
open Go.RowKit
def radQ2 (p:Nat) (n:Int) (P:Bl):Int:=n*2^(p-40)*2^1/P.v
def radB2 (p:Nat) (n:Int) (P:Bl):Bl:=⟨n*2^(p-40)-radQ2 p n P*P.v/2,100*P.r+1⟩
def radT (p:Nat) (n m:Int):Option (Int×Bl):=(piF p).bind fun P=>
 if 0<P.v∧ -100000000000≤radQ2 p n P∧radQ2 p n P≤100000000000∧okN (n*2^(p-40))=true∧okN (n*2^(p-40)*2^1)=true∧okN (radQ2 p n P*P.v)=true∧okN (radQ2 p n P*P.v/2)=true∧okN (radB2 p n P).v=true∧okN (P.v/2)=true∧okN (P.v/2-(radB2 p n P).v)=true∧(radB2 p n P).r<(radB2 p n P).v∧2*(radB2 p n P).r<P.v/2-(radB2 p n P).v then
  (turnF ((radQ2 p n P+m)%4) (radB2 p n P) P p).bind fun T=>if 0≤T.r∧T.r≤9000000000000000000 then some (radQ2 p n P,T)else none
 else none
structure RadC (p:Nat) (n m q:Int) (P b T:Bl) (x h ph o k r1:Int):Prop where
 hpi:∀w1 u,u=O (p:Int)→K_ 124 #[u] w1 fun e w'=>∃u,e=.returned u∧Ball w' u P.v P.r∧Ext w1 w'
 hnn:∀(w1:World) (u1:Value),u1=O n→K_ 134 #[u1] w1 fun e w'=>∃u,e=.returned u∧Wid w' u n∧Ext w1 w'
 hbr:∀(w1:World) (u1:Value),u1=O b.r→K_ 134 #[u1] w1 fun e w'=>∃u,e=.returned u∧Wid w' u b.r∧Ext w1 w'
 hb2:∀(w1:World) (u1:Value),u1=O (2*b.r)→K_ 134 #[u1] w1 fun e w'=>∃u,e=.returned u∧Wid w' u (2*b.r)∧Ext w1 w'
 hxs:∀(w1:World) (u1 u2:Value),Wid w1 u1 n→u2=O ((p:Int)-40)→K_ 169 #[u1,u2] w1 fun e w'=>∃u,e=.returned u∧Wid w' u x∧Ext w1 w'
 hx2:∀(w1:World) (u1:Value),Wid w1 u1 x→K_ 169 #[u1,O 1] w1 fun e w'=>∃u,e=.returned u∧Wid w' u (x*2^1)∧Ext w1 w'
 hqd:∀(w1:World) (u1 u2:Value),Wid w1 u1 (x*2^1)→Wid w1 u2 P.v→K_ 145 #[u1,u2] w1 fun e w'=>∃u,e=.returned u∧Wid w' u q∧Ext w1 w'
 hqi:∀(w1:World) (u1:Value),Wid w1 u1 q→K_ 99 #[u1] w1 fun e w'=>∃u,e=.returned u∧u=.tuple #[O q,O 0]∧Ext w1 w'
 hqp:∀(w1:World) (u1 u2:Value),Wid w1 u1 q→Wid w1 u2 P.v→K_ 132 #[u1,u2] w1 fun e w'=>∃u,e=.returned u∧Wid w' u (q*P.v)∧Ext w1 w'
 hhf:∀(w1:World) (u1:Value),Wid w1 u1 (q*P.v)→K_ 169 #[u1,O (-1)] w1 fun e w'=>∃u,e=.returned u∧Wid w' u h∧Ext w1 w'
 hbs:∀(w1:World) (u1 u2:Value),Wid w1 u1 x→Wid w1 u2 h→K_ 131 #[u1,u2] w1 fun e w'=>∃u,e=.returned u∧Wid w' u b.v∧Ext w1 w'
 hph:∀(w1:World) (u1:Value),Wid w1 u1 P.v→K_ 169 #[u1,O (-1)] w1 fun e w'=>∃u,e=.returned u∧Wid w' u ph∧Ext w1 w'
 hos:∀(w1:World) (u1 u2:Value),Wid w1 u1 ph→Wid w1 u2 b.v→K_ 131 #[u1,u2] w1 fun e w'=>∃u,e=.returned u∧Wid w' u o∧Ext w1 w'
 hc1:∀(w1:World) (u1 u2:Value),Wid w1 u1 b.v→Wid w1 u2 b.r→K_ 52 #[u1,u2] w1 fun e w'=>∃u,e=.returned u∧u=.tuple #[O 1,O 0]∧Ext w1 w'
 hc2:∀(w1:World) (u1 u2:Value),Wid w1 u1 o→Wid w1 u2 (2*b.r)→K_ 52 #[u1,u2] w1 fun e w'=>∃u,e=.returned u∧u=.tuple #[O 1,O 0]∧Ext w1 w'
 htu:∀(w1:World) (u0 u1 u2:Value),u0=O k→Ball w1 u1 b.v b.r→u2=O (p:Int)→K_ 146 #[u0,u1,u2] w1 fun e w'=>∃u,e=.returned u∧Ball w' u T.v T.r∧Ext w1 w'
 hr1:(q+m).tmod 4=r1
 hk:(r1+4).tmod 4=k
 hr4: -4<r1∧r1<4
 kr:0≤P.r∧P.r≤30000000∧100*P.r+1=b.r
 qb: -100000000000≤q∧q≤100000000000
theorem radT_spec {p:Nat} {n m q:Int} {T:Bl} (hp0:41≤p) (h0: -9000000000000000000≤n) (h1:n≤9000000000000000000) (hm:m=0∨m=1) (w0:World) (hF:radT p n m=some (q,T)):(∃P b x h ph o k r1,RadC p n m q P b T x h ph o k r1)∧0≤T.r∧T.r≤9000000000000000000:=by
 unfold radT at hF
 rw[Option.bind_eq_some_iff]at hF
 obtain⟨P,hP,hF⟩:=hF
 split at hF
 case isFalse=>cases hF
 rename_i k0
 obtain⟨z0,z1,z2,z3,z4,z5,z6,z7,z8,z9,z10,z11⟩:=k0
 rw[Option.bind_eq_some_iff]at hF
 obtain⟨T',hT,hF⟩:=hF
 split at hF
 case isFalse=>cases hF
 rename_i k1
 have hF2:=Option.some.inj hF
 have e1:radQ2 p n P=q:=congrArg Prod.fst hF2
 have e2:T'=T:=congrArg Prod.snd hF2
 subst e2
 obtain⟨T,hTT⟩:∃T,T'=T:=⟨_,rfl⟩
 rw[hTT]at hT k1 ⊢
 clear hTT
 rw[e1]at z1 z2 z5 z6 hT
 clear hF hF2
 obtain⟨b,hb⟩:∃b,radB2 p n P=b:=⟨_,rfl⟩
 have hbv:n*2^(p-40)-q*P.v/2=b.v:=by rw[←hb, ←e1];rfl
 have hbr0:100*P.r+1=b.r:=by rw[←hb];rfl
 rw[hb]at z7 z9 z10 z11 hT
 unfold radQ2 at e1
 obtain⟨x,hx⟩:∃x,n*2^(p-40)=x:=⟨_,rfl⟩
 rw[hx]at z3 z4 hbv e1
 obtain⟨h,hh⟩:∃h,q*P.v/2=h:=⟨_,rfl⟩
 rw[hh]at z6 hbv
 obtain⟨ph,hph0⟩:∃ph,P.v/2=ph:=⟨_,rfl⟩
 rw[hph0]at z8 z9 z11
 obtain⟨o,ho⟩:∃o,ph-b.v=o:=⟨_,rfl⟩
 rw[ho]at z9 z11
 obtain⟨-,kP,kP0,kr0,kr1,hp1⟩:=t_piF w0 hP
 have hpi:∀w1 u,u=O (p:Int)→K_ 124 #[u] w1 fun e w'=>∃u,e=.returned u∧Ball w' u P.v P.r∧Ext w1 w':=fun w1 u hu=>by subst hu;exact(t_piF w1 hP).1
 have hnn:∀(w1:World) (u1:Value),u1=O n→K_ 134 #[u1] w1 fun e w'=>∃u,e=.returned u∧Wid w' u n∧Ext w1 w':=fun w1 u1 k=>by subst k;exact t_numZ _ _ (by omega) (by omega)
 have hbr:∀(w1:World) (u1:Value),u1=O b.r→K_ 134 #[u1] w1 fun e w'=>∃u,e=.returned u∧Wid w' u b.r∧Ext w1 w':=fun w1 u1 k=>by subst k;exact t_numZ _ _ (by omega) (by omega)
 have hb2:∀(w1:World) (u1:Value),u1=O (2*b.r)→K_ 134 #[u1] w1 fun e w'=>∃u,e=.returned u∧Wid w' u (2*b.r)∧Ext w1 w':=fun w1 u1 k=>by subst k;exact t_numZ _ _ (by omega) (by omega)
 have szn:Sz n:=dig_bits (k:=64) (L:=4096) (by omega) (by decide)
 have szr:Sz b.r:=dig_bits (k:=64) (L:=4096) (by omega) (by decide)
 have szr2:Sz (2*b.r):=dig_bits (k:=64) (L:=4096) (by omega) (by decide)
 have szq:Sz q:=dig_bits (k:=64) (L:=4096) (by omega) (by decide)
 have hxs:∀(w1:World) (u1 u2:Value),Wid w1 u1 n→u2=O ((p:Int)-40)→K_ 169 #[u1,u2] w1 fun e w'=>∃u,e=.returned u∧Wid w' u x∧Ext w1 w':=fun w1 u1 u2 k1 k2=>by
  subst k2
  rw[show(p:Int)-40=((p-40:Nat):Int) by omega]
  have:=t_shiftU u1 n (p-40) w1 k1 szn (by omega) (by rw[hx];exact okN.sz z3)
  rw[hx]at this
  exact this
 have hx2:∀(w1:World) (u1:Value),Wid w1 u1 x→K_ 169 #[u1,O 1] w1 fun e w'=>∃u,e=.returned u∧Wid w' u (x*2^1)∧Ext w1 w':=fun w1 u1 k1=>t_shiftU u1 x 1 w1 k1 (okN.sz z3) (by decide) (okN.sz z4)
 have hqd:∀(w1:World) (u1 u2:Value),Wid w1 u1 (x*2^1)→Wid w1 u2 P.v→K_ 145 #[u1,u2] w1 fun e w'=>∃u,e=.returned u∧Wid w' u q∧Ext w1 w':=fun w1 u1 u2 k1 k2=>by
  rw[←e1]
  have e:P.v=((P.v.natAbs:Nat):Int):=by omega
  have:=t_divZ u1 u2 _ P.v.natAbs w1 k1 (k2.nn (by omega)) (okN.sz z4) (okN.sz kP) (by omega)
  rw[←e]at this
  exact this
 have hqi:∀(w1:World) (u1:Value),Wid w1 u1 q→K_ 99 #[u1] w1 fun e w'=>∃u,e=.returned u∧u=.tuple #[O q,O 0]∧Ext w1 w':=fun w1 u1 k1=>calls_eq (z_Int u1 q w1 k1 (by omega) (by omega))
 have hqp:∀(w1:World) (u1 u2:Value),Wid w1 u1 q→Wid w1 u2 P.v→K_ 132 #[u1,u2] w1 fun e w'=>∃u,e=.returned u∧Wid w' u (q*P.v)∧Ext w1 w':=fun w1 u1 u2 k1 k2=>t_mulZ u1 u2 _ _ w1 k1 k2 szq (okN.sz kP) (okN.sz z5)
 have hhf:∀(w1:World) (u1:Value),Wid w1 u1 (q*P.v)→K_ 169 #[u1,O (-1)] w1 fun e w'=>∃u,e=.returned u∧Wid w' u h∧Ext w1 w':=fun w1 u1 k=>by
  have:=t_shiftD u1 (q*P.v) 1 w1 k (okN.sz z5) (by decide) (by decide)
  rw[Int.pow_one,hh]at this
  exact this
 have hbs:∀(w1:World) (u1 u2:Value),Wid w1 u1 x→Wid w1 u2 h→K_ 131 #[u1,u2] w1 fun e w'=>∃u,e=.returned u∧Wid w' u b.v∧Ext w1 w':=fun w1 u1 u2 k1 k2=>by
  have:=t_subZ u1 u2 _ _ w1 k1 k2 (okN.sz z3) (okN.sz z6) (by rw[hbv];exact okN.sz z7)
  rw[hbv]at this
  exact this
 have hph:∀(w1:World) (u1:Value),Wid w1 u1 P.v→K_ 169 #[u1,O (-1)] w1 fun e w'=>∃u,e=.returned u∧Wid w' u ph∧Ext w1 w':=fun w1 u1 k=>by
  have:=t_shiftD u1 P.v 1 w1 k (okN.sz kP) (by decide) (by decide)
  rw[Int.pow_one,hph0]at this
  exact this
 have hos:∀(w1:World) (u1 u2:Value),Wid w1 u1 ph→Wid w1 u2 b.v→K_ 131 #[u1,u2] w1 fun e w'=>∃u,e=.returned u∧Wid w' u o∧Ext w1 w':=fun w1 u1 u2 k1 k2=>by
  have:=t_subZ u1 u2 _ _ w1 k1 k2 (okN.sz z8) (okN.sz z7) (by rw[ho];exact okN.sz z9)
  rw[ho]at this
  exact this
 have hc1:∀(w1:World) (u1 u2:Value),Wid w1 u1 b.v→Wid w1 u2 b.r→K_ 52 #[u1,u2] w1 fun e w'=>∃u,e=.returned u∧u=.tuple #[O 1,O 0]∧Ext w1 w':=fun w1 u1 u2 k1 k2=>by
  have:=z_Cmp u1 u2 _ _ w1 k1 k2 (okN.sz z7) szr
  rw[cmp_gt z10]at this
  exact calls_eq this
 have hc2:∀(w1:World) (u1 u2:Value),Wid w1 u1 o→Wid w1 u2 (2*b.r)→K_ 52 #[u1,u2] w1 fun e w'=>∃u,e=.returned u∧u=.tuple #[O 1,O 0]∧Ext w1 w':=fun w1 u1 u2 k1 k2=>by
  have:=z_Cmp u1 u2 _ _ w1 k1 k2 (okN.sz z9) szr2
  rw[cmp_gt z11]at this
  exact calls_eq this
 obtain⟨r1,hr1⟩:∃r1,(q+m).tmod 4=r1:=⟨_,rfl⟩
 obtain⟨k,hk⟩:∃k,(r1+4).tmod 4=k:=⟨_,rfl⟩
 obtain⟨t4,hr4⟩:=tmod4 (q+m)
 rw[hr1]at t4 hr4
 rw[hk]at t4
 rw[←t4]at hT
 have hk4:k=0∨k=1∨k=2∨k=3:=by omega
 have htu:∀(w1:World) (u0 u1 u2:Value),u0=O k→Ball w1 u1 b.v b.r→u2=O (p:Int)→K_ 146 #[u0,u1,u2] w1 fun e w'=>∃u,e=.returned u∧Ball w' u T.v T.r∧Ext w1 w':=fun w1 u0 u1 u2 k0 k1 k2=>by
  subst k0 k2
  exact t_turned u1 _ b P T p w1 k1 hk4 (by omega) hP hT
 exact⟨⟨P,b,x,h,ph,o,k,r1,⟨hpi,hnn,hbr,hb2,hxs,hx2,hqd,hqi,hqp,hhf,hbs,hph,hos,hc1,hc2,htu,hr1,hk,hr4,⟨kr0,kr1,hbr0⟩,⟨z1,z2⟩⟩⟩,k1.1,k1.2⟩
theorem t_radian2 (n m q q2 f2:Int) (T T2:Bl) (w:World) (h0: -9000000000000000000≤n) (h1:n≤9000000000000000000) (hn:¬n=0) (hm:m=0∨m=1) (hF0:radT 130 n m=some (q,T)) (hN:floorN T.v T.r 130=true) (hF:radT 260 n m=some (q2,T2)) (hf:floorF T2.v T2.r 260=some f2):
    K_ 173 #[O n,O m] w fun e w'=>e=.returned (.tuple #[O q2,.agg #[O f2,O (f2+1)]])∧Ext w w':=by
 obtain⟨E1,t0,t1⟩:=radT_spec (by decide) h0 h1 hm w hF0
 obtain⟨E2,t2,t3⟩:=radT_spec (by decide) h0 h1 hm w hF
 have hun1:∀(w1:World) (u1 u2:Value),Ball w1 u1 T.v T.r→u2=O 130→K_ 89 #[u1,u2] w1 fun e w'=>∃u,e=.returned u∧u=.tuple #[.agg #[O 0,O 1],.bool false]∧Ext w1 w':=fun w1 u1 u2 j1 j2=>by
  subst j2
  exact calls_eq (t_unitNo u1 T.v T.r 130 w1 j1 t0 t1 (by decide) (by decide) hN)
 have hun2:∀(w1:World) (u1 u2:Value),Ball w1 u1 T2.v T2.r→u2=O 260→K_ 89 #[u1,u2] w1 fun e w'=>∃u,e=.returned u∧u=.tuple #[.agg #[O f2,O (f2+1)],.bool true]∧Ext w1 w':=fun w1 u1 u2 j1 j2=>by
  subst j2
  exact calls_eq (t_unit u1 T2.v T2.r f2 260 w1 j1 t2 t3 (by decide) (by decide) hf)
 clear hF0 hN hF hf t0 t1 t2 t3
 have I0:KBd w [] w:=⟨Ext.refl w,trivial,by simp,by simp⟩
 have I:=I0.new [O 0,O 0] 30 (by simp)
 simp only[List.nil_append]at I
 clear I0
 go_enter Tryz.func173,Tryz.ntmps173
 go_upto_region 1 with fail
 obtain⟨J,hJ⟩:∃J:Act→World→Prop,J=fun a' w'=>∃(u7 u8 u9 u10 u11 u12 u13 u14 u15 u16 u17 u18 u19 u20 u21 u22 u23 u24 u25 u26 u27 u28 u29 u30 u31 u32 u33 u34 u35 u36 u37 u38 u39 u40 u41 u42 u43 u44 u45 u46 u47 u48 u49 u50 u51 u52 u53 u54 u55 u56 u57 u58 u59 u60 u61 u62 u63 u64 u65 u66 u67 u68 u69 u70 u71 u72 u73 u74 u75 u76 u77 u78 u79 u80 u81 u82 u83 u84 u85 u86 u87 u88 u89 u90 u91 u92 u93 u94 u95 u96 u97 u98 u99 u100 u101 u102 u103 u104 u105 u106 u107:Value),a'={tmps:=#[O n,O m,undef,undef,O 0,.pointer (some ⟨w.heap.size,0,none⟩),O 260,u7,u8,u9,u10,u11,u12,u13,u14,u15,u16,u17,u18,u19,u20,u21,u22,u23,u24,u25,u26,u27,u28,u29,u30,u31,u32,u33,u34,u35,u36,u37,u38,u39,u40,u41,u42,u43,u44,u45,u46,u47,u48,u49,u50,u51,u52,u53,u54,u55,u56,u57,u58,u59,u60,u61,u62,u63,u64,u65,u66,u67,u68,u69,u70,u71,u72,u73,u74,u75,u76,u77,u78,u79,u80,u81,u82,u83,u84,u85,u86,u87,u88,u89,u90,u91,u92,u93,u94,u95,u96,u97,u98,u99,u100,u101,u102,u103,u104,u105,u106,u107],defers:=[]}∧KBd w [(w.heap.size,BF.own [O 0,O 0])] w':=⟨_,rfl⟩
 replace hJ:=Lib.hid hJ
 refine wp_scope_jumps 0 J (fun _ _=>0) rfl ?first ?pass
 case first=>
  clear E2 hun2
  have hun:=hun1
  clear hun1
  obtain⟨P,b,x,h,ph,o,k,r1,hpi,hnn,hbr,hb2,hxs,hx2,hqd,hqi,hqp,hhf,hbs,hph,hos,hc1,hc2,htu,hr1,hk,hr4,⟨kr0,kr1,hbr0⟩,z1,z2⟩:=E1
  replace hxs:∀(w1:World) (u1 u2:Value),Wid w1 u1 n→u2=O 90→K_ 169 #[u1,u2] w1 fun e w'=>∃u,e=.returned u∧Wid w' u x∧Ext w1 w':=hxs
  go_wp2_with fail
  go_step3
  go_upto_region 4 with fail
  refine rB [] [⟨5,some 6,.b2,(.wat x)⟩] [.eq (O (n)),.wid (n),.eq (O (130)),.eq (O (90)),.wid (x)] [] I (fun hc=>⟨ob_mv hc (.inl rfl),ob_call (fun v=>[v 0]) hc rfl fun vs gs w1 c=>hnn _ _ (c.v 0),ob_mv hc (.inl rfl),oTN 29 2 (.const (O 40)) (O 40) hc (hs:=c_1),ob_call (fun v=>[v 1,v 3]) hc rfl fun vs gs w1 c=>hxs _ _ _ (c.v 1) (c.v 3),ob_allocW (n:=1) rfl hc rfl rfl rfl,ob_putW (n:=1) rfl 4 hc rfl 0,trivial⟩) fun gx vs W=>tl ?_
  clear I
  intro I
  go_upto_region 5 with fail
  refine rB [] [⟨2,some 3,.own [.bool false,.slice none 0 0,O 0],(.bat P.v P.r)⟩] [.eq (O (130)),.ball (P.v) (P.r)] [] I (fun hc=>⟨ob_mv hc (.inl rfl),ob_call (fun v=>[v 0]) hc rfl fun vs gs w1 c=>hpi _ _ (c.v 0),ob_new (n:=2) [.bool false,.slice none 0 0,O 0] 137 rfl hc rfl rfl rfl,ob_putB (n:=2) rfl 1 hc rfl 0,trivial⟩) fun gp vs W=>tl ?_
  clear I
  intro I
  go_upto_region 6 with fail
  refine rB [] [⟨5,some 6,.b2,(.wat q)⟩] [.wid (x),.wid (x*2^1),.eq (.pointer (some ⟨gp,0,none⟩)),.wid (P.v),.wid (q)] [] I (fun hc=>⟨ob_getW gx (x) hc rfl fun vs gs w1 c=>c.b0 1,ob_call (fun v=>[v 0,O 1]) hc rfl fun vs gs w1 c=>hx2 _ _ (c.v 0),oN (.tmp 8) (.pointer (some ⟨gp,0,none⟩)) hc,ob_getN gp P.v P.r (some 2) hc rfl fun vs gs w1 c=>c.b0 2,ob_call (fun v=>[v 1,v 3]) hc rfl fun vs gs w1 c=>hqd _ _ _ (c.v 1) (c.v 3),ob_allocW (n:=3) rfl hc rfl rfl rfl,ob_putW (n:=3) rfl 4 hc rfl 0,trivial⟩) fun gq vs W=>tl ?_
  clear I
  intro I
  go_upto_region 7 with fail
  refine rB [] [] [.wid (q),.eq (.tuple #[O q,O 0]),.eq (.tuple #[O q,O 0]),.eq (O (q)),.eq (O (0)),.eq (O (q)),.eq (O (0))] [5,6] I (fun hc=>⟨ob_getW gq (q) hc rfl fun vs gs w1 c=>c.b0 3,ob_call (fun v=>[v 0]) hc rfl fun vs gs w1 c=>hqi _ _ (c.v 0),ob_cp 1 hc (.inl rfl),oT 39 2 hc,oT 39 2 hc,ob_cp 3 hc (.inr rfl),ob_cp 4 hc (.inr rfl),trivial⟩) fun vs W=>tl ?_
  clear I
  intro I
  go_upto_region 8 with fail
  refine rB [] [⟨12,some 13,.own [.bool false,.slice none 0 0,O 0],(.bat b.v b.r)⟩] [.wid (x),.wid (q),.eq (.pointer (some ⟨gp,0,none⟩)),.wid (P.v),.wid (q*P.v),.wid (h),.wid (b.v),.eq (.pointer (some ⟨gp,2,none⟩)),.eq (O (P.r)),.eq (O (100*P.r)),.eq (O (b.r)),.ball (b.v) (b.r)] [] I (fun hc=>⟨ob_getW gx (x) hc rfl fun vs gs w1 c=>c.b0 1,ob_getW gq (q) hc rfl fun vs gs w1 c=>c.b0 3,oN (.tmp 8) (.pointer (some ⟨gp,0,none⟩)) hc,ob_getN gp P.v P.r (some 2) hc rfl fun vs gs w1 c=>c.b0 2,ob_call (fun v=>[v 1,v 3]) hc rfl fun vs gs w1 c=>hqp _ _ _ (c.v 1) (c.v 3),ob_call (fun v=>[v 4,O (-1)]) hc rfl fun vs gs w1 c=>hhf _ _ (c.v 4),ob_call (fun v=>[v 0,v 5]) hc rfl fun vs gs w1 c=>hbs _ _ _ (c.v 0) (c.v 5),oN (.tmp 8) (.pointer (some ⟨gp,0,none⟩)) hc,oL 51 7 hc fun vs gs w1 c=>BatP.r (c.b0 2),oNT (.const (O 100)) (O 100) 52 8 hc (hs:=c_1),oTN 53 9 (.const (O 1)) (O 1) hc (hs:=c_1),ob_buildB (q:=b.v) (r:=b.r) 6 (some 10) hc rfl,ob_new (n:=4) [.bool false,.slice none 0 0,O 0] 137 rfl hc rfl rfl rfl,ob_putB (n:=4) rfl 11 hc rfl 0,trivial⟩) fun gb vs W=>tl ?_
  clear I
  intro I
  go_upto_region 9 with fail
  refine rB [] [⟨6,some 7,.b2,(.wat o)⟩] [.eq (.pointer (some ⟨gp,0,none⟩)),.wid (P.v),.wid (ph),.eq (.pointer (some ⟨gb,0,none⟩)),.wid (b.v),.wid (o)] [] I (fun hc=>⟨oN (.tmp 8) (.pointer (some ⟨gp,0,none⟩)) hc,ob_getN gp P.v P.r (some 0) hc rfl fun vs gs w1 c=>c.b0 2,ob_call (fun v=>[v 1,O (-1)]) hc rfl fun vs gs w1 c=>hph _ _ (c.v 1),oN (.tmp 12) (.pointer (some ⟨gb,0,none⟩)) hc,ob_getN gb b.v b.r (some 3) hc rfl fun vs gs w1 c=>c.b0 4,ob_call (fun v=>[v 2,v 4]) hc rfl fun vs gs w1 c=>hos _ _ _ (c.v 2) (c.v 4),ob_allocW (n:=5) rfl hc rfl rfl rfl,ob_putW (n:=5) rfl 5 hc rfl 0,trivial⟩) fun go vs W=>tl ?_
  clear I
  intro I
  go_upto_region 10 with fail
  refine rB [] [] [.eq (.pointer (some ⟨gb,0,none⟩)),.wid (b.v),.eq (.pointer (some ⟨gb,2,none⟩)),.eq (O (b.r)),.wid (b.r),.eq (.tuple #[O 1,O 0]),.eq (.tuple #[O 1,O 0]),.eq (O (1)),.eq (O (0)),.eq (O (1)),.eq (O (0))] [9,10] I (fun hc=>⟨oN (.tmp 12) (.pointer (some ⟨gb,0,none⟩)) hc,ob_getN gb b.v b.r (some 0) hc rfl fun vs gs w1 c=>c.b0 4,oN (.tmp 12) (.pointer (some ⟨gb,0,none⟩)) hc,oL 65 2 hc fun vs gs w1 c=>BatP.r (c.b0 4),ob_call (fun v=>[v 3]) hc rfl fun vs gs w1 c=>hbr _ _ (c.v 3),ob_call (fun v=>[v 1,v 4]) hc rfl fun vs gs w1 c=>hc1 _ _ _ (c.v 1) (c.v 4),ob_cp 5 hc (.inl rfl),oT 62 6 hc,oT 62 6 hc,ob_cp 7 hc (.inr rfl),ob_cp 8 hc (.inr rfl),trivial⟩) fun vs W=>tl ?_
  clear I
  intro I
  go_upto_region 13 with fail
  refine rB [] [] [.wid (o),.eq (.pointer (some ⟨gb,2,none⟩)),.eq (O (b.r)),.eq (O (2*b.r)),.wid (2*b.r),.eq (.tuple #[O 1,O 0]),.eq (.tuple #[O 1,O 0]),.eq (O (1)),.eq (O (0)),.eq (O (1)),.eq (O (0))] [9,10] I (fun hc=>⟨ob_getW go (o) hc rfl fun vs gs w1 c=>c.b0 5,oN (.tmp 12) (.pointer (some ⟨gb,0,none⟩)) hc,oL 77 1 hc fun vs gs w1 c=>BatP.r (c.b0 4),oNT (.const (O 2)) (O 2) 78 2 hc (hs:=c_1),ob_call (fun v=>[v 3]) hc rfl fun vs gs w1 c=>hb2 _ _ (c.v 3),ob_call (fun v=>[v 0,v 4]) hc rfl fun vs gs w1 c=>hc2 _ _ _ (c.v 0) (c.v 4),ob_cp 5 hc (.inl rfl),oT 75 6 hc,oT 75 6 hc,ob_cp 7 hc (.inr rfl),ob_cp 8 hc (.inr rfl),trivial⟩) fun vs W=>tl ?_
  clear I
  intro I
  go_upto_region 16 with fail
  refine rB [] [⟨14,some 15,.own [O 0,O 0],(.own [O 0,O 1])⟩] [.eq (O (q)),.eq (O (m)),.eq (O (q+m)),.eq (O (r1)),.eq (O (r1+4)),.eq (O (k)),.ball (b.v) (b.r),.eq (O (130)),.ball (T.v) (T.r),.eq (O (130)),.eq (.tuple #[.agg #[O 0,O 1],.bool false]),.eq (.tuple #[.agg #[O 0,O 1],.bool false]),.eq (.agg #[O 0,O 1]),.eq (.bool false),.any,.any,.eq (.bool false)] [16] I (fun hc=>⟨ob_mv hc (.inl rfl),ob_mv hc (.inl rfl),oTT 89 0 90 1 hc (hs:=c_1),oTN 91 2 (.const (O 4)) (O 4) hc (hs:=c_54),oTN 92 3 (.const (O 4)) (O 4) hc (hs:=c_1),oTN 93 4 (.const (O 4)) (O 4) hc (hs:=(by intro ρ w1 h k;go_simp;first|done|exact hk)),ob_getB gb (b.v) (b.r) hc rfl fun vs gs w1 c=>c.b0 4,ob_mv hc (.inl rfl),ob_call (fun v=>[v 5,v 6,v 7]) hc rfl fun vs gs w1 c=>htu _ _ _ _ (c.v 5) (c.v 6) (c.v 7),ob_mv hc (.inl rfl),ob_call (fun v=>[v 8,v 9]) hc rfl fun vs gs w1 c=>hun _ _ _ (c.v 8) (c.v 9),ob_cp 10 hc (.inl rfl),oT 88 11 hc,oT 88 11 hc,ob_new (n:=6) [O 0,O 0] 30 rfl hc rfl rfl rfl,ob_put2 (n:=6) 0 rfl (some 12) hc rfl,ob_cp 13 hc (.inr rfl),trivial⟩) fun gi vs W=>tl ?_
  clear I
  intro I
  have I1:=I.take 1
  clear hpi hnn hbr hb2 hxs hx2 hqd hqi hqp hhf hbs hph hos hc1 hc2 htu hun I
  go_wp2_with fail
  go_step3
  try simp only[Exit.jump]
  rw[hJ.out]
  exact⟨rfl,_,_,_,_,_,_,_,_,_,_,_,_,_,_,_,_,_,_,_,_,_,_,_,_,_,_,_,_,_,_,_,_,_,_,_,_,_,_,_,_,_,_,_,_,_,_,_,_,_,_,_,_,_,_,_,_,_,_,_,_,_,_,_,_,_,_,_,_,_,_,_,_,_,_,_,_,_,_,_,_,_,_,_,_,_,_,_,_,_,_,_,_,_,_,_,_,_,_,_,_,_,rfl,I1⟩
 case pass=>
  clear E1 hun1 T q I
  obtain⟨q,rfl⟩:∃q,q=q2:=⟨_,rfl⟩
  obtain⟨f,rfl⟩:∃f,f=f2:=⟨_,rfl⟩
  obtain⟨T,rfl⟩:∃T,T=T2:=⟨_,rfl⟩
  have hun:=hun2
  clear hun2
  obtain⟨P,b,x,h,ph,o,k,r1,hpi,hnn,hbr,hb2,hxs,hx2,hqd,hqi,hqp,hhf,hbs,hph,hos,hc1,hc2,htu,hr1,hk,hr4,⟨kr0,kr1,hbr0⟩,z1,z2⟩:=E2
  replace hxs:∀(w1:World) (u1 u2:Value),Wid w1 u1 n→u2=O 220→K_ 169 #[u1,u2] w1 fun e w'=>∃u,e=.returned u∧Wid w' u x∧Ext w1 w':=hxs
  rintro a' w' hJJ
  rw[hJ.out]at hJJ
  obtain⟨u7,u8,u9,u10,u11,u12,u13,u14,u15,u16,u17,u18,u19,u20,u21,u22,u23,u24,u25,u26,u27,u28,u29,u30,u31,u32,u33,u34,u35,u36,u37,u38,u39,u40,u41,u42,u43,u44,u45,u46,u47,u48,u49,u50,u51,u52,u53,u54,u55,u56,u57,u58,u59,u60,u61,u62,u63,u64,u65,u66,u67,u68,u69,u70,u71,u72,u73,u74,u75,u76,u77,u78,u79,u80,u81,u82,u83,u84,u85,u86,u87,u88,u89,u90,u91,u92,u93,u94,u95,u96,u97,u98,u99,u100,u101,u102,u103,u104,u105,u106,u107,rfl,I⟩:=hJJ
  clear hJ
  go_upto_region 4 with fail
  refine rB [] [⟨5,some 6,.b2,(.wat x)⟩] [.eq (O (n)),.wid (n),.eq (O (260)),.eq (O (220)),.wid (x)] [] I (fun hc=>⟨ob_mv hc (.inl rfl),ob_call (fun v=>[v 0]) hc rfl fun vs gs w1 c=>hnn _ _ (c.v 0),ob_mv hc (.inl rfl),oTN 29 2 (.const (O 40)) (O 40) hc (hs:=c_1),ob_call (fun v=>[v 1,v 3]) hc rfl fun vs gs w1 c=>hxs _ _ _ (c.v 1) (c.v 3),ob_allocW (n:=1) rfl hc rfl rfl rfl,ob_putW (n:=1) rfl 4 hc rfl 0,trivial⟩) fun gx vs W=>tl ?_
  clear I
  intro I
  go_upto_region 5 with fail
  refine rB [] [⟨2,some 3,.own [.bool false,.slice none 0 0,O 0],(.bat P.v P.r)⟩] [.eq (O (260)),.ball (P.v) (P.r)] [] I (fun hc=>⟨ob_mv hc (.inl rfl),ob_call (fun v=>[v 0]) hc rfl fun vs gs w1 c=>hpi _ _ (c.v 0),ob_new (n:=2) [.bool false,.slice none 0 0,O 0] 137 rfl hc rfl rfl rfl,ob_putB (n:=2) rfl 1 hc rfl 0,trivial⟩) fun gp vs W=>tl ?_
  clear I
  intro I
  go_upto_region 6 with fail
  refine rB [] [⟨5,some 6,.b2,(.wat q)⟩] [.wid (x),.wid (x*2^1),.eq (.pointer (some ⟨gp,0,none⟩)),.wid (P.v),.wid (q)] [] I (fun hc=>⟨ob_getW gx (x) hc rfl fun vs gs w1 c=>c.b0 1,ob_call (fun v=>[v 0,O 1]) hc rfl fun vs gs w1 c=>hx2 _ _ (c.v 0),oN (.tmp 8) (.pointer (some ⟨gp,0,none⟩)) hc,ob_getN gp P.v P.r (some 2) hc rfl fun vs gs w1 c=>c.b0 2,ob_call (fun v=>[v 1,v 3]) hc rfl fun vs gs w1 c=>hqd _ _ _ (c.v 1) (c.v 3),ob_allocW (n:=3) rfl hc rfl rfl rfl,ob_putW (n:=3) rfl 4 hc rfl 0,trivial⟩) fun gq vs W=>tl ?_
  clear I
  intro I
  go_upto_region 7 with fail
  refine rB [] [] [.wid (q),.eq (.tuple #[O q,O 0]),.eq (.tuple #[O q,O 0]),.eq (O (q)),.eq (O (0)),.eq (O (q)),.eq (O (0))] [5,6] I (fun hc=>⟨ob_getW gq (q) hc rfl fun vs gs w1 c=>c.b0 3,ob_call (fun v=>[v 0]) hc rfl fun vs gs w1 c=>hqi _ _ (c.v 0),ob_cp 1 hc (.inl rfl),oT 39 2 hc,oT 39 2 hc,ob_cp 3 hc (.inr rfl),ob_cp 4 hc (.inr rfl),trivial⟩) fun vs W=>tl ?_
  clear I
  intro I
  go_upto_region 8 with fail
  refine rB [] [⟨12,some 13,.own [.bool false,.slice none 0 0,O 0],(.bat b.v b.r)⟩] [.wid (x),.wid (q),.eq (.pointer (some ⟨gp,0,none⟩)),.wid (P.v),.wid (q*P.v),.wid (h),.wid (b.v),.eq (.pointer (some ⟨gp,2,none⟩)),.eq (O (P.r)),.eq (O (100*P.r)),.eq (O (b.r)),.ball (b.v) (b.r)] [] I (fun hc=>⟨ob_getW gx (x) hc rfl fun vs gs w1 c=>c.b0 1,ob_getW gq (q) hc rfl fun vs gs w1 c=>c.b0 3,oN (.tmp 8) (.pointer (some ⟨gp,0,none⟩)) hc,ob_getN gp P.v P.r (some 2) hc rfl fun vs gs w1 c=>c.b0 2,ob_call (fun v=>[v 1,v 3]) hc rfl fun vs gs w1 c=>hqp _ _ _ (c.v 1) (c.v 3),ob_call (fun v=>[v 4,O (-1)]) hc rfl fun vs gs w1 c=>hhf _ _ (c.v 4),ob_call (fun v=>[v 0,v 5]) hc rfl fun vs gs w1 c=>hbs _ _ _ (c.v 0) (c.v 5),oN (.tmp 8) (.pointer (some ⟨gp,0,none⟩)) hc,oL 51 7 hc fun vs gs w1 c=>BatP.r (c.b0 2),oNT (.const (O 100)) (O 100) 52 8 hc (hs:=c_1),oTN 53 9 (.const (O 1)) (O 1) hc (hs:=c_1),ob_buildB (q:=b.v) (r:=b.r) 6 (some 10) hc rfl,ob_new (n:=4) [.bool false,.slice none 0 0,O 0] 137 rfl hc rfl rfl rfl,ob_putB (n:=4) rfl 11 hc rfl 0,trivial⟩) fun gb vs W=>tl ?_
  clear I
  intro I
  go_upto_region 9 with fail
  refine rB [] [⟨6,some 7,.b2,(.wat o)⟩] [.eq (.pointer (some ⟨gp,0,none⟩)),.wid (P.v),.wid (ph),.eq (.pointer (some ⟨gb,0,none⟩)),.wid (b.v),.wid (o)] [] I (fun hc=>⟨oN (.tmp 8) (.pointer (some ⟨gp,0,none⟩)) hc,ob_getN gp P.v P.r (some 0) hc rfl fun vs gs w1 c=>c.b0 2,ob_call (fun v=>[v 1,O (-1)]) hc rfl fun vs gs w1 c=>hph _ _ (c.v 1),oN (.tmp 12) (.pointer (some ⟨gb,0,none⟩)) hc,ob_getN gb b.v b.r (some 3) hc rfl fun vs gs w1 c=>c.b0 4,ob_call (fun v=>[v 2,v 4]) hc rfl fun vs gs w1 c=>hos _ _ _ (c.v 2) (c.v 4),ob_allocW (n:=5) rfl hc rfl rfl rfl,ob_putW (n:=5) rfl 5 hc rfl 0,trivial⟩) fun go vs W=>tl ?_
  clear I
  intro I
  go_upto_region 10 with fail
  refine rB [] [] [.eq (.pointer (some ⟨gb,0,none⟩)),.wid (b.v),.eq (.pointer (some ⟨gb,2,none⟩)),.eq (O (b.r)),.wid (b.r),.eq (.tuple #[O 1,O 0]),.eq (.tuple #[O 1,O 0]),.eq (O (1)),.eq (O (0)),.eq (O (1)),.eq (O (0))] [9,10] I (fun hc=>⟨oN (.tmp 12) (.pointer (some ⟨gb,0,none⟩)) hc,ob_getN gb b.v b.r (some 0) hc rfl fun vs gs w1 c=>c.b0 4,oN (.tmp 12) (.pointer (some ⟨gb,0,none⟩)) hc,oL 65 2 hc fun vs gs w1 c=>BatP.r (c.b0 4),ob_call (fun v=>[v 3]) hc rfl fun vs gs w1 c=>hbr _ _ (c.v 3),ob_call (fun v=>[v 1,v 4]) hc rfl fun vs gs w1 c=>hc1 _ _ _ (c.v 1) (c.v 4),ob_cp 5 hc (.inl rfl),oT 62 6 hc,oT 62 6 hc,ob_cp 7 hc (.inr rfl),ob_cp 8 hc (.inr rfl),trivial⟩) fun vs W=>tl ?_
  clear I
  intro I
  go_upto_region 13 with fail
  refine rB [] [] [.wid (o),.eq (.pointer (some ⟨gb,2,none⟩)),.eq (O (b.r)),.eq (O (2*b.r)),.wid (2*b.r),.eq (.tuple #[O 1,O 0]),.eq (.tuple #[O 1,O 0]),.eq (O (1)),.eq (O (0)),.eq (O (1)),.eq (O (0))] [9,10] I (fun hc=>⟨ob_getW go (o) hc rfl fun vs gs w1 c=>c.b0 5,oN (.tmp 12) (.pointer (some ⟨gb,0,none⟩)) hc,oL 77 1 hc fun vs gs w1 c=>BatP.r (c.b0 4),oNT (.const (O 2)) (O 2) 78 2 hc (hs:=c_1),ob_call (fun v=>[v 3]) hc rfl fun vs gs w1 c=>hb2 _ _ (c.v 3),ob_call (fun v=>[v 0,v 4]) hc rfl fun vs gs w1 c=>hc2 _ _ _ (c.v 0) (c.v 4),ob_cp 5 hc (.inl rfl),oT 75 6 hc,oT 75 6 hc,ob_cp 7 hc (.inr rfl),ob_cp 8 hc (.inr rfl),trivial⟩) fun vs W=>tl ?_
  clear I
  intro I
  go_upto_region 16 with fail
  refine rB [] [⟨14,some 15,.own [O 0,O 0],(.own [O f,O (f+1)])⟩] [.eq (O (q)),.eq (O (m)),.eq (O (q+m)),.eq (O (r1)),.eq (O (r1+4)),.eq (O (k)),.ball (b.v) (b.r),.eq (O (260)),.ball (T.v) (T.r),.eq (O (260)),.eq (.tuple #[.agg #[O f,O (f+1)],.bool true]),.eq (.tuple #[.agg #[O f,O (f+1)],.bool true]),.eq (.agg #[O f,O (f+1)]),.eq (.bool true),.any,.any,.eq (.bool true)] [16] I (fun hc=>⟨ob_mv hc (.inl rfl),ob_mv hc (.inl rfl),oTT 89 0 90 1 hc (hs:=c_1),oTN 91 2 (.const (O 4)) (O 4) hc (hs:=c_54),oTN 92 3 (.const (O 4)) (O 4) hc (hs:=c_1),oTN 93 4 (.const (O 4)) (O 4) hc (hs:=(by intro ρ w1 h k;go_simp;first|done|exact hk)),ob_getB gb (b.v) (b.r) hc rfl fun vs gs w1 c=>c.b0 4,ob_mv hc (.inl rfl),ob_call (fun v=>[v 5,v 6,v 7]) hc rfl fun vs gs w1 c=>htu _ _ _ _ (c.v 5) (c.v 6) (c.v 7),ob_mv hc (.inl rfl),ob_call (fun v=>[v 8,v 9]) hc rfl fun vs gs w1 c=>hun _ _ _ (c.v 8) (c.v 9),ob_cp 10 hc (.inl rfl),oT 88 11 hc,oT 88 11 hc,ob_new (n:=6) [O 0,O 0] 30 rfl hc rfl rfl rfl,ob_put2 (n:=6) 0 rfl (some 12) hc rfl,ob_cp 13 hc (.inr rfl),trivial⟩) fun gi vs W=>tl ?_
  clear I
  intro I
  go_upto_region 19 with fail
  refine rB [[(3,.own [O f,O (f+1)])]] [] [.eq (O (q)),.eq (.agg #[O f,O (f+1)]),.eq (O (q))] [2] I (fun hc=>⟨ob_mv hc (.inl rfl),ob_ld2 (x:=.tmp 18) (g:=gi) (f:=0) none hc rfl fun vs gs w1 c=>⟨c.own 6 0,c.own 6 1⟩,ob_cp 0 hc (.inr rfl),ob_put2 (n:=0) 0 rfl (some 1) hc rfl,trivial⟩) fun vs W=>tl ?_
  clear I
  intro I
  have d0:=I.own 0 0
  have d1:=I.own 0 1
  have hE:=I.e
  clear I hpi hnn hbr hb2 hxs hx2 hqd hqi hqp hhf hbs hph hos hc1 hc2 htu hun
  go_wp2_with fail
  try simp only[Exit.jump]
  try(show bodyPost _ _ _ _ _ _)
  refine bodyPost_ret (v:=.tuple #[O q,.agg #[O f,O (f+1)]]) ?_ rfl ⟨rfl, ?_⟩
  ·simp[results,Tryz.results173,go_sem, ↓IntWalk.iteOmega, *]
  ·exact b_1
end Go.Proofs.YtaoioncjmfcolaaGreat
