/- trig: Neg. -/
import Derived.Test.YtaoioncjmfcolaaGreatV21
set_option linter.unusedSimpArgs false
set_option linter.unusedVariables false
set_option maxRecDepth 100000
set_option maxHeartbeats 4000000
namespace Go.Proofs.YtaoioncjmfcolaaGreat
open Go.RowKit
def VF.lim (xs:List Int):VF:=⟨fun v w=>Lim w v xs,fun _ _ _ h k=>h.ext k,fun _ _ _ _ h hT k=>h.grown hT k⟩
theorem sg_opp (n:Int):sg (!decide (n<0)) n.natAbs= -n:=by
 unfold sg
 by_cases h:n<0
 ·rw[decide_eq_true h];simp;omega
 ·rw[decide_eq_false h];simp;omega
theorem t_neg (va:Value) (n:Int) (w:World) (ha:Wid w va n) (hs:Sz n):
    K_ 74 #[va] w fun e w'=>∃u,e=.returned (.tuple #[u,O 0])∧Wid w' u (-n)∧Ext w w':=by
 obtain⟨s,hsd,ao,cap1,rfl,hu⟩:∃s,decide (n<0)=s∧∃ao cap1,va=.agg #[.bool s,.slice ao (dig n.natAbs).length cap1]∧Lim w (.slice ao (dig n.natAbs).length cap1) (dig n.natAbs):=by
  obtain⟨u,rfl,hu⟩:=ha
  obtain⟨ao,b1,o1,cap1,rfl, -⟩:=hu.view
  exact⟨_,rfl,ao,cap1,rfl,hu⟩
 have hz:n.natAbs=0→s=false:=fun h=>by rw[←hsd];exact decide_eq_false (by omega)
 have hl:(dig n.natAbs).length≤4096:=hs
 have hk:=z_check_one ((w.alloc (.cells #[.bool s,.slice ao (dig n.natAbs).length cap1] 24)).alloc (.cells #[.bool false,.slice none 0 0] 24)) _ s n.natAbs ((hu.alloc _).alloc _) hl hz
 simp only[World.size_alloc]at hk
 have hcl:∀w1 v,v=.slice ao (dig n.natAbs).length cap1→Ext w w1→K_ 130 #[v] w1 fun e w'=>∃u,e=.returned u∧Lim w' u (dig n.natAbs)∧Ext w1 w':=fun w1 v hv k1=>by subst hv;exact w_Clone _ _ w1 (hu.ext k1) (by omega)
 have hmd:∀b u w1,b=.bool (!s)→Lim w1 u (dig n.natAbs)→K_ 76 #[b,u] w1 fun e w'=>∃u,e=.returned (.tuple #[u,O 0])∧Wid w' u (sg (!s) n.natAbs)∧Ext w1 w':=fun b u w1 hb h=>by subst hb;exact w_made (!s) u _ n.natAbs w1 h (dig_val _) hl
 have hop:=sg_opp n
 rw[hsd]at hop
 rw[hop]at hmd
 clear hz hop hu hl
 obtain⟨D,hD⟩:∃D,dig n.natAbs=D:=⟨_,rfl⟩
 rw[hD]at hcl hmd hk
 obtain⟨l1,hl1⟩:∃l1,D.length=l1:=⟨_,rfl⟩
 rw[hl1]at hcl hk
 rw[hD,hl1]
 clear ha hD hl1
 have I0:KBd w [] w:=⟨Ext.refl w,trivial,by simp,by simp⟩
 have I:=(I0.new [.bool s,.slice ao l1 cap1] 24 (by simp)).new [.bool false,.slice none 0 0] 24 (by simp)
 simp only[World.size_alloc,List.nil_append,List.cons_append]at I
 clear I0
 go_enter Tryz.func74,Tryz.ntmps74
 go_upto_region 4 with(go_at_call 77;(with_reducible refine hk.mono ?_);rintro e w1 ⟨rfl,hb⟩;replace I:=(I.ext ((Ext.refl _).alloc _)).ext hb)
 go_upto_region 4 with fail
 refine rB [[],[(9,.wat (-n))]] [] [.eq (.pointer (some ⟨w.heap.size,0,none⟩)),.eq (.bool s),.eq (.bool (!s)),.eq (.pointer (some ⟨w.heap.size,1,none⟩)),.eq (.slice ao l1 cap1),.lim D,(VF.wid (-n)).err 0,.wid (-n),.eq (O 0),.any,.eq (O 0)] [10] I (fun hc=>⟨oN (.tmp 1) (.pointer (some ⟨w.heap.size,0,none⟩)) hc,oL 12 0 hc fun vs gs w1 c=>c.own 0 0,oT 13 1 hc,oN (.tmp 1) (.pointer (some ⟨w.heap.size,0,none⟩)) hc,oL 15 3 hc fun vs gs w1 c=>c.own 0 1,ob_call (fun v=>[v 4]) hc rfl fun vs gs w1 c=>hcl _ _ (c.v 4) c.k.1,ob_call (fun v=>[v 2,v 5]) hc rfl fun vs gs w1 c=>calls_err (hmd _ _ _ (c.v 2) (c.v 5)),ob_ext0 6 hc rfl,ob_ext1 6 hc rfl,ob_putW (n:=1) rfl 7 hc rfl 0 (h4:=fun _ _ h=>own_bx2 h),ob_cp 8 hc (.inr rfl),trivial⟩) fun vs W=>tl ?_
 clear I
 intro I
 clear hcl hmd hk
 obtain⟨bs,us,x0,x1,x2, -⟩:=(show WAt W (w.heap.size+1) (-n)from I.at 1)
 have hEx:=I.e
 clear I hb
 go_wp2_with fail
 refine bodyPost_ret (v:=.tuple #[.agg #[.bool bs,us],O 0]) ?_ rfl ⟨_,rfl,x2,hEx⟩
 simp[results,Tryz.results74,go_sem, ↓IntWalk.iteOmega, *]
def misB (a P:Bl):Bl:=⟨P.v/2-a.v,P.r+a.r+1⟩
def rs2 (b:Bl):Bl:=cond (decide (cmpI b.v 0<0)) ⟨0,b.r⟩ b
def rs1 (a P:Bl):Bl:=cond (decide (0<cmpI a.v (misB a P).v)) (misB a P) a
def turnF (q:Int) (a P:Bl) (p:Nat):Option Bl:=
 if okN a.v=true∧0≤a.r∧a.r≤10000000000000∧okN (P.v/2)=true∧okN (misB a P).v=true then
  (circF (rs2 (rs1 a P)).v.toNat (rs2 (rs1 a P)).r p).bind fun S=>
  if okN (cond (decide (q%2=1)^^decide (0<cmpI a.v (misB a P).v)) S.2 S.1).v=true then
   some (cond (decide (q/2%2=1)) ⟨-(cond (decide (q%2=1)^^decide (0<cmpI a.v (misB a P).v)) S.2 S.1).v,(cond (decide (q%2=1)^^decide (0<cmpI a.v (misB a P).v)) S.2 S.1).r⟩ (cond (decide (q%2=1)^^decide (0<cmpI a.v (misB a P).v)) S.2 S.1))else none
 else none
theorem rs2_nn (b:Bl):0≤(rs2 b).v:=by
 unfold rs2 cmpI
 by_cases h:b.v<0
 ·rw[if_pos h];exact Int.le_refl _
 ·rw[if_neg h]
  by_cases k:0<b.v
  ·rw[if_pos k];show 0≤b.v;omega
  ·rw[if_neg k];show 0≤b.v;omega
theorem KBd.putB {w W:World} {L:List (Nat×BF)} {g:Nat} {bf:BF} {s:Bool} {ao:Option Addr} {k cap:Nat} {x r:Int} (h:KBd w L W) (n:Nat) (hx:L[n]? =some (g,bf)) (h3:Bx3 W g) (hw:Wid W (.agg #[.bool s,.slice ao k cap]) x):
    KBd w (L.set n (g,BF.bat x r)) (((W.setCell ⟨g,0,none⟩ (.bool s)).setCell ⟨g,1,none⟩ (.slice ao k cap)).setCell ⟨g,2,none⟩ (O r)):=by
 obtain⟨hn,hxe⟩:=List.getElem?_eq_some_iff.1 hx
 have hg:w.heap.size≤g:=h.ge _ (List.mem_of_getElem? hx)
 have hGB:=(((GB.refl g W).set (j:=0) (.bool s)).set (j:=1) (.slice ao k cap)).set (j:=2) (O r)
 have hN:NoU W g:=h3.2.2.2.2.1
 have hm:(L.set n (g,BF.bat x r)).map (·.1)=L.map (·.1):=by
  rw[List.map_set]
  apply List.ext_getElem (by simp)
  intro j h1 h2
  rw[List.getElem_set]
  split
  ·rename_i e;subst e;simp[hxe]
  ·rfl
 refine⟨GB.pre h.e hGB hg,Bxs.of fun y hy=> ?_,by rw[hm];exact h.nd,fun y hy=> ?_⟩
 ·obtain⟨j,hj,rfl⟩:=List.getElem_of_mem hy
  rw[List.length_set]at hj
  rw[List.getElem_set]
  split
  ·exact Bx3.put h3 hw
  ·rename_i e
   refine L[j].2.gb _ _ _ _ (h.b.mem _ (List.getElem_mem hj)) hN hGB fun he=>e ?_
   have h1:(L.map (·.1))[n]'(by simpa using hn)=(L.map (·.1))[j]'(by simpa using hj):=by simp[hxe,he]
   have h0:=List.pairwise_iff_getElem.1 h.nd
   rcases Nat.lt_trichotomy n j with h2|h2|h2
   ·exact absurd h1 (h0 n j _ _ h2)
   ·exact h2
   ·exact absurd h1.symm (h0 j n _ _ h2)
 ·have h2:y.1∈L.map (·.1):=by rw[←hm];exact List.mem_map.2 ⟨y,hy,rfl⟩
  obtain⟨z,h4,h5⟩:=List.mem_map.1 h2
  rw[←h5];exact h.ge z h4
theorem calls_two {P:Program} {f:Nat} {av:Array Value} {w:World} {F G:Value→World→Prop} (h:Calls P f av w fun e w'=>∃u v,e=.returned (.tuple #[u,v])∧F u w'∧G v w'∧Ext w w'):
    Calls P f av w fun e w'=>∃u,e=.returned u∧(∃a b,u=.tuple #[a,b]∧F a w'∧G b w')∧Ext w w':=h.mono fun _ _ ⟨u,v,h1,h2,h3,h4⟩=>⟨_,h1,⟨u,v,rfl,h2,h3⟩,h4⟩
theorem t_turned (va:Value) (q:Int) (a P R:Bl) (p:Nat) (w:World) (ha:Ball w va a.v a.r) (hq4:q=0∨q=1∨q=2∨q=3) (hp2:2≤p) (hP:piF p=some P) (hF:turnF q a P p=some R):
    K_ 146 #[O q,va,O p] w fun e w'=>∃u,e=.returned u∧Ball w' u R.v R.r∧Ext w w':=by
 obtain⟨-,kP,kP0,kr0,kr1,hp⟩:=t_piF w hP
 have hpi:∀w1 u,u=O (p:Int)→K_ 124 #[u] w1 fun e w'=>∃u,e=.returned u∧Ball w' u P.v P.r∧Ext w1 w':=fun w1 u hu=>by subst hu;exact(t_piF w1 hP).1
 clear hP
 unfold turnF at hF
 split at hF
 case isFalse=>cases hF
 rename_i k0
 obtain⟨ka,ka0,ka1,kh,km⟩:=k0
 rw[Option.bind_eq_some_iff]at hF
 obtain⟨⟨S,C⟩,hci0,hF⟩:=hF
 split at hF
 case isFalse=>cases hF
 rename_i kD
 replace hF:=Option.some.inj hF
 dsimp only at hF kD
 have hx:=rs2_nn (rs1 a P)
 unfold rs2 rs1 at hx hci0
 obtain⟨m,hm⟩:∃m,misB a P=m:=⟨_,rfl⟩
 have hmr:m.r=P.r+a.r+1:=by rw[←hm];rfl
 have hmv:P.v/2-a.v=m.v:=by rw[←hm];rfl
 rw[hm]at hF kD hx hci0 km
 clear hm
 obtain⟨cv,hcv⟩:∃cv,cmpI a.v m.v=cv:=⟨_,rfl⟩
 rw[hcv]at hF kD hx hci0
 obtain⟨sw,hsw⟩:∃sw,decide (0<cv)=sw:=⟨_,rfl⟩
 rw[hsw]at hF kD hx hci0
 obtain⟨b1,hb1⟩:∃b1,cond sw m a=b1:=⟨_,rfl⟩
 rw[hb1]at hx hci0
 obtain⟨dv,hdv⟩:∃dv,cmpI b1.v 0=dv:=⟨_,rfl⟩
 rw[hdv]at hx hci0
 obtain⟨ng,hng⟩:∃ng,decide (dv<0)=ng:=⟨_,rfl⟩
 rw[hng]at hx hci0
 obtain⟨b2,hb2⟩:∃b2,cond ng (⟨0,b1.r⟩:Bl) b1=b2:=⟨_,rfl⟩
 rw[hb2]at hx hci0
 obtain⟨c0,hc0⟩:∃c0,decide (q%2=1)=c0:=⟨_,rfl⟩
 rw[hc0]at hF kD
 obtain⟨c1,hc1⟩:∃c1,(c0^^sw)=c1:=⟨_,rfl⟩
 rw[hc1]at hF kD
 obtain⟨D,hD⟩:∃D,cond c1 C S=D:=⟨_,rfl⟩
 rw[hD]at hF kD
 obtain⟨hi,hhi⟩:∃hi,decide (q/2%2=1)=hi:=⟨_,rfl⟩
 rw[hhi]at hF
 obtain⟨h,hh⟩:∃h,P.v/2=h:=⟨_,rfl⟩
 rw[hh]at hmv kh
 have kb1:okN b1.v=true∧0≤b1.r∧b1.r≤11000000000000:=by
  rw[←hb1]
  cases sw
  ·exact⟨ka,ka0,by show a.r≤_;omega⟩
  ·exact⟨km,by show 0≤m.r;omega,by show m.r≤_;omega⟩
 have kb2:0≤b2.r∧b2.r≤11000000000000:=by
  rw[←hb2]
  cases ng
  ·exact kb1.2
  ·exact kb1.2
 have hhf:∀(w1:World) (u1:Value),Wid w1 u1 P.v→K_ 169 #[u1,O (-1)] w1 fun e w'=>∃u,e=.returned u∧Wid w' u h∧Ext w1 w':=fun w1 u1 k=>by
  have:=t_shiftD u1 P.v 1 w1 k (okN.sz kP) (by decide) (by decide)
  rw[Int.pow_one,hh]at this
  exact this
 have hms:∀(w1:World) (u1 u2:Value),Wid w1 u1 h→Wid w1 u2 a.v→K_ 131 #[u1,u2] w1 fun e w'=>∃u,e=.returned u∧Wid w' u m.v∧Ext w1 w':=fun w1 u1 u2 k1 k2=>by
  have:=t_subZ u1 u2 _ _ w1 k1 k2 (okN.sz kh) (okN.sz ka) (by rw[hmv];exact okN.sz km)
  rw[hmv]at this
  exact this
 have hcp:∀(w1:World) (u1 u2:Value),Wid w1 u1 a.v→Wid w1 u2 m.v→K_ 52 #[u1,u2] w1 fun e w'=>∃u,e=.returned u∧u=.tuple #[O cv,O 0]∧Ext w1 w':=fun w1 u1 u2 k1 k2=>by
  have:=z_Cmp u1 u2 _ _ w1 k1 k2 (okN.sz ka) (okN.sz km)
  rw[hcv]at this
  exact calls_eq this
 have hsg:∀(w1:World) (u1:Value),Wid w1 u1 b1.v→K_ 73 #[u1] w1 fun e w'=>∃u,e=.returned u∧u=O dv∧Ext w1 w':=fun w1 u1 k1=>by
  have:=t_sign u1 _ w1 k1 (okN.sz kb1.1)
  rw[hdv]at this
  exact calls_eq this
 have hci:∀(w1:World) (u1 u2:Value),Ball w1 u1 b2.v b2.r→u2=O (p:Int)→K_ 170 #[u1,u2] w1 fun e w'=>∃u v,e=.returned (.tuple #[u,v])∧Ball w' u S.v S.r∧Ball w' v C.v C.r∧Ext w1 w':=fun w1 u1 u2 k1 k2=>by
  subst k2
  rw[show b2.v=((b2.v.toNat:Nat):Int) by omega]at k1
  exact t_circ u1 _ _ p S C w1 k1 kb2.1 (by omega) hp2 hp hci0
 have hne:∀(w1:World) (u1:Value),Wid w1 u1 D.v→K_ 74 #[u1] w1 fun e w'=>∃u,e=.returned (.tuple #[u,O 0])∧Wid w' u (-D.v)∧Ext w1 w':=fun w1 u1 k1=>t_neg u1 _ w1 k1 (okN.sz kD)
 have hhi2:(q/2%2*2==2)=hi:=by rw[←hhi];rcases hq4 with rfl|rfl|rfl|rfl<;>rfl
 clear hhi hci0 hx hh hmv hcv hdv kb1 kb2 km kh ka kD kP
 obtain⟨sb,aob,nb,capb,rfl,hWx⟩:=ha.open
 have I0:KBd w [] w:=⟨Ext.refl w,trivial,by simp,by simp⟩
 have I:=((I0.push ((Ext.refl w).alloc (.cells #[.bool sb,.slice aob nb capb,O a.r] 137)) (BF.bat a.v a.r) (BatP.new hWx)).new [.bool false,.slice none 0 0,O 0] 137 (by simp))
 simp only[World.size_alloc,List.nil_append,List.cons_append]at I
 clear I0 hWx ha
 replace hb1:=Lib.hid hb1
 replace hb2:=Lib.hid hb2
 replace hc1:=Lib.hid hc1
 replace hD:=Lib.hid hD
 replace hF:=Lib.hid hF
 go_enter Tryz.func146,Tryz.ntmps146
 go_upto_region 1 with fail
 refine rB [] [⟨2,some 3,.own [.bool false,.slice none 0 0,O 0],(.bat P.v P.r)⟩] [.eq (O (p)),.ball (P.v) (P.r)] [] I (fun hc=>⟨ob_mv hc (.inl rfl),ob_call (fun v=>[v 0]) hc rfl fun vs gs w1 c=>hpi _ _ (c.v 0),ob_new (n:=2) [.bool false,.slice none 0 0,O 0] 137 rfl hc rfl rfl rfl,ob_putB (n:=2) rfl 1 hc rfl 0,trivial⟩) fun gh vs W=>tl ?_
 clear I
 intro I
 go_upto_region 2 with fail
 refine rB [[],[],[(6,.bat h P.r)]] [] [.eq (.pointer (some ⟨gh,0,none⟩)),.wid (P.v),.wid (h),.eq (.pointer (some ⟨gh,2,none⟩)),.eq (O (P.r)),.ball (h) (P.r)] [] I (fun hc=>⟨oN (.tmp 7) (.pointer (some ⟨gh,0,none⟩)) hc,ob_getN gh P.v P.r (some 0) hc rfl fun vs gs w1 c=>c.b0 2,ob_call (fun v=>[v 1,O (-1)]) hc rfl fun vs gs w1 c=>hhf _ _ (c.v 1),oN (.tmp 7) (.pointer (some ⟨gh,0,none⟩)) hc,oL 19 3 hc fun vs gs w1 c=>BatP.r (c.b0 2),ob_buildB (q:=h) (r:=P.r) 2 (some 4) hc rfl,ob_putB (n:=2) rfl 5 hc rfl 0,trivial⟩) fun vs W=>tl ?_
 clear I
 intro I
 go_upto_region 3 with fail
 refine rB [] [⟨12,some 13,.own [.bool false,.slice none 0 0,O 0],(.bat m.v m.r)⟩] [.eq (.pointer (some ⟨gh,0,none⟩)),.wid (h),.eq (.pointer (some ⟨w.heap.size,0,none⟩)),.wid (a.v),.wid (m.v),.eq (.pointer (some ⟨gh,2,none⟩)),.eq (O (P.r)),.eq (.pointer (some ⟨w.heap.size,2,none⟩)),.eq (O (a.r)),.eq (O (P.r+a.r)),.eq (O (m.r)),.ball (m.v) (m.r)] [] I (fun hc=>⟨oN (.tmp 7) (.pointer (some ⟨gh,0,none⟩)) hc,ob_getN gh h P.r (some 0) hc rfl fun vs gs w1 c=>c.b0 2,oN (.tmp 4) (.pointer (some ⟨w.heap.size,0,none⟩)) hc,ob_getN w.heap.size a.v a.r (some 2) hc rfl fun vs gs w1 c=>c.b0 0,ob_call (fun v=>[v 1,v 3]) hc rfl fun vs gs w1 c=>hms _ _ _ (c.v 1) (c.v 3),oN (.tmp 7) (.pointer (some ⟨gh,0,none⟩)) hc,oL 27 5 hc fun vs gs w1 c=>BatP.r (c.b0 2),oN (.tmp 4) (.pointer (some ⟨w.heap.size,0,none⟩)) hc,oL 29 7 hc fun vs gs w1 c=>BatP.r (c.b0 0),oTT 28 6 30 8 hc (hs:=c_1),oTN 31 9 (.const (O 1)) (O 1) hc (hs:=c_1),ob_buildB (q:=m.v) (r:=m.r) 4 (some 10) hc rfl,ob_new (n:=3) [.bool false,.slice none 0 0,O 0] 137 rfl hc rfl rfl rfl,ob_putB (n:=3) rfl 11 hc rfl 0,trivial⟩) fun gm vs W=>tl ?_
 clear I
 intro I
 go_upto_region 4 with fail
 refine rB [] [] [.eq (O (q)),.eq (O (q%2)),.eq (.bool c0),.eq (.bool c0)] [3] I (fun hc=>⟨ob_mv hc (.inl rfl),oTN 34 0 (.const (O 1)) (O 1) hc (hs:=(by intro ρ w1 h k;go_simp;rcases hq4 with rfl|rfl|rfl|rfl<;>rfl)),oTN 35 1 (.const (O 1)) (O 1) hc (hs:=(by intro ρ w1 h k;go_simp;first|done|exact hc0)),ob_cp 2 hc (.inr rfl),trivial⟩) fun vs W=>tl ?_
 clear I
 intro I
 go_upto_region 5 with fail
 refine rB [] [] [.eq (.pointer (some ⟨w.heap.size,0,none⟩)),.wid (a.v),.eq (.pointer (some ⟨gm,0,none⟩)),.wid (m.v),.eq (.tuple #[O cv,O 0]),.eq (.tuple #[O cv,O 0]),.eq (O (cv)),.eq (O (0)),.eq (O (cv)),.eq (O (0))] [8,9] I (fun hc=>⟨oN (.tmp 4) (.pointer (some ⟨w.heap.size,0,none⟩)) hc,ob_getN w.heap.size a.v a.r (some 0) hc rfl fun vs gs w1 c=>c.b0 0,oN (.tmp 8) (.pointer (some ⟨gm,0,none⟩)) hc,ob_getN gm m.v m.r (some 2) hc rfl fun vs gs w1 c=>c.b0 3,ob_call (fun v=>[v 1,v 3]) hc rfl fun vs gs w1 c=>hcp _ _ _ (c.v 1) (c.v 3),ob_cp 4 hc (.inl rfl),oT 37 5 hc,oT 37 5 hc,ob_cp 6 hc (.inr rfl),ob_cp 7 hc (.inr rfl),trivial⟩) fun vs W=>tl ?_
 clear I
 intro I
 go_upto_region 6 with fail
 refine rB [] [] [.eq (O (cv)),.eq (.bool sw)] [1] I (fun hc=>⟨ob_mv hc (.inl rfl),oTN 45 0 (.const (O 0)) (O 0) hc (hs:=(by intro ρ w1 h k;go_simp;first|done|exact hsw)),trivial⟩) fun vs W=>tl ?_
 clear I
 intro I
 clear hhf hms hcp hpi hmr hc0 hsw
 go_upto_if 46 with fail
 go_cut [9]from 47 to 49 (fun s9 wx=>s9=.bool c1∧KBd w [(w.heap.size,BF.bat b1.v b1.r),(w.heap.size+1,BF.own [.bool false,.slice none 0 0,O 0]),(gh,BF.bat h P.r),(gm,BF.bat m.v m.r)] wx)
 case first=>
  cases sw
  ·go_wp2_with fail
   go_meet
   case rel=>exact⟨by rw[←hc1.out,Bool.xor_false],by rw[←hb1.out];exact I⟩
  ·obtain⟨⟨bs,us,x0,x1,x2⟩,x3, -, -, -⟩:=(show BatP W gm m.v m.r from I.at 3)
   have hA:=(show BatP W w.heap.size a.v a.r from I.at 0)
   obtain⟨ao,k,cap,rfl⟩:∃ao k cap,us=.slice ao k cap:=by obtain⟨_,e,hu⟩:=x2;obtain⟨ao,_,_,cap,rfl, -⟩:=hu.view;cases e;exact⟨_,_,_,rfl⟩
   obtain⟨⟨y0,z0⟩,⟨y1,z1⟩,⟨y2,z2⟩,z3, -⟩:=BatP.bx hA
   have hI:=KBd.putB (r:=m.r) I 0 rfl (BatP.bx hA) x2
   clear I hA
   replace hI:=Lib.hid hI
   go_wp2_with fail
   go_meet
   case rel=>exact⟨by rw[←hc1.out,Bool.xor_true],by rw[←hb1.out];exact hI.out⟩
 case rest=>
  obtain⟨rfl,hI⟩:=hcut
  clear I hc1 hb1
  have I:=hI
  clear hI
  go_upto_region 8 with fail
  refine rB [] [] [.eq (.pointer (some ⟨w.heap.size,0,none⟩)),.wid (b1.v),.eq (O (dv)),.eq (.bool ng)] [3] I (fun hc=>⟨oN (.tmp 4) (.pointer (some ⟨w.heap.size,0,none⟩)) hc,ob_getN w.heap.size b1.v b1.r (some 0) hc rfl fun vs gs w1 c=>c.b0 0,ob_call (fun v=>[v 1]) hc rfl fun vs gs w1 c=>hsg _ _ (c.v 1),oTN 52 2 (.const (O 0)) (O 0) hc (hs:=(by intro ρ w1 h k;go_simp;first|done|exact hng)),trivial⟩) fun vs W=>tl ?_
  clear I
  intro I
  clear hsg hng
  go_upto_if 53 with fail
  go_cut []from 54 to 57 (fun wx=>KBd w [(w.heap.size,BF.bat b2.v b2.r),(w.heap.size+1,BF.own [.bool false,.slice none 0 0,O 0]),(gh,BF.bat h P.r),(gm,BF.bat m.v m.r)] wx)
  case first=>
   cases ng
   ·go_wp2_with fail
    go_meet
    case rel=>rw[←hb2.out];exact I
   ·skip
    go_upto_region 9 with fail
    refine rB [[(4,.bat 0 b1.r)]] [] [.wid (0),.eq (.pointer (some ⟨w.heap.size,2,none⟩)),.eq (O (b1.r)),.ball (0) (b1.r)] [] I (fun hc=>⟨ob_call (fun v=>[O 0]) hc rfl fun vs gs w1 c=>t_numZ 0 _ (by decide) (by decide),oN (.tmp 4) (.pointer (some ⟨w.heap.size,0,none⟩)) hc,oL 55 1 hc fun vs gs w1 c=>BatP.r (c.b0 0),ob_buildB (q:=0) (r:=b1.r) 0 (some 2) hc rfl,ob_putB (n:=0) rfl 3 hc rfl 0,trivial⟩) fun vs W=>tl ?_
    clear I
    intro I
    go_wp2_with fail
    go_meet
    case rel=>rw[←hb2.out];exact I
  case rest=>
   clear I hb2
   have I:=hcut
   clear hcut
   go_upto_region 10 with fail
   refine rB [] [⟨6,some 8,.own [.bool false,.slice none 0 0,O 0],(.bat S.v S.r)⟩,⟨7,some 9,.own [.bool false,.slice none 0 0,O 0],(.bat C.v C.r)⟩] [.ball (b2.v) (b2.r),.eq (O (p)),(VF.ball S.v S.r).two (VF.ball C.v C.r),(VF.ball S.v S.r).two (VF.ball C.v C.r),.ball (S.v) (S.r),.ball (C.v) (C.r)] [] I (fun hc=>⟨ob_getB w.heap.size (b2.v) (b2.r) hc rfl fun vs gs w1 c=>c.b0 0,ob_mv hc (.inl rfl),ob_call (fun v=>[v 0,v 1]) hc rfl fun vs gs w1 c=>calls_two (hci _ _ _ (c.v 0) (c.v 1)),ob_cp 2 hc (.inl rfl),ob_two0 3 hc rfl,ob_two1 3 hc rfl,ob_new (n:=4) [.bool false,.slice none 0 0,O 0] 137 rfl hc rfl rfl rfl,ob_new (n:=5) [.bool false,.slice none 0 0,O 0] 137 rfl hc rfl rfl rfl,ob_putB (n:=4) rfl 4 hc rfl 0,ob_putB (n:=5) rfl 5 hc rfl 0,trivial⟩) fun gs gc vs W=>tl ?_
   clear I
   intro I
   clear hci
   go_upto_region 11 with fail
   refine rB [] [] [.eq (.bool c1)] [0] I (fun hc=>⟨ob_mv hc (.inl rfl),trivial⟩) fun vs W=>tl ?_
   clear I
   intro I
   go_upto_if 64 with fail
   go_cut []from 65 to 65 (fun wx=>KBd w [(w.heap.size,BF.bat b2.v b2.r),(w.heap.size+1,BF.own [.bool false,.slice none 0 0,O 0]),(gh,BF.bat h P.r),(gm,BF.bat m.v m.r),(gs,BF.bat D.v D.r),(gc,BF.bat C.v C.r)] wx)
   case first=>
    cases c1
    ·go_wp2_with fail
     go_meet
     case rel=>rw[←hD.out];exact I
    ·skip
     go_upto_region 12 with fail
     refine rB [[],[],[],[],[(1,.bat C.v C.r)]] [] [.ball (C.v) (C.r)] [] I (fun hc=>⟨ob_getB gc (C.v) (C.r) hc rfl fun vs gs w1 c=>c.b0 5,ob_putB (n:=4) rfl 0 hc rfl 0,trivial⟩) fun vs W=>tl ?_
     clear I
     intro I
     go_wp2_with fail
     go_meet
     case rel=>rw[←hD.out];exact I
   case rest=>
    clear I hD
    have I:=hcut
    clear hcut
    go_upto_region 13 with fail
    refine rB [] [] [.eq (O (q)),.eq (O (q/2%2*2)),.eq (.bool hi)] [2] I (fun hc=>⟨ob_mv hc (.inl rfl),oTN 66 0 (.const (O 2)) (O 2) hc (hs:=(by intro ρ w1 h k;go_simp;rcases hq4 with rfl|rfl|rfl|rfl<;>rfl)),oTN 67 1 (.const (O 2)) (O 2) hc (hs:=(by intro ρ w1 h k;go_simp;first|done|exact hhi2)),trivial⟩) fun vs W=>tl ?_
    clear I
    intro I
    clear hhi2
    go_upto_if 68 with fail
    go_cut []from 69 to 75 (fun wx=>KBd w [(w.heap.size,BF.bat b2.v b2.r),(w.heap.size+1,BF.own [.bool false,.slice none 0 0,O 0]),(gh,BF.bat h P.r),(gm,BF.bat m.v m.r),(gs,BF.bat R.v R.r),(gc,BF.bat C.v C.r)] wx)
    case first=>
     cases hi
     ·go_wp2_with fail
      go_meet
      case rel=>rw[←hF.out];exact I
     ·skip
      go_upto_region 14 with fail
      refine rB [[],[],[],[],[(7,.bat (-D.v) D.r)]] [] [.eq (.pointer (some ⟨gs,0,none⟩)),.wid (D.v),(VF.wid (-D.v)).err 0,(VF.wid (-D.v)).err 0,.wid (-D.v),.eq (O (0)),.eq (.pointer (some ⟨gs,0,none⟩))] [] I (fun hc=>⟨oN (.tmp 12) (.pointer (some ⟨gs,0,none⟩)) hc,ob_getN gs D.v D.r (some 0) hc rfl fun vs gs w1 c=>c.b0 4,ob_call (fun v=>[v 1]) hc rfl fun vs gs w1 c=>calls_err (hne _ _ (c.v 1)),ob_cp 2 hc (.inl rfl),ob_ext0 3 hc rfl,ob_ext1 3 hc rfl,oN (.tmp 12) (.pointer (some ⟨gs,0,none⟩)) hc,ob_putBN (n:=4) (hy:=⟨some 6,fun _=>by kernel_rfl,rfl,by kernel_rfl⟩) rfl 4 hc rfl 0,trivial⟩) fun vs W=>tl ?_
      clear I
      intro I
      go_wp2_with fail
      go_meet
      case rel=>rw[←hF.out];exact I
    case rest=>
     clear I hF hne
     have I:=hcut
     clear hcut
     go_upto_region 15 with fail
     refine rB [[],[(1,.bat R.v R.r)]] [] [.ball (R.v) (R.r)] [] I (fun hc=>⟨ob_getB gs (R.v) (R.r) hc rfl fun vs gs w1 c=>c.b0 4,ob_putB (n:=1) rfl 0 hc rfl 0,trivial⟩) fun vs W=>tl ?_
     clear I
     intro I
     obtain⟨⟨bs,us,x0,x1,x2⟩,x3, -, -, -⟩:=(show BatP W (w.heap.size+1) R.v R.r from I.at 1)
     have hEx:=I.e
     clear I
     go_wp2_with fail
     refine bodyPost_ret (v:=.agg #[.bool bs,us,O R.r]) ?_ rfl ⟨_,rfl,⟨_,_,rfl,x2⟩,hEx⟩
     simp[results,Tryz.results146,go_sem, ↓IntWalk.iteOmega, *]
def sinB (A:Int) (P:Bl):Bl:=⟨P.v*(2*(A%324000000000))/1296000000000,P.r+1⟩
def sineF (a:Int) (p:Nat):Option Bl:=(piF p).bind fun P=>
 if okN (P.v*(2*(a%1296000000000%324000000000)))=true∧2≤p then turnF (a%1296000000000/324000000000) (sinB (a%1296000000000) P) P p else none
def plK (k:Int):Int×Bool:=
 if k=0∨k=6 then(0,true)else if k=1∨k=5 then(549755813888,true)else if k=3 then(1099511627776,true)else if k=7∨k=11 then(-549755813888,true)else if k=9 then(-1099511627776,true)else(0,false)
def plainF (a:Int):Int×Bool:=if a%108000000000=0 then plK (a/108000000000%12)else(0,false)
def sinF (a:Int):Option (Int×Int):=
 match plainF a with
 | (v,true)=>some (v,v)
 | (_,false)=>(sineF a 90).bind fun b=>if 0≤b.r∧b.r≤9000000000000000000 then(floorF b.v b.r 90).bind fun q=>some (q,q+1)else none
end Go.Proofs.YtaoioncjmfcolaaGreat
