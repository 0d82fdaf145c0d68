/- The plain arithmetic of a division of two words by one. -/
import Derived.Test.YtaoioncjmfcolaaGreatV04
import Derived.Lib.ItoaNum
import Derived.Shelf.Spec.BitsCarry
set_option linter.unusedSimpArgs false
set_option linter.unusedVariables false
set_option maxRecDepth 100000
set_option maxHeartbeats 2000000
namespace Go.Proofs.YtaoioncjmfcolaaGreat
theorem step_stop {Y v1 v0 u c q r:Nat} (hY:Y=v1*4294967296+v0) (hu:q*v1+r=u) (hle:(u*4294967296+c)/Y≤q) (h0:0<Y) (ht:q*v0≤4294967296*r+c):
    q=(u*4294967296+c)/Y:=by
 refine Nat.le_antisymm ?_ hle
 rw[Nat.le_div_iff_mul_le h0]
 have:q*Y=q*v1*4294967296+q*v0:=by rw[hY,Nat.mul_add,Nat.mul_assoc]
 rw[this, ←hu];omega
theorem step_more {Y v1 v0 u c q r:Nat} (hY:Y=v1*4294967296+v0) (hu:q*v1+r=u) (h0:0<Y) (ht:4294967296*r+c<q*v0):
    (u*4294967296+c)/Y≤q-1:=by
 have h1:(u*4294967296+c)/Y<q:=by
  rw[Nat.div_lt_iff_lt_mul h0]
  have:q*Y=q*v1*4294967296+q*v0:=by rw[hY,Nat.mul_add,Nat.mul_assoc]
  rw[this, ←hu];omega
 omega
theorem step_big {Y u c q:Nat} (h0:0<Y) (hu:u<Y) (hc:c<4294967296) (hq:4294967296≤q):(u*4294967296+c)/Y≤q-1:=by
 have h1:(u*4294967296+c)/Y<4294967296:=by
  rw[Nat.div_lt_iff_lt_mul h0]
  have:(u+1)*4294967296≤Y*4294967296:=Nat.mul_le_mul_right _ hu
  rw[Nat.mul_comm 4294967296 Y];omega
 omega
theorem step_break {Y v1 v0 u c q r:Nat} (hY:Y=v1*4294967296+v0) (h0:0<Y) (hv0:v0<4294967296) (hu:u<Y) (hq:q*v1+r=u) (hle:(u*4294967296+c)/Y≤q) (hr:4294967296≤r):
    q=(u*4294967296+c)/Y:=by
 refine step_stop hY hq hle h0 ?_
 have h1:q<4294967296:=by
  refine Nat.lt_of_not_le fun hn=> ?_
  have:4294967296*v1≤q*v1:=Nat.mul_le_mul_right _ hn
  omega
 have h2:q*v0≤q*4294967296:=Nat.mul_le_mul_left _ (Nat.le_of_lt hv0)
 omega
theorem step_first {Y v1 v0 u c:Nat} (hY:Y=v1*4294967296+v0) (h0:0<v1) (hc:c<4294967296):(u*4294967296+c)/Y≤u/v1:=by
 rw[hY,Nat.le_div_iff_mul_le h0]
 have h1:=Nat.div_mul_le_self (u*4294967296+c) (v1*4294967296+v0)
 generalize(u*4294967296+c)/(v1*4294967296+v0)=q at h1 ⊢
 rw[Nat.mul_add, ←Nat.mul_assoc]at h1
 omega
theorem step_down {q v1 r u:Nat} (hq:q*v1+r=u) (h:1≤q):(q-1)*v1+(r+v1)=u:=by
 obtain⟨k,rfl⟩:∃k,q=k+1:=⟨q-1,by omega⟩
 rw[Nat.add_mul]at hq
 simp;omega
theorem pow_split (s:Nat) (hs:s≤64):2^(64-s)*2^s=18446744073709551616:=by
 rw[←Nat.pow_add,Nat.sub_add_cancel hs]
theorem norm_facts (hi lo y:Nat) (hy0:0<y) (hy:y<18446744073709551616) (hh:hi<y) (hl:lo<18446744073709551616):
    ∃s:Nat,s<64∧Lib.bitLen y+s=64∧9223372036854775808≤y*2^s∧y*2^s<18446744073709551616∧
      (hi*2^s) ||| (lo/2^(64-s))=hi*2^s+lo/2^(64-s)∧hi*2^s+lo/2^(64-s)<y*2^s∧hi*2^s<18446744073709551616∧
      (hi*2^s+lo/2^(64-s))*18446744073709551616+lo*2^s%18446744073709551616=(hi*18446744073709551616+lo)*2^s:=by
 have hb:=Lib.bitLenAux_bounds 64 y (by simpa using hy) (by omega)
 have hL:Lib.bitLen y≤64:=Lib.bitLen_le y 64 (by omega) (by simpa using hy)
 obtain⟨b1,b2,b3⟩:=hb
 change 1≤Lib.bitLen y at b1
 change 2^(Lib.bitLen y-1)≤y at b2
 change y<2^Lib.bitLen y at b3
 refine⟨64-Lib.bitLen y,by omega,by omega, ?_⟩
 generalize hs:64-Lib.bitLen y=s
 have hs':Lib.bitLen y=64-s:=by omega
 have hp:=pow_split s (by omega)
 rw[hs']at b2 b3
 have hpos:0<2^s:=Nat.two_pow_pos s
 have e1:9223372036854775808≤y*2^s:=by
  have h2:2^(64-s)=2^(64-s-1)*2:=by
   rw[←Nat.pow_succ];congr 1;omega
  have h3:2^(64-s-1)*2^s≤y*2^s:=Nat.mul_le_mul_right _ b2
  rw[h2,Nat.mul_right_comm]at hp
  omega
 have e2:y*2^s<18446744073709551616:=by
  rw[←hp];exact Nat.mul_lt_mul_of_pos_right b3 hpos
 have hlo:lo/2^(64-s)<2^s:=by
  rw[Nat.div_lt_iff_lt_mul (Nat.two_pow_pos _),Nat.mul_comm,hp];exact hl
 have hlo2:lo*2^s/18446744073709551616=lo/2^(64-s):=by
  rw[←hp];exact Nat.mul_div_mul_right _ _ hpos
 have e5:(hi*2^s+lo/2^(64-s))*18446744073709551616+lo*2^s%18446744073709551616=(hi*18446744073709551616+lo)*2^s:=by
  have:=Nat.div_add_mod (lo*2^s) 18446744073709551616
  rw[hlo2]at this
  rw[Nat.add_mul,Nat.add_mul,Nat.mul_right_comm hi];omega
 have e4:hi*2^s+lo/2^(64-s)<y*2^s:=by
  have h1:(hi+1)*2^s≤y*2^s:=Nat.mul_le_mul_right _ hh
  rw[Nat.add_mul]at h1;omega
 refine⟨e1,e2, ?_,e4,by omega,e5⟩
 have:=Nat.two_pow_add_eq_or_of_lt hlo hi
 rw[Nat.mul_comm hi]
 exact this.symm
theorem wrapN (a:Nat):IntKind.u64.wrap (a:Int)=((a%18446744073709551616:Nat):Int):=by rw[IntKind.wrap_u64];omega
theorem wrapL (a:Nat) (ha:a<18446744073709551616):IntKind.u64.wrap (a:Int)=(a:Int):=by rw[IntKind.wrap_u64];omega
theorem wrap_rest (u c q Y R:Nat) (h:u*4294967296+c=q*Y+R) (hR:R<18446744073709551616):
    IntKind.u64.wrap (IntKind.u64.wrap (IntKind.u64.wrap ((u:Int)*4294967296)+(c:Int))-IntKind.u64.wrap ((q:Int)*(Y:Int)))=(R:Int):=by
 have h':(u:Int)*4294967296+c=(q:Int)*Y+R:=by
  have h2:((u*4294967296+c:Nat):Int)=((q*Y+R:Nat):Int):=by rw[h]
  rw[Int.natCast_add,Int.natCast_mul,Int.natCast_add,Int.natCast_mul]at h2
  exact h2
 rw[IntKind.wrap_u64,IntKind.wrap_u64,IntKind.wrap_u64,IntKind.wrap_u64]
 generalize(q:Int)*(Y:Int)=p at h' ⊢
 omega
theorem maskN (a:Nat) (ha:a<18446744073709551616):bits .and .u64 (a:Int) 4294967295=((a%4294967296:Nat):Int):=by
 have h:=bits_and_u64_nat a 4294967295 ha (by omega)
 have e:a&&& 4294967295=a%4294967296:=Nat.and_two_pow_sub_one_eq_mod a 32
 rw[e]at h
 exact h
#print axioms norm_facts
end Go.Proofs.YtaoioncjmfcolaaGreat
namespace Go.Proofs.YtaoioncjmfcolaaGreat
open Go.RowKit
theorem T_Div_5 {p:Prop} (h:p:=by
 have J1:=Lib.hid j1;clear j1
 have K2:=Lib.hid k2;clear k2
 have HM:=Lib.hid hm;clear hm
 exact T_Div_1):p:=h
theorem T_Div_4 {p:Prop} (h:p:=by
 have e3:(q:Int)-1=Q1:=by omega
 clear k3
 go_wp2_with fail
 go_meet
 exact⟨rfl,⟨_,rfl⟩,rfl⟩):p:=h
theorem T_Div_3 {p:Prop} (h:p:=by
 have e3:(q:Int)-1=Q0:=by omega
 clear k3
 go_wp2_with fail
 go_meet
 exact⟨rfl,⟨_,rfl⟩,rfl⟩):p:=h
theorem T_Div_2 {p:Prop} (h:p:=by
 subst k3
 have J1:=Lib.hid j1;clear j1
 have HM:=Lib.hid hm;clear hm
 go_wp2_with fail
 go_meet
 exact⟨rfl,⟨_,rfl⟩,rfl⟩):p:=h
theorem T_Div_1 {p:Prop} (h:p:=by
 go_wp2_with fail
 go_round
 case rel=>exact⟨q-1,r+v1,by omega,⟨K2.out,k1,by omega⟩,by go_num,by go_num⟩
 case measure=>simp[intOf];omega):p:=h
def StepInv (v1 u Q q r:Nat):Prop:=q*v1+r=u∧Q≤q∧r<4294967296
theorem div64_core (hi lo y:Nat) (w:World) (_h2:(lo:Int)<18446744073709551616) (h3:(y:Int)<18446744073709551616) (h0:((hi:Int)==0)=false) (hy:((y:Int)==0)=false)
   (hy':¬(y≤hi)) (s:Nat) (hs:s<64) (hs':64-(Lib.bitLen y:Int)=(s:Int)) (Y v1 v0 u l l1 l0 qa pa ra Q1 u2 qb pb rb Q0:Nat)
   (eY:IntKind.u64.wrap (↑y*2^s)=(Y:Int)) (hv1:(0:Int)<v1) (hv1':(v1:Int)<4294967296) (e1:(Y:Int)/4294967296=v1)
   (hv0:(v0:Int)<4294967296) (e0:bits BinOp.and IntKind.u64 (Y:Int) 4294967295=v0)
   (eU:bits BinOp.or IntKind.u64 (IntKind.u64.wrap (↑hi*2^s)) (↑lo/2^(64-s))=(u:Int))
   (eL:IntKind.u64.wrap (↑lo*2^s)=(l:Int)) (eL1:(l:Int)/4294967296=l1) (eL0:bits BinOp.and IntKind.u64 (l:Int) 4294967295=l0)
   (hl1:(l1:Int)<4294967296) (hl0:(l0:Int)<4294967296)
   (eqa:(u:Int)/v1=qa) (epa:IntKind.u64.wrap ((qa:Int)*v1)=pa) (hpa:pa≤u) (hu64:(u:Int)<18446744073709551616) (era:(u:Int)-pa=ra)
   (eu2:IntKind.u64.wrap (IntKind.u64.wrap (IntKind.u64.wrap ((u:Int)*4294967296)+(l1:Int))-IntKind.u64.wrap ((Q1:Int)*(Y:Int)))=(u2:Int))
   (eqb:(u2:Int)/v1=qb) (epb:IntKind.u64.wrap ((qb:Int)*v1)=pb) (hpb:pb≤u2) (hu264:(u2:Int)<18446744073709551616) (erb:(u2:Int)-pb=rb)
   (hqa:(qa:Int)<18446744073709551616) (hqb:(qb:Int)<18446744073709551616)
   (hQ1:(Q1:Int)<4294967296) (hQ0:(Q0:Int)<4294967296)
   (I1:StepInv v1 u Q1 qa ra) (I2:StepInv v1 u2 Q0 qb rb)
   (big1:∀q,4294967296≤q→Q1≤q-1) (more1:∀q r,q*v1+r=u→4294967296*r+l1<q*v0→Q1≤q-1)
   (stop1:∀q r,q*v1+r=u→Q1≤q→q*v0≤4294967296*r+l1→q=Q1) (break1:∀q r,q*v1+r=u→Q1≤q→4294967296≤r→q=Q1)
   (R:Nat) (eR:IntKind.u64.wrap (IntKind.u64.wrap (IntKind.u64.wrap ((u2:Int)*4294967296)+(l0:Int))-IntKind.u64.wrap ((Q0:Int)*(Y:Int)))=(R:Int))
   (big2:∀q,4294967296≤q→Q0≤q-1) (more2:∀q r,q*v1+r=u2→4294967296*r+l0<q*v0→Q0≤q-1)
   (stop2:∀q r,q*v1+r=u2→Q0≤q→q*v0≤4294967296*r+l0→q=Q0) (break2:∀q r,q*v1+r=u2→Q0≤q→4294967296≤r→q=Q0):
    K_ 149 #[.int .u64 hi,.int .u64 lo,.int .u64 y] w fun e w'=>e=.returned (.tuple #[.int .u64 ((Q1:Int)*4294967296+Q0),.int .u64 ((R:Int)/2^s)])∧Ext w w':=by
 have Hb1:=Lib.hid big1;clear big1
 have Hb2:=Lib.hid big2;clear big2
 have Hm1:=Lib.hid more1;clear more1
 have Hm2:=Lib.hid more2;clear more2
 have Hs1:=Lib.hid stop1;clear stop1
 have Hs2:=Lib.hid stop2;clear stop2
 have Hk1:=Lib.hid break1;clear break1
 have Hk2:=Lib.hid break2;clear break2
 go_enter Tryz.func149,Tryz.ntmps149
 go_upto_block 0 with(go_at_call 171;refine(Tryz.bits_LeadingZeros64 _ _ (by omega) (by omega)).mono ?_;rintro e w' ⟨rfl,hw⟩;rw[hw];clear hw;simp only[Int.toNat_natCast];rw[hs'])
 go_cut [15,16] (fun a b wx=>a=.int .u64 Q1∧(∃r:Nat,b=.int .u64 r)∧wx=w)
 case first=>
  go_wp2_with fail
  go_loop [15,16] (fun a b=>∃q r:Nat,(q:Int)<18446744073709551616∧StepInv v1 u Q1 q r∧a=.int .u64 q∧b=.int .u64 r) (fun a _=>(intOf a).toNat)
  case atStart=>exact⟨qa,ra,hqa,I1,rfl,rfl⟩
  case round=>
   obtain⟨q,r,hq64,⟨j1,j2,j3⟩,rfl,rfl⟩:=hrel
   have j3':(r:Int)<4294967296:=by omega
   clear j3
   by_cases hbig:(4294967296:Int)≤q
   ·have k1:=Hb1.out q (by omega)
    have k2:=step_down j1 (by omega)
    by_cases hr:(4294967296:Int)≤(r:Int)+v1
    ·have k3:=Hk1.out _ _ k2 k1 (by omega)
     have J1:=Lib.hid j1;clear j1
     have K2:=Lib.hid k2;clear k2
     exact T_Div_4
    ·have J1:=Lib.hid j1;clear j1
     have K2:=Lib.hid k2;clear k2
     exact T_Div_1
   ·obtain⟨m,hm⟩:∃m,m=q*v0:=⟨_,rfl⟩
    have hm64:(m:Int)<18446744073709551616:=by
     have h5:q*v0≤4294967295*4294967295:=Nat.mul_le_mul (by omega) (by omega)
     omega
    have em:IntKind.u64.wrap ((q:Int)*v0)=(m:Int):=by
     rw[←Int.natCast_mul, ←hm];exact wrapL m (by omega)
    by_cases ht:4294967296*(r:Int)+l1<m
    ·have k1:=Hm1.out q r j1 (by omega)
     have hq1:1≤q:=by
      refine Nat.pos_of_ne_zero fun h=> ?_
      subst h;simp at hm;omega
     have k2:=step_down j1 hq1
     by_cases hr:(4294967296:Int)≤(r:Int)+v1
     ·have k3:=Hk1.out _ _ k2 k1 (by omega)
      have J1:=Lib.hid j1;clear j1
      have K2:=Lib.hid k2;clear k2
      have HM:=Lib.hid hm;clear hm
      exact T_Div_4
     ·exact T_Div_5
    ·have k3:=Hs1.out q r j1 j2 (by omega)
     exact T_Div_2
 case rest=>
  obtain⟨rfl,⟨r1,rfl⟩,rfl⟩:=hcut
  go_upto_block 2 with fail
  go_cut [18,16] (fun a b wx=>a=.int .u64 Q0∧(∃r:Nat,b=.int .u64 r)∧wx=wc)
  case first=>
   go_wp2_with fail
   go_loop [18,16] (fun a b=>∃q r:Nat,(q:Int)<18446744073709551616∧StepInv v1 u2 Q0 q r∧a=.int .u64 q∧b=.int .u64 r) (fun a _=>(intOf a).toNat)
   case atStart=>exact⟨qb,rb,hqb,I2,rfl,rfl⟩
   case round=>
    obtain⟨q,r,hq64,⟨j1,j2,j3⟩,rfl,rfl⟩:=hrel
    have j3':(r:Int)<4294967296:=by omega
    clear j3
    by_cases hbig:(4294967296:Int)≤q
    ·have k1:=Hb2.out q (by omega)
     have k2:=step_down j1 (by omega)
     by_cases hr:(4294967296:Int)≤(r:Int)+v1
     ·have k3:=Hk2.out _ _ k2 k1 (by omega)
      have J1:=Lib.hid j1;clear j1
      have K2:=Lib.hid k2;clear k2
      exact T_Div_3
     ·have J1:=Lib.hid j1;clear j1
      have K2:=Lib.hid k2;clear k2
      exact T_Div_1
    ·obtain⟨m,hm⟩:∃m,m=q*v0:=⟨_,rfl⟩
     have hm64:(m:Int)<18446744073709551616:=by
      have h5:q*v0≤4294967295*4294967295:=Nat.mul_le_mul (by omega) (by omega)
      omega
     have em:IntKind.u64.wrap ((q:Int)*v0)=(m:Int):=by
      rw[←Int.natCast_mul, ←hm];exact wrapL m (by omega)
     by_cases ht:4294967296*(r:Int)+l0<m
     ·have k1:=Hm2.out q r j1 (by omega)
      have hq1:1≤q:=by
       refine Nat.pos_of_ne_zero fun h=> ?_
       subst h;simp at hm;omega
      have k2:=step_down j1 hq1
      by_cases hr:(4294967296:Int)≤(r:Int)+v1
      ·have k3:=Hk2.out _ _ k2 k1 (by omega)
       have J1:=Lib.hid j1;clear j1
       have K2:=Lib.hid k2;clear k2
       have HM:=Lib.hid hm;clear hm
       exact T_Div_3
      ·exact T_Div_5
     ·have k3:=Hs2.out q r j1 j2 (by omega)
      exact T_Div_2
  case rest=>
   obtain⟨rfl,⟨r2,rfl⟩,rfl⟩:=hcut
   go_wp2_with fail
   go_ret2
   exact⟨rfl,Ext.refl _⟩
theorem div64_small (hi lo y:Nat) (w:World) (hh:((hi:Int)==0)=true) (h0:(1:Int)≤y) (h2:(lo:Int)<18446744073709551616) (h3:(y:Int)<18446744073709551616) (hy:((y:Int)==0)=false) (hy':¬y≤hi):
    K_ 149 #[.int .u64 hi,.int .u64 lo,.int .u64 y] w fun e w'=>e=.returned (.tuple #[.int .u64 ((lo:Int)/y),.int .u64 ((lo:Int)%y)])∧Ext w w':=by
 have d1:0≤(lo:Int)/y:=Int.ediv_nonneg (by omega) (by omega)
 have d2:(lo:Int)/y≤lo:=Int.ediv_le_self _ (by omega)
 go_enter Tryz.func149,Tryz.ntmps149
 go_wp2_with fail
 go_quiet (fail)
 go_wp2_with fail
 go_ret2
 exact⟨rfl,(Ext.refl _).drewN _⟩
theorem step_pack {Y v1 v0 u c:Nat} (hY:Y=v1*4294967296+v0) (hv0:v0<4294967296) (hv1:2147483648≤v1) (hv1':v1<4294967296) (hu:u<Y) (hc:c<4294967296):
    StepInv v1 u ((u*4294967296+c)/Y) (u/v1) (u%v1)∧(u*4294967296+c)/Y<4294967296∧(u*4294967296+c)%Y<Y∧u/v1*v1≤u∧
    (∀q,4294967296≤q→(u*4294967296+c)/Y≤q-1)∧(∀q r,q*v1+r=u→4294967296*r+c<q*v0→(u*4294967296+c)/Y≤q-1)∧
    (∀q r,q*v1+r=u→(u*4294967296+c)/Y≤q→q*v0≤4294967296*r+c→q=(u*4294967296+c)/Y)∧
    (∀q r,q*v1+r=u→(u*4294967296+c)/Y≤q→4294967296≤r→q=(u*4294967296+c)/Y):=by
 have h0:0<Y:=by omega
 refine⟨⟨?_,step_first hY (by omega) hc, ?_⟩, ?_,Nat.mod_lt _ h0,Nat.div_mul_le_self _ _,fun q hq=>step_big h0 hu hc hq,fun q r h1 h2=>step_more hY h1 h0 h2,fun q r h1 h2 h3=>step_stop hY h1 h2 h0 h3,fun q r h1 h2 h3=>step_break hY h0 hv0 hu h1 h2 h3⟩
 ·exact Nat.div_add_mod' u v1
 ·have:=Nat.mod_lt u (show v1>0 by omega);omega
 ·have:=step_big (q:=4294967296) h0 hu hc (Nat.le_refl _);omega
theorem step_ex {Y v1 v0 u c:Nat} (hY:Y=v1*4294967296+v0) (hv0:v0<4294967296) (hv1:2147483648≤v1) (hv1':v1<4294967296) (hu:u<Y) (hc:c<4294967296):
    ∃Q R qa pa ra:Nat,u*4294967296+c=Q*Y+R∧R<Y∧Q<4294967296∧qa=u/v1∧pa=qa*v1∧pa+ra=u∧qa≤u∧StepInv v1 u Q qa ra∧
    (∀q,4294967296≤q→Q≤q-1)∧(∀q r,q*v1+r=u→4294967296*r+c<q*v0→Q≤q-1)∧
    (∀q r,q*v1+r=u→Q≤q→q*v0≤4294967296*r+c→q=Q)∧(∀q r,q*v1+r=u→Q≤q→4294967296≤r→q=Q):=by
 obtain⟨a1,a2,a3,a4,a5,a6,a7,a8⟩:=step_pack hY hv0 hv1 hv1' hu hc
 exact⟨_,_,_,_,_,(Nat.div_add_mod' _ _).symm,a3,a2,rfl,rfl,Nat.div_add_mod' u v1,Nat.div_le_self _ _,a1,a5,a6,a7,a8⟩
theorem back {N y s Y u l Q1 u2 Q0 R l1 l0 B:Nat} (hY:Y=y*2^s) (hl:l=l1*B+l0)
    (hU:u*(B*B)+l=N*2^s) (h1:u*B+l1=Q1*Y+u2) (h2:u2*B+l0=Q0*Y+R) (hR:R<Y):
    Q1*B+Q0=N/y∧R/2^s=N%y:=by
 have hp:0<2^s:=Nat.two_pow_pos s
 have e:N*2^s=(Q1*B+Q0)*Y+R:=by
  have e1:u*(B*B)+l1*B=(Q1*Y+u2)*B:=by rw[←h1,Nat.add_mul,Nat.mul_assoc]
  have e2:(Q1*Y+u2)*B=Q1*B*Y+u2*B:=by rw[Nat.add_mul,Nat.mul_right_comm]
  rw[←hU,hl,Nat.add_mul];omega
 have hd:N*2^s/Y=Q1*B+Q0:=by
  rw[e];exact Nat.div_eq_of_lt_le (by omega) (by rw[Nat.succ_mul];omega)
 have hm:N*2^s%Y=R:=by
  rw[e,Nat.mul_comm,Nat.mul_add_mod];exact Nat.mod_eq_of_lt hR
 rw[hY,Nat.mul_div_mul_right _ _ hp]at hd
 rw[hY,Nat.mul_mod_mul_right]at hm
 exact⟨hd.symm,by rw[←hm,Nat.mul_div_cancel _ hp]⟩
theorem div64 (hi lo y:Nat) (w:World) (hh:hi<y) (hl:lo<18446744073709551616) (hy:y<18446744073709551616):
    K_ 149 #[.int .u64 hi,.int .u64 lo,.int .u64 y] w fun e w'=>e=.returned (.tuple #[.int .u64 (((hi*18446744073709551616+lo)/y:Nat):Int),.int .u64 (((hi*18446744073709551616+lo)%y:Nat):Int)])∧Ext w w':=by
 by_cases h0:hi=0
 ·refine(div64_small hi lo y w (by simpa using h0) (by omega) (by omega) (by omega) c_26 (by omega)).mono ?_
  rintro e w' ⟨rfl,hb⟩
  subst h0
  refine⟨?_,hb⟩
  simp
 ·obtain⟨s,hs,hL,f1,f2,f3,f4,f5,f6⟩:=norm_facts hi lo y (by omega) hy hh hl
  obtain⟨Y,hY⟩:∃Y,Y=y*2^s:=⟨_,rfl⟩
  obtain⟨u,hU⟩:∃u,u=hi*2^s+lo/2^(64-s):=⟨_,rfl⟩
  obtain⟨l,hl'⟩:∃l,l=lo*2^s%18446744073709551616:=⟨_,rfl⟩
  rw[←hY]at f1 f2 f4
  rw[←hU]at f3 f4 f6
  rw[←hl']at f6
  have hl64:l<18446744073709551616:=by rw[hl'];exact Nat.mod_lt _ (by omega)
  have hYs:Y=Y/4294967296*4294967296+Y%4294967296:=by omega
  have hls:l=l/4294967296*4294967296+l%4294967296:=by omega
  obtain⟨Q1,u2,qa,pa,ra,r1,a3,a2,aq,ap,ar,al,a1,a5,a6,a7,a8⟩:=step_ex (c:=l/4294967296) hYs (by omega) (by omega) (by omega) f4 (by omega)
  obtain⟨Q0,R,qb,pb,rb,r2,b3,b2,bq,bp,br,bl,b1,b5,b6,b7,b8⟩:=step_ex (c:=l%4294967296) hYs (by omega) (by omega) (by omega) a3 (by omega)
  have hb:=back (B:=4294967296) hY hls f6 r1 r2 b3
  have hwrap:∀a:Nat,IntKind.u64.wrap ((a:Int)*2^s)=((a*2^s%18446744073709551616:Nat):Int):=fun a=>by
   rw[←wrapN,Int.natCast_mul,Int.natCast_pow];rfl
  refine(div64_core hi lo y w (by omega) (by omega) (by simpa using h0) c_26 (by omega) s hs (by omega) Y (Y/4294967296) (Y%4294967296) u l (l/4294967296) (l%4294967296)
   qa pa ra Q1 u2 qb pb rb Q0
   ?_ (by omega) (by omega) (by omega) (by omega) ?_ ?_ ?_ (by omega) ?_ (by omega) (by omega) ?_ ?_ (by omega) (by omega) (by omega) (wrap_rest _ _ _ _ _ r1 (by omega)) ?_ ?_ (by omega) (by omega) (by omega) (by omega) (by omega) (by omega) (by omega) a1 b1 a5 a6 a7 a8 R (wrap_rest _ _ _ _ _ r2 (by omega)) b5 b6 b7 b8).mono ?_
  ·rw[hwrap, ←hY,Nat.mod_eq_of_lt f2]
  ·exact maskN Y f2
  ·rw[hwrap,Nat.mod_eq_of_lt f5]
   have h1:((lo:Int)/2^(64-s))=((lo/2^(64-s):Nat):Int):=by rw[Int.natCast_ediv,Int.natCast_pow];rfl
   rw[h1,bits_or_u64_nat _ _ f5 (by have:=Nat.div_le_self lo (2^(64-s));omega),f3]
  ·rw[hwrap,hl']
  ·exact maskN l hl64
  ·rw[aq];exact(Int.natCast_ediv u (Y/4294967296)).symm
  ·rw[←Int.natCast_mul, ←ap];exact wrapL _ (by omega)
  ·rw[bq];exact(Int.natCast_ediv u2 (Y/4294967296)).symm
  ·rw[←Int.natCast_mul, ←bp];exact wrapL _ (by omega)
  ·rintro e w' ⟨rfl,hx⟩
   refine⟨?_,hx⟩
   rw[←hb.1, ←hb.2,Int.natCast_ediv,Int.natCast_pow,Int.natCast_add,Int.natCast_mul]
   rfl
#print axioms div64
def I64 (x:Int):Prop:= -9223372036854775808≤x∧x<9223372036854775808
structure R3 where
 lo:Int
 hi:Int
 e:Int
def ckI (lo hi:Int):Int:=if hi<lo∨lo< -2305843009213693952∨2305843009213693952<hi then 8 else 0
def ck2 (a b c d:Int):Int:=if ckI a b≠0 then ckI a b else ckI c d
def madeI (lo hi:Int):R3:=if lo< -2305843009213693952∨2305843009213693952<hi then⟨0,0,16⟩else⟨lo,hi,0⟩
def addI (a b c d:Int):R3:=if ck2 a b c d≠0 then⟨0,0,ck2 a b c d⟩else madeI (wrap64 (a+c)) (wrap64 (b+d))
def subI (a b c d:Int):R3:=if ck2 a b c d≠0 then⟨0,0,ck2 a b c d⟩else madeI (wrap64 (a-d)) (wrap64 (b-c))
def dnT (T d:Int):Int:=max (-4611686018427387904) (min (T/d) 4611686018427387904)
def upT (T d:Int):Int:= - dnT (-T) d
def min4 (a b c d:Int):Int:=min (min (min a b) c) d
def max4 (a b c d:Int):Int:=max (max (max a b) c) d
def mulI (a b c d:Int):R3:=if ck2 a b c d≠0 then⟨0,0,ck2 a b c d⟩else
 madeI (dnT (min4 (a*c) (a*d) (b*c) (b*d)) 1099511627776) (upT (max4 (a*c) (a*d) (b*c) (b*d)) 1099511627776)
def absI (a b:Int):R3:=if ckI a b≠0 then⟨0,0,ckI a b⟩else if 0≤a then⟨a,b,0⟩else if b≤0 then⟨wrap64 (-b),wrap64 (-a),0⟩else⟨0,max (wrap64 (-a)) b,0⟩
def sqI (a b:Int):R3:=if(absI a b).e≠0 then⟨0,0,(absI a b).e⟩else
 madeI (dnT ((absI a b).lo*(absI a b).lo) 1099511627776) (upT ((absI a b).hi*(absI a b).hi) 1099511627776)
def negI (a b:Int):R3:=if ckI a b≠0 then⟨0,0,ckI a b⟩else⟨wrap64 (-b),wrap64 (-a),0⟩
theorem ckI_ok {a b:Int} (h:ckI a b=0):a≤b∧ -2305843009213693952≤a∧b≤2305843009213693952:=by
 unfold ckI at h;split at h
 ·simp at h
 ·omega
theorem ck2_ok {a b c d:Int} (h:ck2 a b c d=0):ckI a b=0∧ckI c d=0:=by
 unfold ck2 at h;split at h
 ·contradiction
 ·exact⟨by simpa using ‹¬ckI a b≠0›,h⟩
theorem abs_mul_bound {a b:Int} (ha:I64 a) (hb:I64 b): -85070591730234615865843651857942052864≤a*b∧a*b≤85070591730234615865843651857942052864:=by
 obtain⟨a1,a2⟩:=ha
 obtain⟨b1,b2⟩:=hb
 have h1:a.natAbs≤9223372036854775808:=by omega
 have h2:b.natAbs≤9223372036854775808:=by omega
 have h3:(a*b).natAbs≤9223372036854775808*9223372036854775808:=by
  rw[Int.natAbs_mul];exact Nat.mul_le_mul h1 h2
 omega
theorem w64_mod (x:Int):(wrap64 x-x)%18446744073709551616=0∧ -9223372036854775808≤wrap64 x∧wrap64 x<9223372036854775808:=by
 unfold wrap64;omega
theorem mul_shift (a b x y M i j:Int) (hx:x=a+i*M) (hy:y=b+j*M):x*y=a*b+M*(a*j+i*b+i*j*M):=by
 subst hx hy;grind
theorem times_hi (a b x y:Int) (ha:I64 a) (hb:I64 b) (hx:x=a%18446744073709551616) (hy:y=b%18446744073709551616):
    x*y%18446744073709551616=a*b%18446744073709551616∧
    (a<0→b<0→wrap64 (wrap64 (wrap64 (x*y/18446744073709551616)-b)-a)=a*b/18446744073709551616)∧
    (a<0→0≤b→wrap64 (wrap64 (x*y/18446744073709551616)-b)=a*b/18446744073709551616)∧
    (0≤a→b<0→wrap64 (wrap64 (x*y/18446744073709551616)-a)=a*b/18446744073709551616)∧
    (0≤a→0≤b→wrap64 (x*y/18446744073709551616)=a*b/18446744073709551616):=by
 have hp:=abs_mul_bound ha hb
 obtain⟨a1,a2⟩:=ha
 obtain⟨b1,b2⟩:=hb
 have ex:∃i:Int,x=a+i*18446744073709551616∧(a<0→i=1)∧(0≤a→i=0):=⟨if a<0 then 1 else 0,by split<;>omega,fun h=>if_pos h,fun h=>if_neg (by omega)⟩
 have ey:∃i:Int,y=b+i*18446744073709551616∧(b<0→i=1)∧(0≤b→i=0):=⟨if b<0 then 1 else 0,by split<;>omega,fun h=>if_pos h,fun h=>if_neg (by omega)⟩
 obtain⟨i,e1,i1,i0⟩:=ex
 obtain⟨j,e2,j1,j0⟩:=ey
 have e:=mul_shift a b x y 18446744073709551616 i j e1 e2
 have f1:x*y%18446744073709551616=a*b%18446744073709551616:=by rw[e,Int.add_mul_emod_self_left]
 have f2:x*y/18446744073709551616=a*b/18446744073709551616+(a*j+i*b+i*j*18446744073709551616):=by
  rw[e,Int.add_mul_ediv_left _ _ (by omega)]
 obtain⟨P,hP⟩:∃P,P=a*b:=⟨_,rfl⟩
 rw[←hP]at hp f2
 rw[←hP]at ⊢
 refine⟨by rw[f1,hP],fun h1 h2=> ?_,fun h1 h2=> ?_,fun h1 h2=> ?_,fun h1 h2=> ?_⟩
 ·rw[i1 h1,j1 h2]at f2
  rw[f2];unfold wrap64;omega
 ·rw[i1 h1,j0 h2]at f2
  rw[f2];unfold wrap64;omega
 ·rw[i0 h1,j1 h2]at f2
  rw[f2];unfold wrap64;omega
 ·rw[i0 h1,j0 h2]at f2
  rw[f2];unfold wrap64;omega
theorem neg_div (T d:Int) (d0:0<d): -((-T)/d)=if 0<T%d then T/d+1 else T/d:=by
 have h:=Int.mul_ediv_add_emod T d
 have h1:=Int.emod_nonneg T (show d≠0 by omega)
 have h2:=Int.emod_lt_of_pos T d0
 obtain⟨q,hq⟩:∃q,q=T/d:=⟨_,rfl⟩
 obtain⟨r,hr⟩:∃r,r=T%d:=⟨_,rfl⟩
 rw[←hq, ←hr]at h
 rw[←hr]at h1 h2
 rw[←hq, ←hr]
 split
 ·have e: -T=(d-r)+d*(-q-1):=by rw[←h,Int.mul_sub,Int.mul_neg];omega
  rw[e,Int.add_mul_ediv_left _ _ (by omega),Int.ediv_eq_zero_of_lt (by omega) (by omega)];omega
 ·have e: -T=d*(-q):=by rw[←h,Int.mul_neg];omega
  rw[e,Int.mul_ediv_cancel_left _ (by omega)];omega
theorem upT_eq (T d:Int) (h0:0≤T) (d0:0<d):upT T d=min (if 0<T%d then T/d+1 else T/d) 4611686018427387904:=by
 have h:=neg_div T d d0
 have hq:0≤T/d:=Int.ediv_nonneg h0 (by omega)
 unfold upT dnT
 split at h<;>omega
theorem dnT_eq (T d:Int) (h0:0≤T) (d0:0<d):dnT T d=min (T/d) 4611686018427387904:=by
 have hq:0≤T/d:=Int.ediv_nonneg h0 (by omega)
 unfold dnT;omega
theorem dnT_range (T d:Int): -4611686018427387904≤dnT T d∧dnT T d≤4611686018427387904:=by unfold dnT;omega
theorem upT_range (T d:Int): -4611686018427387904≤upT T d∧upT T d≤4611686018427387904:=by have:=dnT_range (-T) d;unfold upT;omega
theorem upT_neg (T d:Int):upT (-T) d= - dnT T d:=by unfold upT;rw[Int.neg_neg]
theorem dnT_neg (T d:Int):dnT (-T) d= - upT T d:=by unfold upT;omega
theorem big_quot {T d h l:Int} (eT:T=h*18446744073709551616+l) (hl:0≤l) (hd:d≤h) (d0:0<d):18446744073709551616≤T/d:=by
 rw[Int.le_ediv_iff_mul_le d0,eT]
 have:18446744073709551616*d≤18446744073709551616*h:=Int.mul_le_mul_of_nonneg_left hd (by omega)
 omega
theorem small_quot {T d h l:Int} (eT:T=h*18446744073709551616+l) (hh:0≤h) (hl:0≤l) (hl2:l<18446744073709551616) (hd:h<d):0≤T/d∧T/d<18446744073709551616∧0≤T%d∧T%d<d:=by
 refine⟨Int.ediv_nonneg (by omega) (by omega), ?_,Int.emod_nonneg _ (by omega),Int.emod_lt_of_pos _ (by omega)⟩
 rw[Int.ediv_lt_iff_lt_mul (by omega),eT]
 have:(h+1)*18446744073709551616≤d*18446744073709551616:=Int.mul_le_mul_of_nonneg_right (by omega) (by omega)
 omega
theorem times_any (a b:Int) (w:World) (ha:I64 a) (hb:I64 b):
    K_ 95 #[O a,O b] w fun e w'=>e=.returned (.agg #[O (a*b/18446744073709551616),.int .u64 (a*b%18446744073709551616)])∧Ext w w':=by
 have ht:=times_hi a b _ _ ha hb rfl rfl
 obtain⟨a1,a2⟩:=ha
 obtain⟨b1,b2⟩:=hb
 obtain⟨x,hx⟩:∃x:Nat,(x:Int)=a%18446744073709551616:=⟨(a%18446744073709551616).toNat,by omega⟩
 obtain⟨y,hy⟩:∃x:Nat,(x:Int)=b%18446744073709551616:=⟨(b%18446744073709551616).toNat,by omega⟩
 have ex:IntKind.u64.wrap a=(x:Int):=by rw[IntKind.wrap_u64];omega
 have ey:IntKind.u64.wrap b=(y:Int):=by rw[IntKind.wrap_u64];omega
 have hx64:x<18446744073709551616:=by omega
 have hy64:y<18446744073709551616:=by omega
 rw[←hx, ←hy]at ht
 have Ht:=Lib.hid ht;clear ht
 have Hx:=Lib.hid hx;clear hx
 have Hy:=Lib.hid hy;clear hy
 go_enter Tryz.func95,Tryz.ntmps95
 go_wp2_with (go_at_call 148;refine(Tryz.bits_Mul64 x y hx64 hy64 _).mono ?_;rintro e w' ⟨rfl,hw⟩;rw[hw];clear hw)
 all_goals
  refine bodyPost_ret (v:=.agg #[O (a*b/18446744073709551616),.int .u64 (a*b%18446744073709551616)]) ?_ rfl ⟨rfl,(Ext.refl _).alloc _⟩
  simp[results,Tryz.results95,go_sem]
  obtain⟨t0,t1,t2,t3,t4⟩:=Ht.out
  refine⟨?_,t0⟩
  first|exact t1 c_40 c_40|exact t2 c_40 c_40|exact t3 c_40 c_40|exact t4 c_40 c_40
theorem sub64_run (y:Int) (h1:0≤y) (h2:y<18446744073709551616) (w:World):
    (callFunc 159 #[.int .u64 0,.int .u64 y,.int .u64 0]).run Tryz.prog w=.ok (.value (.tuple #[.int .u64 ((-y)%18446744073709551616),.int .u64 (if y=0 then 0 else 1)])) w:=by
 obtain⟨n,rfl⟩:=Int.eq_ofNat_of_zero_le h1
 have h:=run_sub64 (P:=Tryz.prog) 0 n 0 (by omega) w
 rw[run_callFunc_extern Tryz.func159 c_3 c_3 c_3 (e:=sub64Entry) c_3]
 have e0:(.int .u64 0:Value)=.int .u64 ((0:Nat):Int):=rfl
 have e1:(((0+18446744073709551616-n-0)%18446744073709551616:Nat):Int)=(-(n:Int))%18446744073709551616:=by omega
 have e2:((if 0<n+0 then 1 else 0:Nat):Int)=if(n:Int)=0 then 0 else 1:=by split<;>split<;>first|rfl|omega
 rw[e1,e2]at h
 rw[e0,h]
 rfl
theorem div64q (hi lo y q r:Int) (w:World) (hh:0≤hi∧hi<y) (hl:0≤lo∧lo<18446744073709551616) (hy:y<18446744073709551616) (hq:q=(hi*18446744073709551616+lo)/y) (hr:r=(hi*18446744073709551616+lo)%y):
    K_ 149 #[.int .u64 hi,.int .u64 lo,.int .u64 y] w fun e w'=>e=.returned (.tuple #[.int .u64 q,.int .u64 r])∧Ext w w':=by
 obtain⟨h,rfl⟩:=Int.eq_ofNat_of_zero_le hh.1
 obtain⟨l,rfl⟩:=Int.eq_ofNat_of_zero_le hl.1
 obtain⟨d,rfl⟩:=Int.eq_ofNat_of_zero_le (show 0≤y by omega)
 refine(div64 h l d w (by omega) (by omega) (by omega)).mono ?_
 rintro e w' ⟨rfl,hx⟩
 refine⟨?_,hx⟩
 rw[hq,hr,Int.natCast_ediv,Int.natCast_emod,Int.natCast_add,Int.natCast_mul]
 rfl
theorem neg_any (T:Int) (w:World) (h1: -85070591730234615865843651857942052864≤T) (h2:T≤85070591730234615865843651857942052864):
    K_ 123 #[.agg #[O (T/18446744073709551616),.int .u64 (T%18446744073709551616)]] w fun e w'=>e=.returned (.agg #[O ((-T)/18446744073709551616),.int .u64 ((-T)%18446744073709551616)])∧Ext w w':=by
 obtain⟨h,eh⟩:∃h,h=T/18446744073709551616:=⟨_,rfl⟩
 obtain⟨l,el⟩:∃h,h=T%18446744073709551616:=⟨_,rfl⟩
 obtain⟨b,eb⟩:∃b:Int,b=if l=0 then 0 else 1:=⟨_,rfl⟩
 have hb:b=0∨b=1:=by rw[eb];split<;>simp
 have hs:=fun w=>sub64_run l (by omega) (by omega) w
 rw[←eb]at hs
 rw[←eh, ←el]
 have b1:0≤b:=by omega
 have b2:b≤1:=by omega
 have g1: -4611686018427387904≤h:=by omega
 have g2:h≤4611686018427387904:=by omega
 have hf: -h-b=(-T)/18446744073709551616∧(-l)%18446744073709551616=(-T)%18446744073709551616:=by
  rw[eb];split<;>omega
 have HF:=Lib.hid hf;clear hf eh el eb hb h1 h2
 go_enter Tryz.func123,Tryz.ntmps123
 go_wp2_with fail
 refine bodyPost_ret (v:=.agg #[O ((-T)/18446744073709551616),.int .u64 ((-T)%18446744073709551616)]) ?_ rfl ⟨rfl,((Ext.refl _).alloc _).alloc _⟩
 simp[results,Tryz.results123,go_sem]
 exact HF.out
theorem up_nonneg (T d:Int) (w:World) (h0:0≤T) (h2:T≤85070591730234615865843651857942052864) (d0:0<d) (d1:d<18446744073709551616):
    K_ 97 #[.agg #[O (T/18446744073709551616),.int .u64 (T%18446744073709551616)],.int .u64 d] w fun e w'=>e=.returned (O (upT T d))∧Ext w w':=by
 obtain⟨h,eh⟩:∃h:Int,h=T/18446744073709551616:=⟨_,rfl⟩
 obtain⟨l,el⟩:∃h:Int,h=T%18446744073709551616:=⟨_,rfl⟩
 have hl1:0≤l:=by omega
 have hl2:l<18446744073709551616:=by omega
 have hh1:0≤h:=by omega
 have hh2:h<9223372036854775808:=by omega
 have eT:T=h*18446744073709551616+l:=by omega
 have Et:Hid (T=h*18446744073709551616+l∧0≤T):=Lib.hid ⟨eT,h0⟩
 rw[←eh, ←el]
 clear eh el h2 h0
 have e1:IntKind.u64.wrap h=h:=by rw[IntKind.wrap_u64];omega
 by_cases hd:d≤h
 ·clear eT
  go_enter Tryz.func97,Tryz.ntmps97
  go_wp2_with fail
  go_ret
  refine⟨?_,(Ext.refl _).alloc _⟩
  rw[upT_eq T d Et.out.2 d0]
  have:=big_quot Et.out.1 hl1 hd d0
  exact congrArg (fun n=>Ending.returned (O n)) (by split<;>omega)
 ·obtain⟨q1,q2,r1,r2⟩:=small_quot eT hh1 hl1 hl2 (show h<d by omega)
  obtain⟨q,hq⟩:∃q,q=T/d:=⟨_,rfl⟩
  obtain⟨r,hr⟩:∃q,q=T%d:=⟨_,rfl⟩
  rw[←hq]at q1 q2
  rw[←hr]at r1 r2
  have hc:=div64q h l d q r (w.alloc (.cells #[O h,.int .u64 l] 145)) (by omega) (by omega) d1 (by rw[hq,eT]) (by rw[hr,eT])
  have Hc:=Lib.hid hc;clear hc
  have Hq:=Lib.hid hq;clear hq
  have Hr:=Lib.hid hr;clear hr
  clear eT
  go_enter Tryz.func97,Tryz.ntmps97
  go_wp2_with (go_at_call 149;refine Hc.out.mono ?_;rintro e w1 ⟨rfl,hb⟩)
  all_goals
   go_ret
   refine⟨?_,((Ext.refl _).alloc _).trans hb⟩
   rw[upT_eq T d Et.out.2 d0, ←Hq.out, ←Hr.out]
   exact congrArg (fun n=>Ending.returned (O n)) (by split<;>first|rfl|omega)
theorem down_nonneg (T d:Int) (w:World) (h0:0≤T) (h2:T≤85070591730234615865843651857942052864) (d0:0<d) (d1:d<18446744073709551616):
    K_ 96 #[.agg #[O (T/18446744073709551616),.int .u64 (T%18446744073709551616)],.int .u64 d] w fun e w'=>e=.returned (O (dnT T d))∧Ext w w':=by
 obtain⟨h,eh⟩:∃h:Int,h=T/18446744073709551616:=⟨_,rfl⟩
 obtain⟨l,el⟩:∃h:Int,h=T%18446744073709551616:=⟨_,rfl⟩
 have hl1:0≤l:=by omega
 have hl2:l<18446744073709551616:=by omega
 have hh1:0≤h:=by omega
 have hh2:h<9223372036854775808:=by omega
 have eT:T=h*18446744073709551616+l:=by omega
 have Et:Hid (T=h*18446744073709551616+l∧0≤T):=Lib.hid ⟨eT,h0⟩
 rw[←eh, ←el]
 clear eh el h2 h0
 have e1:IntKind.u64.wrap h=h:=by rw[IntKind.wrap_u64];omega
 by_cases hd:d≤h
 ·clear eT
  go_enter Tryz.func96,Tryz.ntmps96
  go_wp2_with fail
  go_ret
  refine⟨?_,(Ext.refl _).alloc _⟩
  rw[dnT_eq T d Et.out.2 d0]
  have:=big_quot Et.out.1 hl1 hd d0
  exact congrArg (fun n=>Ending.returned (O n)) (by omega)
 ·obtain⟨q1,q2,r1,r2⟩:=small_quot eT hh1 hl1 hl2 (show h<d by omega)
  obtain⟨q,hq⟩:∃q,q=T/d:=⟨_,rfl⟩
  obtain⟨r,hr⟩:∃q,q=T%d:=⟨_,rfl⟩
  rw[←hq]at q1 q2
  rw[←hr]at r1 r2
  have hc:=div64q h l d q r (w.alloc (.cells #[O h,.int .u64 l] 145)) (by omega) (by omega) d1 (by rw[hq,eT]) (by rw[hr,eT])
  have Hc:=Lib.hid hc;clear hc
  have Hq:=Lib.hid hq;clear hq
  have Hr:=Lib.hid hr;clear hr
  clear eT
  go_enter Tryz.func96,Tryz.ntmps96
  go_wp2_with (go_at_call 149;refine Hc.out.mono ?_;rintro e w1 ⟨rfl,hb⟩)
  all_goals
   go_ret
   refine⟨?_,((Ext.refl _).alloc _).trans hb⟩
   rw[dnT_eq T d Et.out.2 d0, ←Hq.out]
   exact congrArg (fun n=>Ending.returned (O n)) (by first|rfl|omega)
theorem up_neg (T d:Int) (w:World) (h0:T<0) (h2: -85070591730234615865843651857942052864≤T) (d0:0<d) (d1:d<18446744073709551616):
    K_ 97 #[.agg #[O (T/18446744073709551616),.int .u64 (T%18446744073709551616)],.int .u64 d] w fun e w'=>e=.returned (O (upT T d))∧Ext w w':=by
 have hh:T/18446744073709551616<0:=by omega
 have hr:=dnT_range (-T) d
 have hr1:=hr.1
 have hr2:=hr.2
 have hn:=fun w=>neg_any T w (by omega) (by omega)
 have ho:=fun w=>down_nonneg (-T) d w (by omega) (by omega) d0 d1
 have Hn:=Lib.hid hn;clear hn
 have Ho:=Lib.hid ho;clear ho hr h0 h2
 go_enter Tryz.func97,Tryz.ntmps97
 go_wp2_with (first| (go_at_call 123;refine(Hn.out _).mono ?_;rintro e w1 ⟨rfl,hb⟩)| (go_at_call 96;refine(Ho.out _).mono ?_;rintro e w2 ⟨rfl,hb2⟩))
 go_ret
 refine⟨?_,(((Ext.refl _).alloc _).trans hb).trans hb2⟩
 exact congrArg (fun n=>Ending.returned (O n)) (by have:=dnT_neg T d;omega)
theorem up_any (T d:Int) (w:World) (h1: -85070591730234615865843651857942052864≤T) (h2:T≤85070591730234615865843651857942052864) (d0:0<d) (d1:d<18446744073709551616):
    K_ 97 #[.agg #[O (T/18446744073709551616),.int .u64 (T%18446744073709551616)],.int .u64 d] w fun e w'=>e=.returned (O (upT T d))∧Ext w w':=by
 by_cases h:T<0
 ·exact up_neg T d w h h1 d0 d1
 ·exact up_nonneg T d w (by omega) h2 d0 d1
theorem down_neg (T d:Int) (w:World) (h0:T<0) (h2: -85070591730234615865843651857942052864≤T) (d0:0<d) (d1:d<18446744073709551616):
    K_ 96 #[.agg #[O (T/18446744073709551616),.int .u64 (T%18446744073709551616)],.int .u64 d] w fun e w'=>e=.returned (O (dnT T d))∧Ext w w':=by
 have hh:T/18446744073709551616<0:=by omega
 have hr:=upT_range (-T) d
 have hr1:=hr.1
 have hr2:=hr.2
 have hn:=fun w=>neg_any T w (by omega) (by omega)
 have ho:=fun w=>up_nonneg (-T) d w (by omega) (by omega) d0 d1
 have Hn:=Lib.hid hn;clear hn
 have Ho:=Lib.hid ho;clear ho hr h0 h2
 go_enter Tryz.func96,Tryz.ntmps96
 go_wp2_with (first| (go_at_call 123;refine(Hn.out _).mono ?_;rintro e w1 ⟨rfl,hb⟩)| (go_at_call 97;refine(Ho.out _).mono ?_;rintro e w2 ⟨rfl,hb2⟩))
 go_ret
 refine⟨?_,(((Ext.refl _).alloc _).trans hb).trans hb2⟩
 exact congrArg (fun n=>Ending.returned (O n)) (by have:=upT_neg T d;omega)
theorem down_any (T d:Int) (w:World) (h1: -85070591730234615865843651857942052864≤T) (h2:T≤85070591730234615865843651857942052864) (d0:0<d) (d1:d<18446744073709551616):
    K_ 96 #[.agg #[O (T/18446744073709551616),.int .u64 (T%18446744073709551616)],.int .u64 d] w fun e w'=>e=.returned (O (dnT T d))∧Ext w w':=by
 by_cases h:T<0
 ·exact down_neg T d w h h1 d0 d1
 ·exact down_nonneg T d w (by omega) h2 d0 d1
end Go.Proofs.YtaoioncjmfcolaaGreat
