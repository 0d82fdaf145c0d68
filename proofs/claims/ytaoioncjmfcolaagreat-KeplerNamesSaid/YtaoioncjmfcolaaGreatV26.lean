/- trig: arcs. -/
import Derived.Test.YtaoioncjmfcolaaGreatV25
set_option linter.unusedSimpArgs false
set_option linter.unusedVariables false
set_option maxRecDepth 100000
set_option maxHeartbeats 4000000
namespace Go.Proofs.YtaoioncjmfcolaaGreat
open Go.RowKit
structure Rad where
 q:Int
 a:Int
 b:Int
def radR (q f:Int):Option Rad:=if -100000000000≤q∧q≤100000000000 then some ⟨q,f,f+1⟩else none
def radU (n m:Int):Option Rad:=(radT 130 n m).bind fun x=>if floorN x.2.v x.2.r 130=true then(radT 260 n m).bind fun y=>(floorF y.2.v y.2.r 260).bind fun f=>radR y.1 f else none
def radA (n m:Int):Option Rad:=if n=0 then some ⟨0,m*1099511627776,m*1099511627776⟩else match radF n m with
 |some x=>radR x.1 x.2
 |none=>radU n m
theorem radR_q {q f:Int} {R:Rad} (h:radR q f=some R):R=⟨q,f,f+1⟩∧ -100000000000≤q∧q≤100000000000:=by
 unfold radR at h
 split at h
 ·rename_i k;exact⟨(Option.some.inj h).symm,k⟩
 ·cases h
theorem radU_q {n m:Int} {R:Rad} (h:radU n m=some R):∃q T q2 T2 f,radT 130 n m=some (q,T)∧floorN T.v T.r 130=true∧radT 260 n m=some (q2,T2)∧floorF T2.v T2.r 260=some f∧radR q2 f=some R:=by
 unfold radU at h
 rw[Option.bind_eq_some_iff]at h
 obtain⟨⟨q,T⟩,h1,h⟩:=h
 split at h
 ·rename_i h2
  rw[Option.bind_eq_some_iff]at h
  obtain⟨⟨q2,T2⟩,h3,h⟩:=h
  rw[Option.bind_eq_some_iff]at h
  obtain⟨f,h4,h⟩:=h
  exact⟨q,T,q2,T2,f,h1,h2,h3,h4,h⟩
 ·cases h
theorem radA_q {n m:Int} {R:Rad} (h:radA n m=some R): -100000000000≤R.q∧R.q≤100000000000:=by
 unfold radA at h
 split at h
 ·obtain rfl:=Option.some.inj h;exact⟨by show(-100000000000:Int)≤0;decide,by show(0:Int)≤100000000000;decide⟩
 ·split at h
  ·obtain⟨rfl,k⟩:=radR_q h;exact k
  ·obtain⟨_,_,_,_,_,_,_,_,_,h⟩:=radU_q h
   obtain⟨rfl,k⟩:=radR_q h;exact k
theorem t_radian0 (m:Int) (w:World) (hm:m=0∨m=1):
    K_ 173 #[O 0,O m] w fun e w'=>e=.returned (.tuple #[O 0,.agg #[O (m*1099511627776),O (m*1099511627776)]])∧Ext w w':=by
 have hmm:IntKind.i64.wrap (m*1099511627776)=m*1099511627776:=by rw[IntKind.wrap_i64];omega
 go_enter Tryz.func173,Tryz.ntmps173
 go_upto_region 1 with fail
 go_step3
 go_wp2_with fail
 try rw[Exit.noGoto_ret]
 refine bodyPost_ret (v:=.tuple #[O 0,.agg #[O (m*1099511627776),O (m*1099511627776)]]) ?_ rfl ⟨rfl, ?_⟩
 ·simp[results,Tryz.results173,go_sem, ↓IntWalk.iteOmega, *]
 ·exact b_1
theorem t_radA (n m:Int) (R:Rad) (w:World) (h0: -9000000000000000000≤n) (h1:n≤9000000000000000000) (hm:m=0∨m=1) (hF:radA n m=some R):
    K_ 173 #[O n,O m] w fun e w'=>e=.returned (.tuple #[O R.q,.agg #[O R.a,O R.b]])∧Ext w w':=by
 unfold radA at hF
 split at hF
 ·rename_i hn
  subst hn
  obtain rfl:=Option.some.inj hF
  exact t_radian0 m w hm
 ·rename_i hn
  split at hF
  ·rename_i x hx
   obtain⟨rfl, -⟩:=radR_q hF
   exact t_radian n m x.1 x.2 w h0 h1 hn hm hx
  ·obtain⟨q,T,q2,T2,f,e1,e2,e3,e4,hF⟩:=radU_q hF
   obtain⟨rfl, -⟩:=radR_q hF
   exact t_radian2 n m q q2 f T T2 w h0 h1 hn hm e1 e2 e3 e4
def arcS (j:Int) (x:Int×Int):Int×Int:=if j%4=1 then(x.1,1099511627776)else if j%4=3 then(-1099511627776,x.2)else x
def arcL (m:Int):Nat→Int→Int×Int→Int×Int
 |0,_,x=>x
 |k+1,i,x=>arcL m k (i+1) (arcS (i+m) x)
def arcT (R0 R1:Rad) (lo m:Int):Int×Int:=
 arcL m (min R1.q ((if lo=0 then R0.q-1 else R0.q)+4)-(if lo=0 then R0.q-1 else R0.q)).toNat ((if lo=0 then R0.q-1 else R0.q)+1) (min R0.a R1.a,max R0.b R1.b)
def arcF (lo hi m:Int):Option (Int×Int):=(radA lo m).bind fun R0=>(if hi=lo then some R0 else radA hi m).bind fun R1=>some (arcT R0 R1 lo m)
theorem t_arcs (lo hi m:Int) (y:Int×Int) (w:World) (h0:lo≤hi) (h1: -70368744177664≤lo) (h2:hi≤70368744177664) (hm:m=0∨m=1) (hF:arcF lo hi m=some y):
    K_ 157 #[.agg #[O lo,O hi],O m] w fun e w'=>e=.returned (.tuple #[.agg #[O y.1,O y.2],O 0])∧Ext w w':=by
 unfold arcF at hF
 rw[Option.bind_eq_some_iff]at hF
 obtain⟨R0,hR0,hF⟩:=hF
 rw[Option.bind_eq_some_iff]at hF
 obtain⟨R1,hR1,hF⟩:=hF
 replace hF:=Option.some.inj hF
 have b0:=radA_q hR0
 have hr0:∀(w1:World) (u1 u2:Value),u1=O lo→u2=O m→K_ 173 #[u1,u2] w1 fun e w'=>∃u,e=.returned u∧u=.tuple #[O R0.q,.agg #[O R0.a,O R0.b]]∧Ext w1 w':=fun w1 u1 u2 k1 k2=>by
  subst k1 k2
  exact calls_eq (t_radA lo m R0 w1 (by omega) (by omega) hm hR0)
 obtain⟨ne,hne0⟩:∃ne,(!(hi==lo))=ne:=⟨_,rfl⟩
 have b1: -100000000000≤R1.q∧R1.q≤100000000000:=by
  split at hR1
  ·obtain rfl:=Option.some.inj hR1;exact b0
  ·exact radA_q hR1
 have hr1:ne=true→∀(w1:World) (u1 u2:Value),u1=O hi→u2=O m→K_ 173 #[u1,u2] w1 fun e w'=>∃u,e=.returned u∧u=.tuple #[O R1.q,.agg #[O R1.a,O R1.b]]∧Ext w1 w':=fun hn w1 u1 u2 k1 k2=>by
  subst k1 k2
  rw[←hne0]at hn
  rw[if_neg (by simpa using hn)]at hR1
  exact calls_eq (t_radA hi m R1 w1 (by omega) (by omega) hm hR1)
 have hq1:ne=false→R1=R0:=fun hn=>by
  rw[←hne0]at hn
  rw[if_pos (by simpa using hn)]at hR1
  exact(Option.some.inj hR1).symm
 have hne:=hne0
 clear hR0 hR1 hne0
 have hck:=fun w=>k_span lo hi w
 rw[show ckI lo hi=0 by unfold ckI;rw[if_neg (by omega)]]at hck
 have hn1:¬lo< -70368744177664:=by omega
 have hn2:¬70368744177664<hi:=by omega
 have I0:KBd w [] w:=⟨Ext.refl w,trivial,by simp,by simp⟩
 have I:=(I0.new [O lo,O hi] 30 (by simp)).new [O 0,O 0] 30 (by simp)
 simp only[List.nil_append,World.size_alloc,List.cons_append]at I
 clear I0
 go_enter Tryz.func157,Tryz.ntmps157
 go_upto_region 6 with(go_at_call 93;(with_reducible refine(hck _).mono ?_);rintro e w1 ⟨rfl,hb⟩;replace I:=I.ext hb;have d0:=I.own 0 0;have d1:=I.own 0 1)
 clear hck hn1 hn2 d0 d1 hb
 go_upto_region 6 with fail
 refine rB [] [⟨7,some 9,.own [O 0,O 0],(.own [O R0.a,O R0.b])⟩] [.eq (.pointer (some ⟨w.heap.size,0,none⟩)),.eq (O (lo)),.eq (O (m)),.eq (.tuple #[O R0.q,.agg #[O R0.a,O R0.b]]),.eq (.tuple #[O R0.q,.agg #[O R0.a,O R0.b]]),.eq (O (R0.q)),.eq (.agg #[O R0.a,O R0.b]),.any,.eq (O (R0.q))] [8] I (fun hc=>⟨oN (.tmp 2) (.pointer (some ⟨w.heap.size,0,none⟩)) hc,oL 29 0 hc fun vs gs w1 c=>c.own 0 0,ob_mv hc (.inl rfl),ob_call (fun v=>[v 1,v 2]) hc rfl fun vs gs w1 c=>hr0 _ _ _ (c.v 1) (c.v 2),ob_cp 3 hc (.inl rfl),oT 28 4 hc,oT 28 4 hc,ob_new (n:=2) [O 0,O 0] 30 rfl hc rfl rfl rfl,ob_cp 5 hc (.inr rfl),ob_put2 (n:=2) 0 rfl (some 6) hc rfl,trivial⟩) fun g8 vs W=>tl ?_
 clear I
 intro I
 go_upto_region 7 with fail
 refine rB [] [⟨2,some 4,.own [O 0,O 0],(.own [O R0.a,O R0.b])⟩] [.eq (O (R0.q)),.eq (.agg #[O R0.a,O R0.b]),.any,.eq (O (R0.q))] [3] I (fun hc=>⟨ob_mv hc (.inl rfl),ob_ld2 (x:=.tmp 8) (g:=g8) (f:=0) none hc rfl fun vs gs w1 c=>⟨c.own 2 0,c.own 2 1⟩,ob_new (n:=3) [O 0,O 0] 30 rfl hc rfl rfl rfl,ob_cp 0 hc (.inr rfl),ob_put2 (n:=3) 0 rfl (some 1) hc rfl,trivial⟩) fun g10 vs W=>tl ?_
 clear I
 intro I
 go_upto_region 8 with fail
 refine rB [] [] [.eq (.pointer (some ⟨w.heap.size,1,none⟩)),.eq (O (hi)),.eq (.pointer (some ⟨w.heap.size,0,none⟩)),.eq (O (lo)),.eq (.bool ne)] [4] I (fun hc=>⟨oN (.tmp 2) (.pointer (some ⟨w.heap.size,0,none⟩)) hc,oL 37 0 hc fun vs gs w1 c=>c.own 0 1,oN (.tmp 2) (.pointer (some ⟨w.heap.size,0,none⟩)) hc,oL 39 2 hc fun vs gs w1 c=>c.own 0 0,oTT 38 1 40 3 hc (hs:=(by intro ρ w1 h k;go_simp;first|done|exact hne)),trivial⟩) fun vs W=>tl ?_
 clear I
 intro I
 go_upto_if 41 with fail
 go_cut [9]from 42 to 48 (fun s9 wx=>s9=O R1.q∧KBd w [(w.heap.size,BF.own [O lo,O hi]),(w.heap.size+1,BF.own [O 0,O 0]),(g8,BF.own [O R0.a,O R0.b]),(g10,BF.own [O R1.a,O R1.b])] wx)
 case first=>
  cases ne
  ·obtain rfl:=hq1 rfl
   go_wp2_with fail
   go_meet
   case rel=>exact⟨rfl,I⟩
  ·replace hr1:=hr1 rfl
   go_upto_region 9 with fail
   refine rB [[],[],[],[(8,.own [O R1.a,O R1.b])]] [] [.eq (.pointer (some ⟨w.heap.size,1,none⟩)),.eq (O (hi)),.eq (O (m)),.eq (.tuple #[O R1.q,.agg #[O R1.a,O R1.b]]),.eq (.tuple #[O R1.q,.agg #[O R1.a,O R1.b]]),.eq (O (R1.q)),.eq (.agg #[O R1.a,O R1.b]),.eq (O (R1.q))] [7] I (fun hc=>⟨oN (.tmp 2) (.pointer (some ⟨w.heap.size,0,none⟩)) hc,oL 43 0 hc fun vs gs w1 c=>c.own 0 1,ob_mv hc (.inl rfl),ob_call (fun v=>[v 1,v 2]) hc rfl fun vs gs w1 c=>hr1 _ _ _ (c.v 1) (c.v 2),ob_cp 3 hc (.inl rfl),oT 42 4 hc,oT 42 4 hc,ob_cp 5 hc (.inr rfl),ob_put2 (n:=3) 0 rfl (some 6) hc rfl (hf:=by simp),trivial⟩) fun vs W=>tl ?_
   clear I
   intro I
   go_wp2_with fail
   go_meet
   case rel=>exact⟨rfl,I⟩
 case rest=>
  obtain⟨rfl,hI⟩:=hcut
  clear I hr0 hr1 hq1 hne
  have I:=hI
  clear hI
  obtain⟨z,hz⟩:∃z,(lo==0)=z:=⟨_,rfl⟩
  obtain⟨p0,hp0⟩:∃p0,(if lo=0 then R0.q-1 else R0.q)=p0:=⟨_,rfl⟩
  have hpz:p0=(if z=true then R0.q-1 else R0.q):=by rw[←hp0, ←hz];simp
  have hpb: -200000000000≤p0∧p0≤200000000000:=by rw[←hp0];split<;>omega
  go_upto_region 10 with fail
  refine rB [] [] [.eq (.pointer (some ⟨w.heap.size,0,none⟩)),.eq (O (lo)),.eq (.bool z)] [2] I (fun hc=>⟨oN (.tmp 2) (.pointer (some ⟨w.heap.size,0,none⟩)) hc,oL 49 0 hc fun vs gs w1 c=>c.own 0 0,oTN 50 1 (.const (O 0)) (O 0) hc (hs:=(by intro ρ w1 h k;go_simp;first|done|exact hz)),trivial⟩) fun vs W=>tl ?_
  clear I
  intro I
  go_upto_if 51 with fail
  go_cut [7]from 52 to 53 (fun s7 wx=>s7=O p0∧wx=W)
  case first=>
   cases z
   ·go_wp2_with fail
    go_meet
    case rel=>exact⟨by rw[hpz];rfl,rfl⟩
   ·go_wp2_with fail
    go_meet
    case rel=>exact⟨by rw[hpz];exact congrArg (Value.int IntKind.i64) (by simp),rfl⟩
  case rest=>
   obtain⟨rfl,rfl⟩:=hcut
   clear hz hpz
   unfold arcT at hF
   rw[hp0]at hF
   clear hp0
   obtain⟨mn,hmn⟩:∃mn,min R0.a R1.a=mn:=⟨_,rfl⟩
   obtain⟨mx,hmx⟩:∃mx,max R0.b R1.b=mx:=⟨_,rfl⟩
   rw[hmn,hmx]at hF
   go_upto_region 12 with fail
   refine rB [] [⟨11,some 12,.own [O 0,O 0],(.own [O mn,O mx])⟩] [.eq (.pointer (some ⟨g8,0,none⟩)),.eq (O (R0.a)),.eq (.pointer (some ⟨g10,0,none⟩)),.eq (O (R1.a)),.eq (O (mn)),.eq (.pointer (some ⟨g8,1,none⟩)),.eq (O (R0.b)),.eq (.pointer (some ⟨g10,1,none⟩)),.eq (O (R1.b)),.eq (O (mx)),.eq (.agg #[O mn,O mx])] [] I (fun hc=>⟨oN (.tmp 8) (.pointer (some ⟨g8,0,none⟩)) hc,oL 54 0 hc fun vs gs w1 c=>c.own 2 0,oN (.tmp 10) (.pointer (some ⟨g10,0,none⟩)) hc,oL 56 2 hc fun vs gs w1 c=>c.own 3 0,oTT 55 1 57 3 hc,oN (.tmp 8) (.pointer (some ⟨g8,0,none⟩)) hc,oL 59 5 hc fun vs gs w1 c=>c.own 2 1,oN (.tmp 10) (.pointer (some ⟨g10,0,none⟩)) hc,oL 61 7 hc fun vs gs w1 c=>c.own 3 1,oTT 60 6 62 8 hc,oTT 58 4 63 9 hc,ob_new (n:=4) [O 0,O 0] 30 rfl hc rfl rfl rfl,ob_put2 (n:=4) 0 rfl (some 10) hc rfl,trivial⟩) fun g11 vs W=>tl ?_
   clear I
   intro I
   clear hmn hmx
   obtain⟨top,htop⟩:∃top,min R1.q (p0+4)=top:=⟨_,rfl⟩
   have ht1:top≤p0+4:=by rw[←htop];exact Int.min_le_right _ _
   rw[htop]at hF
   go_wp2_with fail
   go_loopw [12] (fun s12 wr=>∃(i:Int) (x:Int×Int) (k:Nat),s12=O i∧p0+1≤i∧i≤p0+5∧(top+1-i).toNat=k∧Hid (arcL m k i x=y)∧Hid (KBd w [(w.heap.size,BF.own [O lo,O hi]),(w.heap.size+1,BF.own [O 0,O 0]),(g8,BF.own [O R0.a,O R0.b]),(g10,BF.own [O R1.a,O R1.b]),(g11,BF.own [O x.1,O x.2])] wr)) (fun s12 _=>(p0+5-intOf s12).toNat)
   case atStart=>exact⟨p0+1,(mn,mx),_,(by go_num),by omega,by omega,rfl,Lib.hid (by rw[show(top+1-(p0+1)).toNat=(top-p0).toNat by omega];exact hF),Lib.hid I⟩
   case round=>
    obtain⟨i,x,k,rfl,hi0,hi1,hk,HF,HI⟩:=hrel
    clear I hF
    have I:=HI.out
    clear HI
    obtain⟨le,hle⟩:∃le,decide (i≤top)=le:=⟨_,rfl⟩
    go_upto_region 14 with fail
    refine rB [] [] [.eq (O (i)),.eq (O (R1.q)),.eq (O (p0)),.eq (O (p0+4)),.eq (O (top)),.eq (.bool le)] [5] I (fun hc=>⟨ob_mv hc (.inl rfl),ob_mv hc (.inl rfl),ob_mv hc (.inl rfl),oTN 69 2 (.const (O 4)) (O 4) hc (hs:=c_1),oTT 68 1 70 3 hc,oTT 67 0 71 4 hc (hs:=(by intro ρ w1 h k;go_simp;first|done|exact hle)),trivial⟩) fun vs W=>tl ?_
    clear I
    intro I
    clear htop
    cases le
    ·have hx:x=y:=by
      have:k=0:=by have:=of_decide_eq_false hle;omega
      subst this
      exact HF.out
     clear hle HF
     go_upto_region 21 with fail
     refine rB [[],[(1,.own [O x.1,O x.2])]] [] [.eq (.agg #[O x.1,O x.2]),.any,.eq (O (0))] [2] I (fun hc=>⟨ob_ld2 (x:=.tmp 11) (g:=g11) (f:=0) none hc rfl fun vs gs w1 c=>⟨c.own 4 0,c.own 4 1⟩,ob_put2 (n:=1) 0 rfl (some 0) hc rfl,ob_mv hc (.inr rfl),trivial⟩) fun vs W=>tl ?_
     clear I
     intro I
     have d0:=I.own 1 0
     have d1:=I.own 1 1
     have hE:=I.e
     clear I
     go_wp2_with fail
     refine bodyPost_ret (v:=.tuple #[.agg #[O x.1,O x.2],O 0]) ?_ rfl ⟨by rw[hx], ?_⟩
     ·simp[results,Tryz.results157,go_sem, ↓IntWalk.iteOmega,d0,d1]
     ·exact b_1
    ·have hit:=of_decide_eq_true hle
     clear hle
     obtain⟨k,rfl⟩:∃k',k=k'+1:=⟨k-1,by omega⟩
     have hL:Hid (arcL m k (i+1) (arcS (i+m) x)=y):=Lib.hid HF.out
     clear HF
     obtain⟨r1,hr1⟩:∃r1,(i+m).tmod 4=r1:=⟨_,rfl⟩
     obtain⟨k4,hk4⟩:∃k4,(r1+4).tmod 4=k4:=⟨_,rfl⟩
     obtain⟨t4,hr4⟩:=tmod4 (i+m)
     rw[hr1]at t4 hr4
     rw[hk4]at t4
     go_upto_region 16 with fail
     refine rB [] [] [.eq (O (i)),.eq (O (m)),.eq (O (i+m)),.eq (O (r1)),.eq (O (r1+4)),.eq (O (k4))] [5] I (fun hc=>⟨ob_mv hc (.inl rfl),ob_mv hc (.inl rfl),oTT 75 0 76 1 hc (hs:=c_1),oTN 77 2 (.const (O 4)) (O 4) hc (hs:=c_54),oTN 78 3 (.const (O 4)) (O 4) hc (hs:=c_1),oTN 79 4 (.const (O 4)) (O 4) hc (hs:=(by intro ρ w1 h k;go_simp;first|done|exact hk4)),trivial⟩) fun vs W=>tl ?_
     clear I
     intro I
     clear hr1 hk4 hr4
     by_cases j1:k4=1
     ·subst j1
      rw[show arcS (i+m) x=(x.1,1099511627776) by unfold arcS;rw[if_pos t4.symm]]at hL
      clear t4
      go_upto_region 18 with fail
      refine rB [[],[],[],[],[(1,.own [O x.1,O 1099511627776])]] [] [.eq (.pointer (some ⟨g11,1,none⟩))] [] I (fun hc=>⟨oN (.tmp 11) (.pointer (some ⟨g11,0,none⟩)) hc,ob_put1 (n:=4) 1 rfl none hc rfl 0 (hy:=⟨some 0,fun _=>by kernel_rfl,rfl,by kernel_rfl⟩) (hf:=by simp),trivial⟩) fun vs W=>tl ?_
      clear I
      intro I
      go_wp2_with fail
      go_roundw
      case rel=>exact⟨i+1,(x.1,1099511627776),k,(by go_num),by omega,by omega,by omega,hL,Lib.hid I⟩
      case measure=>simp[intOf];omega
     ·by_cases j3:k4=3
      ·subst j3
       rw[show arcS (i+m) x=(-1099511627776,x.2) by unfold arcS;rw[if_neg (by omega),if_pos t4.symm]]at hL
       clear t4
       go_upto_region 20 with fail
       refine rB [[],[],[],[],[(1,.own [O (-1099511627776),O x.2])]] [] [.eq (.pointer (some ⟨g11,0,none⟩))] [] I (fun hc=>⟨oN (.tmp 11) (.pointer (some ⟨g11,0,none⟩)) hc,ob_put1 (n:=4) 0 rfl none hc rfl 0 (hy:=⟨some 0,fun _=>by kernel_rfl,rfl,by kernel_rfl⟩) (hf:=by simp),trivial⟩) fun vs W=>tl ?_
       clear I
       intro I
       go_wp2_with fail
       go_roundw
       case rel=>exact⟨i+1,(-1099511627776,x.2),k,(by go_num),by omega,by omega,by omega,hL,Lib.hid I⟩
       case measure=>simp[intOf];omega
      ·rw[show arcS (i+m) x=x by unfold arcS;rw[if_neg (by omega),if_neg (by omega)]]at hL
       clear t4
       go_wp2_with fail
       go_roundw
       case rel=>exact⟨i+1,x,k,(by go_num),by omega,by omega,by omega,hL,Lib.hid I⟩
       case measure=>simp[intOf];omega
theorem t_SinIv {lo hi a b c:Int} (w:World) (h:∀w,K_ 157 #[.agg #[O lo,O hi],O 0] w fun e w'=>e=.returned (.tuple #[.agg #[O a,O b],O c])∧Ext w w'):
    K_ 119 #[.agg #[O lo,O hi]] w fun e w'=>e=.returned (.tuple #[.agg #[O a,O b],O c])∧Ext w w':=by
 go_enter Tryz.func119,Tryz.ntmps119
 go_wp2_with (go_at_call 157;(with_reducible refine(h _).mono ?_);rintro e w1 ⟨rfl,hb⟩;obtain⟨_,_,⟨hc,hf⟩,hz⟩:=hb.c3;(try simp only[wsz]at hz hc hf))
 refine bodyPost_ret (v:=.tuple #[.agg #[O a,O b],O c]) ?_ rfl ⟨rfl, ?_⟩
 ·simp[results,Tryz.results119,go_sem, ↓IntWalk.iteOmega, *]
 ·exact b_1
theorem t_CosIv {lo hi a b c:Int} (w:World) (h:∀w,K_ 157 #[.agg #[O lo,O hi],O 1] w fun e w'=>e=.returned (.tuple #[.agg #[O a,O b],O c])∧Ext w w'):
    K_ 118 #[.agg #[O lo,O hi]] w fun e w'=>e=.returned (.tuple #[.agg #[O a,O b],O c])∧Ext w w':=by
 go_enter Tryz.func118,Tryz.ntmps118
 go_wp2_with (go_at_call 157;(with_reducible refine(h _).mono ?_);rintro e w1 ⟨rfl,hb⟩;obtain⟨_,_,⟨hc,hf⟩,hz⟩:=hb.c3;(try simp only[wsz]at hz hc hf))
 refine bodyPost_ret (v:=.tuple #[.agg #[O a,O b],O c]) ?_ rfl ⟨rfl, ?_⟩
 ·simp[results,Tryz.results118,go_sem, ↓IntWalk.iteOmega, *]
 ·exact b_1
def beyF (x y a:Int):Option Bool:=
 if okN x=true∧okN y=true∧0≤a∧a≤324000000000 then
  if a=0 then some true else if a=162000000000 then some (decide (0≤cmpI y x))else
  (sineF a 110).bind fun S=>(sineF (a+324000000000) 110).bind fun C=>
  if 0≤S.r∧S.r≤9000000000000000000∧0≤C.r∧C.r≤9000000000000000000∧okN S.v=true∧okN C.v=true∧okN (y*C.v)=true∧okN (x*S.v)=true∧okN (y*C.v-x*S.v)=true∧okN (y*C.r)=true∧okN (x*S.r)=true∧okN (y*C.r+x*S.r)=true∧okN (y*C.v-x*S.v-(y*C.r+x*S.r))=true∧okN (y*C.v-x*S.v+(y*C.r+x*S.r))=true then
   if 0<cmpI (y*C.v-x*S.v-(y*C.r+x*S.r)) 0 then some true else if cmpI (y*C.v-x*S.v+(y*C.r+x*S.r)) 0<0 then some false else none
  else none
 else none
def quadF:Nat→Int→Int→Int→Option (Int×Int×Int)
 |0,_,_,_=>none
 |k+1,q,y,x=>if okN y=true∧okN x=true∧0≤q∧q≤2000000000000 then(if cmpI x 0≤0∨cmpI y 0<0 then quadF k (q+324000000000) (-x) y else some (q,y,x))else none
def binF (x y:Int):Nat→Int→Int→Option Int
 |0,_,_=>none
 |k+1,lo,hi=>if lo+1<hi then(beyF x y ((lo+hi)/2)).bind fun b=>(if b=true then binF x y k ((lo+hi)/2) hi else binF x y k lo ((lo+hi)/2))else some lo
def atF (y x:Int):Option Int:=(quadF 6 0 y x).bind fun s=>(binF s.2.2 s.2.1 60 0 324000000000).bind fun l=>some (s.1+l)
def bitsF (n:Int):Int:=if(dig n.natAbs).length=0 then 0 else 32*(((dig n.natAbs).length-1:Nat):Int)+(Lib.bitLen ((dig n.natAbs).getD ((dig n.natAbs).length-1) 0).toNat:Int)
theorem p_Bits (va:Value) (n:Int) (w:World) (ha:Wid w va n) (hs:Sz n):K_ 80 #[va] w fun e w'=>e=.returned (.tuple #[O (bitsF n),O 0])∧Ext w w':=by
 by_cases h0:(dig n.natAbs).length=0
 ·unfold bitsF
  rw[if_pos h0]
  obtain⟨u,rfl,hu⟩:=ha
  have hn:n=0:=by
   have:=dig_pos (m:=n.natAbs)
   by_cases h:n.natAbs=0
   ·omega
   ·have:=this.2 (by omega);omega
  subst hn
  replace hu:Lim w u []:=hu
  obtain⟨ao,b1,o1,cap,rfl, -⟩:=hu.view
  exact p_Bits0 ao cap w hu
 ·unfold bitsF
  rw[if_neg h0]
  obtain⟨u,rfl,hu⟩:=ha
  have hlen:(dig n.natAbs).length≤4096:=hs
  have hck:=z_check_one (w.alloc (.cells #[.bool (decide (n<0)),u] 24)) u (decide (n<0)) n.natAbs (hu.ext ((Ext.refl w).alloc _)) hs (wid_s _ rfl)
  simp only[World.size_alloc]at hck
  have hlb:=hu.lb
  obtain⟨ao,b1,o1,cap,rfl,hao,v1,v2,v3,v4,v5⟩:=hu.view
  obtain⟨X,hX⟩:∃X,dig n.natAbs=X:=⟨_,rfl⟩
  rw[hX]at h0 hck hlb hao v1 v3 v4 v5 hlen ⊢
  obtain⟨k,hk⟩:∃k,X.length=k+1:=⟨X.length-1,by omega⟩
  rw[hk]at hck hao v1 v3 v4 v5 hlen ⊢
  rw[hao (by omega)]at hck ⊢
  have hlt:=v3 (by omega)
  obtain⟨z,hz⟩:∃z,X.getD k 0=z:=⟨_,rfl⟩
  have hcz:=v4 k (by omega)
  rw[hz]at hcz
  rw[Nat.add_sub_cancel,hz]
  have hzb:0≤z∧z<BB:=by rw[←hz];exact hlb.getD k
  have hBB:BB=4294967296:=rfl
  have hLb:=Lib.bitLen_le z.toNat 32 (by decide) (by omega)
  obtain⟨L,hL⟩:∃L:Int,(Lib.bitLen z.toNat:Int)=L:=⟨_,rfl⟩
  rw[hL]
  have hL0:0≤L∧L≤64:=by omega
  have hln:∀(w1:World) (u1:Value),u1=.int .u32 z→K_ 137 #[u1] w1 fun e w'=>∃u,e=.returned u∧u=O L∧Ext w1 w':=fun w1 u1 hu1=>by
   subst hu1
   refine(Tryz.bits_Len32 z w1 hzb.1 (by omega)).mono ?_
   rintro e w' ⟨rfl,rfl⟩
   exact⟨_,rfl,by rw[hL],Ext.refl _⟩
  obtain⟨sg0,hsg⟩:∃s,decide (n<0)=s:=⟨_,rfl⟩
  rw[hsg]at hck ⊢
  have I0:KBd w [] w:=⟨Ext.refl w,trivial,by simp,by simp⟩
  have I:=I0.new [.bool sg0,.slice (some ⟨b1,o1,none⟩) (k+1) cap] 24 (by simp)
  simp only[World.size_alloc,List.nil_append,List.cons_append]at I
  clear I0 hu hlb hao v1 v3 v4 v5 hX hk hz hsg hLb hL
  go_enter Tryz.func80,Tryz.ntmps80
  go_upto_region 4 with(go_at_call 77;(with_reducible refine hck.mono ?_);rintro e w1 ⟨rfl,hb⟩;replace I:=I.ext (Ext.trans ((Ext.refl _).alloc _) hb);have d0:=I.own 0 0;have d1:=I.own 0 1;obtain⟨_,_,⟨hc,hf⟩,hz⟩:=hb.c3;(try simp only[wsz]at hz hc hf))
  clear hck d0 d1 hc hf hb
  go_upto_region 4 with fail
  refine rB [] [] [.eq (.pointer (some ⟨w.heap.size,1,none⟩)),.eq (.slice (some ⟨b1,o1,none⟩) (k+1) cap),.eq (O (((k+1:Nat):Int))),.eq (O (k)),.eq (O (k))] [4] I (fun hc=>⟨oN (.tmp 1) (.pointer (some ⟨w.heap.size,0,none⟩)) hc,oL 18 0 hc fun vs gs w1 c=>c.own 0 1,oT 19 1 hc,oTN 20 2 (.const (O 1)) (O 1) hc (hs:=c_1),ob_cp 3 hc (.inr rfl),trivial⟩) fun vs W=>tl ?_
  clear I
  intro I
  go_upto_region 5 with fail
  refine rB [] [] [.eq (O (k)),.eq (O (32*(k:Int))),.eq (.pointer (some ⟨w.heap.size,1,none⟩)),.eq (.slice (some ⟨b1,o1,none⟩) (k+1) cap),.eq (O (k)),.eq (.pointer (some ⟨b1,o1+k,none⟩)),.eq (.int .u32 z),.eq (O (L)),.eq (O (32*(k:Int)+L)),.eq (O (32*(k:Int)+L)),.eq (O (0))] [9,10] I (fun hc=>⟨ob_mv hc (.inl rfl),oNT (.const (O 32)) (O 32) 22 0 hc (hs:=c_1),oN (.tmp 1) (.pointer (some ⟨w.heap.size,0,none⟩)) hc,oL 24 2 hc fun vs gs w1 c=>c.own 0 1,ob_mv hc (.inl rfl),oTT 25 3 26 4 hc (hs:=(by intro ρ w1 h k;go_simp;first|done| (intro hh;exact absurd hh (by omega)))),oL 27 5 hc fun vs gs w1 c=>(c.k.1.cells.1 b1 (o1+k) hlt).trans hcz,ob_call (fun v=>[v 6]) hc rfl fun vs gs w1 c=>hln _ _ (c.v 6),oTT 23 1 29 7 hc (hs:=c_1),ob_cp 8 hc (.inr rfl),ob_mv hc (.inr rfl),trivial⟩) fun vs W=>tl ?_
  clear I
  intro I
  have hE:=I.e
  clear I hln
  go_wp2_with fail
  refine bodyPost_ret (v:=.tuple #[O (32*(k:Int)+L),O 0]) ?_ rfl ⟨rfl,hE⟩
  simp[results,Tryz.results80,go_sem, ↓IntWalk.iteOmega]
section
variable {ops:Array Oper} {V:Nat→VF} {B:List BR} {Kp:World→Prop} {a0:Act} {n0:Nat} {i:Nat} {o:Oper}
def VF.tri (f:VF):VF:=⟨fun v w=>∃u t s,v=.tuple #[u,t,s]∧f.p u w,fun _ _ _ ⟨u,t,s,h,k⟩ j=>⟨u,t,s,h,f.ext _ _ _ k j⟩,fun _ _ _ _ ⟨u,t,s,h,k⟩ hT j=>⟨u,t,s,h,f.gb _ _ _ _ k hT j⟩⟩
theorem ob_tri0 {x:Operand} (j:Nat) {f:VF} (hc:ChkP ops a0 B) (hop:o.op=.extract x 0) (hVj:V j=f.tri:=by rfl) (hV:(V i).p=f.p:=by rfl) (hx:∀vs,rho ops a0 o vs x=vs j:=by intro _;kernel_rfl) (hj:(needs o).contains j=true:=by kernel_rfl)
    (hg:Gd ops V o:=by first|exact .inl rfl|exact .inr ⟨_,_,rfl,rfl,by kernel_rfl⟩) (hfr:free (B.map BR.key) i=true:=by kernel_rfl):ObI Tryz.prog ops V B Kp a0 n0 i o:=
  ob_val hc (fun vs gs w ρ hr c=>by
    have h:=c.v j hj
    rw[hVj]at h
    obtain⟨u,t,s,h1,h2⟩:=h
    refine⟨u, ?_,by rw[hV];exact h2⟩
    have h5:=((hr x).trans (hx vs)).trans h1
    obtain⟨dst,op,ty,pos,af,gd⟩:=o
    dsimp only at hop
    subst hop
    clear c h2
    go_simp) hg hfr
theorem ob_triN {x:Operand} (j k:Nat) {f:VF} (hc:ChkP ops a0 B) (hop:o.op=.extract x k) (hk:k=1∨k=2) (hVj:V j=f.tri:=by rfl) (hV:(V i).p=VF.any.p:=by rfl) (hx:∀vs,rho ops a0 o vs x=vs j:=by intro _;kernel_rfl) (hj:(needs o).contains j=true:=by kernel_rfl)
    (hg:Gd ops V o:=by first|exact .inl rfl|exact .inr ⟨_,_,rfl,rfl,by kernel_rfl⟩) (hfr:free (B.map BR.key) i=true:=by kernel_rfl):ObI Tryz.prog ops V B Kp a0 n0 i o:=
  ob_val hc (fun vs gs w ρ hr c=>by
    have h:=c.v j hj
    rw[hVj]at h
    obtain⟨u,t,s,h1,h2⟩:=h
    have h5:=((hr x).trans (hx vs)).trans h1
    obtain⟨dst,op,ty,pos,af,gd⟩:=o
    dsimp only at hop
    subst hop
    clear c h2
    rcases hk with rfl|rfl
    · exact⟨t,by go_simp,by rw[hV];trivial⟩
    · exact⟨s,by go_simp,by rw[hV];trivial⟩) hg hfr
end
theorem w_div (va vb:Value) (n:Int) (k:Nat) (w:World) (ha:Wid w va n) (hb:Wid w vb (k:Int)) (hs:okN n=true) (hk0:0<k) (hk:k≤1000000000000):K_ 98 #[va,vb] w fun e w'=>∃u,e=.returned u∧((VF.wid (n/(k:Int))).tri).p u w'∧Ext w w':=by
 refine(z_DivMod va vb n k w ha hb.nat (okN.sz hs) hk0 (dig_bits (k:=64) (L:=4096) (by omega) (by decide))).mono ?_
 rintro e w' ⟨u,v,rfl,h1,h2,h3⟩
 exact⟨_,rfl,⟨u,v,_,rfl,h1⟩,h3⟩
theorem k_mulC (va vb:Value) (m k:Int) (Pb p:Nat) (w:World) (ha:Wid w va m) (hb:Wid w vb k) (hP:w.cell? ⟨Pb,0,none⟩=some (O p)) (o1:okN m=true) (o2:okN k=true) (o3:okN (m*k)=true) (hp0:0<p) (hp:p≤1000):
    K_ 151 #[va,vb,.pointer (some ⟨Pb,0,none⟩)] w fun e w'=>∃u,e=.returned u∧Wid w' u (m*k/2^p)∧Ext w w':=by
 have hPl:=World.block_lt_of_cell? w _ hP
 have hmu:∀(w1:World) (u1 u2:Value),Wid w1 u1 m→Wid w1 u2 k→K_ 79 #[u1,u2] w1 fun e w'=>∃u,e=.returned u∧((VF.wid (m*k)).err 0).p u w'∧Ext w1 w':=fun w1 u1 u2 a b=>calls_err (z_Mul u1 u2 m k w1 a b (okN.sz o1) (okN.sz o2) (okN.sz o3))
 have hsh:∀(w1:World) (u1 u2:Value),Wid w1 u1 (m*k)→u2=O (-(p:Int))→K_ 109 #[u1,u2] w1 fun e w'=>∃u,e=.returned u∧((VF.wid (m*k/2^p)).err 0).p u w'∧Ext w1 w':=fun w1 u1 u2 a b=>by
  subst b
  exact calls_err (z_shiftD u1 (m*k) p w1 a (okN.sz o3) hp0 (by omega))
 obtain⟨sa,aoa,na,capa,rfl,hA⟩:=ha.open
 obtain⟨sb,aob,nb,capb,rfl,hB⟩:=hb.open
 have I0:KBd w [] w:=⟨Ext.refl w,trivial,by simp,by simp⟩
 have I1:=I0.push ((Ext.refl w).alloc (.cells #[.bool sa,.slice aoa na capa] 24)) (BF.wat m) (WAt.lit hA)
 have I2:=I1.push ((Ext.refl (w.alloc (.cells #[.bool sa,.slice aoa na capa] 24))).alloc (.cells #[.bool sb,.slice aob nb capb] 24)) (BF.wat k) (WAt.lit (hB.ext ((Ext.refl w).alloc _)))
 have I:=I2.new [.bool false,.slice none 0 0] 24 (by simp)
 simp only[World.size_alloc,List.nil_append,List.cons_append]at I
 clear I0 I1 I2 hA hB ha hb o1 o2 o3
 go_enter Tryz.func151,Tryz.ntmps151
 go_upto_region 1 with fail
 refine rB [] [⟨6,some 7,.b2,(.wat (m*k))⟩] [.wid (m),.wid (k),(VF.wid (m*k)).err 0,(VF.wid (m*k)).err 0,.wid (m*k),.eq (O (0)),.any,.any,.eq (O (0))] [] I (fun hc=>⟨ob_getW w.heap.size (m) hc rfl fun vs gs w1 c=>c.b0 0,ob_getW (w.heap.size+1) (k) hc rfl fun vs gs w1 c=>c.b0 1,ob_call (fun v=>[v 0,v 1]) hc rfl fun vs gs w1 c=>hmu _ _ _ (c.v 0) (c.v 1),ob_cp 2 hc (.inl rfl),ob_ext0 3 hc rfl,ob_ext1 3 hc rfl,ob_allocW (n:=3) rfl hc rfl rfl rfl,ob_putW (n:=3) rfl 4 hc rfl 0,ob_cp 5 hc (.inr rfl),trivial⟩) fun g6 vs W=>tl ?_
 clear I
 intro I
 go_upto_region 2 with fail
 refine rB [[],[],[],[(7,.wat (m*k/2^p))]] [] [.wid (m*k),.eq (O (p)),.eq (O (-(p:Int))),(VF.wid (m*k/2^p)).err 0,(VF.wid (m*k/2^p)).err 0,.wid (m*k/2^p),.eq (O (0))] [] I (fun hc=>⟨ob_getW g6 (m*k) hc rfl fun vs gs w1 c=>c.b0 3,ob_ld (x:=.tmp 2) (g:=Pb) (f:=0) (u:=O (p)) none hc fun vs gs w1 c=>(c.k.1.cells.1 Pb 0 hPl).trans hP,oT 16 1 hc (hs:=c_53),ob_call (fun v=>[v 0,v 2]) hc rfl fun vs gs w1 c=>hsh _ _ _ (c.v 0) (c.v 2),ob_cp 3 hc (.inl rfl),ob_ext0 4 hc rfl,ob_ext1 4 hc rfl,ob_putW (n:=3) rfl 5 hc rfl 0,trivial⟩) fun vs W=>tl ?_
 clear I
 intro I
 go_upto_region 3 with fail
 refine rB [[],[],[(1,.wat (m*k/2^p))]] [] [.wid (m*k/2^p)] [] I (fun hc=>⟨ob_getW g6 (m*k/2^p) hc rfl fun vs gs w1 c=>c.b0 3,ob_putW (n:=2) rfl 0 hc rfl 0 (h4:=fun _ _ h=>own_bx2 h),trivial⟩) fun vs W=>tl ?_
 clear I
 intro I
 obtain⟨s,u,x0,x1,x2, -, -, -⟩:=(show WAt W (w.heap.size+1+1) (m*k/2^p)from I.at 2)
 have hE:=I.e
 clear I hmu hsh
 go_wp2_with fail
 refine bodyPost_ret (v:=.agg #[.bool s,u]) ?_ rfl ⟨_,rfl,x2,hE⟩
 simp[results,Tryz.results151,go_sem, ↓IntWalk.iteOmega,x0,x1]
end Go.Proofs.YtaoioncjmfcolaaGreat
