/- kepler: move of a state at rest. -/
import Derived.Test.YtaoioncjmfcolaaGreatV43
set_option linter.unusedSimpArgs false
set_option linter.unusedVariables false
set_option maxRecDepth 100000
set_option maxHeartbeats 4000000
namespace Go.Proofs.YtaoioncjmfcolaaGreat
open Go.RowKit
theorem T_KB15_1 {p:Prop} (h:p:=by
 exact ob_eq (u:=.agg #[O 0,O 1099511627776,O 0,O 0,O 0,O 0,O 0]) hc (fun vs gs w1 ρ hr c=>by
  have e1:ρ (.tmp 3)=.pointer (some ⟨w.heap.size,0,none⟩):=hr _
  have c0:=c.own 1 0
  have c1:=c.own 1 1
  have c2:=c.own 1 2
  have c3:=c.own 1 3
  have c4:=c.own 1 4
  have c5:=c.own 1 5
  have c6:=c.own 1 6
  clear c hr
  go_simp)):p:=h
theorem k_moveRest (p:Nat) (w:World) (hb:(BF.own [O 0,O 0,O 0,O 0,O 0,O 0,O 0,O 0,O 0,O 0,O 0,O 0]).p p w):K_ 56 #[.agg #[O 0,O 1099511627776,O 0,O 0,O 0,O 0,O 0],O 0,.pointer (some ⟨p,0,none⟩)] w fun e w'=>e=.returned (O 0)∧GB p w w'∧(BF.own [O 1099511627776,O 1099511627776,O 0,O 0,O 0,O 0,O 0,O 0,O 0,O 0,O 0,O 0]).p p w':=by
 have l0:IntKind.i64.wrap 0=0:=rfl
 have l1:IntKind.i64.wrap 1=1:=rfl
 have l2:IntKind.i64.wrap 2=2:=rfl
 have l3:IntKind.i64.wrap 3=3:=rfl
 have I:=((KBp.one hb).new [O 0,O 1099511627776,O 0,O 0,O 0,O 0,O 0] 52 (by simp)).new [O 0] 34 (by simp)
 simp only[World.size_alloc,List.nil_append,List.cons_append]at I
 clear hb
 go_enter_defers Tryz.func56,Tryz.ntmps56
 go_upto_region 2 with fail
 refine rP [] [⟨2,some 3,.own [O 0,O 0,O 0,O 0,O 0,O 0,O 0,O 0,O 0,O 0,O 0,O 0,O 0,O 0,O 0,O 0],(.own [O 1099511627776,O 1099511627776,O 2199023255552,O 2199023255552,O 1099511627776,O 1099511627776,O 18913907794,O 18913907824,O 1554944255987,O 1554944255988,O 53496609839,O 53496609925,O 0,O 0,O 0,O 0])⟩] [.eq (.agg #[O 0,O 1099511627776,O 0,O 0,O 0,O 0,O 0]),.eq (.agg #[O 1099511627776,O 1099511627776,O 2199023255552,O 2199023255552,O 1099511627776,O 1099511627776,O 18913907794,O 18913907824,O 1554944255987,O 1554944255988,O 53496609839,O 53496609925,O 0,O 0,O 0,O 0])] [] I (fun hc=>⟨?_,ob_call (fun v=>[v 0]) hc rfl fun vs gs w1 c=>eqc1 (c.v 0) (calls_eq (re_closed w1)),ob_new (n:=3) [O 0,O 0,O 0,O 0,O 0,O 0,O 0,O 0,O 0,O 0,O 0,O 0,O 0,O 0,O 0,O 0] 106 rfl hc rfl rfl rfl,ob_putV (n:=3) rfl (some 1) hc rfl rfl (hs:=by intro ρ w g h k hc hf;have e0:=hc 0 _ rfl;have e1:=hc 1 _ rfl;have e2:=hc 2 _ rfl;have e3:=hc 3 _ rfl;have e4:=hc 4 _ rfl;have e5:=hc 5 _ rfl;have e6:=hc 6 _ rfl;have e7:=hc 7 _ rfl;have e8:=hc 8 _ rfl;have e9:=hc 9 _ rfl;have e10:=hc 10 _ rfl;have e11:=hc 11 _ rfl;have e12:=hc 12 _ rfl;have e13:=hc 13 _ rfl;have e14:=hc 14 _ rfl;have e15:=hc 15 _ rfl;clear hc;go_simp;(try rfl)),trivial⟩) fun g7 vs W=>tl ?_
 ·exact T_KB15_1
 clear I
 intro I
 go_upto_region 3 with fail
 refine rP [] [⟨5,some 6,.own [O 0,O 0],(.own [O 0,O 0])⟩] [.eq (O (0)),.eq (.pointer (some ⟨w.heap.size,0,none⟩)),.eq (O (0)),.eq (O (0)),.eq (.agg #[O 0,O 0])] [] I (fun hc=>⟨ob_mv hc (.inl rfl),oN (.tmp 3) (.pointer (some ⟨w.heap.size,0,none⟩)) hc,oL 27 1 hc fun vs gs w1 c=>c.own 1 0,oTT 26 0 28 2 hc (hs:=c_52),ob_call (fun v=>[v 3,O 86400000000]) hc rfl fun vs gs w1 c=>eqc2 (c.v 3) (calls_eq (re_quot0 w1)),ob_new (n:=4) [O 0,O 0] 104 rfl hc rfl rfl rfl,ob_put2w (n:=4) 0 rfl (some 4) hc rfl,trivial⟩) fun g8 vs W=>tl ?_
 clear I
 intro I
 go_upto_region 4 with fail
 refine rP [] [⟨5,some 7,.own [O 0,O 0,O 0,O 0,O 0,O 0],(.own [O 1099511627776,O 1099511627776,O 0,O 0,O 0,O 0])⟩,⟨6,some 8,.own [O 0,O 0,O 0,O 0,O 0,O 0],(.own [O 0,O 0,O 0,O 0,O 0,O 0])⟩] [.eq (.agg #[O 0,O 1099511627776,O 0,O 0,O 0,O 0,O 0]),.eq (.tuple #[.agg #[O 1099511627776,O 1099511627776,O 0,O 0,O 0,O 0],.agg #[O 0,O 0,O 0,O 0,O 0,O 0]]),.eq (.tuple #[.agg #[O 1099511627776,O 1099511627776,O 0,O 0,O 0,O 0],.agg #[O 0,O 0,O 0,O 0,O 0,O 0]]),.eq (.agg #[O 1099511627776,O 1099511627776,O 0,O 0,O 0,O 0]),.eq (.agg #[O 0,O 0,O 0,O 0,O 0,O 0])] [] I (fun hc=>⟨?_,ob_call (fun v=>[v 0]) hc rfl fun vs gs w1 c=>eqc1 (c.v 0) (calls_eq (k_vectors 0 1099511627776 0 0 0 0 0 w1)),ob_cp 1 hc (.inl rfl),oT 31 2 hc,oT 31 2 hc,ob_new (n:=5) [O 0,O 0,O 0,O 0,O 0,O 0] 32 rfl hc rfl rfl rfl,ob_new (n:=6) [O 0,O 0,O 0,O 0,O 0,O 0] 32 rfl hc rfl rfl rfl,ob_putV (n:=5) rfl (some 3) hc rfl rfl,ob_putV (n:=6) rfl (some 4) hc rfl rfl,trivial⟩) fun g9 g10 vs W=>tl ?_
 ·exact T_KB15_1
 clear I
 intro I
 go_upto_region 5 with fail
 refine rP [[],[],[],[(9,.own [O 1099511627776,O 1099511627776,O 2199023255552,O 2199023255552,O 1099511627776,O 1099511627776,O 18913907794,O 18913907824,O 1554944255987,O 1554944255988,O 53496609839,O 53496609925,O (-1099511627776),O (-1099511627776),O 0,O 0])]] [⟨5,some 5,.own [],(.own [O 2199023255552,O 2199023255552])⟩] [.eq (.agg #[O 1099511627776,O 1099511627776]),.eq (.pointer (some ⟨g7,0,none⟩)),.eq (.agg #[O 1099511627776,O 1099511627776]),.eq (.pointer (some ⟨g7,2,none⟩)),.eq (.agg #[O 2199023255552,O 2199023255552]),.any,.eq (.agg #[O 2199023255552,O 2199023255552]),.eq (.agg #[O (-1099511627776),O (-1099511627776)]),.eq (.pointer (some ⟨g7,12,none⟩))] [] I (fun hc=>⟨ob_call (fun v=>[O 1]) hc rfl fun vs gs w1 c=>kx_one,oN (.tmp 7) (.pointer (some ⟨g7,0,none⟩)) hc,ob_ld2w (x:=.tmp 37) (g:=g7) (f:=0) (some 1) hc rfl fun vs gs w1 c=>⟨c.own 3 0,c.own 3 1⟩,oN (.tmp 7) (.pointer (some ⟨g7,0,none⟩)) hc,ob_ld2w (x:=.tmp 39) (g:=g7) (f:=2) (some 3) hc rfl fun vs gs w1 c=>⟨c.own 3 2,c.own 3 3⟩,ob_sl1 (n:=7) (2199023255552) (2199023255552) (some 4) rfl hc rfl rfl,ob_call (fun v=>[v 2,v 5]) hc rfl fun vs gs w1 c=>kx_mul (a:=1099511627776) (b:=1099511627776) (c:=2199023255552) (d:=2199023255552) c_3 c_11 c_11 (c.v 2) (c.sl 7 5),ob_call (fun v=>[v 0,v 6]) hc rfl fun vs gs w1 c=>kx_sub c_3 (c.v 0) (c.v 6),oN (.tmp 7) (.pointer (some ⟨g7,0,none⟩)) hc,ob_put2w (n:=3) (hy:=⟨some 8,fun _=>by kernel_rfl,rfl,by kernel_rfl⟩) 12 rfl (some 7) hc rfl,trivial⟩) fun _ vs W=>tl ?_
 clear I
 intro I
 replace I:=I.take 7
 simp only[List.take_succ_cons,List.take_zero]at I
 go_upto_region 6 with fail
 refine rP [[],[],[],[(14,.own [O 1099511627776,O 1099511627776,O 2199023255552,O 2199023255552,O 1099511627776,O 1099511627776,O 18913907794,O 18913907824,O 1554944255987,O 1554944255988,O 53496609839,O 53496609925,O (-1099511627776),O (-1099511627776),O 0,O 0])]] [⟨8,some 8,.own [],(.own [O 1554944255987,O 1554944255988])⟩] [.eq (.agg #[O 1099511627776,O 1099511627776,O 0,O 0,O 0,O 0]),.eq (.agg #[O 0,O 0,O 0,O 0,O 0,O 0]),.eq (.tuple #[.agg #[O 0,O 0],O 0]),.eq (.agg #[O 0,O 0]),.eq (O (0)),.eq (.agg #[O 0,O 0]),.eq (.pointer (some ⟨g7,8,none⟩)),.eq (.agg #[O 1554944255987,O 1554944255988]),.any,.eq (.agg #[O 0,O 0]),.eq (.pointer (some ⟨g7,6,none⟩)),.eq (.agg #[O 18913907794,O 18913907824]),.eq (.agg #[O 0,O 0]),.eq (.pointer (some ⟨g7,14,none⟩))] [] I (fun hc=>⟨ob_ld6 (x:=.tmp 9) (g:=g9) (f:=0) none hc rfl fun vs gs w1 c=>⟨c.own 5 0,c.own 5 1,c.own 5 2,c.own 5 3,c.own 5 4,c.own 5 5⟩,ob_ld6 (x:=.tmp 10) (g:=g10) (f:=0) none hc rfl fun vs gs w1 c=>⟨c.own 6 0,c.own 6 1,c.own 6 2,c.own 6 3,c.own 6 4,c.own 6 5⟩,ob_call (fun v=>[v 0,v 1]) hc rfl fun vs gs w1 c=>eqc2 (c.v 0) (eqcr (c.v 1) (calls_eq (re_dot w1))),oT 47 2 hc,oT 47 2 hc,ob_call (fun v=>[v 3,v 4]) hc rfl fun vs gs w1 c=>kx_must (c.v 3) (c.v 4),oN (.tmp 7) (.pointer (some ⟨g7,0,none⟩)) hc,ob_ld2w (x:=.tmp 51) (g:=g7) (f:=8) (some 6) hc rfl fun vs gs w1 c=>⟨c.own 3 8,c.own 3 9⟩,ob_sl1 (n:=7) (1554944255987) (1554944255988) (some 7) rfl hc rfl rfl,ob_call (fun v=>[v 5,v 8]) hc rfl fun vs gs w1 c=>kx_mul (a:=0) (b:=0) (c:=1554944255987) (d:=1554944255988) c_3 c_11 c_11 (c.v 5) (c.sl 7 8),oN (.tmp 7) (.pointer (some ⟨g7,0,none⟩)) hc,ob_ld2w (x:=.tmp 55) (g:=g7) (f:=6) (some 10) hc rfl fun vs gs w1 c=>⟨c.own 3 6,c.own 3 7⟩,ob_call (fun v=>[v 9,v 11]) hc rfl fun vs gs w1 c=>kx_div c_3 (c.v 9) (c.v 11),oN (.tmp 7) (.pointer (some ⟨g7,0,none⟩)) hc,ob_put2w (n:=3) (hy:=⟨some 13,fun _=>by kernel_rfl,rfl,by kernel_rfl⟩) 14 rfl (some 12) hc rfl,trivial⟩) fun _ vs W=>tl ?_
 clear I
 intro I
 replace I:=I.take 7
 simp only[List.take_succ_cons,List.take_zero]at I
 go_upto_region 7 with fail
 refine rP [] [⟨5,some 6,.own [O 0,O 0],(.own [O 0,O 0])⟩,⟨3,some 3,.own [],(.own [O 0,O 0])⟩] [.eq (.pointer (some ⟨g7,10,none⟩)),.eq (.agg #[O 53496609839,O 53496609925]),.eq (.agg #[O 0,O 0]),.any,.eq (.agg #[O 0,O 0])] [] I (fun hc=>⟨oN (.tmp 7) (.pointer (some ⟨g7,0,none⟩)) hc,ob_ld2w (x:=.tmp 59) (g:=g7) (f:=10) (some 0) hc rfl fun vs gs w1 c=>⟨c.own 3 10,c.own 3 11⟩,ob_ld2w (x:=.tmp 8) (g:=g8) (f:=0) none hc rfl fun vs gs w1 c=>⟨c.own 4 0,c.own 4 1⟩,ob_sl1 (n:=8) (0) (0) (some 2) rfl hc rfl rfl,ob_call (fun v=>[v 1,v 3]) hc rfl fun vs gs w1 c=>kx_mul (a:=53496609839) (b:=53496609925) (c:=0) (d:=0) c_3 c_11 c_11 (c.v 1) (c.sl 8 3),ob_new (n:=7) [O 0,O 0] 104 rfl hc rfl rfl rfl,ob_put2w (n:=7) 0 rfl (some 4) hc rfl,trivial⟩) fun g11 _ vs W=>tl ?_
 clear I
 intro I
 replace I:=I.take 8
 simp only[List.take_succ_cons,List.take_zero]at I
 go_upto_region 8 with fail
 refine rP [] [] [.eq (.pointer (some ⟨g11,0,none⟩)),.eq (.pointer (some ⟨g11,0,none⟩)),.eq (O (0)),.eq (.bool false),.eq (.bool false),.eq (.pointer (some ⟨g11,0,none⟩)),.eq (.pointer (some ⟨g11,1,none⟩)),.eq (O (0)),.eq (.bool false),.eq (.bool false)] [9] I (fun hc=>⟨oN (.tmp 11) (.pointer (some ⟨g11,0,none⟩)) hc,oT 64 0 hc,oL 65 1 hc fun vs gs w1 c=>c.own 7 0,oTN 66 2 (.const (O (-35184372088832))) (O (-35184372088832)) hc (hs:=c_20),ob_cp 3 hc (.inl rfl),oN (.tmp 11) (.pointer (some ⟨g11,0,none⟩)) hc,oT 69 5 hc,oL 70 6 hc fun vs gs w1 c=>c.own 7 1,oTN 71 7 (.const (O 35184372088832)) (O 35184372088832) hc (hs:=c_20),ob_pickF (some 4) (some 8) hc rfl,trivial⟩) fun vs W=>tl ?_
 clear I
 intro I
 go_upto_region 10 with fail
 refine rP [] [⟨3,some 4,.own [O 0,O 0],(.own [O 0,O 0])⟩] [.eq (.agg #[O 1099511627776,O 1099511627776,O 2199023255552,O 2199023255552,O 1099511627776,O 1099511627776,O 18913907794,O 18913907824,O 1554944255987,O 1554944255988,O 53496609839,O 53496609925,O (-1099511627776),O (-1099511627776),O 0,O 0]),.eq (.agg #[O 0,O 0]),.eq (.agg #[O 0,O 0])] [] I (fun hc=>⟨?_,ob_ld2w (x:=.tmp 11) (g:=g11) (f:=0) none hc rfl fun vs gs w1 c=>⟨c.own 7 0,c.own 7 1⟩,ob_call (fun v=>[v 0,v 1]) hc rfl fun vs gs w1 c=>eqc2 (c.v 0) (eqcr (c.v 1) (calls_eq (re_turn w1))),ob_new (n:=8) [O 0,O 0] 104 rfl hc rfl rfl rfl,ob_put2w (n:=8) 0 rfl (some 2) hc rfl,trivial⟩) fun g12 vs W=>tl ?_
 ·exact ob_eq (u:=.agg #[O 1099511627776,O 1099511627776,O 2199023255552,O 2199023255552,O 1099511627776,O 1099511627776,O 18913907794,O 18913907824,O 1554944255987,O 1554944255988,O 53496609839,O 53496609925,O (-1099511627776),O (-1099511627776),O 0,O 0]) hc (fun vs gs w1 ρ hr c=>by
   have e1:ρ (.tmp 7)=.pointer (some ⟨g7,0,none⟩):=hr _
   have c0:=c.own 3 0
   have c1:=c.own 3 1
   have c2:=c.own 3 2
   have c3:=c.own 3 3
   have c4:=c.own 3 4
   have c5:=c.own 3 5
   have c6:=c.own 3 6
   have c7:=c.own 3 7
   have c8:=c.own 3 8
   have c9:=c.own 3 9
   have c10:=c.own 3 10
   have c11:=c.own 3 11
   have c12:=c.own 3 12
   have c13:=c.own 3 13
   have c14:=c.own 3 14
   have c15:=c.own 3 15
   clear c hr
   go_simp)
 clear I
 intro I
 go_upto_region 11 with fail
 refine rP [] [⟨12,some 14,.own [O 0,O 0],(.own [O 1099511627776,O 1099511627776])⟩,⟨13,some 15,.own [O 0,O 0],(.own [O 0,O 0])⟩] [.eq (.pointer (some ⟨g12,0,none⟩)),.eq (.agg #[O 0,O 0]),.eq (.tuple #[.agg #[O 1099511627776,O 1099511627776],O 0]),.eq (.agg #[O 1099511627776,O 1099511627776]),.eq (O (0)),.eq (.agg #[O 1099511627776,O 1099511627776]),.eq (.pointer (some ⟨g12,0,none⟩)),.eq (.agg #[O 0,O 0]),.eq (.tuple #[.agg #[O 0,O 0],O 0]),.eq (.agg #[O 0,O 0]),.eq (O (0)),.eq (.agg #[O 0,O 0])] [] I (fun hc=>⟨oN (.tmp 12) (.pointer (some ⟨g12,0,none⟩)) hc,ob_ld2 (x:=.tmp 79) (g:=g12) (f:=0) (some 0) hc rfl fun vs gs w1 c=>⟨c.own 8 0,c.own 8 1⟩,ob_call (fun v=>[v 1]) hc rfl fun vs gs w1 c=>eqc1 (c.v 1) (calls_eq (re_cos w1)),oT 81 2 hc,oT 81 2 hc,ob_call (fun v=>[v 3,v 4]) hc rfl fun vs gs w1 c=>kx_must (c.v 3) (c.v 4),oN (.tmp 12) (.pointer (some ⟨g12,0,none⟩)) hc,ob_ld2 (x:=.tmp 85) (g:=g12) (f:=0) (some 6) hc rfl fun vs gs w1 c=>⟨c.own 8 0,c.own 8 1⟩,ob_call (fun v=>[v 7]) hc rfl fun vs gs w1 c=>eqc1 (c.v 7) (calls_eq (re_sin w1)),oT 87 8 hc,oT 87 8 hc,ob_call (fun v=>[v 9,v 10]) hc rfl fun vs gs w1 c=>kx_must (c.v 9) (c.v 10),ob_new (n:=9) [O 0,O 0] 104 rfl hc rfl rfl rfl,ob_new (n:=10) [O 0,O 0] 104 rfl hc rfl rfl rfl,ob_put2w (n:=9) 0 rfl (some 5) hc rfl,ob_put2w (n:=10) 0 rfl (some 11) hc rfl,trivial⟩) fun g13 g14 vs W=>tl ?_
 clear I
 intro I
 go_upto_region 12 with fail
 refine rP [] [⟨3,some 4,.own [O 0,O 0],(.own [O 0,O 0])⟩] [.eq (.agg #[O 1099511627776,O 1099511627776]),.eq (.agg #[O 1099511627776,O 1099511627776]),.eq (.agg #[O 0,O 0])] [] I (fun hc=>⟨ob_call (fun v=>[O 1]) hc rfl fun vs gs w1 c=>kx_one,ob_ld2w (x:=.tmp 13) (g:=g13) (f:=0) none hc rfl fun vs gs w1 c=>⟨c.own 9 0,c.own 9 1⟩,ob_call (fun v=>[v 0,v 1]) hc rfl fun vs gs w1 c=>kx_sub c_3 (c.v 0) (c.v 1),ob_new (n:=11) [O 0,O 0] 104 rfl hc rfl rfl rfl,ob_put2w (n:=11) 0 rfl (some 2) hc rfl,trivial⟩) fun g15 vs W=>tl ?_
 clear I
 intro I
 go_upto_region 13 with fail
 refine rP [] [⟨10,some 11,.own [O 0,O 0],(.own [O 1099511627776,O 1099511627776])⟩,⟨6,some 6,.own [],(.own [O 1099511627776,O 1099511627776])⟩] [.eq (.agg #[O 1099511627776,O 1099511627776]),.eq (.agg #[O 0,O 0]),.eq (.pointer (some ⟨g7,2,none⟩)),.eq (.agg #[O 2199023255552,O 2199023255552]),.eq (.pointer (some ⟨g7,0,none⟩)),.eq (.agg #[O 1099511627776,O 1099511627776]),.any,.eq (.agg #[O 2199023255552,O 2199023255552]),.eq (.agg #[O 0,O 0]),.eq (.agg #[O 1099511627776,O 1099511627776])] [] I (fun hc=>⟨ob_call (fun v=>[O 1]) hc rfl fun vs gs w1 c=>kx_one,ob_ld2w (x:=.tmp 15) (g:=g15) (f:=0) none hc rfl fun vs gs w1 c=>⟨c.own 11 0,c.own 11 1⟩,oN (.tmp 7) (.pointer (some ⟨g7,0,none⟩)) hc,ob_ld2w (x:=.tmp 96) (g:=g7) (f:=2) (some 2) hc rfl fun vs gs w1 c=>⟨c.own 3 2,c.own 3 3⟩,oN (.tmp 7) (.pointer (some ⟨g7,0,none⟩)) hc,ob_ld2w (x:=.tmp 98) (g:=g7) (f:=0) (some 4) hc rfl fun vs gs w1 c=>⟨c.own 3 0,c.own 3 1⟩,ob_sl1 (n:=13) (1099511627776) (1099511627776) (some 5) rfl hc rfl rfl,ob_call (fun v=>[v 3,v 6]) hc rfl fun vs gs w1 c=>kx_mul (a:=2199023255552) (b:=2199023255552) (c:=1099511627776) (d:=1099511627776) c_3 c_11 c_11 (c.v 3) (c.sl 13 6),ob_call (fun v=>[v 1,v 7]) hc rfl fun vs gs w1 c=>kx_div c_3 (c.v 1) (c.v 7),ob_call (fun v=>[v 0,v 8]) hc rfl fun vs gs w1 c=>kx_sub c_3 (c.v 0) (c.v 8),ob_new (n:=12) [O 0,O 0] 104 rfl hc rfl rfl rfl,ob_put2w (n:=12) 0 rfl (some 9) hc rfl,trivial⟩) fun g16 _ vs W=>tl ?_
 clear I
 intro I
 replace I:=I.take 13
 simp only[List.take_succ_cons,List.take_zero]at I
 go_upto_region 14 with fail
 refine rP [] [⟨8,some 9,.own [O 0,O 0],(.own [O 0,O 0])⟩] [.eq (.agg #[O 0,O 0]),.eq (.agg #[O 0,O 0]),.eq (.agg #[O 0,O 0]),.eq (.agg #[O 0,O 0]),.eq (.pointer (some ⟨g7,10,none⟩)),.eq (.agg #[O 53496609839,O 53496609925]),.eq (.agg #[O 0,O 0]),.eq (.agg #[O 0,O 0])] [] I (fun hc=>⟨ob_ld2w (x:=.tmp 8) (g:=g8) (f:=0) none hc rfl fun vs gs w1 c=>⟨c.own 4 0,c.own 4 1⟩,ob_ld2w (x:=.tmp 12) (g:=g12) (f:=0) none hc rfl fun vs gs w1 c=>⟨c.own 8 0,c.own 8 1⟩,ob_ld2w (x:=.tmp 14) (g:=g14) (f:=0) none hc rfl fun vs gs w1 c=>⟨c.own 10 0,c.own 10 1⟩,ob_call (fun v=>[v 1,v 2]) hc rfl fun vs gs w1 c=>kx_sub c_3 (c.v 1) (c.v 2),oN (.tmp 7) (.pointer (some ⟨g7,0,none⟩)) hc,ob_ld2w (x:=.tmp 108) (g:=g7) (f:=10) (some 4) hc rfl fun vs gs w1 c=>⟨c.own 3 10,c.own 3 11⟩,ob_call (fun v=>[v 3,v 5]) hc rfl fun vs gs w1 c=>kx_div c_3 (c.v 3) (c.v 5),ob_call (fun v=>[v 0,v 6]) hc rfl fun vs gs w1 c=>kx_sub c_3 (c.v 0) (c.v 6),ob_new (n:=13) [O 0,O 0] 104 rfl hc rfl rfl rfl,ob_put2w (n:=13) 0 rfl (some 7) hc rfl,trivial⟩) fun g17 vs W=>tl ?_
 clear I
 intro I
 go_upto_region 15 with fail
 refine rP [] [⟨16,some 17,.own [O 0,O 0],(.own [O 1099511627776,O 1099511627776])⟩,⟨4,some 4,.own [],(.own [O 1099511627776,O 1099511627776])⟩,⟨10,some 10,.own [],(.own [O 0,O 0])⟩] [.eq (.agg #[O 1099511627776,O 1099511627776]),.eq (.pointer (some ⟨g7,12,none⟩)),.eq (.agg #[O (-1099511627776),O (-1099511627776)]),.eq (.agg #[O 1099511627776,O 1099511627776]),.any,.eq (.agg #[O (-1099511627776),O (-1099511627776)]),.eq (.agg #[O 2199023255552,O 2199023255552]),.eq (.pointer (some ⟨g7,14,none⟩)),.eq (.agg #[O 0,O 0]),.eq (.agg #[O 0,O 0]),.any,.eq (.agg #[O 0,O 0]),.eq (.agg #[O 2199023255552,O 2199023255552]),.eq (.pointer (some ⟨g7,2,none⟩)),.eq (.agg #[O 2199023255552,O 2199023255552]),.eq (.agg #[O 1099511627776,O 1099511627776])] [] I (fun hc=>⟨ob_call (fun v=>[O 1]) hc rfl fun vs gs w1 c=>kx_one,oN (.tmp 7) (.pointer (some ⟨g7,0,none⟩)) hc,ob_ld2w (x:=.tmp 113) (g:=g7) (f:=12) (some 1) hc rfl fun vs gs w1 c=>⟨c.own 3 12,c.own 3 13⟩,ob_ld2w (x:=.tmp 13) (g:=g13) (f:=0) none hc rfl fun vs gs w1 c=>⟨c.own 9 0,c.own 9 1⟩,ob_sl1 (n:=15) (1099511627776) (1099511627776) (some 3) rfl hc rfl rfl,ob_call (fun v=>[v 2,v 4]) hc rfl fun vs gs w1 c=>kx_mul (a:= -1099511627776) (b:= -1099511627776) (c:=1099511627776) (d:=1099511627776) c_3 c_11 c_11 (c.v 2) (c.sl 15 4),ob_call (fun v=>[v 0,v 5]) hc rfl fun vs gs w1 c=>kx_sub c_3 (c.v 0) (c.v 5),oN (.tmp 7) (.pointer (some ⟨g7,0,none⟩)) hc,ob_ld2w (x:=.tmp 119) (g:=g7) (f:=14) (some 7) hc rfl fun vs gs w1 c=>⟨c.own 3 14,c.own 3 15⟩,ob_ld2w (x:=.tmp 14) (g:=g14) (f:=0) none hc rfl fun vs gs w1 c=>⟨c.own 10 0,c.own 10 1⟩,ob_sl1 (n:=16) (0) (0) (some 9) rfl hc rfl rfl,ob_call (fun v=>[v 8,v 10]) hc rfl fun vs gs w1 c=>kx_mul (a:=0) (b:=0) (c:=0) (d:=0) c_3 c_11 c_11 (c.v 8) (c.sl 16 10),ob_call (fun v=>[v 6,v 11]) hc rfl fun vs gs w1 c=>kx_add c_3 (c.v 6) (c.v 11),oN (.tmp 7) (.pointer (some ⟨g7,0,none⟩)) hc,ob_ld2w (x:=.tmp 125) (g:=g7) (f:=2) (some 13) hc rfl fun vs gs w1 c=>⟨c.own 3 2,c.own 3 3⟩,ob_call (fun v=>[v 12,v 14]) hc rfl fun vs gs w1 c=>kx_div c_3 (c.v 12) (c.v 14),ob_new (n:=14) [O 0,O 0] 104 rfl hc rfl rfl rfl,ob_put2w (n:=14) 0 rfl (some 15) hc rfl,trivial⟩) fun g18 _ _ vs W=>tl ?_
 clear I
 intro I
 replace I:=I.take 15
 simp only[List.take_succ_cons,List.take_zero]at I
 go_upto_region 16 with fail
 refine rP [] [⟨18,some 19,.own [O 0,O 0],(.own [O 0,O 0])⟩,⟨3,some 3,.own [],(.own [O 0,O 0])⟩,⟨10,some 9,.own [],(.own [O 1099511627776,O 1099511627776,O 1099511627776,O 1099511627776])⟩] [.eq (.pointer (some ⟨g7,6,none⟩)),.eq (.agg #[O 18913907794,O 18913907824]),.eq (.agg #[O 0,O 0]),.any,.eq (.agg #[O 0,O 0]),.eq (.pointer (some ⟨g7,8,none⟩)),.eq (.agg #[O 1554944255987,O 1554944255988]),.eq (.agg #[O 1099511627776,O 1099511627776]),.eq (.pointer (some ⟨g7,0,none⟩)),.eq (.agg #[O 1099511627776,O 1099511627776]),.any,.eq (.agg #[O 1554944255987,O 1554944255988]),.eq (.agg #[O 0,O 0]),.eq (.agg #[O 0,O 0]),.eq (.tuple #[.agg #[O 0,O 0],O 0]),.eq (.agg #[O 0,O 0]),.eq (O (0)),.eq (.agg #[O 0,O 0])] [] I (fun hc=>⟨oN (.tmp 7) (.pointer (some ⟨g7,0,none⟩)) hc,ob_ld2w (x:=.tmp 128) (g:=g7) (f:=6) (some 0) hc rfl fun vs gs w1 c=>⟨c.own 3 6,c.own 3 7⟩,ob_ld2w (x:=.tmp 14) (g:=g14) (f:=0) none hc rfl fun vs gs w1 c=>⟨c.own 10 0,c.own 10 1⟩,ob_sl1 (n:=16) (0) (0) (some 2) rfl hc rfl rfl,ob_call (fun v=>[v 1,v 3]) hc rfl fun vs gs w1 c=>kx_mul (a:=18913907794) (b:=18913907824) (c:=0) (d:=0) c_3 c_11 c_11 (c.v 1) (c.sl 16 3),oN (.tmp 7) (.pointer (some ⟨g7,0,none⟩)) hc,ob_ld2w (x:=.tmp 133) (g:=g7) (f:=8) (some 5) hc rfl fun vs gs w1 c=>⟨c.own 3 8,c.own 3 9⟩,ob_ld2w (x:=.tmp 18) (g:=g18) (f:=0) none hc rfl fun vs gs w1 c=>⟨c.own 14 0,c.own 14 1⟩,oN (.tmp 7) (.pointer (some ⟨g7,0,none⟩)) hc,ob_ld2w (x:=.tmp 136) (g:=g7) (f:=0) (some 8) hc rfl fun vs gs w1 c=>⟨c.own 3 0,c.own 3 1⟩,ob_sl2 (n:=17) (1099511627776) (1099511627776) (1099511627776) (1099511627776) (some 7) (some 9) rfl hc rfl rfl,ob_call (fun v=>[v 6,v 10]) hc rfl fun vs gs w1 c=>kx_mul2 (a:=1554944255987) (b:=1554944255988) (c:=1099511627776) (d:=1099511627776) (c2:=1099511627776) (d2:=1099511627776) c_3 c_11 c_11 c_11 (c.v 6) (c.sl 17 10),ob_call (fun v=>[v 4,v 11]) hc rfl fun vs gs w1 c=>kx_div c_3 (c.v 4) (c.v 11),oT 140 12 hc,ob_call (fun v=>[v 13]) hc rfl fun vs gs w1 c=>eqc1 (c.v 13) (calls_eq (re_neg w1)),oT 142 14 hc,oT 142 14 hc,ob_call (fun v=>[v 15,v 16]) hc rfl fun vs gs w1 c=>kx_must (c.v 15) (c.v 16),ob_new (n:=15) [O 0,O 0] 104 rfl hc rfl rfl rfl,ob_put2w (n:=15) 0 rfl (some 17) hc rfl,trivial⟩) fun g19 _ _ vs W=>tl ?_
 clear I
 intro I
 replace I:=I.take 16
 simp only[List.take_succ_cons,List.take_zero]at I
 go_upto_region 17 with fail
 refine rP [] [⟨9,some 10,.own [O 0,O 0],(.own [O 1099511627776,O 1099511627776])⟩,⟨5,some 5,.own [],(.own [O 1099511627776,O 1099511627776])⟩] [.eq (.agg #[O 1099511627776,O 1099511627776]),.eq (.agg #[O 0,O 0]),.eq (.pointer (some ⟨g7,2,none⟩)),.eq (.agg #[O 2199023255552,O 2199023255552]),.eq (.agg #[O 1099511627776,O 1099511627776]),.any,.eq (.agg #[O 2199023255552,O 2199023255552]),.eq (.agg #[O 0,O 0]),.eq (.agg #[O 1099511627776,O 1099511627776])] [] I (fun hc=>⟨ob_call (fun v=>[O 1]) hc rfl fun vs gs w1 c=>kx_one,ob_ld2w (x:=.tmp 15) (g:=g15) (f:=0) none hc rfl fun vs gs w1 c=>⟨c.own 11 0,c.own 11 1⟩,oN (.tmp 7) (.pointer (some ⟨g7,0,none⟩)) hc,ob_ld2w (x:=.tmp 148) (g:=g7) (f:=2) (some 2) hc rfl fun vs gs w1 c=>⟨c.own 3 2,c.own 3 3⟩,ob_ld2w (x:=.tmp 18) (g:=g18) (f:=0) none hc rfl fun vs gs w1 c=>⟨c.own 14 0,c.own 14 1⟩,ob_sl1 (n:=17) (1099511627776) (1099511627776) (some 4) rfl hc rfl rfl,ob_call (fun v=>[v 3,v 5]) hc rfl fun vs gs w1 c=>kx_mul (a:=2199023255552) (b:=2199023255552) (c:=1099511627776) (d:=1099511627776) c_3 c_11 c_11 (c.v 3) (c.sl 17 5),ob_call (fun v=>[v 1,v 6]) hc rfl fun vs gs w1 c=>kx_div c_3 (c.v 1) (c.v 6),ob_call (fun v=>[v 0,v 7]) hc rfl fun vs gs w1 c=>kx_sub c_3 (c.v 0) (c.v 7),ob_new (n:=16) [O 0,O 0] 104 rfl hc rfl rfl rfl,ob_put2w (n:=16) 0 rfl (some 8) hc rfl,trivial⟩) fun g20 _ vs W=>tl ?_
 clear I
 intro I
 replace I:=I.take 17
 simp only[List.take_succ_cons,List.take_zero]at I
 go_wp2_with fail
 refine wp_loop_rounds 4 ?_
 rw[rounds_succ]
 go_upto_region 21 with fail
 refine rP [] [⟨8,some 10,.own [O 0,O 0],(.own [O 1099511627776,O 1099511627776])⟩,⟨9,some 11,.own [O 0,O 0],(.own [O 0,O 0])⟩] [.eq (O (0)),.eq (.pointer (some ⟨g9,0,none⟩)),.eq (.agg #[O 1099511627776,O 1099511627776]),.eq (.agg #[O 1099511627776,O 1099511627776]),.eq (O (0)),.eq (.pointer (some ⟨g10,0,none⟩)),.eq (.agg #[O 0,O 0]),.eq (.agg #[O 0,O 0])] [] I (fun hc=>⟨ob_mv hc (.inl rfl),oNT (.tmp 9) (.pointer (some ⟨g9,0,none⟩)) 158 0 hc,ob_ld2 (x:=.tmp 159) (g:=g9) (f:=0) (some 1) hc rfl fun vs gs w1 c=>⟨c.own 5 0,c.own 5 1⟩,oT 160 2 hc,ob_mv hc (.inl rfl),oNT (.tmp 10) (.pointer (some ⟨g10,0,none⟩)) 162 4 hc,ob_ld2 (x:=.tmp 163) (g:=g10) (f:=0) (some 5) hc rfl fun vs gs w1 c=>⟨c.own 6 0,c.own 6 1⟩,oT 164 6 hc,ob_new (n:=17) [O 0,O 0] 104 rfl hc rfl rfl rfl,ob_new (n:=18) [O 0,O 0] 104 rfl hc rfl rfl rfl,ob_put2w (n:=17) 0 rfl (some 3) hc rfl,ob_put2w (n:=18) 0 rfl (some 7) hc rfl,trivial⟩) fun g22 g23 vs W=>tl ?_
 clear I
 intro I
 go_upto_region 22 with fail
 refine rP [[(15,.own [O 1099511627776,O 1099511627776,O 0,O 0,O 0,O 0,O 0,O 0,O 0,O 0,O 0,O 0])]] [⟨4,some 4,.own [],(.own [O 1099511627776,O 1099511627776])⟩,⟨8,some 8,.own [],(.own [O 0,O 0])⟩] [.eq (.pointer (some ⟨p,0,none⟩)),.eq (O (0)),.eq (.agg #[O 1099511627776,O 1099511627776]),.eq (.agg #[O 1099511627776,O 1099511627776]),.any,.eq (.agg #[O 1099511627776,O 1099511627776]),.eq (.agg #[O 0,O 0]),.eq (.agg #[O 0,O 0]),.any,.eq (.agg #[O 0,O 0]),.eq (.agg #[O 1099511627776,O 1099511627776]),.eq (.agg #[O 1099511627776,O 1099511627776]),.eq (.pointer (some ⟨p,0,none⟩)),.eq (.pointer (some ⟨p,0,none⟩)),.eq (.pointer (some ⟨p,0,none⟩))] [] I (fun hc=>⟨ob_mv hc (.inl rfl),ob_mv hc (.inl rfl),ob_ld2w (x:=.tmp 16) (g:=g16) (f:=0) none hc rfl fun vs gs w1 c=>⟨c.own 12 0,c.own 12 1⟩,ob_ld2w (x:=.tmp 22) (g:=g22) (f:=0) none hc rfl fun vs gs w1 c=>⟨c.own 17 0,c.own 17 1⟩,ob_sl1 (n:=19) (1099511627776) (1099511627776) (some 3) rfl hc rfl rfl,ob_call (fun v=>[v 2,v 4]) hc rfl fun vs gs w1 c=>kx_mul (a:=1099511627776) (b:=1099511627776) (c:=1099511627776) (d:=1099511627776) c_3 c_11 c_11 (c.v 2) (c.sl 19 4),ob_ld2w (x:=.tmp 17) (g:=g17) (f:=0) none hc rfl fun vs gs w1 c=>⟨c.own 13 0,c.own 13 1⟩,ob_ld2w (x:=.tmp 23) (g:=g23) (f:=0) none hc rfl fun vs gs w1 c=>⟨c.own 18 0,c.own 18 1⟩,ob_sl1 (n:=20) (0) (0) (some 7) rfl hc rfl rfl,ob_call (fun v=>[v 6,v 8]) hc rfl fun vs gs w1 c=>kx_mul (a:=0) (b:=0) (c:=0) (d:=0) c_3 c_11 c_11 (c.v 6) (c.sl 20 8),ob_call (fun v=>[v 5,v 9]) hc rfl fun vs gs w1 c=>kx_add c_3 (c.v 5) (c.v 9),oT 176 10 hc,oT 166 0 hc,oTN 178 12 (.const (O 0)) (O 0) hc,oTT 179 13 167 1 hc,ob_put2 (n:=0) (hy:=⟨some 14,fun _=>by kernel_rfl,rfl,by kernel_rfl⟩) 0 rfl (some 11) hc rfl,trivial⟩) fun _ _ vs W=>tl ?_
 clear I
 intro I
 replace I:=I.take 19
 simp only[List.take_succ_cons,List.take_zero]at I
 go_upto_region 23 with fail
 refine rP [[(15,.own [O 1099511627776,O 1099511627776,O 0,O 0,O 0,O 0,O 0,O 0,O 0,O 0,O 0,O 0])]] [⟨4,some 4,.own [],(.own [O 1099511627776,O 1099511627776])⟩,⟨8,some 8,.own [],(.own [O 0,O 0])⟩] [.eq (.pointer (some ⟨p,0,none⟩)),.eq (O (0)),.eq (.agg #[O 0,O 0]),.eq (.agg #[O 1099511627776,O 1099511627776]),.any,.eq (.agg #[O 0,O 0]),.eq (.agg #[O 1099511627776,O 1099511627776]),.eq (.agg #[O 0,O 0]),.any,.eq (.agg #[O 0,O 0]),.eq (.agg #[O 0,O 0]),.eq (.agg #[O 0,O 0]),.eq (.pointer (some ⟨p,0,none⟩)),.eq (.pointer (some ⟨p,6,none⟩)),.eq (.pointer (some ⟨p,6,none⟩))] [] I (fun hc=>⟨ob_mv hc (.inl rfl),ob_mv hc (.inl rfl),ob_ld2w (x:=.tmp 19) (g:=g19) (f:=0) none hc rfl fun vs gs w1 c=>⟨c.own 15 0,c.own 15 1⟩,ob_ld2w (x:=.tmp 22) (g:=g22) (f:=0) none hc rfl fun vs gs w1 c=>⟨c.own 17 0,c.own 17 1⟩,ob_sl1 (n:=19) (1099511627776) (1099511627776) (some 3) rfl hc rfl rfl,ob_call (fun v=>[v 2,v 4]) hc rfl fun vs gs w1 c=>kx_mul (a:=0) (b:=0) (c:=1099511627776) (d:=1099511627776) c_3 c_11 c_11 (c.v 2) (c.sl 19 4),ob_ld2w (x:=.tmp 20) (g:=g20) (f:=0) none hc rfl fun vs gs w1 c=>⟨c.own 16 0,c.own 16 1⟩,ob_ld2w (x:=.tmp 23) (g:=g23) (f:=0) none hc rfl fun vs gs w1 c=>⟨c.own 18 0,c.own 18 1⟩,ob_sl1 (n:=20) (0) (0) (some 7) rfl hc rfl rfl,ob_call (fun v=>[v 6,v 8]) hc rfl fun vs gs w1 c=>kx_mul (a:=1099511627776) (b:=1099511627776) (c:=0) (d:=0) c_3 c_11 c_11 (c.v 6) (c.sl 20 8),ob_call (fun v=>[v 5,v 9]) hc rfl fun vs gs w1 c=>kx_add c_3 (c.v 5) (c.v 9),oT 191 10 hc,oT 181 0 hc,oTN 193 12 (.const (O 1)) (O 1) hc,oTT 194 13 182 1 hc,ob_put2 (n:=0) (hy:=⟨some 14,fun _=>by kernel_rfl,rfl,by kernel_rfl⟩) 6 rfl (some 11) hc rfl,trivial⟩) fun _ _ vs W=>tl ?_
 clear I
 intro I
 replace I:=I.take 17
 simp only[List.take_succ_cons,List.take_zero]at I
 go_wp2_with fail
 rw[rounds_succ]
 go_upto_region 21 with fail
 refine rP [] [⟨8,some 10,.own [O 0,O 0],(.own [O 0,O 0])⟩,⟨9,some 11,.own [O 0,O 0],(.own [O 0,O 0])⟩] [.eq (O (1)),.eq (.pointer (some ⟨g9,2,none⟩)),.eq (.agg #[O 0,O 0]),.eq (.agg #[O 0,O 0]),.eq (O (1)),.eq (.pointer (some ⟨g10,2,none⟩)),.eq (.agg #[O 0,O 0]),.eq (.agg #[O 0,O 0])] [] I (fun hc=>⟨ob_mv hc (.inl rfl),oNT (.tmp 9) (.pointer (some ⟨g9,0,none⟩)) 158 0 hc,ob_ld2 (x:=.tmp 159) (g:=g9) (f:=2) (some 1) hc rfl fun vs gs w1 c=>⟨c.own 5 2,c.own 5 3⟩,oT 160 2 hc,ob_mv hc (.inl rfl),oNT (.tmp 10) (.pointer (some ⟨g10,0,none⟩)) 162 4 hc,ob_ld2 (x:=.tmp 163) (g:=g10) (f:=2) (some 5) hc rfl fun vs gs w1 c=>⟨c.own 6 2,c.own 6 3⟩,oT 164 6 hc,ob_new (n:=17) [O 0,O 0] 104 rfl hc rfl rfl rfl,ob_new (n:=18) [O 0,O 0] 104 rfl hc rfl rfl rfl,ob_put2w (n:=17) 0 rfl (some 3) hc rfl,ob_put2w (n:=18) 0 rfl (some 7) hc rfl,trivial⟩) fun g22 g23 vs W=>tl ?_
 clear I
 intro I
 go_upto_region 22 with fail
 refine rP [[(15,.own [O 1099511627776,O 1099511627776,O 0,O 0,O 0,O 0,O 0,O 0,O 0,O 0,O 0,O 0])]] [⟨4,some 4,.own [],(.own [O 0,O 0])⟩,⟨8,some 8,.own [],(.own [O 0,O 0])⟩] [.eq (.pointer (some ⟨p,0,none⟩)),.eq (O (1)),.eq (.agg #[O 1099511627776,O 1099511627776]),.eq (.agg #[O 0,O 0]),.any,.eq (.agg #[O 0,O 0]),.eq (.agg #[O 0,O 0]),.eq (.agg #[O 0,O 0]),.any,.eq (.agg #[O 0,O 0]),.eq (.agg #[O 0,O 0]),.eq (.agg #[O 0,O 0]),.eq (.pointer (some ⟨p,0,none⟩)),.eq (.pointer (some ⟨p,0,none⟩)),.eq (.pointer (some ⟨p,2,none⟩))] [] I (fun hc=>⟨ob_mv hc (.inl rfl),ob_mv hc (.inl rfl),ob_ld2w (x:=.tmp 16) (g:=g16) (f:=0) none hc rfl fun vs gs w1 c=>⟨c.own 12 0,c.own 12 1⟩,ob_ld2w (x:=.tmp 22) (g:=g22) (f:=0) none hc rfl fun vs gs w1 c=>⟨c.own 17 0,c.own 17 1⟩,ob_sl1 (n:=19) (0) (0) (some 3) rfl hc rfl rfl,ob_call (fun v=>[v 2,v 4]) hc rfl fun vs gs w1 c=>kx_mul (a:=1099511627776) (b:=1099511627776) (c:=0) (d:=0) c_3 c_11 c_11 (c.v 2) (c.sl 19 4),ob_ld2w (x:=.tmp 17) (g:=g17) (f:=0) none hc rfl fun vs gs w1 c=>⟨c.own 13 0,c.own 13 1⟩,ob_ld2w (x:=.tmp 23) (g:=g23) (f:=0) none hc rfl fun vs gs w1 c=>⟨c.own 18 0,c.own 18 1⟩,ob_sl1 (n:=20) (0) (0) (some 7) rfl hc rfl rfl,ob_call (fun v=>[v 6,v 8]) hc rfl fun vs gs w1 c=>kx_mul (a:=0) (b:=0) (c:=0) (d:=0) c_3 c_11 c_11 (c.v 6) (c.sl 20 8),ob_call (fun v=>[v 5,v 9]) hc rfl fun vs gs w1 c=>kx_add c_3 (c.v 5) (c.v 9),oT 176 10 hc,oT 166 0 hc,oTN 178 12 (.const (O 0)) (O 0) hc,oTT 179 13 167 1 hc,ob_put2 (n:=0) (hy:=⟨some 14,fun _=>by kernel_rfl,rfl,by kernel_rfl⟩) 2 rfl (some 11) hc rfl,trivial⟩) fun _ _ vs W=>tl ?_
 clear I
 intro I
 replace I:=I.take 19
 simp only[List.take_succ_cons,List.take_zero]at I
 go_upto_region 23 with fail
 refine rP [[(15,.own [O 1099511627776,O 1099511627776,O 0,O 0,O 0,O 0,O 0,O 0,O 0,O 0,O 0,O 0])]] [⟨4,some 4,.own [],(.own [O 0,O 0])⟩,⟨8,some 8,.own [],(.own [O 0,O 0])⟩] [.eq (.pointer (some ⟨p,0,none⟩)),.eq (O (1)),.eq (.agg #[O 0,O 0]),.eq (.agg #[O 0,O 0]),.any,.eq (.agg #[O 0,O 0]),.eq (.agg #[O 1099511627776,O 1099511627776]),.eq (.agg #[O 0,O 0]),.any,.eq (.agg #[O 0,O 0]),.eq (.agg #[O 0,O 0]),.eq (.agg #[O 0,O 0]),.eq (.pointer (some ⟨p,0,none⟩)),.eq (.pointer (some ⟨p,6,none⟩)),.eq (.pointer (some ⟨p,8,none⟩))] [] I (fun hc=>⟨ob_mv hc (.inl rfl),ob_mv hc (.inl rfl),ob_ld2w (x:=.tmp 19) (g:=g19) (f:=0) none hc rfl fun vs gs w1 c=>⟨c.own 15 0,c.own 15 1⟩,ob_ld2w (x:=.tmp 22) (g:=g22) (f:=0) none hc rfl fun vs gs w1 c=>⟨c.own 17 0,c.own 17 1⟩,ob_sl1 (n:=19) (0) (0) (some 3) rfl hc rfl rfl,ob_call (fun v=>[v 2,v 4]) hc rfl fun vs gs w1 c=>kx_mul (a:=0) (b:=0) (c:=0) (d:=0) c_3 c_11 c_11 (c.v 2) (c.sl 19 4),ob_ld2w (x:=.tmp 20) (g:=g20) (f:=0) none hc rfl fun vs gs w1 c=>⟨c.own 16 0,c.own 16 1⟩,ob_ld2w (x:=.tmp 23) (g:=g23) (f:=0) none hc rfl fun vs gs w1 c=>⟨c.own 18 0,c.own 18 1⟩,ob_sl1 (n:=20) (0) (0) (some 7) rfl hc rfl rfl,ob_call (fun v=>[v 6,v 8]) hc rfl fun vs gs w1 c=>kx_mul (a:=1099511627776) (b:=1099511627776) (c:=0) (d:=0) c_3 c_11 c_11 (c.v 6) (c.sl 20 8),ob_call (fun v=>[v 5,v 9]) hc rfl fun vs gs w1 c=>kx_add c_3 (c.v 5) (c.v 9),oT 191 10 hc,oT 181 0 hc,oTN 193 12 (.const (O 1)) (O 1) hc,oTT 194 13 182 1 hc,ob_put2 (n:=0) (hy:=⟨some 14,fun _=>by kernel_rfl,rfl,by kernel_rfl⟩) 8 rfl (some 11) hc rfl,trivial⟩) fun _ _ vs W=>tl ?_
 clear I
 intro I
 replace I:=I.take 17
 simp only[List.take_succ_cons,List.take_zero]at I
 go_wp2_with fail
 rw[rounds_succ]
 go_upto_region 21 with fail
 refine rP [] [⟨8,some 10,.own [O 0,O 0],(.own [O 0,O 0])⟩,⟨9,some 11,.own [O 0,O 0],(.own [O 0,O 0])⟩] [.eq (O (2)),.eq (.pointer (some ⟨g9,4,none⟩)),.eq (.agg #[O 0,O 0]),.eq (.agg #[O 0,O 0]),.eq (O (2)),.eq (.pointer (some ⟨g10,4,none⟩)),.eq (.agg #[O 0,O 0]),.eq (.agg #[O 0,O 0])] [] I (fun hc=>⟨ob_mv hc (.inl rfl),oNT (.tmp 9) (.pointer (some ⟨g9,0,none⟩)) 158 0 hc,ob_ld2 (x:=.tmp 159) (g:=g9) (f:=4) (some 1) hc rfl fun vs gs w1 c=>⟨c.own 5 4,c.own 5 5⟩,oT 160 2 hc,ob_mv hc (.inl rfl),oNT (.tmp 10) (.pointer (some ⟨g10,0,none⟩)) 162 4 hc,ob_ld2 (x:=.tmp 163) (g:=g10) (f:=4) (some 5) hc rfl fun vs gs w1 c=>⟨c.own 6 4,c.own 6 5⟩,oT 164 6 hc,ob_new (n:=17) [O 0,O 0] 104 rfl hc rfl rfl rfl,ob_new (n:=18) [O 0,O 0] 104 rfl hc rfl rfl rfl,ob_put2w (n:=17) 0 rfl (some 3) hc rfl,ob_put2w (n:=18) 0 rfl (some 7) hc rfl,trivial⟩) fun g22 g23 vs W=>tl ?_
 clear I
 intro I
 go_upto_region 22 with fail
 refine rP [[(15,.own [O 1099511627776,O 1099511627776,O 0,O 0,O 0,O 0,O 0,O 0,O 0,O 0,O 0,O 0])]] [⟨4,some 4,.own [],(.own [O 0,O 0])⟩,⟨8,some 8,.own [],(.own [O 0,O 0])⟩] [.eq (.pointer (some ⟨p,0,none⟩)),.eq (O (2)),.eq (.agg #[O 1099511627776,O 1099511627776]),.eq (.agg #[O 0,O 0]),.any,.eq (.agg #[O 0,O 0]),.eq (.agg #[O 0,O 0]),.eq (.agg #[O 0,O 0]),.any,.eq (.agg #[O 0,O 0]),.eq (.agg #[O 0,O 0]),.eq (.agg #[O 0,O 0]),.eq (.pointer (some ⟨p,0,none⟩)),.eq (.pointer (some ⟨p,0,none⟩)),.eq (.pointer (some ⟨p,4,none⟩))] [] I (fun hc=>⟨ob_mv hc (.inl rfl),ob_mv hc (.inl rfl),ob_ld2w (x:=.tmp 16) (g:=g16) (f:=0) none hc rfl fun vs gs w1 c=>⟨c.own 12 0,c.own 12 1⟩,ob_ld2w (x:=.tmp 22) (g:=g22) (f:=0) none hc rfl fun vs gs w1 c=>⟨c.own 17 0,c.own 17 1⟩,ob_sl1 (n:=19) (0) (0) (some 3) rfl hc rfl rfl,ob_call (fun v=>[v 2,v 4]) hc rfl fun vs gs w1 c=>kx_mul (a:=1099511627776) (b:=1099511627776) (c:=0) (d:=0) c_3 c_11 c_11 (c.v 2) (c.sl 19 4),ob_ld2w (x:=.tmp 17) (g:=g17) (f:=0) none hc rfl fun vs gs w1 c=>⟨c.own 13 0,c.own 13 1⟩,ob_ld2w (x:=.tmp 23) (g:=g23) (f:=0) none hc rfl fun vs gs w1 c=>⟨c.own 18 0,c.own 18 1⟩,ob_sl1 (n:=20) (0) (0) (some 7) rfl hc rfl rfl,ob_call (fun v=>[v 6,v 8]) hc rfl fun vs gs w1 c=>kx_mul (a:=0) (b:=0) (c:=0) (d:=0) c_3 c_11 c_11 (c.v 6) (c.sl 20 8),ob_call (fun v=>[v 5,v 9]) hc rfl fun vs gs w1 c=>kx_add c_3 (c.v 5) (c.v 9),oT 176 10 hc,oT 166 0 hc,oTN 178 12 (.const (O 0)) (O 0) hc,oTT 179 13 167 1 hc,ob_put2 (n:=0) (hy:=⟨some 14,fun _=>by kernel_rfl,rfl,by kernel_rfl⟩) 4 rfl (some 11) hc rfl,trivial⟩) fun _ _ vs W=>tl ?_
 clear I
 intro I
 replace I:=I.take 19
 simp only[List.take_succ_cons,List.take_zero]at I
 go_upto_region 23 with fail
 refine rP [[(15,.own [O 1099511627776,O 1099511627776,O 0,O 0,O 0,O 0,O 0,O 0,O 0,O 0,O 0,O 0])]] [⟨4,some 4,.own [],(.own [O 0,O 0])⟩,⟨8,some 8,.own [],(.own [O 0,O 0])⟩] [.eq (.pointer (some ⟨p,0,none⟩)),.eq (O (2)),.eq (.agg #[O 0,O 0]),.eq (.agg #[O 0,O 0]),.any,.eq (.agg #[O 0,O 0]),.eq (.agg #[O 1099511627776,O 1099511627776]),.eq (.agg #[O 0,O 0]),.any,.eq (.agg #[O 0,O 0]),.eq (.agg #[O 0,O 0]),.eq (.agg #[O 0,O 0]),.eq (.pointer (some ⟨p,0,none⟩)),.eq (.pointer (some ⟨p,6,none⟩)),.eq (.pointer (some ⟨p,10,none⟩))] [] I (fun hc=>⟨ob_mv hc (.inl rfl),ob_mv hc (.inl rfl),ob_ld2w (x:=.tmp 19) (g:=g19) (f:=0) none hc rfl fun vs gs w1 c=>⟨c.own 15 0,c.own 15 1⟩,ob_ld2w (x:=.tmp 22) (g:=g22) (f:=0) none hc rfl fun vs gs w1 c=>⟨c.own 17 0,c.own 17 1⟩,ob_sl1 (n:=19) (0) (0) (some 3) rfl hc rfl rfl,ob_call (fun v=>[v 2,v 4]) hc rfl fun vs gs w1 c=>kx_mul (a:=0) (b:=0) (c:=0) (d:=0) c_3 c_11 c_11 (c.v 2) (c.sl 19 4),ob_ld2w (x:=.tmp 20) (g:=g20) (f:=0) none hc rfl fun vs gs w1 c=>⟨c.own 16 0,c.own 16 1⟩,ob_ld2w (x:=.tmp 23) (g:=g23) (f:=0) none hc rfl fun vs gs w1 c=>⟨c.own 18 0,c.own 18 1⟩,ob_sl1 (n:=20) (0) (0) (some 7) rfl hc rfl rfl,ob_call (fun v=>[v 6,v 8]) hc rfl fun vs gs w1 c=>kx_mul (a:=1099511627776) (b:=1099511627776) (c:=0) (d:=0) c_3 c_11 c_11 (c.v 6) (c.sl 20 8),ob_call (fun v=>[v 5,v 9]) hc rfl fun vs gs w1 c=>kx_add c_3 (c.v 5) (c.v 9),oT 191 10 hc,oT 181 0 hc,oTN 193 12 (.const (O 1)) (O 1) hc,oTT 194 13 182 1 hc,ob_put2 (n:=0) (hy:=⟨some 14,fun _=>by kernel_rfl,rfl,by kernel_rfl⟩) 10 rfl (some 11) hc rfl,trivial⟩) fun _ _ vs W=>tl ?_
 clear I
 intro I
 replace I:=I.take 17
 simp only[List.take_succ_cons,List.take_zero]at I
 go_wp2_with fail
 rw[rounds_succ]
 go_upto_region 25 with fail
 refine rP [[],[],[(0,.own [O 0])]] [] [] [] I (fun hc=>⟨ob_putK (n:=2) (u:=O 0) 0 34 rfl none hc rfl,trivial⟩) fun vs W=>tl ?_
 clear I
 intro I
 have hE:=I.e
 have hO:=I.at 0
 have d0:=I.own 2 0
 clear I
 go_wp2_with fail
 refine leaves_cons (f:=57) (args:=#[.pointer (some ⟨w.heap.size+1,0,none⟩)]) (by simp) c_47 ?_
 refine(k_catch _ _).mono ?_
 rintro e u' w'' ⟨rfl,rfl,rfl⟩
 refine⟨O 0, ?_,rfl,hE,hO⟩
 simp[results,Tryz.results56,go_sem, ↓IntWalk.iteOmega, *]
end Go.Proofs.YtaoioncjmfcolaaGreat
