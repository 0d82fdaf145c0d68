/- kepler: move falls. -/
import Derived.Test.YtaoioncjmfcolaaGreatV42
set_option linter.unusedSimpArgs false
set_option linter.unusedVariables false
set_option maxRecDepth 100000
set_option maxHeartbeats 4000000
namespace Go.Proofs.YtaoioncjmfcolaaGreat
open Go.RowKit
theorem T_KB13_1 {p:Prop} (h:p:=by
 exact ob_eq (u:=.agg #[O 0,O 1099511627776,O 0,O 0,O 0,O 0,O 0]) hc (fun vs gs w1 ρ hr c=>by
  have e1:ρ (.tmp 3)=.pointer (some ⟨w.heap.size,0,none⟩):=hr _
  have c0:=c.own 0 0
  have c1:=c.own 0 1
  have c2:=c.own 0 2
  have c3:=c.own 0 3
  have c4:=c.own 0 4
  have c5:=c.own 0 5
  have c6:=c.own 0 6
  clear c hr
  go_simp)):p:=h
theorem eqc1 {P:Program} {f:Nat} {w:World} {F:Ending→World→Prop} {u v:Value} (h:u=v) (k:Calls P f #[v] w F):Calls P f #[u] w F:=h▸k
theorem re_quot0 (w:World):K_ 111 #[O 0,O 86400000000] w fun e w'=>e=.returned (.agg #[O 0,O 0])∧Ext w w':=
 k_quotZ 0 86400000000 0 0 w (by decide) (by decide) (by decide) (by decide) ⟨Nat.le_of_ble_eq_true c_3,Nat.le_of_ble_eq_true c_3⟩ (of_decide_eq_true c_3) (of_decide_eq_true c_3) c_3 c_3
theorem re_quot1 (w:World):K_ 111 #[O 2160000000000000,O 86400000000] w fun e w'=>e=.returned (.agg #[O 27487790694400000,O 27487790694400000])∧Ext w w':=
 k_quotZ 2160000000000000 86400000000 27487790694400000 27487790694400000 w (by decide) (by decide) (by decide) (by decide) ⟨Nat.le_of_ble_eq_true c_3,Nat.le_of_ble_eq_true c_3⟩ (of_decide_eq_true c_3) (of_decide_eq_true c_3) c_3 c_3
theorem re_dot (w:World):K_ 116 #[.agg #[O 1099511627776,O 1099511627776,O 0,O 0,O 0,O 0],.agg #[O 0,O 0,O 0,O 0,O 0,O 0]] w fun e w'=>e=.returned (.tuple #[.agg #[O 0,O 0],O 0])∧Ext w w':=
 p_Dot ⟨1099511627776,1099511627776,0,0,0,0⟩ ⟨0,0,0,0,0,0⟩ ⟨0,0,0⟩ w c_3 ⟨iv_,iv_,iv_⟩ ⟨iv_,iv_,iv_⟩ c_3
theorem k_moveFar (p:Nat) (w:World):K_ 56 #[.agg #[O 0,O 1099511627776,O 0,O 0,O 0,O 0,O 0],O 2160000000000000,.pointer (some ⟨p,0,none⟩)] w fun e w'=>e=.returned (O 24)∧Ext w w':=by
 have I0:KBd w [] w:=⟨Ext.refl w,trivial,by simp,by simp⟩
 have I:=(I0.new [O 0,O 1099511627776,O 0,O 0,O 0,O 0,O 0] 52 (by simp)).new [O 0] 34 (by simp)
 simp only[World.size_alloc,List.nil_append,List.cons_append]at I
 clear I0
 go_enter_defers Tryz.func56,Tryz.ntmps56
 go_upto_region 2 with fail
 refine rB [] [⟨2,some 3,.own [O 0,O 0,O 0,O 0,O 0,O 0,O 0,O 0,O 0,O 0,O 0,O 0,O 0,O 0,O 0,O 0],(.own [O 1099511627776,O 1099511627776,O 2199023255552,O 2199023255552,O 1099511627776,O 1099511627776,O 18913907794,O 18913907824,O 1554944255987,O 1554944255988,O 53496609839,O 53496609925,O 0,O 0,O 0,O 0])⟩] [.eq (.agg #[O 0,O 1099511627776,O 0,O 0,O 0,O 0,O 0]),.eq (.agg #[O 1099511627776,O 1099511627776,O 2199023255552,O 2199023255552,O 1099511627776,O 1099511627776,O 18913907794,O 18913907824,O 1554944255987,O 1554944255988,O 53496609839,O 53496609925,O 0,O 0,O 0,O 0])] [] I (fun hc=>⟨?_,ob_call (fun v=>[v 0]) hc rfl fun vs gs w1 c=>eqc1 (c.v 0) (calls_eq (re_closed w1)),ob_new (n:=2) [O 0,O 0,O 0,O 0,O 0,O 0,O 0,O 0,O 0,O 0,O 0,O 0,O 0,O 0,O 0,O 0] 106 rfl hc rfl rfl rfl,ob_putV (n:=2) rfl (some 1) hc rfl rfl (hs:=by intro ρ w g h k hc hf;have e0:=hc 0 _ rfl;have e1:=hc 1 _ rfl;have e2:=hc 2 _ rfl;have e3:=hc 3 _ rfl;have e4:=hc 4 _ rfl;have e5:=hc 5 _ rfl;have e6:=hc 6 _ rfl;have e7:=hc 7 _ rfl;have e8:=hc 8 _ rfl;have e9:=hc 9 _ rfl;have e10:=hc 10 _ rfl;have e11:=hc 11 _ rfl;have e12:=hc 12 _ rfl;have e13:=hc 13 _ rfl;have e14:=hc 14 _ rfl;have e15:=hc 15 _ rfl;clear hc;go_simp;(try rfl)),trivial⟩) fun g7 vs W=>tl ?_
 ·exact T_KB13_1
 clear I
 intro I
 go_upto_region 3 with fail
 refine rB [] [⟨5,some 6,.own [O 0,O 0],(.own [O 27487790694400000,O 27487790694400000])⟩] [.eq (O (2160000000000000)),.eq (.pointer (some ⟨w.heap.size,0,none⟩)),.eq (O (0)),.eq (O (2160000000000000)),.eq (.agg #[O 27487790694400000,O 27487790694400000])] [] I (fun hc=>⟨ob_mv hc (.inl rfl),oN (.tmp 3) (.pointer (some ⟨w.heap.size,0,none⟩)) hc,oL 27 1 hc fun vs gs w1 c=>c.own 0 0,oTT 26 0 28 2 hc (hs:=c_52),ob_call (fun v=>[v 3,O 86400000000]) hc rfl fun vs gs w1 c=>eqc2 (c.v 3) (calls_eq (re_quot1 w1)),ob_new (n:=3) [O 0,O 0] 104 rfl hc rfl rfl rfl,ob_put2w (n:=3) 0 rfl (some 4) hc rfl,trivial⟩) fun g8 vs W=>tl ?_
 clear I
 intro I
 go_upto_region 4 with fail
 refine rB [] [⟨5,some 7,.own [O 0,O 0,O 0,O 0,O 0,O 0],(.own [O 1099511627776,O 1099511627776,O 0,O 0,O 0,O 0])⟩,⟨6,some 8,.own [O 0,O 0,O 0,O 0,O 0,O 0],(.own [O 0,O 0,O 0,O 0,O 0,O 0])⟩] [.eq (.agg #[O 0,O 1099511627776,O 0,O 0,O 0,O 0,O 0]),.eq (.tuple #[.agg #[O 1099511627776,O 1099511627776,O 0,O 0,O 0,O 0],.agg #[O 0,O 0,O 0,O 0,O 0,O 0]]),.eq (.tuple #[.agg #[O 1099511627776,O 1099511627776,O 0,O 0,O 0,O 0],.agg #[O 0,O 0,O 0,O 0,O 0,O 0]]),.eq (.agg #[O 1099511627776,O 1099511627776,O 0,O 0,O 0,O 0]),.eq (.agg #[O 0,O 0,O 0,O 0,O 0,O 0])] [] I (fun hc=>⟨?_,ob_call (fun v=>[v 0]) hc rfl fun vs gs w1 c=>eqc1 (c.v 0) (calls_eq (k_vectors 0 1099511627776 0 0 0 0 0 w1)),ob_cp 1 hc (.inl rfl),oT 31 2 hc,oT 31 2 hc,ob_new (n:=4) [O 0,O 0,O 0,O 0,O 0,O 0] 32 rfl hc rfl rfl rfl,ob_new (n:=5) [O 0,O 0,O 0,O 0,O 0,O 0] 32 rfl hc rfl rfl rfl,ob_putV (n:=4) rfl (some 3) hc rfl rfl,ob_putV (n:=5) rfl (some 4) hc rfl rfl,trivial⟩) fun g9 g10 vs W=>tl ?_
 ·exact T_KB13_1
 clear I
 intro I
 go_upto_region 5 with fail
 refine rB [[],[],[(9,.own [O 1099511627776,O 1099511627776,O 2199023255552,O 2199023255552,O 1099511627776,O 1099511627776,O 18913907794,O 18913907824,O 1554944255987,O 1554944255988,O 53496609839,O 53496609925,O (-1099511627776),O (-1099511627776),O 0,O 0])]] [⟨5,some 5,.own [],(.own [O 2199023255552,O 2199023255552])⟩] [.eq (.agg #[O 1099511627776,O 1099511627776]),.eq (.pointer (some ⟨g7,0,none⟩)),.eq (.agg #[O 1099511627776,O 1099511627776]),.eq (.pointer (some ⟨g7,2,none⟩)),.eq (.agg #[O 2199023255552,O 2199023255552]),.any,.eq (.agg #[O 2199023255552,O 2199023255552]),.eq (.agg #[O (-1099511627776),O (-1099511627776)]),.eq (.pointer (some ⟨g7,12,none⟩))] [] I (fun hc=>⟨ob_call (fun v=>[O 1]) hc rfl fun vs gs w1 c=>kx_one,oN (.tmp 7) (.pointer (some ⟨g7,0,none⟩)) hc,ob_ld2w (x:=.tmp 37) (g:=g7) (f:=0) (some 1) hc rfl fun vs gs w1 c=>⟨c.own 2 0,c.own 2 1⟩,oN (.tmp 7) (.pointer (some ⟨g7,0,none⟩)) hc,ob_ld2w (x:=.tmp 39) (g:=g7) (f:=2) (some 3) hc rfl fun vs gs w1 c=>⟨c.own 2 2,c.own 2 3⟩,ob_sl1 (n:=6) (2199023255552) (2199023255552) (some 4) rfl hc rfl rfl,ob_call (fun v=>[v 2,v 5]) hc rfl fun vs gs w1 c=>kx_mul (a:=1099511627776) (b:=1099511627776) (c:=2199023255552) (d:=2199023255552) c_3 c_11 c_11 (c.v 2) (c.sl 6 5),ob_call (fun v=>[v 0,v 6]) hc rfl fun vs gs w1 c=>kx_sub c_3 (c.v 0) (c.v 6),oN (.tmp 7) (.pointer (some ⟨g7,0,none⟩)) hc,ob_put2w (n:=2) (hy:=⟨some 8,fun _=>by kernel_rfl,rfl,by kernel_rfl⟩) 12 rfl (some 7) hc rfl,trivial⟩) fun _ vs W=>tl ?_
 clear I
 intro I
 replace I:=I.take 6
 simp only[List.take_succ_cons,List.take_zero]at I
 go_upto_region 6 with fail
 refine rB [[],[],[(14,.own [O 1099511627776,O 1099511627776,O 2199023255552,O 2199023255552,O 1099511627776,O 1099511627776,O 18913907794,O 18913907824,O 1554944255987,O 1554944255988,O 53496609839,O 53496609925,O (-1099511627776),O (-1099511627776),O 0,O 0])]] [⟨8,some 8,.own [],(.own [O 1554944255987,O 1554944255988])⟩] [.eq (.agg #[O 1099511627776,O 1099511627776,O 0,O 0,O 0,O 0]),.eq (.agg #[O 0,O 0,O 0,O 0,O 0,O 0]),.eq (.tuple #[.agg #[O 0,O 0],O 0]),.eq (.agg #[O 0,O 0]),.eq (O (0)),.eq (.agg #[O 0,O 0]),.eq (.pointer (some ⟨g7,8,none⟩)),.eq (.agg #[O 1554944255987,O 1554944255988]),.any,.eq (.agg #[O 0,O 0]),.eq (.pointer (some ⟨g7,6,none⟩)),.eq (.agg #[O 18913907794,O 18913907824]),.eq (.agg #[O 0,O 0]),.eq (.pointer (some ⟨g7,14,none⟩))] [] I (fun hc=>⟨ob_ld6 (x:=.tmp 9) (g:=g9) (f:=0) none hc rfl fun vs gs w1 c=>⟨c.own 4 0,c.own 4 1,c.own 4 2,c.own 4 3,c.own 4 4,c.own 4 5⟩,ob_ld6 (x:=.tmp 10) (g:=g10) (f:=0) none hc rfl fun vs gs w1 c=>⟨c.own 5 0,c.own 5 1,c.own 5 2,c.own 5 3,c.own 5 4,c.own 5 5⟩,ob_call (fun v=>[v 0,v 1]) hc rfl fun vs gs w1 c=>eqc2 (c.v 0) (eqcr (c.v 1) (calls_eq (re_dot w1))),oT 47 2 hc,oT 47 2 hc,ob_call (fun v=>[v 3,v 4]) hc rfl fun vs gs w1 c=>kx_must (c.v 3) (c.v 4),oN (.tmp 7) (.pointer (some ⟨g7,0,none⟩)) hc,ob_ld2w (x:=.tmp 51) (g:=g7) (f:=8) (some 6) hc rfl fun vs gs w1 c=>⟨c.own 2 8,c.own 2 9⟩,ob_sl1 (n:=6) (1554944255987) (1554944255988) (some 7) rfl hc rfl rfl,ob_call (fun v=>[v 5,v 8]) hc rfl fun vs gs w1 c=>kx_mul (a:=0) (b:=0) (c:=1554944255987) (d:=1554944255988) c_3 c_11 c_11 (c.v 5) (c.sl 6 8),oN (.tmp 7) (.pointer (some ⟨g7,0,none⟩)) hc,ob_ld2w (x:=.tmp 55) (g:=g7) (f:=6) (some 10) hc rfl fun vs gs w1 c=>⟨c.own 2 6,c.own 2 7⟩,ob_call (fun v=>[v 9,v 11]) hc rfl fun vs gs w1 c=>kx_div c_3 (c.v 9) (c.v 11),oN (.tmp 7) (.pointer (some ⟨g7,0,none⟩)) hc,ob_put2w (n:=2) (hy:=⟨some 13,fun _=>by kernel_rfl,rfl,by kernel_rfl⟩) 14 rfl (some 12) hc rfl,trivial⟩) fun _ vs W=>tl ?_
 clear I
 intro I
 replace I:=I.take 6
 simp only[List.take_succ_cons,List.take_zero]at I
 go_upto_region 7 with fail
 refine rB [] [⟨5,some 6,.own [O 0,O 0],(.own [O 1337415245975000,O 1337415248125000])⟩,⟨3,some 3,.own [],(.own [O 27487790694400000,O 27487790694400000])⟩] [.eq (.pointer (some ⟨g7,10,none⟩)),.eq (.agg #[O 53496609839,O 53496609925]),.eq (.agg #[O 27487790694400000,O 27487790694400000]),.any,.eq (.agg #[O 1337415245975000,O 1337415248125000])] [] I (fun hc=>⟨oN (.tmp 7) (.pointer (some ⟨g7,0,none⟩)) hc,ob_ld2w (x:=.tmp 59) (g:=g7) (f:=10) (some 0) hc rfl fun vs gs w1 c=>⟨c.own 2 10,c.own 2 11⟩,ob_ld2w (x:=.tmp 8) (g:=g8) (f:=0) none hc rfl fun vs gs w1 c=>⟨c.own 3 0,c.own 3 1⟩,ob_sl1 (n:=7) (27487790694400000) (27487790694400000) (some 2) rfl hc rfl rfl,ob_call (fun v=>[v 1,v 3]) hc rfl fun vs gs w1 c=>kx_mul (a:=53496609839) (b:=53496609925) (c:=27487790694400000) (d:=27487790694400000) c_3 c_11 c_11 (c.v 1) (c.sl 7 3),ob_new (n:=6) [O 0,O 0] 104 rfl hc rfl rfl rfl,ob_put2w (n:=6) 0 rfl (some 4) hc rfl,trivial⟩) fun g11 _ vs W=>tl ?_
 clear I
 intro I
 replace I:=I.take 7
 simp only[List.take_succ_cons,List.take_zero]at I
 go_upto_region 8 with fail
 refine rB [] [] [.eq (.pointer (some ⟨g11,0,none⟩)),.eq (.pointer (some ⟨g11,0,none⟩)),.eq (O (1337415245975000)),.eq (.bool false),.eq (.bool false),.eq (.pointer (some ⟨g11,0,none⟩)),.eq (.pointer (some ⟨g11,1,none⟩)),.eq (O (1337415248125000)),.eq (.bool true),.eq (.bool true)] [9] I (fun hc=>⟨oN (.tmp 11) (.pointer (some ⟨g11,0,none⟩)) hc,oT 64 0 hc,oL 65 1 hc fun vs gs w1 c=>c.own 6 0,oTN 66 2 (.const (O (-35184372088832))) (O (-35184372088832)) hc (hs:=c_20),ob_cp 3 hc (.inl rfl),oN (.tmp 11) (.pointer (some ⟨g11,0,none⟩)) hc,oT 69 5 hc,oL 70 6 hc fun vs gs w1 c=>c.own 6 1,oTN 71 7 (.const (O 35184372088832)) (O 35184372088832) hc (hs:=c_20),ob_pickF (some 4) (some 8) hc rfl,trivial⟩) fun vs W=>tl ?_
 clear I
 intro I
 have d0:=I.own 1 0
 have f0:W.frozen? ⟨w.heap.size+1,0,none⟩=false:=(show(BF.own [O 0]).p (w.heap.size+1) W from I.at 1).2.1 0
 have hE:=I.e
 have hz:w.heap.size+1<W.heap.size:=World.block_lt_of_cell? W _ d0
 have hne:¬w.heap.size+1=W.heap.size:=by omega
 go_wp2_with fail
 refine leaves_cons (f:=57) (args:=#[.pointer (some ⟨w.heap.size+1,0,none⟩)]) (by simp) c_47 ?_
 refine(k_caught _ _ d0 f0).mono ?_
 rintro e u' w'' ⟨rfl,rfl,rfl⟩
 refine⟨O 24, ?_,rfl, ?_⟩
 ·simp[results,Tryz.results56,go_sem, ↓IntWalk.iteOmega, *]
 ·exact GB.pre hE (((GB.refl (w.heap.size+1) W).set (j:=0) (O 24)).alloc _) (by omega)
theorem k_alive33 (w:World):K_ 23 #[] w fun e w'=>e=.returned (.bool true)∧Ext w w':=by
 have I:KBd w [] w:=⟨Ext.refl w,trivial,by simp,by simp⟩
 go_enter Tryz.func23,Tryz.ntmps23
 go_upto_region 1 with fail
 refine rB [] [⟨5,some 6,.own [O 0,O 0],(.own [O 1099511627776,O 1099511627776])⟩] [.pair (0) (1),.eq (.tuple #[.agg #[O 1099511627776,O 1099511627776],O 0]),.eq (.tuple #[.agg #[O 1099511627776,O 1099511627776],O 0]),.eq (.agg #[O 1099511627776,O 1099511627776]),.eq (O 0),.any,.any,.eq (O 0)] [7] I (fun hc=>⟨ob_call (fun v=>[O 0,O 1]) hc rfl fun vs gs w1 c=>k_part 0 1 0 1 w1 (by decide) (by decide) (by decide) (by decide) c_3 c_3,ob_call (fun v=>[O 1099511627776,v 0]) hc rfl fun vs gs w1 c=>calls_eq (so_1 w1 _ (c.v 0)),ob_cp 1 hc (.inl rfl),oT 12 2 hc,oT 12 2 hc,ob_new (n:=0) [O 0,O 0] 30 rfl hc rfl rfl rfl,ob_put2 (n:=0) 0 rfl (some 3) hc rfl,ob_cp 4 hc (.inr rfl),trivial⟩) fun g1 vs W=>tl ?_
 clear I
 intro I
 go_upto_region 2 with fail
 refine rB [] [⟨5,some 6,.own [O 0,O 0],(.own [O 0,O 0])⟩] [.pair (1) (2),.eq (.tuple #[.agg #[O 0,O 0],O 0]),.eq (.tuple #[.agg #[O 0,O 0],O 0]),.eq (.agg #[O 0,O 0]),.eq (O 0),.any,.any,.eq (O 0)] [7] I (fun hc=>⟨ob_call (fun v=>[O 1,O 2]) hc rfl fun vs gs w1 c=>k_part 1 2 1 2 w1 (by decide) (by decide) (by decide) (by decide) c_3 c_3,ob_call (fun v=>[O 0,v 0]) hc rfl fun vs gs w1 c=>calls_eq (so_2 w1 _ (c.v 0)),ob_cp 1 hc (.inl rfl),oT 17 2 hc,oT 17 2 hc,ob_new (n:=1) [O 0,O 0] 30 rfl hc rfl rfl rfl,ob_put2 (n:=1) 0 rfl (some 3) hc rfl,ob_cp 4 hc (.inr rfl),trivial⟩) fun g3 vs W=>tl ?_
 clear I
 intro I
 go_upto_region 3 with fail
 refine rB [] [⟨5,some 6,.own [O 0,O 0],(.own [O 1647839322863,O 1647839322864])⟩] [.pair (1) (2),.eq (.tuple #[.agg #[O 1647839322863,O 1647839322864],O 0]),.eq (.tuple #[.agg #[O 1647839322863,O 1647839322864],O 0]),.eq (.agg #[O 1647839322863,O 1647839322864]),.eq (O 0),.any,.any,.eq (O 0)] [7] I (fun hc=>⟨ob_call (fun v=>[O 1,O 2]) hc rfl fun vs gs w1 c=>k_part 1 2 1 2 w1 (by decide) (by decide) (by decide) (by decide) c_3 c_3,ob_call (fun v=>[O 1099511627776,v 0]) hc rfl fun vs gs w1 c=>calls_eq (so_3 w1 _ (c.v 0)),ob_cp 1 hc (.inl rfl),oT 22 2 hc,oT 22 2 hc,ob_new (n:=2) [O 0,O 0] 30 rfl hc rfl rfl rfl,ob_put2 (n:=2) 0 rfl (some 3) hc rfl,ob_cp 4 hc (.inr rfl),trivial⟩) fun g5 vs W=>tl ?_
 clear I
 intro I
 go_upto_region 4 with fail
 refine rB [] [⟨6,some 8,.own [O 0,O 0],(.own [O 2199023255552,O 2199023255552])⟩,⟨7,some 9,.own [O 0,O 0],(.own [O 1099511627776,O 1099511627776])⟩] [.eq (.agg #[O 0,O 1099511627776,O 0,O 0,O 0,O 0,O 0]),.eq (.tuple #[.agg #[O 2199023255552,O 2199023255552],.agg #[O 1099511627776,O 1099511627776],O 0]),.eq (.tuple #[.agg #[O 2199023255552,O 2199023255552],.agg #[O 1099511627776,O 1099511627776],O 0]),.eq (.agg #[O 2199023255552,O 2199023255552]),.eq (.agg #[O 1099511627776,O 1099511627776]),.eq (O 0),.any,.any,.any,.any,.eq (O 0)] [10] I (fun hc=>⟨ob_call (fun v=>[]) hc rfl fun vs gs w1 c=>calls_eq (k_rest w1),ob_call (fun v=>[v 0]) hc rfl fun vs gs w1 c=>eqc1 (c.v 0) (calls_eq (re_Shape w1)),ob_cp 1 hc (.inl rfl),oT 27 2 hc,oT 27 2 hc,oT 27 2 hc,ob_new (n:=3) [O 0,O 0] 30 rfl hc rfl rfl rfl,ob_new (n:=4) [O 0,O 0] 30 rfl hc rfl rfl rfl,ob_put2 (n:=3) 0 rfl (some 3) hc rfl,ob_put2 (n:=4) 0 rfl (some 4) hc rfl,ob_cp 5 hc (.inr rfl),trivial⟩) fun g7 g8 vs W=>tl ?_
 clear I
 intro I
 go_upto_region 6 with fail
 refine rB [] [] [.eq (O 0),.eq (.bool true),.eq (.bool true),.eq (.agg #[O 1099511627776,O 1099511627776]),.eq (.agg #[O 1099511627776,O 1099511627776]),.eq (.bool true),.eq (.bool true),.eq (.bool true),.eq (O 0),.eq (.bool true),.eq (.bool true),.eq (.bool true),.eq (.agg #[O 0,O 0]),.eq (.agg #[O 0,O 0]),.eq (.bool true),.eq (.bool true),.eq (.bool true),.eq (O 0),.eq (.bool true),.eq (.bool true),.eq (.bool true),.eq (.pointer (some ⟨g5,1,none⟩)),.eq (O 1647839322864),.eq (.pointer (some ⟨g5,0,none⟩)),.eq (O 1647839322863),.eq (O 1647839322864),.eq (.bool true),.eq (.bool true),.eq (.bool true),.eq (.pointer (some ⟨g5,0,none⟩)),.eq (O 1647839322863),.eq (O 1647838076547),.eq (.bool true),.eq (.bool true),.eq (.bool true),.eq (.pointer (some ⟨g5,1,none⟩)),.eq (O 1647839322864),.eq (O 1647948027710),.eq (.bool true),.eq (.bool true),.eq (.bool true),.eq (O 0),.eq (.bool true),.eq (.bool true),.eq (.bool true),.eq (.agg #[O 2199023255552,O 2199023255552]),.eq (.agg #[O 2199023255552,O 2199023255552]),.eq (.bool true),.eq (.bool true),.eq (.bool true),.eq (.agg #[O 1099511627776,O 1099511627776]),.eq (.agg #[O 1099511627776,O 1099511627776]),.eq (.bool true),.eq (.bool true),.eq (.bool true)] [54] I (fun hc=>⟨ob_mv hc (.inl rfl),oTN 33 0 (.const (O 0)) (O 0) hc (hs:=c_6),ob_cp 1 hc (.inl rfl),ob_ld2 (x:=.tmp 1) (g:=g1) (f:=0) none hc rfl fun vs gs w1 c=>⟨c.own 0 0,c.own 0 1⟩,ob_call (fun v=>[O 1099511627776]) hc rfl fun vs gs w1 c=>calls_eq (k_point _ w1),oTT 36 3 37 4 hc (hs:=c_41),ob_pickT (some 2) (some 5) hc rfl,ob_cp 6 hc (.inl rfl),ob_mv hc (.inl rfl),oTN 41 8 (.const (O 0)) (O 0) hc (hs:=c_6),ob_pickT (some 7) (some 9) hc rfl,ob_cp 10 hc (.inl rfl),ob_ld2 (x:=.tmp 3) (g:=g3) (f:=0) none hc rfl fun vs gs w1 c=>⟨c.own 1 0,c.own 1 1⟩,ob_call (fun v=>[O 0]) hc rfl fun vs gs w1 c=>calls_eq (k_point _ w1),oTT 45 12 46 13 hc (hs:=c_41),ob_pickT (some 11) (some 14) hc rfl,ob_cp 15 hc (.inl rfl),ob_mv hc (.inl rfl),oTN 50 17 (.const (O 0)) (O 0) hc (hs:=c_6),ob_pickT (some 16) (some 18) hc rfl,ob_cp 19 hc (.inl rfl),oN (.tmp 5) (.pointer (some ⟨g5,0,none⟩)) hc,oL 54 21 hc fun vs gs w1 c=>c.own 2 1,oN (.tmp 5) (.pointer (some ⟨g5,0,none⟩)) hc,oL 56 23 hc fun vs gs w1 c=>c.own 2 0,oTN 57 24 (.const (O 1)) (O 1) hc (hs:=c_52),oTT 55 22 58 25 hc (hs:=c_6),ob_pickT (some 20) (some 26) hc rfl,ob_cp 27 hc (.inl rfl),oN (.tmp 5) (.pointer (some ⟨g5,0,none⟩)) hc,oL 62 29 hc fun vs gs w1 c=>c.own 2 0,ob_mv hc (.inl rfl),oTT 63 30 64 31 hc (hs:=c_6),ob_pickT (some 28) (some 32) hc rfl,ob_cp 33 hc (.inl rfl),oN (.tmp 5) (.pointer (some ⟨g5,0,none⟩)) hc,oL 68 35 hc fun vs gs w1 c=>c.own 2 1,ob_mv hc (.inl rfl),oTT 69 36 70 37 hc (hs:=c_6),ob_pickT (some 34) (some 38) hc rfl,ob_cp 39 hc (.inl rfl),ob_mv hc (.inl rfl),oTN 74 41 (.const (O 0)) (O 0) hc (hs:=c_6),ob_pickT (some 40) (some 42) hc rfl,ob_cp 43 hc (.inl rfl),ob_ld2 (x:=.tmp 7) (g:=g7) (f:=0) none hc rfl fun vs gs w1 c=>⟨c.own 3 0,c.own 3 1⟩,ob_call (fun v=>[O 2199023255552]) hc rfl fun vs gs w1 c=>calls_eq (k_point _ w1),oTT 78 45 79 46 hc (hs:=c_41),ob_pickT (some 44) (some 47) hc rfl,ob_cp 48 hc (.inl rfl),ob_ld2 (x:=.tmp 8) (g:=g8) (f:=0) none hc rfl fun vs gs w1 c=>⟨c.own 4 0,c.own 4 1⟩,ob_call (fun v=>[O 1099511627776]) hc rfl fun vs gs w1 c=>calls_eq (k_point _ w1),oTT 83 50 84 51 hc (hs:=c_41),ob_pickT (some 49) (some 52) hc rfl,ob_cp 53 hc (.inr rfl),trivial⟩) fun vs W=>tl ?_
 clear I
 intro I
 have hE:=I.e
 clear I
 go_wp2_with fail
 go_ret
 exact⟨rfl,hE⟩
@[go_sem] theorem run_store_func (a:Addr) (m:Mode) (w:World) (f:Fn) (x y:Array Value):(store a (.func f x y) m).run Tryz.prog w=stored Tryz.prog w a (.func f x y) m:=run_store Tryz.prog w a _ m rfl
theorem k_srch2 (c s:Int×Int) (ml mh:Int) (R:Int×Int) (F go Pg Pm:Nat) (w:World) (ic:I64 c.1∧I64 c.2) (is:I64 s.1∧I64 s.2) (h12:w.cell? ⟨go,12,none⟩=some (O c.1)) (h13:w.cell? ⟨go,13,none⟩=some (O c.2)) (h14:w.cell? ⟨go,14,none⟩=some (O s.1)) (h15:w.cell? ⟨go,15,none⟩=some (O s.2))
    (hP:w.cell? ⟨Pg,0,none⟩=some (.func (.func 154) #[] #[.pointer (some ⟨go,0,none⟩)])) (hM:w.cell? ⟨Pm,0,none⟩=some (O ml)) (b0: -100000000000000000≤ml) (b1:ml≤mh) (b2:mh≤100000000000000000) (hF:searchF (fun x=>(gF c s x).map fun r=>decide (r.2≤ml)) F (ml-4398046511104) (mh+4398046511104)=some R):
    K_ 53 #[O (ml-4398046511104),O (mh+4398046511104),.func (.func 155) #[] #[.pointer (some ⟨Pg,0,none⟩),.pointer (some ⟨Pm,0,none⟩)]] w fun e w'=>e=.returned (.tuple #[O R.1,O R.2])∧Ext w w':=
  k_search _ F 155 [Value.pointer (some ⟨Pg,0,none⟩),Value.pointer (some ⟨Pm,0,none⟩)] _ _ R w c_3 (by omega) (by omega) (by omega) hF fun w2 x b k _ _ hT=>by
    obtain⟨r,hr,rfl⟩:=Option.map_eq_some_iff.1 hT
    have hgl:=World.block_lt_of_cell? w _ h12
    exact k_T2 c s x ml r go Pg Pm w2 ic is ((k.cells.1 _ _ hgl).trans h12) ((k.cells.1 _ _ hgl).trans h13) ((k.cells.1 _ _ hgl).trans h14) ((k.cells.1 _ _ hgl).trans h15) hr ((k.cells.1 _ _ (World.block_lt_of_cell? w _ hP)).trans hP) ((k.cells.1 _ _ (World.block_lt_of_cell? w _ hM)).trans hM)
theorem k_srch3 (c s:Int×Int) (ml mh:Int) (R:Int×Int) (F go Pg Pm:Nat) (w:World) (ic:I64 c.1∧I64 c.2) (is:I64 s.1∧I64 s.2) (h12:w.cell? ⟨go,12,none⟩=some (O c.1)) (h13:w.cell? ⟨go,13,none⟩=some (O c.2)) (h14:w.cell? ⟨go,14,none⟩=some (O s.1)) (h15:w.cell? ⟨go,15,none⟩=some (O s.2))
    (hP:w.cell? ⟨Pg,0,none⟩=some (.func (.func 154) #[] #[.pointer (some ⟨go,0,none⟩)])) (hM:w.cell? ⟨Pm,1,none⟩=some (O mh)) (b0: -100000000000000000≤ml) (b1:ml≤mh) (b2:mh≤100000000000000000) (hF:searchF (fun x=>(gF c s x).map fun r=>decide (r.1<mh)) F (ml-4398046511104) (mh+4398046511104)=some R):
    K_ 53 #[O (ml-4398046511104),O (mh+4398046511104),.func (.func 156) #[] #[.pointer (some ⟨Pg,0,none⟩),.pointer (some ⟨Pm,0,none⟩)]] w fun e w'=>e=.returned (.tuple #[O R.1,O R.2])∧Ext w w':=
  k_search _ F 156 [Value.pointer (some ⟨Pg,0,none⟩),Value.pointer (some ⟨Pm,0,none⟩)] _ _ R w c_3 (by omega) (by omega) (by omega) hF fun w2 x b k _ _ hT=>by
    obtain⟨r,hr,rfl⟩:=Option.map_eq_some_iff.1 hT
    have hgl:=World.block_lt_of_cell? w _ h12
    exact k_T3 c s x mh r go Pg Pm w2 ic is ((k.cells.1 _ _ hgl).trans h12) ((k.cells.1 _ _ hgl).trans h13) ((k.cells.1 _ _ hgl).trans h14) ((k.cells.1 _ _ hgl).trans h15) hr ((k.cells.1 _ _ (World.block_lt_of_cell? w _ hP)).trans hP) ((k.cells.1 _ _ (World.block_lt_of_cell? w _ hM)).trans hM)
theorem k_turn (o0 o1 o2 o3 o4 o5 o6 o7 o8 o9 o10 o11 o12 o13 o14 o15 ml mh:Int) (F:Nat) (R2 R3:Int×Int) (w:World) (ic:I64 o12∧I64 o13) (is:I64 o14∧I64 o15) (b0: -100000000000000000≤ml) (b1:ml≤mh) (b2:mh≤100000000000000000) (h2:searchF (fun x=>(gF (o12,o13) (o14,o15) x).map fun r=>decide (r.2≤ml)) F (ml-4398046511104) (mh+4398046511104)=some R2) (h3:searchF (fun x=>(gF (o12,o13) (o14,o15) x).map fun r=>decide (r.1<mh)) F (ml-4398046511104) (mh+4398046511104)=some R3):
    K_ 117 #[.agg #[O o0,O o1,O o2,O o3,O o4,O o5,O o6,O o7,O o8,O o9,O o10,O o11,O o12,O o13,O o14,O o15],.agg #[O ml,O mh]] w fun e w'=>e=.returned (.agg #[O R2.1,O R3.2])∧Ext w w':=by
 have hq2:=fun(g5:Nat) (w1:World) a b c d e f=>k_srch2 (o12,o13) (o14,o15) ml mh R2 F w.heap.size g5 (w.heap.size+1) w1 ic is a b c d e f b0 b1 b2 h2
 have hq3:=fun(g5:Nat) (w1:World) a b c d e f=>k_srch3 (o12,o13) (o14,o15) ml mh R3 F w.heap.size g5 (w.heap.size+1) w1 ic is a b c d e f b0 b1 b2 h3
 clear h2 h3 ic is
 have I0:KBd w [] w:=⟨Ext.refl w,trivial,by simp,by simp⟩
 have I:=((I0.new [O o0,O o1,O o2,O o3,O o4,O o5,O o6,O o7,O o8,O o9,O o10,O o11,O o12,O o13,O o14,O o15] 106 (by simp)).new [O ml,O mh] 104 (by simp)).new [O 0,O 0] 104 (by simp)
 simp only[World.size_alloc,List.nil_append,List.cons_append]at I
 clear I0
 go_enter Tryz.func117,Tryz.ntmps117
 go_upto_region 1 with fail
 refine rB [] [⟨1,some 2,(.own [.nilFunc]),(.own [.func (.func 154) #[] #[.pointer (some ⟨w.heap.size,0,none⟩)]])⟩] [.eq (.func (.func 154) #[] #[.pointer (some ⟨w.heap.size,0,none⟩)])] [] I (fun hc=>⟨oN (.tmp 2) (.pointer (some ⟨w.heap.size,0,none⟩)) hc,ob_new (n:=3) [.nilFunc] 164 rfl hc rfl rfl rfl,ob_putK (n:=3) (u:=(.func (.func 154) #[] #[.pointer (some ⟨w.heap.size,0,none⟩)])) 0 164 rfl (some 0) hc rfl (hb0:=rfl),trivial⟩) fun g5 vs W=>tl ?_
 clear I
 intro I
 go_upto_region 2 with fail
 refine rB [] [] [.eq (.pointer (some ⟨(w.heap.size+1),0,none⟩)),.eq (.pointer (some ⟨(w.heap.size+1),0,none⟩)),.eq (O (ml)),.eq (O (ml-4398046511104)),.eq (.pointer (some ⟨(w.heap.size+1),0,none⟩)),.eq (.pointer (some ⟨(w.heap.size+1),1,none⟩)),.eq (O (mh)),.eq (O (mh+4398046511104)),.eq (O (ml-4398046511104)),.eq (O (mh+4398046511104))] [8,9] I (fun hc=>⟨oN (.tmp 3) (.pointer (some ⟨(w.heap.size+1),0,none⟩)) hc,oT 13 0 hc,oL 14 1 hc fun vs gs w1 c=>c.own 1 0,oTN 15 2 (.const (O 4398046511104)) (O 4398046511104) hc (hs:=c_1),oN (.tmp 3) (.pointer (some ⟨(w.heap.size+1),0,none⟩)) hc,oT 17 4 hc,oL 18 5 hc fun vs gs w1 c=>c.own 1 1,oTN 19 6 (.const (O 4398046511104)) (O 4398046511104) hc (hs:=c_1),ob_cp 3 hc (.inr rfl),ob_cp 7 hc (.inr rfl),trivial⟩) fun vs W=>tl ?_
 clear I
 intro I
 go_upto_region 3 with fail
 refine rB [] [] [.eq (O (ml-4398046511104)),.eq (O (mh+4398046511104)),.eq (.func (.func 155) #[] #[.pointer (some ⟨g5,0,none⟩),.pointer (some ⟨(w.heap.size+1),0,none⟩)]),.eq (.tuple #[O R2.1,O R2.2]),.eq (.tuple #[O R2.1,O R2.2]),.eq (O (R2.1)),.eq (O (R2.2)),.eq (O (R2.1)),.eq (O (R2.2))] [7,8] I (fun hc=>⟨ob_mv hc (.inl rfl),ob_mv hc (.inl rfl),oNN (.tmp 5) (.pointer (some ⟨g5,0,none⟩)) (.tmp 3) (.pointer (some ⟨(w.heap.size+1),0,none⟩)) hc,ob_call (fun v=>[v 0,v 1,v 2]) hc rfl fun vs gs w1 c=>eqc3l (c.v 0) (c.v 1) (c.v 2) (calls_eq (hq2 g5 _ (c.own 0 12) (c.own 0 13) (c.own 0 14) (c.own 0 15) (c.own 3 0) (c.own 1 0))),ob_cp 3 hc (.inl rfl),oT 21 4 hc,oT 21 4 hc,ob_cp 5 hc (.inr rfl),ob_cp 6 hc (.inr rfl),trivial⟩) fun vs W=>tl ?_
 clear I
 intro I
 go_upto_region 4 with fail
 refine rB [] [] [.eq (O (ml-4398046511104)),.eq (O (mh+4398046511104)),.eq (.func (.func 156) #[] #[.pointer (some ⟨g5,0,none⟩),.pointer (some ⟨(w.heap.size+1),0,none⟩)]),.eq (.tuple #[O R3.1,O R3.2]),.eq (.tuple #[O R3.1,O R3.2]),.eq (O (R3.1)),.eq (O (R3.2)),.eq (O (R3.1)),.eq (O (R3.2))] [7,8] I (fun hc=>⟨ob_mv hc (.inl rfl),ob_mv hc (.inl rfl),oNN (.tmp 5) (.pointer (some ⟨g5,0,none⟩)) (.tmp 3) (.pointer (some ⟨(w.heap.size+1),0,none⟩)) hc,ob_call (fun v=>[v 0,v 1,v 2]) hc rfl fun vs gs w1 c=>eqc3l (c.v 0) (c.v 1) (c.v 2) (calls_eq (hq3 g5 _ (c.own 0 12) (c.own 0 13) (c.own 0 14) (c.own 0 15) (c.own 3 0) (c.own 1 1))),ob_cp 3 hc (.inl rfl),oT 28 4 hc,oT 28 4 hc,ob_cp 5 hc (.inr rfl),ob_cp 6 hc (.inr rfl),trivial⟩) fun vs W=>tl ?_
 clear I
 intro I
 go_upto_region 5 with fail
 refine rB [[],[],[(4,(.own [O R2.1,O R3.2]))]] [] [.eq (O (R2.1)),.eq (O (R3.2)),.eq (.agg #[O R2.1,O R3.2]),.eq (.agg #[O R2.1,O R3.2])] [] I (fun hc=>⟨ob_mv hc (.inl rfl),ob_mv hc (.inl rfl),oTT 35 0 36 1 hc,oT 37 2 hc,ob_put2w (n:=2) 0 rfl (some 3) hc rfl,trivial⟩) fun vs W=>tl ?_
 clear I
 intro I
 have hE:=I.e
 have d0:=I.own 2 0
 have d1:=I.own 2 1
 clear I hq2 hq3
 go_wp2_with fail
 refine bodyPost_ret (v:=.agg #[O R2.1,O R3.2]) ?_ rfl ⟨rfl,hE⟩
 simp[results,Tryz.results117,go_sem, ↓IntWalk.iteOmega,d0,d1]
theorem re_s2:searchF (fun x=>(gF (-1099511627776, -1099511627776) (0,0) x).map fun r=>decide (r.2≤0)) 60 (0-4398046511104) (0+4398046511104)=some (0,1):=by kernel_rfl
theorem re_s3:searchF (fun x=>(gF (-1099511627776, -1099511627776) (0,0) x).map fun r=>decide (r.1<0)) 60 (0-4398046511104) (0+4398046511104)=some (-1,0):=by kernel_rfl
theorem re_turn (w:World):K_ 117 #[.agg #[O 1099511627776,O 1099511627776,O 2199023255552,O 2199023255552,O 1099511627776,O 1099511627776,O 18913907794,O 18913907824,O 1554944255987,O 1554944255988,O 53496609839,O 53496609925,O (-1099511627776),O (-1099511627776),O 0,O 0],.agg #[O 0,O 0]] w fun e w'=>e=.returned (.agg #[O 0,O 0])∧Ext w w':=
 k_turn 1099511627776 1099511627776 2199023255552 2199023255552 1099511627776 1099511627776 18913907794 18913907824 1554944255987 1554944255988 53496609839 53496609925 (-1099511627776) (-1099511627776) 0 0 0 0 60 (0,1) (-1,0) w c_11 c_11 (by decide) (by decide) (by decide) re_s2 re_s3
theorem re_cos (w:World):K_ 118 #[.agg #[O 0,O 0]] w fun e w'=>e=.returned (.tuple #[.agg #[O 1099511627776,O 1099511627776],O 0])∧Ext w w':=t_CosIv w fun w2=>t_arcs 0 0 1 (1099511627776,1099511627776) w2 (by decide) (by decide) (by decide) (.inr rfl) c_3
theorem re_sin (w:World):K_ 119 #[.agg #[O 0,O 0]] w fun e w'=>e=.returned (.tuple #[.agg #[O 0,O 0],O 0])∧Ext w w':=t_SinIv w fun w2=>t_arcs 0 0 0 (0,0) w2 (by decide) (by decide) (by decide) (.inl rfl) c_3
theorem re_neg (w:World):K_ 121 #[.agg #[O 0,O 0]] w fun e w'=>e=.returned (.tuple #[.agg #[O 0,O 0],O 0])∧Ext w w':=span_neg 0 0 w (by decide) (by decide) (by decide)
theorem k_moveFast (p:Nat) (w:World):K_ 56 #[.agg #[O 0,O 1099511627776,O 0,O 0,O 0,O 68719476736,O 0],O 0,.pointer (some ⟨p,0,none⟩)] w fun e w'=>e=.returned (O 24)∧Ext w w':=by
 have I0:KBd w [] w:=⟨Ext.refl w,trivial,by simp,by simp⟩
 have I:=(I0.new [O 0,O 1099511627776,O 0,O 0,O 0,O 68719476736,O 0] 52 (by simp)).new [O 0] 34 (by simp)
 simp only[World.size_alloc,List.nil_append,List.cons_append]at I
 clear I0
 go_enter_defers Tryz.func56,Tryz.ntmps56
 go_wp2_with (go_at_call 58;(with_reducible refine(fa_closed _).mono ?_);rintro e w1 ⟨rfl,hb⟩;replace I:=I.ext hb)
 (try go_wp2_with fail)
 have d0:=I.own 1 0
 have f0:w1.frozen? ⟨w.heap.size+1,0,none⟩=false:=(show(BF.own [O 0]).p (w.heap.size+1) w1 from I.at 1).2.1 0
 have hE:=I.e
 have hz:w.heap.size+1<w1.heap.size:=World.block_lt_of_cell? w1 _ d0
 have hne:¬w.heap.size+1=w1.heap.size:=by omega
 refine leaves_cons (f:=57) (args:=#[.pointer (some ⟨w.heap.size+1,0,none⟩)]) (by simp) c_47 ?_
 refine(k_caught _ _ d0 f0).mono ?_
 rintro e u' w'' ⟨rfl,rfl,rfl⟩
 refine⟨O 24, ?_,rfl, ?_⟩
 ·simp[results,Tryz.results56,go_sem, ↓IntWalk.iteOmega, *]
 ·exact GB.pre hE (((GB.refl (w.heap.size+1) w1).set (j:=0) (O 24)).alloc _) (by omega)
end Go.Proofs.YtaoioncjmfcolaaGreat
