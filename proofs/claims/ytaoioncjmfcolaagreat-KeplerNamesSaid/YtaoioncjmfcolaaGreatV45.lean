/- kepler: Move. -/
import Derived.Test.YtaoioncjmfcolaaGreatV44
import Derived.Deep.OwnRows
set_option linter.unusedSimpArgs false
set_option linter.unusedVariables false
set_option maxRecDepth 100000
set_option maxHeartbeats 4000000
namespace Go.Proofs.YtaoioncjmfcolaaGreat
open Go.RowKit
theorem T_KB16_4 {p:Prop} (h:p:=by
 simp[results,Tryz.results20,go_sem, ↓IntWalk.iteOmega,d0,f0,d1,f1,d2,f2,d3,f3,d4,f4,d5,f5]):p:=h
theorem T_KB16_3 {p:Prop} (h:p:=by
 exact ob_eq (u:=.agg #[O 0,O 1099511627776,O 0,O 0,O 0,O 68719476736,O 0]) hc (fun vs gs w1 ρ hr c=>by
  have e1:ρ (.tmp 2)=.pointer (some ⟨w.heap.size,0,none⟩):=hr _
  have c0:=c.own 0 0
  have c1:=c.own 0 1
  have c2:=c.own 0 2
  have c3:=c.own 0 3
  have c4:=c.own 0 4
  have c5:=c.own 0 5
  have c6:=c.own 0 6
  clear c hr
  go_simp)):p:=h
theorem T_KB16_2 {p:Prop} (h:p:=by
 clear I
 intro I
 go_upto_region 9 with fail
 refine rB [[],[(3,.own [O 0,O 0,O 0,O 0,O 0,O 0])],[(4,.own [O 0,O 0,O 0,O 0,O 0,O 0])]] [] [.eq (.agg #[O 0,O 0,O 0,O 0,O 0,O 0]),.eq (.agg #[O 0,O 0,O 0,O 0,O 0,O 0]),.eq (O (24)),.any,.any,.eq (O (24))] [5] I (fun hc=>⟨ob_k (u:=.agg #[O 0,O 0,O 0,O 0,O 0,O 0]) hc,ob_k (u:=.agg #[O 0,O 0,O 0,O 0,O 0,O 0]) hc,ob_mv hc (.inl rfl),ob_putV (n:=1) rfl (some 0) hc rfl rfl,ob_putV (n:=2) rfl (some 1) hc rfl rfl,ob_cp 2 hc (.inr rfl),trivial⟩) fun vs W=>tl ?_
 clear I
 intro I
 have d0:=I.own 1 0
 have f0:=I.own 2 0
 have d1:=I.own 1 1
 have f1:=I.own 2 1
 have d2:=I.own 1 2
 have f2:=I.own 2 2
 have d3:=I.own 1 3
 have f3:=I.own 2 3
 have d4:=I.own 1 4
 have f4:=I.own 2 4
 have d5:=I.own 1 5
 have f5:=I.own 2 5
 have hE:=I.e
 clear I
 go_wp2_with fail
 refine bodyPost_ret (v:=.tuple #[.agg #[O 0,O 0,O 0,O 0,O 0,O 0],.agg #[O 0,O 0,O 0,O 0,O 0,O 0],O 24]) ?_ rfl ⟨rfl,hE⟩
 exact T_KB16_4):p:=h
theorem T_KB16_1 {p:Prop} (h:p:=by
 exact ob_eq (u:=.agg #[O 0,O 1099511627776,O 0,O 0,O 0,O 0,O 0]) hc (fun vs gs w1 ρ hr c=>by
  have e1:ρ (.tmp 2)=.pointer (some ⟨w.heap.size,0,none⟩):=hr _
  have c0:=c.own 0 0
  have c1:=c.own 0 1
  have c2:=c.own 0 2
  have c3:=c.own 0 3
  have c4:=c.own 0 4
  have c5:=c.own 0 5
  have c6:=c.own 0 6
  clear c hr
  go_simp)):p:=h
theorem ck_rest (w:World):K_ 16 #[.agg #[O 0,O 1099511627776,O 0,O 0,O 0,O 0,O 0]] w fun e w'=>e=.returned (O 0)∧Ext w w':=k_Check 0 1099511627776 0 0 0 0 0 w
theorem ck_fast (w:World):K_ 16 #[.agg #[O 0,O 1099511627776,O 0,O 0,O 0,O 68719476736,O 0]] w fun e w'=>e=.returned (O 0)∧Ext w w':=k_Check 0 1099511627776 0 0 0 68719476736 0 w
theorem mv_ok {p:Nat} {w:World} (hb:(BF.own [O 0,O 0,O 0,O 0,O 0,O 0,O 0,O 0,O 0,O 0,O 0,O 0]).p p w):K_ 56 #[.agg #[O 0,O 1099511627776,O 0,O 0,O 0,O 0,O 0],O 0,.pointer (some ⟨p,0,none⟩)] w fun e w'=>∃t,e=.returned t∧t=O 0∧GB p w w'∧(BF.own [O 1099511627776,O 1099511627776,O 0,O 0,O 0,O 0,O 0,O 0,O 0,O 0,O 0,O 0]).p p w':=(k_moveRest p w hb).mono fun e w' ⟨h1,h2,h3⟩=>⟨_,h1,rfl,h2,h3⟩
theorem k_MoveRange (w:World):K_ 20 #[.agg #[O 0,O 1099511627776,O 0,O 0,O 0,O 0,O 0],O 5000000000000001] w fun e w'=>e=.returned (.tuple #[.agg #[O 0,O 0,O 0,O 0,O 0,O 0],.agg #[O 0,O 0,O 0,O 0,O 0,O 0],O 16])∧Ext w w':=by
 have I0:KBd w [] w:=⟨Ext.refl w,trivial,by simp,by simp⟩
 have I:=((I0.new [O 0,O 1099511627776,O 0,O 0,O 0,O 0,O 0] 52 (by simp)).new [O 0,O 0,O 0,O 0,O 0,O 0] 32 (by simp)).new [O 0,O 0,O 0,O 0,O 0,O 0] 32 (by simp)
 simp only[World.size_alloc,List.nil_append,List.cons_append]at I
 clear I0
 go_enter Tryz.func20,Tryz.ntmps20
 go_upto_region 1 with fail
 refine rB [] [] [.eq (.agg #[O 0,O 1099511627776,O 0,O 0,O 0,O 0,O 0]),.eq (O (0)),.eq (O (0))] [2] I (fun hc=>⟨?_,ob_call (fun v=>[v 0]) hc rfl fun vs gs w1 c=>eqc1 (c.v 0) (calls_eq (ck_rest w1)),ob_cp 1 hc (.inr rfl),trivial⟩) fun vs W=>tl ?_
 ·exact T_KB16_1
 clear I
 intro I
 go_upto_region 4 with fail
 refine rB [] [] [.eq (O (5000000000000001)),.eq (.bool false),.eq (.bool false),.eq (O (5000000000000001)),.eq (.bool true),.eq (.bool true)] [5] I (fun hc=>⟨ob_mv hc (.inl rfl),oTN 17 0 (.const (O (-5000000000000000))) (O (-5000000000000000)) hc (hs:=c_20),ob_cp 1 hc (.inl rfl),ob_mv hc (.inl rfl),oTN 20 3 (.const (O 5000000000000000)) (O 5000000000000000) hc (hs:=c_20),ob_pickF (some 2) (some 4) hc rfl,trivial⟩) fun vs W=>tl ?_
 clear I
 intro I
 go_upto_region 5 with fail
 refine rB [[],[(2,.own [O 0,O 0,O 0,O 0,O 0,O 0])],[(3,.own [O 0,O 0,O 0,O 0,O 0,O 0])]] [] [.eq (.agg #[O 0,O 0,O 0,O 0,O 0,O 0]),.eq (.agg #[O 0,O 0,O 0,O 0,O 0,O 0]),.any,.any,.eq (O (16))] [4] I (fun hc=>⟨ob_k (u:=.agg #[O 0,O 0,O 0,O 0,O 0,O 0]) hc,ob_k (u:=.agg #[O 0,O 0,O 0,O 0,O 0,O 0]) hc,ob_putV (n:=1) rfl (some 0) hc rfl rfl,ob_putV (n:=2) rfl (some 1) hc rfl rfl,ob_mv hc (.inr rfl),trivial⟩) fun vs W=>tl ?_
 clear I
 intro I
 have d0:=I.own 1 0
 have f0:=I.own 2 0
 have d1:=I.own 1 1
 have f1:=I.own 2 1
 have d2:=I.own 1 2
 have f2:=I.own 2 2
 have d3:=I.own 1 3
 have f3:=I.own 2 3
 have d4:=I.own 1 4
 have f4:=I.own 2 4
 have d5:=I.own 1 5
 have f5:=I.own 2 5
 have hE:=I.e
 clear I
 go_wp2_with fail
 refine bodyPost_ret (v:=.tuple #[.agg #[O 0,O 0,O 0,O 0,O 0,O 0],.agg #[O 0,O 0,O 0,O 0,O 0,O 0],O 16]) ?_ rfl ⟨rfl,hE⟩
 exact T_KB16_4
theorem k_MoveFast (w:World):K_ 20 #[.agg #[O 0,O 1099511627776,O 0,O 0,O 0,O 68719476736,O 0],O 0] w fun e w'=>e=.returned (.tuple #[.agg #[O 0,O 0,O 0,O 0,O 0,O 0],.agg #[O 0,O 0,O 0,O 0,O 0,O 0],O 24])∧Ext w w':=by
 have I0:KBd w [] w:=⟨Ext.refl w,trivial,by simp,by simp⟩
 have I:=((I0.new [O 0,O 1099511627776,O 0,O 0,O 0,O 68719476736,O 0] 52 (by simp)).new [O 0,O 0,O 0,O 0,O 0,O 0] 32 (by simp)).new [O 0,O 0,O 0,O 0,O 0,O 0] 32 (by simp)
 simp only[World.size_alloc,List.nil_append,List.cons_append]at I
 clear I0
 go_enter Tryz.func20,Tryz.ntmps20
 go_upto_region 1 with fail
 refine rB [] [] [.eq (.agg #[O 0,O 1099511627776,O 0,O 0,O 0,O 68719476736,O 0]),.eq (O (0)),.eq (O (0))] [2] I (fun hc=>⟨?_,ob_call (fun v=>[v 0]) hc rfl fun vs gs w1 c=>eqc1 (c.v 0) (calls_eq (ck_fast w1)),ob_cp 1 hc (.inr rfl),trivial⟩) fun vs W=>tl ?_
 ·exact T_KB16_3
 clear I
 intro I
 go_upto_region 4 with fail
 refine rB [] [] [.eq (O (0)),.eq (.bool false),.eq (.bool false),.eq (O (0)),.eq (.bool false),.eq (.bool false)] [5] I (fun hc=>⟨ob_mv hc (.inl rfl),oTN 17 0 (.const (O (-5000000000000000))) (O (-5000000000000000)) hc (hs:=c_20),ob_cp 1 hc (.inl rfl),ob_mv hc (.inl rfl),oTN 20 3 (.const (O 5000000000000000)) (O 5000000000000000) hc (hs:=c_20),ob_pickF (some 2) (some 4) hc rfl,trivial⟩) fun vs W=>tl ?_
 clear I
 intro I
 go_upto_region 6 with fail
 refine rB [] [⟨0,none,.own [O 0,O 0,O 0,O 0,O 0,O 0,O 0,O 0,O 0,O 0,O 0,O 0],.own [O 0,O 0,O 0,O 0,O 0,O 0,O 0,O 0,O 0,O 0,O 0,O 0]⟩] [] [] I (fun hc=>⟨ob_new (n:=3) [O 0,O 0,O 0,O 0,O 0,O 0,O 0,O 0,O 0,O 0,O 0,O 0] 98 rfl hc rfl rfl rfl,trivial⟩) fun g8 vs W=>tl ?_
 clear I
 intro I
 go_upto_region 7 with fail
 refine rB [] [] [.eq (.agg #[O 0,O 1099511627776,O 0,O 0,O 0,O 68719476736,O 0]),.eq (O (0)),.eq (O (24)),.eq (O (24))] [3] I (fun hc=>⟨?_,ob_mv hc (.inl rfl),ob_call (fun v=>[v 0,v 1,.pointer (some ⟨g8,0,none⟩)]) hc rfl fun vs gs w1 c=>eqc3l (c.v 0) (c.v 1) rfl (calls_eq (k_moveFast _ w1)),ob_cp 2 hc (.inr rfl),trivial⟩) fun vs W=>tl ?_
 ·exact T_KB16_3
 exact T_KB16_2
theorem k_MoveFar (w:World):K_ 20 #[.agg #[O 0,O 1099511627776,O 0,O 0,O 0,O 0,O 0],O 2160000000000000] w fun e w'=>e=.returned (.tuple #[.agg #[O 0,O 0,O 0,O 0,O 0,O 0],.agg #[O 0,O 0,O 0,O 0,O 0,O 0],O 24])∧Ext w w':=by
 have I0:KBd w [] w:=⟨Ext.refl w,trivial,by simp,by simp⟩
 have I:=((I0.new [O 0,O 1099511627776,O 0,O 0,O 0,O 0,O 0] 52 (by simp)).new [O 0,O 0,O 0,O 0,O 0,O 0] 32 (by simp)).new [O 0,O 0,O 0,O 0,O 0,O 0] 32 (by simp)
 simp only[World.size_alloc,List.nil_append,List.cons_append]at I
 clear I0
 go_enter Tryz.func20,Tryz.ntmps20
 go_upto_region 1 with fail
 refine rB [] [] [.eq (.agg #[O 0,O 1099511627776,O 0,O 0,O 0,O 0,O 0]),.eq (O (0)),.eq (O (0))] [2] I (fun hc=>⟨?_,ob_call (fun v=>[v 0]) hc rfl fun vs gs w1 c=>eqc1 (c.v 0) (calls_eq (ck_rest w1)),ob_cp 1 hc (.inr rfl),trivial⟩) fun vs W=>tl ?_
 ·exact T_KB16_1
 clear I
 intro I
 go_upto_region 4 with fail
 refine rB [] [] [.eq (O (2160000000000000)),.eq (.bool false),.eq (.bool false),.eq (O (2160000000000000)),.eq (.bool false),.eq (.bool false)] [5] I (fun hc=>⟨ob_mv hc (.inl rfl),oTN 17 0 (.const (O (-5000000000000000))) (O (-5000000000000000)) hc (hs:=c_20),ob_cp 1 hc (.inl rfl),ob_mv hc (.inl rfl),oTN 20 3 (.const (O 5000000000000000)) (O 5000000000000000) hc (hs:=c_20),ob_pickF (some 2) (some 4) hc rfl,trivial⟩) fun vs W=>tl ?_
 clear I
 intro I
 go_upto_region 6 with fail
 refine rB [] [⟨0,none,.own [O 0,O 0,O 0,O 0,O 0,O 0,O 0,O 0,O 0,O 0,O 0,O 0],.own [O 0,O 0,O 0,O 0,O 0,O 0,O 0,O 0,O 0,O 0,O 0,O 0]⟩] [] [] I (fun hc=>⟨ob_new (n:=3) [O 0,O 0,O 0,O 0,O 0,O 0,O 0,O 0,O 0,O 0,O 0,O 0] 98 rfl hc rfl rfl rfl,trivial⟩) fun g8 vs W=>tl ?_
 clear I
 intro I
 go_upto_region 7 with fail
 refine rB [] [] [.eq (.agg #[O 0,O 1099511627776,O 0,O 0,O 0,O 0,O 0]),.eq (O (2160000000000000)),.eq (O (24)),.eq (O (24))] [3] I (fun hc=>⟨?_,ob_mv hc (.inl rfl),ob_call (fun v=>[v 0,v 1,.pointer (some ⟨g8,0,none⟩)]) hc rfl fun vs gs w1 c=>eqc3l (c.v 0) (c.v 1) rfl (calls_eq (k_moveFar _ w1)),ob_cp 2 hc (.inr rfl),trivial⟩) fun vs W=>tl ?_
 ·exact T_KB16_1
 exact T_KB16_2
theorem k_MoveRest (w:World):K_ 20 #[.agg #[O 0,O 1099511627776,O 0,O 0,O 0,O 0,O 0],O 0] w fun e w'=>e=.returned (.tuple #[.agg #[O 1099511627776,O 1099511627776,O 0,O 0,O 0,O 0],.agg #[O 0,O 0,O 0,O 0,O 0,O 0],O 0])∧Ext w w':=by
 have I0:KBd w [] w:=⟨Ext.refl w,trivial,by simp,by simp⟩
 have I:=((I0.new [O 0,O 1099511627776,O 0,O 0,O 0,O 0,O 0] 52 (by simp)).new [O 0,O 0,O 0,O 0,O 0,O 0] 32 (by simp)).new [O 0,O 0,O 0,O 0,O 0,O 0] 32 (by simp)
 simp only[World.size_alloc,List.nil_append,List.cons_append]at I
 clear I0
 go_enter Tryz.func20,Tryz.ntmps20
 go_upto_region 1 with fail
 refine rB [] [] [.eq (.agg #[O 0,O 1099511627776,O 0,O 0,O 0,O 0,O 0]),.eq (O (0)),.eq (O (0))] [2] I (fun hc=>⟨?_,ob_call (fun v=>[v 0]) hc rfl fun vs gs w1 c=>eqc1 (c.v 0) (calls_eq (ck_rest w1)),ob_cp 1 hc (.inr rfl),trivial⟩) fun vs W=>tl ?_
 ·exact T_KB16_1
 clear I
 intro I
 go_upto_region 4 with fail
 refine rB [] [] [.eq (O (0)),.eq (.bool false),.eq (.bool false),.eq (O (0)),.eq (.bool false),.eq (.bool false)] [5] I (fun hc=>⟨ob_mv hc (.inl rfl),oTN 17 0 (.const (O (-5000000000000000))) (O (-5000000000000000)) hc (hs:=c_20),ob_cp 1 hc (.inl rfl),ob_mv hc (.inl rfl),oTN 20 3 (.const (O 5000000000000000)) (O 5000000000000000) hc (hs:=c_20),ob_pickF (some 2) (some 4) hc rfl,trivial⟩) fun vs W=>tl ?_
 clear I
 intro I
 go_upto_region 6 with fail
 refine rB [] [⟨0,none,.own [O 0,O 0,O 0,O 0,O 0,O 0,O 0,O 0,O 0,O 0,O 0,O 0],.own [O 0,O 0,O 0,O 0,O 0,O 0,O 0,O 0,O 0,O 0,O 0,O 0]⟩] [] [] I (fun hc=>⟨ob_new (n:=3) [O 0,O 0,O 0,O 0,O 0,O 0,O 0,O 0,O 0,O 0,O 0,O 0] 98 rfl hc rfl rfl rfl,trivial⟩) fun g8 vs W=>tl ?_
 clear I
 intro I
 go_upto_region 7 with fail
 refine rB [[],[],[],[(2,.own [O 1099511627776,O 1099511627776,O 0,O 0,O 0,O 0,O 0,O 0,O 0,O 0,O 0,O 0])]] [] [.eq (.agg #[O 0,O 1099511627776,O 0,O 0,O 0,O 0,O 0]),.eq (O (0)),.eq (O (0)),.eq (O (0))] [3] I (fun hc=>⟨?_,ob_mv hc (.inl rfl),ob_callB (n:=3) 0 g8 (fun v=>[v 0,v 1,.pointer (some ⟨g8,0,none⟩)]) rfl hc rfl fun vs gs w1 c hb=>eqc3l (c.v 0) (c.v 1) rfl (mv_ok hb),ob_cp 2 hc (.inr rfl),trivial⟩) fun vs W=>tl ?_
 ·exact T_KB16_1
 clear I
 intro I
 go_upto_region 10 with fail
 refine rB [[],[(4,.own [O 1099511627776,O 1099511627776,O 0,O 0,O 0,O 0])],[(5,.own [O 0,O 0,O 0,O 0,O 0,O 0])]] [] [.eq (.pointer (some ⟨g8,0,none⟩)),.eq (.agg #[O 1099511627776,O 1099511627776,O 0,O 0,O 0,O 0]),.eq (.pointer (some ⟨g8,6,none⟩)),.eq (.agg #[O 0,O 0,O 0,O 0,O 0,O 0]),.any,.any,.eq (O (0))] [6] I (fun hc=>⟨oNN (.tmp 8) (.pointer (some ⟨g8,0,none⟩)) (.const (O 0)) (O 0) hc,ob_ld6 (x:=.tmp 33) (g:=g8) (f:=0) (some 0) hc rfl fun vs gs w1 c=>⟨c.own 3 0,c.own 3 1,c.own 3 2,c.own 3 3,c.own 3 4,c.own 3 5⟩,oNN (.tmp 8) (.pointer (some ⟨g8,0,none⟩)) (.const (O 1)) (O 1) hc,ob_ld6 (x:=.tmp 35) (g:=g8) (f:=6) (some 2) hc rfl fun vs gs w1 c=>⟨c.own 3 6,c.own 3 7,c.own 3 8,c.own 3 9,c.own 3 10,c.own 3 11⟩,ob_putV (n:=1) rfl (some 1) hc rfl rfl,ob_putV (n:=2) rfl (some 3) hc rfl rfl,ob_mv hc (.inr rfl),trivial⟩) fun vs W=>tl ?_
 clear I
 intro I
 have d0:=I.own 1 0
 have f0:=I.own 2 0
 have d1:=I.own 1 1
 have f1:=I.own 2 1
 have d2:=I.own 1 2
 have f2:=I.own 2 2
 have d3:=I.own 1 3
 have f3:=I.own 2 3
 have d4:=I.own 1 4
 have f4:=I.own 2 4
 have d5:=I.own 1 5
 have f5:=I.own 2 5
 have hE:=I.e
 clear I
 go_wp2_with fail
 refine bodyPost_ret (v:=.tuple #[.agg #[O 1099511627776,O 1099511627776,O 0,O 0,O 0,O 0],.agg #[O 0,O 0,O 0,O 0,O 0,O 0],O 0]) ?_ rfl ⟨rfl,hE⟩
 exact T_KB16_4
theorem cutR {c:Code} {P:Program} {Q:Exit→Act→World→Prop} {a:Act} {w:World} (R:Act→Act→World→Prop) (h:c.wp P (fun e a' w'=>e=.normal∧R a a' w') a w) (hq:∀a' w',R a a' w'→Q .normal a' w'):c.wp P Q a w:=wp_mono h fun e a' w' ⟨h1,h2⟩=>by subst h1;exact hq a' w' h2
theorem kb_one {w W:World} {g:Nat} {l:List Value} (hE:Ext w W) (hb:(BF.own l).p g W) (hg:w.heap.size≤g):KBd w [(g,BF.own l)] W:=⟨hE,Bxs.of (by intro x hx;simp at hx;subst hx;exact hb),by simp,by intro x hx;simp at hx;subst hx;exact hg⟩
theorem own_stage (W:World) {W':World} {g:Nat} (l:List Value) (T:TypeId) (hg:g=W.heap.size) (hl:∀v∈l,∀z,v≠ .int .u32 z) (hE:Ext (W.alloc (.cells l.toArray T)) W'):(BF.own l).p g W':=by
 subst hg
 exact(BF.own l).ext _ _ _ (own_new W l T hl) hE
theorem mk_u32 (n:Nat) (h:n≤1000) (w:World):(Instr.makeSlice 22 (O (n:Int)) (O (n:Int))).run Tryz.prog w=.ok (.slice (some ⟨w.heap.size,0,none⟩) n n) (w.alloc (.cells (madeCells #[.int .u32 0] n) 54)):=run_make_row' 22 54 (.int .u32 0) 4 Tryz.underlying22 c_3 rfl .i64 .i64 n (by omega) (by omega) w
theorem mk_cell (n i:Nat) (h:i<n):(madeCells #[.int .u32 0] n)[i]? =some (.int .u32 0):=by
 unfold madeCells
 simp[h,Nat.mod_one]
structure C3 (w0:World) (g b1 b2:Nat) (l:List Value) (f1 f2:Nat→Int) (W:World):Prop where
 e:Ext w0 W
 b:(BF.own l).p g W
 r1:∀i,i<65→W.cell? ⟨b1,i,none⟩=some (.int .u32 (f1 i))
 r2:∀i,i<66→W.cell? ⟨b2,i,none⟩=some (.int .u32 (f2 i))
theorem C3.drew {w0 W:World} {g b1 b2:Nat} {l:List Value} {f1 f2:Nat→Int} (h:C3 w0 g b1 b2 l f1 f2 W):C3 w0 g b1 b2 l f1 f2 W.drew:=
 ⟨h.e.trans (Ext.refl W).drew,(BF.own l).ext _ _ _ h.b (Ext.refl W).drew,h.r1,h.r2⟩
theorem own_far {W:World} {g b i:Nat} {l:List Value} {z:Int} (h:(BF.own l).p g W) (hb:b≠g):(BF.own l).p g (W.setCell ⟨b,i,none⟩ (.int .u32 z)):=by
 obtain⟨h1,h2,h3,h4⟩:=h
 have hne:∀o:Nat,¬((⟨g,o,none⟩:Addr)=⟨b,i,none⟩):=fun o e=>hb (congrArg Addr.block e).symm
 refine⟨fun j u hu=> ?_,fun o=>by rw[World.frozen?_setCell];exact h2 o,fun o z e=> ?_,by rw[World.size_setCell];exact h4⟩
 ·rw[cell_sc,if_neg (hne j)];exact h1 j u hu
 ·rw[cell_sc,if_neg (hne o)]at e;exact h3 o z e
theorem cell_put {W:World} {b i n:Nat} {f:Nat→Int} (h:∀i,i<n→W.cell? ⟨b,i,none⟩=some (.int .u32 (f i))) (hi:i<n) (j:Nat) (hj:j<n):(W.setCell ⟨b,i,none⟩ (.int .u32 1)).cell? ⟨b,j,none⟩=some (.int .u32 (if j=i then 1 else f j)):=by
 rw[cell_sc]
 by_cases e:j=i
 ·subst e;rw[if_pos rfl,if_pos rfl,h j hj];rfl
 ·rw[if_neg (by simp[e]),if_neg e];exact h j hj
theorem cell_far {W:World} {b b' i n:Nat} {f:Nat→Int} (h:∀i,i<n→W.cell? ⟨b',i,none⟩=some (.int .u32 (f i))) (hb:b≠b') (j:Nat) (hj:j<n):(W.setCell ⟨b,i,none⟩ (.int .u32 1)).cell? ⟨b',j,none⟩=some (.int .u32 (f j)):=by
 rw[cell_sc,if_neg (fun e=>hb (congrArg Addr.block e).symm)]
 exact h j hj
theorem C3.set1 {w0 W:World} {g b1 b2:Nat} {l:List Value} {f1 f2:Nat→Int} {i:Nat} (h1:w0.heap.size≤b1) (n1:b1≠b2) (n2:b1≠g) (hi:i<65) (h:C3 w0 g b1 b2 l f1 f2 W):C3 w0 g b1 b2 l (fun j=>if j=i then 1 else f1 j) f2 (W.setCell ⟨b1,i,none⟩ (.int .u32 1)):=
 ⟨h.e.setCell (p:=⟨b1,i,none⟩) h1 _,own_far h.b n2,cell_put h.r1 hi,cell_far h.r2 n1⟩
theorem C3.set2 {w0 W:World} {g b1 b2:Nat} {l:List Value} {f1 f2:Nat→Int} {i:Nat} (h2:w0.heap.size≤b2) (n1:b1≠b2) (n3:b2≠g) (hi:i<66) (h:C3 w0 g b1 b2 l f1 f2 W):C3 w0 g b1 b2 l f1 (fun j=>if j=i then 1 else f2 j) (W.setCell ⟨b2,i,none⟩ (.int .u32 1)):=
 ⟨h.e.setCell (p:=⟨b2,i,none⟩) h2 _,own_far h.b n3,cell_far h.r1 (Ne.symm n1),cell_put h.r2 hi⟩
structure LongF (A B:Nat):Prop where
 a:dig A=(List.range 65).map fun i=>if i=64 then 1 else 0
 b:dig B=(List.range 66).map fun i=>if i=65∨i=0 then 1 else 0
 g:Nat.gcd A B=1
theorem long_ex:∃A B,LongF A B:=⟨2^2048,2^2080+1,by kernel_rfl,by kernel_rfl,by kernel_rfl⟩
theorem lim_of {W:World} {b n m:Nat} {f:Nat→Int} (hb:b<W.heap.size) (hn:n≤1000) (h:∀i,i<n→W.cell? ⟨b,i,none⟩=some (.int .u32 (f i))) (e:dig m=(List.range n).map f):Lim W (.slice (some ⟨b,0,none⟩) n n) (dig m):=by
 have hl:(dig m).length=n:=by rw[e];simp
 refine⟨dig_lb m,.inr ⟨b,0,n,by rw[hl],by omega,⟨by omega,by omega⟩,hb,fun i hi=> ?_⟩⟩
 rw[hl]at hi
 rw[Nat.zero_add,h i hi,e]
 simp[List.getD,hi]
theorem C3.fin {w0 W:World} {g b1 b2:Nat} {l:List Value} {f1 f2 g1 g2:Nat→Int} (h:C3 w0 g b1 b2 l f1 f2 W) (e1:∀i,f1 i=g1 i) (e2:∀i,f2 i=g2 i):C3 w0 g b1 b2 l g1 g2 W:=by rw[←funext e1, ←funext e2];exact h
def F1 (i:Nat):Int:=if i=64 then 1 else 0
def F2 (i:Nat):Int:=if i=65∨i=0 then 1 else 0
theorem fin3 {w0 W:World} {g b1 b2:Nat} {l:List Value} {f1 f2:Nat→Int} (h:C3 w0 g b1 b2 l f1 f2 W) (e1:∀i,f1 i=F1 i:=by intro i;rfl) (e2:∀i,f2 i=F2 i:=by intro i;unfold F2;(repeat' split)<;>first|rfl|omega):C3 w0 g b1 b2 l F1 F2 W.drew:=(h.fin e1 e2).drew
theorem C3.kbd {A B:Nat} (hL:LongF A B) {w0 W:World} {g b1 b2:Nat} (hg:w0.heap.size≤g) (h:C3 w0 g b1 b2 [.bool false,.slice (some ⟨b1,0,none⟩) 65 65,.bool false,.slice (some ⟨b2,0,none⟩) 66 66] F1 F2 W):KBd w0 [(g,BF.pat (A:Int) (B:Int))] W:=by
 have hl1:=World.block_lt_of_cell? W ⟨b1,0,none⟩ (h.r1 0 (by decide))
 have hl2:=World.block_lt_of_cell? W ⟨b2,0,none⟩ (h.r2 0 (by decide))
 have l1:=lim_of (m:=A) hl1 (by decide) h.r1 (by exact hL.a)
 have l2:=lim_of (m:=B) hl2 (by decide) h.r2 (by exact hL.b)
 refine⟨h.e,⟨own_pat h.b ⟨_,by rw[decide_eq_false (by omega)],l1⟩ ⟨_,by rw[decide_eq_false (by omega)],l2⟩,trivial⟩,by simp,fun x hx=> ?_⟩
 rw[List.mem_singleton.1 hx];exact hg
theorem k_long {A B:Nat} (hL:LongF A B) (w:World) (v:Value) (h:PairV w v (A:Int) (B:Int)):K_ 18 #[O 0,v] w fun e w'=>e=.returned (.tuple #[.agg #[O 0,O 0],O 4])∧Ext w w':=by
 refine k_SolveMany v 0 (A:Int) (B:Int) w h (fun w1 u hu=> ?_) ?_
 ·obtain⟨s,x,t,z,rfl,⟨x',e1,k1⟩,⟨z',e2,k2⟩⟩:=hu
  cases e1;cases e2
  rw[decide_eq_false (by omega),decide_eq_false (by omega)]
  exact z_fCheckS _ false A B w1 ⟨_,_,rfl,k1,k2⟩ (fun _=>rfl) (by unfold Small;rw[hL.a];simp) (by unfold Small;rw[hL.b];simp) (Nat.pos_of_ne_zero (fun e=>by have:=hL.g;rw[e,Nat.gcd_zero_right]at this;have h2:=hL.a;rw[this]at h2;exact absurd (congrArg List.length h2) (by decide))) hL.g
 ·rw[Int.natAbs_natCast,hL.b];simp
end Go.Proofs.YtaoioncjmfcolaaGreat
