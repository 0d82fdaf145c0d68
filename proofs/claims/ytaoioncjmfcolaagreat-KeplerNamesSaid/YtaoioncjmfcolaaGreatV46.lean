/- KeplerNames: the law. -/
import Derived.Test.YtaoioncjmfcolaaGreatV45
import Derived.Test.YtaoioncjmfcolaaGreatRows
set_option linter.unusedSimpArgs false
set_option linter.unusedVariables false
set_option maxRecDepth 100000
set_option maxHeartbeats 4000000
namespace Go.Proofs.YtaoioncjmfcolaaGreat
open Go.RowKit
theorem T_KB19_1 {p:Prop} (h:p:=by
 exact ob_eq (u:=.agg #[O 0,O 1099511627776,O 0,O 0,O 0,O 68719476736,O 0]) hc (fun vs gs w1 ρ hr c=>by
  have e1:ρ (.tmp 16)=.pointer (some ⟨g16,0,none⟩):=hr _
  have c0:=c.own 8 0
  have c1:=c.own 8 1
  have c2:=c.own 8 2
  have c3:=c.own 8 3
  have c4:=c.own 8 4
  have c5:=c.own 8 5
  have c6:=c.own 8 6
  clear c hr
  go_simp)):p:=h
theorem ck_0 (w:World):K_ 16 #[.agg #[O 0,O 0,O 0,O 0,O 0,O 0,O 0]] w fun e w'=>e=.returned (O 8)∧Ext w w':=k_Check 0 0 0 0 0 0 0 w
theorem ck_1 (w:World):K_ 16 #[.agg #[O 0,O 1,O 0,O 0,O 0,O 1099511627777,O 0]] w fun e w'=>e=.returned (O 8)∧Ext w w':=k_Check 0 1 0 0 0 1099511627777 0 w
theorem ck_2 (w:World):K_ 16 #[.agg #[O 0,O 8796093022209,O 0,O 0,O 0,O 0,O 0]] w fun e w'=>e=.returned (O 8)∧Ext w w':=k_Check 0 8796093022209 0 0 0 0 0 w
theorem ck_3 (w:World):K_ 16 #[.agg #[O 5000000000000001,O 1,O 0,O 0,O 0,O 0,O 0]] w fun e w'=>e=.returned (O 8)∧Ext w w':=k_Check 5000000000000001 1 0 0 0 0 0 w
theorem law_keplerNames (w:World):K_ 4 #[] w fun e w'=>e=.returned (.bool true)∧Ext w w':=by
 have I:KBd w [] w:=⟨Ext.refl w,trivial,by simp,by simp⟩
 obtain⟨LA,LB,hL⟩:=long_ex
 obtain⟨N,hN⟩:∃N:Int,(LA:Int)=N:=⟨_,rfl⟩
 obtain⟨D,hD⟩:∃D:Int,(LB:Int)=D:=⟨_,rfl⟩
 have hlong:∀(w1:World) (v:Value),PairV w1 v N D→K_ 18 #[O 0,v] w1 fun e w'=>e=.returned (.tuple #[.agg #[O 0,O 0],O 4])∧Ext w1 w':=fun w1 v h=>by
  subst hN hD
  exact k_long hL w1 v h
 have h65:∀w1:World,(Instr.makeSlice 22 (O 65) (O 65)).run Tryz.prog w1=.ok (.slice (some ⟨w1.heap.size,0,none⟩) 65 65) (w1.alloc (.cells (madeCells #[.int .u32 0] 65) 54)):=fun w1=>mk_u32 65 (by decide) w1
 have h66:∀w1:World,(Instr.makeSlice 22 (O 66) (O 66)).run Tryz.prog w1=.ok (.slice (some ⟨w1.heap.size,0,none⟩) 66 66) (w1.alloc (.cells (madeCells #[.int .u32 0] 66) 54)):=fun w1=>mk_u32 66 (by decide) w1
 have c65:=mk_cell 65
 have c66:=mk_cell 66
 have z65:(madeCells #[.int .u32 0] 65).size=65:=by unfold madeCells;simp
 generalize madeCells #[.int .u32 0] 65=A65 at*
 generalize madeCells #[.int .u32 0] 66=A66 at*
 go_enter Tryz.func4,Tryz.ntmps4
 go_upto_region 1 with fail
 refine rB [] [] [.eq (.agg #[O 0,O 0,O 0,O 0,O 0,O 0,O 0]),.eq (O 8),.eq (.bool true),.eq (.bool true),.eq (.agg #[O 1,O 0,O 0]),.eq (.agg #[O 0,O 1099511627777,O 0]),.eq (.agg #[O 0,O 1,O 0,O 0,O 0,O 1099511627777,O 0]),.eq (O 8),.eq (.bool true),.eq (.bool true),.eq (.bool true),.eq (.agg #[O 8796093022209,O 0,O 0]),.eq (.agg #[O 0,O 8796093022209,O 0,O 0,O 0,O 0,O 0]),.eq (O 8),.eq (.bool true),.eq (.bool true),.eq (.bool true),.eq (.agg #[O 1,O 0,O 0]),.eq (.agg #[O 5000000000000001,O 1,O 0,O 0,O 0,O 0,O 0]),.eq (O 8),.eq (.bool true),.eq (.bool true),.eq (.bool true),.eq (.agg #[O 0,O 1099511627776,O 0,O 0,O 0,O 0,O 0]),.eq (O 0),.eq (.bool true),.eq (.bool true),.eq (.bool true)] [27] I (fun hc=>⟨ob_k (u:=.agg #[O 0,O 0,O 0,O 0,O 0,O 0,O 0]) hc,ob_call (fun v=>[v 0]) hc rfl fun vs gs w1 c=>eqc1 (c.v 0) (calls_eq (ck_0 w1)),oTN 33 1 (.const (O 8)) (O 8) hc (hs:=c_6),ob_cp 2 hc (.inl rfl),oN (.const (O 1)) (O 1) hc,oNN (.const (O 0)) (O 0) (.const (O 1099511627777)) (O 1099511627777) hc,oTT 36 4 37 5 hc,ob_call (fun v=>[v 6]) hc rfl fun vs gs w1 c=>eqc1 (c.v 6) (calls_eq (ck_1 w1)),oTN 39 7 (.const (O 8)) (O 8) hc (hs:=c_6),ob_pickT (some 3) (some 8) hc rfl,ob_cp 9 hc (.inl rfl),oN (.const (O 8796093022209)) (O 8796093022209) hc,oT 43 11 hc,ob_call (fun v=>[v 12]) hc rfl fun vs gs w1 c=>eqc1 (c.v 12) (calls_eq (ck_2 w1)),oTN 45 13 (.const (O 8)) (O 8) hc (hs:=c_6),ob_pickT (some 10) (some 14) hc rfl,ob_cp 15 hc (.inl rfl),oN (.const (O 1)) (O 1) hc,oNT (.const (O 5000000000000001)) (O 5000000000000001) 49 17 hc,ob_call (fun v=>[v 18]) hc rfl fun vs gs w1 c=>eqc1 (c.v 18) (calls_eq (ck_3 w1)),oTN 51 19 (.const (O 8)) (O 8) hc (hs:=c_6),ob_pickT (some 16) (some 20) hc rfl,ob_cp 21 hc (.inl rfl),ob_call (fun v=>[]) hc rfl fun vs gs w1 c=>calls_eq (k_rest w1),ob_call (fun v=>[v 23]) hc rfl fun vs gs w1 c=>eqc1 (c.v 23) (calls_eq (ck_rest w1)),oTN 56 24 (.const (O 0)) (O 0) hc (hs:=c_6),ob_pickT (some 22) (some 25) hc rfl,ob_cp 26 hc (.inr rfl),trivial⟩) fun vs W=>tl ?_
 clear I
 intro I
 go_upto_region 2 with fail
 refine cutR (fun a a' w'=>∃(g2 b1 b2:Nat) (u60_ u62_ u63_:Value),a'=((((((a.put (some 59) (.slice (some ⟨b1,0,none⟩) 65 65)).put (some 60) u60_).put (some 61) (.slice (some ⟨b2,0,none⟩) 66 66)).put (some 62) u62_).put (some 63) u63_).put (some 2) (.pointer (some ⟨g2,0,none⟩)))∧KBd w [(g2,BF.own [.bool false,.slice (some ⟨b1,0,none⟩) 65 65,.bool false,.slice (some ⟨b2,0,none⟩) 66 66])] w'∧w.heap.size≤b1∧w.heap.size≤b2∧b1≠b2∧b1≠g2∧b2≠g2∧(∀i,i<65→w'.cell? ⟨b1,i,none⟩=some (.int .u32 0)∧w'.frozen? ⟨b1,i,none⟩=false)∧(∀i,i<66→w'.cell? ⟨b2,i,none⟩=some (.int .u32 0)∧w'.frozen? ⟨b2,i,none⟩=false)) ?_ ?_
 ·go_region
  all_goals refine⟨rfl,_,_,_,_,_,_,rfl, ?_⟩
  all_goals refine⟨kb_one ?_ ?_ (by have:=I.e.size;omega),by have:=I.e.size;omega,by have:=I.e.size;omega,by omega,by omega,by omega,fun i hi=>⟨?_, ?_⟩,fun i hi=>⟨?_, ?_⟩⟩
  all_goals have hE:=I.e
  all_goals clear I
  all_goals first
   | ((repeat(first|with_reducible exact Ext.refl _|with_reducible assumption|with_reducible refine Ext.alloc ?_ _|with_reducible refine Ext.drew ?_));done)
   | (simp[go_sem, ↓IntWalk.iteOmega,c65,c66,hi];done)
   |exact own_stage W _ _ rfl (by simp) (Ext.drew (Ext.refl _))
   |exact own_stage (W.alloc (.cells A65 54)) _ _ (by simp) (by simp) (Ext.drew (Ext.refl _))
   |exact own_stage ((W.alloc (.cells A65 54)).alloc (.cells A66 54)) _ _ (by simp) (by simp) (Ext.drew (Ext.refl _))
   |exact own_stage ((W.alloc (.cells A66 54)).alloc (.cells A65 54)) _ _ (by simp) (by simp) (Ext.drew (Ext.refl _))
   |exact own_stage W _ _ rfl (by simp) (Ext.drew (Ext.alloc (Ext.alloc (Ext.refl _) _) _))
   |exact own_stage (W.alloc (.cells A65 54)) _ _ (by simp) (by simp) (Ext.drew (Ext.alloc (Ext.refl _) _))
   |exact own_stage (W.alloc (.cells A66 54)) _ _ (by simp) (by simp) (Ext.drew (Ext.alloc (Ext.refl _) _))
 rintro a' W2 ⟨g2,b1,b2,u60_,u62_,u63_,rfl,I2,hb1,hb2,hb12,hb1g,hb2g,hc1,hc2⟩
 clear I h65 h66 c65 c66 z65
 try simp only[Act.put,List.setIfInBounds_toArray,List.set_cons_zero,List.set_cons_succ]
 go_upto_region 3 with fail
 refine cutR (fun a a' w'=>∃(u64_ u65_ u66_ u67_ u68_ u69_ u70_ u71_ u72_ u73_ u74_ u75_:Value),a'=((((((((((((a.put (some 64) u64_).put (some 65) u65_).put (some 66) u66_).put (some 67) u67_).put (some 68) u68_).put (some 69) u69_).put (some 70) u70_).put (some 71) u71_).put (some 72) u72_).put (some 73) u73_).put (some 74) u74_).put (some 75) u75_)∧C3 w g2 b1 b2 [.bool false,.slice (some ⟨b1,0,none⟩) 65 65,.bool false,.slice (some ⟨b2,0,none⟩) 66 66] F1 F2 w') ?_ ?_
 ·have s0:C3 w g2 b1 b2 [.bool false,.slice (some ⟨b1,0,none⟩) 65 65,.bool false,.slice (some ⟨b2,0,none⟩) 66 66] (fun _=>0) (fun _=>0) W2:=⟨I2.e,I2.b.1,fun i hi=>(hc1 i hi).1,fun i hi=>(hc2 i hi).1⟩
  obtain⟨k1,f1⟩:=hc1 64 (by decide)
  obtain⟨k2,f2⟩:=hc2 65 (by decide)
  obtain⟨k3,f3⟩:=hc2 0 (by decide)
  have e1:W2.cell? ⟨g2,1,none⟩=some (.slice (some ⟨b1,0,none⟩) 65 65):=s0.b.1 1 _ rfl
  have e3:W2.cell? ⟨g2,3,none⟩=some (.slice (some ⟨b2,0,none⟩) 66 66):=s0.b.1 3 _ rfl
  have n1:¬b1=b2:=hb12
  have n2:¬b1=g2:=hb1g
  have n3:¬b2=g2:=hb2g
  have n4:¬g2=b1:=fun h=>hb1g h.symm
  have n5:¬g2=b2:=fun h=>hb2g h.symm
  have n6:¬b2=b1:=fun h=>hb12 h.symm
  clear hc1 hc2 I2
  refine wp_region_noPanic ?_
  go_region_held3 (fun w'=>w'.cell? ⟨g2,1,none⟩=some (.slice (some ⟨b1,0,none⟩) 65 65)∧w'.cell? ⟨g2,3,none⟩=some (.slice (some ⟨b2,0,none⟩) 66 66)) (first|exact⟨e1,e3⟩|exact⟨(World.cell?_setCell_far _ _ _ _ n2).trans (And.left ‹_›),(World.cell?_setCell_far _ _ _ _ n2).trans (And.right ‹_›)⟩|exact⟨(World.cell?_setCell_far _ _ _ _ n3).trans (And.left ‹_›),(World.cell?_setCell_far _ _ _ _ n3).trans (And.right ‹_›)⟩) (fail)
  all_goals refine NoPanic.normal ⟨rfl,_,_,_,_,_,_,_,_,_,_,_,_,rfl, ?_⟩
  all_goals first|exact fin3 (C3.set1 hb1 hb12 hb1g (i:=64) (by decide) (C3.set2 hb2 hb12 hb2g (i:=65) (by decide) (C3.set2 hb2 hb12 hb2g (i:=0) (by decide) s0)))|exact fin3 (C3.set1 hb1 hb12 hb1g (i:=64) (by decide) (C3.set2 hb2 hb12 hb2g (i:=0) (by decide) (C3.set2 hb2 hb12 hb2g (i:=65) (by decide) s0)))|exact fin3 (C3.set2 hb2 hb12 hb2g (i:=65) (by decide) (C3.set1 hb1 hb12 hb1g (i:=64) (by decide) (C3.set2 hb2 hb12 hb2g (i:=0) (by decide) s0)))|exact fin3 (C3.set2 hb2 hb12 hb2g (i:=65) (by decide) (C3.set2 hb2 hb12 hb2g (i:=0) (by decide) (C3.set1 hb1 hb12 hb1g (i:=64) (by decide) s0)))|exact fin3 (C3.set2 hb2 hb12 hb2g (i:=0) (by decide) (C3.set1 hb1 hb12 hb1g (i:=64) (by decide) (C3.set2 hb2 hb12 hb2g (i:=65) (by decide) s0)))|exact fin3 (C3.set2 hb2 hb12 hb2g (i:=0) (by decide) (C3.set2 hb2 hb12 hb2g (i:=65) (by decide) (C3.set1 hb1 hb12 hb1g (i:=64) (by decide) s0)))
 rintro a' W3 ⟨u64_,u65_,u66_,u67_,u68_,u69_,u70_,u71_,u72_,u73_,u74_,u75_,rfl,h3⟩
 have I3:=C3.kbd hL (I2.ge _ (List.mem_singleton.2 rfl)) h3
 clear h3
 clear hc1 hc2 I2 hb1 hb2 hb12 hb1g hb2g
 rw[hN,hD]at I3
 clear hN hD hL
 replace I:=I3
 clear I3
 try simp only[Act.put,List.setIfInBounds_toArray,List.set_cons_zero,List.set_cons_succ]
 go_upto_region 4 with fail
 refine rB [] [⟨5,some 6,.own [O 0,O 0],(.own [O 0,O 0])⟩] [.pair (1) (1),.eq (.tuple #[.agg #[O 0,O 0],O 2]),.eq (.tuple #[.agg #[O 0,O 0],O 2]),.eq (.agg #[O 0,O 0]),.eq (O 2),.any,.any,.eq (O 2)] [7] I (fun hc=>⟨ob_call (fun v=>[O 1,O 1]) hc rfl fun vs gs w1 c=>k_part 1 1 1 1 w1 (by decide) (by decide) (by decide) (by decide) c_3 c_3,ob_call (fun v=>[O 0,v 0]) hc rfl fun vs gs w1 c=>calls_eq (so_4 w1 _ (c.v 0)),ob_cp 1 hc (.inl rfl),oT 76 2 hc,oT 76 2 hc,ob_new (n:=1) [O 0,O 0] 30 rfl hc rfl rfl rfl,ob_put2 (n:=1) 0 rfl (some 3) hc rfl,ob_cp 4 hc (.inr rfl),trivial⟩) fun g3 vs W=>tl ?_
 clear I
 intro I
 go_upto_region 5 with fail
 refine rB [] [⟨5,some 6,.own [O 0,O 0],(.own [O 0,O 0])⟩] [.pair ((-1)) (2),.eq (.tuple #[.agg #[O 0,O 0],O 2]),.eq (.tuple #[.agg #[O 0,O 0],O 2]),.eq (.agg #[O 0,O 0]),.eq (O 2),.any,.any,.eq (O 2)] [7] I (fun hc=>⟨ob_call (fun v=>[O (-1),O 2]) hc rfl fun vs gs w1 c=>k_part (-1) 2 (-1) 2 w1 (by decide) (by decide) (by decide) (by decide) c_3 c_3,ob_call (fun v=>[O 0,v 0]) hc rfl fun vs gs w1 c=>calls_eq (so_5 w1 _ (c.v 0)),ob_cp 1 hc (.inl rfl),oT 81 2 hc,oT 81 2 hc,ob_new (n:=2) [O 0,O 0] 30 rfl hc rfl rfl rfl,ob_put2 (n:=2) 0 rfl (some 3) hc rfl,ob_cp 4 hc (.inr rfl),trivial⟩) fun g5 vs W=>tl ?_
 clear I
 intro I
 go_upto_region 6 with fail
 refine rB [] [⟨5,some 6,.own [O 0,O 0],(.own [O 0,O 0])⟩] [.pair (1) (2),.eq (.tuple #[.agg #[O 0,O 0],O 2]),.eq (.tuple #[.agg #[O 0,O 0],O 2]),.eq (.agg #[O 0,O 0]),.eq (O 2),.any,.any,.eq (O 2)] [7] I (fun hc=>⟨ob_call (fun v=>[O 1,O 2]) hc rfl fun vs gs w1 c=>k_part 1 2 1 2 w1 (by decide) (by decide) (by decide) (by decide) c_3 c_3,ob_call (fun v=>[O 35184372088833,v 0]) hc rfl fun vs gs w1 c=>calls_eq (so_6 w1 _ (c.v 0)),ob_cp 1 hc (.inl rfl),oT 86 2 hc,oT 86 2 hc,ob_new (n:=3) [O 0,O 0] 30 rfl hc rfl rfl rfl,ob_put2 (n:=3) 0 rfl (some 3) hc rfl,ob_cp 4 hc (.inr rfl),trivial⟩) fun g7 vs W=>tl ?_
 clear I
 intro I
 go_upto_region 7 with fail
 refine rB [] [⟨5,some 6,.own [O 0,O 0],(.own [O 0,O 0])⟩] [.eq (.agg #[.bool false,.slice none 0 0,.bool false,.slice none 0 0]),.eq (.tuple #[.agg #[O 0,O 0],O 8]),.eq (.tuple #[.agg #[O 0,O 0],O 8]),.eq (.agg #[O 0,O 0]),.eq (O 8),.any,.any,.eq (O 8)] [7] I (fun hc=>⟨ob_k (u:=.agg #[.bool false,.slice none 0 0,.bool false,.slice none 0 0]) hc,ob_call (fun v=>[O 0,v 0]) hc rfl fun vs gs w1 c=>eqcr (c.v 0) (calls_eq (so_7 w1)),ob_cp 1 hc (.inl rfl),oT 91 2 hc,oT 91 2 hc,ob_new (n:=4) [O 0,O 0] 30 rfl hc rfl rfl rfl,ob_put2 (n:=4) 0 rfl (some 3) hc rfl,ob_cp 4 hc (.inr rfl),trivial⟩) fun g9 vs W=>tl ?_
 clear I
 intro I
 go_upto_region 8 with fail
 refine rB [] [⟨5,some 6,.own [O 0,O 0],(.own [O 0,O 0])⟩] [.pair N D,.eq (.tuple #[.agg #[O 0,O 0],O 4]),.eq (.tuple #[.agg #[O 0,O 0],O 4]),.eq (.agg #[O 0,O 0]),.eq (O 4),.any,.any,.eq (O 4)] [7] I (fun hc=>⟨ob_getPP g2 N D hc rfl fun vs gs w1 c=>c.b0 0,ob_call (fun v=>[O 0,v 0]) hc rfl fun vs gs w1 c=>calls_eq (hlong w1 _ (c.v 0)),ob_cp 1 hc (.inl rfl),oT 96 2 hc,oT 96 2 hc,ob_new (n:=5) [O 0,O 0] 30 rfl hc rfl rfl rfl,ob_put2 (n:=5) 0 rfl (some 3) hc rfl,ob_cp 4 hc (.inr rfl),trivial⟩) fun g11 vs W=>tl ?_
 clear I
 intro I
 go_upto_region 9 with fail
 refine rB [] [⟨6,some 8,.own [O 0,O 0,O 0,O 0,O 0,O 0],(.own [O 0,O 0,O 0,O 0,O 0,O 0])⟩,⟨7,some 9,.own [O 0,O 0,O 0,O 0,O 0,O 0],(.own [O 0,O 0,O 0,O 0,O 0,O 0])⟩] [.eq (.agg #[O 0,O 1099511627776,O 0,O 0,O 0,O 0,O 0]),.eq (.tuple #[.agg #[O 0,O 0,O 0,O 0,O 0,O 0],.agg #[O 0,O 0,O 0,O 0,O 0,O 0],O 16]),.eq (.tuple #[.agg #[O 0,O 0,O 0,O 0,O 0,O 0],.agg #[O 0,O 0,O 0,O 0,O 0,O 0],O 16]),.eq (.agg #[O 0,O 0,O 0,O 0,O 0,O 0]),.eq (.agg #[O 0,O 0,O 0,O 0,O 0,O 0]),.eq (O 16),.any,.any,.any,.any,.eq (O 16)] [10] I (fun hc=>⟨ob_call (fun v=>[]) hc rfl fun vs gs w1 c=>calls_eq (k_rest w1),ob_call (fun v=>[v 0,O 5000000000000001]) hc rfl fun vs gs w1 c=>eqc2 (c.v 0) (calls_eq (k_MoveRange w1)),ob_cp 1 hc (.inl rfl),oT 101 2 hc,oT 101 2 hc,oT 101 2 hc,ob_new (n:=6) [O 0,O 0,O 0,O 0,O 0,O 0] 32 rfl hc rfl rfl rfl,ob_new (n:=7) [O 0,O 0,O 0,O 0,O 0,O 0] 32 rfl hc rfl rfl rfl,ob_putV (n:=6) rfl (some 3) hc rfl rfl,ob_putV (n:=7) rfl (some 4) hc rfl rfl,ob_cp 5 hc (.inr rfl),trivial⟩) fun g13 g14 vs W=>tl ?_
 clear I
 intro I
 go_upto_region 10 with fail
 refine rB [] [⟨3,some 4,.own [O 0,O 0,O 0,O 0,O 0,O 0,O 0],(.own [O 0,O 1099511627776,O 0,O 0,O 0,O 68719476736,O 0])⟩] [.eq (.agg #[O 1099511627776,O 0,O 0]),.eq (.agg #[O 0,O 68719476736,O 0]),.eq (.agg #[O 0,O 1099511627776,O 0,O 0,O 0,O 68719476736,O 0])] [] I (fun hc=>⟨?_, ?_,oTT 107 0 108 1 hc,ob_new (n:=8) [O 0,O 0,O 0,O 0,O 0,O 0,O 0] 52 rfl hc rfl rfl rfl,ob_putV (n:=8) rfl (some 2) hc rfl rfl (hs:=by intro ρ w g h k hc hf;have e0:=hc 0 _ rfl;have e1:=hc 1 _ rfl;have e2:=hc 2 _ rfl;have e3:=hc 3 _ rfl;have e4:=hc 4 _ rfl;have e5:=hc 5 _ rfl;have e6:=hc 6 _ rfl;clear hc;go_simp;(try rfl)),trivial⟩) fun g16 vs W=>tl ?_
 ·exact ob_eq (u:=.agg #[O 1099511627776,O 0,O 0]) hc (fun vs gs w1 ρ hr c=>by
   have e0:ρ (.const (O 1099511627776))=O 1099511627776:=hr _
   have e1:ρ (.const (O 0))=O 0:=hr _
   clear c hr
   go_simp)
 ·exact ob_eq (u:=.agg #[O 0,O 68719476736,O 0]) hc (fun vs gs w1 ρ hr c=>by
   have e0:ρ (.const (O 0))=O 0:=hr _
   have e1:ρ (.const (O 68719476736))=O 68719476736:=hr _
   clear c hr
   go_simp)
 clear I
 intro I
 go_upto_region 11 with fail
 refine rB [] [⟨6,some 8,.own [O 0,O 0,O 0,O 0,O 0,O 0],(.own [O 0,O 0,O 0,O 0,O 0,O 0])⟩,⟨7,some 9,.own [O 0,O 0,O 0,O 0,O 0,O 0],(.own [O 0,O 0,O 0,O 0,O 0,O 0])⟩] [.eq (.agg #[O 0,O 1099511627776,O 0,O 0,O 0,O 68719476736,O 0]),.eq (.tuple #[.agg #[O 0,O 0,O 0,O 0,O 0,O 0],.agg #[O 0,O 0,O 0,O 0,O 0,O 0],O 24]),.eq (.tuple #[.agg #[O 0,O 0,O 0,O 0,O 0,O 0],.agg #[O 0,O 0,O 0,O 0,O 0,O 0],O 24]),.eq (.agg #[O 0,O 0,O 0,O 0,O 0,O 0]),.eq (.agg #[O 0,O 0,O 0,O 0,O 0,O 0]),.eq (O 24),.any,.any,.any,.any,.eq (O 24)] [10] I (fun hc=>⟨?_,ob_call (fun v=>[v 0,O 0]) hc rfl fun vs gs w1 c=>eqc2 (c.v 0) (calls_eq (k_MoveFast w1)),ob_cp 1 hc (.inl rfl),oT 110 2 hc,oT 110 2 hc,oT 110 2 hc,ob_new (n:=9) [O 0,O 0,O 0,O 0,O 0,O 0] 32 rfl hc rfl rfl rfl,ob_new (n:=10) [O 0,O 0,O 0,O 0,O 0,O 0] 32 rfl hc rfl rfl rfl,ob_putV (n:=9) rfl (some 3) hc rfl rfl,ob_putV (n:=10) rfl (some 4) hc rfl rfl,ob_cp 5 hc (.inr rfl),trivial⟩) fun g17 g18 vs W=>tl ?_
 ·exact T_KB19_1
 clear I
 intro I
 go_upto_region 12 with fail
 refine rB [] [⟨5,some 6,.own [O 0,O 0],(.own [O 0,O 0])⟩] [.eq (.agg #[O 0,O 1099511627776,O 0,O 0,O 0,O 68719476736,O 0]),.eq (.tuple #[.agg #[O 0,O 0],O 24]),.eq (.tuple #[.agg #[O 0,O 0],O 24]),.eq (.agg #[O 0,O 0]),.eq (O 24),.any,.any,.eq (O 24)] [7] I (fun hc=>⟨?_,ob_call (fun v=>[v 0]) hc rfl fun vs gs w1 c=>eqc1 (c.v 0) (calls_eq (fa_Period w1)),ob_cp 1 hc (.inl rfl),oT 116 2 hc,oT 116 2 hc,ob_new (n:=11) [O 0,O 0] 30 rfl hc rfl rfl rfl,ob_put2 (n:=11) 0 rfl (some 3) hc rfl,ob_cp 4 hc (.inr rfl),trivial⟩) fun g20 vs W=>tl ?_
 ·exact T_KB19_1
 clear I
 intro I
 go_upto_region 13 with fail
 refine rB [] [⟨6,some 8,.own [O 0,O 0,O 0,O 0,O 0,O 0],(.own [O 0,O 0,O 0,O 0,O 0,O 0])⟩,⟨7,some 9,.own [O 0,O 0,O 0,O 0,O 0,O 0],(.own [O 0,O 0,O 0,O 0,O 0,O 0])⟩] [.eq (.agg #[O 0,O 1099511627776,O 0,O 0,O 0,O 0,O 0]),.eq (.tuple #[.agg #[O 0,O 0,O 0,O 0,O 0,O 0],.agg #[O 0,O 0,O 0,O 0,O 0,O 0],O 24]),.eq (.tuple #[.agg #[O 0,O 0,O 0,O 0,O 0,O 0],.agg #[O 0,O 0,O 0,O 0,O 0,O 0],O 24]),.eq (.agg #[O 0,O 0,O 0,O 0,O 0,O 0]),.eq (.agg #[O 0,O 0,O 0,O 0,O 0,O 0]),.eq (O 24),.any,.any,.any,.any,.eq (O 24)] [10] I (fun hc=>⟨ob_call (fun v=>[]) hc rfl fun vs gs w1 c=>calls_eq (k_rest w1),ob_call (fun v=>[v 0,O 2160000000000000]) hc rfl fun vs gs w1 c=>eqc2 (c.v 0) (calls_eq (k_MoveFar w1)),ob_cp 1 hc (.inl rfl),oT 121 2 hc,oT 121 2 hc,oT 121 2 hc,ob_new (n:=12) [O 0,O 0,O 0,O 0,O 0,O 0] 32 rfl hc rfl rfl rfl,ob_new (n:=13) [O 0,O 0,O 0,O 0,O 0,O 0] 32 rfl hc rfl rfl rfl,ob_putV (n:=12) rfl (some 3) hc rfl rfl,ob_putV (n:=13) rfl (some 4) hc rfl rfl,ob_cp 5 hc (.inr rfl),trivial⟩) fun g22 g23 vs W=>tl ?_
 clear I
 intro I
 go_upto_region 14 with fail
 refine rB [] [⟨7,some 9,.own [O 0,O 0],(.own [O 0,O 0])⟩,⟨8,some 10,.own [O 0,O 0],(.own [O 0,O 0])⟩] [.eq (.agg #[O 1,O 0,O 0]),.eq (.agg #[O 0,O 1,O 0,O 0,O 0,O 0,O 0]),.eq (.tuple #[.agg #[O 0,O 0],.agg #[O 0,O 0],O 24]),.eq (.tuple #[.agg #[O 0,O 0],.agg #[O 0,O 0],O 24]),.eq (.agg #[O 0,O 0]),.eq (.agg #[O 0,O 0]),.eq (O 24),.any,.any,.any,.any,.eq (O 24)] [11] I (fun hc=>⟨oN (.const (O 1)) (O 1) hc,oT 128 0 hc,ob_call (fun v=>[v 1]) hc rfl fun vs gs w1 c=>eqc1 (c.v 1) (calls_eq (on_Shape w1)),ob_cp 2 hc (.inl rfl),oT 127 3 hc,oT 127 3 hc,oT 127 3 hc,ob_new (n:=14) [O 0,O 0] 30 rfl hc rfl rfl rfl,ob_new (n:=15) [O 0,O 0] 30 rfl hc rfl rfl rfl,ob_put2 (n:=14) 0 rfl (some 4) hc rfl,ob_put2 (n:=15) 0 rfl (some 5) hc rfl,ob_cp 6 hc (.inr rfl),trivial⟩) fun g25 g26 vs W=>tl ?_
 clear I
 intro I
 go_upto_region 15 with fail
 refine rB [] [⟨6,some 8,.own [O 0,O 0,O 0,O 0,O 0,O 0],(.own [O 1099511627776,O 1099511627776,O 0,O 0,O 0,O 0])⟩,⟨7,some 9,.own [O 0,O 0,O 0,O 0,O 0,O 0],(.own [O 0,O 0,O 0,O 0,O 0,O 0])⟩] [.eq (.agg #[O 0,O 1099511627776,O 0,O 0,O 0,O 0,O 0]),.eq (.tuple #[.agg #[O 1099511627776,O 1099511627776,O 0,O 0,O 0,O 0],.agg #[O 0,O 0,O 0,O 0,O 0,O 0],O 0]),.eq (.tuple #[.agg #[O 1099511627776,O 1099511627776,O 0,O 0,O 0,O 0],.agg #[O 0,O 0,O 0,O 0,O 0,O 0],O 0]),.eq (.agg #[O 1099511627776,O 1099511627776,O 0,O 0,O 0,O 0]),.eq (.agg #[O 0,O 0,O 0,O 0,O 0,O 0]),.eq (O 0),.any,.any,.any,.any,.eq (O 0)] [10] I (fun hc=>⟨ob_call (fun v=>[]) hc rfl fun vs gs w1 c=>calls_eq (k_rest w1),ob_call (fun v=>[v 0,O 0]) hc rfl fun vs gs w1 c=>eqc2 (c.v 0) (calls_eq (k_MoveRest w1)),ob_cp 1 hc (.inl rfl),oT 134 2 hc,oT 134 2 hc,oT 134 2 hc,ob_new (n:=16) [O 0,O 0,O 0,O 0,O 0,O 0] 32 rfl hc rfl rfl rfl,ob_new (n:=17) [O 0,O 0,O 0,O 0,O 0,O 0] 32 rfl hc rfl rfl rfl,ob_putV (n:=16) rfl (some 3) hc rfl rfl,ob_putV (n:=17) rfl (some 4) hc rfl rfl,ob_cp 5 hc (.inr rfl),trivial⟩) fun g28 g29 vs W=>tl ?_
 clear I
 intro I
 go_upto_region 16 with fail
 refine rB [] [] [.eq (.bool true),.eq (.bool true),.eq (.bool true),.eq (.bool true),.eq (.bool true),.eq (.bool true),.eq (.bool true),.eq (O 2),.eq (.bool true),.eq (.bool true),.eq (.bool true),.eq (O 2),.eq (.bool true),.eq (.bool true),.eq (.bool true),.eq (O 2),.eq (.bool true),.eq (.bool true),.eq (.bool true),.eq (O 8),.eq (.bool true),.eq (.bool true),.eq (.bool true),.eq (O 4),.eq (.bool true),.eq (.bool true),.eq (.bool true),.eq (O 16),.eq (.bool true),.eq (.bool true),.eq (.bool true),.eq (O 24),.eq (.bool true),.eq (.bool true),.eq (.bool true),.eq (O 24),.eq (.bool true),.eq (.bool true),.eq (.bool true)] [38] I (fun hc=>⟨ob_mv hc (.inl rfl),ob_call (fun v=>[]) hc rfl fun vs gs w1 c=>calls_eq (k_alive33 w1),ob_pickT (some 0) (some 1) hc rfl,ob_cp 2 hc (.inl rfl),ob_mv hc (.inl rfl),ob_pickT (some 3) (some 4) hc rfl,ob_cp 5 hc (.inl rfl),ob_mv hc (.inl rfl),oTN 147 7 (.const (O 2)) (O 2) hc (hs:=c_6),ob_pickT (some 6) (some 8) hc rfl,ob_cp 9 hc (.inl rfl),ob_mv hc (.inl rfl),oTN 151 11 (.const (O 2)) (O 2) hc (hs:=c_6),ob_pickT (some 10) (some 12) hc rfl,ob_cp 13 hc (.inl rfl),ob_mv hc (.inl rfl),oTN 155 15 (.const (O 2)) (O 2) hc (hs:=c_6),ob_pickT (some 14) (some 16) hc rfl,ob_cp 17 hc (.inl rfl),ob_mv hc (.inl rfl),oTN 159 19 (.const (O 8)) (O 8) hc (hs:=c_6),ob_pickT (some 18) (some 20) hc rfl,ob_cp 21 hc (.inl rfl),ob_mv hc (.inl rfl),oTN 163 23 (.const (O 4)) (O 4) hc (hs:=c_6),ob_pickT (some 22) (some 24) hc rfl,ob_cp 25 hc (.inl rfl),ob_mv hc (.inl rfl),oTN 167 27 (.const (O 16)) (O 16) hc (hs:=c_6),ob_pickT (some 26) (some 28) hc rfl,ob_cp 29 hc (.inl rfl),ob_mv hc (.inl rfl),oTN 171 31 (.const (O 24)) (O 24) hc (hs:=c_6),ob_pickT (some 30) (some 32) hc rfl,ob_cp 33 hc (.inl rfl),ob_mv hc (.inl rfl),oTN 175 35 (.const (O 24)) (O 24) hc (hs:=c_6),ob_pickT (some 34) (some 36) hc rfl,ob_cp 37 hc (.inr rfl),trivial⟩) fun vs W=>tl ?_
 clear I
 intro I
 go_upto_region 17 with fail
 refine rB [] [] [.eq (.bool true),.eq (.bool true),.eq (O 24),.eq (.bool true),.eq (.bool true),.eq (.bool true),.eq (O 24),.eq (.bool true),.eq (.bool true),.eq (.bool true),.eq (O 0),.eq (.bool true),.eq (.bool true),.eq (.bool true),.eq (.pointer (some ⟨g28,0,none⟩)),.eq (.agg #[O 1099511627776,O 1099511627776]),.eq (.bool true),.eq (.bool true),.eq (.bool true),.eq (.pointer (some ⟨g28,2,none⟩)),.eq (.agg #[O 0,O 0]),.eq (.bool true),.eq (.bool true),.eq (.bool true),.eq (.pointer (some ⟨g29,0,none⟩)),.eq (.agg #[O 0,O 0]),.eq (.bool true),.eq (.bool true),.eq (.bool true)] [28] I (fun hc=>⟨ob_mv hc (.inl rfl),ob_cp 0 hc (.inl rfl),ob_mv hc (.inl rfl),oTN 180 2 (.const (O 24)) (O 24) hc (hs:=c_6),ob_pickT (some 1) (some 3) hc rfl,ob_cp 4 hc (.inl rfl),ob_mv hc (.inl rfl),oTN 184 6 (.const (O 24)) (O 24) hc (hs:=c_6),ob_pickT (some 5) (some 7) hc rfl,ob_cp 8 hc (.inl rfl),ob_mv hc (.inl rfl),oTN 188 10 (.const (O 0)) (O 0) hc (hs:=c_6),ob_pickT (some 9) (some 11) hc rfl,ob_cp 12 hc (.inl rfl),oNN (.tmp 28) (.pointer (some ⟨g28,0,none⟩)) (.const (O 0)) (O 0) hc,ob_ld2 (x:=.tmp 192) (g:=g28) (f:=0) (some 14) hc rfl fun vs gs w1 c=>⟨c.own 16 0,c.own 16 1⟩,ob_call (fun v=>[v 15,O 1099511627776]) hc rfl fun vs gs w1 c=>eqc2 (c.v 15) (calls_eq (k_has33 _ _ _ w1 (by decide) (by decide))),ob_pickT (some 13) (some 16) hc rfl,ob_cp 17 hc (.inl rfl),oNN (.tmp 28) (.pointer (some ⟨g28,0,none⟩)) (.const (O 1)) (O 1) hc,ob_ld2 (x:=.tmp 197) (g:=g28) (f:=2) (some 19) hc rfl fun vs gs w1 c=>⟨c.own 16 2,c.own 16 3⟩,ob_call (fun v=>[v 20,O 0]) hc rfl fun vs gs w1 c=>eqc2 (c.v 20) (calls_eq (k_has33 _ _ _ w1 (by decide) (by decide))),ob_pickT (some 18) (some 21) hc rfl,ob_cp 22 hc (.inl rfl),oNN (.tmp 29) (.pointer (some ⟨g29,0,none⟩)) (.const (O 0)) (O 0) hc,ob_ld2 (x:=.tmp 202) (g:=g29) (f:=0) (some 24) hc rfl fun vs gs w1 c=>⟨c.own 17 0,c.own 17 1⟩,ob_call (fun v=>[v 25,O 0]) hc rfl fun vs gs w1 c=>eqc2 (c.v 25) (calls_eq (k_has33 _ _ _ w1 (by decide) (by decide))),ob_pickT (some 23) (some 26) hc rfl,ob_cp 27 hc (.inr rfl),trivial⟩) fun vs W=>tl ?_
 clear I
 intro I
 have hE:=I.e
 clear I
 go_wp2_with fail
 go_ret
 exact⟨rfl,hE⟩
end Go.Proofs.YtaoioncjmfcolaaGreat
namespace Go.Proofs.YtaoioncjmfcolaaGreat
theorem jf6_inPlace:Tryz.prog.inPlace 4=Rows.keplerNamesRow.inPlace:=by kernel_rfl
theorem jf6_unf:Tryz.prog.unfollowed 4=Rows.keplerNamesRow.unfollowed:=by kernel_rfl
theorem jf6_rec:Tryz.prog.recurses 4=Rows.keplerNamesRow.recurses:=by kernel_rfl
theorem jf6_named:Tryz.prog.varsNamed 4=Rows.keplerNamesRow.named:=by kernel_rfl
theorem jf6_closed:joinedFacts Tryz.pinned.checked.prog 4 Tryz.f4 Rows.keplerNamesSpec Rows.keplerNamesRow=true:=by
 show joinedFacts Tryz.prog 4 Tryz.f4 Rows.keplerNamesSpec Rows.keplerNamesRow=true
 unfold joinedFacts
 rw[jf6_inPlace,jf6_unf,jf6_rec,jf6_named]
 kernel_rfl
end Go.Proofs.YtaoioncjmfcolaaGreat
