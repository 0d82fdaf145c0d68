/- span: comparing numbers of two words; the least and the greatest. -/
import Derived.Test.YtaoioncjmfcolaaGreatV16
import Derived.Handy
set_option linter.unusedSimpArgs false
set_option linter.unusedVariables false
set_option maxRecDepth 100000
set_option maxHeartbeats 2000000
namespace Go.Proofs.YtaoioncjmfcolaaGreat
open Go.RowKit
def cmpT (T U:Int):Int:=if T=U then 0 else if T<U then -1 else 1
theorem cmp_any (T U:Int) (w:World):
    K_ 150 #[.agg #[O (T/18446744073709551616),.int .u64 (T%18446744073709551616)],.agg #[O (U/18446744073709551616),.int .u64 (U%18446744073709551616)]] w fun e w'=>e=.returned (O (cmpT T U))∧Ext w w':=by
 obtain⟨h,eh⟩:∃h:Int,h=T/18446744073709551616:=⟨_,rfl⟩
 obtain⟨l,el⟩:∃h:Int,h=T%18446744073709551616:=⟨_,rfl⟩
 obtain⟨h',eh'⟩:∃h:Int,h=U/18446744073709551616:=⟨_,rfl⟩
 obtain⟨l',el'⟩:∃h:Int,h=U%18446744073709551616:=⟨_,rfl⟩
 have hc:(h=h'∧l=l'↔T=U)∧(h<h'∨h=h'∧l<l'↔T<U):=by omega
 rw[←eh, ←el, ←eh', ←el']
 have Hc:=Lib.hid hc
 clear hc eh el eh' el'
 go_enter Tryz.func150,Tryz.ntmps150
 go_wp2_with fail
 all_goals
  go_ret
  refine⟨?_,((Ext.refl _).alloc _).alloc _⟩
  obtain⟨c1,c2⟩:=Hc.out
  exact congrArg (fun n=>Ending.returned (O n)) (by unfold cmpT;split<;>(try split)<;>omega)
theorem cmp_neg (T U:Int):cmpT T U<0↔T<U:=by unfold cmpT;split<;>(try split)<;>omega
theorem cmp_nn (T U:Int):0≤cmpT T U↔U≤T:=by unfold cmpT;split<;>(try split)<;>omega
theorem cmp_pos (T U:Int):0<cmpT T U↔U<T:=by unfold cmpT;split<;>(try split)<;>omega
theorem cmp_np (T U:Int):cmpT T U≤0↔T≤U:=by unfold cmpT;split<;>(try split)<;>omega
def min2 (a b:Int):Int:=min a b
def max2 (a b:Int):Int:=max a b
theorem least_3 (T U V X:Int) (b c:Nat) (w:World)
    (c2:w.cell? ⟨b,2,none⟩=some (O (U/18446744073709551616))) (c3:w.cell? ⟨b,3,none⟩=some (.int .u64 (U%18446744073709551616)))
    (c4:w.cell? ⟨b,4,none⟩=some (O (V/18446744073709551616))) (c5:w.cell? ⟨b,5,none⟩=some (.int .u64 (V%18446744073709551616)))
    (c6:w.cell? ⟨b,6,none⟩=some (O (X/18446744073709551616))) (c7:w.cell? ⟨b,7,none⟩=some (.int .u64 (X%18446744073709551616))):
    K_ 101 #[.agg #[O (T/18446744073709551616),.int .u64 (T%18446744073709551616)],.slice (some ⟨b,2,none⟩) 3 c] w fun e w'=>e=.returned (.agg #[O (min4 T U V X/18446744073709551616),.int .u64 (min4 T U V X%18446744073709551616)])∧Ext w w':=by
 have hb0:b<w.heap.size:=World.block_lt_of_cell? w _ c2
 go_enter Tryz.func101,Tryz.ntmps101
 go_wp2_with fail
 refine wp_loop_rounds 4 ?_
 repeat
  any_goals
   rw[rounds_succ]
   go_wp2_with (go_at_call 150;(with_reducible refine(cmp_any _ _ _).mono ?_);rintro e w1 ⟨rfl,hb⟩;obtain⟨_,_,⟨hc,hf⟩,hz⟩:=hb.c3;(try simp only[wsz]at hz hc hf))
 all_goals
  refine bodyPost_ret (v:=.agg #[O (min4 T U V X/18446744073709551616),.int .u64 (min4 T U V X%18446744073709551616)]) ?_ rfl ⟨rfl, ?_⟩
  ·simp[results,Tryz.results101,go_sem, ↓IntWalk.iteOmega, *]
   simp only[cmp_neg,cmp_nn]at*
   refine⟨congrArg (· /18446744073709551616) ?_,congrArg (· %18446744073709551616) ?_⟩<;>(unfold min4;omega)
  ·exact b_15
theorem greatest_3 (T U V X:Int) (b c:Nat) (w:World)
    (c2:w.cell? ⟨b,2,none⟩=some (O (U/18446744073709551616))) (c3:w.cell? ⟨b,3,none⟩=some (.int .u64 (U%18446744073709551616)))
    (c4:w.cell? ⟨b,4,none⟩=some (O (V/18446744073709551616))) (c5:w.cell? ⟨b,5,none⟩=some (.int .u64 (V%18446744073709551616)))
    (c6:w.cell? ⟨b,6,none⟩=some (O (X/18446744073709551616))) (c7:w.cell? ⟨b,7,none⟩=some (.int .u64 (X%18446744073709551616))):
    K_ 102 #[.agg #[O (T/18446744073709551616),.int .u64 (T%18446744073709551616)],.slice (some ⟨b,2,none⟩) 3 c] w fun e w'=>e=.returned (.agg #[O (max4 T U V X/18446744073709551616),.int .u64 (max4 T U V X%18446744073709551616)])∧Ext w w':=by
 have hb0:b<w.heap.size:=World.block_lt_of_cell? w _ c2
 go_enter Tryz.func102,Tryz.ntmps102
 go_wp2_with fail
 refine wp_loop_rounds 4 ?_
 repeat
  any_goals
   rw[rounds_succ]
   go_wp2_with (go_at_call 150;(with_reducible refine(cmp_any _ _ _).mono ?_);rintro e w1 ⟨rfl,hb⟩;obtain⟨_,_,⟨hc,hf⟩,hz⟩:=hb.c3;(try simp only[wsz]at hz hc hf))
 all_goals
  refine bodyPost_ret (v:=.agg #[O (max4 T U V X/18446744073709551616),.int .u64 (max4 T U V X%18446744073709551616)]) ?_ rfl ⟨rfl, ?_⟩
  ·simp[results,Tryz.results102,go_sem, ↓IntWalk.iteOmega, *]
   simp only[cmp_pos,cmp_np]at*
   refine⟨congrArg (· /18446744073709551616) ?_,congrArg (· %18446744073709551616) ?_⟩<;>(unfold max4;omega)
  ·exact b_15
theorem least_1 (T U:Int) (b c:Nat) (w:World)
    (c0:w.cell? ⟨b,0,none⟩=some (O (U/18446744073709551616))) (c1:w.cell? ⟨b,1,none⟩=some (.int .u64 (U%18446744073709551616))):
    K_ 101 #[.agg #[O (T/18446744073709551616),.int .u64 (T%18446744073709551616)],.slice (some ⟨b,0,none⟩) 1 c] w fun e w'=>e=.returned (.agg #[O (min2 T U/18446744073709551616),.int .u64 (min2 T U%18446744073709551616)])∧Ext w w':=by
 have hb0:b<w.heap.size:=World.block_lt_of_cell? w _ c0
 go_enter Tryz.func101,Tryz.ntmps101
 go_wp2_with fail
 refine wp_loop_rounds 2 ?_
 repeat
  any_goals
   rw[rounds_succ]
   go_wp2_with (go_at_call 150;(with_reducible refine(cmp_any _ _ _).mono ?_);rintro e w1 ⟨rfl,hb⟩;obtain⟨_,_,⟨hc,hf⟩,hz⟩:=hb.c3;(try simp only[World.size_alloc]at hz hc hf))
 all_goals
  refine bodyPost_ret (v:=.agg #[O (min2 T U/18446744073709551616),.int .u64 (min2 T U%18446744073709551616)]) ?_ rfl ⟨rfl, ?_⟩
  ·simp[results,Tryz.results101,go_sem, *]
   simp only[cmp_neg,cmp_nn]at*
   refine⟨congrArg (· /18446744073709551616) ?_,congrArg (· %18446744073709551616) ?_⟩<;>(unfold min2;omega)
  ·exact b_15
theorem greatest_1 (T U:Int) (b c:Nat) (w:World)
    (c0:w.cell? ⟨b,0,none⟩=some (O (U/18446744073709551616))) (c1:w.cell? ⟨b,1,none⟩=some (.int .u64 (U%18446744073709551616))):
    K_ 102 #[.agg #[O (T/18446744073709551616),.int .u64 (T%18446744073709551616)],.slice (some ⟨b,0,none⟩) 1 c] w fun e w'=>e=.returned (.agg #[O (max2 T U/18446744073709551616),.int .u64 (max2 T U%18446744073709551616)])∧Ext w w':=by
 have hb0:b<w.heap.size:=World.block_lt_of_cell? w _ c0
 go_enter Tryz.func102,Tryz.ntmps102
 go_wp2_with fail
 refine wp_loop_rounds 2 ?_
 repeat
  any_goals
   rw[rounds_succ]
   go_wp2_with (go_at_call 150;(with_reducible refine(cmp_any _ _ _).mono ?_);rintro e w1 ⟨rfl,hb⟩;obtain⟨_,_,⟨hc,hf⟩,hz⟩:=hb.c3;(try simp only[World.size_alloc]at hz hc hf))
 all_goals
  refine bodyPost_ret (v:=.agg #[O (max2 T U/18446744073709551616),.int .u64 (max2 T U%18446744073709551616)]) ?_ rfl ⟨rfl, ?_⟩
  ·simp[results,Tryz.results102,go_sem, *]
   simp only[cmp_pos,cmp_np]at*
   refine⟨congrArg (· /18446744073709551616) ?_,congrArg (· %18446744073709551616) ?_⟩<;>(unfold max2;omega)
  ·exact b_15
theorem check_2 (a b c d:Int) (n:Nat) (w:World) (hn:n=w.heap.size):
    K_ 91 #[.slice (some ⟨n,0,none⟩) 2 2] (w.alloc (.cells #[O a,O b,O c,O d] 30)) fun e w'=>e=.returned (O (ck2 a b c d))∧Ext (w.alloc (.cells #[O a,O b,O c,O d] 30)) w':=by
 subst hn
 go_enter Tryz.func91,Tryz.ntmps91
 go_wp2
 refine wp_loop_rounds 3 ?_
 repeat
  any_goals
   rw[rounds_succ]
   go_wp2
 all_goals
  go_ret
  refine⟨?_, ?_⟩
  ·first| (simp[ck2,ckI, *];done)| (simp[ck2,ckI, *];omega)
  ·exact b_16
theorem check_1 (a b:Int) (n:Nat) (w:World) (hn:n=w.heap.size):
    K_ 91 #[.slice (some ⟨n,0,none⟩) 1 1] (w.alloc (.cells #[O a,O b] 30)) fun e w'=>e=.returned (O (ckI a b))∧Ext (w.alloc (.cells #[O a,O b] 30)) w':=by
 subst hn
 go_enter Tryz.func91,Tryz.ntmps91
 go_wp2
 refine wp_loop_rounds 2 ?_
 repeat
  any_goals
   rw[rounds_succ]
   go_wp2
 all_goals
  go_ret
  refine⟨?_, ?_⟩
  ·first| (simp[ckI, *];done)| (simp[ckI, *];omega)
  ·exact b_16
theorem span_made (lo hi:Int) (w:World):
    K_ 92 #[O lo,O hi] w fun e w'=>e=.returned (.tuple #[.agg #[O (madeI lo hi).lo,O (madeI lo hi).hi],O (madeI lo hi).e])∧Ext w w':=by
 go_enter Tryz.func92,Tryz.ntmps92
 go_wp2
 all_goals
  refine bodyPost_ret (v:=.tuple #[.agg #[O (madeI lo hi).lo,O (madeI lo hi).hi],O (madeI lo hi).e]) ?_ rfl ⟨rfl, ?_⟩
  ·(try simp only[]at*)
   simp[results,Tryz.results92,go_sem, ↓IntWalk.iteOmega,madeI, *]
  ·exact b_16
theorem span_add (a b c d:Int) (w:World):
    K_ 42 #[.agg #[O a,O b],.agg #[O c,O d]] w fun e w'=>e=.returned (.tuple #[.agg #[O (addI a b c d).lo,O (addI a b c d).hi],O (addI a b c d).e])∧Ext w w':=by
 go_enter Tryz.func42,Tryz.ntmps42
 go_wp2_with (first| (go_at_call 91;(with_reducible refine(check_2 _ _ _ _ _ _ c_43).mono ?_);rintro e w1 ⟨rfl,hb⟩;obtain⟨_,_,⟨hc,hf⟩,hz⟩:=hb.c3;(try simp only[World.size_alloc]at hz hc hf))| (go_at_call 92;(with_reducible refine(span_made _ _ _).mono ?_);rintro e w1 ⟨rfl,hb⟩;obtain⟨_,_,⟨hc,hf⟩,hz⟩:=hb.c3;(try simp only[wsz]at hz hc hf)))
 all_goals
  refine bodyPost_ret (v:=.tuple #[.agg #[O (addI a b c d).lo,O (addI a b c d).hi],O (addI a b c d).e]) ?_ rfl ⟨rfl, ?_⟩
  ·(try simp only[bn_]at*)
   simp[results,Tryz.results42,go_sem, ↓IntWalk.iteOmega,addI, *]
  ·exact b_17
theorem span_sub (a b c d:Int) (w:World):
    K_ 70 #[.agg #[O a,O b],.agg #[O c,O d]] w fun e w'=>e=.returned (.tuple #[.agg #[O (subI a b c d).lo,O (subI a b c d).hi],O (subI a b c d).e])∧Ext w w':=by
 go_enter Tryz.func70,Tryz.ntmps70
 go_wp2_with (first| (go_at_call 91;(with_reducible refine(check_2 _ _ _ _ _ _ c_43).mono ?_);rintro e w1 ⟨rfl,hb⟩;obtain⟨_,_,⟨hc,hf⟩,hz⟩:=hb.c3;(try simp only[World.size_alloc]at hz hc hf))| (go_at_call 92;(with_reducible refine(span_made _ _ _).mono ?_);rintro e w1 ⟨rfl,hb⟩;obtain⟨_,_,⟨hc,hf⟩,hz⟩:=hb.c3;(try simp only[wsz]at hz hc hf)))
 all_goals
  refine bodyPost_ret (v:=.tuple #[.agg #[O (subI a b c d).lo,O (subI a b c d).hi],O (subI a b c d).e]) ?_ rfl ⟨rfl, ?_⟩
  ·(try simp only[bn_]at*)
   simp[results,Tryz.results70,go_sem, ↓IntWalk.iteOmega,subI, *]
  ·exact b_17
theorem min4_bound {a b c d:Int} (pa:I64 a) (pb:I64 b) (pc:I64 c) (pd:I64 d): -85070591730234615865843651857942052864≤min4 (a*c) (a*d) (b*c) (b*d)∧min4 (a*c) (a*d) (b*c) (b*d)≤85070591730234615865843651857942052864:=by
 have h1:=abs_mul_bound pa pc
 have h2:=abs_mul_bound pa pd
 have h3:=abs_mul_bound pb pc
 have h4:=abs_mul_bound pb pd
 unfold min4;omega
theorem max4_bound {a b c d:Int} (pa:I64 a) (pb:I64 b) (pc:I64 c) (pd:I64 d): -85070591730234615865843651857942052864≤max4 (a*c) (a*d) (b*c) (b*d)∧max4 (a*c) (a*d) (b*c) (b*d)≤85070591730234615865843651857942052864:=by
 have h1:=abs_mul_bound pa pc
 have h2:=abs_mul_bound pa pd
 have h3:=abs_mul_bound pb pc
 have h4:=abs_mul_bound pb pd
 unfold max4;omega
theorem absI_I64 {a b:Int} (ha:I64 a) (hb:I64 b):I64 (absI a b).lo∧I64 (absI a b).hi:=by
 have h1:=w64_mod (-a)
 have h2:=w64_mod (-b)
 unfold I64 absI at*
 split
 ·simp
 ·split
  ·exact⟨ha,hb⟩
  ·split
   ·exact⟨h2.2,h1.2⟩
   ·simp only[];omega
theorem span_abs (a b:Int) (w:World):
    K_ 94 #[.agg #[O a,O b]] w fun e w'=>e=.returned (.tuple #[.agg #[O (absI a b).lo,O (absI a b).hi],O (absI a b).e])∧Ext w w':=by
 go_enter Tryz.func94,Tryz.ntmps94
 go_wp2_with (first| (go_at_call 91;(with_reducible refine(check_1 _ _ _ _ c_43).mono ?_);rintro e w1 ⟨rfl,hb⟩;obtain⟨_,_,⟨hc,hf⟩,hz⟩:=hb.c3;(try simp only[World.size_alloc]at hz hc hf)))
 all_goals
  refine bodyPost_ret (v:=.tuple #[.agg #[O (absI a b).lo,O (absI a b).hi],O (absI a b).e]) ?_ rfl ⟨rfl, ?_⟩
  ·(try simp only[bn_]at*)
   simp[results,Tryz.results94,go_sem, ↓IntWalk.iteOmega,absI, *]
   (try(split<;>simp_all<;>omega))
  ·exact b_17
theorem span_sq (a b:Int) (w:World) (ha:I64 a) (hb0:I64 b):
    K_ 45 #[.agg #[O a,O b]] w fun e w'=>e=.returned (.tuple #[.agg #[O (sqI a b).lo,O (sqI a b).hi],O (sqI a b).e])∧Ext w w':=by
 obtain⟨i1,i2⟩:=absI_I64 ha hb0
 go_enter Tryz.func45,Tryz.ntmps45
 go_wp2_with (first| (go_at_call 94;(with_reducible refine(span_abs _ _ _).mono ?_);rintro e w1 ⟨rfl,hb⟩;obtain⟨_,_,⟨hc,hf⟩,hz⟩:=hb.c3;(try simp only[World.size_alloc]at hz hc hf);(try have zz:=q_4 w.heap.size w1.heap.size);(try have zz:=q_4 (w.heap.size+1) w1.heap.size)))
 any_goals
  refine wp_name fun W hW=> ?_
  obtain⟨hWc,hWf,hWz⟩:=hW.cells
  have hWe:Ext w W:=Ext.same hW c_22
  (try simp only[World.size_alloc]at hWz)
  go_region_held3 (fun w'=>(∀b o,b<W.heap.size→w'.cell? ⟨b,o,none⟩=if b=w.heap.size+1∧0≤o∧o<2 then(W.cell? ⟨b,o,none⟩).map (obx w' b o)else W.cell? ⟨b,o,none⟩)∧(∀b o,b<W.heap.size→w'.frozen? ⟨b,o,none⟩=W.frozen? ⟨b,o,none⟩)∧W.heap.size≤w'.heap.size∧Ext w w') (exact k_0) ((first| (go_at_call 95;(with_reducible refine(times_any _ _ _ c_40 c_40).mono ?_);rintro e w2 ⟨rfl,hb2⟩;have hz2:=hb2.size;(try rw[size_drew]at hz2))| (go_at_call 96;(with_reducible refine(down_any _ _ _ (abs_mul_bound c_40 c_40).1 (abs_mul_bound c_40 c_40).2 (by omega) (by omega)).mono ?_);rintro e w2 ⟨rfl,hb2⟩;have hz2:=hb2.size;(try rw[size_drew]at hz2))| (go_at_call 97;(with_reducible refine(up_any _ _ _ (abs_mul_bound c_40 c_40).1 (abs_mul_bound c_40 c_40).2 (by omega) (by omega)).mono ?_);rintro e w2 ⟨rfl,hb2⟩;have hz2:=hb2.size;(try rw[size_drew]at hz2))| (go_at_call 92;(with_reducible refine(span_made _ _ _).mono ?_);rintro e w2 ⟨rfl,hb2⟩;have hz2:=hb2.size;(try rw[size_drew]at hz2))))
  rename_i hOld
  have hE:=hOld.2.2.2
  have hO:=And.intro hOld.1 (And.intro hOld.2.1 hOld.2.2.1)
  clear hOld
  replace hO:=heldBack hO c_8
  replace hO:=heldBack hO c_8
  obtain⟨hOc,hOf,hOz⟩:=heldEnd hO
  clear hO
 any_goals go_wp2_with fail
 all_goals
  refine bodyPost_ret (v:=.tuple #[.agg #[O (sqI a b).lo,O (sqI a b).hi],O (sqI a b).e]) ?_ rfl ⟨rfl, ?_⟩
  ·(try simp only[bn_]at*)
   simp[results,Tryz.results45,go_sem,sqI, *]
  ·exact b_17
theorem span_mul (a b c d:Int) (w:World) (ha:I64 a∧I64 b) (hc0:I64 c∧I64 d):
    K_ 48 #[.agg #[O a,O b],.agg #[O c,O d]] w fun e w'=>e=.returned (.tuple #[.agg #[O (mulI a b c d).lo,O (mulI a b c d).hi],O (mulI a b c d).e])∧Ext w w':=by
 obtain⟨pa,pb⟩:=ha
 obtain⟨pc,pd⟩:=hc0
 have i0:∀w,(Instr.index 152 (.agg #[O a,O b]) (O 0)).run Tryz.prog w=.ok (O a) w:=fun _=>by kernel_rfl
 have i1:∀w,(Instr.index 152 (.agg #[O a,O b]) (O 1)).run Tryz.prog w=.ok (O b) w:=fun _=>by kernel_rfl
 have l0:IntKind.i64.wrap 0=0:=rfl
 have l1:IntKind.i64.wrap 1=1:=rfl
 have l2:IntKind.i64.wrap 2=2:=rfl
 have l3:IntKind.i64.wrap 3=3:=rfl
 go_enter Tryz.func48,Tryz.ntmps48
 go_wp2_with (first| (go_at_call 91;(with_reducible refine(check_2 _ _ _ _ _ _ c_43).mono ?_);rintro e w1 ⟨rfl,hb⟩;obtain⟨_,_,⟨hc,hf⟩,hz⟩:=hb.c3;(try simp only[World.size_alloc]at hz hc hf);(try have zz:=q_4 w.heap.size w1.heap.size);(try have zz:=q_4 (w.heap.size+1) w1.heap.size);(try have zz:=q_4 (w.heap.size+1+1) w1.heap.size);(try have zz:=q_4 (w.heap.size+1+1+1) w1.heap.size)))
 ·all_goals
   refine bodyPost_ret (v:=.tuple #[.agg #[O (mulI a b c d).lo,O (mulI a b c d).hi],O (mulI a b c d).e]) ?_ rfl ⟨rfl, ?_⟩
   ·(try simp only[bne_iff_ne,ne_eq]at*)
    simp[results,Tryz.results48,go_sem,mulI, *]
   ·exact b_17
 ·refine wp_loop_rounds 3 ?_
  rw[rounds_succ]
  go_wp2_with fail
  refine wp_name fun W hW=> ?_
  obtain⟨hWc,hWf,hWz⟩:=hW.cells
  have hWe:Ext w W:=Ext.same hW c_22
  (try simp only[World.size_alloc]at hWz)
  go_region_held3 (fun w'=>(∀b o,b<W.heap.size→w'.cell? ⟨b,o,none⟩=if b=w1.heap.size∧0≤o∧o<4 then(W.cell? ⟨b,o,none⟩).map (obx w' b o)else W.cell? ⟨b,o,none⟩)∧(∀b o,b<W.heap.size→w'.frozen? ⟨b,o,none⟩=W.frozen? ⟨b,o,none⟩)∧W.heap.size≤w'.heap.size∧Ext w w') (exact k_0) ((first| (go_at_call 95;(with_reducible refine(times_any _ _ _ c_40 c_40).mono ?_);rintro e w2 ⟨rfl,hb2⟩;have hz2:=hb2.size;(try rw[size_drew]at hz2))))
  rename_i hOld
  have hE:=hOld.2.2.2
  have hO:=And.intro hOld.1 (And.intro hOld.2.1 hOld.2.2.1)
  clear hOld
  replace hO:=heldBack hO c_8
  replace hO:=heldBack hO c_8
  replace hO:=heldBack hO c_8
  replace hO:=heldBack hO c_8
  obtain⟨hOc,hOf,hOz⟩:=heldEnd hO
  clear hO
  (try have zz:=q_4 w.heap.size w2.heap.size)
  (try have zz:=q_4 (w.heap.size+1) w2.heap.size)
  (try have zz:=q_4 (w.heap.size+1+1) w2.heap.size)
  (try have zz:=q_4 w1.heap.size w2.heap.size)
  go_wp2_with fail
  rw[rounds_succ]
  go_wp2_with fail
  refine wp_name fun W hW=> ?_
  obtain⟨hWc,hWf,hWz⟩:=hW.cells
  have hWe:Ext w W:=Ext.same hW c_22
  (try simp only[World.size_setCell]at hWz)
  go_region_held3 (fun w'=>(∀b o,b<W.heap.size→w'.cell? ⟨b,o,none⟩=if b=w1.heap.size∧4≤o∧o<8 then(W.cell? ⟨b,o,none⟩).map (obx w' b o)else W.cell? ⟨b,o,none⟩)∧(∀b o,b<W.heap.size→w'.frozen? ⟨b,o,none⟩=W.frozen? ⟨b,o,none⟩)∧W.heap.size≤w'.heap.size∧Ext w w') (exact k_0) ((first| (go_at_call 95;(with_reducible refine(times_any _ _ _ c_40 c_40).mono ?_);rintro e w2 ⟨rfl,hb2⟩;have hz2:=hb2.size;(try rw[size_drew]at hz2))))
  rename_i hOld
  have hE:=hOld.2.2.2
  have hO:=And.intro hOld.1 (And.intro hOld.2.1 hOld.2.2.1)
  clear hOld
  replace hO:=heldBack hO c_8
  replace hO:=heldBack hO c_8
  replace hO:=heldBack hO c_8
  replace hO:=heldBack hO c_8
  obtain⟨hOc,hOf,hOz⟩:=heldEnd hO
  clear hO
  (try have zz:=q_4 w.heap.size w2.heap.size)
  (try have zz:=q_4 (w.heap.size+1) w2.heap.size)
  (try have zz:=q_4 (w.heap.size+1+1) w2.heap.size)
  (try have zz:=q_4 w1.heap.size w2.heap.size)
  go_wp2_with fail
  rw[rounds_succ]
  go_wp2_with fail
  refine wp_name fun W hW=> ?_
  obtain⟨hWc,hWf,hWz⟩:=hW.cells
  have hWe:Ext w W:=Ext.same hW c_22
  (try simp only[World.size_setCell]at hWz)
  go_region_held3 (fun w'=>(∀b o,b<W.heap.size→w'.cell? ⟨b,o,none⟩=if b=w.heap.size+1+1∧0≤o∧o<2 then(W.cell? ⟨b,o,none⟩).map (obx w' b o)else W.cell? ⟨b,o,none⟩)∧(∀b o,b<W.heap.size→w'.frozen? ⟨b,o,none⟩=W.frozen? ⟨b,o,none⟩)∧W.heap.size≤w'.heap.size∧Ext w w') (exact k_0) ((first| (go_at_call 101;(with_reducible refine(least_3 (a*c) (a*d) (b*c) (b*d) _ _ _ c_45 c_45 c_45 c_45 c_45 c_45).mono ?_);rintro e w2 ⟨rfl,hb2⟩;have hz2:=hb2.size;(try rw[size_drew]at hz2))| (go_at_call 102;(with_reducible refine(greatest_3 (a*c) (a*d) (b*c) (b*d) _ _ _ c_45 c_45 c_45 c_45 c_45 c_45).mono ?_);rintro e w2 ⟨rfl,hb2⟩;have hz2:=hb2.size;(try rw[size_drew]at hz2))| (go_at_call 96;(with_reducible refine(down_any _ _ _ (min4_bound pa pb pc pd).1 (min4_bound pa pb pc pd).2 (by omega) (by omega)).mono ?_);rintro e w2 ⟨rfl,hb2⟩;have hz2:=hb2.size;(try rw[size_drew]at hz2))| (go_at_call 97;(with_reducible refine(up_any _ _ _ (max4_bound pa pb pc pd).1 (max4_bound pa pb pc pd).2 (by omega) (by omega)).mono ?_);rintro e w2 ⟨rfl,hb2⟩;have hz2:=hb2.size;(try rw[size_drew]at hz2))| (go_at_call 92;(with_reducible refine(span_made _ _ _).mono ?_);rintro e w2 ⟨rfl,hb2⟩;have hz2:=hb2.size;(try rw[size_drew]at hz2))))
  rename_i hOld
  have hE:=hOld.2.2.2
  have hO:=And.intro hOld.1 (And.intro hOld.2.1 hOld.2.2.1)
  clear hOld
  replace hO:=heldBack hO c_8
  replace hO:=heldBack hO c_8
  obtain⟨hOc,hOf,hOz⟩:=heldEnd hO
  clear hO
  go_wp2_with fail
  all_goals
   refine bodyPost_ret (v:=.tuple #[.agg #[O (mulI a b c d).lo,O (mulI a b c d).hi],O (mulI a b c d).e]) ?_ rfl ⟨rfl, ?_⟩
   ·(try simp only[bne_eq_false_iff_eq]at*)
    simp[results,Tryz.results48,go_sem,mulI, *]
   ·exact b_16
end Go.Proofs.YtaoioncjmfcolaaGreat
