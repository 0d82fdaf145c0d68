/- span.Div. -/
import Derived.Test.YtaoioncjmfcolaaGreatV18
import Derived.Test.YtaoioncjmfcolaaGreatV15
set_option linter.unusedSimpArgs false
set_option linter.unusedVariables false
set_option maxRecDepth 100000
set_option maxHeartbeats 4000000
namespace Go.Proofs.YtaoioncjmfcolaaGreat
open Go.RowKit
theorem heldDrop {w W w':World} {RB lo hi:Nat} {ob:Obj} (h:(∀b o,b<W.heap.size→(w'.alloc ob).cell? ⟨b,o,none⟩=if b=RB∧lo≤o∧o<hi then(W.cell? ⟨b,o,none⟩).map (obx (w'.alloc ob) b o)else W.cell? ⟨b,o,none⟩)∧(∀b o,b<W.heap.size→(w'.alloc ob).frozen? ⟨b,o,none⟩=W.frozen? ⟨b,o,none⟩)∧W.heap.size≤(w'.alloc ob).heap.size∧Ext w (w'.alloc ob)) (hz:W.heap.size≤w'.heap.size) (hz2:w.heap.size≤w'.heap.size):
    (∀b o,b<W.heap.size→(w').cell? ⟨b,o,none⟩=if b=RB∧lo≤o∧o<hi then(W.cell? ⟨b,o,none⟩).map (obx (w') b o)else W.cell? ⟨b,o,none⟩)∧(∀b o,b<W.heap.size→(w').frozen? ⟨b,o,none⟩=W.frozen? ⟨b,o,none⟩)∧W.heap.size≤(w').heap.size∧Ext w (w'):=by
 have hE:=h.2.2.2
 have h3:=heldBackA ⟨h.1,h.2.1,h.2.2.1⟩ hz
 have hE':Ext w w':=⟨hE.os,hE.tape,hE.output,hz2,fun k hk=>by
  rw[←hE.block k hk];exact(Below.heap_alloc w' ob k (Nat.lt_of_lt_of_le hk hz2)).symm⟩
 exact⟨h3.1,h3.2.1,h3.2.2,hE'⟩
theorem held5 {w W w':World} {RB lo hi:Nat} {o1 o1' o2:Obj} (h:(∀b o,b<W.heap.size→((w'.alloc o1).alloc o2).cell? ⟨b,o,none⟩=if b=RB∧lo≤o∧o<hi then(W.cell? ⟨b,o,none⟩).map (obx ((w'.alloc o1).alloc o2) b o)else W.cell? ⟨b,o,none⟩)∧(∀b o,b<W.heap.size→((w'.alloc o1).alloc o2).frozen? ⟨b,o,none⟩=W.frozen? ⟨b,o,none⟩)∧W.heap.size≤((w'.alloc o1).alloc o2).heap.size∧Ext w ((w'.alloc o1).alloc o2)) (hz:W.heap.size≤w'.heap.size) (hz2:w.heap.size≤w'.heap.size):
    (∀b o,b<W.heap.size→((w'.alloc o1').alloc o2).cell? ⟨b,o,none⟩=if b=RB∧lo≤o∧o<hi then(W.cell? ⟨b,o,none⟩).map (obx ((w'.alloc o1').alloc o2) b o)else W.cell? ⟨b,o,none⟩)∧(∀b o,b<W.heap.size→((w'.alloc o1').alloc o2).frozen? ⟨b,o,none⟩=W.frozen? ⟨b,o,none⟩)∧W.heap.size≤((w'.alloc o1').alloc o2).heap.size∧Ext w ((w'.alloc o1').alloc o2):=
  held3 (held4 (heldDrop h (by simp only[World.size_alloc];omega) (by simp only[World.size_alloc];omega)) hz hz2)
theorem sdiv_p (a b c d:Int) (w:World) (hk:ck2 a b c d=0) (h0:0<c):
    K_ 71 #[.agg #[O a,O b],.agg #[O c,O d]] w fun e w'=>e=.returned (.tuple #[.agg #[O (divP a b c d).lo,O (divP a b c d).hi],O (divP a b c d).e])∧Ext w w':=by
 obtain⟨hk1,hk2⟩:=ck2_ok hk
 obtain⟨ka1,ka2,ka3⟩:=ckI_ok hk1
 obtain⟨kc1,kc2,kc3⟩:=ckI_ok hk2
 have hM:I64 1099511627776:=by unfold I64;omega
 have hA:I64 a:=by unfold I64;omega
 have hB:I64 b:=by unfold I64;omega
 have ec:IntKind.u64.wrap c=c:=by rw[IntKind.wrap_u64];omega
 have ed:IntKind.u64.wrap d=d:=by rw[IntKind.wrap_u64];omega
 have eV:=divP_prog (a:=a) (b:=b) h0 kc1
 go_enter Tryz.func71,Tryz.ntmps71
 go_upto_region 9 with(first| (go_at_call 91;(with_reducible refine(check_2 _ _ _ _ _ _ c_43).mono ?_);rintro e w1 ⟨rfl,hb⟩;obtain⟨_,_,⟨hc,hf⟩,hz⟩:=hb.c3;(try simp only[wsz]at hz hc hf)))
 refine wp_name fun V hV=> ?_
 obtain⟨hVc,hVf,hVz⟩:=hV.cells
 have hVe:Ext w V:=Ext.same hV ex_
 (try simp only[wsz]at hVz)
 replace hVz:=And.intro (Nat.le_of_eq hVz) (Nat.le_of_eq hVz.symm)
 have hlv:w.heap.size<V.heap.size∧w.heap.size+1<V.heap.size∧w.heap.size+1+1<V.heap.size:=(by refine⟨?_, ?_, ?_⟩<;>omega)
 have hd:=q_11 w.heap.size (w.heap.size+1) (w.heap.size+1+1)
 have hnv:¬w.heap.size=V.heap.size∧¬w.heap.size+1=V.heap.size∧¬w.heap.size+1+1=V.heap.size:=(by omega)
 go_cut [7,8] (fun sx0 sx1 wx=>∃g h:Nat,sx0=.pointer (some ⟨g,0,none⟩)∧sx1=.pointer (some ⟨h,0,none⟩)∧Ext V wx∧V.heap.size≤g∧g<wx.heap.size∧(∀o,wx.frozen? ⟨g,o,none⟩=false)∧V.heap.size≤h∧h<wx.heap.size∧(∀o,wx.frozen? ⟨h,o,none⟩=false)∧g≠h∧wx.cell? ⟨g,0,none⟩=some (O ((a*1099511627776)/18446744073709551616))∧wx.cell? ⟨g,1,none⟩=some (.int .u64 ((a*1099511627776)%18446744073709551616))∧wx.cell? ⟨h,0,none⟩=some (O ((b*1099511627776)/18446744073709551616))∧wx.cell? ⟨h,1,none⟩=some (.int .u64 ((b*1099511627776)%18446744073709551616)))
 case first=>
  have hWe:Ext V V:=Ext.refl V
  go_region_held3 (fun w'=>(∀b o,b<V.heap.size→w'.cell? ⟨b,o,none⟩=if b=V.heap.size∧0≤o∧o<0 then(V.cell? ⟨b,o,none⟩).map (obx w' b o)else V.cell? ⟨b,o,none⟩)∧(∀b o,b<V.heap.size→w'.frozen? ⟨b,o,none⟩=V.frozen? ⟨b,o,none⟩)∧V.heap.size≤w'.heap.size∧Ext V w') (exact k_1) ((first| (go_at_call 95;(with_reducible refine(times_any (a) 1099511627776 _ hA hM).mono ?_);rintro e w2 ⟨rfl,hb0⟩;obtain⟨hq0,hr0⟩:=hb0.cells;have hz0:=hb0.size;(try simp only[wsd]at hz0 hq0 hr0);(try have hly0:V.heap.size<w2.heap.size:=by omega);(try have hly1:V.heap.size+1<w2.heap.size:=by omega))| (go_at_call 95;(with_reducible refine(times_any (b) 1099511627776 _ hB hM).mono ?_);rintro e w3 ⟨rfl,hb1⟩;obtain⟨hq1,hr1⟩:=hb1.cells;have hz1:=hb1.size;(try simp only[wsd]at hz1 hq1 hr1);(try have hly0:V.heap.size<w3.heap.size:=by omega);(try have hly1:V.heap.size+1<w3.heap.size:=by omega);(try have hly2:w2.heap.size<w3.heap.size:=by omega);(try have hly3:w2.heap.size+1<w3.heap.size:=by omega))))
  all_goals
   rename_i hOld
   clear hOld
   go_wp2_with fail
   go_meet
   refine⟨_,_,rfl,rfl, ?_, ?_, ?_, ?_, ?_, ?_, ?_, ?_, ?_, ?_, ?_, ?_⟩
   ·exact b_20
   all_goals first| ((try simp only[wsz]);omega)| (intro o;simp[go_sem, ↓IntWalk.iteOmega, *];done)| (simp[go_sem, ↓IntWalk.iteOmega, *];done)
 case rest=>
  obtain⟨g,h,rfl,rfl,hx,hg01,hg02,hgf0,hg11,hg12,hgf1,hgh,hv00,hv01,hv10,hv11⟩:=hcut
  obtain⟨_,_,hcc,hcf⟩:=hx.cells2
  have hcz:=hx.size
  replace hVe:=hVe.trans hx
  have hlv2:w.heap.size<wc.heap.size∧w.heap.size+1<wc.heap.size∧w.heap.size+1+1<wc.heap.size:=(by omega)
  have hlg:=q_6 w.heap.size g h (w.heap.size+1) (w.heap.size+1+1)
  clear hx
  go_wp2_with fail
  refine wp_name fun W hW=> ?_
  obtain⟨hWc,hWf,hWz⟩:=hW.cells
  have hlw:=q_1 w.heap.size wc.heap.size (w.heap.size+1) (w.heap.size+1+1) g h
  have hWe:Ext w W:=Ext.same hW ex_
  (try simp only[wsz]at hWz)
  go_region_held3 (fun w'=>(∀b o,b<W.heap.size→w'.cell? ⟨b,o,none⟩=if b=w.heap.size∧0≤o∧o<0 then(W.cell? ⟨b,o,none⟩).map (obx w' b o)else W.cell? ⟨b,o,none⟩)∧(∀b o,b<W.heap.size→w'.frozen? ⟨b,o,none⟩=W.frozen? ⟨b,o,none⟩)∧W.heap.size≤w'.heap.size∧Ext w w') (exact k_2) (fail)
  rename_i hOld
  have hE:=hOld.2.2.2
  have hO:=And.intro hOld.1 (And.intro hOld.2.1 hOld.2.2.1)
  clear hOld
  obtain⟨hOc,hOf,hOz⟩:=heldEnd hO
  clear hO
  go_wp2_with fail
  refine wp_name fun W hW=> ?_
  obtain⟨hWc,hWf,hWz⟩:=hW.cells
  have hlw:w.heap.size<wc.heap.size∧w.heap.size+1<wc.heap.size∧w.heap.size+1+1<wc.heap.size:=(by omega)
  have hWe:Ext w W:=Ext.same hW ex_
  (try simp only[wsz]at hWz)
  go_region_held3 (fun w'=>(∀b o,b<W.heap.size→w'.cell? ⟨b,o,none⟩=if b=w.heap.size+1+1∧0≤o∧o<2 then(W.cell? ⟨b,o,none⟩).map (obx w' b o)else W.cell? ⟨b,o,none⟩)∧(∀b o,b<W.heap.size→w'.frozen? ⟨b,o,none⟩=W.frozen? ⟨b,o,none⟩)∧W.heap.size≤w'.heap.size∧Ext w w') (exact k_2) ((first| (go_at_call 96;(with_reducible refine(down_any _ _ _ (abs_mul_bound hA hM).1 (abs_mul_bound hA hM).2 (by omega) (by omega)).mono ?_);rintro e w2 ⟨rfl,hb2⟩;have hz2:=hb2.size;(try rw[size_drew]at hz2))| (go_at_call 97;(with_reducible refine(up_any _ _ _ (abs_mul_bound hB hM).1 (abs_mul_bound hB hM).2 (by omega) (by omega)).mono ?_);rintro e w2 ⟨rfl,hb2⟩;have hz2:=hb2.size;(try rw[size_drew]at hz2))| (go_at_call 92;(with_reducible refine(span_made _ _ _).mono ?_);rintro e w2 ⟨rfl,hb2⟩;have hz2:=hb2.size;(try rw[size_drew]at hz2))))
  all_goals
   rename_i hOld
   have hE:=hOld.2.2.2
   have hO:=And.intro hOld.1 (And.intro hOld.2.1 hOld.2.2.1)
   clear hOld
   replace hO:=heldBack hO c_14
   replace hO:=heldBack hO c_14
   obtain⟨hOc,hOf,hOz⟩:=heldEnd hO
   clear hO
   go_wp2_with fail
   refine bodyPost_ret (v:=.tuple #[.agg #[O (divP a b c d).lo,O (divP a b c d).hi],O (divP a b c d).e]) ?_ rfl ⟨rfl, ?_⟩
   ·(try simp only[bn_,bm_]at*)
    simp[results,Tryz.results71,go_sem, ↓IntWalk.iteOmega,eV, *]
   ·exact b_1
theorem sdiv_n (a b c d:Int) (w:World) (hk:ck2 a b c d=0) (h0:d<0):
    K_ 71 #[.agg #[O a,O b],.agg #[O c,O d]] w fun e w'=>e=.returned (.tuple #[.agg #[O (divP (-b) (-a) (-d) (-c)).lo,O (divP (-b) (-a) (-d) (-c)).hi],O (divP (-b) (-a) (-d) (-c)).e])∧Ext w w':=by
 obtain⟨hk1,hk2⟩:=ck2_ok hk
 obtain⟨ka1,ka2,ka3⟩:=ckI_ok hk1
 obtain⟨kc1,kc2,kc3⟩:=ckI_ok hk2
 have hM:I64 1099511627776:=by unfold I64;omega
 have hA:I64 (-b):=by unfold I64;omega
 have hB:I64 (-a):=by unfold I64;omega
 have n1:IntKind.i64.wrap (-b)= -b:=by rw[IntKind.wrap_i64];omega
 have n2:IntKind.i64.wrap (-a)= -a:=by rw[IntKind.wrap_i64];omega
 have n3:IntKind.i64.wrap (-d)= -d:=by rw[IntKind.wrap_i64];omega
 have n4:IntKind.i64.wrap (-c)= -c:=by rw[IntKind.wrap_i64];omega
 have ec:IntKind.u64.wrap (-d)= -d:=by rw[IntKind.wrap_u64];omega
 have ed:IntKind.u64.wrap (-c)= -c:=by rw[IntKind.wrap_u64];omega
 have eV:=divP_prog (a:= -b) (b:= -a) (c:= -d) (d:= -c) (by omega) (by omega)
 go_enter Tryz.func71,Tryz.ntmps71
 go_upto_region 9 with(first| (go_at_call 91;(with_reducible refine(check_2 _ _ _ _ _ _ c_43).mono ?_);rintro e w1 ⟨rfl,hb⟩;obtain⟨_,_,⟨hc,hf⟩,hz⟩:=hb.c3;(try simp only[wsz]at hz hc hf)))
 refine wp_name fun V hV=> ?_
 obtain⟨hVc,hVf,hVz⟩:=hV.cells
 have hVe:Ext w V:=Ext.same hV ex_
 (try simp only[wsz]at hVz)
 replace hVz:=And.intro (Nat.le_of_eq hVz) (Nat.le_of_eq hVz.symm)
 have hlv:w.heap.size<V.heap.size∧w.heap.size+1<V.heap.size∧w.heap.size+1+1<V.heap.size:=(by refine⟨?_, ?_, ?_⟩<;>omega)
 have hd:=q_11 w.heap.size (w.heap.size+1) (w.heap.size+1+1)
 have hnv:¬w.heap.size=V.heap.size∧¬w.heap.size+1=V.heap.size∧¬w.heap.size+1+1=V.heap.size:=(by omega)
 go_cut [7,8] (fun sx0 sx1 wx=>∃g h:Nat,sx0=.pointer (some ⟨g,0,none⟩)∧sx1=.pointer (some ⟨h,0,none⟩)∧Ext V wx∧V.heap.size≤g∧g<wx.heap.size∧(∀o,wx.frozen? ⟨g,o,none⟩=false)∧V.heap.size≤h∧h<wx.heap.size∧(∀o,wx.frozen? ⟨h,o,none⟩=false)∧g≠h∧wx.cell? ⟨g,0,none⟩=some (O ((-b*1099511627776)/18446744073709551616))∧wx.cell? ⟨g,1,none⟩=some (.int .u64 ((-b*1099511627776)%18446744073709551616))∧wx.cell? ⟨h,0,none⟩=some (O ((-a*1099511627776)/18446744073709551616))∧wx.cell? ⟨h,1,none⟩=some (.int .u64 ((-a*1099511627776)%18446744073709551616)))
 case first=>
  have hWe:Ext V V:=Ext.refl V
  go_region_held3 (fun w'=>(∀b o,b<V.heap.size→w'.cell? ⟨b,o,none⟩=if b=V.heap.size∧0≤o∧o<0 then(V.cell? ⟨b,o,none⟩).map (obx w' b o)else V.cell? ⟨b,o,none⟩)∧(∀b o,b<V.heap.size→w'.frozen? ⟨b,o,none⟩=V.frozen? ⟨b,o,none⟩)∧V.heap.size≤w'.heap.size∧Ext V w') (exact k_1) ((first| (go_at_call 95;(with_reducible refine(times_any (-b) 1099511627776 _ hA hM).mono ?_);rintro e w2 ⟨rfl,hb0⟩;obtain⟨hq0,hr0⟩:=hb0.cells;have hz0:=hb0.size;(try simp only[wsd]at hz0 hq0 hr0);(try have hly0:V.heap.size<w2.heap.size:=by omega);(try have hly1:V.heap.size+1<w2.heap.size:=by omega))| (go_at_call 95;(with_reducible refine(times_any (-a) 1099511627776 _ hB hM).mono ?_);rintro e w3 ⟨rfl,hb1⟩;obtain⟨hq1,hr1⟩:=hb1.cells;have hz1:=hb1.size;(try simp only[wsd]at hz1 hq1 hr1);(try have hly0:V.heap.size<w3.heap.size:=by omega);(try have hly1:V.heap.size+1<w3.heap.size:=by omega);(try have hly2:w2.heap.size<w3.heap.size:=by omega);(try have hly3:w2.heap.size+1<w3.heap.size:=by omega))))
  all_goals
   rename_i hOld
   clear hOld
   go_wp2_with fail
   go_meet
   refine⟨_,_,rfl,rfl, ?_, ?_, ?_, ?_, ?_, ?_, ?_, ?_, ?_, ?_, ?_, ?_⟩
   ·exact b_20
   all_goals first| ((try simp only[wsz]);omega)| (intro o;simp[go_sem, ↓IntWalk.iteOmega, *];done)| (simp[go_sem, ↓IntWalk.iteOmega, *];done)
 case rest=>
  obtain⟨g,h,rfl,rfl,hx,hg01,hg02,hgf0,hg11,hg12,hgf1,hgh,hv00,hv01,hv10,hv11⟩:=hcut
  obtain⟨_,_,hcc,hcf⟩:=hx.cells2
  have hcz:=hx.size
  replace hVe:=hVe.trans hx
  have hlv2:w.heap.size<wc.heap.size∧w.heap.size+1<wc.heap.size∧w.heap.size+1+1<wc.heap.size:=(by omega)
  have hlg:=q_6 w.heap.size g h (w.heap.size+1) (w.heap.size+1+1)
  clear hx
  go_wp2_with fail
  refine wp_name fun W hW=> ?_
  obtain⟨hWc,hWf,hWz⟩:=hW.cells
  have hlw:=q_1 w.heap.size wc.heap.size (w.heap.size+1) (w.heap.size+1+1) g h
  have hWe:Ext w W:=Ext.same hW ex_
  (try simp only[wsz]at hWz)
  go_region_held3 (fun w'=>(∀b o,b<W.heap.size→w'.cell? ⟨b,o,none⟩=if b=w.heap.size∧0≤o∧o<0 then(W.cell? ⟨b,o,none⟩).map (obx w' b o)else W.cell? ⟨b,o,none⟩)∧(∀b o,b<W.heap.size→w'.frozen? ⟨b,o,none⟩=W.frozen? ⟨b,o,none⟩)∧W.heap.size≤w'.heap.size∧Ext w w') (exact k_2) (fail)
  rename_i hOld
  have hE:=hOld.2.2.2
  have hO:=And.intro hOld.1 (And.intro hOld.2.1 hOld.2.2.1)
  clear hOld
  obtain⟨hOc,hOf,hOz⟩:=heldEnd hO
  clear hO
  go_wp2_with fail
  refine wp_name fun W hW=> ?_
  obtain⟨hWc,hWf,hWz⟩:=hW.cells
  have hlw:w.heap.size<wc.heap.size∧w.heap.size+1<wc.heap.size∧w.heap.size+1+1<wc.heap.size:=(by omega)
  have hWe:Ext w W:=Ext.same hW ex_
  (try simp only[wsz]at hWz)
  go_region_held3 (fun w'=>(∀b o,b<W.heap.size→w'.cell? ⟨b,o,none⟩=if b=w.heap.size+1+1∧0≤o∧o<2 then(W.cell? ⟨b,o,none⟩).map (obx w' b o)else W.cell? ⟨b,o,none⟩)∧(∀b o,b<W.heap.size→w'.frozen? ⟨b,o,none⟩=W.frozen? ⟨b,o,none⟩)∧W.heap.size≤w'.heap.size∧Ext w w') (exact k_2) ((first| (go_at_call 96;(with_reducible refine(down_any _ _ _ (abs_mul_bound hA hM).1 (abs_mul_bound hA hM).2 (by omega) (by omega)).mono ?_);rintro e w2 ⟨rfl,hb2⟩;have hz2:=hb2.size;(try rw[size_drew]at hz2))| (go_at_call 97;(with_reducible refine(up_any _ _ _ (abs_mul_bound hB hM).1 (abs_mul_bound hB hM).2 (by omega) (by omega)).mono ?_);rintro e w2 ⟨rfl,hb2⟩;have hz2:=hb2.size;(try rw[size_drew]at hz2))| (go_at_call 92;(with_reducible refine(span_made _ _ _).mono ?_);rintro e w2 ⟨rfl,hb2⟩;have hz2:=hb2.size;(try rw[size_drew]at hz2))))
  all_goals
   rename_i hOld
   have hE:=hOld.2.2.2
   have hO:=And.intro hOld.1 (And.intro hOld.2.1 hOld.2.2.1)
   clear hOld
   replace hO:=heldBack hO c_14
   replace hO:=heldBack hO c_14
   obtain⟨hOc,hOf,hOz⟩:=heldEnd hO
   clear hO
   go_wp2_with fail
   refine bodyPost_ret (v:=.tuple #[.agg #[O (divP (-b) (-a) (-d) (-c)).lo,O (divP (-b) (-a) (-d) (-c)).hi],O (divP (-b) (-a) (-d) (-c)).e]) ?_ rfl ⟨rfl, ?_⟩
   ·(try simp only[bn_,bm_]at*)
    simp[results,Tryz.results71,go_sem, ↓IntWalk.iteOmega,eV, *]
   ·exact b_1
theorem sdiv_e (a b c d:Int) (w:World) (hk:¬ck2 a b c d=0):
    K_ 71 #[.agg #[O a,O b],.agg #[O c,O d]] w fun e w'=>e=.returned (.tuple #[.agg #[O (R3.mk 0 0 (ck2 a b c d)).lo,O (R3.mk 0 0 (ck2 a b c d)).hi],O (R3.mk 0 0 (ck2 a b c d)).e])∧Ext w w':=by
 go_enter Tryz.func71,Tryz.ntmps71
 go_wp2_with (first| (go_at_call 91;(with_reducible refine(check_2 _ _ _ _ _ _ c_43).mono ?_);rintro e w1 ⟨rfl,hb⟩;obtain⟨_,_,⟨hc,hf⟩,hz⟩:=hb.c3;(try simp only[wsz]at hz hc hf)))
 all_goals
  refine bodyPost_ret (v:=.tuple #[.agg #[O (R3.mk 0 0 (ck2 a b c d)).lo,O (R3.mk 0 0 (ck2 a b c d)).hi],O (R3.mk 0 0 (ck2 a b c d)).e]) ?_ rfl ⟨rfl, ?_⟩
  ·(try simp only[bn_,bm_]at*)
   simp[results,Tryz.results71,go_sem, ↓IntWalk.iteOmega,ne_eq, *]
  ·exact b_1
theorem sdiv_z (a b c d:Int) (w:World) (hk:ck2 a b c d=0) (h0:c≤0) (h1:0≤d):
    K_ 71 #[.agg #[O a,O b],.agg #[O c,O d]] w fun e w'=>e=.returned (.tuple #[.agg #[O (R3.mk 0 0 18).lo,O (R3.mk 0 0 18).hi],O (R3.mk 0 0 18).e])∧Ext w w':=by
 go_enter Tryz.func71,Tryz.ntmps71
 go_wp2_with (first| (go_at_call 91;(with_reducible refine(check_2 _ _ _ _ _ _ c_43).mono ?_);rintro e w1 ⟨rfl,hb⟩;obtain⟨_,_,⟨hc,hf⟩,hz⟩:=hb.c3;(try simp only[wsz]at hz hc hf)))
 all_goals
  refine bodyPost_ret (v:=.tuple #[.agg #[O (R3.mk 0 0 18).lo,O (R3.mk 0 0 18).hi],O (R3.mk 0 0 18).e]) ?_ rfl ⟨rfl, ?_⟩
  ·(try simp only[bn_,bm_]at*)
   simp[results,Tryz.results71,go_sem, ↓IntWalk.iteOmega,ne_eq, *]
  ·exact b_1
theorem span_div (a b c d:Int) (w:World):
    K_ 71 #[.agg #[O a,O b],.agg #[O c,O d]] w fun e w'=>e=.returned (.tuple #[.agg #[O (divI a b c d).lo,O (divI a b c d).hi],O (divI a b c d).e])∧Ext w w':=by
 by_cases hk:ck2 a b c d=0
 ·by_cases h0:c≤0∧0≤d
  ·have e:divI a b c d=⟨0,0,18⟩:=by unfold divI;rw[if_neg c_60,if_pos h0]
   rw[e];exact sdiv_z a b c d w hk h0.1 h0.2
  ·have hc:=(ckI_ok (ck2_ok hk).2).1
   by_cases h1:d<0
   ·have e:divI a b c d=divP (-b) (-a) (-d) (-c):=by unfold divI;rw[if_neg c_60,if_neg h0,if_pos h1]
    rw[e];exact sdiv_n a b c d w hk h1
   ·have e:divI a b c d=divP a b c d:=by unfold divI;rw[if_neg c_60,if_neg h0,if_neg h1]
    rw[e];exact sdiv_p a b c d w hk (by omega)
 ·have e:divI a b c d=⟨0,0,ck2 a b c d⟩:=by unfold divI;rw[if_pos c_60]
  rw[e];exact sdiv_e a b c d w hk
theorem mkO_all {x:Nat×BF} {u:List (Nat×BF)} {Q:BF→Prop} (h0:Q x.2) (h:∀y∈u,Q y.2):∀m,Q ((mkO x u).bf m):=by
 intro m
 cases m with
 |zero=>exact h0
 |succ k=>
  show Q (((u[k]?).map (·.2)).getD x.2)
  cases hk:u[k]? with
  |none=>exact h0
  |some y=>exact h y (List.mem_of_getElem? hk)
section
variable {ops:Array Oper} {V:Nat→VF} {B:List BR} {Kp:World→Prop} {a0:Act} {n0:Nat} {i:Nat} {o:Oper}
theorem Ctx.fix {vs:Nat→Value} {gs:Nat→Nat} {w:World} (c:Ctx ops V B Kp n0 i o vs gs w) (n k:Nat) {x:Nat×BF} {u:List (Nat×BF)} {v:Value} (hx:B[n]? =some (mkO x u):=by rfl) (h0:∃l,x.2=BF.own l∧l[k]? =some v:=by exact⟨_,rfl,rfl⟩)
    (h:∀y∈u,∃l,y.2=BF.own l∧l[k]? =some v:=by intro y hy;repeat(first| (cases hy;done)| (cases hy with|head=>exact⟨_,rfl,rfl⟩|tail _ hy=> ?_))):w.cell? ⟨x.1,k,none⟩=some v:=by
 have hA:=c.b n _ hx
 have e0:gs n=x.1:=hA.old rfl
 obtain⟨m,hm⟩:=hA.any rfl
 rw[e0]at hm
 obtain⟨l,e1,e2⟩:=mkO_all (Q:=fun bf=>∃l,bf=BF.own l∧l[k]? =some v) h0 h m
 rw[e1]at hm
 exact hm.1 k v e2
theorem ob_k {u:Value} (hc:ChkP ops a0 B) (hs:∀(ρ:Operand→Value) (w:World),(execOp ρ o).run Tryz.prog w=.ok (.value u) w:=by intro ρ w;go_simp) (hV:(V i).p=(VF.eq u).p:=by rfl)
    (hg:Gd ops V o:=by first|exact .inl rfl|exact .inr ⟨_,_,rfl,rfl,by kernel_rfl⟩) (hfr:free (B.map BR.key) i=true:=by kernel_rfl):ObI Tryz.prog ops V B Kp a0 n0 i o:=
  ob_eq hc (fun _ _ w ρ _ _=>hs ρ w) hV hg hfr
theorem ob_ld6 {x:Operand} {g f:Nat} {u0 u1 u2 u3 u4 u5:Value} (p:Option Nat) (hc:ChkP ops a0 B) (hop:o.op=.load 32 x) (h:∀(vs:Nat→Value) (gs:Nat→Nat) (w:World),Ctx ops V B Kp n0 i o vs gs w→w.cell? ⟨g,f,none⟩=some u0∧w.cell? ⟨g,f+1,none⟩=some u1∧w.cell? ⟨g,f+2,none⟩=some u2∧w.cell? ⟨g,f+3,none⟩=some u3∧w.cell? ⟨g,f+4,none⟩=some u4∧w.cell? ⟨g,f+5,none⟩=some u5)
    (ha:Opd ops V a0 o x (.pointer (some ⟨g,f,none⟩)) p:=by first|exact⟨fun _=>by kernel_rfl,rfl,by kernel_rfl⟩|exact fun _=>by kernel_rfl) (hV:(V i).p=(VF.eq (.agg #[u0,u1,u2,u3,u4,u5])).p:=by rfl) (hg:Gd ops V o:=by first|exact .inl rfl|exact .inr ⟨_,_,rfl,rfl,by kernel_rfl⟩) (hfr:free (B.map BR.key) i=true:=by kernel_rfl):ObI Tryz.prog ops V B Kp a0 n0 i o:=
  ob_val hc (fun vs gs w ρ hr c=>⟨.agg #[u0,u1,u2,u3,u4,u5],by
    have e1:=ha.get c hr
    obtain⟨k0,k1,k2,k3,k4,k5⟩:=h vs gs w c
    obtain⟨dst,op,ty,pos,af,gd⟩:=o
    dsimp only at hop
    subst hop
    clear c h hr ha
    go_simp,by rw[hV];rfl⟩) hg hfr
end
theorem calls_ownk {f:Nat} {args:Array Value} {w:World} {p k:Nat} {l l':List Value} {v u:Value} (hb:(BF.own l).p p w) (h:K_ f args w fun e w'=>e=.returned u∧Ext (w.setCell ⟨p,k,none⟩ v) w') (hv:∀z,v≠ .int .u32 z:=by simp) (hk:k<l.length:=by simp) (hl:l'=l.set k v:=by rfl):
    K_ f args w fun e w'=>∃t,e=.returned t∧t=u∧GB p w w'∧(BF.own l').p p w':=by
 subst hl
 refine h.mono ?_
 rintro e w' ⟨rfl,q⟩
 exact⟨u,rfl,rfl,((GB.refl p w).set v).trans (GB.ext q),(BF.own _).ext _ _ _ (own_set hb (k:=k) hk hv) q⟩
def SH (E:Int):BF:=BF.own [.func (.func 42) #[] #[],.func (.func 70) #[] #[],.func (.func 48) #[] #[],.func (.func 71) #[] #[],O (E)]
theorem b_add {p:Nat} {E a b c d:Int} {w:World} {u0 u1 u2 u3:Value} (h0:u0=.pointer (some ⟨p,0,none⟩)) (h1:u1=.func (.func 42) #[] #[]) (h2:u2=.agg #[O a,O b]) (h3:u3=.agg #[O c,O d]) (hb:(SH E).p p w):
    K_ 32 #[u0,u1,u2,u3] w fun e w'=>∃t,e=.returned t∧t=.agg #[O (doI E (addI a b c d)).lo,O (doI E (addI a b c d)).hi]∧GB p w w'∧(SH (doI E (addI a b c d)).e).p p w':=by
 subst h0 h1 h2 h3
 exact calls_ownk hb (d_add p E a b c d w (hb.1 4 _ rfl) (hb.2.1 4))
theorem b_mul {p:Nat} {E a b c d:Int} {w:World} {u0 u1 u2 u3:Value} (h0:u0=.pointer (some ⟨p,0,none⟩)) (h1:u1=.func (.func 48) #[] #[]) (h2:u2=.agg #[O a,O b]) (h3:u3=.agg #[O c,O d]) (hb:(SH E).p p w) (ha:I64 a∧I64 b) (hc:I64 c∧I64 d):
    K_ 32 #[u0,u1,u2,u3] w fun e w'=>∃t,e=.returned t∧t=.agg #[O (doI E (mulI a b c d)).lo,O (doI E (mulI a b c d)).hi]∧GB p w w'∧(SH (doI E (mulI a b c d)).e).p p w':=by
 subst h0 h1 h2 h3
 exact calls_ownk hb (d_mul p E a b c d w (hb.1 4 _ rfl) (hb.2.1 4) ha hc)
theorem KBp.one {p:Nat} {w:World} {bf:BF} (h:bf.p p w):KBp p w [(p,bf)] w:=⟨GB.refl p w,⟨h,trivial⟩,by simp,fun x hx=>.inr (by rw[List.mem_singleton.1 hx])⟩
theorem SH.nu {E:Int}:True:=trivial
theorem b_mul1 {p:Nat} {E a b c d:Int} {w:World} {u0 u1 u2 u3:Value} {x:R3} (hx:doI E (mulI a b c d)=x) (h0:u0=.pointer (some ⟨p,0,none⟩)) (h1:u1=.func (.func 48) #[] #[]) (h2:u2=.agg #[O a,O b]) (h3:u3=.agg #[O c,O d]) (hb:(SH E).p p w) (ha:I64 a∧I64 b) (hc:I64 c∧I64 d):
    K_ 32 #[u0,u1,u2,u3] w fun e w'=>∃t,e=.returned t∧t=.agg #[O x.lo,O x.hi]∧GB p w w'∧(SH x.e).p p w':=by
 subst hx;exact b_mul h0 h1 h2 h3 hb ha hc
theorem b_add1 {p:Nat} {E a b c d:Int} {w:World} {u0 u1 u2 u3:Value} {x:R3} (hx:doI E (addI a b c d)=x) (h0:u0=.pointer (some ⟨p,0,none⟩)) (h1:u1=.func (.func 42) #[] #[]) (h2:u2=.agg #[O a,O b]) (h3:u3=.agg #[O c,O d]) (hb:(SH E).p p w):
    K_ 32 #[u0,u1,u2,u3] w fun e w'=>∃t,e=.returned t∧t=.agg #[O x.lo,O x.hi]∧GB p w w'∧(SH x.e).p p w':=by
 subst hx;exact b_add h0 h1 h2 h3 hb
def unitV (cd cr sr sd:Int×Int):V3:=
 ⟨(doI 0 (mulI cd.1 cd.2 cr.1 cr.2)).lo,(doI 0 (mulI cd.1 cd.2 cr.1 cr.2)).hi,(doI (doI 0 (mulI cd.1 cd.2 cr.1 cr.2)).e (mulI cd.1 cd.2 sr.1 sr.2)).lo,(doI (doI 0 (mulI cd.1 cd.2 cr.1 cr.2)).e (mulI cd.1 cd.2 sr.1 sr.2)).hi,sd.1,sd.2⟩
def eastV (cr sr:Int×Int):V3:=⟨(doI 0 (subI 0 0 sr.1 sr.2)).lo,(doI 0 (subI 0 0 sr.1 sr.2)).hi,cr.1,cr.2,0,0⟩
def frM1 (cr sr sd:Int×Int):R3:=doI (doI 0 (subI 0 0 sr.1 sr.2)).e (mulI sd.1 sd.2 cr.1 cr.2)
def frN2 (cr sr sd:Int×Int):R3:=doI (frM1 cr sr sd).e (subI 0 0 (frM1 cr sr sd).lo (frM1 cr sr sd).hi)
def frM2 (cr sr sd:Int×Int):R3:=doI (frN2 cr sr sd).e (mulI sd.1 sd.2 sr.1 sr.2)
def frN3 (cr sr sd:Int×Int):R3:=doI (frM2 cr sr sd).e (subI 0 0 (frM2 cr sr sd).lo (frM2 cr sr sd).hi)
def northV (cd cr sr sd:Int×Int):V3:=⟨(frN2 cr sr sd).lo,(frN2 cr sr sd).hi,(frN3 cr sr sd).lo,(frN3 cr sr sd).hi,cd.1,cd.2⟩
theorem p_Bits0 (ao:Option Addr) (cap:Nat) (w:World) (hu:Lim w (.slice ao 0 cap) []):K_ 80 #[.agg #[.bool false,.slice ao 0 cap]] w fun e w'=>e=.returned (.tuple #[O 0,O 0])∧Ext w w':=by
 have hck:=z_check_one (w.alloc (.cells #[.bool false,.slice ao 0 cap] 24)) (.slice ao 0 cap) false 0 (hu.ext ((Ext.refl w).alloc _)) (dig_bits (k:=64) (L:=4096) (by decide) (by decide)) (fun _=>rfl)
 simp only[World.size_alloc]at hck
 clear hu
 go_enter Tryz.func80,Tryz.ntmps80
 go_wp2_with (go_at_call 77;(with_reducible refine hck.mono ?_);rintro e w1 ⟨rfl,hb⟩;obtain⟨_,_,⟨hc,hf⟩,hz⟩:=hb.c3;(try simp only[wsz]at hz hc hf))
 refine bodyPost_ret (v:=.tuple #[O 0,O 0]) ?_ rfl ⟨rfl,ex_⟩
 simp[results,Tryz.results80,go_sem, ↓IntWalk.iteOmega]
theorem T_ZN_3 {p:Prop} (h:p:=by
 clear hck hu
 simp only[List.length_cons,List.length_nil,Nat.zero_add,Nat.reduceAdd]at v2 hck3 ⊢
 go_enter Tryz.func99,Tryz.ntmps99
 go_wp2_with (go_at_call 77;(with_reducible refine hck3.mono ?_);rintro e w1 ⟨rfl,hb⟩;obtain⟨_,_,⟨hc,hf⟩,hz⟩:=hb.c3;(try simp only[wsz]at hz hc hf))
 refine wp_loop_rounds 2 ?_
 rw[rounds_succ]
 go_wp2_with fail
 exact T_ZN_1):p:=h
theorem T_ZN_2 {p:Prop} (h:p:=by
 clear hck hu
 simp only[List.length_cons,List.length_nil,Nat.zero_add,Nat.reduceAdd]at v2 hck3 ⊢
 go_enter Tryz.func99,Tryz.ntmps99
 go_wp2_with (go_at_call 77;(with_reducible refine hck3.mono ?_);rintro e w1 ⟨rfl,hb⟩;obtain⟨_,_,⟨hc,hf⟩,hz⟩:=hb.c3;(try simp only[wsz]at hz hc hf))
 refine wp_loop_rounds 3 ?_
 rw[rounds_succ]
 go_wp2_with fail
 rw[rounds_succ]
 go_wp2_with fail
 exact T_ZN_1):p:=h
theorem T_ZN_1 {p:Prop} (h:p:=by
 rw[rounds_succ]
 go_wp2_with fail
 go_ret2
 exact⟨rfl,ex_⟩):p:=h
theorem or_lh (h l:Int) (h0:0≤h) (h1:h<4294967296) (hl:U32 l):bits .or .u64 l (h*4294967296)=l+h*4294967296:=by
 unfold U32 at hl
 obtain⟨a,rfl⟩:=Int.eq_ofNat_of_zero_le h0
 obtain⟨b,rfl⟩:=Int.eq_ofNat_of_zero_le hl.1
 have e3:(a:Int)*4294967296=((2^32*a:Nat):Int):=by rw[Int.natCast_mul];omega
 have e:=Nat.two_pow_add_eq_or_of_lt (i:=32) (b:=b) (by omega) a
 rw[e3,u64_or_nat _ _ (by omega) (by omega),Nat.or_comm, ←e]
 omega
theorem or_zero (l:Int) (hl:U32 l):bits .or .u64 0 l=l:=by
 unfold U32 at hl
 obtain⟨b,rfl⟩:=Int.eq_ofNat_of_zero_le hl.1
 rw[show(0:Int)=((0:Nat):Int)from rfl,u64_or_nat _ _ (by omega) (by omega),Nat.zero_or]
theorem two_limbs {X:List Int} (h:X.length≤2):X=[]∨(∃a,X=[a])∨∃a b,X=[a,b]:=by
 match X,h with
 | [],_=>exact Or.inl rfl
 | [a],_=>exact Or.inr (Or.inl ⟨a,rfl⟩)
 | [a,b],_=>exact Or.inr (Or.inr ⟨a,b,rfl⟩)
 |a::b::c::r,h=>simp at h
theorem z_Int0false (va u:Value) (w:World) (hva:va=.agg #[.bool false,u]) (hu:Lim w u [])
    (hck:∀w1,Ext w w1→K_ 77 #[.slice (some ⟨w1.heap.size,0,none⟩) 1 1] (w1.alloc (.cells #[.bool false,u] 24)) fun e w'=>e=.returned (O 0)∧Ext (w1.alloc (.cells #[.bool false,u] 24)) w'):
    K_ 99 #[va] w fun e w'=>e=.returned (.tuple #[O (0),O 0])∧Ext w w':=by
 subst hva
 obtain⟨ao,b1,o1,cap1,rfl,v1,v2,v3,v4,v5,v6⟩:=hu.view
 clear v1 v5 v4 v6
 have hck3:=hck (w.alloc (.cells #[.bool false,.slice ao 0 cap1] 24)) ex_
 simp only[World.size_alloc]at hck3
 clear hck hu
 simp only[List.length_cons,List.length_nil,Nat.zero_add,Nat.reduceAdd]at v2 hck3 ⊢
 go_enter Tryz.func99,Tryz.ntmps99
 go_wp2_with (go_at_call 77;(with_reducible refine hck3.mono ?_);rintro e w1 ⟨rfl,hb⟩;obtain⟨_,_,⟨hc,hf⟩,hz⟩:=hb.c3;(try simp only[wsz]at hz hc hf))
 refine wp_loop_rounds 1 ?_
 exact T_ZN_1
theorem z_Int1false (a:Int) (va u:Value) (w:World) (hva:va=.agg #[.bool false,u]) (hu:Lim w u [a])
    (hck:∀w1,Ext w w1→K_ 77 #[.slice (some ⟨w1.heap.size,0,none⟩) 1 1] (w1.alloc (.cells #[.bool false,u] 24)) fun e w'=>e=.returned (O 0)∧Ext (w1.alloc (.cells #[.bool false,u] 24)) w'):
    K_ 99 #[va] w fun e w'=>e=.returned (.tuple #[O (a),O 0])∧Ext w w':=by
 subst hva
 obtain⟨ao,b1,o1,cap1,rfl,v1,v2,v3,v4,v5,v6⟩:=hu.view
 have haU:U32 a:=(hu.lb.getD 0)
 have e0:=v1 (by simp)
 subst e0
 have hl0:=v5 0 (by simp)
 have hbl:=v4 (by simp)
 simp only[List.getD_cons_zero,List.getD_cons_succ,Nat.add_zero]at hl0
 have ho0:=or_zero a haU
 unfold U32 at haU
 clear v1 v5 v4 v6
 have hck3:=hck (w.alloc (.cells #[.bool false,.slice (some ⟨b1,o1,none⟩) 1 cap1] 24)) ex_
 simp only[World.size_alloc]at hck3
 exact T_ZN_3
theorem z_Int1true (a:Int) (va u:Value) (w:World) (hva:va=.agg #[.bool true,u]) (hu:Lim w u [a])
    (hck:∀w1,Ext w w1→K_ 77 #[.slice (some ⟨w1.heap.size,0,none⟩) 1 1] (w1.alloc (.cells #[.bool true,u] 24)) fun e w'=>e=.returned (O 0)∧Ext (w1.alloc (.cells #[.bool true,u] 24)) w'):
    K_ 99 #[va] w fun e w'=>e=.returned (.tuple #[O (-(a)),O 0])∧Ext w w':=by
 subst hva
 obtain⟨ao,b1,o1,cap1,rfl,v1,v2,v3,v4,v5,v6⟩:=hu.view
 have haU:U32 a:=(hu.lb.getD 0)
 have e0:=v1 (by simp)
 subst e0
 have hl0:=v5 0 (by simp)
 have hbl:=v4 (by simp)
 simp only[List.getD_cons_zero,List.getD_cons_succ,Nat.add_zero]at hl0
 have ho0:=or_zero a haU
 unfold U32 at haU
 have hng:IntKind.i64.wrap (IntKind.u64.wrap (-(a)))= -(a):=by rw[IntKind.wrap_i64,IntKind.wrap_u64];omega
 have hng2:wrap64 (IntKind.u64.wrap (-a))= -a:=by rw[IntKind.wrap_u64];unfold wrap64;omega
 have hle:decide ((a)≤9223372036854775808)=true:=decide_eq_true (by omega)
 clear v1 v5 v4 v6
 have hck3:=hck (w.alloc (.cells #[.bool true,.slice (some ⟨b1,o1,none⟩) 1 cap1] 24)) ex_
 simp only[World.size_alloc]at hck3
 exact T_ZN_3
theorem z_Int2false (a b:Int) (va u:Value) (w:World) (hva:va=.agg #[.bool false,u]) (hu:Lim w u [a,b]) (hlt:a+b*4294967296<9223372036854775808)
    (hck:∀w1,Ext w w1→K_ 77 #[.slice (some ⟨w1.heap.size,0,none⟩) 1 1] (w1.alloc (.cells #[.bool false,u] 24)) fun e w'=>e=.returned (O 0)∧Ext (w1.alloc (.cells #[.bool false,u] 24)) w'):
    K_ 99 #[va] w fun e w'=>e=.returned (.tuple #[O (a+b*4294967296),O 0])∧Ext w w':=by
 subst hva
 obtain⟨ao,b1,o1,cap1,rfl,v1,v2,v3,v4,v5,v6⟩:=hu.view
 have haU:U32 a:=(hu.lb.getD 0)
 have e0:=v1 (by simp)
 subst e0
 have hl0:=v5 0 (by simp)
 have hbl:=v4 (by simp)
 simp only[List.getD_cons_zero,List.getD_cons_succ,Nat.add_zero]at hl0
 have ho0:=or_zero a haU
 have hbU:U32 b:=(hu.lb.getD 1)
 have hl1:=v5 1 (by simp)
 simp only[List.getD_cons_zero,List.getD_cons_succ]at hl1
 have ho1:=or_lh b a (by unfold U32 at hbU;omega) (by unfold U32 at hbU;omega) haU
 unfold U32 at haU
 unfold U32 at hbU
 clear v1 v5 v4 v6
 have hck3:=hck (w.alloc (.cells #[.bool false,.slice (some ⟨b1,o1,none⟩) 2 cap1] 24)) ex_
 simp only[World.size_alloc]at hck3
 exact T_ZN_2
theorem z_Int2true (a b:Int) (va u:Value) (w:World) (hva:va=.agg #[.bool true,u]) (hu:Lim w u [a,b]) (hlt:a+b*4294967296≤9223372036854775808)
    (hck:∀w1,Ext w w1→K_ 77 #[.slice (some ⟨w1.heap.size,0,none⟩) 1 1] (w1.alloc (.cells #[.bool true,u] 24)) fun e w'=>e=.returned (O 0)∧Ext (w1.alloc (.cells #[.bool true,u] 24)) w'):
    K_ 99 #[va] w fun e w'=>e=.returned (.tuple #[O (-(a+b*4294967296)),O 0])∧Ext w w':=by
 subst hva
 obtain⟨ao,b1,o1,cap1,rfl,v1,v2,v3,v4,v5,v6⟩:=hu.view
 have haU:U32 a:=(hu.lb.getD 0)
 have e0:=v1 (by simp)
 subst e0
 have hl0:=v5 0 (by simp)
 have hbl:=v4 (by simp)
 simp only[List.getD_cons_zero,List.getD_cons_succ,Nat.add_zero]at hl0
 have ho0:=or_zero a haU
 have hbU:U32 b:=(hu.lb.getD 1)
 have hl1:=v5 1 (by simp)
 simp only[List.getD_cons_zero,List.getD_cons_succ]at hl1
 have ho1:=or_lh b a (by unfold U32 at hbU;omega) (by unfold U32 at hbU;omega) haU
 unfold U32 at haU
 unfold U32 at hbU
 have hng:IntKind.i64.wrap (IntKind.u64.wrap (-(a+b*4294967296)))= -(a+b*4294967296):=by rw[IntKind.wrap_i64,IntKind.wrap_u64];omega
 have hng2:wrap64 (IntKind.u64.wrap (-(a+b*4294967296)))= -(a+b*4294967296):=by rw[IntKind.wrap_u64];unfold wrap64;omega
 have hle:decide ((a+b*4294967296)≤9223372036854775808)=true:=decide_eq_true (by omega)
 clear v1 v5 v4 v6
 have hck3:=hck (w.alloc (.cells #[.bool true,.slice (some ⟨b1,o1,none⟩) 2 cap1] 24)) ex_
 simp only[World.size_alloc]at hck3
 exact T_ZN_2
theorem z_Int (va:Value) (n:Int) (w:World) (ha:Wid w va n) (h0: -9223372036854775808≤n) (h1:n≤9223372036854775807):
    K_ 99 #[va] w fun e w'=>e=.returned (.tuple #[O n,O 0])∧Ext w w':=by
 obtain⟨u,hva,hu⟩:=ha
 have hs:Sz n:=dig_bits (k:=64) (L:=4096) (by omega) (by decide)
 have hl2:(dig n.natAbs).length≤2:=dig_bits (k:=64) (L:=2) (by omega) (by decide)
 have hck:=fun w1 (k1:Ext w w1)=>z_check_one w1 _ (decide (n<0)) n.natAbs (hu.ext k1) hs (wid_s _ rfl)
 have hv:=dig_val n.natAbs
 have hp:=dig_pos (m:=n.natAbs)
 rcases two_limbs hl2 with e| ⟨a,e⟩| ⟨a,b,e⟩
 ·rw[e]at hv hu
  simp only[val]at hv
  have hn:n=0:=by omega
  have hd:decide (n<0)=false:=decide_eq_false (by omega)
  rw[hd]at hva hck
  rw[hn]
  exact z_Int0false va u w hva hu hck
 ·rw[e]at hv hu
  simp only[val]at hv
  have hB:BB=4294967296:=rfl
  rw[hB]at hv
  by_cases h:n<0
  ·rw[decide_eq_true h]at hva hck
   have hn:n= -a:=by omega
   rw[hn]
   exact z_Int1true a va u w hva hu hck
  ·rw[decide_eq_false h]at hva hck
   have hn:n=a:=by omega
   rw[hn]
   exact z_Int1false a va u w hva hu hck
 ·rw[e]at hv hu
  simp only[val]at hv
  have hB:BB=4294967296:=rfl
  rw[hB]at hv
  by_cases h:n<0
  ·rw[decide_eq_true h]at hva hck
   have hn:n= -(a+b*4294967296):=by omega
   rw[hn]
   exact z_Int2true a b va u w hva hu (by omega) hck
  ·rw[decide_eq_false h]at hva hck
   have hn:n=a+b*4294967296:=by omega
   rw[hn]
   exact z_Int2false a b va u w hva hu (by omega) hck
end Go.Proofs.YtaoioncjmfcolaaGreat
