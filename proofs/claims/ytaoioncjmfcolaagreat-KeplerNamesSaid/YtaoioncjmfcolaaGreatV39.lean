/- kepler.shape. -/
import Derived.Test.YtaoioncjmfcolaaGreatV37
import Derived.Test.YtaoioncjmfcolaaGreatV38
set_option linter.unusedSimpArgs false
set_option linter.unusedVariables false
set_option maxRecDepth 100000
set_option maxHeartbeats 4000000
namespace Go.Proofs.YtaoioncjmfcolaaGreat
open Go.RowKit
theorem T_KS_8 {p:Prop} (h:p:=by
 rw[←hU]
 refine⟨fun o ho=> ?_,fun o=>by simp[go_sem, ↓IntWalk.iteOmega],by simp<;>omega⟩
 have hoo:o=0∨o=1∨o=2∨o=3∨o=4∨o=5:=by omega
 rcases hoo with rfl|rfl|rfl|rfl|rfl|rfl<;>simp[go_sem, ↓IntWalk.iteOmega,pf]):p:=h
theorem T_KS_7 {p:Prop} (h:p:=by
 (try dsimp only);exact⟨kV,kG,⟨hO.at 0 l2 (by decide) rfl,hO.at 1 u2 (by decide) rfl⟩,hE⟩):p:=h
theorem T_KS_6 {p:Prop} (h:p:=by
 refine rh1 2 rfl fun K hK=> ?_
 obtain⟨kH,kG, -,hE⟩:=id hHeld
 go_simp
 (go_at_call 12;(with_reducible refine(s8.out _).mono ?_);rintro e w1 ⟨rfl,hb⟩;replace hO:=hO.ext hb;replace kH:=kH.ext hb;replace kG:=kG.ext hb;replace hSl:=hSl.ext hb;replace hE:=hE.trans hb)
 refine hK.out _ _ ?_ fun _=> ?_
 ·exact T_KS_5
 clear hK K hHeld
 rename_i hHeld
 try simp only[sx_]
 clear kH kG hE hb
 refine sK 3 ?_
 refine sK 4 ?_
 exact T_KS_3):p:=h
theorem T_KS_5 {p:Prop} (h:p:=by
 (try dsimp only);exact⟨kH,kG,⟨hO.at 2 l6 (by decide) rfl,hO.at 3 u6 (by decide) rfl⟩,hE⟩):p:=h
theorem T_KS_4 {p:Prop} (h:p:=by
 rw[←hU]
 repeat(first|with_reducible exact Ext.refl _|with_reducible assumption|with_reducible refine Ext.alloc ?_ _|with_reducible refine Ext.setCell ?_ c_27 _|with_reducible refine Ext.drewN ?_ _|with_reducible refine Ext.drew ?_|with_reducible refine Ext.trans ?_ c_7)):p:=h
theorem T_KS_3 {p:Prop} (h:p:=by
 refine rh1 5 rfl fun K hK=> ?_
 obtain⟨kH,kG, -,hE⟩:=id hHeld
 go_simp
 (go_at_call 59;(with_reducible refine(m8.out _).mono ?_);rintro e w1 ⟨⟨hz8,rfl⟩| ⟨hz8,rfl⟩,hb⟩;rotate_left;(focus ((try go_wp2_with fail);refine⟨rfl,Or.inr ⟨?_,rfl⟩, ?_⟩;rw[hOk2.out];(intro hhok;omega);(exact hE.trans hb)));replace hO:=hO.ext hb;replace kH:=kH.ext hb;replace kG:=kG.ext hb;replace hSl:=hSl.ext hb;replace hE:=hE.trans hb)
 refine hK.out _ _ ?_ fun _=> ?_
 ·exact T_KS_5
 clear hK K hHeld
 rename_i hHeld
 try simp only[sx_]
 clear kH kG hE hb
 exact T_KS_1):p:=h
theorem T_KS_2 {p:Prop} (h:p:=by
 (try dsimp only);exact⟨kH.ext ex_,kG.ext ex_,⟨(hO.ext ex_).at 2 l6 (by decide) rfl,(hO.ext ex_).at 3 u6 (by decide) rfl⟩,by repeat(first|with_reducible exact Ext.refl _|with_reducible assumption|with_reducible refine Ext.alloc ?_ _|with_reducible refine Ext.setCell ?_ c_27 _|with_reducible refine Ext.drewN ?_ _|with_reducible refine Ext.drew ?_|with_reducible refine Ext.trans ?_ c_7)⟩):p:=h
theorem T_KS_1 {p:Prop} (h:p:=by
 refine rh1 9 rfl fun K hK=> ?_
 obtain⟨kH,kG, -,hE⟩:=id hHeld
 go_simp
 (go_at_call 115;(with_reducible refine(s9.out _ _ _ hSl).mono ?_);rintro e w1 ⟨⟨hz9,rfl⟩| ⟨hz9,rfl⟩,hb⟩;rotate_left;(focus ((try go_wp2_with fail);refine⟨rfl,Or.inr ⟨?_,rfl⟩, ?_⟩;rw[hOk2.out];(intro hhok;omega);(exact hE.trans hb)));replace hO:=hO.ext hb;replace kH:=kH.ext hb;replace kG:=kG.ext hb;replace hSl:=hSl.ext hb;replace hE:=hE.trans hb)
 refine hK.out _ _ ?_ fun _=> ?_
 ·exact T_KS_5
 clear hK K hHeld
 rename_i hHeld
 try simp only[sx_]
 clear kH kG hE hb
 refine rh1 11 rfl fun K hK=> ?_
 obtain⟨kH,kG, -,hE⟩:=id hHeld
 go_simp
 (go_at_call 62;(with_reducible refine(s10.out _).mono ?_);rintro e w1 ⟨⟨hz10,rfl⟩| ⟨hz10,rfl⟩,hb⟩;rotate_left;(focus ((try go_wp2_with fail);refine⟨rfl,Or.inr ⟨?_,rfl⟩, ?_⟩;rw[hOk2.out];(intro hhok;omega);(exact hE.trans hb)));replace hO:=hO.ext hb;replace kH:=kH.ext hb;replace kG:=kG.ext hb;replace hSl:=hSl.ext hb;replace hE:=hE.trans hb)
 refine hK.out _ _ ?_ fun _=> ?_
 ·exact T_KS_5
 clear hK K hHeld
 rename_i hHeld
 try simp only[sx_]
 clear kH kG hE hb
 refine rh1 12 rfl fun K hK=> ?_
 obtain⟨kH,kG, -,hE⟩:=id hHeld
 go_simp
 (go_at_call 114;(with_reducible refine(s11.out _).mono ?_);rintro e w1 ⟨⟨hz11,rfl⟩| ⟨hz11,rfl⟩,hb⟩;rotate_left;(focus ((try go_wp2_with fail);refine⟨rfl,Or.inr ⟨?_,rfl⟩, ?_⟩;rw[hOk2.out];(intro hhok;omega);(exact hE.trans hb)));replace hO:=hO.ext hb;replace kH:=kH.ext hb;replace kG:=kG.ext hb;replace hSl:=hSl.ext hb;replace hE:=hE.trans hb)
 refine hK.out _ _ ?_ fun _=> ?_
 ·exact T_KS_5
 clear hK K hHeld
 rename_i hHeld
 try simp only[sx_]
 clear kH kG hE hb
 refine sK 13 ?_
 refine rh1 14 rfl fun K hK=> ?_
 obtain⟨kH,kG, -,hE⟩:=id hHeld
 have c4:=hO.at 4 0 (by decide) rfl
 have c5:=hO.at 5 0 (by decide) rfl
 have cf:=hO.2.1
 have hgb:=hO.gb2 4 5 l11 u11
 replace hO:=(hO.set 4 l11).set 5 u11
 replace kH:=kH.grown hgb (by omega)
 replace kG:=kG.grown hgb (by omega)
 replace hE:=GB.pre hE hgb (by omega)
 clear hgb
 go_simp
 refine hK.out _ _ ?_ fun _=> ?_
 ·exact T_KS_5
 clear hK K hHeld
 rename_i hHeld
 try simp only[sx_]
 clear c4 c5 cf kH kG hE
 refine wpAnyH_done c_3 ?_ _
 obtain⟨hH,hG, -,hE⟩:=hHeld
 (try go_wp2_with fail)
 go_meet
 exact⟨hO.congr (by
  intro o ho
  have hoo:o=0∨o=1∨o=2∨o=3∨o=4∨o=5∨o=6∨o=7∨o=8∨o=9∨o=10∨o=11∨o=12∨o=13∨o=14∨o=15:=by omega
  rcases hoo with rfl|rfl|rfl|rfl|rfl|rfl|rfl|rfl|rfl|rfl|rfl|rfl|rfl|rfl|rfl|rfl<;>rfl),hG,hE,hz8,hz9,hz10,hz11⟩):p:=h
theorem k_shape (t p1 p2 p3 v1 v2 v3:Int) (w:World) (ip1:I64 p1) (ip2:I64 p2) (ip3:I64 p3) (iv1:I64 v1) (iv2:I64 v2) (iv3:I64 v3):
    K_ 63 #[.agg #[O t,O p1,O p2,O p3,O v1,O v2,O v3]] w fun e w'=>((ShOk (dia p1 p2 p3) (dia v1 v2 v3)∧e=.returned (.agg #[O (shR (dia p1 p2 p3)).lo,O (shR (dia p1 p2 p3)).hi,O (shA (dia p1 p2 p3) (dia v1 v2 v3)).lo,O (shA (dia p1 p2 p3) (dia v1 v2 v3)).hi,O (shK (dia p1 p2 p3) (dia v1 v2 v3)).lo,O (shK (dia p1 p2 p3) (dia v1 v2 v3)).hi,O (shZ).lo,O (shZ).hi,O 0,O 0,O 0,O 0,O 0,O 0,O 0,O 0]))∨(¬ShOk (dia p1 p2 p3) (dia v1 v2 v3)∧e=.panicked FALL))∧Ext w w':=by
 obtain⟨⟨l1,u1,e1⟩,hn1⟩:∃x,nrmV (dia p1 p2 p3)=x:=⟨_,rfl⟩
 obtain⟨⟨l2,u2,e2⟩,hn2⟩:∃x,shR (dia p1 p2 p3)=x:=⟨_,rfl⟩
 obtain⟨⟨l3,u3,e3⟩,hn3⟩:∃x,shI (dia p1 p2 p3)=x:=⟨_,rfl⟩
 obtain⟨⟨l4,u4,e4⟩,hn4⟩:∃x,nrmV (dia v1 v2 v3)=x:=⟨_,rfl⟩
 obtain⟨⟨l5,u5,e5⟩,hn5⟩:∃x,shB (dia v1 v2 v3)=x:=⟨_,rfl⟩
 obtain⟨⟨l6,u6,e6⟩,hn6⟩:∃x,shA (dia p1 p2 p3) (dia v1 v2 v3)=x:=⟨_,rfl⟩
 obtain⟨⟨⟨x1,x2,x3,x4,x5,x6⟩,e7⟩,hn7⟩:∃x,crsV (dia p1 p2 p3) (dia v1 v2 v3)=x:=⟨_,rfl⟩
 obtain⟨⟨l8,u8,e8⟩,hn8⟩:∃x,shN (dia p1 p2 p3) (dia v1 v2 v3)=x:=⟨_,rfl⟩
 obtain⟨⟨l9,u9,e9⟩,hn9⟩:∃x,shM (dia p1 p2 p3) (dia v1 v2 v3)=x:=⟨_,rfl⟩
 obtain⟨⟨l10,u10,e10⟩,hn10⟩:∃x,shD (dia p1 p2 p3) (dia v1 v2 v3)=x:=⟨_,rfl⟩
 obtain⟨⟨l11,u11,e11⟩,hn11⟩:∃x,shK (dia p1 p2 p3) (dia v1 v2 v3)=x:=⟨_,rfl⟩
 obtain⟨⟨l12,u12,e12⟩,hn12⟩:∃x,shZ=x:=⟨_,rfl⟩
 have he12:e12=0:=by have:=shZ_ok;rw[hn12]at this;exact this
 subst he12
 obtain⟨Ok,hOk⟩:∃Ok:Prop,ShOk (dia p1 p2 p3) (dia v1 v2 v3)=Ok:=⟨_,rfl⟩
 have hOk2:Hid (Ok↔(e1=0∧e2=0∧e3=0∧e4=0∧e5=0∧e6=0∧e7=0∧e8=0∧e9=0∧e10=0∧e11=0)):=by unfold Hid;rw[←hOk];unfold ShOk;rw[hn1,hn2,hn3,hn4,hn5,hn6,hn7,hn8,hn9,hn10,hn11]
 have i8:I64 l8∧I64 u8:=by have:=nrmV_I (crsV (dia p1 p2 p3) (dia v1 v2 v3)).v;have hh:nrmV (crsV (dia p1 p2 p3) (dia v1 v2 v3)).v=⟨l8,u8,e8⟩:=hn8;rw[hh]at this;exact this
 have i6:I64 l6∧I64 u6:=by have:=subI_W (shI (dia p1 p2 p3)).lo (shI (dia p1 p2 p3)).hi (shB (dia v1 v2 v3)).lo (shB (dia v1 v2 v3)).hi;have hh:subI (shI (dia p1 p2 p3)).lo (shI (dia p1 p2 p3)).hi (shB (dia v1 v2 v3)).lo (shB (dia v1 v2 v3)).hi=⟨l6,u6,e6⟩:=hn6;rw[hh]at this;exact this
 have s1:Hid (∀w1,K_ 12 #[.agg #[O p1,O p1,O p2,O p2,O p3,O p3]] w1 fun e w2=>e=.returned (.tuple #[.agg #[O l1,O u1],O e1])∧Ext w1 w2):=by
  unfold Hid
  intro w1
  have h:=p_nrm (dia p1 p2 p3) w1 ⟨⟨ip1,ip1⟩,⟨ip2,ip2⟩,⟨ip3,ip3⟩⟩
  rw[hn1]at h
  exact h
 have s4:Hid (∀w1,K_ 12 #[.agg #[O v1,O v1,O v2,O v2,O v3,O v3]] w1 fun e w2=>e=.returned (.tuple #[.agg #[O l4,O u4],O e4])∧Ext w1 w2):=by
  unfold Hid
  intro w1
  have h:=p_nrm (dia v1 v2 v3) w1 ⟨⟨iv1,iv1⟩,⟨iv2,iv2⟩,⟨iv3,iv3⟩⟩
  rw[hn4]at h
  exact h
 have s7:Hid (∀w1,K_ 125 #[.agg #[O p1,O p1,O p2,O p2,O p3,O p3],.agg #[O v1,O v1,O v2,O v2,O v3,O v3]] w1 fun e w2=>e=.returned (.tuple #[.agg #[O x1,O x2,O x3,O x4,O x5,O x6],O e7])∧Ext w1 w2):=by
  unfold Hid
  intro w1
  have h:=p_crs (dia p1 p2 p3) (dia v1 v2 v3) w1 ⟨⟨ip1,ip1⟩,⟨ip2,ip2⟩,⟨ip3,ip3⟩⟩ ⟨⟨iv1,iv1⟩,⟨iv2,iv2⟩,⟨iv3,iv3⟩⟩
  rw[hn7]at h
  exact h
 have s8:Hid (∀w1,K_ 12 #[.agg #[O x1,O x2,O x3,O x4,O x5,O x6]] w1 fun e w2=>e=.returned (.tuple #[.agg #[O l8,O u8],O e8])∧Ext w1 w2):=by
  unfold Hid
  intro w1
  have i7:(crsV (dia p1 p2 p3) (dia v1 v2 v3)).v.I:=crsV_I _ _
  have hh:nrmV (crsV (dia p1 p2 p3) (dia v1 v2 v3)).v=⟨l8,u8,e8⟩:=hn8
  rw[hn7]at i7 hh
  have h:=p_nrm _ w1 i7
  rw[hh]at h
  exact h
 have m1:Hid (∀w1,K_ 59 #[.agg #[O l1,O u1],O e1] w1 fun e w2=>((e1=0∧e=.returned (.agg #[O l1,O u1]))∨(¬e1=0∧e=.panicked FALL))∧Ext w1 w2):=by
  unfold Hid
  intro w1
  exact k_must ⟨l1,u1,e1⟩ w1
 have m4:Hid (∀w1,K_ 59 #[.agg #[O l4,O u4],O e4] w1 fun e w2=>((e4=0∧e=.returned (.agg #[O l4,O u4]))∨(¬e4=0∧e=.panicked FALL))∧Ext w1 w2):=by
  unfold Hid
  intro w1
  exact k_must ⟨l4,u4,e4⟩ w1
 have m8:Hid (∀w1,K_ 59 #[.agg #[O l8,O u8],O e8] w1 fun e w2=>((e8=0∧e=.returned (.agg #[O l8,O u8]))∨(¬e8=0∧e=.panicked FALL))∧Ext w1 w2):=by
  unfold Hid
  intro w1
  exact k_must ⟨l8,u8,e8⟩ w1
 have s2:Hid (∀w1,K_ 122 #[.agg #[O l1,O u1]] w1 fun e w2=>((e2=0∧e=.returned (.agg #[O l2,O u2]))∨(¬e2=0∧e=.panicked FALL))∧Ext w1 w2):=by
  unfold Hid
  intro w1
  have hh:sqrtI (nrmV (dia p1 p2 p3)).lo (nrmV (dia p1 p2 p3)).hi=⟨l2,u2,e2⟩:=hn2
  rw[hn1]at hh
  have h:=k_root l1 u1 w1
  rw[hh]at h
  exact h
 have s3:Hid (∀w1,K_ 62 #[.agg #[O 2199023255552,O 2199023255552],.agg #[O l2,O u2]] w1 fun e w2=>((e3=0∧e=.returned (.agg #[O l3,O u3]))∨(¬e3=0∧e=.panicked FALL))∧Ext w1 w2):=by
  unfold Hid
  intro w1
  have hh:divI 2199023255552 2199023255552 (shR (dia p1 p2 p3)).lo (shR (dia p1 p2 p3)).hi=⟨l3,u3,e3⟩:=hn3
  rw[hn2]at hh
  have h:=k_div 2199023255552 2199023255552 l2 u2 w1
  rw[hh]at h
  exact h
 have s5:Hid (∀w1,K_ 62 #[.agg #[O l4,O u4],.agg #[O 325358913,O 325358914]] w1 fun e w2=>((e5=0∧e=.returned (.agg #[O l5,O u5]))∨(¬e5=0∧e=.panicked FALL))∧Ext w1 w2):=by
  unfold Hid
  intro w1
  have hh:divI (nrmV (dia v1 v2 v3)).lo (nrmV (dia v1 v2 v3)).hi 325358913 325358914=⟨l5,u5,e5⟩:=hn5
  rw[hn4]at hh
  have h:=k_div l4 u4 325358913 325358914 w1
  rw[hh]at h
  exact h
 have s6:Hid (∀w1,K_ 114 #[.agg #[O l3,O u3],.agg #[O l5,O u5]] w1 fun e w2=>((e6=0∧e=.returned (.agg #[O l6,O u6]))∨(¬e6=0∧e=.panicked FALL))∧Ext w1 w2):=by
  unfold Hid
  intro w1
  have hh:subI (shI (dia p1 p2 p3)).lo (shI (dia p1 p2 p3)).hi (shB (dia v1 v2 v3)).lo (shB (dia v1 v2 v3)).hi=⟨l6,u6,e6⟩:=hn6
  rw[hn3,hn5]at hh
  have h:=k_sub l3 u3 l5 u5 w1
  rw[hh]at h
  exact h
 have s9:Hid (∀(g cap:Nat) w1,Bn 2 w1 g (fun o=>if o=0 then l6 else u6)→K_ 115 #[.agg #[O l8,O u8],.slice (some ⟨g,0,none⟩) 1 cap] w1 fun e w2=>((e9=0∧e=.returned (.agg #[O l9,O u9]))∨(¬e9=0∧e=.panicked FALL))∧Ext w1 w2):=by
  unfold Hid
  intro g cap w1 hb
  have hh:mulI (shN (dia p1 p2 p3) (dia v1 v2 v3)).lo (shN (dia p1 p2 p3) (dia v1 v2 v3)).hi (shA (dia p1 p2 p3) (dia v1 v2 v3)).lo (shA (dia p1 p2 p3) (dia v1 v2 v3)).hi=⟨l9,u9,e9⟩:=hn9
  rw[hn8,hn6]at hh
  have h:=k_mul1 l8 u8 l6 u6 g cap w1 i8 i6 (hb.at 0 l6 (by decide) rfl) (hb.at 1 u6 (by decide) rfl)
  rw[hh]at h
  exact h
 have s10:Hid (∀w1,K_ 62 #[.agg #[O l9,O u9],.agg #[O 325358913,O 325358914]] w1 fun e w2=>((e10=0∧e=.returned (.agg #[O l10,O u10]))∨(¬e10=0∧e=.panicked FALL))∧Ext w1 w2):=by
  unfold Hid
  intro w1
  have hh:divI (shM (dia p1 p2 p3) (dia v1 v2 v3)).lo (shM (dia p1 p2 p3) (dia v1 v2 v3)).hi 325358913 325358914=⟨l10,u10,e10⟩:=hn10
  rw[hn9]at hh
  have h:=k_div l9 u9 325358913 325358914 w1
  rw[hh]at h
  exact h
 have s11:Hid (∀w1,K_ 114 #[.agg #[O 1099511627776,O 1099511627776],.agg #[O l10,O u10]] w1 fun e w2=>((e11=0∧e=.returned (.agg #[O l11,O u11]))∨(¬e11=0∧e=.panicked FALL))∧Ext w1 w2):=by
  unfold Hid
  intro w1
  have hh:subI 1099511627776 1099511627776 (shD (dia p1 p2 p3) (dia v1 v2 v3)).lo (shD (dia p1 p2 p3) (dia v1 v2 v3)).hi=⟨l11,u11,e11⟩:=hn11
  rw[hn10]at hh
  have h:=k_sub 1099511627776 1099511627776 l10 u10 w1
  rw[hh]at h
  exact h
 have s12:Hid (∀w1,K_ 122 #[.agg #[O 325358913,O 325358914]] w1 fun e w2=>e=.returned (.agg #[O l12,O u12])∧Ext w1 w2):=by
  unfold Hid
  intro w1
  have hh:sqrtI 325358913 325358914=⟨l12,u12,0⟩:=hn12
  have h:=k_root 325358913 325358914 w1
  rw[hh]at h
  exact h.mono (by rintro e w2 ⟨⟨_,h⟩| ⟨h,_⟩,k⟩;exact⟨h,k⟩;exact absurd rfl h)
 have sv:Hid (∀w1,K_ 112 #[.agg #[O t,O p1,O p2,O p3,O v1,O v2,O v3]] w1 fun e w2=>e=.returned (.tuple #[.agg #[O p1,O p1,O p2,O p2,O p3,O p3],.agg #[O v1,O v1,O v2,O v2,O v3,O v3]])∧Ext w1 w2):=by
  unfold Hid
  intro w1
  exact k_vectors t p1 p2 p3 v1 v2 v3 w1
 have sq:Hid (∀w1,K_ 111 #[O 295912208285591,O 1000000000000000000] w1 fun e w2=>e=.returned (.agg #[O 325358913,O 325358914])∧Ext w1 w2):=by
  unfold Hid
  intro w1
  exact k_quot w1
 have sw2:Hid (∀w1,K_ 113 #[O 2] w1 fun e w2=>e=.returned (.agg #[O 2199023255552,O 2199023255552])∧Ext w1 w2):=by
  unfold Hid
  intro w1
  exact k_whole 2 w1 (by decide) (by decide)
 have sw1:Hid (∀w1,K_ 113 #[O 1] w1 fun e w2=>e=.returned (.agg #[O 1099511627776,O 1099511627776])∧Ext w1 w2):=by
  unfold Hid
  intro w1
  exact k_whole 1 w1 (by decide) (by decide)
 have hOkE:Ok=ShOk (dia p1 p2 p3) (dia v1 v2 v3):=hOk.symm
 rw[hn2,hn6,hn11,hn12,hOk]
 dsimp only
 clear hOk hOkE i8 i6 ip1 ip2 ip3 iv1 iv2 iv3 hn1 hn2 hn3 hn4 hn5 hn6 hn7 hn8 hn9 hn10 hn11 hn12
 have l0:IntKind.i64.wrap 0=0:=rfl
 have l1n:IntKind.i64.wrap 1=1:=rfl
 go_enter Tryz.func63,Tryz.ntmps63
 go_upto_region 1 with fail
 refine wp_nameE fun U0 hU=> ?_
 have hE:Ext w U0:=by
  exact T_KS_4
 have h7:Bn 7 U0 (w.heap.size) (fun o=>if o=0 then t else if o=1 then p1 else if o=2 then p2 else if o=3 then p3 else if o=4 then v1 else if o=5 then v2 else v3):=by
  rw[←hU]
  refine⟨fun o ho=> ?_,fun o=>by simp[go_sem, ↓IntWalk.iteOmega],by simp<;>omega⟩
  have hoo:o=0∨o=1∨o=2∨o=3∨o=4∨o=5∨o=6:=by omega
  rcases hoo with rfl|rfl|rfl|rfl|rfl|rfl|rfl<;>simp[go_sem, ↓IntWalk.iteOmega]
 have hO:Bn 16 U0 (w.heap.size+1) (fun _=>0):=by
  rw[←hU]
  refine⟨fun o ho=> ?_,fun o=>by simp[go_sem, ↓IntWalk.iteOmega],by simp<;>omega⟩
  have hoo:o=0∨o=1∨o=2∨o=3∨o=4∨o=5∨o=6∨o=7∨o=8∨o=9∨o=10∨o=11∨o=12∨o=13∨o=14∨o=15:=by omega
  rcases hoo with rfl|rfl|rfl|rfl|rfl|rfl|rfl|rfl|rfl|rfl|rfl|rfl|rfl|rfl|rfl|rfl<;>simp[go_sem, ↓IntWalk.iteOmega]
 clear hU
 have h7q0:=h7.at 0 (t) (by decide) rfl
 have h7q1:=h7.at 1 (p1) (by decide) rfl
 have h7q2:=h7.at 2 (p2) (by decide) rfl
 have h7q3:=h7.at 3 (p3) (by decide) rfl
 have h7q4:=h7.at 4 (v1) (by decide) rfl
 have h7q5:=h7.at 5 (v2) (by decide) rfl
 have h7q6:=h7.at 6 (v3) (by decide) rfl
 go_upto_region 2 with(go_at_call 112;(with_reducible refine(sv.out _).mono ?_);rintro e w1 ⟨rfl,hb⟩;replace hO:=hO.ext hb;replace hE:=hE.trans hb)
 refine wp_nameE fun U1 hU=> ?_
 have hx:Ext w1 U1:=by
  exact T_KS_4
 have hP:Bn 6 U1 (w1.heap.size) (pf p1 p2 p3):=by
  exact T_KS_8
 have hV:Bn 6 U1 (w1.heap.size+1) (pf v1 v2 v3):=by
  exact T_KS_8
 have hOl:=hO.2.2
 replace hO:=hO.ext hx
 replace hE:=hE.trans hx
 clear h7q0 h7q1 h7q2 h7q3 h7q4 h7q5 h7q6
 clear hU hx h7 hb
 obtain⟨gP,hgP⟩:∃x,w1.heap.size=x:=⟨_,rfl⟩
 rw[hgP]at hP hV hOl ⊢
 clear hgP
 go_upto_region 3 with(go_at_call 111;(with_reducible refine(sq.out _).mono ?_);rintro e w1 ⟨rfl,hb⟩;replace hO:=hO.ext hb;replace hP:=hP.ext hb;replace hV:=hV.ext hb;replace hE:=hE.trans hb)
 refine wp_nameE fun U2 hU=> ?_
 have hx:Ext w1 U2:=by
  exact T_KS_4
 have hG:Bn 2 U2 (w1.heap.size) (fun o=>if o=0 then 325358913 else 325358914):=by
  rw[←hU]
  refine⟨fun o ho=> ?_,fun o=>by simp[go_sem, ↓IntWalk.iteOmega],by simp<;>omega⟩
  have hoo:o=0∨o=1:=by omega
  rcases hoo with rfl|rfl<;>simp[go_sem, ↓IntWalk.iteOmega]
 have hVl:=hV.2.2
 replace hO:=hO.ext hx
 replace hP:=hP.ext hx
 replace hV:=hV.ext hx
 replace hE:=hE.trans hx
 clear hU hx hb
 obtain⟨gG,hgG⟩:∃x,w1.heap.size=x:=⟨_,rfl⟩
 rw[hgG]at hG hVl ⊢
 clear hgG
 have hPq0:=hP.at 0 (p1) (by decide) rfl
 have hPq1:=hP.at 1 (p1) (by decide) rfl
 have hPq2:=hP.at 2 (p2) (by decide) rfl
 have hPq3:=hP.at 3 (p2) (by decide) rfl
 have hPq4:=hP.at 4 (p3) (by decide) rfl
 have hPq5:=hP.at 5 (p3) (by decide) rfl
 go_upto_region 4 with(first
  | (go_at_call 12;(with_reducible refine(s1.out _).mono ?_);rintro e w1 ⟨rfl,hb⟩;replace hO:=hO.ext hb;replace hP:=hP.ext hb;replace hV:=hV.ext hb;replace hG:=hG.ext hb;replace hE:=hE.trans hb)
  | (go_at_call 59;(with_reducible refine(m1.out _).mono ?_);rintro e w1 ⟨⟨hz1,rfl⟩| ⟨hz1,rfl⟩,hb⟩;rotate_left;(focus ((try go_wp2_with fail);refine⟨rfl,Or.inr ⟨?_,rfl⟩, ?_⟩;rw[hOk2.out];(intro hhok;omega);(exact hE.trans hb)));replace hO:=hO.ext hb;replace hP:=hP.ext hb;replace hV:=hV.ext hb;replace hG:=hG.ext hb;replace hE:=hE.trans hb)
  | (go_at_call 122;(with_reducible refine(s2.out _).mono ?_);rintro e w1 ⟨⟨hz2,rfl⟩| ⟨hz2,rfl⟩,hb⟩;rotate_left;(focus ((try go_wp2_with fail);refine⟨rfl,Or.inr ⟨?_,rfl⟩, ?_⟩;rw[hOk2.out];(intro hhok;omega);(exact hE.trans hb)));replace hO:=hO.ext hb;replace hP:=hP.ext hb;replace hV:=hV.ext hb;replace hG:=hG.ext hb;replace hE:=hE.trans hb;(have c0:=hO.at 0 0 (by decide) rfl);(have c1:=hO.at 1 0 (by decide) rfl);(have cf0:=hO.2.1 0);(have cf1:=hO.2.1 1)))
 clear hPq0 hPq1 hPq2 hPq3 hPq4 hPq5
 refine wp_nameE fun U3 hU=> ?_
 have hgb:=hO.gb2 0 1 l2 u2
 have hOn:=(hO.set 0 l2).set 1 u2
 rw[hU]at hgb hOn
 replace hP:=hP.grown hgb (by omega)
 replace hV:=hV.grown hgb (by omega)
 replace hG:=hG.grown hgb (by omega)
 replace hE:=GB.pre hE hgb (by omega)
 replace hO:=hOn
 clear hU hgb hOn
 clear c0 c1 cf0 cf1
 go_cut []from 21 to 33 (fun wx=>Bn 16 wx (w.heap.size+1) (fun o=>if o=0 then l2 else if o=1 then u2 else if o=2 then l6 else if o=3 then u6 else if o=4 then 0 else if o=5 then 0 else if o=6 then 0 else if o=7 then 0 else if o=8 then 0 else if o=9 then 0 else if o=10 then 0 else if o=11 then 0 else if o=12 then 0 else if o=13 then 0 else if o=14 then 0 else 0)∧Bn 6 wx gP (pf p1 p2 p3)∧Bn 6 wx (gP+1) (pf v1 v2 v3)∧Bn 2 wx gG (fun o=>if o=0 then 325358913 else 325358914)∧Ext w wx∧e3=0∧e4=0∧e5=0∧e6=0)
 case first=>
  replace hO:=hO.ext ((Ext.refl _).drew)
  replace hP:=hP.ext ((Ext.refl _).drew)
  refine wp_region_held_drew (S:=(fun w0=>Bn 6 w0 (gP+1) (pf v1 v2 v3)∧Bn 2 w0 gG (fun o=>if o=0 then 325358913 else 325358914)∧(w0.cell? ⟨w.heap.size+1,0,none⟩=some (O l2)∧w0.cell? ⟨w.heap.size+1,1,none⟩=some (O u2))∧Ext w w0)) c_3 ?_ (fun hHeld=> ?_)
  ·exact⟨hV.ext ((Ext.refl _).drew),hG.ext ((Ext.refl _).drew),⟨hO.at 0 l2 (by decide) rfl,hO.at 1 u2 (by decide) rfl⟩,hE.drew⟩
  try simp only[sx_]
  refine wpAnyH_name fun Y4 hY=> ?_
  rw[hY]at hHeld hO hP
  clear hY
  clear hV hG hE
  refine sK 1 ?_
  refine tk 2 rfl c_17 ?_
  try simp only[sx_]
  refine tk 4 rfl c_17 ?_
  try simp only[sx_]
  refine tk 9 rfl c_17 ?_
  try simp only[sx_]
  refine rh1 0 rfl fun K hK=> ?_
  obtain⟨kV,kG, -,hE⟩:=id hHeld
  go_simp
  (go_at_call 113;(with_reducible refine(sw2.out _).mono ?_);rintro e w1 ⟨rfl,hb⟩;replace hO:=hO.ext hb;replace hP:=hP.ext hb;replace kV:=kV.ext hb;replace kG:=kG.ext hb;replace hE:=hE.trans hb)
  refine hK.out _ _ ?_ fun _=> ?_
  ·exact T_KS_7
  clear hK K hHeld
  rename_i hHeld
  try simp only[sx_]
  clear kV kG hE hb
  refine rh1 3 rfl fun K hK=> ?_
  obtain⟨kV,kG, -,hE⟩:=id hHeld
  go_simp
  (go_at_call 62;(with_reducible refine(s3.out _).mono ?_);rintro e w1 ⟨⟨hz3,rfl⟩| ⟨hz3,rfl⟩,hb⟩;rotate_left;(focus ((try go_wp2_with fail);refine⟨rfl,Or.inr ⟨?_,rfl⟩, ?_⟩;rw[hOk2.out];(intro hhok;omega);(exact hE.trans hb)));replace hO:=hO.ext hb;replace hP:=hP.ext hb;replace kV:=kV.ext hb;replace kG:=kG.ext hb;replace hE:=hE.trans hb)
  refine hK.out _ _ ?_ fun _=> ?_
  ·exact T_KS_7
  clear hK K hHeld
  rename_i hHeld
  try simp only[sx_]
  clear kV kG hE hb
  refine rh1 5 rfl fun K hK=> ?_
  obtain⟨kV,kG, -,hE⟩:=id hHeld
  go_simp
  (go_at_call 12;(with_reducible refine(s4.out _).mono ?_);rintro e w1 ⟨rfl,hb⟩;replace hO:=hO.ext hb;replace hP:=hP.ext hb;replace kV:=kV.ext hb;replace kG:=kG.ext hb;replace hE:=hE.trans hb)
  refine hK.out _ _ ?_ fun _=> ?_
  ·exact T_KS_7
  clear hK K hHeld
  rename_i hHeld
  try simp only[sx_]
  clear kV kG hE hb
  refine sK 6 ?_
  refine sK 7 ?_
  refine rh1 8 rfl fun K hK=> ?_
  obtain⟨kV,kG, -,hE⟩:=id hHeld
  go_simp
  (go_at_call 59;(with_reducible refine(m4.out _).mono ?_);rintro e w1 ⟨⟨hz4,rfl⟩| ⟨hz4,rfl⟩,hb⟩;rotate_left;(focus ((try go_wp2_with fail);refine⟨rfl,Or.inr ⟨?_,rfl⟩, ?_⟩;rw[hOk2.out];(intro hhok;omega);(exact hE.trans hb)));replace hO:=hO.ext hb;replace hP:=hP.ext hb;replace kV:=kV.ext hb;replace kG:=kG.ext hb;replace hE:=hE.trans hb)
  refine hK.out _ _ ?_ fun _=> ?_
  ·exact T_KS_7
  clear hK K hHeld
  rename_i hHeld
  try simp only[sx_]
  clear kV kG hE hb
  refine rh1 10 rfl fun K hK=> ?_
  obtain⟨kV,kG, -,hE⟩:=id hHeld
  go_simp
  (go_at_call 62;(with_reducible refine(s5.out _).mono ?_);rintro e w1 ⟨⟨hz5,rfl⟩| ⟨hz5,rfl⟩,hb⟩;rotate_left;(focus ((try go_wp2_with fail);refine⟨rfl,Or.inr ⟨?_,rfl⟩, ?_⟩;rw[hOk2.out];(intro hhok;omega);(exact hE.trans hb)));replace hO:=hO.ext hb;replace hP:=hP.ext hb;replace kV:=kV.ext hb;replace kG:=kG.ext hb;replace hE:=hE.trans hb)
  refine hK.out _ _ ?_ fun _=> ?_
  ·exact T_KS_7
  clear hK K hHeld
  rename_i hHeld
  try simp only[sx_]
  clear kV kG hE hb
  refine rh1 11 rfl fun K hK=> ?_
  obtain⟨kV,kG, -,hE⟩:=id hHeld
  go_simp
  (go_at_call 114;(with_reducible refine(s6.out _).mono ?_);rintro e w1 ⟨⟨hz6,rfl⟩| ⟨hz6,rfl⟩,hb⟩;rotate_left;(focus ((try go_wp2_with fail);refine⟨rfl,Or.inr ⟨?_,rfl⟩, ?_⟩;rw[hOk2.out];(intro hhok;omega);(exact hE.trans hb)));replace hO:=hO.ext hb;replace hP:=hP.ext hb;replace kV:=kV.ext hb;replace kG:=kG.ext hb;replace hE:=hE.trans hb)
  refine hK.out _ _ ?_ fun _=> ?_
  ·exact T_KS_7
  clear hK K hHeld
  rename_i hHeld
  try simp only[sx_]
  clear kV kG hE hb
  refine sK 12 ?_
  refine rh1 13 rfl fun K hK=> ?_
  obtain⟨kV,kG, -,hE⟩:=id hHeld
  have c2:=hO.at 2 0 (by decide) rfl
  have c3:=hO.at 3 0 (by decide) rfl
  have cf:=hO.2.1
  have hgb:=hO.gb2 2 3 l6 u6
  replace hO:=(hO.set 2 l6).set 3 u6
  replace kV:=kV.grown hgb (by omega)
  replace kG:=kG.grown hgb (by omega)
  replace hP:=hP.grown hgb (by omega)
  replace hE:=GB.pre hE hgb (by omega)
  clear hgb
  go_simp
  refine hK.out _ _ ?_ fun _=> ?_
  ·exact T_KS_7
  clear hK K hHeld
  rename_i hHeld
  try simp only[sx_]
  clear c2 c3 cf kV kG hE
  refine wpAnyH_done c_3 ?_ _
  obtain⟨hV,hG, -,hE⟩:=hHeld
  (try go_wp2_with fail)
  go_meet
  exact⟨hO.congr (by
   intro o ho
   have hoo:o=0∨o=1∨o=2∨o=3∨o=4∨o=5∨o=6∨o=7∨o=8∨o=9∨o=10∨o=11∨o=12∨o=13∨o=14∨o=15:=by omega
   rcases hoo with rfl|rfl|rfl|rfl|rfl|rfl|rfl|rfl|rfl|rfl|rfl|rfl|rfl|rfl|rfl|rfl<;>rfl),hP,hV,hG,hE,hz3,hz4,hz5,hz6⟩
 case rest=>
  obtain⟨hO,hP,hV,hG,hE,hz3,hz4,hz5,hz6⟩:=hcut
  go_upto_region 5 with fail
  refine wp_nameE fun U4 hU=> ?_
  rw[hU]at hO hP hV hG hE
  clear hU
  have hPq0:=hP.at 0 (p1) (by decide) rfl
  have hPq1:=hP.at 1 (p1) (by decide) rfl
  have hPq2:=hP.at 2 (p2) (by decide) rfl
  have hPq3:=hP.at 3 (p2) (by decide) rfl
  have hPq4:=hP.at 4 (p3) (by decide) rfl
  have hPq5:=hP.at 5 (p3) (by decide) rfl
  have hVq0:=hV.at 0 (v1) (by decide) rfl
  have hVq1:=hV.at 1 (v1) (by decide) rfl
  have hVq2:=hV.at 2 (v2) (by decide) rfl
  have hVq3:=hV.at 3 (v2) (by decide) rfl
  have hVq4:=hV.at 4 (v3) (by decide) rfl
  have hVq5:=hV.at 5 (v3) (by decide) rfl
  go_upto_region 6 with(go_at_call 125;(with_reducible refine(s7.out _).mono ?_);rintro e w1 ⟨rfl,hb⟩;replace hO:=hO.ext hb;replace hG:=hG.ext hb;replace hE:=hE.trans hb)
  refine wp_nameE fun U5 hU=> ?_
  have hx:Ext w1 U5:=by
   exact T_KS_4
  have hH:Bn 6 U5 (w1.heap.size) (fun o=>if o=0 then x1 else if o=1 then x2 else if o=2 then x3 else if o=3 then x4 else if o=4 then x5 else x6):=by
   rw[←hU]
   refine⟨fun o ho=> ?_,fun o=>by simp[go_sem, ↓IntWalk.iteOmega],by simp<;>omega⟩
   have hoo:o=0∨o=1∨o=2∨o=3∨o=4∨o=5:=by omega
   rcases hoo with rfl|rfl|rfl|rfl|rfl|rfl<;>simp[go_sem, ↓IntWalk.iteOmega]
  have hGl:=hG.2.2
  have hOl:=hO.2.2
  replace hO:=hO.ext hx
  replace hG:=hG.ext hx
  replace hE:=hE.trans hx
  clear hPq0 hPq1 hPq2 hPq3 hPq4 hPq5
  clear hVq0 hVq1 hVq2 hVq3 hVq4 hVq5
  clear hU hx hb hP hV
  obtain⟨gH,hgH⟩:∃x,w1.heap.size=x:=⟨_,rfl⟩
  rw[hgH]at hH hGl hOl ⊢
  clear hgH
  by_cases hz7:e7=0
  ·subst hz7
   go_upto_region 8 with fail
   go_cut []from 44 to 57 (fun wx=>Bn 16 wx (w.heap.size+1) (fun o=>if o=0 then l2 else if o=1 then u2 else if o=2 then l6 else if o=3 then u6 else if o=4 then l11 else if o=5 then u11 else if o=6 then 0 else if o=7 then 0 else if o=8 then 0 else if o=9 then 0 else if o=10 then 0 else if o=11 then 0 else if o=12 then 0 else if o=13 then 0 else if o=14 then 0 else 0)∧Bn 2 wx gG (fun o=>if o=0 then 325358913 else 325358914)∧Ext w wx∧e8=0∧e9=0∧e10=0∧e11=0)
   case first=>
    replace hO:=hO.ext ((Ext.refl _).drew)
    refine wp_region_held_drew (S:=(fun w0=>Bn 6 w0 gH (fun o=>if o=0 then x1 else if o=1 then x2 else if o=2 then x3 else if o=3 then x4 else if o=4 then x5 else x6)∧Bn 2 w0 gG (fun o=>if o=0 then 325358913 else 325358914)∧(w0.cell? ⟨w.heap.size+1,2,none⟩=some (O l6)∧w0.cell? ⟨w.heap.size+1,3,none⟩=some (O u6))∧Ext w w0)) c_3 ?_ (fun hHeld=> ?_)
    ·exact⟨hH.ext ((Ext.refl _).drew),hG.ext ((Ext.refl _).drew),⟨hO.at 2 l6 (by decide) rfl,hO.at 3 u6 (by decide) rfl⟩,hE.drew⟩
    try simp only[sx_]
    refine wpAnyH_name fun Y8 hY=> ?_
    rw[hY]at hHeld hO
    clear hY
    clear hH hG hE
    refine tk 1 rfl c_18 ?_
    try simp only[sx_]
    refine sK 6 ?_
    refine tk 7 rfl c_18 ?_
    try simp only[sx_]
    refine tk 10 rfl c_18 ?_
    try simp only[sx_]
    refine rh2 0 8 rfl rfl (fun K hK=> ?_) fun K hK=> ?_
    ·obtain⟨kH,kG, -,hE⟩:=id hHeld
     go_simp
     (go_at_call 113;(with_reducible refine(sw1.out _).mono ?_);rintro e w1 ⟨rfl,hb⟩;replace hO:=hO.ext hb;replace kH:=kH.ext hb;replace kG:=kG.ext hb;replace hE:=hE.trans hb)
     refine hK.out _ _ ?_ fun _=> ?_
     ·exact T_KS_5
     clear hK K hHeld
     rename_i hHeld
     try simp only[sx_]
     clear kH kG hE hb
     refine rh2 2 8 rfl rfl (fun K hK=> ?_) fun K hK=> ?_
     ·obtain⟨kH,kG, -,hE⟩:=id hHeld
      go_simp
      (go_at_call 12;(with_reducible refine(s8.out _).mono ?_);rintro e w1 ⟨rfl,hb⟩;replace hO:=hO.ext hb;replace kH:=kH.ext hb;replace kG:=kG.ext hb;replace hE:=hE.trans hb)
      refine hK.out _ _ ?_ fun _=> ?_
      ·exact T_KS_5
      clear hK K hHeld
      rename_i hHeld
      try simp only[sx_]
      clear kH kG hE hb
      refine sK 3 ?_
      refine sK 4 ?_
      refine rh2 5 8 rfl rfl (fun K hK=> ?_) fun K hK=> ?_
      ·obtain⟨kH,kG, -,hE⟩:=id hHeld
       go_simp
       (go_at_call 59;(with_reducible refine(m8.out _).mono ?_);rintro e w1 ⟨⟨hz8,rfl⟩| ⟨hz8,rfl⟩,hb⟩;rotate_left;(focus ((try go_wp2_with fail);refine⟨rfl,Or.inr ⟨?_,rfl⟩, ?_⟩;rw[hOk2.out];(intro hhok;omega);(exact hE.trans hb)));replace hO:=hO.ext hb;replace kH:=kH.ext hb;replace kG:=kG.ext hb;replace hE:=hE.trans hb)
       refine hK.out _ _ ?_ fun _=> ?_
       ·exact T_KS_5
       clear hK K hHeld
       rename_i hHeld
       try simp only[sx_]
       clear kH kG hE hb
       refine rh1 8 rfl fun K hK=> ?_
       obtain⟨kH,kG, -,hE⟩:=id hHeld
       have hy:=hO.ext (Ext.alloc (Ext.refl _) (.cells #[O l6,O u6] 104))
       go_simp
       refine hK.out _ _ ?_ (fun hHeldN=> ?_)
       ·exact T_KS_2
       clear hK K hHeld
       have hHeld:=hHeldN
       clear hHeldN hy
       try simp only[sx_]
       refine wpAnyH_name fun Z8 hZ=> ?_
       obtain⟨hSl,hx⟩:=Bn.two hZ
       rw[hZ]at hHeld
       replace hO:=hO.ext hx
       clear hZ hx kH kG hE
       exact T_KS_1
      ·obtain⟨kH,kG, -,hE⟩:=id hHeld
       have hy:=hO.ext (Ext.alloc (Ext.refl _) (.cells #[O l6,O u6] 104))
       go_simp
       refine hK.out _ _ ?_ (fun hHeldN=> ?_)
       ·exact T_KS_2
       clear hK K hHeld
       have hHeld:=hHeldN
       clear hHeldN hy
       try simp only[sx_]
       refine wpAnyH_name fun Z8 hZ=> ?_
       obtain⟨hSl,hx⟩:=Bn.two hZ
       rw[hZ]at hHeld
       replace hO:=hO.ext hx
       clear hZ hx kH kG hE
       exact T_KS_3
     ·obtain⟨kH,kG, -,hE⟩:=id hHeld
      have hy:=hO.ext (Ext.alloc (Ext.refl _) (.cells #[O l6,O u6] 104))
      go_simp
      refine hK.out _ _ ?_ (fun hHeldN=> ?_)
      ·exact T_KS_2
      clear hK K hHeld
      have hHeld:=hHeldN
      clear hHeldN hy
      try simp only[sx_]
      refine wpAnyH_name fun Z8 hZ=> ?_
      obtain⟨hSl,hx⟩:=Bn.two hZ
      rw[hZ]at hHeld
      replace hO:=hO.ext hx
      clear hZ hx kH kG hE
      exact T_KS_6
    ·obtain⟨kH,kG, -,hE⟩:=id hHeld
     have hy:=hO.ext (Ext.alloc (Ext.refl _) (.cells #[O l6,O u6] 104))
     go_simp
     refine hK.out _ _ ?_ (fun hHeldN=> ?_)
     ·exact T_KS_2
     clear hK K hHeld
     have hHeld:=hHeldN
     clear hHeldN hy
     try simp only[sx_]
     refine wpAnyH_name fun Z8 hZ=> ?_
     obtain⟨hSl,hx⟩:=Bn.two hZ
     rw[hZ]at hHeld
     replace hO:=hO.ext hx
     clear hZ hx kH kG hE
     refine rh1 0 rfl fun K hK=> ?_
     obtain⟨kH,kG, -,hE⟩:=id hHeld
     go_simp
     (go_at_call 113;(with_reducible refine(sw1.out _).mono ?_);rintro e w1 ⟨rfl,hb⟩;replace hO:=hO.ext hb;replace kH:=kH.ext hb;replace kG:=kG.ext hb;replace hSl:=hSl.ext hb;replace hE:=hE.trans hb)
     refine hK.out _ _ ?_ fun _=> ?_
     ·exact T_KS_5
     clear hK K hHeld
     rename_i hHeld
     try simp only[sx_]
     clear kH kG hE hb
     exact T_KS_6
   case rest=>
    obtain⟨hO,hG,hE,hz8,hz9,hz10,hz11⟩:=hcut
    go_upto_region 9 with fail
    refine wp_nameE fun U8 hU=> ?_
    rw[hU]at hO hG hE
    clear hU
    have hGq0:=hG.at 0 (325358913) (by decide) rfl
    have hGq1:=hG.at 1 (325358914) (by decide) rfl
    go_upto_region 10 with(go_at_call 122;(with_reducible refine(s12.out _).mono ?_);rintro e w1 ⟨rfl,hb⟩;replace hO:=hO.ext hb;replace hE:=hE.trans hb;(have c6:=hO.at 6 0 (by decide) rfl);(have c7:=hO.at 7 0 (by decide) rfl);(have cf6:=hO.2.1 6);(have cf7:=hO.2.1 7))
    refine wp_nameE fun U9 hU=> ?_
    have hgb:=hO.gb2 6 7 l12 u12
    have hOn:=(hO.set 6 l12).set 7 u12
    rw[hU]at hgb hOn
    replace hE:=GB.pre hE hgb (by omega)
    replace hO:=hOn
    clear hU hgb hOn
    clear c6 c7 cf6 cf7 hGq0 hGq1
    have c0:=hO.at 0 l2 (by decide) rfl
    have c1:=hO.at 1 u2 (by decide) rfl
    have c2:=hO.at 2 l6 (by decide) rfl
    have c3:=hO.at 3 u6 (by decide) rfl
    have c4:=hO.at 4 l11 (by decide) rfl
    have c5:=hO.at 5 u11 (by decide) rfl
    have c6:=hO.at 6 l12 (by decide) rfl
    have c7:=hO.at 7 u12 (by decide) rfl
    have c8:=hO.at 8 0 (by decide) rfl
    have c9:=hO.at 9 0 (by decide) rfl
    have c10:=hO.at 10 0 (by decide) rfl
    have c11:=hO.at 11 0 (by decide) rfl
    have c12:=hO.at 12 0 (by decide) rfl
    have c13:=hO.at 13 0 (by decide) rfl
    have c14:=hO.at 14 0 (by decide) rfl
    have c15:=hO.at 15 0 (by decide) rfl
    have cf0:=hO.2.1 0
    have cf1:=hO.2.1 1
    have cf2:=hO.2.1 2
    have cf3:=hO.2.1 3
    have cf4:=hO.2.1 4
    have cf5:=hO.2.1 5
    have cf6:=hO.2.1 6
    have cf7:=hO.2.1 7
    have cf8:=hO.2.1 8
    have cf9:=hO.2.1 9
    have cf10:=hO.2.1 10
    have cf11:=hO.2.1 11
    have cf12:=hO.2.1 12
    have cf13:=hO.2.1 13
    have cf14:=hO.2.1 14
    have cf15:=hO.2.1 15
    go_wp2_with fail
    refine bodyPost_ret (v:=.agg #[O l2,O u2,O l6,O u6,O l11,O u11,O l12,O u12,O 0,O 0,O 0,O 0,O 0,O 0,O 0,O 0]) ?_ rfl ⟨Or.inl ⟨hOk2.out.mpr (by simp only[*,and_self]),rfl⟩, ?_⟩
    ·simp[results,Tryz.results63,go_sem, ↓IntWalk.iteOmega, *]
    ·exact b_30
  ·go_wp2_with fail
   refine⟨rfl,Or.inr ⟨?_,rfl⟩, ?_⟩
   ·rw[hOk2.out];(intro hhok;omega)
   ·exact hE
def mul2I (a b c d c2 d2:Int):R3:=doI (mulI a b c d).e (mulI (mulI a b c d).lo (mulI a b c d).hi c2 d2)
theorem k_mul2 (a b c d c2 d2:Int) (g cap:Nat) (w:World) (ha:I64 a∧I64 b) (hc0:I64 c∧I64 d) (hc2:I64 c2∧I64 d2) (hl0:w.cell? ⟨g,0,none⟩=some (O c)) (hl1:w.cell? ⟨g,1,none⟩=some (O d)) (hl2:w.cell? ⟨g,2,none⟩=some (O c2)) (hl3:w.cell? ⟨g,3,none⟩=some (O d2)):
    K_ 115 #[.agg #[O a,O b],.slice (some ⟨g,0,none⟩) 2 cap] w fun e w'=>KP (mul2I a b c d c2 d2) e∧Ext w w':=by
 have hgl:g<w.heap.size:=World.block_lt_of_cell? w _ hl0
 unfold mul2I
 obtain⟨⟨l1,u1,e1⟩,hn1⟩:∃x,mulI a b c d=x:=⟨_,rfl⟩
 have hs1:∀w1,K_ 48 #[.agg #[O a,O b],.agg #[O c,O d]] w1 fun e w2=>e=.returned (.tuple #[.agg #[O l1,O u1],O e1])∧Ext w1 w2:=by
  intro w1
  have h:=span_mul a b c d w1 ha hc0
  rw[hn1]at h
  exact h
 have i1:I64 l1∧I64 u1:=by have:=mulI_W a b c d;rw[hn1]at this;exact this
 rw[hn1]
 dsimp only
 obtain⟨⟨l2,u2,e2⟩,hn2⟩:∃x,mulI l1 u1 c2 d2=x:=⟨_,rfl⟩
 have hs2:∀w1,K_ 48 #[.agg #[O l1,O u1],.agg #[O c2,O d2]] w1 fun e w2=>e=.returned (.tuple #[.agg #[O l2,O u2],O e2])∧Ext w1 w2:=by
  intro w1
  have h:=span_mul l1 u1 c2 d2 w1 i1 hc2
  rw[hn2]at h
  exact h
 rw[hn2]
 have hm1:∀w1,K_ 59 #[.agg #[O l1,O u1],O e1] w1 fun e w2=>((e1=0∧e=.returned (.agg #[O l1,O u1]))∨(¬e1=0∧e=.panicked FALL))∧Ext w1 w2:=fun w1=>k_must ⟨l1,u1,e1⟩ w1
 have hm2:∀w1,K_ 59 #[.agg #[O l2,O u2],O e2] w1 fun e w2=>((e2=0∧e=.returned (.agg #[O l2,O u2]))∨(¬e2=0∧e=.panicked FALL))∧Ext w1 w2:=fun w1=>k_must ⟨l2,u2,e2⟩ w1
 have hpost:∀e,((e1=0∧e2=0∧e=.returned (.agg #[O l2,O u2]))∨(¬(e1=0∧e2=0)∧e=.panicked FALL))→KP (doI e1 ⟨l2,u2,e2⟩) e:=by
  intro e h
  unfold KP doI
  rcases h with⟨rfl,rfl,rfl⟩| ⟨h,rfl⟩
  ·left;simp
  ·right
   refine⟨?_,rfl⟩
   by_cases h1:e1=0
   ·simp[h1];intro h2;exact h ⟨h1,h2⟩
   ·simp[h1]
 clear hn1 hn2 i1 ha hc0 hc2
 suffices hg:K_ 115 #[.agg #[O a,O b],.slice (some ⟨g,0,none⟩) 2 cap] w fun e w'=>((e1=0∧e2=0∧e=.returned (.agg #[O l2,O u2]))∨(¬(e1=0∧e2=0)∧e=.panicked FALL))∧Ext w w' from hg.mono (fun e w' h=>⟨hpost e h.1,h.2⟩)
 clear hpost
 have hno1:¬e1=0→¬(e1=0∧e2=0):=fun h k=>h k.1
 have hno2:¬e2=0→¬(e1=0∧e2=0):=fun h k=>h k.2
 go_enter Tryz.func115,Tryz.ntmps115
 go_wp2_with fail
 refine wp_loop_rounds 3 ?_
 rw[rounds_succ]
 go_wp2_with (first| (go_at_call 48;(with_reducible refine(hs1 _).mono ?_);rintro e ws1 ⟨rfl,hbs1⟩;obtain⟨_,_,⟨hcs1,hfs1⟩,hzs1⟩:=hbs1.c3;(try simp only[wsz]at hzs1 hcs1 hfs1))| (go_at_call 59;(with_reducible refine(hm1 _).mono ?_);rintro e wm1 ⟨⟨hz01,rfl⟩| ⟨hz01,rfl⟩,hbm1⟩;rotate_left;(focus ((try go_wp2_with fail);refine⟨rfl,Or.inr ⟨?_,rfl⟩, ?_⟩;(exact hno1 hz01);(repeat(first|with_reducible exact Ext.refl _|with_reducible assumption|with_reducible refine Ext.alloc ?_ _|with_reducible refine Ext.setCell ?_ c_27 _|with_reducible refine Ext.drewN ?_ _|with_reducible refine Ext.drew ?_|with_reducible refine Ext.trans ?_ c_7))));obtain⟨_,_,⟨hcm1,hfm1⟩,hzm1⟩:=hbm1.c3;(try simp only[wsz]at hzm1 hcm1 hfm1)))
 rw[rounds_succ]
 go_wp2_with (first| (go_at_call 48;(with_reducible refine(hs2 _).mono ?_);rintro e ws2 ⟨rfl,hbs2⟩;obtain⟨_,_,⟨hcs2,hfs2⟩,hzs2⟩:=hbs2.c3;(try simp only[wsz]at hzs2 hcs2 hfs2))| (go_at_call 59;(with_reducible refine(hm2 _).mono ?_);rintro e wm2 ⟨⟨hz02,rfl⟩| ⟨hz02,rfl⟩,hbm2⟩;rotate_left;(focus ((try go_wp2_with fail);refine⟨rfl,Or.inr ⟨?_,rfl⟩, ?_⟩;(exact hno2 hz02);(repeat(first|with_reducible exact Ext.refl _|with_reducible assumption|with_reducible refine Ext.alloc ?_ _|with_reducible refine Ext.setCell ?_ c_27 _|with_reducible refine Ext.drewN ?_ _|with_reducible refine Ext.drew ?_|with_reducible refine Ext.trans ?_ c_7))));obtain⟨_,_,⟨hcm2,hfm2⟩,hzm2⟩:=hbm2.c3;(try simp only[wsz]at hzm2 hcm2 hfm2)))
 rw[rounds_succ]
 go_wp2_with fail
 refine bodyPost_ret (v:=.agg #[O l2,O u2]) ?_ rfl ⟨Or.inl ⟨by assumption,by assumption,rfl⟩, ?_⟩
 ·simp[results,Tryz.results115,go_sem, ↓IntWalk.iteOmega, *]
 ·exact b_1
theorem Bn.four (Y:World) (a b c d:Int) (T:Nat):Bn 4 (Y.alloc (.cells #[O a,O b,O c,O d] T)) Y.heap.size (fun o=>if o=0 then a else if o=1 then b else if o=2 then c else d):=by
 refine⟨fun o ho=> ?_,fun o=>by simp[go_sem, ↓IntWalk.iteOmega],by simp⟩
 have hoo:o=0∨o=1∨o=2∨o=3:=by omega
 rcases hoo with rfl|rfl|rfl|rfl<;>simp[go_sem, ↓IntWalk.iteOmega]
theorem sqrtI_W (a b:Int):I64 (sqrtI a b).lo∧I64 (sqrtI a b).hi:=by
 unfold sqrtI
 split
 ·exact⟨I64_0,I64_0⟩
 ·split
  ·exact⟨I64_0,I64_0⟩
  ·have hc:ckI a b=0:=by simp_all
   unfold ckI at hc
   have hb:¬(b<a∨a< -2305843009213693952∨2305843009213693952<b):=by intro h;rw[if_pos h]at hc;omega
   have ra:=root_le (x:=a) (by omega) (by omega)
   have rb:=root_le (x:=b) (by omega) (by omega)
   unfold I64
   dsimp only
   refine⟨by omega, ?_⟩
   split<;>omega
noncomputable def shQ (P V:V3):R3:=sqrtI (shA P V).lo (shA P V).hi
noncomputable def shU (P V:V3):R3:=mul2I shZ.lo shZ.hi (shA P V).lo (shA P V).hi (shQ P V).lo (shQ P V).hi
def ClOk (P V:V3):Prop:=ShOk P V∧0<(shA P V).lo∧(shQ P V).e=0∧(shU P V).e=0
end Go.Proofs.YtaoioncjmfcolaaGreat
