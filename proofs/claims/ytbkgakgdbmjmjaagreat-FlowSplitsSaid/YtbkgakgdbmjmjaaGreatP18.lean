/- ephem: the value of a coordinate. -/
import Derived.Test.YtbkgakgdbmjmjaaGreatP17
set_option linter.unusedSimpArgs false
set_option linter.unusedVariables false
set_option maxRecDepth 100000
set_option maxHeartbeats 4000000
namespace Go.Proofs.YtbkgakgdbmjmjaaGreat
open Go.RowKit
theorem T_EP3_7 {p : Prop} (h : p := by
 clear hY
 refine rh1 5 rfl fun K hK => ?_
 go_simp
 (go_at_call 229; (with_reducible refine (hd _ hHeld).mono ?_); rintro e t1 ⟨z1, rfl, hn1, hx1⟩)
 replace k10 := k10.ext hx1
 replace k11 := k11.ext hx1
 obtain ⟨s6, ao6, l6, cap6, bo6, lb6, cb6, rfl⟩ := hn1.shape
 refine hK.out _ _ ?_ fun _ => ?_
 ·exact b_15
 clear hK K hHeld
 rename_i hHeld
 try simp only [sx_]
 exact T_EP3_2) : p := h
theorem T_EP3_6 {p : Prop} (h : p := by
 refine rh1 11 rfl fun K hK => ?_
 have hne : _ < _ := k10.2.2.2.2.2.2
 replace hne := Nat.ne_of_lt hne
 obtain ⟨k11, hge11⟩ := fresh4_of hHeld
 have hxa := alloc4_ext hHeld
 replace hn2 := hn2.ext hxa
 replace hn3 := hn3.ext hxa
 replace k10 := k10.ext hxa
 clear hxa
 go_simp
 refine hK.out _ _ ?_ fun _ => ?_
 ·exact b_17
 clear hK K hHeld
 rename_i hHeld
 try simp only [sx_]
 refine wpAnyH_nm fun Y hY => ?_
 rw [hY] at hHeld hn2 hn3 k10 k11
 clear hY
 exact T_EP3_1) : p := h
theorem T_EP3_5 {p : Prop} (h : p := by
 refine rh1 10 rfl fun K hK => ?_
 have hne : _ < _ := k11.2.2.2.2.2.2
 replace hne := (Nat.ne_of_lt hne).symm
 obtain ⟨k10, hge10⟩ := fresh4_of hHeld
 have hxa := alloc4_ext hHeld
 replace hn2 := hn2.ext hxa
 replace hn3 := hn3.ext hxa
 replace k11 := k11.ext hxa
 clear hxa
 go_simp
 refine hK.out _ _ ?_ fun _ => ?_
 ·exact b_17
 clear hK K hHeld
 rename_i hHeld
 try simp only [sx_]
 refine wpAnyH_nm fun Y hY => ?_
 rw [hY] at hHeld hn2 hn3 k11 k10
 clear hY
 exact T_EP3_1) : p := h
theorem T_EP3_4 {p : Prop} (h : p := by
 refine rh2 6 11 rfl rfl (fun K hK => ?_) fun K hK => ?_
 ·go_simp
  (go_at_call 226; (with_reducible refine (hcl _ _ hHeld hn1).mono ?_); rintro e t2 ⟨z2, z3, rfl, hn2, hn3, hx2⟩)
  replace k10 := k10.ext hx2
  obtain ⟨s7, ao7, l7, cap7, bo7, lb7, cb7, rfl⟩ := hn2.shape
  obtain ⟨s8, ao8, l8, cap8, bo8, lb8, cb8, rfl⟩ := hn3.shape
  refine hK.out _ _ ?_ fun _ => ?_
  ·exact b_16
  clear hK K hHeld
  rename_i hHeld
  try simp only [sx_]
  refine tk 7 rfl c_3 ?_
  try simp only [sx_]
  refine tk 8 rfl c_3 ?_
  try simp only [sx_]
  refine tk 9 rfl c_3 ?_
  try simp only [sx_]
  exact T_EP3_6
 ·have hne : _ < _ := k10.2.2.2.2.2.2
  replace hne := Nat.ne_of_lt hne
  obtain ⟨k11, hge11⟩ := fresh4_of hHeld
  have hxa := alloc4_ext hHeld
  replace hn1 := hn1.ext hxa
  replace k10 := k10.ext hxa
  clear hxa
  go_simp
  refine hK.out _ _ ?_ fun _ => ?_
  ·exact b_17
  clear hK K hHeld
  rename_i hHeld
  try simp only [sx_]
  refine wpAnyH_nm fun Y hY => ?_
  rw [hY] at hHeld hn1 k10 k11
  clear hY
  exact T_EP3_2) : p := h
theorem T_EP3_3 {p : Prop} (h : p := by
 refine rh2 6 10 rfl rfl (fun K hK => ?_) fun K hK => ?_
 ·go_simp
  (go_at_call 226; (with_reducible refine (hcl _ _ hHeld hn1).mono ?_); rintro e t2 ⟨z2, z3, rfl, hn2, hn3, hx2⟩)
  replace k11 := k11.ext hx2
  obtain ⟨s7, ao7, l7, cap7, bo7, lb7, cb7, rfl⟩ := hn2.shape
  obtain ⟨s8, ao8, l8, cap8, bo8, lb8, cb8, rfl⟩ := hn3.shape
  refine hK.out _ _ ?_ fun _ => ?_
  ·exact b_16
  clear hK K hHeld
  rename_i hHeld
  try simp only [sx_]
  refine tk 7 rfl c_3 ?_
  try simp only [sx_]
  refine tk 8 rfl c_3 ?_
  try simp only [sx_]
  refine tk 9 rfl c_3 ?_
  try simp only [sx_]
  exact T_EP3_5
 ·have hne : _ < _ := k11.2.2.2.2.2.2
  replace hne := (Nat.ne_of_lt hne).symm
  obtain ⟨k10, hge10⟩ := fresh4_of hHeld
  have hxa := alloc4_ext hHeld
  replace hn1 := hn1.ext hxa
  replace k11 := k11.ext hxa
  clear hxa
  go_simp
  refine hK.out _ _ ?_ fun _ => ?_
  ·exact b_17
  clear hK K hHeld
  rename_i hHeld
  try simp only [sx_]
  refine wpAnyH_nm fun Y hY => ?_
  rw [hY] at hHeld hn1 k11 k10
  clear hY
  exact T_EP3_2) : p := h
theorem T_EP3_2 {p : Prop} (h : p := by
 refine rh1 6 rfl fun K hK => ?_
 go_simp
 (go_at_call 226; (with_reducible refine (hcl _ _ hHeld hn1).mono ?_); rintro e t2 ⟨z2, z3, rfl, hn2, hn3, hx2⟩)
 replace k10 := k10.ext hx2
 replace k11 := k11.ext hx2
 obtain ⟨s7, ao7, l7, cap7, bo7, lb7, cb7, rfl⟩ := hn2.shape
 obtain ⟨s8, ao8, l8, cap8, bo8, lb8, cb8, rfl⟩ := hn3.shape
 refine hK.out _ _ ?_ fun _ => ?_
 ·exact b_16
 clear hK K hHeld
 rename_i hHeld
 try simp only [sx_]
 refine tk 7 rfl c_3 ?_
 try simp only [sx_]
 refine tk 8 rfl c_3 ?_
 try simp only [sx_]
 refine tk 9 rfl c_3 ?_
 try simp only [sx_]
 exact T_EP3_1) : p := h
theorem T_EP3_1 {p : Prop} (h : p := by
 refine rh1 12 rfl fun K hK => ?_
 obtain ⟨⟨x0, p0⟩, ⟨x1, p1⟩, ⟨x2, p2⟩, ⟨x3, p3⟩, p4, p5, p6⟩ := id k10
 go_simp
 refine hK.out _ _ ?_ fun _ => ?_
 ·(try dsimp only); exact Ext.set4 hHeld (by omega) _ _ _ _
 clear hK K hHeld
 rename_i hHeld
 try simp only [sx_]
 have hGA := k10.store hn2
 replace hn3 := Fr.set4 (s := s7) (ao := ao7) (l := l7) (cap := cap7) (t := false) (bo := bo7) (l2 := lb7) (cap2 := cb7) hn3 p5
 replace k11 := k11.other4 (x := .bool s7) (y := .slice ao7 l7 cap7) (z := .bool false) (u := .slice bo7 lb7 cb7) hne.symm
 clear p0 p1 p2 p3 p4 p5 p6 k10 hn2
 refine wpAnyH_nm fun Y hY => ?_
 rw [hY] at hHeld hGA hn3 k11
 clear hY
 refine rh1 13 rfl fun K hK => ?_
 obtain ⟨⟨y0, r0⟩, ⟨y1, r1⟩, ⟨y2, r2⟩, ⟨y3, r3⟩, r4, r5, r6⟩ := id k11
 go_simp
 refine hK.out _ _ ?_ fun _ => ?_
 ·(try dsimp only); exact Ext.set4 hHeld (by omega) _ _ _ _
 clear hK K hHeld
 rename_i hHeld
 try simp only [sx_]
 have hGB := k11.store hn3
 replace hGA := FAt.other4 (s := s8) (ao := ao8) (l := l8) (cap := cap8) (t := false) (bo := bo8) (l2 := lb8) (cap2 := cb8) hGA hne r5
 clear r0 r1 r2 r3 r4 r5 r6 k11 hn3
 refine wpAnyH_nm fun Y hY => ?_
 rw [hY] at hHeld hGA hGB
 clear hY
 refine wpAnyH_done c_16 ?_ _
 go_wp2_with fail
 go_meet
 exact ⟨_, _, rfl, rfl, hHeld, hge10, hge11, hGA, hGB⟩) : p := h
theorem Xs.bits {w : World} {v : Value} {l : List Int} (hX : Xs w v l) : ∀ k, (cN l k).natAbs < 2 ^ 64 := fun k => by
 obtain ⟨_, _, _, _, _, _, _, _, _, _, h6⟩ := hX
 by_cases hk : k < l.length
 ·have h := h6 k hk
  unfold cN
  have h1 := h.1; have h2 := h.2
  have : (l.getD k 0).natAbs ≤ 9223372036854775808 := by omega
  exact Nat.lt_of_le_of_lt this (by decide)
 ·unfold cN
  rw [List.getD_eq_getElem?_getD, List.getElem?_eq_none (by omega)]
  decide
theorem Xs.len {w : World} {v : Value} {l : List Int} (h : Xs w v l) : ∃ ao b o cap, v = .slice ao l.length cap ∧ (0 < l.length → ao = some ⟨b, o, none⟩) ∧ l.length ≤ cap ∧ cap ≤ 9223372036854775807 := by
 obtain ⟨ao, b, o, cap, rfl, h1, h2, h3, h4, h5, h6⟩ := h; exact ⟨ao, b, o, cap, rfl, h1, h2, h3⟩
theorem Xs.at {w : World} {ao : Option Addr} {cap n : Nat} {l : List Int} (h : Xs w (.slice ao n cap) l) {k : Nat} (hk : k < l.length) : ∃ b o, ao = some ⟨b, o, none⟩ ∧ b < w.heap.size ∧ w.cell? ⟨b, o + k, none⟩ = some (.int .i64 (cN l k)) ∧ I64 (cN l k) := by
 obtain ⟨ao', b, o, cap', e, h1, h2, h3, h4, h5, h6⟩ := h
 cases e
 exact ⟨b, o, h1 (by omega), h4 (by omega), h5 k hk, h6 k hk⟩
theorem fresh4_of {W X : World} (h : Ext W X) : F4 (X.alloc (.cells #[.bool false, .slice none 0 0, .bool false, .slice none 0 0] 161)) X.heap.size ∧ W.heap.size ≤ X.heap.size := ⟨F4.fresh X, h.size⟩
theorem alloc4_ext {W X : World} (_ : Ext W X) : Ext X (X.alloc (.cells #[.bool false, .slice none 0 0, .bool false, .slice none 0 0] 161)) := (Ext.refl X).alloc _
theorem z_eVal (v : Value) (l : List Int) (vx : Value) (x : Rat) (w : World) (hX : Xs w v l) (hl0 : 0 < l.length) (hl6 : l.length ≤ 6) (hf : Fr w vx x) (hx : Fb x 56) :
    Calls Tryz.prog 179 #[v, vx] w fun e w' => ∃ u, e = .returned u ∧ Fr w' u (plX l x) ∧ Ext w w' := by
 obtain ⟨s1, ao, l1, cap1, bo, l2, cap2, rfl⟩ := hf.shape
 obtain ⟨xo, xb, xo2, xc, rfl, hxa, hxb, hxc⟩ := hX.len
 obtain ⟨N, hN⟩ : ∃ N, l.length = N + 1 := ⟨l.length - 1, by omega⟩
 obtain rfl := hxa hl0
 rw [hN] at hX hxb ⊢
 have hN5 : N ≤ 5 := by omega
 clear hxa hl0 hl6
 go_enter Tryz.func179, Tryz.ntmps179
 go_upto_region 1 with fail
 have hd : ∀ w1, Ext (((w.alloc (.cells #[.slice (some ⟨xb, xo2, none⟩) (N + 1) xc] 44)).alloc (.cells #[.bool s1, .slice ao l1 cap1, .bool false, .slice bo l2 cap2] 161)).alloc (.cells #[.bool false, .slice none 0 0, .bool false, .slice none 0 0] 161)) w1 → Calls Tryz.prog 229 #[.agg #[.bool s1, .slice ao l1 cap1, .bool false, .slice bo l2 cap2], .agg #[.bool s1, .slice ao l1 cap1, .bool false, .slice bo l2 cap2]] w1 fun e w' => ∃ u, e = .returned u ∧ Fr w' u (x + x) ∧ Ext w1 w' := fun w1 k1 => by
  have h1 : Ext w w1 := (ex_ : Ext w (((w.alloc (.cells #[.slice (some ⟨xb, xo2, none⟩) (N + 1) xc] 44)).alloc (.cells #[.bool s1, .slice ao l1 cap1, .bool false, .slice bo l2 cap2] 161)).alloc (.cells #[.bool false, .slice none 0 0, .bool false, .slice none 0 0] 161))).trans k1
  exact z_eAdd _ _ x x 56 56 w1 (hf.ext h1) (hf.ext h1) hx hx (by omega)
 have hcl : ∀ w1 v2, Ext (((w.alloc (.cells #[.slice (some ⟨xb, xo2, none⟩) (N + 1) xc] 44)).alloc (.cells #[.bool s1, .slice ao l1 cap1, .bool false, .slice bo l2 cap2] 161)).alloc (.cells #[.bool false, .slice none 0 0, .bool false, .slice none 0 0] 161)) w1 → Fr w1 v2 (x + x) → Calls Tryz.prog 226 #[.int .i64 ((N : Int) + 1), .func (.func 227) #[] #[.pointer (some ⟨w.heap.size, 0, none⟩)], v2] w1 fun e w' => ∃ u t, e = .returned (.tuple #[u, t]) ∧ Fr w' u (clB (cN l) x N N).1 ∧ Fr w' t (clB (cN l) x N N).2 ∧ Ext w1 w' := fun w1 v2 k1 h2 => by
  have h1 : Ext w w1 := (ex_ : Ext w (((w.alloc (.cells #[.slice (some ⟨xb, xo2, none⟩) (N + 1) xc] 44)).alloc (.cells #[.bool s1, .slice ao l1 cap1, .bool false, .slice bo l2 cap2] 161)).alloc (.cells #[.bool false, .slice none 0 0, .bool false, .slice none 0 0] 161))).trans k1
  have := z_clen w.heap.size N _ l v2 x w1 ((k1.cells.1 w.heap.size 0 c_46).trans c_47) (hX.ext h1) hN (by omega) h2 ((hx.add hx).le (by omega))
  rw [hN] at this; exact this
 refine wp_name fun WV hWV => ?_
 have hE0 : Ext w WV := Ext.same hWV ex_
 have hs0 : WV.heap.size = w.heap.size + 1 + 1 + 1 := by have e : WV = _ := hWV; rw [e]; simp
 have c0 : WV.cell? ⟨w.heap.size, 0, none⟩ = some (.slice (some ⟨xb, xo2, none⟩) (N + 1) xc) := by have e : WV = _ := hWV; rw [e]; simp [go_sem, ↓IntWalk.iteOmega]
 have a0 : WV.cell? ⟨w.heap.size + 1, 0, none⟩ = some (.bool s1) := by have e : WV = _ := hWV; rw [e]; simp [go_sem, ↓IntWalk.iteOmega]
 have a1 : WV.cell? ⟨w.heap.size + 1, 1, none⟩ = some (.slice ao l1 cap1) := by have e : WV = _ := hWV; rw [e]; simp [go_sem, ↓IntWalk.iteOmega]
 have a2 : WV.cell? ⟨w.heap.size + 1, 2, none⟩ = some (.bool false) := by have e : WV = _ := hWV; rw [e]; simp [go_sem, ↓IntWalk.iteOmega]
 have a3 : WV.cell? ⟨w.heap.size + 1, 3, none⟩ = some (.slice bo l2 cap2) := by have e : WV = _ := hWV; rw [e]; simp [go_sem, ↓IntWalk.iteOmega]
 have hF4 : F4 WV (w.heap.size + 1 + 1) := by have e : WV = _ := hWV; rw [e]; have := F4.fresh ((w.alloc (.cells #[.slice (some ⟨xb, xo2, none⟩) (N + 1) xc] 44)).alloc (.cells #[.bool s1, .slice ao l1 cap1, .bool false, .slice bo l2 cap2] 161)); simpa using this
 have hWe : WV = _ := hWV
 rw [← hWe] at hd hcl
 clear hWe hWV
 have hl0 : w.heap.size < WV.heap.size := by omega
 have hl1 : w.heap.size + 1 < WV.heap.size := by omega
 go_cut [5, 6] from 7 to 16 (fun s5 s6 wx => ∃ g1 g2, s5 = .pointer (some ⟨g1, 0, none⟩) ∧ s6 = .pointer (some ⟨g2, 0, none⟩) ∧ Ext WV wx ∧ WV.heap.size ≤ g1 ∧ WV.heap.size ≤ g2 ∧ FAt wx g1 (clB (cN l) x N N).1 ∧ FAt wx g2 (clB (cN l) x N N).2)
 case first =>
  refine wp_region_held_drew (S := (fun w0 => Ext WV w0)) c_16 ?_ (fun hHeld => ?_)
  ·exact (Ext.refl _).drew
  refine wpAnyH_nm fun Y hY => ?_
  rw [hY] at hHeld
  clear hY
  try simp only [sx_]
  refine tk 0 rfl c_26 ?_
  try simp only [sx_]
  refine tk 1 rfl c_3 ?_
  try simp only [sx_]
  refine tk 2 rfl c_3 ?_
  try simp only [sx_]
  refine tk 3 rfl c_26 ?_
  try simp only [sx_]
  refine tk 4 rfl c_26 ?_
  try simp only [sx_]
  refine wpAnyH_ready (rs := [5, 10, 11]) c_16 (by simp) ?_
  refine AllReadyH.cons (o := _) rfl (fun K hK => ?_) (AllReadyH.cons (o := _) rfl (fun K hK => ?_) (AllReadyH.cons (o := _) rfl (fun K hK => ?_) AllReadyH.nil))
  ·go_simp
   (go_at_call 229; (with_reducible refine (hd _ hHeld).mono ?_); rintro e t1 ⟨z1, rfl, hn1, hx1⟩)
   obtain ⟨s6, ao6, l6, cap6, bo6, lb6, cb6, rfl⟩ := hn1.shape
   refine hK.out _ _ ?_ fun _ => ?_
   ·exact b_15
   clear hK K hHeld
   rename_i hHeld
   try simp only [sx_]
   refine wpAnyH_ready (rs := [6, 10, 11]) c_16 (by simp) ?_
   refine AllReadyH.cons (o := _) rfl (fun K hK => ?_) (AllReadyH.cons (o := _) rfl (fun K hK => ?_) (AllReadyH.cons (o := _) rfl (fun K hK => ?_) AllReadyH.nil))
   ·go_simp
    (go_at_call 226; (with_reducible refine (hcl _ _ hHeld hn1).mono ?_); rintro e t2 ⟨z2, z3, rfl, hn2, hn3, hx2⟩)
    obtain ⟨s7, ao7, l7, cap7, bo7, lb7, cb7, rfl⟩ := hn2.shape
    obtain ⟨s8, ao8, l8, cap8, bo8, lb8, cb8, rfl⟩ := hn3.shape
    refine hK.out _ _ ?_ fun _ => ?_
    ·exact b_16
    clear hK K hHeld
    rename_i hHeld
    try simp only [sx_]
    refine tk 7 rfl c_3 ?_
    try simp only [sx_]
    refine tk 8 rfl c_3 ?_
    try simp only [sx_]
    refine tk 9 rfl c_3 ?_
    try simp only [sx_]
    refine rh2 10 11 rfl rfl (fun K hK => ?_) fun K hK => ?_
    ·obtain ⟨k10, hge10⟩ := fresh4_of hHeld
     have hxa := alloc4_ext hHeld
     replace hn2 := hn2.ext hxa
     replace hn3 := hn3.ext hxa
     clear hxa
     go_simp
     refine hK.out _ _ ?_ fun _ => ?_
     ·exact b_17
     clear hK K hHeld
     rename_i hHeld
     try simp only [sx_]
     refine wpAnyH_nm fun Y hY => ?_
     rw [hY] at hHeld hn2 hn3 k10
     clear hY
     exact T_EP3_6
    ·obtain ⟨k11, hge11⟩ := fresh4_of hHeld
     have hxa := alloc4_ext hHeld
     replace hn2 := hn2.ext hxa
     replace hn3 := hn3.ext hxa
     clear hxa
     go_simp
     refine hK.out _ _ ?_ fun _ => ?_
     ·exact b_17
     clear hK K hHeld
     rename_i hHeld
     try simp only [sx_]
     refine wpAnyH_nm fun Y hY => ?_
     rw [hY] at hHeld hn2 hn3 k11
     clear hY
     exact T_EP3_5
   ·obtain ⟨k10, hge10⟩ := fresh4_of hHeld
    have hxa := alloc4_ext hHeld
    replace hn1 := hn1.ext hxa
    clear hxa
    go_simp
    refine hK.out _ _ ?_ fun _ => ?_
    ·exact b_17
    clear hK K hHeld
    rename_i hHeld
    try simp only [sx_]
    refine wpAnyH_nm fun Y hY => ?_
    rw [hY] at hHeld hn1 k10
    clear hY
    exact T_EP3_4
   ·obtain ⟨k11, hge11⟩ := fresh4_of hHeld
    have hxa := alloc4_ext hHeld
    replace hn1 := hn1.ext hxa
    clear hxa
    go_simp
    refine hK.out _ _ ?_ fun _ => ?_
    ·exact b_17
    clear hK K hHeld
    rename_i hHeld
    try simp only [sx_]
    refine wpAnyH_nm fun Y hY => ?_
    rw [hY] at hHeld hn1 k11
    clear hY
    exact T_EP3_3
  ·obtain ⟨k10, hge10⟩ := fresh4_of hHeld
   have hxa := alloc4_ext hHeld
   clear hxa
   go_simp
   refine hK.out _ _ ?_ fun _ => ?_
   ·exact b_17
   clear hK K hHeld
   rename_i hHeld
   try simp only [sx_]
   refine wpAnyH_nm fun Y hY => ?_
   rw [hY] at hHeld k10
   clear hY
   refine rh2 5 11 rfl rfl (fun K hK => ?_) fun K hK => ?_
   ·go_simp
    (go_at_call 229; (with_reducible refine (hd _ hHeld).mono ?_); rintro e t1 ⟨z1, rfl, hn1, hx1⟩)
    replace k10 := k10.ext hx1
    obtain ⟨s6, ao6, l6, cap6, bo6, lb6, cb6, rfl⟩ := hn1.shape
    refine hK.out _ _ ?_ fun _ => ?_
    ·exact b_15
    clear hK K hHeld
    rename_i hHeld
    try simp only [sx_]
    exact T_EP3_4
   ·have hne : _ < _ := k10.2.2.2.2.2.2
    replace hne := Nat.ne_of_lt hne
    obtain ⟨k11, hge11⟩ := fresh4_of hHeld
    have hxa := alloc4_ext hHeld
    replace k10 := k10.ext hxa
    clear hxa
    go_simp
    refine hK.out _ _ ?_ fun _ => ?_
    ·exact b_17
    clear hK K hHeld
    rename_i hHeld
    try simp only [sx_]
    refine wpAnyH_nm fun Y hY => ?_
    rw [hY] at hHeld k10 k11
    exact T_EP3_7
  ·obtain ⟨k11, hge11⟩ := fresh4_of hHeld
   have hxa := alloc4_ext hHeld
   clear hxa
   go_simp
   refine hK.out _ _ ?_ fun _ => ?_
   ·exact b_17
   clear hK K hHeld
   rename_i hHeld
   try simp only [sx_]
   refine wpAnyH_nm fun Y hY => ?_
   rw [hY] at hHeld k11
   clear hY
   refine rh2 5 10 rfl rfl (fun K hK => ?_) fun K hK => ?_
   ·go_simp
    (go_at_call 229; (with_reducible refine (hd _ hHeld).mono ?_); rintro e t1 ⟨z1, rfl, hn1, hx1⟩)
    replace k11 := k11.ext hx1
    obtain ⟨s6, ao6, l6, cap6, bo6, lb6, cb6, rfl⟩ := hn1.shape
    refine hK.out _ _ ?_ fun _ => ?_
    ·exact b_15
    clear hK K hHeld
    rename_i hHeld
    try simp only [sx_]
    exact T_EP3_3
   ·have hne : _ < _ := k11.2.2.2.2.2.2
    replace hne := (Nat.ne_of_lt hne).symm
    obtain ⟨k10, hge10⟩ := fresh4_of hHeld
    have hxa := alloc4_ext hHeld
    replace k11 := k11.ext hxa
    clear hxa
    go_simp
    refine hK.out _ _ ?_ fun _ => ?_
    ·exact b_17
    clear hK K hHeld
    rename_i hHeld
    try simp only [sx_]
    refine wpAnyH_nm fun Y hY => ?_
    rw [hY] at hHeld k11 k10
    exact T_EP3_7
 obtain ⟨g1, g2, rfl, rfl, hEc, hg1, hg2, hGA, hGB⟩ := hcut
 obtain ⟨sA, aoA, lA, capA, boA, mA, cpA, f0, f1, f2, f3, fA, zA, eA⟩ := id hGA.opened
 obtain ⟨sB, aoB, lB, capB, boB, mB, cpB, g0, g1', g2', g3, fB, zB, eB⟩ := id hGB.opened
 have hF5 := hF4.ext hEc
 have hlA := hGA.lt
 have hlB := hGB.lt
 have hl2 := hF5.2.2.2.2.2.2
 clear eA eB hd hcl hGA hGB
 replace c0 := (hEc.cells.1 w.heap.size 0 hl0).trans c0
 replace a0 := (hEc.cells.1 (w.heap.size + 1) 0 hl1).trans a0
 replace a1 := (hEc.cells.1 (w.heap.size + 1) 1 hl1).trans a1
 replace a2 := (hEc.cells.1 (w.heap.size + 1) 2 hl1).trans a2
 replace a3 := (hEc.cells.1 (w.heap.size + 1) 3 hl1).trans a3
 have hEw : Ext w wc := hE0.trans hEc
 obtain ⟨b', o', ej, hb1, hb2, hb3⟩ := (hX.ext hEw).at (k := 0) (by omega)
 obtain ⟨rfl, rfl⟩ : xb = b' ∧ xo2 = o' := by simpa using ej
 rw [Nat.add_zero] at hb2
 replace hl0 : w.heap.size < wc.heap.size := by have := hEc.size; omega
 replace hl1 : w.heap.size + 1 < wc.heap.size := by have := hEc.size; omega
 have hbit := clB_fb (n := N) (c := cN l) (b := 113) ((hx.add hx).le (by omega)) (Xs.bits hX) N
 have hp3 := pow3_le hN5
 have hfA : Fb (clB (cN l) x N N).1 43740 := hbit.1.le (by omega)
 have hfB : Fb (clB (cN l) x N N).2 43740 := hbit.2.le (by omega)
 have hc0 : Fb ((cN l 0 : Int) : Rat) 64 := fb_int (Xs.bits hX 0) (by decide)
 have e0 : plX l x = ((cN l 0 : Int) : Rat) + x * (clB (cN l) x N N).1 - (clB (cN l) x N N).2 := by
  unfold plX; rw [hN, cl_sum]
 replace e0 := Lib.hid e0
 have hw1 := fun w1 => z_eWhole (cN l 0) w1 hb3.1 (by have := hb3.2; omega)
 have hm := fun w1 (h1 : Ext wc w1) => z_eMul _ _ x (clB (cN l) x N N).1 56 43740 w1 (hf.ext (hEw.trans h1)) (fA.ext h1) hx hfA (by omega)
 have hd := fun w1 va vb (ha : Fr w1 va ((cN l 0 : Int) : Rat)) (hb : Fr w1 vb (x * (clB (cN l) x N N).1)) => z_eAdd va vb _ _ 64 43796 w1 ha hb hc0 ((hx.mul hfA).le (by omega)) (by omega)
 have hs := fun w1 va (ha : Fr w1 va (((cN l 0 : Int) : Rat) + x * (clB (cN l) x N N).1)) (h1 : Ext wc w1) => z_eSub va _ _ (clB (cN l) x N N).2 43861 43740 w1 ha (fB.ext h1) ((hc0.add (hx.mul hfA)).le (by omega)) hfB (by omega)
 clear hbit hp3 hfA hfB hc0 hX hN hb3 hx ej
 obtain ⟨C, hC⟩ : ∃ C, ((cN l 0 : Int) : Rat) = C := ⟨_, rfl⟩
 rw [hC] at e0 hw1 hd hs
 obtain ⟨c, hc⟩ : ∃ c, cN l 0 = c := ⟨_, rfl⟩
 rw [hc] at hb2 hw1
 clear hC hc
 go_upto_region 2 with fail
 refine wp_region_till (S := (fun w0 => Ext wc w0)) (fun i => decide (i = 10)) c_16 ?_ (fun hHeld => ?_)
 ·exact (Ext.refl _).drew
 try simp only [sx_]
 refine tb 0 rfl c_8 ?_
 try simp only [sx_]
 refine tb 1 rfl c_3 ?_
 try simp only [sx_]
 refine tb 2 rfl c_8 ?_
 try simp only [sx_]
 refine tb 4 rfl c_8 ?_
 try simp only [sx_]
 refine tb 5 rfl c_8 ?_
 try simp only [sx_]
 refine tb 8 rfl c_8 ?_
 try simp only [sx_]
 refine rb (i := 3) rfl fun K hK => ?_
 go_simp
 (go_at_call 228; (with_reducible refine (hw1 _).mono ?_); rintro e t1 ⟨z1, rfl, hn1, hx1⟩)
 refine hK.out _ _ ?_ fun _ => ?_
 ·exact b_15
 clear hK K hHeld
 rename_i hHeld
 try simp only [sx_]
 refine rb (i := 6) rfl fun K hK => ?_
 go_simp
 (go_at_call 225; (with_reducible refine (hm _ hHeld).mono ?_); rintro e t2 ⟨z2, rfl, hn2, hx2⟩; replace hn1 := hn1.ext hx2)
 refine hK.out _ _ ?_ fun _ => ?_
 ·exact b_16
 clear hK K hHeld
 rename_i hHeld
 try simp only [sx_]
 refine rb (i := 7) rfl fun K hK => ?_
 go_simp
 (go_at_call 229; (with_reducible refine (hd _ _ _ hn1 hn2).mono ?_); rintro e t3 ⟨z3, rfl, hn3, hx3⟩)
 refine hK.out _ _ ?_ fun _ => ?_
 ·(try dsimp only); exact Ext.trans hHeld hx3
 clear hK K hHeld
 rename_i hHeld
 try simp only [sx_]
 refine rb (i := 9) rfl fun K hK => ?_
 go_simp
 (go_at_call 230; (with_reducible refine (hs _ _ hn3 hHeld).mono ?_); rintro e t4 ⟨z4, rfl, hn4, hx4⟩; obtain ⟨s5, ao5, l5, cap5, bo5, lb5, cb5, rfl⟩ := hn4.shape)
 refine hK.out _ _ ?_ fun _ => ?_
 ·(try dsimp only); exact Ext.trans hHeld hx4
 clear hK K hHeld
 rename_i hHeld
 try simp only [sx_]
 refine rl (i := 10) rfl fun K hK => ?_
 have hW := hHeld
 replace hF5 := hF5.ext hHeld
 obtain ⟨⟨x0, p0⟩, ⟨x1, p1⟩, ⟨x2, p2⟩, ⟨x3, p3⟩, p4, p5, p6⟩ := id hF5
 go_simp
 refine hK.out _ _ trivial (fun _ => ?_)
 clear hK K
 try simp only [sx_]
 refine wpAnyH_done c_16 ?_ _
 go_wp2_with fail
 refine bodyPost_ret (v := .agg #[.bool s5, .slice ao5 l5 cap5, .bool false, .slice bo5 lb5 cb5]) ?_ rfl ⟨_, rfl, ?_, ?_⟩
 ·simp [results, Tryz.results179, go_sem, ↓IntWalk.iteOmega, *]
 ·rw [e0.out]; exact Fr.set4 hn4 p5
 ·exact Ext.set4 (hEw.trans hW) (by omega) _ _ _ _
end Go.Proofs.YtbkgakgdbmjmjaaGreat
