/- trig: the ratio of circumference and diameter. -/
import Derived.Test.YtogblocakccbgaaGreatU12
set_option linter.unusedSimpArgs false
set_option linter.unusedVariables false
set_option maxRecDepth 100000
set_option maxHeartbeats 4000000
namespace Go.Proofs.YtogblocakccbgaaGreat
open Go.RowKit
theorem T_TC_5 {p : Prop} (h : p := by
 clear hK K hH
 rename_i hH
 try simp only [sx_]
 refine wpAnyH_done c_2 ?_ _
 go_wp2_with fail
 go_meet
 exact ⟨_, rfl, hH, c_5, hst⟩) : p := h
theorem T_TC_4 {p : Prop} (h : p := by
 clear hK K hH
 rename_i hH
 try simp only [sx_]
 refine rh1 4 rfl fun K hK => ?_
 go_simp
 (go_at_call 28; (with_reducible refine (t_numZ 32 _ (by omega) (by omega)).mono ?_); rintro e w3 ⟨y3, rfl, hf3, hx⟩)
 replace hWa := hWa.ext hx
 replace hWb := hWb.ext hx
 replace hf1 := hf1.ext hx
 replace hf2 := hf2.ext hx
 replace hbk := hbk.ext hx
 refine hK.out _ _ ?_ fun _ => ?_
 ·exact b_10
 exact T_TC_1) : p := h
theorem T_TC_3 {p : Prop} (h : p := by
 clear hK K hH
 rename_i hH
 try simp only [sx_]
 refine rh1 3 rfl fun K hK => ?_
 go_simp
 (go_at_call 27; (with_reducible refine (t_mulZ _ _ 48 a _ hf1 hWa sz48 (okN.sz hza) (okN.sz hk1)).mono ?_); rintro e w2 ⟨y2, rfl, hf2, hx⟩)
 replace hWa := hWa.ext hx
 replace hWb := hWb.ext hx
 replace hf1 := hf1.ext hx
 replace hbk := hbk.ext hx
 refine hK.out _ _ ?_ fun _ => ?_
 ·exact b_10
 exact T_TC_4) : p := h
theorem T_TC_2 {p : Prop} (h : p := by
 clear hK K hH
 rename_i hH
 try simp only [sx_]
 refine rh1 8 rfl fun K hK => ?_
 go_simp
 (go_at_call 58; (with_reducible refine (t_addZ _ _ (48 * a) (32 * b) _ hf2 hf4 (okN.sz hk1) (okN.sz hk2) (okN.sz hk3)).mono ?_); rintro e w5 ⟨y5, rfl, hf5, hx⟩)
 replace hWa := hWa.ext hx
 replace hWb := hWb.ext hx
 replace hf1 := hf1.ext hx
 replace hf2 := hf2.ext hx
 replace hf3 := hf3.ext hx
 replace hf4 := hf4.ext hx
 replace hbk := hbk.ext hx
 obtain ⟨s6, ao6, n6, cap6, rfl, hf6⟩ := hf5.open
 refine hK.out _ _ ?_ fun _ => ?_
 ·exact b_10
 clear hK K hH
 rename_i hH
 try simp only [sx_]
 refine rh1 10 rfl fun K hK => ?_
 obtain ⟨⟨xa, h3a⟩, ⟨xb, h3b⟩, h3f, hnu, hsl⟩ := hbk
 have hst := Bx2.store ⟨⟨xa, h3a⟩, ⟨xb, h3b⟩, h3f, hnu, hsl⟩ hf6
 go_simp
 refine hK.out _ _ ?_ fun _ => ?_
 ·exact b_11
 exact T_TC_5) : p := h
theorem T_TC_1 {p : Prop} (h : p := by
 clear hK K hH
 rename_i hH
 try simp only [sx_]
 refine rh1 7 rfl fun K hK => ?_
 go_simp
 (go_at_call 27; (with_reducible refine (t_mulZ _ _ 32 b _ hf3 hWb sz32 (okN.sz hzb) (okN.sz hk2)).mono ?_); rintro e w4 ⟨y4, rfl, hf4, hx⟩)
 replace hWa := hWa.ext hx
 replace hWb := hWb.ext hx
 replace hf1 := hf1.ext hx
 replace hf2 := hf2.ext hx
 replace hf3 := hf3.ext hx
 replace hbk := hbk.ext hx
 refine hK.out _ _ ?_ fun _ => ?_
 ·exact b_10
 exact T_TC_2) : p := h
theorem sz48 : Sz 48 := small_bits (k := 6) (by decide) (by decide)
theorem sz32 : Sz 32 := small_bits (k := 6) (by decide) (by decide)
theorem sz20 : Sz 20 := small_bits (k := 6) (by decide) (by decide)
def BAt (w : World) (g : Nat) (x r : Int) : Prop := ∃ s ao n cap, w.cell? ⟨g, 0, none⟩ = some (.bool s) ∧ w.cell? ⟨g, 1, none⟩ = some (.slice ao n cap) ∧ w.cell? ⟨g, 2, none⟩ = some (.int .i64 r) ∧ Wid w (.agg #[.bool s, .slice ao n cap]) x
theorem BAt.ext {a w : World} {g : Nat} {x r : Int} (h : BAt a g x r) (k : Ext a w) : BAt w g x r := by
 obtain ⟨s, ao, n, cap, h1, h2, h3, h4⟩ := h
 have hl := World.block_lt_of_cell? _ _ h1
 exact ⟨s, ao, n, cap, (k.cells.1 g 0 hl).trans h1, (k.cells.1 g 1 hl).trans h2, (k.cells.1 g 2 hl).trans h3, h4.ext k⟩
theorem BAt.lit {w : World} {g : Nat} {s : Bool} {ao : Option Addr} {n cap : Nat} {x r : Int} (h : Wid w (.agg #[.bool s, .slice ao n cap]) x) (hg : g = w.heap.size) : BAt (w.alloc (.cells #[.bool s, .slice ao n cap, .int .i64 r] 57)) g x r := by
 subst hg
 exact ⟨s, ao, n, cap, by simp [go_sem, ↓IntWalk.iteOmega], by simp [go_sem, ↓IntWalk.iteOmega], by simp [go_sem, ↓IntWalk.iteOmega], h.ext ((Ext.refl w).alloc _)⟩
def Bx3 (w : World) (g : Nat) : Prop := (∃ a, w.cell? ⟨g, 0, none⟩ = some a) ∧ (∃ a, w.cell? ⟨g, 1, none⟩ = some a) ∧ (∃ a, w.cell? ⟨g, 2, none⟩ = some a) ∧ (∀ o, w.frozen? ⟨g, o, none⟩ = false) ∧ NoU w g ∧ g < w.heap.size
theorem Bx3.ext {g : Nat} {a b : World} (h : Bx3 a g) (k : Ext a b) : Bx3 b g := by
 obtain ⟨⟨x, h1⟩, ⟨y, h2⟩, ⟨z, h3⟩, h4, h5, h6⟩ := h
 exact ⟨⟨x, (k.cells.1 g 0 h6).trans h1⟩, ⟨y, (k.cells.1 g 1 h6).trans h2⟩, ⟨z, (k.cells.1 g 2 h6).trans h3⟩, fun o => (k.cells.2 g o h6).trans (h4 o), h5.ext h6 k, Nat.lt_of_lt_of_le h6 k.size⟩
theorem Bx3.fresh (w : World) : Bx3 (w.alloc (.cells #[.bool false, .slice none 0 0, .int .i64 0] 57)) w.heap.size :=
 ⟨⟨.bool false, by simp [go_sem, ↓IntWalk.iteOmega]⟩, ⟨.slice none 0 0, by simp [go_sem, ↓IntWalk.iteOmega]⟩, ⟨.int .i64 0, by simp [go_sem, ↓IntWalk.iteOmega]⟩, fun o => by simp [go_sem, ↓IntWalk.iteOmega], NoU.new w _ _ (noU3 (by simp) (by simp) (by simp)), by simp⟩
theorem t_pi (p F : Nat) (a b c : Int) (ca cb cc : Nat) (w : World) (hp : p ≤ 1000) (hF : F ≤ 100000) (h1 : ca ≤ 100000) (h2 : cb ≤ 100000) (h3 : cc ≤ 100000)
    (r1 : atanF 18 F 0 (2 ^ p / 18) 0 = some (a, ca)) (r2 : atanF 57 F 0 (2 ^ p / 57) 0 = some (b, cb)) (r3 : atanF 239 F 0 (2 ^ p / 239) 0 = some (c, cc))
    (hk1 : okN (48 * a) = true) (hk2 : okN (32 * b) = true) (hk3 : okN (48 * a + 32 * b) = true) (hk4 : okN (20 * c) = true) (hk5 : okN (48 * a + 32 * b - 20 * c) = true) :
    Calls Tryz.prog 25 #[.int .i64 p] w fun e w' => ∃ u, e = .returned u ∧ Ball w' u (48 * a + 32 * b - 20 * c) (48 * (2 * (ca : Int) + 4) + 32 * (2 * (cb : Int) + 4) + 20 * (2 * (cc : Int) + 4)) ∧ Ext w w' := by
 have hat1 : ∀ w, Calls Tryz.prog 62 #[.int .i64 18, .int .i64 p] w fun e w' => ∃ u, e = .returned u ∧ Ball w' u a (2 * (ca : Int) + 4) ∧ Ext w w' := fun w => t_arctan 18 p F a ca w (by decide) (by decide) hp hF h1 r1
 have hat2 : ∀ w, Calls Tryz.prog 62 #[.int .i64 57, .int .i64 p] w fun e w' => ∃ u, e = .returned u ∧ Ball w' u b (2 * (cb : Int) + 4) ∧ Ext w w' := fun w => t_arctan 57 p F b cb w (by decide) (by decide) hp hF h2 r2
 have hat3 : ∀ w, Calls Tryz.prog 62 #[.int .i64 239, .int .i64 p] w fun e w' => ∃ u, e = .returned u ∧ Ball w' u c (2 * (cc : Int) + 4) ∧ Ext w w' := fun w => t_arctan 239 p F c cc w (by decide) (by decide) hp hF h3 r3
 have hza : okN a = true := atanF_res r1
 have hzb : okN b = true := atanF_res r2
 have hzc : okN c = true := atanF_res r3
 obtain ⟨ra, hra⟩ : ∃ ra, 2 * (ca : Int) + 4 = ra := ⟨_, rfl⟩
 obtain ⟨rb, hrb⟩ : ∃ rb, 2 * (cb : Int) + 4 = rb := ⟨_, rfl⟩
 obtain ⟨rc, hrc⟩ : ∃ rc, 2 * (cc : Int) + 4 = rc := ⟨_, rfl⟩
 have l1 : 0 ≤ ra ∧ ra ≤ 1000000 := by omega
 have l2 : 0 ≤ rb ∧ rb ≤ 1000000 := by omega
 have l3 : 0 ≤ rc ∧ rc ≤ 1000000 := by omega
 rw [hra, hrb, hrc]
 rw [hra] at hat1
 rw [hrb] at hat2
 rw [hrc] at hat3
 have hv1 : Hid (IntKind.i64.wrap (48 * ra) = 48 * ra) := by show _ = _; rw [IntKind.wrap_i64]; omega
 have hv2 : Hid (IntKind.i64.wrap (32 * rb) = 32 * rb) := by show _ = _; rw [IntKind.wrap_i64]; omega
 have hv3 : Hid (IntKind.i64.wrap (48 * ra + 32 * rb) = 48 * ra + 32 * rb) := by show _ = _; rw [IntKind.wrap_i64]; omega
 have hv4 : Hid (IntKind.i64.wrap (20 * rc) = 20 * rc) := by show _ = _; rw [IntKind.wrap_i64]; omega
 have hv5 : Hid (IntKind.i64.wrap (48 * ra + 32 * rb + 20 * rc) = 48 * ra + 32 * rb + 20 * rc) := by show _ = _; rw [IntKind.wrap_i64]; omega
 clear r1 r2 r3 hra hrb hrc l1 l2 l3 h1 h2 h3
 go_enter Tryz.func25, Tryz.ntmps25
 go_upto_region 1 with fail
 go_cut [3, 4, 5, 8, 10, 12] (fun s3 s4 s5 s8 s10 s12 wx => ∃ g1 g2 g3, s3 = .pointer (some ⟨g1, 0, none⟩) ∧ s4 = .pointer (some ⟨g2, 0, none⟩) ∧ s5 = .pointer (some ⟨g3, 0, none⟩) ∧ Ext (w.alloc (.cells #[.bool false, .slice none 0 0, .int .i64 0] 57)) wx ∧ w.heap.size < g1 ∧ w.heap.size < g2 ∧ w.heap.size < g3 ∧ BAt wx g1 a ra ∧ BAt wx g2 b rb ∧ BAt wx g3 c rc)
 case first =>
  go_wp2_with (first
   | (go_at_call 62; (with_reducible refine (hat1 _).mono ?_); rintro e w1 ⟨y1, rfl, hy1, hb1⟩; obtain ⟨s1, ao1, n1, cap1, rfl, hw1⟩ := hy1.open; clear hat1; obtain ⟨_, _, ⟨hc1, hf1⟩, hz1⟩ := hb1.c3; (try simp only [wsz] at hz1 hc1 hf1))
   | (go_at_call 62; (with_reducible refine (hat2 _).mono ?_); rintro e w2 ⟨y2, rfl, hy2, hb2⟩; obtain ⟨s2, ao2, n2, cap2, rfl, hw2⟩ := hy2.open; clear hat2; obtain ⟨_, _, ⟨hc2, hf2⟩, hz2⟩ := hb2.c3; (try simp only [wsz] at hz2 hc2 hf2))
   | (go_at_call 62; (with_reducible refine (hat3 _).mono ?_); rintro e w3 ⟨y3, rfl, hy3, hb3⟩; obtain ⟨s3, ao3, n3, cap3, rfl, hw3⟩ := hy3.open; clear hat3; obtain ⟨_, _, ⟨hc3, hf3⟩, hz3⟩ := hb3.c3; (try simp only [wsz] at hz3 hc3 hf3)))
  go_meet
  have e1 : BAt (w3.alloc (.cells #[.bool s1, .slice ao1 n1 cap1, .int .i64 ra] 57)) w3.heap.size a ra := BAt.lit (hw1.ext (Ext.trans hb2 hb3)) rfl
  have e2 : BAt ((w3.alloc (.cells #[.bool s1, .slice ao1 n1 cap1, .int .i64 ra] 57)).alloc (.cells #[.bool s2, .slice ao2 n2 cap2, .int .i64 rb] 57)) (w3.heap.size + 1) b rb := BAt.lit ((hw2.ext hb3).ext ((Ext.refl w3).alloc (.cells #[.bool s1, .slice ao1 n1 cap1, .int .i64 ra] 57))) (by simp)
  have e3 : BAt (((w3.alloc (.cells #[.bool s1, .slice ao1 n1 cap1, .int .i64 ra] 57)).alloc (.cells #[.bool s2, .slice ao2 n2 cap2, .int .i64 rb] 57)).alloc (.cells #[.bool s3, .slice ao3 n3 cap3, .int .i64 rc] 57)) (w3.heap.size + 1 + 1) c rc := BAt.lit ((hw3.ext ((Ext.refl w3).alloc (.cells #[.bool s1, .slice ao1 n1 cap1, .int .i64 ra] 57))).ext ((Ext.refl (w3.alloc (.cells #[.bool s1, .slice ao1 n1 cap1, .int .i64 ra] 57))).alloc (.cells #[.bool s2, .slice ao2 n2 cap2, .int .i64 rb] 57))) (by simp)
  exact ⟨_, _, _, rfl, rfl, rfl, ex_, by omega, by omega, by omega, (e1.ext ((Ext.refl _).alloc _)).ext ((Ext.refl _).alloc _), e2.ext ((Ext.refl _).alloc _), e3⟩
 case rest =>
  rename World => V
  obtain ⟨g1, g2, g3, rfl, rfl, rfl, hE, hg1, hg2, hg3, hA, hB, hC⟩ := hcut
  obtain ⟨sA, aoA, nA, capA, a0, a1, a2, hWa⟩ := hA
  obtain ⟨sB, aoB, nB, capB, b0, b1, b2, hWb⟩ := hB
  obtain ⟨sC, aoC, nC, capC, c0, c1, c2, hWc⟩ := hC
  have la : g1 < V.heap.size := World.block_lt_of_cell? _ _ a0
  have lb : g2 < V.heap.size := World.block_lt_of_cell? _ _ b0
  have lc : g3 < V.heap.size := World.block_lt_of_cell? _ _ c0
  have hB3 := (Bx3.fresh w).ext hE
  have hEw : Ext w V := Ext.trans ((Ext.refl w).alloc _) hE
  have hzw := hE.size
  rw [World.size_alloc] at hzw
  clear hE hat1 hat2 hat3
  go_upto_region 2 with fail
  replace hWa := hWa.ext ((Ext.refl V).drew)
  replace hWb := hWb.ext ((Ext.refl V).drew)
  go_cut [6, 13, 16, 17, 20, 21] (fun s6 s13 s16 s17 s20 s21 wx => ∃ g, s6 = .pointer (some ⟨g, 0, none⟩) ∧ Ext V wx ∧ V.heap.size ≤ g ∧ WAt wx g (48 * a + 32 * b))
  case first =>
   refine wp_region_held_drew (S := (fun w0 => Ext V w0)) c_2 ?_ (fun hH => ?_)
   ·exact (Ext.refl _).drew
   try simp only [sx_]
   refine sK 1 ?_
   refine tk 2 rfl c_9 ?_
   try simp only [sx_]
   refine sK 5 ?_
   refine tk 6 rfl c_9 ?_
   try simp only [sx_]
   refine rh2 0 9 rfl rfl (fun K hK => ?_) fun K hK => ?_
   ·go_simp
    (go_at_call 28; (with_reducible refine (t_numZ 48 _ (by omega) (by omega)).mono ?_); rintro e w1 ⟨y1, rfl, hf1, hx⟩)
    replace hWa := hWa.ext hx
    replace hWb := hWb.ext hx
    refine hK.out _ _ ?_ fun _ => ?_
    ·exact b_10
    clear hK K hH
    rename_i hH
    try simp only [sx_]
    refine rh2 3 9 rfl rfl (fun K hK => ?_) fun K hK => ?_
    ·go_simp
     (go_at_call 27; (with_reducible refine (t_mulZ _ _ 48 a _ hf1 hWa sz48 (okN.sz hza) (okN.sz hk1)).mono ?_); rintro e w2 ⟨y2, rfl, hf2, hx⟩)
     replace hWa := hWa.ext hx
     replace hWb := hWb.ext hx
     replace hf1 := hf1.ext hx
     refine hK.out _ _ ?_ fun _ => ?_
     ·exact b_10
     clear hK K hH
     rename_i hH
     try simp only [sx_]
     refine rh2 4 9 rfl rfl (fun K hK => ?_) fun K hK => ?_
     ·go_simp
      (go_at_call 28; (with_reducible refine (t_numZ 32 _ (by omega) (by omega)).mono ?_); rintro e w3 ⟨y3, rfl, hf3, hx⟩)
      replace hWa := hWa.ext hx
      replace hWb := hWb.ext hx
      replace hf1 := hf1.ext hx
      replace hf2 := hf2.ext hx
      refine hK.out _ _ ?_ fun _ => ?_
      ·exact b_10
      clear hK K hH
      rename_i hH
      try simp only [sx_]
      refine rh2 7 9 rfl rfl (fun K hK => ?_) fun K hK => ?_
      ·go_simp
       (go_at_call 27; (with_reducible refine (t_mulZ _ _ 32 b _ hf3 hWb sz32 (okN.sz hzb) (okN.sz hk2)).mono ?_); rintro e w4 ⟨y4, rfl, hf4, hx⟩)
       replace hWa := hWa.ext hx
       replace hWb := hWb.ext hx
       replace hf1 := hf1.ext hx
       replace hf2 := hf2.ext hx
       replace hf3 := hf3.ext hx
       refine hK.out _ _ ?_ fun _ => ?_
       ·exact b_10
       clear hK K hH
       rename_i hH
       try simp only [sx_]
       refine rh2 8 9 rfl rfl (fun K hK => ?_) fun K hK => ?_
       ·go_simp
        (go_at_call 58; (with_reducible refine (t_addZ _ _ (48 * a) (32 * b) _ hf2 hf4 (okN.sz hk1) (okN.sz hk2) (okN.sz hk3)).mono ?_); rintro e w5 ⟨y5, rfl, hf5, hx⟩)
        replace hWa := hWa.ext hx
        replace hWb := hWb.ext hx
        replace hf1 := hf1.ext hx
        replace hf2 := hf2.ext hx
        replace hf3 := hf3.ext hx
        replace hf4 := hf4.ext hx
        obtain ⟨s6, ao6, n6, cap6, rfl, hf6⟩ := hf5.open
        refine hK.out _ _ ?_ fun _ => ?_
        ·exact b_10
        clear hK K hH
        rename_i hH
        try simp only [sx_]
        refine rh1 9 rfl fun K hK => ?_
        have hold := hH
        obtain ⟨hbk, hge⟩ := fresh_of (W := V) hH
        (try simp only [size_drew, World.size_alloc] at hbk hge)
        go_simp
        refine hK.out _ _ ?_ fun _ => ?_
        ·exact b_14
        clear hK K hH
        rename_i hH
        try simp only [sx_]
        refine rh1 10 rfl fun K hK => ?_
        have hst := WAt.lit hf6
        go_simp
        refine hK.out _ _ ?_ fun _ => ?_
        ·(try dsimp only); exact Ext.alloc hold _
        exact T_TC_5
       ·have hold := hH
        obtain ⟨hbk, hge⟩ := fresh_of (W := V) hH
        (try simp only [size_drew, World.size_alloc] at hbk hge)
        replace hWa := hWa.ext ((Ext.refl _).alloc (.cells #[.bool false, .slice none 0 0] 24))
        replace hWb := hWb.ext ((Ext.refl _).alloc (.cells #[.bool false, .slice none 0 0] 24))
        replace hf1 := hf1.ext ((Ext.refl _).alloc (.cells #[.bool false, .slice none 0 0] 24))
        replace hf2 := hf2.ext ((Ext.refl _).alloc (.cells #[.bool false, .slice none 0 0] 24))
        replace hf3 := hf3.ext ((Ext.refl _).alloc (.cells #[.bool false, .slice none 0 0] 24))
        replace hf4 := hf4.ext ((Ext.refl _).alloc (.cells #[.bool false, .slice none 0 0] 24))
        go_simp
        refine hK.out _ _ ?_ fun _ => ?_
        ·exact b_14
        exact T_TC_2
      ·have hold := hH
       obtain ⟨hbk, hge⟩ := fresh_of (W := V) hH
       (try simp only [size_drew, World.size_alloc] at hbk hge)
       replace hWa := hWa.ext ((Ext.refl _).alloc (.cells #[.bool false, .slice none 0 0] 24))
       replace hWb := hWb.ext ((Ext.refl _).alloc (.cells #[.bool false, .slice none 0 0] 24))
       replace hf1 := hf1.ext ((Ext.refl _).alloc (.cells #[.bool false, .slice none 0 0] 24))
       replace hf2 := hf2.ext ((Ext.refl _).alloc (.cells #[.bool false, .slice none 0 0] 24))
       replace hf3 := hf3.ext ((Ext.refl _).alloc (.cells #[.bool false, .slice none 0 0] 24))
       go_simp
       refine hK.out _ _ ?_ fun _ => ?_
       ·exact b_14
       exact T_TC_1
     ·have hold := hH
      obtain ⟨hbk, hge⟩ := fresh_of (W := V) hH
      (try simp only [size_drew, World.size_alloc] at hbk hge)
      replace hWa := hWa.ext ((Ext.refl _).alloc (.cells #[.bool false, .slice none 0 0] 24))
      replace hWb := hWb.ext ((Ext.refl _).alloc (.cells #[.bool false, .slice none 0 0] 24))
      replace hf1 := hf1.ext ((Ext.refl _).alloc (.cells #[.bool false, .slice none 0 0] 24))
      replace hf2 := hf2.ext ((Ext.refl _).alloc (.cells #[.bool false, .slice none 0 0] 24))
      go_simp
      refine hK.out _ _ ?_ fun _ => ?_
      ·exact b_14
      exact T_TC_4
    ·have hold := hH
     obtain ⟨hbk, hge⟩ := fresh_of (W := V) hH
     (try simp only [size_drew, World.size_alloc] at hbk hge)
     replace hWa := hWa.ext ((Ext.refl _).alloc (.cells #[.bool false, .slice none 0 0] 24))
     replace hWb := hWb.ext ((Ext.refl _).alloc (.cells #[.bool false, .slice none 0 0] 24))
     replace hf1 := hf1.ext ((Ext.refl _).alloc (.cells #[.bool false, .slice none 0 0] 24))
     go_simp
     refine hK.out _ _ ?_ fun _ => ?_
     ·exact b_14
     exact T_TC_3
   ·have hold := hH
    obtain ⟨hbk, hge⟩ := fresh_of (W := V) hH
    (try simp only [size_drew, World.size_alloc] at hbk hge)
    replace hWa := hWa.ext ((Ext.refl _).alloc (.cells #[.bool false, .slice none 0 0] 24))
    replace hWb := hWb.ext ((Ext.refl _).alloc (.cells #[.bool false, .slice none 0 0] 24))
    go_simp
    refine hK.out _ _ ?_ fun _ => ?_
    ·exact b_14
    clear hK K hH
    rename_i hH
    try simp only [sx_]
    refine rh1 0 rfl fun K hK => ?_
    go_simp
    (go_at_call 28; (with_reducible refine (t_numZ 48 _ (by omega) (by omega)).mono ?_); rintro e w1 ⟨y1, rfl, hf1, hx⟩)
    replace hWa := hWa.ext hx
    replace hWb := hWb.ext hx
    replace hbk := hbk.ext hx
    refine hK.out _ _ ?_ fun _ => ?_
    ·exact b_10
    exact T_TC_3
  case rest =>
   obtain ⟨g, rfl, hE, hgW, hWg⟩ := hcut
   clear hWa hWb
   rename World => U
   have hgl := hWg.lt
   obtain ⟨ao6, cap6, d0, d1, hW6, hf6⟩ := hWg.open
   have aU := (hE.cells.1 g1 2 la).trans a2
   have bU := (hE.cells.1 g2 2 lb).trans b2
   have cU0 := (hE.cells.1 g3 0 lc).trans c0
   have cU1 := (hE.cells.1 g3 1 lc).trans c1
   have cU2 := (hE.cells.1 g3 2 lc).trans c2
   have hzU := hE.size
   have la2 : g1 < U.heap.size := by omega
   have lb2 : g2 < U.heap.size := by omega
   have lc2 : g3 < U.heap.size := by omega
   have na : g1 ≠ w.heap.size := by omega
   have nb : g2 ≠ w.heap.size := by omega
   have nc : g3 ≠ w.heap.size := by omega
   have ng : g ≠ w.heap.size := by omega
   have hEu : Ext w U := Ext.trans hEw hE
   replace hWc := (hWc.ext hE).ext ((Ext.refl U).drew)
   replace hB3 := (hB3.ext hE).ext ((Ext.refl U).drew)
   replace hW6 := hW6.ext ((Ext.refl U).drew)
   clear hE hWg a0 a1 a2 b0 b1 b2 c0 c1 c2 hf6
   go_upto_region 3 with fail
   refine wp_region_held_drew (S := (fun w0 => GB w.heap.size U w0)) c_2 ?_ (fun hH => ?_)
   ·exact (GB.refl _ _).drew
   try simp only [sx_]
   refine tk 0 rfl c_1 ?_
   try simp only [sx_]
   refine sK 2 ?_
   refine tk 3 rfl c_1 ?_
   try simp only [sx_]
   refine sK 6 ?_
   refine tk 7 rfl c_1 ?_
   try simp only [sx_]
   refine sK 8 ?_
   refine sK 9 ?_
   refine tk 10 rfl c_1 ?_
   try simp only [sx_]
   refine sK 11 ?_
   refine sK 12 ?_
   refine sK 13 ?_
   refine tk 14 rfl c_1 ?_
   try simp only [sx_]
   refine sK 15 ?_
   refine sK 16 ?_
   refine rh1 1 rfl fun K hK => ?_
   go_simp
   (go_at_call 28; (with_reducible refine (t_numZ 20 _ (by omega) (by omega)).mono ?_); rintro e w1 ⟨y1, rfl, hf1, hx⟩)
   replace hW6 := hW6.ext hx
   replace hWc := hWc.ext hx
   replace hB3 := hB3.ext hx
   refine hK.out _ _ ?_ fun _ => ?_
   ·exact b_12
   clear hK K hH
   rename_i hH
   try simp only [sx_]
   refine rh1 4 rfl fun K hK => ?_
   go_simp
   (go_at_call 27; (with_reducible refine (t_mulZ _ _ 20 c _ hf1 hWc sz20 (okN.sz hzc) (okN.sz hk4)).mono ?_); rintro e w2 ⟨y2, rfl, hf2, hx⟩)
   replace hW6 := hW6.ext hx
   replace hWc := hWc.ext hx
   replace hB3 := hB3.ext hx
   replace hf1 := hf1.ext hx
   refine hK.out _ _ ?_ fun _ => ?_
   ·exact b_12
   clear hK K hH
   rename_i hH
   try simp only [sx_]
   refine rh1 5 rfl fun K hK => ?_
   go_simp
   (go_at_call 57; (with_reducible refine (t_subZ _ _ (48 * a + 32 * b) (20 * c) _ hW6 hf2 (okN.sz hk3) (okN.sz hk4) (okN.sz hk5)).mono ?_); rintro e w3 ⟨y3, rfl, hf3, hx⟩)
   replace hW6 := hW6.ext hx
   replace hWc := hWc.ext hx
   replace hB3 := hB3.ext hx
   replace hf1 := hf1.ext hx
   replace hf2 := hf2.ext hx
   obtain ⟨s9, ao9, n9, cap9, rfl, hf4⟩ := hf3.open
   refine hK.out _ _ ?_ fun _ => ?_
   ·exact b_12
   clear hK K hH
   rename_i hH
   try simp only [sx_]
   refine sK 17 ?_
   refine rh1 18 rfl fun K hK => ?_
   obtain ⟨⟨xa, h3a⟩, ⟨xb, h3b⟩, ⟨xc, h3c⟩, h3f, hnu, hsl⟩ := hB3
   rw [hv1.out, hv2.out, hv3.out, hv4.out, hv5.out]
   go_simp
   refine hK.out _ _ ?_ fun _ => ?_
   ·(try dsimp only); exact ((GB.set hH _).set _).set _
   clear hK K hH
   rename_i hH
   try simp only [sx_]
   refine wpAnyH_done c_2 ?_ _
   go_wp2_with fail
   refine bodyPost_ret (v := .agg #[.bool s9, .slice ao9 n9 cap9, .int .i64 (48 * ra + 32 * rb + 20 * rc)]) ?_ rfl ⟨_, rfl, ⟨s9, _, rfl, ?_⟩, ?_⟩
   ·simp [results, Tryz.results25, go_sem, ↓IntWalk.iteOmega, h3a, h3b, h3c]
   ·obtain ⟨u9, e9, hu9⟩ := hf4
    cases e9
    have n1 := NoU.set (j := 0) (B' := w.heap.size) (x := .bool (decide (48 * a + 32 * b - 20 * c < 0))) hnu (fun z e => by cases e)
    have n2 := NoU.set (j := 1) (B' := w.heap.size) (x := .slice ao9 n9 cap9) n1 (fun z e => by cases e)
    exact ⟨_, rfl, Lim.box (Lim.box (Lim.box hu9 hnu) n1) n2⟩
   ·exact GB.pre hEu hH (Nat.le_refl _)
theorem T_ZN_3 {p : Prop} (h : p := by
 clear hck hu
 simp only [List.length_cons, List.length_nil, Nat.zero_add, Nat.reduceAdd] at v2 hck3 ⊢
 go_enter Tryz.func119, Tryz.ntmps119
 go_wp2_with (go_at_call 52; (with_reducible refine hck3.mono ?_); rintro e w1 ⟨rfl, hb⟩; obtain ⟨_, _, ⟨hc, hf⟩, hz⟩ := hb.c3; (try simp only [wsz] at hz hc hf))
 refine wp_loop_rounds 2 ?_
 rw [rounds_succ]
 go_wp2_with fail
 exact T_ZN_1) : p := h
theorem T_ZN_2 {p : Prop} (h : p := by
 clear hck hu
 simp only [List.length_cons, List.length_nil, Nat.zero_add, Nat.reduceAdd] at v2 hck3 ⊢
 go_enter Tryz.func119, Tryz.ntmps119
 go_wp2_with (go_at_call 52; (with_reducible refine hck3.mono ?_); rintro e w1 ⟨rfl, hb⟩; obtain ⟨_, _, ⟨hc, hf⟩, hz⟩ := hb.c3; (try simp only [wsz] at hz hc hf))
 refine wp_loop_rounds 3 ?_
 rw [rounds_succ]
 go_wp2_with fail
 rw [rounds_succ]
 go_wp2_with fail
 exact T_ZN_1) : p := h
theorem T_ZN_1 {p : Prop} (h : p := by
 rw [rounds_succ]
 go_wp2_with fail
 go_ret2
 exact ⟨rfl, ex_⟩) : p := h
theorem or_lh (h l : Int) (h0 : 0 ≤ h) (h1 : h < 4294967296) (hl : U32 l) : bits .or .u64 l (h * 4294967296) = l + h * 4294967296 := by
 unfold U32 at hl
 obtain ⟨a, rfl⟩ := Int.eq_ofNat_of_zero_le h0
 obtain ⟨b, rfl⟩ := Int.eq_ofNat_of_zero_le hl.1
 have e3 : (a : Int) * 4294967296 = ((2 ^ 32 * a : Nat) : Int) := by rw [Int.natCast_mul]; omega
 have e := Nat.two_pow_add_eq_or_of_lt (i := 32) (b := b) (by omega) a
 rw [e3, u64_or_nat _ _ (by omega) (by omega), Nat.or_comm, ← e]
 omega
theorem or_zero (l : Int) (hl : U32 l) : bits .or .u64 0 l = l := by
 unfold U32 at hl
 obtain ⟨b, rfl⟩ := Int.eq_ofNat_of_zero_le hl.1
 rw [show (0 : Int) = ((0 : Nat) : Int) from rfl, u64_or_nat _ _ (by omega) (by omega), Nat.zero_or]
theorem two_limbs {X : List Int} (h : X.length ≤ 2) : X = [] ∨ (∃ a, X = [a]) ∨ ∃ a b, X = [a, b] := by
 match X, h with
 | [], _ => exact Or.inl rfl
 | [a], _ => exact Or.inr (Or.inl ⟨a, rfl⟩)
 | [a, b], _ => exact Or.inr (Or.inr ⟨a, b, rfl⟩)
 | a :: b :: c :: r, h => simp at h
theorem z_Int0false (va u : Value) (w : World) (hva : va = .agg #[.bool false, u]) (hu : Lim w u [])
    (hck : ∀ w1, Ext w w1 → Calls Tryz.prog 52 #[.slice (some ⟨w1.heap.size, 0, none⟩) 1 1] (w1.alloc (.cells #[.bool false, u] 24)) fun e w' => e = .returned (.int .i64 0) ∧ Ext (w1.alloc (.cells #[.bool false, u] 24)) w') :
    Calls Tryz.prog 119 #[va] w fun e w' => e = .returned (.tuple #[.int .i64 (0), .int .i64 0]) ∧ Ext w w' := by
 subst hva
 obtain ⟨ao, b1, o1, cap1, rfl, v1, v2, v3, v4, v5, v6⟩ := hu.view
 clear v1 v5 v4 v6
 have hck3 := hck (w.alloc (.cells #[.bool false, .slice ao 0 cap1] 24)) ex_
 simp only [World.size_alloc] at hck3
 clear hck hu
 simp only [List.length_cons, List.length_nil, Nat.zero_add, Nat.reduceAdd] at v2 hck3 ⊢
 go_enter Tryz.func119, Tryz.ntmps119
 go_wp2_with (go_at_call 52; (with_reducible refine hck3.mono ?_); rintro e w1 ⟨rfl, hb⟩; obtain ⟨_, _, ⟨hc, hf⟩, hz⟩ := hb.c3; (try simp only [wsz] at hz hc hf))
 refine wp_loop_rounds 1 ?_
 exact T_ZN_1
theorem z_Int1false (a : Int) (va u : Value) (w : World) (hva : va = .agg #[.bool false, u]) (hu : Lim w u [a])
    (hck : ∀ w1, Ext w w1 → Calls Tryz.prog 52 #[.slice (some ⟨w1.heap.size, 0, none⟩) 1 1] (w1.alloc (.cells #[.bool false, u] 24)) fun e w' => e = .returned (.int .i64 0) ∧ Ext (w1.alloc (.cells #[.bool false, u] 24)) w') :
    Calls Tryz.prog 119 #[va] w fun e w' => e = .returned (.tuple #[.int .i64 (a), .int .i64 0]) ∧ Ext w w' := by
 subst hva
 obtain ⟨ao, b1, o1, cap1, rfl, v1, v2, v3, v4, v5, v6⟩ := hu.view
 have haU : U32 a := (hu.lb.getD 0)
 have e0 := v1 (by simp)
 subst e0
 have hl0 := v5 0 (by simp)
 have hbl := v4 (by simp)
 simp only [List.getD_cons_zero, List.getD_cons_succ, Nat.add_zero] at hl0
 have ho0 := or_zero a haU
 unfold U32 at haU
 clear v1 v5 v4 v6
 have hck3 := hck (w.alloc (.cells #[.bool false, .slice (some ⟨b1, o1, none⟩) 1 cap1] 24)) ex_
 simp only [World.size_alloc] at hck3
 exact T_ZN_3
theorem z_Int1true (a : Int) (va u : Value) (w : World) (hva : va = .agg #[.bool true, u]) (hu : Lim w u [a])
    (hck : ∀ w1, Ext w w1 → Calls Tryz.prog 52 #[.slice (some ⟨w1.heap.size, 0, none⟩) 1 1] (w1.alloc (.cells #[.bool true, u] 24)) fun e w' => e = .returned (.int .i64 0) ∧ Ext (w1.alloc (.cells #[.bool true, u] 24)) w') :
    Calls Tryz.prog 119 #[va] w fun e w' => e = .returned (.tuple #[.int .i64 (-(a)), .int .i64 0]) ∧ Ext w w' := by
 subst hva
 obtain ⟨ao, b1, o1, cap1, rfl, v1, v2, v3, v4, v5, v6⟩ := hu.view
 have haU : U32 a := (hu.lb.getD 0)
 have e0 := v1 (by simp)
 subst e0
 have hl0 := v5 0 (by simp)
 have hbl := v4 (by simp)
 simp only [List.getD_cons_zero, List.getD_cons_succ, Nat.add_zero] at hl0
 have ho0 := or_zero a haU
 unfold U32 at haU
 have hng : IntKind.i64.wrap (IntKind.u64.wrap (-(a))) = -(a) := by rw [IntKind.wrap_i64, IntKind.wrap_u64]; omega
 have hng2 : wrap64 (IntKind.u64.wrap (-a)) = -a := by rw [IntKind.wrap_u64]; unfold wrap64; omega
 have hle : decide ((a) ≤ 9223372036854775808) = true := decide_eq_true (by omega)
 clear v1 v5 v4 v6
 have hck3 := hck (w.alloc (.cells #[.bool true, .slice (some ⟨b1, o1, none⟩) 1 cap1] 24)) ex_
 simp only [World.size_alloc] at hck3
 exact T_ZN_3
theorem z_Int2false (a b : Int) (va u : Value) (w : World) (hva : va = .agg #[.bool false, u]) (hu : Lim w u [a, b]) (hlt : a + b * 4294967296 < 9223372036854775808)
    (hck : ∀ w1, Ext w w1 → Calls Tryz.prog 52 #[.slice (some ⟨w1.heap.size, 0, none⟩) 1 1] (w1.alloc (.cells #[.bool false, u] 24)) fun e w' => e = .returned (.int .i64 0) ∧ Ext (w1.alloc (.cells #[.bool false, u] 24)) w') :
    Calls Tryz.prog 119 #[va] w fun e w' => e = .returned (.tuple #[.int .i64 (a + b * 4294967296), .int .i64 0]) ∧ Ext w w' := by
 subst hva
 obtain ⟨ao, b1, o1, cap1, rfl, v1, v2, v3, v4, v5, v6⟩ := hu.view
 have haU : U32 a := (hu.lb.getD 0)
 have e0 := v1 (by simp)
 subst e0
 have hl0 := v5 0 (by simp)
 have hbl := v4 (by simp)
 simp only [List.getD_cons_zero, List.getD_cons_succ, Nat.add_zero] at hl0
 have ho0 := or_zero a haU
 have hbU : U32 b := (hu.lb.getD 1)
 have hl1 := v5 1 (by simp)
 simp only [List.getD_cons_zero, List.getD_cons_succ] at hl1
 have ho1 := or_lh b a (by unfold U32 at hbU; omega) (by unfold U32 at hbU; omega) haU
 unfold U32 at haU
 unfold U32 at hbU
 clear v1 v5 v4 v6
 have hck3 := hck (w.alloc (.cells #[.bool false, .slice (some ⟨b1, o1, none⟩) 2 cap1] 24)) ex_
 simp only [World.size_alloc] at hck3
 exact T_ZN_2
theorem z_Int2true (a b : Int) (va u : Value) (w : World) (hva : va = .agg #[.bool true, u]) (hu : Lim w u [a, b]) (hlt : a + b * 4294967296 ≤ 9223372036854775808)
    (hck : ∀ w1, Ext w w1 → Calls Tryz.prog 52 #[.slice (some ⟨w1.heap.size, 0, none⟩) 1 1] (w1.alloc (.cells #[.bool true, u] 24)) fun e w' => e = .returned (.int .i64 0) ∧ Ext (w1.alloc (.cells #[.bool true, u] 24)) w') :
    Calls Tryz.prog 119 #[va] w fun e w' => e = .returned (.tuple #[.int .i64 (-(a + b * 4294967296)), .int .i64 0]) ∧ Ext w w' := by
 subst hva
 obtain ⟨ao, b1, o1, cap1, rfl, v1, v2, v3, v4, v5, v6⟩ := hu.view
 have haU : U32 a := (hu.lb.getD 0)
 have e0 := v1 (by simp)
 subst e0
 have hl0 := v5 0 (by simp)
 have hbl := v4 (by simp)
 simp only [List.getD_cons_zero, List.getD_cons_succ, Nat.add_zero] at hl0
 have ho0 := or_zero a haU
 have hbU : U32 b := (hu.lb.getD 1)
 have hl1 := v5 1 (by simp)
 simp only [List.getD_cons_zero, List.getD_cons_succ] at hl1
 have ho1 := or_lh b a (by unfold U32 at hbU; omega) (by unfold U32 at hbU; omega) haU
 unfold U32 at haU
 unfold U32 at hbU
 have hng : IntKind.i64.wrap (IntKind.u64.wrap (-(a + b * 4294967296))) = -(a + b * 4294967296) := by rw [IntKind.wrap_i64, IntKind.wrap_u64]; omega
 have hng2 : wrap64 (IntKind.u64.wrap (-(a + b * 4294967296))) = -(a + b * 4294967296) := by rw [IntKind.wrap_u64]; unfold wrap64; omega
 have hle : decide ((a + b * 4294967296) ≤ 9223372036854775808) = true := decide_eq_true (by omega)
 clear v1 v5 v4 v6
 have hck3 := hck (w.alloc (.cells #[.bool true, .slice (some ⟨b1, o1, none⟩) 2 cap1] 24)) ex_
 simp only [World.size_alloc] at hck3
 exact T_ZN_2
theorem z_Int (va : Value) (n : Int) (w : World) (ha : Wid w va n) (h0 : -9223372036854775808 ≤ n) (h1 : n ≤ 9223372036854775807) :
    Calls Tryz.prog 119 #[va] w fun e w' => e = .returned (.tuple #[.int .i64 n, .int .i64 0]) ∧ Ext w w' := by
 obtain ⟨u, hva, hu⟩ := ha
 have hs : Sz n := dig_bits (k := 64) (L := 4096) (by omega) (by decide)
 have hl2 : (dig n.natAbs).length ≤ 2 := dig_bits (k := 64) (L := 2) (by omega) (by decide)
 have hck := fun w1 (k1 : Ext w w1) => z_check_one w1 _ (decide (n < 0)) n.natAbs (hu.ext k1) hs (wid_s _ rfl)
 have hv := dig_val n.natAbs
 have hp := dig_pos (m := n.natAbs)
 rcases two_limbs hl2 with e | ⟨a, e⟩ | ⟨a, b, e⟩
 ·rw [e] at hv hu
  simp only [val] at hv
  have hn : n = 0 := by omega
  have hd : decide (n < 0) = false := decide_eq_false (by omega)
  rw [hd] at hva hck
  rw [hn]
  exact z_Int0false va u w hva hu hck
 ·rw [e] at hv hu
  simp only [val] at hv
  have hB : BB = 4294967296 := rfl
  rw [hB] at hv
  by_cases h : n < 0
  ·rw [decide_eq_true h] at hva hck
   have hn : n = -a := by omega
   rw [hn]
   exact z_Int1true a va u w hva hu hck
  ·rw [decide_eq_false h] at hva hck
   have hn : n = a := by omega
   rw [hn]
   exact z_Int1false a va u w hva hu hck
 ·rw [e] at hv hu
  simp only [val] at hv
  have hB : BB = 4294967296 := rfl
  rw [hB] at hv
  by_cases h : n < 0
  ·rw [decide_eq_true h] at hva hck
   have hn : n = -(a + b * 4294967296) := by omega
   rw [hn]
   exact z_Int2true a b va u w hva hu (by omega) hck
  ·rw [decide_eq_false h] at hva hck
   have hn : n = a + b * 4294967296 := by omega
   rw [hn]
   exact z_Int2false a b va u w hva hu (by omega) hck
end Go.Proofs.YtogblocakccbgaaGreat
