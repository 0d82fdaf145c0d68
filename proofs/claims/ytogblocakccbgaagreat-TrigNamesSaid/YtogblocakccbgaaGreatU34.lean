/- The reference's arc tangent, as a plain function. -/
import Derived.Test.YtogblocakccbgaaGreatU33
set_option linter.unusedSimpArgs false
set_option linter.unusedVariables false
set_option maxRecDepth 100000
set_option maxHeartbeats 4000000
namespace Go.Proofs.YtogblocakccbgaaGreat
def invF (n : Nat) : Nat → Nat → Nat → Nat → Option Nat
 | 0, _, _, _ => none
 | F + 1, i, t, s => if okN (s : Int) = true then (if t = 0 then some s else if i % 2 = 0 then invF n F (i + 1) (t / (n * n)) (s + t / (2 * i + 1)) else if t / (2 * i + 1) ≤ s then invF n F (i + 1) (t / (n * n)) (s - t / (2 * i + 1)) else none) else none
theorem invF_succ {n F i t s r : Nat} (h : invF n F i t s = some r) : ∃ G, F = G + 1 ∧ okN (s : Int) = true ∧ ((t = 0 ∧ r = s) ∨ (¬ t = 0 ∧ ((i % 2 = 0 ∧ invF n G (i + 1) (t / (n * n)) (s + t / (2 * i + 1)) = some r) ∨ (¬ i % 2 = 0 ∧ t / (2 * i + 1) ≤ s ∧ invF n G (i + 1) (t / (n * n)) (s - t / (2 * i + 1)) = some r)))) := by
 match F, h with
 | 0, h => simp [invF] at h
 | G + 1, h =>
  unfold invF at h
  split at h
  ·rename_i hs
   refine ⟨G, rfl, hs, ?_⟩
   split at h
   ·rename_i h0
    exact Or.inl ⟨h0, by simpa using h.symm⟩
   ·rename_i h0
    refine Or.inr ⟨h0, ?_⟩
    split at h
    ·rename_i h1
     exact Or.inl ⟨h1, h⟩
    ·rename_i h1
     split at h
     ·rename_i h2
      exact Or.inr ⟨h1, h2, h⟩
     ·cases h
  ·cases h
theorem invF_ok {n F i t s r : Nat} (h : invF n F i t s = some r) : okN (s : Int) = true := by
 obtain ⟨_, _, h, _⟩ := invF_succ h; exact h
theorem okN.small {s : Nat} (h : okN (s : Int) = true) : Small s := by
 have := okN.sz h
 unfold Sz at this
 rwa [Int.natAbs_natCast] at this
theorem invF_res {n : Nat} : ∀ {F i t s r : Nat}, invF n F i t s = some r → okN (r : Int) = true := by
 intro F
 induction F with
 | zero => intro i t s r h; simp [invF] at h
 | succ G ih =>
  intro i t s r h
  obtain ⟨G', e, hs, h | ⟨_, h | h⟩⟩ := invF_succ h
  ·rw [h.2]; exact hs
  ·cases e; exact ih h.2
  ·cases e; exact ih h.2.2
end Go.Proofs.YtogblocakccbgaaGreat
namespace Go.Proofs.YtogblocakccbgaaGreat
open Go.RowKit
theorem T_RIN_4 {p : Prop} (h : p := by
 clear hK K hH
 rename_i hH
 try simp only [sx_]
 refine wpAnyH_done c_2 ?_ _
 go_wp2_with fail
 go_meet
 exact ⟨_, rfl, hH, c_5, hst⟩) : p := h
theorem T_RIN_3 {p : Prop} (h : p := by
 clear hK K hH
 rename_i hH
 try simp only [sx_]
 refine rh1 5 rfl fun K hK => ?_
 go_simp
 (go_at_call 72; (with_reducible refine (q_over _ _ t (2 * i + 1) _ hNt hf1 hts h2i (by omega)).mono ?_); rintro e w2 ⟨y2, rfl, hf2, hx⟩)
 replace hNt := hNt.ext hx
 replace hf1 := hf1.ext hx
 replace hbk := hbk.ext hx
 obtain ⟨ao2, cap2, rfl, hf3⟩ := hf2.open
 refine hK.out _ _ ?_ fun _ => ?_
 ·exact b_10
 clear hK K hH
 rename_i hH
 try simp only [sx_]
 refine rh1 7 rfl fun K hK => ?_
 obtain ⟨⟨xa, h3a⟩, ⟨xb, h3b⟩, h3f, hnu, hsl⟩ := hbk
 have hst := Bx2.store ⟨⟨xa, h3a⟩, ⟨xb, h3b⟩, h3f, hnu, hsl⟩ hf3.wid
 go_simp
 refine hK.out _ _ ?_ fun _ => ?_
 ·exact b_11
 exact T_RIN_4) : p := h
theorem T_RIN_2 {p : Prop} (h : p := by
 clear hK K hH
 rename_i hH
 try simp only [sx_]
 refine rh1 5 rfl fun K hK => ?_
 go_simp
 (go_at_call 72; (with_reducible refine (q_over _ _ t (n * n) _ hN5 hn6 hts hnns hn0).mono ?_); rintro e w6 ⟨y7, rfl, hy7, hx⟩)
 obtain ⟨ao7, cap7, rfl, hy8⟩ := hy7.open
 replace hWT := WAt.ext hWT hx
 refine hK.out _ _ ?_ fun _ => ?_
 ·exact b_12
 clear hK K hH
 rename_i hH
 try simp only [sx_]
 refine rh1 6 rfl fun K hK => ?_
 obtain ⟨⟨xa, h3a⟩, ⟨xb, h3b⟩, h3f, hnu, hsl⟩ := hWT.box
 have hst := Bx2.store hWT.box hy8.wid
 go_simp
 refine hK.out _ _ ?_ fun _ => ?_
 ·exact b_13
 clear hK K hH
 rename_i hH
 try simp only [sx_]
 refine wpAnyH_done c_2 ?_ _
 have hS9 : Hid (WAt _ (w.heap.size + 1) ((s - x : Nat) : Int)) := WAt.grown hWS2 hUT hH (by omega)
 have hR9 : Hid (Bx2 _ w.heap.size) := Bx2.grown hRU hH (by omega)
 have hE9 : Hid (Ext w _) := GB.pre hEU hH (by omega)
 replace hst : Hid _ := hst
 replace hA' : Hid _ := hA'
 clear hH hWT hWS2 hRU h3a h3b h3f
 go_wp2_with fail
 go_roundw
 case rel => exact ⟨i + 1, t / (n * n), G', s - x, by go_num, by omega, hA', hS2, hst, hS9, hR9, hE9⟩
 case measure => simp [intOf]; omega) : p := h
theorem T_RIN_1 {p : Prop} (h : p := by
 clear hK K hH
 rename_i hH
 try simp only [sx_]
 refine rh1 5 rfl fun K hK => ?_
 go_simp
 (go_at_call 72; (with_reducible refine (q_over _ _ t (n * n) _ hN5 hn6 hts hnns hn0).mono ?_); rintro e w6 ⟨y7, rfl, hy7, hx⟩)
 obtain ⟨ao7, cap7, rfl, hy8⟩ := hy7.open
 replace hWT := WAt.ext hWT hx
 refine hK.out _ _ ?_ fun _ => ?_
 ·exact b_12
 clear hK K hH
 rename_i hH
 try simp only [sx_]
 refine rh1 6 rfl fun K hK => ?_
 obtain ⟨⟨xa, h3a⟩, ⟨xb, h3b⟩, h3f, hnu, hsl⟩ := hWT.box
 have hst := Bx2.store hWT.box hy8.wid
 go_simp
 refine hK.out _ _ ?_ fun _ => ?_
 ·exact b_13
 clear hK K hH
 rename_i hH
 try simp only [sx_]
 refine wpAnyH_done c_2 ?_ _
 have hS9 : Hid (WAt _ (w.heap.size + 1) ((s + x : Nat) : Int)) := WAt.grown hWS2 hUT hH (by omega)
 have hR9 : Hid (Bx2 _ w.heap.size) := Bx2.grown hRU hH (by omega)
 have hE9 : Hid (Ext w _) := GB.pre hEU hH (by omega)
 replace hst : Hid _ := hst
 replace hA' : Hid _ := hA'
 clear hH hWT hWS2 hRU h3a h3b h3f
 go_wp2_with fail
 go_roundw
 case rel => exact ⟨i + 1, t / (n * n), G', s + x, by go_num, by omega, hA', hS2, hst, hS9, hR9, hE9⟩
 case measure => simp [intOf]; omega) : p := h
theorem q_inverse (n q F r : Nat) (w : World) (hn1 : 0 < n) (hn : n ≤ 1000) (hq : q ≤ 1000) (hF : F ≤ 100000) (hr : invF n F 0 (2 ^ q / n) 0 = some r) :
    Calls Tryz.prog 131 #[.int .i64 n, .int .i64 q] w fun e w' => ∃ u, e = .returned u ∧ Nn w' u r ∧ Ext w w' := by
 have hps : Small (2 ^ q) := small_bits (k := q + 1) (Nat.pow_lt_pow_right (by decide) (by omega)) (by omega)
 have hpw := fun w => q_power q w (by omega) hps
 have hns : Small n := small_bits (k := 64) (by omega) (by decide)
 have hnn : n * n ≤ 1000000 := Nat.mul_le_mul hn hn
 have hn0 : 0 < n * n := Nat.mul_pos hn1 hn1
 have hnns : Small (n * n) := small_bits (k := 64) (by omega) (by decide)
 have hfr := fun w => q_from n w (by omega)
 have hov := fun v u w1 (h : Nn w1 v (2 ^ q)) (h2 : Nn w1 u n) => q_over v u (2 ^ q) n w1 h h2 hps hns hn1
 have hfn : ∀ w, Calls Tryz.prog 74 #[.int .i64 ((n : Int) * n)] w fun e w' => ∃ u, e = .returned u ∧ Nn w' u (n * n) ∧ Ext w w' := fun w => by
  have := q_from (n * n) w (by omega)
  rw [Int.natCast_mul] at this
  exact this
 have hnI : (n : Int) * n ≤ 1000000 := by rw [← Int.natCast_mul]; omega
 have hnI0 : 0 < (n : Int) * n := by rw [← Int.natCast_mul]; omega
 have hw3 : Hid (IntKind.i64.wrap ((n : Int) * n) = (n : Int) * n) := by show _ = _; rw [IntKind.wrap_i64]; omega
 have hts0 : Small (2 ^ q / n) := Small.le hps (Nat.div_le_self _ _)
 have hqb : (q : Int) ≤ 1000 := by omega
 generalize 2 ^ q / n = t0 at hov hr hts0
 generalize 2 ^ q = P at hpw hov
 clear hps hq hns hnI hnI0
 have hW0 : WAt ((w.alloc (.cells #[.bool false, .slice none 0 0] 24)).alloc (.cells #[.bool false, .slice none 0 0] 24)) (w.heap.size + 1) 0 := by
  have := WAt.lit (w := w.alloc (.cells #[.bool false, .slice none 0 0] 24)) (s := false) (u := .slice none 0 0) (x := 0) ⟨_, rfl, Lim.nil _⟩
  simpa using this
 have hR0 := (Bx2.fresh w).ext ((Ext.refl _).alloc (.cells #[.bool false, .slice none 0 0] 24))
 go_enter Tryz.func131, Tryz.ntmps131
 go_wp2_with (first
  | (go_at_call 132; (with_reducible refine (hpw _).mono ?_); rintro e w1 ⟨y1, rfl, hy1, hb1⟩; obtain ⟨_, _, ⟨hc1, hf1⟩, hz1⟩ := hb1.c3; (try simp only [wsz] at hz1 hc1 hf1))
  | (go_at_call 74; (with_reducible refine (hfr _).mono ?_); rintro e w2 ⟨y2, rfl, hy2, hb2⟩; obtain ⟨_, _, ⟨hc2, hf2⟩, hz2⟩ := hb2.c3; (try simp only [wsz] at hz2 hc2 hf2))
  | (go_at_call 72; (with_reducible refine (hov _ _ _ (hy1.ext hb2) hy2).mono ?_); rintro e w3 ⟨y3, rfl, hy3, hb3⟩; obtain ⟨ao3, cap3, rfl, hy4⟩ := hy3.open; obtain ⟨_, _, ⟨hc3, hf3⟩, hz3⟩ := hb3.c3; (try simp only [wsz] at hz3 hc3 hf3)))
 have hE3 : Ext ((w.alloc (.cells #[.bool false, .slice none 0 0] 24)).alloc (.cells #[.bool false, .slice none 0 0] 24)) w3 := Ext.trans hb1 (Ext.trans hb2 hb3)
 have hT0 : WAt (w3.alloc (.cells #[.bool false, .slice ao3 (dig t0).length cap3] 24)) w3.heap.size (t0 : Int) := WAt.lit hy4.wid
 have hW1 := (hW0.ext hE3).ext ((Ext.refl w3).alloc (.cells #[.bool false, .slice ao3 (dig t0).length cap3] 24))
 have hR1 := (hR0.ext hE3).ext ((Ext.refl w3).alloc (.cells #[.bool false, .slice ao3 (dig t0).length cap3] 24))
 have hEw : Ext w (w3.alloc (.cells #[.bool false, .slice ao3 (dig t0).length cap3] 24)) := Ext.trans (((Ext.refl w).alloc _).alloc _) (Ext.trans hE3 ((Ext.refl w3).alloc _))
 have hTg : w.heap.size + 1 + 1 ≤ w3.heap.size := by have := hE3.size; simp only [World.size_alloc] at this; omega
 generalize w3.heap.size = T at *
 clear hy1 hy2 hy3 hy4 hE3 hb1 hb2 hb3 hc1 hf1 hc2 hf2 hc3 hf3 hz1 hz2 hz3 hW0 hR0 hpw hov hfr
 go_loopw [7] (fun a wr => ∃ (i t G s : Nat), a = .int .i64 i ∧ i + G = F ∧ Hid (invF n G i t s = some r) ∧ Hid (Small t) ∧ Hid (WAt wr T (t : Int)) ∧ Hid (WAt wr (w.heap.size + 1) (s : Int)) ∧ Hid (Bx2 wr w.heap.size) ∧ Hid (Ext w wr)) (fun a _ => F - (intOf a).toNat)
 case atStart => exact ⟨0, t0, F, 0, rfl, by omega, hr, hts0, hT0, hW1, hR1, hEw⟩
 case round =>
  obtain ⟨i, t, G, s, rfl, hiG, hA, hSt, hWT0, hWS, hR, hEx⟩ := hrel
  clear hT0 hW1 hR1 hEw
  obtain ⟨G', rfl, hok, hA'⟩ := invF_succ hA.out
  have hTl := hWT0.out.lt
  have hSl := hWS.out.lt
  have hEs := hEx.out.size
  have hts := hSt.out
  obtain ⟨aoT, capT, cT0, cT1, hNt0, hfT⟩ := hWT0.out.openN
  rcases hA' with ⟨h0, hres⟩ | ⟨h0, hA'⟩
  ·subst h0
   subst hres
   have hl0 : (dig 0).length = 0 := rfl
   rw [hl0] at cT1
   obtain ⟨aoS, capS, s0, s1, hNs, hfS⟩ := hWS.out.openN
   obtain ⟨⟨xa, h3a⟩, ⟨xb, h3b⟩, h3f, hnu, hsl⟩ := hR.out
   go_wp2_with fail
   refine bodyPost_ret (v := .agg #[.bool false, .slice aoS (dig r).length capS]) ?_ rfl ⟨_, rfl, ?_, ?_⟩
   ·simp [results, Tryz.results131, go_sem, ↓IntWalk.iteOmega, *]
   ·obtain ⟨u9, e9, hu9⟩ := hNs
    cases e9
    exact ⟨_, rfl, Lim.box (Lim.box hu9 hnu) (NoU.set hnu (fun z e => by cases e))⟩
   ·exact (hEx.out.setCell (p := ⟨w.heap.size, 0, none⟩) (Nat.le_refl _) _).setCell (p := ⟨w.heap.size, 1, none⟩) (Nat.le_refl _) _
  ·have hlp : decide ((0 : Int) < ((dig t).length : Int)) = true := decide_eq_true (by have := dig_pos.2 (Nat.pos_of_ne_zero h0); omega)
   have hlp2 : decide (0 < (dig t).length) = true := decide_eq_true (dig_pos.2 (Nat.pos_of_ne_zero h0))
   have hlp3 : 0 < (dig t).length := dig_pos.2 (Nat.pos_of_ne_zero h0)
   have h2i : Small (2 * i + 1) := small_bits (k := 64) (by omega) (by decide)
   have hfi : ∀ w, Calls Tryz.prog 74 #[.int .i64 (2 * (i : Int) + 1)] w fun e w' => ∃ u, e = .returned u ∧ Nn w' u (2 * i + 1) ∧ Ext w w' := fun w => by
    have := q_from (2 * i + 1) w (by omega)
    rw [show ((2 * i + 1 : Nat) : Int) = 2 * (i : Int) + 1 by omega] at this
    exact this
   have hw1 : Hid (IntKind.i64.wrap (2 * (i : Int)) = 2 * i) := by show _ = _; rw [IntKind.wrap_i64]; omega
   have hw2 : Hid (IntKind.i64.wrap (2 * (i : Int) + 1) = 2 * i + 1) := by show _ = _; rw [IntKind.wrap_i64]; omega
   have hS2 : Hid (Small (t / (n * n))) := Small.le hts (Nat.div_le_self _ _)
   have hxs : Small (t / (2 * i + 1)) := Small.le hts (Nat.div_le_self _ _)
   have hNt := hNt0.ext ((Ext.refl wr).drew)
   go_upto_region 6 with fail
   trace_state
   go_cut [8, 25, 26] (fun s8 s25 s26 wx => ∃ g, s8 = .pointer (some ⟨g, 0, none⟩) ∧ Ext wr wx ∧ wr.heap.size ≤ g ∧ WAt wx g ((t / (2 * i + 1) : Nat) : Int))
   case first =>
    refine wp_region_held_drew (S := (fun w0 => Ext wr w0)) c_2 ?_ (fun hH => ?_)
    ·exact (Ext.refl _).drew
    try simp only [sx_]
    refine tk 0 rfl (by intro w0 hSw; have q0 := ((Ext.cells hSw).1 T 0 hTl).trans cT0; have q1 := ((Ext.cells hSw).1 T 1 hTl).trans cT1; go_simp; try with_reducible rfl) ?_
    try simp only [sx_]
    refine sK 1 ?_
    refine sK 2 ?_
    refine sK 3 ?_
    refine rh2 4 6 rfl rfl (fun K hK => ?_) fun K hK => ?_
    ·go_simp
     rw [hw1.out, hw2.out]
     (go_at_call 74; (with_reducible refine (hfi _).mono ?_); rintro e w1 ⟨y1, rfl, hf1, hx⟩)
     replace hNt := hNt.ext hx
     refine hK.out _ _ ?_ fun _ => ?_
     ·exact b_10
     clear hK K hH
     rename_i hH
     try simp only [sx_]
     refine rh2 5 6 rfl rfl (fun K hK => ?_) fun K hK => ?_
     ·go_simp
      (go_at_call 72; (with_reducible refine (q_over _ _ t (2 * i + 1) _ hNt hf1 hts h2i (by omega)).mono ?_); rintro e w2 ⟨y2, rfl, hf2, hx⟩)
      replace hNt := hNt.ext hx
      replace hf1 := hf1.ext hx
      obtain ⟨ao2, cap2, rfl, hf3⟩ := hf2.open
      refine hK.out _ _ ?_ fun _ => ?_
      ·exact b_10
      clear hK K hH
      rename_i hH
      try simp only [sx_]
      refine rh1 6 rfl fun K hK => ?_
      have hold := hH
      obtain ⟨hbk, hge⟩ := fresh_of (W := wr) hH
      (try simp only [size_drew, World.size_alloc] at hbk hge)
      go_simp
      refine hK.out _ _ ?_ fun _ => ?_
      ·exact b_14
      clear hK K hH
      rename_i hH
      try simp only [sx_]
      refine rh1 7 rfl fun K hK => ?_
      have hst := WAt.lit hf3.wid
      go_simp
      refine hK.out _ _ ?_ fun _ => ?_
      ·(try dsimp only); exact Ext.alloc hold _
      exact T_RIN_4
     ·have hold := hH
      obtain ⟨hbk, hge⟩ := fresh_of (W := wr) hH
      (try simp only [size_drew, World.size_alloc] at hbk hge)
      replace hNt := hNt.ext ((Ext.refl _).alloc (.cells #[.bool false, .slice none 0 0] 24))
      replace hf1 := hf1.ext ((Ext.refl _).alloc (.cells #[.bool false, .slice none 0 0] 24))
      go_simp
      refine hK.out _ _ ?_ fun _ => ?_
      ·exact b_14
      exact T_RIN_3
    ·have hold := hH
     obtain ⟨hbk, hge⟩ := fresh_of (W := wr) hH
     (try simp only [size_drew, World.size_alloc] at hbk hge)
     replace hNt := hNt.ext ((Ext.refl _).alloc (.cells #[.bool false, .slice none 0 0] 24))
     go_simp
     refine hK.out _ _ ?_ fun _ => ?_
     ·exact b_14
     clear hK K hH
     rename_i hH
     try simp only [sx_]
     refine rh1 4 rfl fun K hK => ?_
     go_simp
     rw [hw1.out, hw2.out]
     (go_at_call 74; (with_reducible refine (hfi _).mono ?_); rintro e w1 ⟨y1, rfl, hf1, hx⟩)
     replace hNt := hNt.ext hx
     replace hbk := hbk.ext hx
     refine hK.out _ _ ?_ fun _ => ?_
     ·exact b_10
     exact T_RIN_3
   case rest =>
    obtain ⟨g, rfl, hE, hgW, hWg⟩ := hcut
    have hgl := hWg.lt
    obtain ⟨x, ex⟩ : ∃ x, t / (2 * i + 1) = x := ⟨_, rfl⟩
    rw [ex] at hWg hA' hxs
    obtain ⟨aoS, capS, s0, s1, hNs, hfS⟩ := hWS.out.openN
    obtain ⟨aoX, capX, x0, x1, hNx, hfX⟩ := hWg.openN
    have s0' := (hE.cells.1 _ 0 hSl).trans s0
    have s1' := (hE.cells.1 _ 1 hSl).trans s1
    have hfS' : ∀ o, wc.frozen? ⟨w.heap.size + 1, o, none⟩ = false := fun o => (hE.cells.2 _ o hSl).trans (hfS o)
    have hSl' : w.heap.size + 1 < wc.heap.size := Nat.lt_of_lt_of_le hSl hE.size
    clear s0 s1 hfS cT0 cT1 hNt hNt0 hfT hfi hw1 hw2 ex
    rcases hA' with ⟨hev, hA'⟩ | ⟨hev, hxle, hA'⟩
    ·have hevI : ((i : Int) % 2 == 0) = true := by simp; omega
     have hok2 := invF_ok hA'
     go_upto_region 10 with (go_at_call 75; (with_reducible refine (q_add _ _ s x _ (hNs.ext hE) (hNx.ext (Ext.refl _)) (okN.small hok) hxs (okN.small hok2)).mono ?_); rintro e w3 ⟨y3, rfl, hy3, hb3⟩; obtain ⟨ao3, cap3, rfl, hy4⟩ := hy3.open; obtain ⟨_, _, ⟨hc3, hf3⟩, hz3⟩ := hb3.c3; (try simp only [wsz] at hz3 hc3 hf3))
     have hE3 : Ext wr w3 := Ext.trans hE hb3
     have hS3 := hWS.out.ext hE3
     have hT3 := hWT0.out.ext hE3
     have hR3 := hR.out.ext hE3
     have hnS := hS3.noU
     have hWS2 := Bx2.store hS3.box hy4.wid
     obtain ⟨U, hU⟩ : ∃ U, (w3.setCell ⟨w.heap.size + 1, 0, none⟩ (.bool false)).setCell ⟨w.heap.size + 1, 1, none⟩ (.slice ao3 (dig (s + x)).length cap3) = U := ⟨_, rfl⟩
     have hGU : GB (w.heap.size + 1) w3 U := by rw [← hU]; exact ((GB.refl _ _).set _).set _
     have hWTU : WAt U T (t : Int) := hT3.grown hnS hGU (by omega)
     have hRU : Bx2 U w.heap.size := hR3.grown hGU (by omega)
     have hEU : Ext w U := GB.pre (Ext.trans hEx.out hE3) hGU (by omega)
     have hUT := hWTU.noU
     have hWT := hWTU.ext ((Ext.refl U).drew)
     rw [hU] at hWS2 ⊢
     clear hU hGU hS3 hT3 hR3 hnS hy3 hy4 hE3 hc3 hf3
     refine wp_region_held_drew (S := (fun w0 => GB T U w0)) c_2 ?_ (fun hH => ?_)
     ·exact (GB.refl _ _).drew
     try simp only [sx_]
     refine sK 1 ?_
     refine sK 2 ?_
     refine sK 3 ?_
     refine rh2 0 4 rfl rfl (fun K hK => ?_) fun K hK => ?_
     ·obtain ⟨ao5, cap5, cT0, cT1, hN5, hfT5⟩ := WAt.openN hWT
      go_simp
      refine hK.out _ _ ?_ fun _ => ?_
      ·(try dsimp only); exact hH
      clear hK K hH
      rename_i hH
      try simp only [sx_]
      refine rh1 4 rfl fun K hK => ?_
      go_simp
      rw [hw3.out]
      (go_at_call 74; (with_reducible refine (hfn _).mono ?_); rintro e w5 ⟨y6, rfl, hn6, hx⟩)
      replace hWT := WAt.ext hWT hx
      replace hN5 := hN5.ext hx
      refine hK.out _ _ ?_ fun _ => ?_
      ·exact b_12
      exact T_RIN_1
     ·go_simp
      rw [hw3.out]
      (go_at_call 74; (with_reducible refine (hfn _).mono ?_); rintro e w5 ⟨y6, rfl, hn6, hx⟩)
      replace hWT := WAt.ext hWT hx
      refine hK.out _ _ ?_ fun _ => ?_
      ·exact b_12
      clear hK K hH
      rename_i hH
      try simp only [sx_]
      refine rh1 0 rfl fun K hK => ?_
      obtain ⟨ao5, cap5, cT0, cT1, hN5, hfT5⟩ := WAt.openN hWT
      go_simp
      refine hK.out _ _ ?_ fun _ => ?_
      ·(try dsimp only); exact hH
      exact T_RIN_1
    ·have hevI : ((i : Int) % 2 == 0) = false := by simp; omega
     have hok2 := invF_ok hA'
     go_upto_region 10 with (go_at_call 130; (with_reducible refine (q_sub _ _ s x _ (hNs.ext hE) (hNx.ext (Ext.refl _)) (okN.small hok) hxs hxle).mono ?_); rintro e w3 ⟨y3, rfl, hy3, hb3⟩; obtain ⟨ao3, cap3, rfl, hy4⟩ := hy3.open; obtain ⟨_, _, ⟨hc3, hf3⟩, hz3⟩ := hb3.c3; (try simp only [wsz] at hz3 hc3 hf3))
     have hE3 : Ext wr w3 := Ext.trans hE hb3
     have hS3 := hWS.out.ext hE3
     have hT3 := hWT0.out.ext hE3
     have hR3 := hR.out.ext hE3
     have hnS := hS3.noU
     have hWS2 := Bx2.store hS3.box hy4.wid
     obtain ⟨U, hU⟩ : ∃ U, (w3.setCell ⟨w.heap.size + 1, 0, none⟩ (.bool false)).setCell ⟨w.heap.size + 1, 1, none⟩ (.slice ao3 (dig (s - x)).length cap3) = U := ⟨_, rfl⟩
     have hGU : GB (w.heap.size + 1) w3 U := by rw [← hU]; exact ((GB.refl _ _).set _).set _
     have hWTU : WAt U T (t : Int) := hT3.grown hnS hGU (by omega)
     have hRU : Bx2 U w.heap.size := hR3.grown hGU (by omega)
     have hEU : Ext w U := GB.pre (Ext.trans hEx.out hE3) hGU (by omega)
     have hUT := hWTU.noU
     have hWT := hWTU.ext ((Ext.refl U).drew)
     rw [hU] at hWS2 ⊢
     clear hU hGU hS3 hT3 hR3 hnS hy3 hy4 hE3 hc3 hf3
     refine wp_region_held_drew (S := (fun w0 => GB T U w0)) c_2 ?_ (fun hH => ?_)
     ·exact (GB.refl _ _).drew
     try simp only [sx_]
     refine sK 1 ?_
     refine sK 2 ?_
     refine sK 3 ?_
     refine rh2 0 4 rfl rfl (fun K hK => ?_) fun K hK => ?_
     ·obtain ⟨ao5, cap5, cT0, cT1, hN5, hfT5⟩ := WAt.openN hWT
      go_simp
      refine hK.out _ _ ?_ fun _ => ?_
      ·(try dsimp only); exact hH
      clear hK K hH
      rename_i hH
      try simp only [sx_]
      refine rh1 4 rfl fun K hK => ?_
      go_simp
      rw [hw3.out]
      (go_at_call 74; (with_reducible refine (hfn _).mono ?_); rintro e w5 ⟨y6, rfl, hn6, hx⟩)
      replace hWT := WAt.ext hWT hx
      replace hN5 := hN5.ext hx
      refine hK.out _ _ ?_ fun _ => ?_
      ·exact b_12
      exact T_RIN_2
     ·go_simp
      rw [hw3.out]
      (go_at_call 74; (with_reducible refine (hfn _).mono ?_); rintro e w5 ⟨y6, rfl, hn6, hx⟩)
      replace hWT := WAt.ext hWT hx
      refine hK.out _ _ ?_ fun _ => ?_
      ·exact b_12
      clear hK K hH
      rename_i hH
      try simp only [sx_]
      refine rh1 0 rfl fun K hK => ?_
      obtain ⟨ao5, cap5, cT0, cT1, hN5, hfT5⟩ := WAt.openN hWT
      go_simp
      refine hK.out _ _ ?_ fun _ => ?_
      ·(try dsimp only); exact hH
      exact T_RIN_2
def PairV (w : World) (v : Value) (x y : Int) : Prop := ∃ s u t z, v = .agg #[.bool s, u, .bool t, z] ∧ Wid w (.agg #[.bool s, u]) x ∧ Wid w (.agg #[.bool t, z]) y
theorem PairV.ext {a w : World} {v : Value} {x y : Int} (h : PairV a v x y) (k : Ext a w) : PairV w v x y := by
 obtain ⟨s, u, t, z, e, h1, h2⟩ := h; exact ⟨s, u, t, z, e, h1.ext k, h2.ext k⟩
def Bx4 (w : World) (g : Nat) : Prop := (∃ a, w.cell? ⟨g, 0, none⟩ = some a) ∧ (∃ a, w.cell? ⟨g, 1, none⟩ = some a) ∧ (∃ a, w.cell? ⟨g, 2, none⟩ = some a) ∧ (∃ a, w.cell? ⟨g, 3, none⟩ = some a) ∧ (∀ o, w.frozen? ⟨g, o, none⟩ = false) ∧ NoU w g ∧ g < w.heap.size
theorem Bx4.ext {g : Nat} {a b : World} (h : Bx4 a g) (k : Ext a b) : Bx4 b g := by
 obtain ⟨⟨x, h1⟩, ⟨y, h2⟩, ⟨z, h3⟩, ⟨u, h4⟩, h5, h6, h7⟩ := h
 exact ⟨⟨x, (k.cells.1 g 0 h7).trans h1⟩, ⟨y, (k.cells.1 g 1 h7).trans h2⟩, ⟨z, (k.cells.1 g 2 h7).trans h3⟩, ⟨u, (k.cells.1 g 3 h7).trans h4⟩, fun o => (k.cells.2 g o h7).trans (h5 o), h6.ext h7 k, Nat.lt_of_lt_of_le h7 k.size⟩
theorem Bx4.fresh (w : World) : Bx4 (w.alloc (.cells #[.bool false, .slice none 0 0, .bool false, .slice none 0 0] 68)) w.heap.size :=
 ⟨⟨.bool false, by simp [go_sem, ↓IntWalk.iteOmega]⟩, ⟨.slice none 0 0, by simp [go_sem, ↓IntWalk.iteOmega]⟩, ⟨.bool false, by simp [go_sem, ↓IntWalk.iteOmega]⟩, ⟨.slice none 0 0, by simp [go_sem, ↓IntWalk.iteOmega]⟩, fun o => by simp [go_sem, ↓IntWalk.iteOmega], NoU.new w _ _ (noU4 (by simp) (by simp) (by simp) (by simp)), by simp⟩
theorem cmp_zero (m k : Nat) : (cmpI m k == 0) = decide (m = k) := by
 unfold cmpI
 by_cases h1 : (m : Int) < k
 ·rw [if_pos h1]; simp; omega
 ·rw [if_neg h1]
  by_cases h2 : (k : Int) < m
  ·rw [if_pos h2]; simp; omega
  ·rw [if_neg h2]; simp; omega
theorem T_RRO_1 {p : Prop} (h : p := by
 rw [rounds_succ]
 go_wp2_with fail
 go_ret2
 exact ⟨by first | rfl | (congr 4; omega), ex_⟩) : p := h
theorem r_Int0 (va u : Value) (w : World) (hva : va = .agg #[.bool false, u]) (hu : Lim w u [])
    (hck : ∀ w1, Ext w w1 → Calls Tryz.prog 129 #[va] w1 fun e w' => e = .returned (.int .i64 0) ∧ Ext w1 w') :
    Calls Tryz.prog 70 #[va] w fun e w' => e = .returned (.tuple #[.int .i64 (0), .int .i64 0]) ∧ Ext w w' := by
 subst hva
 obtain ⟨ao, b1, o1, cap1, rfl, v1, v2, v3, v4, v5, v6⟩ := hu.view
 clear v1 v5 v4 v6 hu
 simp only [List.length_cons, List.length_nil, Nat.zero_add, Nat.reduceAdd] at v2 hck ⊢
 go_enter Tryz.func70, Tryz.ntmps70
 go_wp2_with (go_at_call 129; (with_reducible refine (hck _ ex_).mono ?_); rintro e w1 ⟨rfl, hb⟩; obtain ⟨_, _, ⟨hc, hf⟩, hz⟩ := hb.c3; (try simp only [wsz] at hz hc hf))
 refine wp_loop_rounds 1 ?_
 exact T_RRO_1
theorem r_Int1 (a : Int) (va u : Value) (w : World) (hva : va = .agg #[.bool false, u]) (hu : Lim w u [a])
    (hck : ∀ w1, Ext w w1 → Calls Tryz.prog 129 #[va] w1 fun e w' => e = .returned (.int .i64 0) ∧ Ext w1 w') :
    Calls Tryz.prog 70 #[va] w fun e w' => e = .returned (.tuple #[.int .i64 (a), .int .i64 0]) ∧ Ext w w' := by
 subst hva
 obtain ⟨ao, b1, o1, cap1, rfl, v1, v2, v3, v4, v5, v6⟩ := hu.view
 have haU : U32 a := (hu.lb.getD 0)
 have e0 := v1 (by simp)
 subst e0
 have hl0 := v5 0 (by simp)
 have hbl := v4 (by simp)
 simp only [List.getD_cons_zero, List.getD_cons_succ, Nat.add_zero] at hl0
 unfold U32 at haU
 clear v1 v5 v4 v6 hu
 simp only [List.length_cons, List.length_nil, Nat.zero_add, Nat.reduceAdd] at v2 hck ⊢
 go_enter Tryz.func70, Tryz.ntmps70
 go_wp2_with (go_at_call 129; (with_reducible refine (hck _ ex_).mono ?_); rintro e w1 ⟨rfl, hb⟩; obtain ⟨_, _, ⟨hc, hf⟩, hz⟩ := hb.c3; (try simp only [wsz] at hz hc hf))
 refine wp_loop_rounds 2 ?_
 rw [rounds_succ]
 go_wp2_with fail
 exact T_RRO_1
theorem r_Int2 (a b : Int) (va u : Value) (w : World) (hva : va = .agg #[.bool false, u]) (hu : Lim w u [a, b]) (hlt : a + b * 4294967296 < 9223372036854775808)
    (hck : ∀ w1, Ext w w1 → Calls Tryz.prog 129 #[va] w1 fun e w' => e = .returned (.int .i64 0) ∧ Ext w1 w') :
    Calls Tryz.prog 70 #[va] w fun e w' => e = .returned (.tuple #[.int .i64 (a + b * 4294967296), .int .i64 0]) ∧ Ext w w' := by
 subst hva
 obtain ⟨ao, b1, o1, cap1, rfl, v1, v2, v3, v4, v5, v6⟩ := hu.view
 have haU : U32 a := (hu.lb.getD 0)
 have e0 := v1 (by simp)
 subst e0
 have hl0 := v5 0 (by simp)
 have hbl := v4 (by simp)
 simp only [List.getD_cons_zero, List.getD_cons_succ, Nat.add_zero] at hl0
 have hbU : U32 b := (hu.lb.getD 1)
 have hl1 := v5 1 (by simp)
 simp only [List.getD_cons_zero, List.getD_cons_succ] at hl1
 have hsh : b * 4294967296 + a = a + b * 4294967296 := by omega
 unfold U32 at haU
 unfold U32 at hbU
 clear v1 v5 v4 v6 hu
 simp only [List.length_cons, List.length_nil, Nat.zero_add, Nat.reduceAdd] at v2 hck ⊢
 go_enter Tryz.func70, Tryz.ntmps70
 go_wp2_with (go_at_call 129; (with_reducible refine (hck _ ex_).mono ?_); rintro e w1 ⟨rfl, hb⟩; obtain ⟨_, _, ⟨hc, hf⟩, hz⟩ := hb.c3; (try simp only [wsz] at hz hc hf))
 refine wp_loop_rounds 3 ?_
 rw [rounds_succ]
 go_wp2_with fail
 rw [rounds_succ]
 go_wp2_with fail
 exact T_RRO_1
theorem r_Int (va : Value) (n : Nat) (w : World) (ha : Nn w va n) (h1 : n ≤ 9223372036854775807) :
    Calls Tryz.prog 70 #[va] w fun e w' => e = .returned (.tuple #[.int .i64 n, .int .i64 0]) ∧ Ext w w' := by
 have hs : Small n := dig_bits (k := 64) (L := 4096) (by omega) (by decide)
 have hl2 : (dig n).length ≤ 2 := dig_bits (k := 64) (L := 2) (by omega) (by decide)
 have hck := fun w1 (k1 : Ext w w1) => r_Check va n w1 (ha.ext k1) hs
 obtain ⟨u, hva, hu⟩ := ha
 have hv := dig_val n
 have hB : BB = 4294967296 := rfl
 rcases two_limbs hl2 with e | ⟨a, e⟩ | ⟨a, b, e⟩
 ·rw [e] at hv hu
  simp only [val] at hv
  rw [← hv]
  exact r_Int0 va u w hva hu hck
 ·rw [e] at hv hu
  simp only [val] at hv
  rw [hB] at hv
  rw [show (n : Int) = a by omega]
  exact r_Int1 a va u w hva hu hck
 ·rw [e] at hv hu
  simp only [val] at hv
  rw [hB] at hv
  rw [show (n : Int) = a + b * 4294967296 by omega]
  exact r_Int2 a b va u w hva hu (by omega) hck
end Go.Proofs.YtogblocakccbgaaGreat
namespace Go.Proofs.YtogblocakccbgaaGreat
open Go.RowKit
theorem PairV.grown {T : Nat} {a b : World} {v : Value} {x y : Int} (h : PairV a v x y) (hT : NoU a T) (k : GB T a b) : PairV b v x y := by
 obtain ⟨s, u, t, z, e, h1, h2⟩ := h; exact ⟨s, u, t, z, e, h1.grown hT k, h2.grown hT k⟩
def VF.pair (x y : Int) : VF := ⟨fun v w => PairV w v x y, fun _ _ _ h k => h.ext k, fun _ _ _ _ h hT k => h.grown hT k⟩
theorem PairV.open {w : World} {v : Value} {x y : Int} (h : PairV w v x y) : ∃ s ao n cap t bo m cap2, v = .agg #[.bool s, .slice ao n cap, .bool t, .slice bo m cap2] ∧ Wid w (.agg #[.bool s, .slice ao n cap]) x ∧ Wid w (.agg #[.bool t, .slice bo m cap2]) y := by
 obtain ⟨s, u, t, z, rfl, h1, h2⟩ := h
 obtain ⟨s', ao, n, cap, e, k1⟩ := h1.open
 obtain ⟨t', bo, m, cap2, e2, k2⟩ := h2.open
 cases e
 cases e2
 exact ⟨_, _, _, _, _, _, _, _, rfl, k1, k2⟩
structure PatP (w : World) (g : Nat) (x y : Int) : Prop where
 c : ∃ s u t z, w.cell? ⟨g, 0, none⟩ = some (.bool s) ∧ w.cell? ⟨g, 1, none⟩ = some u ∧ w.cell? ⟨g, 2, none⟩ = some (.bool t) ∧ w.cell? ⟨g, 3, none⟩ = some z ∧ Wid w (.agg #[.bool s, u]) x ∧ Wid w (.agg #[.bool t, z]) y
 f : ∀ o, w.frozen? ⟨g, o, none⟩ = false
 n : NoU w g
 lt : g < w.heap.size
theorem PatP.ext {g : Nat} {a b : World} {x y : Int} (h : PatP a g x y) (k : Ext a b) : PatP b g x y := by
 obtain ⟨s, u, t, z, h0, h1, h2, h3, h4, h5⟩ := h.c
 exact ⟨⟨s, u, t, z, (k.cells.1 g 0 h.lt).trans h0, (k.cells.1 g 1 h.lt).trans h1, (k.cells.1 g 2 h.lt).trans h2, (k.cells.1 g 3 h.lt).trans h3, h4.ext k, h5.ext k⟩, fun o => (k.cells.2 g o h.lt).trans (h.f o), h.n.ext h.lt k, Nat.lt_of_lt_of_le h.lt k.size⟩
theorem PatP.grown {T g : Nat} {a b : World} {x y : Int} (h : PatP a g x y) (hT : NoU a T) (k : GB T a b) (hne : g ≠ T) : PatP b g x y := by
 obtain ⟨s, u, t, z, h0, h1, h2, h3, h4, h5⟩ := h.c
 exact ⟨⟨s, u, t, z, (k.cell h.lt hne).trans h0, (k.cell h.lt hne).trans h1, (k.cell h.lt hne).trans h2, (k.cell h.lt hne).trans h3, h4.grown hT k, h5.grown hT k⟩, fun o => (k.frozen h.lt hne).trans (h.f o), h.n.grown k h.lt hne, Nat.lt_of_lt_of_le h.lt k.size⟩
def BF.pat (x y : Int) : BF := ⟨fun g w => PatP w g x y, fun _ _ _ h k => h.ext k, fun _ _ _ _ h hT k hne => h.grown hT k hne, fun _ _ h => h.n, fun _ _ h => h.lt⟩
theorem PatP.bx {g : Nat} {w : World} {x y : Int} (h : PatP w g x y) : Bx4 w g := by
 obtain ⟨s, u, t, z, h0, h1, h2, h3, -⟩ := h.c
 exact ⟨⟨_, h0⟩, ⟨_, h1⟩, ⟨_, h2⟩, ⟨_, h3⟩, h.f, h.n, h.lt⟩
theorem own_bx4 {g : Nat} {w : World} {a b c d : Value} (h : (BF.own [a, b, c, d]).p g w) : Bx4 w g := ⟨⟨_, h.1 0 _ rfl⟩, ⟨_, h.1 1 _ rfl⟩, ⟨_, h.1 2 _ rfl⟩, ⟨_, h.1 3 _ rfl⟩, h.2.1, h.2.2.1, h.2.2.2⟩
theorem Bx4.put {w : World} {g : Nat} {s t : Bool} {ao bo : Option Addr} {n cap m cap2 : Nat} {x y : Int} (h : Bx4 w g) (hw : Wid w (.agg #[.bool s, .slice ao n cap]) x) (hv : Wid w (.agg #[.bool t, .slice bo m cap2]) y) : PatP ((((w.setCell ⟨g, 0, none⟩ (.bool s)).setCell ⟨g, 1, none⟩ (.slice ao n cap)).setCell ⟨g, 2, none⟩ (.bool t)).setCell ⟨g, 3, none⟩ (.slice bo m cap2)) g x y := by
 obtain ⟨⟨a, h1⟩, ⟨b, h2⟩, ⟨c, h3⟩, ⟨d, h4⟩, h5, h6, h7⟩ := h
 have n1 := NoU.set (j := 0) (B' := g) (x := .bool s) h6 (fun z e => by cases e)
 have n2 := NoU.set (j := 1) (B' := g) (x := .slice ao n cap) n1 (fun z e => by cases e)
 have n3 := NoU.set (j := 2) (B' := g) (x := .bool t) n2 (fun z e => by cases e)
 have n4 := NoU.set (j := 3) (B' := g) (x := .slice bo m cap2) n3 (fun z e => by cases e)
 refine ⟨⟨s, .slice ao n cap, t, .slice bo m cap2, ?_, ?_, ?_, ?_, (((hw.box (j := 0) (x := .bool s) h6).box (j := 1) (x := .slice ao n cap) n1).box (j := 2) (x := .bool t) n2).box (j := 3) (x := .slice bo m cap2) n3, (((hv.box (j := 0) (x := .bool s) h6).box (j := 1) (x := .slice ao n cap) n1).box (j := 2) (x := .bool t) n2).box (j := 3) (x := .slice bo m cap2) n3⟩, fun o => by simp only [World.frozen?_setCell]; exact h5 o, n4, by simpa using h7⟩
 ·simp [go_sem, ↓IntWalk.iteOmega, h1]
 ·simp [go_sem, ↓IntWalk.iteOmega, h2]
 ·simp [go_sem, ↓IntWalk.iteOmega, h3]
 ·simp [go_sem, ↓IntWalk.iteOmega, h4]
section
variable {ops : Array Oper} {V : Nat → VF} {B : List BR} {Kp : World → Prop} {a0 : Act} {n0 : Nat} {i : Nat} {o : Oper}
theorem ob_getP0 {x : Operand} (g : Nat) (q r : Int) (p : Option Nat) (hc : ChkP ops a0 B) (hop : o.op = .load 24 x)
    (h : ∀ (vs : Nat → Value) (gs : Nat → Nat) (w : World), Ctx ops V B Kp n0 i o vs gs w → PatP w g q r) (ha : Opd ops V a0 o x (.pointer (some ⟨g, 0, none⟩)) p := by first | exact ⟨fun _ => by kernel_rfl, rfl, by kernel_rfl⟩ | exact fun _ => by kernel_rfl) (hV : (V i).p = (VF.wid q).p := by rfl)
    (hg : Gd ops V o := by first | exact .inl rfl | exact .inr ⟨_, _, rfl, rfl, by kernel_rfl⟩) (hfr : free (B.map BR.key) i = true := by kernel_rfl) : ObI Tryz.prog ops V B Kp a0 n0 i o :=
  ob_val hc (fun vs gs w ρ hr c => by
    obtain ⟨s, u, t, z, e0, e1, e2, e3, e4, e5⟩ := (h vs gs w c).c
    refine ⟨.agg #[.bool s, u], ?_, by rw [hV]; exact e4⟩
    have h5 := ha.get c hr
    obtain ⟨dst, op, ty, pos, af, gd⟩ := o
    dsimp only at hop
    subst hop
    clear h e4 e5 c hr ha
    go_simp) hg hfr
theorem ob_getP2 {x : Operand} (g : Nat) (q r : Int) (p : Option Nat) (hc : ChkP ops a0 B) (hop : o.op = .load 24 x)
    (h : ∀ (vs : Nat → Value) (gs : Nat → Nat) (w : World), Ctx ops V B Kp n0 i o vs gs w → PatP w g q r) (ha : Opd ops V a0 o x (.pointer (some ⟨g, 2, none⟩)) p := by first | exact ⟨fun _ => by kernel_rfl, rfl, by kernel_rfl⟩ | exact fun _ => by kernel_rfl) (hV : (V i).p = (VF.wid r).p := by rfl)
    (hg : Gd ops V o := by first | exact .inl rfl | exact .inr ⟨_, _, rfl, rfl, by kernel_rfl⟩) (hfr : free (B.map BR.key) i = true := by kernel_rfl) : ObI Tryz.prog ops V B Kp a0 n0 i o :=
  ob_val hc (fun vs gs w ρ hr c => by
    obtain ⟨s, u, t, z, e0, e1, e2, e3, e4, e5⟩ := (h vs gs w c).c
    refine ⟨.agg #[.bool t, z], ?_, by rw [hV]; exact e5⟩
    have h5 := ha.get c hr
    obtain ⟨dst, op, ty, pos, af, gd⟩ := o
    dsimp only at hop
    subst hop
    clear h e4 e5 c hr ha
    go_simp) hg hfr
theorem ob_getPP {x : Operand} (g : Nat) (q r : Int) (hc : ChkP ops a0 B) (hop : o.op = .load 68 x)
    (h : ∀ (vs : Nat → Value) (gs : Nat → Nat) (w : World), Ctx ops V B Kp n0 i o vs gs w → PatP w g q r) (hx : ∀ vs, rho ops a0 o vs x = .pointer (some ⟨g, 0, none⟩) := by intro _; kernel_rfl) (hV : (V i).p = (VF.pair q r).p := by rfl)
    (hg : Gd ops V o := by first | exact .inl rfl | exact .inr ⟨_, _, rfl, rfl, by kernel_rfl⟩) (hfr : free (B.map BR.key) i = true := by kernel_rfl) : ObI Tryz.prog ops V B Kp a0 n0 i o :=
  ob_val hc (fun vs gs w ρ hr c => by
    obtain ⟨s, u, t, z, e0, e1, e2, e3, e4, e5⟩ := (h vs gs w c).c
    refine ⟨.agg #[.bool s, u, .bool t, z], ?_, by rw [hV]; exact ⟨s, u, t, z, rfl, e4, e5⟩⟩
    have h5 := (hr x).trans (hx vs)
    obtain ⟨dst, op, ty, pos, af, gd⟩ := o
    dsimp only at hop
    subst hop
    clear h e4 e5 c hr
    go_simp) hg hfr
theorem ob_buildP {y z : Operand} {q r : Int} (j k : Nat) (hc : ChkP ops a0 B) (hop : o.op = .build 68 #[(0, y), (1, z)]) (hy : ∀ vs, rho ops a0 o vs y = vs j := by intro _; kernel_rfl) (hj : (needs o).contains j = true := by kernel_rfl) (hVj : (V j).p = (VF.wid q).p := by rfl)
    (hz : ∀ vs, rho ops a0 o vs z = vs k := by intro _; kernel_rfl) (hk : (needs o).contains k = true := by kernel_rfl) (hVk : (V k).p = (VF.wid r).p := by rfl) (hV : (V i).p = (VF.pair q r).p := by rfl)
    (hg : Gd ops V o := by first | exact .inl rfl | exact .inr ⟨_, _, rfl, rfl, by kernel_rfl⟩) (hfr : free (B.map BR.key) i = true := by kernel_rfl) : ObI Tryz.prog ops V B Kp a0 n0 i o :=
  ob_val hc (fun vs gs w ρ hr c => by
    have h := c.v j hj
    rw [hVj] at h
    have h2 := c.v k hk
    rw [hVk] at h2
    obtain ⟨s, ao, l, cap, e, hw⟩ := Wid.open (show Wid w (vs j) q from h)
    obtain ⟨t, bo, m, cap2, e', hw2⟩ := Wid.open (show Wid w (vs k) r from h2)
    have e1 := ((hr y).trans (hy vs)).trans e
    have e2 := ((hr z).trans (hz vs)).trans e'
    refine ⟨.agg #[.bool s, .slice ao l cap, .bool t, .slice bo m cap2], ?_, by rw [hV]; exact ⟨s, _, t, _, rfl, hw, hw2⟩⟩
    obtain ⟨dst, op, ty, pos, af, gd⟩ := o
    dsimp only at hop
    subst hop
    clear c h h2 hw hw2 hr
    go_simp) hg hfr
theorem ob_zeroW (hc : ChkP ops a0 B) (hop : o.op = .build 24 #[]) (hV : (V i).p = (VF.wid 0).p := by rfl)
    (hg : Gd ops V o := by first | exact .inl rfl | exact .inr ⟨_, _, rfl, rfl, by kernel_rfl⟩) (hfr : free (B.map BR.key) i = true := by kernel_rfl) : ObI Tryz.prog ops V B Kp a0 n0 i o :=
  ob_val hc (fun vs gs w ρ hr c => by
    refine ⟨.agg #[.bool false, .slice none 0 0], ?_, by rw [hV]; exact ⟨_, rfl, Lim.nil _⟩⟩
    obtain ⟨dst, op, ty, pos, af, gd⟩ := o
    dsimp only at hop
    subst hop
    clear c hr
    go_simp) hg hfr
theorem ob_putP {y z : Operand} {n : Nat} {x : BR} {q r : Int} (hx : B[n]? = some x) (j : Nat) (hc : ChkP ops a0 B) (hop : o.op = .store 68 y z) (m : Nat := 0) (hst : x.st[m]? = some i := by rfl) (hb : x.bf (m + 1) = BF.pat q r := by rfl) (hl : late o x.st m = true := by kernel_rfl)
    (hy : BoxPtr ops V a0 o x 0 y := by first | exact ⟨rfl, fun _ => by kernel_rfl, by kernel_rfl⟩ | exact ⟨none, fun _ => by kernel_rfl⟩)
    (hz : ∀ vs, rho ops a0 o vs z = vs j := by intro _; kernel_rfl) (hj : (needs o).contains j = true := by kernel_rfl) (hVj : (V j).p = (VF.pair q r).p := by rfl) (h4 : ∀ g w, (x.bf m).p g w → Bx4 w g := by first | exact fun _ _ h => own_bx4 h | exact fun _ _ h => PatP.bx h)
    (hV : ∀ v w, (V i).p v w := by exact fun _ _ => trivial) (hg : Gd ops V o := by first | exact .inl rfl | exact .inr ⟨_, _, rfl, rfl, by kernel_rfl⟩) : ObI Tryz.prog ops V B Kp a0 n0 i o :=
  ob_of hc hg fun vs gs w ρ hr c X hX => by
    obtain ⟨h1, hb0⟩ := hy.get c hx hst hl
    have hv := c.v j hj
    rw [hVj] at hv
    have hz' := (hr z).trans (hz vs)
    obtain ⟨s, ao, l, cap, t, bo, k, cap2, e, hw, hw2⟩ := PairV.open (show PairV w (vs j) q r from hv)
    have e1 := (hr y).trans h1
    have e2 := hz'.trans e
    have hs := (h4 _ _ hb0).put hw hw2
    obtain ⟨⟨xa, ea⟩, ⟨xb, eb⟩, ⟨xc, ec⟩, ⟨xd, ed⟩, ef, en, el⟩ := h4 _ _ hb0
    obtain ⟨dst, op, ty, pos, af, gd⟩ := o
    dsimp only at hop
    subst hop
    have e : (execOp ρ { dst := dst, op := .store 68 y z, type := ty, pos := pos, after := af, guard := gd }).run Tryz.prog w = .ok .skip ((((w.setCell ⟨gs n, 0, none⟩ (.bool s)).setCell ⟨gs n, 1, none⟩ (.slice ao l cap)).setCell ⟨gs n, 2, none⟩ (.bool t)).setCell ⟨gs n, 3, none⟩ (.slice bo k cap2)) := by
      clear hs hw hw2 c hX h1 hr hz' hv
      go_simp
    rw [e]
    exact hX.out _ _ (hV _ _) (.store n m x hx hst (((((GB.refl (gs n) w).set _).set _).set _).set _) (by rw [hb]; exact hs))
end
theorem PatP.new {w : World} {s t : Bool} {u z : Value} {x y : Int} (h : Wid w (.agg #[.bool s, u]) x) (k : Wid w (.agg #[.bool t, z]) y) : PatP (w.alloc (.cells #[.bool s, u, .bool t, z] 68)) w.heap.size x y := by
 obtain ⟨s', ao, n, cap, e, hw⟩ := Wid.open h
 obtain ⟨t', bo, m, cap2, e2, hv⟩ := Wid.open k
 cases e
 cases e2
 exact ⟨⟨s, _, t, _, by simp [go_sem], by simp [go_sem], by simp [go_sem], by simp [go_sem], hw.ext ((Ext.refl w).alloc _), hv.ext ((Ext.refl w).alloc _)⟩, fun o => by simp [go_sem], NoU.new w _ _ (noU4 (by simp) (by simp) (by simp) (by simp)), by simp⟩
end Go.Proofs.YtogblocakccbgaaGreat
namespace Go.Proofs.YtogblocakccbgaaGreat
open Go.RowKit
end Go.Proofs.YtogblocakccbgaaGreat
