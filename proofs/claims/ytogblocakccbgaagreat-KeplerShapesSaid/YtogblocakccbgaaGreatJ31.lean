/- Sums of alternating terms: what the code computes, as plain functions that the k; The reference's arc tangent, as a plain function.; The reference of trig: the arc tangent. -/
import Derived.Test.YtogblocakccbgaaGreatJ00
import Derived.Test.YtogblocakccbgaaGreatJ05
import Derived.Test.YtogblocakccbgaaGreatJ30
set_option linter.unusedSimpArgs false
set_option linter.unusedVariables false
set_option maxRecDepth 100000
set_option maxHeartbeats 4000000
namespace Go.Proofs.YtogblocakccbgaaGreat
def okN (s : Int) : Bool := decide (s.natAbs.log2 < 2000)
theorem okN.sz {s : Int} (h : okN s = true) : Sz s := by
 have h1 : s.natAbs.log2 < 2000 := of_decide_eq_true h
 by_cases h0 : s.natAbs = 0
 ·unfold Sz Small
  rw [h0]; decide
 ·generalize hk : (2000 : Nat) = k at h1
  exact small_bits (k := k) ((Nat.log2_lt h0).1 h1) (by omega)
def atanF (n : Nat) : Nat → Nat → Nat → Int → Option (Int × Nat)
 | 0, _, _, _ => none
 | F + 1, i, t, s => if okN s = true then (if t / (2 * i + 1) = 0 then some (s, i) else atanF n F (i + 1) (t / (n * n)) (if i % 2 = 0 then s + (t / (2 * i + 1) : Nat) else s - (t / (2 * i + 1) : Nat))) else none
theorem atanF_succ {n F i t : Nat} {s : Int} {r : Int × Nat} (h : atanF n F i t s = some r) : ∃ G, F = G + 1 ∧ okN s = true ∧ ((t / (2 * i + 1) = 0 ∧ r = (s, i)) ∨ (¬ t / (2 * i + 1) = 0 ∧ atanF n G (i + 1) (t / (n * n)) (if i % 2 = 0 then s + (t / (2 * i + 1) : Nat) else s - (t / (2 * i + 1) : Nat)) = some r)) := by
 match F, h with
 | 0, h => simp [atanF] at h
 | G + 1, h =>
  unfold atanF at h
  split at h
  ·rename_i hs
   refine ⟨G, rfl, hs, ?_⟩
   split at h
   ·rename_i h0
    exact Or.inl ⟨h0, by simpa using h.symm⟩
   ·rename_i h0
    exact Or.inr ⟨h0, h⟩
  ·cases h
theorem atanF_ok {n F i t : Nat} {s : Int} {r : Int × Nat} (h : atanF n F i t s = some r) : okN s = true := by
 obtain ⟨_, _, h, _⟩ := atanF_succ h; exact h
theorem atanF_res {n : Nat} : ∀ {F i t : Nat} {s : Int} {r : Int × Nat}, atanF n F i t s = some r → okN r.1 = true := by
 intro F
 induction F with
 | zero => intro i t s r h; simp [atanF] at h
 | succ G ih =>
  intro i t s r h
  obtain ⟨G', e, hs, h | h⟩ := atanF_succ h
  ·rw [h.2]; exact hs
  ·cases e; exact ih h.2
def invF (n : Nat) : Nat → Nat → Nat → Nat → Option Nat
 | 0, _, _, _ => none
 | F + 1, i, t, s => if okN (s : Int) = true then (if t = 0 then some s else if i % 2 = 0 then invF n F (i + 1) (t / (n * n)) (s + t / (2 * i + 1)) else if t / (2 * i + 1) ≤ s then invF n F (i + 1) (t / (n * n)) (s - t / (2 * i + 1)) else none) else none
theorem invF_succ {n F i t s r : Nat} (h : invF n F i t s = some r) : ∃ G, F = G + 1 ∧ okN (s : Int) = true ∧ ((t = 0 ∧ r = s) ∨ (¬ t = 0 ∧ ((i % 2 = 0 ∧ invF n G (i + 1) (t / (n * n)) (s + t / (2 * i + 1)) = some r) ∨ (¬ i % 2 = 0 ∧ t / (2 * i + 1) ≤ s ∧ invF n G (i + 1) (t / (n * n)) (s - t / (2 * i + 1)) = some r)))) := by
 match F, h with
 | 0, h => simp [invF] at h
 | G + 1, h =>
  unfold invF at h
  split at h
  ·rename_i hs
   refine ⟨G, rfl, hs, ?_⟩
   split at h
   ·rename_i h0
    exact Or.inl ⟨h0, by simpa using h.symm⟩
   ·rename_i h0
    refine Or.inr ⟨h0, ?_⟩
    split at h
    ·rename_i h1
     exact Or.inl ⟨h1, h⟩
    ·rename_i h1
     split at h
     ·rename_i h2
      exact Or.inr ⟨h1, h2, h⟩
     ·cases h
  ·cases h
theorem invF_ok {n F i t s r : Nat} (h : invF n F i t s = some r) : okN (s : Int) = true := by
 obtain ⟨_, _, h, _⟩ := invF_succ h; exact h
theorem okN.small {s : Nat} (h : okN (s : Int) = true) : Small s := by
 have := okN.sz h
 unfold Sz at this
 rwa [Int.natAbs_natCast] at this
theorem invF_res {n : Nat} : ∀ {F i t s r : Nat}, invF n F i t s = some r → okN (r : Int) = true := by
 intro F
 induction F with
 | zero => intro i t s r h; simp [invF] at h
 | succ G ih =>
  intro i t s r h
  obtain ⟨G', e, hs, h | ⟨_, h | h⟩⟩ := invF_succ h
  ·rw [h.2]; exact hs
  ·cases e; exact ih h.2
  ·cases e; exact ih h.2.2
end Go.Proofs.YtogblocakccbgaaGreat
namespace Go.Proofs.YtogblocakccbgaaGreat
open Go.RowKit
theorem T_RIN_4 {p : Prop} (h : p := by
 clear hK K hH
 have hH := hN
 clear hN
 try simp only [sx_]
 refine wpAnyH_done c_4 ?_ _
 go_wp2_with fail
 go_meet
 exact ⟨_, rfl, hH, c_15, hst⟩) : p := h
theorem T_RIN_3 {p : Prop} (h : p := by
 clear hK K hH
 have hH := hN
 clear hN
 try simp only [sx_]
 refine wpAnyH_ready (rs := [5]) c_4 (by simp) ?_
 refine rd1 rfl fun K hK => ?_
 go_simp
 (go_at_call 72; (with_reducible refine (q_over _ _ t (2 * i + 1) _ hNt hf1 hts h2i (by omega)).mono ?_); rintro e w2 ⟨y2, rfl, hf2, hx⟩)
 replace hNt := hNt.ext hx
 replace hf1 := hf1.ext hx
 replace hbk := hbk.ext hx
 obtain ⟨ao2, cap2, rfl, hf3⟩ := hf2.open
 refine hK.out _ _ ?_ (fun hN => ?_)
 ·(try dsimp only); exact Ext.trans hH hx
 clear hK K hH
 have hH := hN
 clear hN
 try simp only [sx_]
 refine wpAnyH_ready (rs := [7]) c_4 (by simp) ?_
 refine rd1 rfl fun K hK => ?_
 obtain ⟨⟨xa, h3a⟩, ⟨xb, h3b⟩, h3f, hnu, hsl⟩ := hbk
 have hst := Bx2.store ⟨⟨xa, h3a⟩, ⟨xb, h3b⟩, h3f, hnu, hsl⟩ hf3.wid
 go_simp
 refine hK.out _ _ ?_ (fun hN => ?_)
 ·(try dsimp only); exact Ext.setCell (Ext.setCell hH c_15 _) c_15 _
 exact T_RIN_4) : p := h
theorem T_RIN_2 {p : Prop} (h : p := by
 clear hK K hH
 have hH := hN
 clear hN
 try simp only [sx_]
 refine wpAnyH_ready (rs := [5]) c_4 (by simp) ?_
 refine rd1 rfl fun K hK => ?_
 go_simp
 (go_at_call 72; (with_reducible refine (q_over _ _ t (n * n) _ hN5 hn6 hts hnns hn0).mono ?_); rintro e w6 ⟨y7, rfl, hy7, hx⟩)
 obtain ⟨ao7, cap7, rfl, hy8⟩ := hy7.open
 replace hWT := WAt.ext hWT hx
 refine hK.out _ _ ?_ (fun hN => ?_)
 ·(try dsimp only); exact GB.trans hH (GB.ext hx)
 clear hK K hH
 have hH := hN
 clear hN
 try simp only [sx_]
 refine wpAnyH_ready (rs := [6]) c_4 (by simp) ?_
 refine rd1 rfl fun K hK => ?_
 obtain ⟨⟨xa, h3a⟩, ⟨xb, h3b⟩, h3f, hnu, hsl⟩ := hWT.box
 have hst := Bx2.store hWT.box hy8.wid
 go_simp
 refine hK.out _ _ ?_ (fun hN => ?_)
 ·(try dsimp only); exact (GB.set hH _).set _
 clear hK K hH
 have hH := hN
 clear hN
 try simp only [sx_]
 refine wpAnyH_done c_4 ?_ _
 have hS9 : Hid (WAt _ (w.heap.size + 1) ((s - x : Nat) : Int)) := WAt.grown hWS2 hUT hH (by omega)
 have hR9 : Hid (Bx2 _ w.heap.size) := Bx2.grown hRU hH (by omega)
 have hE9 : Hid (Ext w _) := GB.pre hEU hH (by omega)
 replace hst : Hid _ := hst
 replace hA' : Hid _ := hA'
 clear hH hWT hWS2 hRU h3a h3b h3f
 go_wp2_with fail
 go_roundw
 case rel => exact ⟨i + 1, t / (n * n), G', s - x, by go_num, by omega, hA', hS2, hst, hS9, hR9, hE9⟩
 case measure => simp [intOf]; omega) : p := h
theorem T_RIN_1 {p : Prop} (h : p := by
 clear hK K hH
 have hH := hN
 clear hN
 try simp only [sx_]
 refine wpAnyH_ready (rs := [5]) c_4 (by simp) ?_
 refine rd1 rfl fun K hK => ?_
 go_simp
 (go_at_call 72; (with_reducible refine (q_over _ _ t (n * n) _ hN5 hn6 hts hnns hn0).mono ?_); rintro e w6 ⟨y7, rfl, hy7, hx⟩)
 obtain ⟨ao7, cap7, rfl, hy8⟩ := hy7.open
 replace hWT := WAt.ext hWT hx
 refine hK.out _ _ ?_ (fun hN => ?_)
 ·(try dsimp only); exact GB.trans hH (GB.ext hx)
 clear hK K hH
 have hH := hN
 clear hN
 try simp only [sx_]
 refine wpAnyH_ready (rs := [6]) c_4 (by simp) ?_
 refine rd1 rfl fun K hK => ?_
 obtain ⟨⟨xa, h3a⟩, ⟨xb, h3b⟩, h3f, hnu, hsl⟩ := hWT.box
 have hst := Bx2.store hWT.box hy8.wid
 go_simp
 refine hK.out _ _ ?_ (fun hN => ?_)
 ·(try dsimp only); exact (GB.set hH _).set _
 clear hK K hH
 have hH := hN
 clear hN
 try simp only [sx_]
 refine wpAnyH_done c_4 ?_ _
 have hS9 : Hid (WAt _ (w.heap.size + 1) ((s + x : Nat) : Int)) := WAt.grown hWS2 hUT hH (by omega)
 have hR9 : Hid (Bx2 _ w.heap.size) := Bx2.grown hRU hH (by omega)
 have hE9 : Hid (Ext w _) := GB.pre hEU hH (by omega)
 replace hst : Hid _ := hst
 replace hA' : Hid _ := hA'
 clear hH hWT hWS2 hRU h3a h3b h3f
 go_wp2_with fail
 go_roundw
 case rel => exact ⟨i + 1, t / (n * n), G', s + x, by go_num, by omega, hA', hS2, hst, hS9, hR9, hE9⟩
 case measure => simp [intOf]; omega) : p := h
theorem q_inverse (n q F r : Nat) (w : World) (hn1 : 0 < n) (hn : n ≤ 1000) (hq : q ≤ 1000) (hF : F ≤ 100000) (hr : invF n F 0 (2 ^ q / n) 0 = some r) :
    Calls Tryz.prog 131 #[.int .i64 n, .int .i64 q] w fun e w' => ∃ u, e = .returned u ∧ Nn w' u r ∧ Ext w w' := by
 have hps : Small (2 ^ q) := small_bits (k := q + 1) (Nat.pow_lt_pow_right (by decide) (by omega)) (by omega)
 have hpw := fun w => q_power q w (by omega) hps
 have hns : Small n := small_bits (k := 64) (by omega) (by decide)
 have hnn : n * n ≤ 1000000 := Nat.mul_le_mul hn hn
 have hn0 : 0 < n * n := Nat.mul_pos hn1 hn1
 have hnns : Small (n * n) := small_bits (k := 64) (by omega) (by decide)
 have hfr := fun w => q_from n w (by omega)
 have hov := fun v u w1 (h : Nn w1 v (2 ^ q)) (h2 : Nn w1 u n) => q_over v u (2 ^ q) n w1 h h2 hps hns hn1
 have hfn : ∀ w, Calls Tryz.prog 74 #[.int .i64 ((n : Int) * n)] w fun e w' => ∃ u, e = .returned u ∧ Nn w' u (n * n) ∧ Ext w w' := fun w => by
  have := q_from (n * n) w (by omega)
  rw [Int.natCast_mul] at this
  exact this
 have hnI : (n : Int) * n ≤ 1000000 := by rw [← Int.natCast_mul]; omega
 have hnI0 : 0 < (n : Int) * n := by rw [← Int.natCast_mul]; omega
 have hw3 : Hid (IntKind.i64.wrap ((n : Int) * n) = (n : Int) * n) := by show _ = _; rw [IntKind.wrap_i64]; omega
 have hts0 : Small (2 ^ q / n) := Small.le hps (Nat.div_le_self _ _)
 have hqb : (q : Int) ≤ 1000 := by omega
 generalize 2 ^ q / n = t0 at hov hr hts0
 generalize 2 ^ q = P at hpw hov
 clear hps hq hns hnI hnI0
 have hW0 : WAt ((w.alloc (.cells #[.bool false, .slice none 0 0] 24)).alloc (.cells #[.bool false, .slice none 0 0] 24)) (w.heap.size + 1) 0 := by
  have := WAt.lit (w := w.alloc (.cells #[.bool false, .slice none 0 0] 24)) (s := false) (u := .slice none 0 0) (x := 0) ⟨_, rfl, Lim.nil _⟩
  simpa using this
 have hR0 := (Bx2.fresh w).ext ((Ext.refl _).alloc (.cells #[.bool false, .slice none 0 0] 24))
 go_enter Tryz.func131, Tryz.ntmps131
 go_wp2_with (first
  | (go_at_call 132; (with_reducible refine (hpw _).mono ?_); rintro e w1 ⟨y1, rfl, hy1, hb1⟩; obtain ⟨_, _, hc1, hf1⟩ := hb1.cells2; have hz1 := hb1.size; (try simp only [wsz] at hz1 hc1 hf1))
  | (go_at_call 74; (with_reducible refine (hfr _).mono ?_); rintro e w2 ⟨y2, rfl, hy2, hb2⟩; obtain ⟨_, _, hc2, hf2⟩ := hb2.cells2; have hz2 := hb2.size; (try simp only [wsz] at hz2 hc2 hf2))
  | (go_at_call 72; (with_reducible refine (hov _ _ _ (hy1.ext hb2) hy2).mono ?_); rintro e w3 ⟨y3, rfl, hy3, hb3⟩; obtain ⟨ao3, cap3, rfl, hy4⟩ := hy3.open; obtain ⟨_, _, hc3, hf3⟩ := hb3.cells2; have hz3 := hb3.size; (try simp only [wsz] at hz3 hc3 hf3)))
 have hE3 : Ext ((w.alloc (.cells #[.bool false, .slice none 0 0] 24)).alloc (.cells #[.bool false, .slice none 0 0] 24)) w3 := Ext.trans hb1 (Ext.trans hb2 hb3)
 have hT0 : WAt (w3.alloc (.cells #[.bool false, .slice ao3 (dig t0).length cap3] 24)) w3.heap.size (t0 : Int) := WAt.lit hy4.wid
 have hW1 := (hW0.ext hE3).ext ((Ext.refl w3).alloc (.cells #[.bool false, .slice ao3 (dig t0).length cap3] 24))
 have hR1 := (hR0.ext hE3).ext ((Ext.refl w3).alloc (.cells #[.bool false, .slice ao3 (dig t0).length cap3] 24))
 have hEw : Ext w (w3.alloc (.cells #[.bool false, .slice ao3 (dig t0).length cap3] 24)) := Ext.trans (((Ext.refl w).alloc _).alloc _) (Ext.trans hE3 ((Ext.refl w3).alloc _))
 have hTg : w.heap.size + 1 + 1 ≤ w3.heap.size := by have := hE3.size; simp only [World.size_alloc] at this; omega
 generalize w3.heap.size = T at *
 clear hy1 hy2 hy3 hy4 hE3 hb1 hb2 hb3 hc1 hf1 hc2 hf2 hc3 hf3 hz1 hz2 hz3 hW0 hR0 hpw hov hfr
 go_loopw [7] (fun a wr => ∃ (i t G s : Nat), a = .int .i64 i ∧ i + G = F ∧ Hid (invF n G i t s = some r) ∧ Hid (Small t) ∧ Hid (WAt wr T (t : Int)) ∧ Hid (WAt wr (w.heap.size + 1) (s : Int)) ∧ Hid (Bx2 wr w.heap.size) ∧ Hid (Ext w wr)) (fun a _ => F - (intOf a).toNat)
 case atStart => exact ⟨0, t0, F, 0, rfl, by omega, hr, hts0, hT0, hW1, hR1, hEw⟩
 case round =>
  obtain ⟨i, t, G, s, rfl, hiG, hA, hSt, hWT0, hWS, hR, hEx⟩ := hrel
  clear hT0 hW1 hR1 hEw
  obtain ⟨G', rfl, hok, hA'⟩ := invF_succ hA.out
  have hTl := hWT0.out.lt
  have hSl := hWS.out.lt
  have hEs := hEx.out.size
  have hts := hSt.out
  obtain ⟨aoT, capT, cT0, cT1, hNt0, hfT⟩ := hWT0.out.openN
  rcases hA' with ⟨h0, hres⟩ | ⟨h0, hA'⟩
  ·subst h0
   subst hres
   have hl0 : (dig 0).length = 0 := rfl
   rw [hl0] at cT1
   obtain ⟨aoS, capS, s0, s1, hNs, hfS⟩ := hWS.out.openN
   obtain ⟨⟨xa, h3a⟩, ⟨xb, h3b⟩, h3f, hnu, hsl⟩ := hR.out
   go_wp2_with fail
   refine bodyPost_ret (v := .agg #[.bool false, .slice aoS (dig r).length capS]) ?_ rfl ⟨_, rfl, ?_, ?_⟩
   ·simp [results, Tryz.results131, go_sem, ↓IntWalk.iteOmega, *]
   ·obtain ⟨u9, e9, hu9⟩ := hNs
    cases e9
    exact ⟨_, rfl, Lim.box (Lim.box hu9 hnu) (NoU.set hnu (fun z e => by cases e))⟩
   ·exact (hEx.out.setCell (p := ⟨w.heap.size, 0, none⟩) (Nat.le_refl _) _).setCell (p := ⟨w.heap.size, 1, none⟩) (Nat.le_refl _) _
  ·have hlp : decide ((0 : Int) < ((dig t).length : Int)) = true := decide_eq_true (by have := dig_pos.2 (Nat.pos_of_ne_zero h0); omega)
   have hlp2 : decide (0 < (dig t).length) = true := decide_eq_true (dig_pos.2 (Nat.pos_of_ne_zero h0))
   have hlp3 : 0 < (dig t).length := dig_pos.2 (Nat.pos_of_ne_zero h0)
   have h2i : Small (2 * i + 1) := small_bits (k := 64) (by omega) (by decide)
   have hfi : ∀ w, Calls Tryz.prog 74 #[.int .i64 (2 * (i : Int) + 1)] w fun e w' => ∃ u, e = .returned u ∧ Nn w' u (2 * i + 1) ∧ Ext w w' := fun w => by
    have := q_from (2 * i + 1) w (by omega)
    rw [show ((2 * i + 1 : Nat) : Int) = 2 * (i : Int) + 1 by omega] at this
    exact this
   have hw1 : Hid (IntKind.i64.wrap (2 * (i : Int)) = 2 * i) := by show _ = _; rw [IntKind.wrap_i64]; omega
   have hw2 : Hid (IntKind.i64.wrap (2 * (i : Int) + 1) = 2 * i + 1) := by show _ = _; rw [IntKind.wrap_i64]; omega
   have hS2 : Hid (Small (t / (n * n))) := Small.le hts (Nat.div_le_self _ _)
   have hxs : Small (t / (2 * i + 1)) := Small.le hts (Nat.div_le_self _ _)
   have hNt := hNt0.ext ((Ext.refl wr).drew)
   go_upto_region 6 with fail
   trace_state
   go_cut [8, 25, 26] (fun s8 s25 s26 wx => ∃ g, s8 = .pointer (some ⟨g, 0, none⟩) ∧ Ext wr wx ∧ wr.heap.size ≤ g ∧ WAt wx g ((t / (2 * i + 1) : Nat) : Int))
   case first =>
    refine wp_region_held_drew (S := (fun w0 => Ext wr w0)) c_4 ?_ (fun hH => ?_)
    ·exact (Ext.refl _).drew
    try simp only [sx_]
    refine tk (v := ?_) 0 rfl ?_ ?_
    rotate_left
    ·intro w0 hSw; have q0 := ((Ext.cells hSw).1 T 0 hTl).trans cT0; have q1 := ((Ext.cells hSw).1 T 1 hTl).trans cT1; go_simp; try with_reducible rfl
    try simp only [sx_]
    refine tk 1 rfl c_0 ?_
    try simp only [sx_]
    refine tk 2 rfl c_0 ?_
    try simp only [sx_]
    refine tk 3 rfl c_0 ?_
    try simp only [sx_]
    refine wpAnyH_ready (rs := [4, 6]) c_4 (by simp) ?_
    refine rd2 rfl rfl (fun K hK => ?_) fun K hK => ?_
    ·go_simp
     rw [hw1.out, hw2.out]
     (go_at_call 74; (with_reducible refine (hfi _).mono ?_); rintro e w1 ⟨y1, rfl, hf1, hx⟩)
     replace hNt := hNt.ext hx
     refine hK.out _ _ ?_ (fun hN => ?_)
     ·(try dsimp only); exact Ext.trans hH hx
     clear hK K hH
     have hH := hN
     clear hN
     try simp only [sx_]
     refine wpAnyH_ready (rs := [5, 6]) c_4 (by simp) ?_
     refine rd2 rfl rfl (fun K hK => ?_) fun K hK => ?_
     ·go_simp
      (go_at_call 72; (with_reducible refine (q_over _ _ t (2 * i + 1) _ hNt hf1 hts h2i (by omega)).mono ?_); rintro e w2 ⟨y2, rfl, hf2, hx⟩)
      replace hNt := hNt.ext hx
      replace hf1 := hf1.ext hx
      obtain ⟨ao2, cap2, rfl, hf3⟩ := hf2.open
      refine hK.out _ _ ?_ (fun hN => ?_)
      ·(try dsimp only); exact Ext.trans hH hx
      clear hK K hH
      have hH := hN
      clear hN
      try simp only [sx_]
      refine wpAnyH_ready (rs := [6]) c_4 (by simp) ?_
      refine rd1 rfl fun K hK => ?_
      have hold := hH
      obtain ⟨hbk, hge⟩ := fresh_of (W := wr) hH
      (try simp only [size_drew, World.size_alloc] at hbk hge)
      go_simp
      refine hK.out _ _ ?_ (fun hN => ?_)
      ·(try dsimp only); exact Ext.alloc hH _
      clear hK K hH
      have hH := hN
      clear hN
      try simp only [sx_]
      refine wpAnyH_ready (rs := [7]) c_4 (by simp) ?_
      refine rd1 rfl fun K hK => ?_
      have hst := WAt.lit hf3.wid
      go_simp
      refine hK.out _ _ ?_ (fun hN => ?_)
      ·(try dsimp only); exact Ext.alloc hold _
      exact T_RIN_4
     ·have hold := hH
      obtain ⟨hbk, hge⟩ := fresh_of (W := wr) hH
      (try simp only [size_drew, World.size_alloc] at hbk hge)
      replace hNt := hNt.ext ((Ext.refl _).alloc (.cells #[.bool false, .slice none 0 0] 24))
      replace hf1 := hf1.ext ((Ext.refl _).alloc (.cells #[.bool false, .slice none 0 0] 24))
      go_simp
      refine hK.out _ _ ?_ (fun hN => ?_)
      ·(try dsimp only); exact Ext.alloc hH _
      exact T_RIN_3
    ·have hold := hH
     obtain ⟨hbk, hge⟩ := fresh_of (W := wr) hH
     (try simp only [size_drew, World.size_alloc] at hbk hge)
     replace hNt := hNt.ext ((Ext.refl _).alloc (.cells #[.bool false, .slice none 0 0] 24))
     go_simp
     refine hK.out _ _ ?_ (fun hN => ?_)
     ·(try dsimp only); exact Ext.alloc hH _
     clear hK K hH
     have hH := hN
     clear hN
     try simp only [sx_]
     refine wpAnyH_ready (rs := [4]) c_4 (by simp) ?_
     refine rd1 rfl fun K hK => ?_
     go_simp
     rw [hw1.out, hw2.out]
     (go_at_call 74; (with_reducible refine (hfi _).mono ?_); rintro e w1 ⟨y1, rfl, hf1, hx⟩)
     replace hNt := hNt.ext hx
     replace hbk := hbk.ext hx
     refine hK.out _ _ ?_ (fun hN => ?_)
     ·(try dsimp only); exact Ext.trans hH hx
     exact T_RIN_3
   case rest =>
    obtain ⟨g, rfl, hE, hgW, hWg⟩ := hcut
    have hgl := hWg.lt
    obtain ⟨x, ex⟩ : ∃ x, t / (2 * i + 1) = x := ⟨_, rfl⟩
    rw [ex] at hWg hA' hxs
    obtain ⟨aoS, capS, s0, s1, hNs, hfS⟩ := hWS.out.openN
    obtain ⟨aoX, capX, x0, x1, hNx, hfX⟩ := hWg.openN
    have s0' := (hE.cells.1 _ 0 hSl).trans s0
    have s1' := (hE.cells.1 _ 1 hSl).trans s1
    have hfS' : ∀ o, wc.frozen? ⟨w.heap.size + 1, o, none⟩ = false := fun o => (hE.cells.2 _ o hSl).trans (hfS o)
    have hSl' : w.heap.size + 1 < wc.heap.size := Nat.lt_of_lt_of_le hSl hE.size
    clear s0 s1 hfS cT0 cT1 hNt hNt0 hfT hfi hw1 hw2 ex
    rcases hA' with ⟨hev, hA'⟩ | ⟨hev, hxle, hA'⟩
    ·have hevI : ((i : Int) % 2 == 0) = true := by simp; omega
     have hok2 := invF_ok hA'
     go_upto_region 10 with (go_at_call 75; (with_reducible refine (q_add _ _ s x _ (hNs.ext hE) (hNx.ext (Ext.refl _)) (okN.small hok) hxs (okN.small hok2)).mono ?_); rintro e w3 ⟨y3, rfl, hy3, hb3⟩; obtain ⟨ao3, cap3, rfl, hy4⟩ := hy3.open; obtain ⟨_, _, hc3, hf3⟩ := hb3.cells2; have hz3 := hb3.size; (try simp only [wsz] at hz3 hc3 hf3))
     have hE3 : Ext wr w3 := Ext.trans hE hb3
     have hS3 := hWS.out.ext hE3
     have hT3 := hWT0.out.ext hE3
     have hR3 := hR.out.ext hE3
     have hnS := hS3.noU
     have hWS2 := Bx2.store hS3.box hy4.wid
     obtain ⟨U, hU⟩ : ∃ U, (w3.setCell ⟨w.heap.size + 1, 0, none⟩ (.bool false)).setCell ⟨w.heap.size + 1, 1, none⟩ (.slice ao3 (dig (s + x)).length cap3) = U := ⟨_, rfl⟩
     have hGU : GB (w.heap.size + 1) w3 U := by rw [← hU]; exact ((GB.refl _ _).set _).set _
     have hWTU : WAt U T (t : Int) := hT3.grown hnS hGU (by omega)
     have hRU : Bx2 U w.heap.size := hR3.grown hGU (by omega)
     have hEU : Ext w U := GB.pre (Ext.trans hEx.out hE3) hGU (by omega)
     have hUT := hWTU.noU
     have hWT := hWTU.ext ((Ext.refl U).drew)
     rw [hU] at hWS2 ⊢
     clear hU hGU hS3 hT3 hR3 hnS hy3 hy4 hE3 hc3 hf3
     refine wp_region_held_drew (S := (fun w0 => GB T U w0)) c_4 ?_ (fun hH => ?_)
     ·exact (GB.refl _ _).drew
     try simp only [sx_]
     refine tk 1 rfl c_0 ?_
     try simp only [sx_]
     refine tk 2 rfl c_0 ?_
     try simp only [sx_]
     refine tk 3 rfl c_0 ?_
     try simp only [sx_]
     refine wpAnyH_ready (rs := [0, 4]) c_4 (by simp) ?_
     refine rd2 rfl rfl (fun K hK => ?_) fun K hK => ?_
     ·obtain ⟨ao5, cap5, cT0, cT1, hN5, hfT5⟩ := WAt.openN hWT
      go_simp
      refine hK.out _ _ ?_ (fun hN => ?_)
      ·(try dsimp only); exact hH
      clear hK K hH
      have hH := hN
      clear hN
      try simp only [sx_]
      refine wpAnyH_ready (rs := [4]) c_4 (by simp) ?_
      refine rd1 rfl fun K hK => ?_
      go_simp
      rw [hw3.out]
      (go_at_call 74; (with_reducible refine (hfn _).mono ?_); rintro e w5 ⟨y6, rfl, hn6, hx⟩)
      replace hWT := WAt.ext hWT hx
      replace hN5 := hN5.ext hx
      refine hK.out _ _ ?_ (fun hN => ?_)
      ·(try dsimp only); exact GB.trans hH (GB.ext hx)
      exact T_RIN_1
     ·go_simp
      rw [hw3.out]
      (go_at_call 74; (with_reducible refine (hfn _).mono ?_); rintro e w5 ⟨y6, rfl, hn6, hx⟩)
      replace hWT := WAt.ext hWT hx
      refine hK.out _ _ ?_ (fun hN => ?_)
      ·(try dsimp only); exact GB.trans hH (GB.ext hx)
      clear hK K hH
      have hH := hN
      clear hN
      try simp only [sx_]
      refine wpAnyH_ready (rs := [0]) c_4 (by simp) ?_
      refine rd1 rfl fun K hK => ?_
      obtain ⟨ao5, cap5, cT0, cT1, hN5, hfT5⟩ := WAt.openN hWT
      go_simp
      refine hK.out _ _ ?_ (fun hN => ?_)
      ·(try dsimp only); exact hH
      exact T_RIN_1
    ·have hevI : ((i : Int) % 2 == 0) = false := by simp; omega
     have hok2 := invF_ok hA'
     go_upto_region 10 with (go_at_call 130; (with_reducible refine (q_sub _ _ s x _ (hNs.ext hE) (hNx.ext (Ext.refl _)) (okN.small hok) hxs hxle).mono ?_); rintro e w3 ⟨y3, rfl, hy3, hb3⟩; obtain ⟨ao3, cap3, rfl, hy4⟩ := hy3.open; obtain ⟨_, _, hc3, hf3⟩ := hb3.cells2; have hz3 := hb3.size; (try simp only [wsz] at hz3 hc3 hf3))
     have hE3 : Ext wr w3 := Ext.trans hE hb3
     have hS3 := hWS.out.ext hE3
     have hT3 := hWT0.out.ext hE3
     have hR3 := hR.out.ext hE3
     have hnS := hS3.noU
     have hWS2 := Bx2.store hS3.box hy4.wid
     obtain ⟨U, hU⟩ : ∃ U, (w3.setCell ⟨w.heap.size + 1, 0, none⟩ (.bool false)).setCell ⟨w.heap.size + 1, 1, none⟩ (.slice ao3 (dig (s - x)).length cap3) = U := ⟨_, rfl⟩
     have hGU : GB (w.heap.size + 1) w3 U := by rw [← hU]; exact ((GB.refl _ _).set _).set _
     have hWTU : WAt U T (t : Int) := hT3.grown hnS hGU (by omega)
     have hRU : Bx2 U w.heap.size := hR3.grown hGU (by omega)
     have hEU : Ext w U := GB.pre (Ext.trans hEx.out hE3) hGU (by omega)
     have hUT := hWTU.noU
     have hWT := hWTU.ext ((Ext.refl U).drew)
     rw [hU] at hWS2 ⊢
     clear hU hGU hS3 hT3 hR3 hnS hy3 hy4 hE3 hc3 hf3
     refine wp_region_held_drew (S := (fun w0 => GB T U w0)) c_4 ?_ (fun hH => ?_)
     ·exact (GB.refl _ _).drew
     try simp only [sx_]
     refine tk 1 rfl c_0 ?_
     try simp only [sx_]
     refine tk 2 rfl c_0 ?_
     try simp only [sx_]
     refine tk 3 rfl c_0 ?_
     try simp only [sx_]
     refine wpAnyH_ready (rs := [0, 4]) c_4 (by simp) ?_
     refine rd2 rfl rfl (fun K hK => ?_) fun K hK => ?_
     ·obtain ⟨ao5, cap5, cT0, cT1, hN5, hfT5⟩ := WAt.openN hWT
      go_simp
      refine hK.out _ _ ?_ (fun hN => ?_)
      ·(try dsimp only); exact hH
      clear hK K hH
      have hH := hN
      clear hN
      try simp only [sx_]
      refine wpAnyH_ready (rs := [4]) c_4 (by simp) ?_
      refine rd1 rfl fun K hK => ?_
      go_simp
      rw [hw3.out]
      (go_at_call 74; (with_reducible refine (hfn _).mono ?_); rintro e w5 ⟨y6, rfl, hn6, hx⟩)
      replace hWT := WAt.ext hWT hx
      replace hN5 := hN5.ext hx
      refine hK.out _ _ ?_ (fun hN => ?_)
      ·(try dsimp only); exact GB.trans hH (GB.ext hx)
      exact T_RIN_2
     ·go_simp
      rw [hw3.out]
      (go_at_call 74; (with_reducible refine (hfn _).mono ?_); rintro e w5 ⟨y6, rfl, hn6, hx⟩)
      replace hWT := WAt.ext hWT hx
      refine hK.out _ _ ?_ (fun hN => ?_)
      ·(try dsimp only); exact GB.trans hH (GB.ext hx)
      clear hK K hH
      have hH := hN
      clear hN
      try simp only [sx_]
      refine wpAnyH_ready (rs := [0]) c_4 (by simp) ?_
      refine rd1 rfl fun K hK => ?_
      obtain ⟨ao5, cap5, cT0, cT1, hN5, hfT5⟩ := WAt.openN hWT
      go_simp
      refine hK.out _ _ ?_ (fun hN => ?_)
      ·(try dsimp only); exact hH
      exact T_RIN_2
end Go.Proofs.YtogblocakccbgaaGreat
