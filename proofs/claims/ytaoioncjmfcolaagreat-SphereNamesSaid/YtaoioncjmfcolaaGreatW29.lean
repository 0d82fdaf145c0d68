/- Fractions as rational numbers: what is reduced, and how large it is. -/
import Derived.Test.YtaoioncjmfcolaaGreatW28
set_option linter.unusedSimpArgs false
set_option linter.unusedVariables false
set_option maxRecDepth 100000
set_option maxHeartbeats 4000000
namespace Go.Proofs.YtaoioncjmfcolaaGreat
theorem T_RatF_1 {p : Prop} (h : p := by
 obtain ⟨c1, c2⟩ := cross_lt h k
 refine fb_mk (Nat.mul_pos (den_pos' x) (den_pos' y)) ?_ (Nat.lt_of_lt_of_le (mul_lt2 h.2 k.2) (Nat.pow_le_pow_right (by decide) (by omega)))
 rw [Nat.pow_succ]; omega) : p := h
theorem mk_parts (n : Int) {d : Nat} (hd : 0 < d) : (mkRat n d).num = n / (Nat.gcd n.natAbs d : Int) ∧ (mkRat n d).den = d / Nat.gcd n.natAbs d := by
 have h : d ≠ 0 := by omega
 rw [Rat.mkRat_def, dif_neg h, Rat.normalize_eq]
 exact ⟨rfl, rfl⟩
theorem add_mk (x y : Rat) : x + y = mkRat (x.num * y.den + y.num * x.den) (x.den * y.den) := by
 rw [Rat.add_def, Rat.normalize_eq_mkRat]
theorem mul_mk (x y : Rat) : x * y = mkRat (x.num * y.num) (x.den * y.den) := by
 rw [Rat.mul_def, Rat.normalize_eq_mkRat]
theorem sub_mk (x y : Rat) : x - y = mkRat (x.num * y.den - y.num * x.den) (x.den * y.den) := by
 rw [Rat.sub_def, Rat.normalize_eq_mkRat]
def Fb (x : Rat) (b : Nat) : Prop := x.num.natAbs < 2 ^ b ∧ x.den < 2 ^ b
theorem Fb.le {x : Rat} {a b : Nat} (h : Fb x a) (k : a ≤ b) : Fb x b :=
 ⟨Nat.lt_of_lt_of_le h.1 (Nat.pow_le_pow_right (by decide) k), Nat.lt_of_lt_of_le h.2 (Nat.pow_le_pow_right (by decide) k)⟩
theorem fb_mk {n : Int} {d b : Nat} (hd : 0 < d) (hn : n.natAbs < 2 ^ b) (h : d < 2 ^ b) : Fb (mkRat n d) b := by
 obtain ⟨e1, e2⟩ := mk_parts n hd
 refine ⟨?_, ?_⟩
 ·rw [e1, Int.natAbs_ediv_of_dvd (Int.natAbs_dvd_natAbs.1 (by simpa using Nat.gcd_dvd_left _ _))]
  exact Nat.lt_of_le_of_lt (Nat.div_le_self _ _) hn
 ·rw [e2]; exact Nat.lt_of_le_of_lt (Nat.div_le_self _ _) h
theorem mul_lt2 {a b i j : Nat} (h : a < 2 ^ i) (k : b < 2 ^ j) : a * b < 2 ^ (i + j) := by
 rw [Nat.pow_add]
 exact Nat.lt_of_le_of_lt (Nat.mul_le_mul_right _ (Nat.le_of_lt h)) (Nat.mul_lt_mul_of_pos_left k (Nat.two_pow_pos i))
theorem den_pos' (x : Rat) : 0 < x.den := Nat.pos_of_ne_zero x.den_nz
theorem Fb.mul {x y : Rat} {a b : Nat} (h : Fb x a) (k : Fb y b) : Fb (x * y) (a + b) := by
 rw [mul_mk]
 exact fb_mk (Nat.mul_pos (den_pos' x) (den_pos' y)) (by rw [Int.natAbs_mul]; exact mul_lt2 h.1 k.1) (mul_lt2 h.2 k.2)
theorem cross_lt {x y : Rat} {a b : Nat} (h : Fb x a) (k : Fb y b) : (x.num * (y.den : Int)).natAbs < 2 ^ (a + b) ∧ (y.num * (x.den : Int)).natAbs < 2 ^ (a + b) := by
 refine ⟨?_, ?_⟩
 ·rw [Int.natAbs_mul]; exact mul_lt2 h.1 (by simpa using k.2)
 ·rw [Int.natAbs_mul, Nat.add_comm]; exact mul_lt2 k.1 (by simpa using h.2)
theorem Fb.add {x y : Rat} {a b : Nat} (h : Fb x a) (k : Fb y b) : Fb (x + y) (a + b + 1) := by
 rw [add_mk]
 exact T_RatF_1
theorem Fb.sub {x y : Rat} {a b : Nat} (h : Fb x a) (k : Fb y b) : Fb (x - y) (a + b + 1) := by
 rw [sub_mk]
 exact T_RatF_1
/-! Chebyshev's polynomials, and Clenshaw's sum. -/
def chT (x : Rat) : Nat → Rat
 | 0 => 1
 | 1 => x
 | n + 2 => 2 * (x * chT x (n + 1)) + (-1) * chT x n
def chS (c : Nat → Int) (x : Rat) : Nat → Rat
 | 0 => 0
 | n + 1 => chS c x n + (c n : Rat) * chT x n
def clB (c : Nat → Int) (x : Rat) (n : Nat) : Nat → Rat × Rat
 | 0 => (0, 0)
 | k + 1 => (((c (n - k) : Rat) + (x + x) * (clB c x n k).1) - (clB c x n k).2, (clB c x n k).1)
/-! How large Chebyshev's polynomials are. -/
def pw3 : Nat → Rat
 | 0 => 1
 | n + 1 => 3 * pw3 n
def sm3 : Nat → Rat
 | 0 => 0
 | n + 1 => sm3 n + pw3 n
end Go.Proofs.YtaoioncjmfcolaaGreat
namespace Go.Proofs.YtaoioncjmfcolaaGreat
open Go.RowKit
theorem z_GcdS (va vb : Value) (sa : Bool) (m k : Nat) (w : World) (ha : Sm w va sa m) (hb0 : Sm w vb false k) (hs : Small m) (hs2 : Small k) (hz : m = 0 → sa = false) :
    Calls Tryz.prog 103 #[va, vb] w fun e w' => ∃ u, e = .returned (.tuple #[u, .int .i64 0]) ∧ Nn w' u (Nat.gcd m k) ∧ Ext w w' := by
 obtain ⟨u, rfl, hu⟩ := ha
 obtain ⟨s, rfl, hv⟩ := hb0
 obtain ⟨ao, b1, o1, cap1, rfl, v1, v2, v3, v4, v5, v6⟩ := hu.view
 obtain ⟨bo, b2, o2, cap2, rfl, y1, y2, y3, y4, y5, y6⟩ := hv.view
 have hlen : (dig m).length ≤ 100000 ∧ (dig k).length ≤ 100000 := by unfold Small at hs hs2; omega
 obtain ⟨W3, hW3⟩ : ∃ W3, ((w.alloc (.cells #[.bool sa, .slice ao (dig m).length cap1] 24)).alloc (.cells #[.bool false, .slice bo (dig k).length cap2] 24)).alloc (.cells #[.bool false, .slice none 0 0] 24) = W3 := ⟨_, rfl⟩
 have hWs : W3.heap.size = w.heap.size + 1 + 1 + 1 := by rw [← hW3]; simp
 have hEW : Ext w W3 := by rw [← hW3]; exact (((Ext.refl w).alloc _).alloc _).alloc _
 have hS : BX w (w.heap.size + 1 + 1) [(w.heap.size, 0, .bool sa), (w.heap.size, 1, .slice ao (dig m).length cap1), (w.heap.size + 1, 0, .bool false), (w.heap.size + 1, 1, .slice bo (dig k).length cap2)] W3 := by
  rw [← hW3]
  refine ⟨hW3 ▸ hEW, ?_, ?_, ?_, ?_, ?_, by simp⟩
  ·intro p hp
   simp only [List.mem_cons, List.mem_nil_iff, or_false] at hp
   rcases hp with rfl | rfl | rfl | rfl <;> simp [go_sem, ↓IntWalk.iteOmega]
  ·exact b_2
  ·exact b_3
  ·exact b_4
  ·have := NoU.new ((w.alloc (.cells #[.bool sa, .slice ao (dig m).length cap1] 24)).alloc (.cells #[.bool false, .slice bo (dig k).length cap2] 24)) #[.bool false, .slice none 0 0] 24 (noU2 (by simp) (by simp))
   simpa using this
 have hLn : ∀ p ∈ ([(w.heap.size, 0, .bool sa), (w.heap.size, 1, .slice ao (dig m).length cap1), (w.heap.size + 1, 0, .bool false), (w.heap.size + 1, 1, .slice bo (dig k).length cap2)] : List (Nat × Nat × Value)), p.1 ≠ w.heap.size + 1 + 1 := by
  intro p hp
  simp only [List.mem_cons, List.mem_nil_iff, or_false] at hp
  rcases hp with rfl | rfl | rfl | rfl <;> (dsimp only; omega)
 have hck := z_check_two W3 _ _ sa false m k (hu.ext hEW) (hv.ext hEW) hs hs2 hz (fun _ => rfl)
 rw [hWs] at hck
 subst hW3
 clear v1 v4 v5 y1 y4 y5 hWs hEW hz
 go_enter Tryz.func103, Tryz.ntmps103
 go_upto_region 4 with (go_at_call 77; (with_reducible refine hck.mono ?_); rintro e w1 ⟨rfl, hb⟩)
 have hS0 := hS.ext (((Ext.refl _).alloc _).trans hb)
 clear hS hck hb
 refine wp_region_held_drew (S := (fun w0 => BX w (w.heap.size + 1 + 1) [(w.heap.size, 0, .bool sa), (w.heap.size, 1, .slice ao (dig m).length cap1), (w.heap.size + 1, 0, .bool false), (w.heap.size + 1, 1, .slice bo (dig k).length cap2)] w0)) c_4 ?_ (fun hH => ?_)
 ·exact hS0.drew
 try simp only [sx_]
 refine sK 0 ?_
 refine tk 1 rfl c_0 ?_
 try simp only [sx_]
 refine sK 3 ?_
 refine tk 4 rfl c_0 ?_
 try simp only [sx_]
 refine rh1 2 rfl fun K hK => ?_
 go_simp
 (go_at_call 130; (with_reducible refine (w_Clone _ _ _ (hu.ext hH.base) hlen.1).mono ?_); rintro e t2 ⟨s2, rfl, hu4, hx2⟩)
 refine hK.out _ _ ?_ fun _ => ?_
 ·exact b_5
 clear hK K hH
 rename_i hH
 try simp only [sx_]
 refine sK 5 ?_
 refine sK 6 ?_
 refine wpAnyH_done c_4 ?_ _
 go_wp2_with fail
 have hE4 := hH
 clear hH
 go_loopw [7, 8] (fun p q wr => ∃ a c : Nat, Small a ∧ Small c ∧ Hid (Nat.gcd a c = Nat.gcd m k) ∧ Hid (Lim wr p (dig a)) ∧ Hid (Lim wr q (dig c)) ∧ Hid (BX w (w.heap.size + 1 + 1) [(w.heap.size, 0, .bool sa), (w.heap.size, 1, .slice ao (dig m).length cap1), (w.heap.size + 1, 0, .bool false), (w.heap.size + 1, 1, .slice bo (dig k).length cap2)] wr)) (fun _ q wr => lmeas wr q)
 case atStart => exact ⟨m, k, hs, hs2, rfl, hu4, hv.ext hE4.base, hE4⟩
 case round =>
  obtain ⟨a, c, a1, c1, hg, HA, HC, HB⟩ := hrel
  obtain ⟨ao4, b4, o4, cap4, rfl, p1, p2, p3, p4, p5, p6⟩ := HA.out.view
  obtain ⟨ao5, b5, o5, cap5, rfl, q1, q2, q3, q4, q5, q6⟩ := HC.out.view
  rcases Nat.eq_zero_or_pos c with h0 | h0
  ·subst h0
   have hl0 : (dig 0).length = 0 := rfl
   have hga : Hid (a = Nat.gcd m k) := by show a = _; rw [← hg.out, Nat.gcd_zero_right]
   clear p1 p4 p5 q1 q4 q5
   rw [hl0]
   have hcl := fun w2 (k2 : Ext wr w2) => w_Clone _ (dig a) w2 (HA.out.ext k2) (by unfold Small at a1; omega)
   have hla : (dig a).length ≤ 4096 := a1
   go_wp2_with (first
    | (go_at_call 130; (with_reducible refine (hcl _ (Ext.refl _)).mono ?_); rintro e w4 ⟨y14, rfl, hu5, hb5⟩; obtain ⟨ao6, b6, o6, cap6, rfl, _⟩ := hu5.view)
    | (go_at_call 76; (with_reducible refine (w_madeN _ (dig a) a _ hu5 (dig_val a) hla).mono ?_); rintro e w5 ⟨y16, rfl, hu6, hb6⟩; obtain ⟨ao7, b7, o7, cap7, rfl, _⟩ := hu6.view; have hS6 := (HB.out.ext hb5).ext hb6; obtain ⟨⟨xa, h3a⟩, ⟨xb, h3b⟩, h3f, hnu, hsl⟩ := hS6.box))
   rw [← hga.out]
   refine bodyPost_ret (v := .tuple #[.agg #[.bool false, .slice ao7 (dig a).length cap7], .int .i64 0]) ?_ rfl ⟨_, rfl, ⟨_, rfl, ?_⟩, ?_⟩
   ·simp [results, Tryz.results103, go_sem, ↓IntWalk.iteOmega, h3a, h3b]
   ·exact Lim.box (Lim.box hu6 hnu) (NoU.set hnu (fun z e => by cases e))
   ·exact ((hS6.set (by omega) hLn (fun z e => by cases e)).set (by omega) hLn (fun z e => by cases e)).base
  ·have hl1 : 0 < (dig c).length := dig_pos.2 h0
   have hdv := w_divideA _ _ (dig a) (dig c) wr HA.out HC.out (dig_nz a) (dig_nz c) (by unfold Small at a1; omega) hl1
   have hmeas : lmeas wr (.slice ao5 (dig c).length cap5) = c := HC.out.meas
   clear p1 p4 p5 q1 q4 q5
   go_wp2_with (go_at_call 83; (with_reducible refine hdv.mono ?_); rintro e w4 ⟨y14, y15, qs, rs, rfl, hq, hr, nq, nr, hval, hlt, hb5⟩)
   obtain ⟨eq, er⟩ := div_dig hq.lb hr.lb nq nr hval hlt
   rw [er] at hr
   have hrc : a % c < c := Nat.mod_lt _ h0
   have hm2 : lmeas w4 y15 = a % c := hr.meas
   go_roundw
   case rel => exact ⟨c, a % c, c1, Nat.le_trans (dig_mono (Nat.le_of_lt hrc)) c1, (by rw [Nat.gcd_comm, ← Nat.gcd_rec, Nat.gcd_comm, hg.out] : _ = _), HC.out.ext hb5, hr, HB.out.ext hb5⟩
   case measure => rw [hm2, hmeas]; exact hrc
theorem z_Gcd (va vb : Value) (n : Int) (k : Nat) (w : World) (ha : Wid w va n) (hb0 : Nn w vb k) (hs : Sz n) (hs2 : Small k) :
    Calls Tryz.prog 103 #[va, vb] w fun e w' => ∃ u, e = .returned (.tuple #[u, .int .i64 0]) ∧ Nn w' u (Nat.gcd n.natAbs k) ∧ Ext w w' := by
 obtain ⟨u, rfl, hu⟩ := ha
 obtain ⟨s, rfl, hv⟩ := hb0
 exact z_GcdS _ _ (decide (n < 0)) n.natAbs k w ⟨u, rfl, hu⟩ ⟨s, rfl, hv⟩ hs hs2 (wid_s _ rfl)
def Fq (w : World) (v : Value) (p q : Nat) : Prop := ∃ u s, v = .agg #[.bool false, u, .bool false, s] ∧ Lim w u (dig p) ∧ Lim w s (dig q)
theorem Fq.ext {a w : World} {v : Value} {p q : Nat} (h : Fq a v p q) (k : Ext a w) : Fq w v p q := by
 obtain ⟨u, s, e, hu, hs⟩ := h; exact ⟨u, s, e, hu.ext k, hs.ext k⟩
theorem small1 : Small 1 := by unfold Small; decide
def Fs (w : World) (v : Value) (sa : Bool) (p q : Nat) : Prop := ∃ u s, v = .agg #[.bool sa, u, .bool false, s] ∧ Lim w u (dig p) ∧ Lim w s (dig q)
theorem Fs.ext {a w : World} {v : Value} {sa : Bool} {p q : Nat} (h : Fs a v sa p q) (k : Ext a w) : Fs w v sa p q := by
 obtain ⟨u, s, e, hu, hs⟩ := h; exact ⟨u, s, e, hu.ext k, hs.ext k⟩
def Fr (w : World) (v : Value) (x : Rat) : Prop := Fs w v (decide (x.num < 0)) x.num.natAbs x.den
theorem Fr.ext {a w : World} {v : Value} {x : Rat} (h : Fr a v x) (k : Ext a w) : Fr w v x := Fs.ext h k
theorem Fr.num {w : World} {v : Value} {x : Rat} (h : Fr w v x) : ∃ u s, v = .agg #[.bool (decide (x.num < 0)), u, .bool false, s] ∧ Wid w (.agg #[.bool (decide (x.num < 0)), u]) x.num ∧ Nn w (.agg #[.bool false, s]) x.den := by
 obtain ⟨u, s, e, hu, hs⟩ := h
 exact ⟨u, s, e, ⟨_, rfl, hu⟩, ⟨_, rfl, hs⟩⟩
theorem fb_small {x : Rat} {b : Nat} (h : Fb x b) (hb : b ≤ 131072) : Small x.num.natAbs ∧ Small x.den := ⟨small_bits h.1 hb, small_bits h.2 hb⟩
theorem num_zero_neg {n : Int} : n.natAbs = 0 → decide (n < 0) = false := fun h => decide_eq_false (by omega)
theorem z_fCheckS (vf : Value) (sa : Bool) (p q : Nat) (w : World) (hf : Fs w vf sa p q) (hz : p = 0 → sa = false) (hs : Small p) (hs2 : Small q) (hq : 0 < q) (hg : Nat.gcd p q = 1) :
    Calls Tryz.prog 51 #[vf] w fun e w' => e = .returned (.int .i64 0) ∧ Ext w w' := by
 obtain ⟨u, s, rfl, hu, hv⟩ := hf
 obtain ⟨ao, b1, o1, cap1, rfl, -⟩ := hu.view
 obtain ⟨bo, b2, o2, cap2, rfl, -⟩ := hv.view
 have hS1 := small1
 have hq0 : decide (q = 0) = false := decide_eq_false (by omega)
 have hgc := z_GcdS (.agg #[.bool sa, .slice ao (dig p).length cap1]) (.agg #[.bool false, .slice bo (dig q).length cap2]) sa p q (w.alloc (.cells #[.bool sa, .slice ao (dig p).length cap1, .bool false, .slice bo (dig q).length cap2] 26)) ⟨_, rfl, hu.ext ((Ext.refl w).alloc _)⟩ ⟨_, rfl, hv.ext ((Ext.refl w).alloc _)⟩ hs hs2 hz
 rw [hg] at hgc
 go_enter Tryz.func51, Tryz.ntmps51
 go_upto_region 2 with (go_at_call 103; (with_reducible refine hgc.mono ?_); rintro e w1 ⟨y1, rfl, ⟨y2, rfl, hgu⟩, hb⟩; obtain ⟨ao3, b3, o3, cap3, rfl, -⟩ := hgu.view)
 refine wp_name fun W hW => ?_
 have hWE : Ext w W := Ext.same hW ((((Ext.refl w).alloc _).trans hb).alloc _)
 have hE0 : Ext (w.alloc (.cells #[.bool sa, .slice ao (dig p).length cap1, .bool false, .slice bo (dig q).length cap2] 26)) W := Ext.same hW (hb.alloc _)
 have hB : w.heap.size < W.heap.size := by have := hE0.size; simp only [World.size_alloc] at this; omega
 have hG : w1.heap.size < W.heap.size := by rw [hW.cells.2.2]; simp
 have k2 : W.cell? ⟨w.heap.size, 2, none⟩ = some (.bool false) := (hE0.cells.1 _ 2 (by simp)).trans (by simp [go_sem])
 have k3 : W.cell? ⟨w.heap.size, 3, none⟩ = some (.slice bo (dig q).length cap2) := (hE0.cells.1 _ 3 (by simp)).trans (by simp [go_sem])
 have l0 : W.cell? ⟨w1.heap.size, 0, none⟩ = some (.bool false) := by rw [hW.cells.1]; simp [go_sem]
 have l1 : W.cell? ⟨w1.heap.size, 1, none⟩ = some (.slice ao3 (dig 1).length cap3) := by rw [hW.cells.1]; simp [go_sem]
 have nQ : Nn W (.agg #[.bool false, .slice bo (dig q).length cap2]) q := ⟨_, rfl, hv.ext hWE⟩
 have nG : Nn W (.agg #[.bool false, .slice ao3 (dig 1).length cap3]) 1 := ⟨_, rfl, hgu.ext (Ext.same hW ((Ext.refl w1).alloc _))⟩
 clear hW hb hgc
 refine wp_region_held_drew (S := (fun w0 => Ext W w0)) c_4 ?_ (fun hH => ?_)
 ·exact (Ext.refl W).drew
 try simp only [sx_]
 refine sK 0 ?_
 refine sK 1 ?_
 refine sK 2 ?_
 refine sK 3 ?_
 refine sK 4 ?_
 refine tk 5 rfl c_16 ?_
 try simp only [sx_]
 refine sK 6 ?_
 refine sK 7 ?_
 refine sK 8 ?_
 refine tk 9 rfl c_16 ?_
 try simp only [sx_]
 refine rh1 10 rfl fun K hK => ?_
 go_simp
 (go_at_call 104; (with_reducible refine (w_zero _ q _ (nQ.ext hH)).mono ?_); rintro e t0 ⟨rfl, hx0⟩; rw [hq0])
 refine hK.out _ _ ?_ fun _ => ?_
 ·(try dsimp only); exact hH.trans hx0
 clear hK K hH
 rename_i hH
 try simp only [sx_]
 refine sK 11 ?_
 refine sK 12 ?_
 refine tk 13 rfl c_16 ?_
 try simp only [sx_]
 refine rh1 14 rfl fun K hK => ?_
 go_simp
 (go_at_call 106; (with_reducible refine (w_one _).mono ?_); rintro e t1 ⟨v1, rfl, hn1, hx1⟩; have hn1b := hn1; obtain ⟨v2, rfl, hv2⟩ := hn1b; obtain ⟨ao4, b4, o4, cap4, rfl, -⟩ := hv2.view)
 refine hK.out _ _ ?_ fun _ => ?_
 ·(try dsimp only); exact hH.trans hx1
 clear hK K hH
 rename_i hH
 try simp only [sx_]
 refine rh1 15 rfl fun K hK => ?_
 go_simp
 (go_at_call 105; (with_reducible refine (w_same _ _ 1 1 _ (nG.ext hH) hn1 hS1 hS1).mono ?_); rintro e t2 ⟨rfl, hx2⟩)
 refine hK.out _ _ ?_ fun _ => ?_
 ·(try dsimp only); exact hH.trans hx2
 clear hK K hH
 rename_i hH
 try simp only [sx_]
 refine sK 16 ?_
 refine sK 17 ?_
 refine wpAnyH_done c_4 ?_ _
 go_wp2_with fail
 go_ret
 exact ⟨rfl, hWE.trans hH⟩
theorem z_fCheck (vf : Value) (x : Rat) (b : Nat) (w : World) (hf : Fr w vf x) (hx : Fb x b) (hb : b ≤ 131072) :
    Calls Tryz.prog 51 #[vf] w fun e w' => e = .returned (.int .i64 0) ∧ Ext w w' :=
  z_fCheckS vf _ _ _ w hf num_zero_neg (fb_small hx hb).1 (fb_small hx hb).2 (den_pos' x) x.reduced
theorem ofF_is (q : Nat) (hq : 0 < q) : ∀ k r L, r < q → ofF q k r L = ((r * 2 ^ k) % q, L + (r * 2 ^ k) / q)
 | 0, r, L, h => by simp only [ofF, Nat.pow_zero, Nat.mul_one]; rw [Nat.mod_eq_of_lt h, Nat.div_eq_of_lt h]; rfl
 | k + 1, r, L, h => by
  simp only [ofF]
  have e : r * 2 ^ (k + 1) = (r + r) * 2 ^ k := by rw [Nat.pow_succ, Nat.add_mul, ← Nat.two_mul, Nat.mul_comm 2, Nat.mul_assoc]
  split
  ·rename_i h1
   rw [ofF_is q hq k (r + r) L (by omega), e]
  ·rename_i h1
   rw [ofF_is q hq k (r - (q - r)) (L + 2 ^ k) (by omega), e]
   have e2 : (r + r) * 2 ^ k = (r - (q - r)) * 2 ^ k + q * 2 ^ k := by rw [← Nat.add_mul]; congr 1; omega
   rw [e2, Nat.add_mul_mod_self_left, Nat.add_mul_div_left _ _ hq, Nat.add_assoc, Nat.add_comm (2 ^ k)]
def ofLo (x : Rat) : Int := (x.num * 1099511627776) / (x.den : Int)
def ofHi (x : Rat) : Int := if (x.num * 1099511627776) % (x.den : Int) = 0 then ofLo x else ofLo x + 1
theorem of_split (x : Rat) : ofLo x = x.num / (x.den : Int) * 1099511627776 + (((x.num % (x.den : Int)).toNat * 2 ^ 40 / x.den : Nat) : Int) ∧ (x.num * 1099511627776) % (x.den : Int) = (((x.num % (x.den : Int)).toNat * 2 ^ 40 % x.den : Nat) : Int) := by
 have hd : (0 : Int) < x.den := by have := den_pos' x; omega
 unfold ofLo
 have h1 := Int.emod_nonneg x.num (show (x.den : Int) ≠ 0 by omega)
 have h3 := Int.mul_ediv_add_emod x.num x.den
 obtain ⟨r, hr⟩ : ∃ r : Nat, x.num % (x.den : Int) = r := ⟨(x.num % (x.den : Int)).toNat, by omega⟩
 rw [hr] at h3 ⊢
 rw [Int.toNat_natCast]
 obtain ⟨q, hq⟩ : ∃ q, x.num / (x.den : Int) = q := ⟨_, rfl⟩
 rw [hq] at h3 ⊢
 have e : x.num * 1099511627776 = ((r * 2 ^ 40 : Nat) : Int) + x.den * (q * 1099511627776) := by
  rw [← h3, Int.add_mul, Int.add_comm, Int.mul_assoc]
  congr 1
 have c40 : ((r * 2 ^ 40 : Nat) : Int) = (r : Int) * 1099511627776 := by rw [Int.natCast_mul]; rfl
 refine ⟨?_, ?_⟩
 ·rw [e, Int.add_mul_ediv_left _ _ (by omega), Int.add_comm]; rfl
 ·rw [e, Int.add_mul_emod_self_left]; rfl
theorem z_SOf (vf : Value) (x : Rat) (b : Nat) (w : World) (hf : Fr w vf x) (hx : Fb x b) (hb : b ≤ 131000) (hn1 : -2097152 ≤ x.num / (x.den : Int)) (hn2 : x.num / (x.den : Int) ≤ 2097151) :
    Calls Tryz.prog 46 #[vf] w fun e w' => e = .returned (.tuple #[.agg #[.int .i64 (ofLo x), .int .i64 (ofHi x)], .int .i64 0]) ∧ Ext w w' := by
  obtain ⟨sP, sD⟩ := fb_small hx (by omega)
  have hck := fun w1 (k1 : Ext w w1) => z_fCheck vf x b w1 (hf.ext k1) hx (by omega)
  obtain ⟨u, s, rfl, hu0, hs0⟩ := hf.num
  obtain ⟨u', s', e0, hu, hs⟩ := hf
  simp only [Value.agg.injEq, Array.mk.injEq, List.cons.injEq, and_true, true_and] at e0
  obtain ⟨rfl, rfl⟩ := e0
  obtain ⟨ao, b1, o1, cap1, rfl, -⟩ := hu.view
  obtain ⟨bo, b2, o2, cap2, rfl, -⟩ := hs.view
  have hD0 := den_pos' x
  have sDD : Small (x.den + x.den) := small_bits (k := b + 1) (by have := hx.2; rw [Nat.pow_succ]; omega) (by omega)
  have hdm := fun w1 (k1 : Ext w w1) => z_DivMod _ _ x.num x.den w1 (hu0.ext k1) (hs0.ext k1) sP hD0 sD
  have hnD0 : ∀ w1, Ext w w1 → Nn w1 (.agg #[.bool false, .slice bo (dig x.den).length cap2]) x.den := fun w1 k1 => ⟨_, rfl, hs.ext k1⟩
  obtain ⟨h3, h4⟩ := of_split x
  unfold ofHi
  rw [h4, h3]
  clear h3 h4
  have hr0 : (x.num % (x.den : Int)).toNat < x.den := by have := Int.emod_lt_of_pos x.num (show (0 : Int) < x.den by omega); omega
  have hA0 := ofF_is x.den hD0 40 (x.num % (x.den : Int)).toNat 0 hr0
  rw [Nat.zero_add] at hA0
  generalize (x.num % (x.den : Int)).toNat = r0 at *
  generalize x.num / (x.den : Int) = n at *
  have hq1 : r0 * 2 ^ 40 / x.den < 1099511627776 := Nat.div_lt_of_lt_mul (by have : x.den * 1099511627776 = x.den * 2 ^ 40 := rfl
                                                                             rw [this]; exact Nat.mul_lt_mul_of_pos_right hr0 (by decide))
  generalize r0 * 2 ^ 40 % x.den = r1 at *
  generalize r0 * 2 ^ 40 / x.den = L1 at *
  generalize hsa : decide (x.num < 0) = sa at *
  generalize x.num.natAbs = p at *
  generalize x.den = D at *
  clear hx sP hu hu0 hs0 hsa
  obtain ⟨N40, hN⟩ : ∃ N40, n * 1099511627776 = N40 := ⟨_, rfl⟩
  have hin := fun v w1 (h : Wid w1 v n) => z_Int v n w1 h (by omega) (by omega)
  have hNb : -2305843009213693952 ≤ N40 ∧ N40 ≤ 2305841909702066176 := by omega
  obtain ⟨HI, hHI⟩ : ∃ HI, (if ((r1 : Nat) : Int) = 0 then N40 + (L1 : Int) else N40 + (L1 : Int) + 1) = HI := ⟨_, rfl⟩
  rw [hN, hHI]
  have hHb : HI = N40 + (L1 : Int) ∨ HI = N40 + (L1 : Int) + 1 := by rw [← hHI]; split <;> simp
  have hmd : ∀ w1, Calls Tryz.prog 92 #[.int .i64 (N40 + (L1 : Int)), .int .i64 HI] w1 fun e w' => e = .returned (.tuple #[.agg #[.int .i64 (N40 + (L1 : Int)), .int .i64 HI], .int .i64 0]) ∧ Ext w1 w' := fun w1 => by
    have := span_made (N40 + (L1 : Int)) HI w1
    have e : madeI (N40 + (L1 : Int)) HI = ⟨N40 + (L1 : Int), HI, 0⟩ := by unfold madeI; rw [if_neg (by omega)]
    rw [e] at this; exact this
  replace hNb : Hid (-2305843009213693952 ≤ N40 ∧ N40 ≤ 2305841909702066176) := hNb
  replace hHb : Hid _ := hHb
  replace hHI : Hid _ := hHI
  replace hN : Hid (n * 1099511627776 = N40) := hN
  have hnD : Hid _ := hnD0
  clear hnD0
  go_enter Tryz.func46, Tryz.ntmps46
  go_upto_region 8 with (first
    | (go_at_call 51; (with_reducible refine (hck _ ex_).mono ?_); rintro e w1 ⟨rfl, hb1⟩; obtain ⟨_, _, ⟨hc1, hf1⟩, hz1⟩ := hb1.c3; (try simp only [wsz] at hz1 hc1 hf1); clear hck)
    | (go_at_call 98; (with_reducible refine (hdm _ ex_).mono ?_); rintro e w2 ⟨y1, y2, rfl, hy1, hy2, hb2⟩; obtain ⟨y9, rfl, hy3⟩ := hy1; obtain ⟨ao3, _, _, cap3, rfl, -⟩ := hy3.view; have hy1 : Wid w2 _ n := ⟨_, rfl, hy3⟩; obtain ⟨ao4, cap4, rfl, hy4⟩ := hy2.open; obtain ⟨_, _, ⟨hc2, hf2⟩, hz2⟩ := hb2.c3; (try simp only [wsz] at hz2 hc2 hf2); clear hdm)
    | (go_at_call 99; (with_reducible refine (hin _ _ (hy1.ext ex_)).mono ?_); rintro e w3 ⟨rfl, hb3⟩; obtain ⟨_, _, ⟨hc3, hf3⟩, hz3⟩ := hb3.c3; (try simp only [wsz] at hz3 hc3 hf3); clear hin))
  go_upto_region 10 with fail
  have hWT0 : WAt w3 (w2.heap.size + 1) (r0 : Int) := by
    have h := (WAt.lit (w := w2.alloc (.cells #[.bool (decide (n < 0)), .slice ao3 (dig n.natAbs).length cap3] 24)) (hy4.wid.ext ((Ext.refl w2).alloc (.cells #[.bool (decide (n < 0)), .slice ao3 (dig n.natAbs).length cap3] 24)))).ext hb3
    simpa using h
  have hE2 : Ext ((w.alloc (.cells #[.bool sa, .slice ao (dig p).length cap1, .bool false, .slice bo (dig D).length cap2] 26)).alloc (.cells #[.int .i64 0, .int .i64 0] 30)) w2 := ex_
  have hE0 : Ext ((w.alloc (.cells #[.bool sa, .slice ao (dig p).length cap1, .bool false, .slice bo (dig D).length cap2] 26)).alloc (.cells #[.int .i64 0, .int .i64 0] 30)) w3 := Ext.trans hE2 (Ext.trans (((Ext.refl w2).alloc _).alloc _) hb3)
  have f2 : w3.cell? ⟨w.heap.size, 2, none⟩ = some (.bool false) := (hE0.cells.1 _ 2 c_13).trans c_6
  have f3 : w3.cell? ⟨w.heap.size, 3, none⟩ = some (.slice bo (dig D).length cap2) := (hE0.cells.1 _ 3 c_13).trans c_6
  have e0 : w3.cell? ⟨w.heap.size + 1, 0, none⟩ = some (.int .i64 0) := (hE0.cells.1 _ 0 (by simp)).trans c_6
  have e1 : w3.cell? ⟨w.heap.size + 1, 1, none⟩ = some (.int .i64 0) := (hE0.cells.1 _ 1 (by simp)).trans c_6
  have e2 : ∀ o, w3.frozen? ⟨w.heap.size + 1, o, none⟩ = false := fun o => (hE0.cells.2 _ o (by simp)).trans c_6
  have hEw : Ext w w3 := Ext.trans (((Ext.refl w).alloc _).alloc _) hE0
  have hs2 := hE2.size
  have hs3 := hb3.size
  simp only [World.size_alloc] at hs2 hs3
  have hnT := hWT0.noU
  obtain ⟨T, hT⟩ : ∃ T, w2.heap.size + 1 = T := ⟨_, rfl⟩
  rw [hT] at hWT0 hnT ⊢
  have hTw : w.heap.size + 1 < T := by omega
  have hT3 : T < w3.heap.size := by omega
  have hsh : IntKind.i64.wrap (n * 1099511627776) = N40 := by
    have h9 := hNb.out
    rw [hN.out, IntKind.wrap_i64]; omega
  clear hE2 hE0 hT hs2 hs3 hy1 hy3 hy4 hb1 hb2 hb3 hc1 hc2 hc3 hf1 hf2 hf3 hz1 hz2 hz3
  go_loopw [10, 11] (fun a b wr => ∃ k r L : Nat, a = .int .i64 (N40 + (L : Int)) ∧ b = .int .i64 ((k : Int) - 1) ∧ Hid (ofF D k r L = (r1, L1)) ∧ r < D ∧ Hid (k ≤ 40 ∧ L + 2 ^ k ≤ 1099511627776) ∧ Hid (WAt wr T (r : Int)) ∧ Hid (GB T w3 wr)) (fun _ b _ => (intOf b + 1).toNat)
  case atStart => exact ⟨40, r0, 0, by rw [hN.out]; simp, rfl, hA0, hr0, ⟨by omega, by omega⟩, hWT0, GB.refl _ _⟩
  case round =>
    obtain ⟨k', r, L, rfl, rfl, hA, hrD, hlo, hWT, hG⟩ := hrel
    clear hWT0 hA0 hr0
    obtain ⟨hk40, hlo⟩ := hlo.out
    have hGs := hG.out.size
    have g0 := (hG.out.cell (o := 0) (show w.heap.size + 1 < w3.heap.size by omega) (by omega)).trans e0
    have g1 := (hG.out.cell (o := 1) (show w.heap.size + 1 < w3.heap.size by omega) (by omega)).trans e1
    have g2 : ∀ o, wr.frozen? ⟨w.heap.size + 1, o, none⟩ = false := fun o => (hG.out.frozen (o := o) (show w.heap.size + 1 < w3.heap.size by omega) (by omega)).trans (e2 o)
    have g3 := (hG.out.cell (o := 2) (show w.heap.size < w3.heap.size by omega) (by omega)).trans f2
    have g4 := (hG.out.cell (o := 3) (show w.heap.size < w3.heap.size by omega) (by omega)).trans f3
    have hND : Nn wr (.agg #[.bool false, .slice bo (dig D).length cap2]) D := by
      obtain ⟨u, e, hu⟩ := hnD.out w3 hEw
      exact ⟨u, e, hu.grown hnT hG.out⟩
    obtain ⟨aoR, capR, t0, t1, hNr, hfR⟩ := hWT.out.openN
    have hTl := hWT.out.lt
    have sr : Small r := Small.le sD (by omega)
    match k', hA, hk40, hlo with
    | 0, hA, _, _ =>
      have hA' := hA.out
      simp only [ofF, Prod.mk.injEq] at hA'
      obtain ⟨ea, eb⟩ := hA'
      subst ea
      subst eb
      have hEr : Ext w wr := GB.pre hEw hG.out (by omega)
      have hlen : (dig r).length = 0 ∨ 0 < (dig r).length := by omega
      have hHIo := hHI.out
      have hNbo := hNb.out
      rcases hlen with h0 | h0
      · have hr00 : r = 0 := by rcases Nat.eq_zero_or_pos r with e | e
                                · exact e
                                · have := dig_pos.2 e; omega
        subst hr00
        rw [if_pos (show ((0 : Nat) : Int) = 0 from rfl)] at hHIo
        subst hHIo
        go_wp2_with (go_at_call 92; (with_reducible refine (hmd _).mono ?_); rintro e w9 ⟨rfl, hb9⟩; obtain ⟨_, _, ⟨hc9, hf9⟩, hz9⟩ := hb9.c3; (try simp only [wsz] at hz9 hc9 hf9))
        refine bodyPost_ret (v := .tuple #[.agg #[.int .i64 (N40 + (L : Int)), .int .i64 (N40 + (L : Int))], .int .i64 0]) ?_ rfl ⟨rfl, ?_⟩
        · simp [results, Tryz.results46, go_sem, ↓IntWalk.iteOmega, *]
        · exact Ext.setCell (Ext.setCell (Ext.trans hEr hb9) (Nat.le_succ _) _) (Nat.le_succ _) _
      · have hr1 : ¬ ((r : Nat) : Int) = 0 := by have := dig_pos.1 h0; omega
        rw [if_neg hr1] at hHIo
        subst hHIo
        have hr1I : decide ((0 : Int) < ((dig r).length : Int)) = true := decide_eq_true (by omega)
        have hr1N : decide (0 < (dig r).length) = true := decide_eq_true h0
        have hw1 : IntKind.i64.wrap (N40 + (L : Int) + 1) = N40 + (L : Int) + 1 := by rw [IntKind.wrap_i64]; omega
        go_wp2_with (go_at_call 92; (with_reducible refine (hmd _).mono ?_); rintro e w9 ⟨rfl, hb9⟩; obtain ⟨_, _, ⟨hc9, hf9⟩, hz9⟩ := hb9.c3; (try simp only [wsz] at hz9 hc9 hf9))
        refine bodyPost_ret (v := .tuple #[.agg #[.int .i64 (N40 + (L : Int)), .int .i64 (N40 + (L : Int) + 1)], .int .i64 0]) ?_ rfl ⟨rfl, ?_⟩
        · simp [results, Tryz.results46, go_sem, ↓IntWalk.iteOmega, *]
        · exact Ext.setCell (Ext.setCell (Ext.trans hEr hb9) (Nat.le_succ _) _) (Nat.le_succ _) _
    | k + 1, hA, hk40, hlo =>
      have hA' := hA.out
      have hkk : (((k + 1 : Nat) : Int) - 1) = (k : Int) := by omega
      rw [hkk]
      have h2s : 2 ^ (k + 1) = 2 * 2 ^ k := by rw [Nat.pow_succ]; omega
      have sl : Small (D - r) := Small.le sD (by omega)
      have hNbo := hNb.out
      have hsl : ∀ w1, Ext wr w1 → Calls Tryz.prog 100 #[.agg #[.bool false, .slice bo (dig D).length cap2], .agg #[.bool false, .slice aoR (dig r).length capR]] w1 fun e w' => ∃ u, e = .returned (.tuple #[u, .int .i64 0]) ∧ Nn w' u (D - r) ∧ Ext w1 w' := fun w1 k1 => by
        refine (z_Sub _ _ D r w1 (hND.ext k1).wid (hNr.ext k1).wid (by unfold Sz; rw [Int.natAbs_natCast]; exact sD) (by unfold Sz; rw [Int.natAbs_natCast]; exact sr) (by unfold Sz; exact Small.le sD (by omega))).mono ?_
        rintro e w2 ⟨u, rfl, h2, h3⟩
        exact ⟨u, rfl, h2.natE (by omega), h3⟩
      unfold ofF at hA'
      by_cases hless : r < D - r
      · rw [if_pos hless] at hA'
        have hkI : (k : Int) ≤ 39 := by omega
        have hcp : ∀ va w1, Nn w1 va (D - r) → Ext wr w1 → Calls Tryz.prog 52 #[.agg #[.bool false, .slice aoR (dig r).length capR], va] w1 fun e w' => e = .returned (.tuple #[.int .i64 (-1), .int .i64 0]) ∧ Ext w1 w' := fun va w1 h k1 => by
          have := w_Cmp _ va r (D - r) w1 (hNr.ext k1) h sr sl
          rw [cmp_lt (show (r : Int) < ((D - r : Nat) : Int) by omega)] at this
          exact this
        have s2 : Small (r + r) := Small.le sDD (by omega)
        go_wp2_with (first
          | (go_at_call 100; (with_reducible refine (hsl _ (Ext.refl _)).mono ?_); rintro e w7 ⟨y1, rfl, hy2, hb7⟩; obtain ⟨ao1, capl, rfl, hy3⟩ := hy2.open; obtain ⟨_, _, ⟨hc7, hf7⟩, hz7⟩ := hb7.c3; (try simp only [wsz] at hz7 hc7 hf7); clear hsl)
          | (go_at_call 52; (with_reducible refine (hcp _ _ (hy3.ext ex_) ex_).mono ?_); rintro e w8 ⟨rfl, hb8⟩; obtain ⟨_, _, ⟨hc8, hf8⟩, hz8⟩ := hb8.c3; (try simp only [wsz] at hz8 hc8 hf8); clear hcp)
          | (go_at_call 35; (with_reducible refine (w_Add _ _ r r _ (hNr.ext ex_) (hNr.ext ex_) sr sr s2).mono ?_); rintro e w9 ⟨y5, rfl, hy5, hb9⟩; obtain ⟨ao9, cap9, rfl, hy6⟩ := hy5.open; obtain ⟨_, _, ⟨hc9, hf9⟩, hz9⟩ := hb9.c3; (try simp only [wsz] at hz9 hc9 hf9)))
        have hE3 : Ext wr w9 := ex_
        have hT3' := hWT.out.ext hE3
        have hst := Bx2.store hT3'.box hy6.wid
        have hG3 : Hid (GB T w3 ((w9.setCell ⟨T, 0, none⟩ (.bool false)).setCell ⟨T, 1, none⟩ (.slice ao9 (dig (r + r)).length cap9))) := ((hG.out.trans (GB.ext hE3)).set _).set _
        replace hst : Hid _ := hst
        replace hA' : Hid _ := hA'
        go_roundw
        case rel => exact ⟨k, (r + r), L, rfl, by go_num, hA', by omega, ⟨by omega, by omega⟩, hst, hG3⟩
        case measure => simp [intOf] <;> omega
      · rw [if_neg hless] at hA'
        have hkI : (k : Int) ≤ 39 := by omega
        obtain ⟨C, hC⟩ : ∃ C, cmpI (r : Int) ((D - r : Nat) : Int) = C := ⟨_, rfl⟩
        have hC0 : decide (C < 0) = false := by
          rw [← hC]; unfold cmpI; rw [if_neg (by omega)]; split <;> rfl
        have hcp : ∀ va w1, Nn w1 va (D - r) → Ext wr w1 → Calls Tryz.prog 52 #[.agg #[.bool false, .slice aoR (dig r).length capR], va] w1 fun e w' => e = .returned (.tuple #[.int .i64 C, .int .i64 0]) ∧ Ext w1 w' := fun va w1 h k1 => by
          have := w_Cmp _ va r (D - r) w1 (hNr.ext k1) h sr sl
          rw [hC] at this
          exact this
        clear hC
        have hs2 : ∀ va w1, Nn w1 va (D - r) → Ext wr w1 → Calls Tryz.prog 100 #[.agg #[.bool false, .slice aoR (dig r).length capR], va] w1 fun e w' => ∃ u, e = .returned (.tuple #[u, .int .i64 0]) ∧ Nn w' u (r - (D - r)) ∧ Ext w1 w' := fun va w1 h k1 => by
          refine (z_Sub _ va r (D - r : Nat) w1 (hNr.ext k1).wid h.wid (by unfold Sz; rw [Int.natAbs_natCast]; exact sr) (by unfold Sz; rw [Int.natAbs_natCast]; exact sl) (by unfold Sz; exact Small.le sr (by omega))).mono ?_
          rintro e w2 ⟨u, rfl, h2, h3⟩
          exact ⟨u, rfl, h2.natE (by omega), h3⟩
        have h2k : (2 : Int) ^ k ≤ 549755813888 := two_pow_le (t := 39) (by omega)
        have h2k0 : (0 : Int) < 2 ^ k := Int.pow_pos (by decide)
        have h2c : ((2 ^ k : Nat) : Int) = 2 ^ k := by rw [Int.natCast_pow]; rfl
        have hLN : (L : Int) + 2 ^ k ≤ 1099511627776 := by omega
        have hB1 : -2305843009213693952 ≤ N40 + L ∧ N40 + L + 2 ^ k ≤ 2305843009213693952 := by omega
        go_wp2_with (first
          | (go_at_call 100; (with_reducible refine (hsl _ (Ext.refl _)).mono ?_); rintro e w7 ⟨y1, rfl, hy2, hb7⟩; obtain ⟨ao1, capl, rfl, hy3⟩ := hy2.open; obtain ⟨_, _, ⟨hc7, hf7⟩, hz7⟩ := hb7.c3; (try simp only [wsz] at hz7 hc7 hf7); clear hsl)
          | (go_at_call 52; (with_reducible refine (hcp _ _ (hy3.ext ex_) ex_).mono ?_); rintro e w8 ⟨rfl, hb8⟩; obtain ⟨_, _, ⟨hc8, hf8⟩, hz8⟩ := hb8.c3; (try simp only [wsz] at hz8 hc8 hf8); clear hcp)
          | (go_at_call 100; (with_reducible refine (hs2 _ _ (hy3.ext ex_) ex_).mono ?_); rintro e w9 ⟨y5, rfl, hy5, hb9⟩; obtain ⟨ao9, cap9, rfl, hy6⟩ := hy5.open; obtain ⟨_, _, ⟨hc9, hf9⟩, hz9⟩ := hb9.c3; (try simp only [wsz] at hz9 hc9 hf9)))
        have hE3 : Ext wr w9 := ex_
        have hT3' := hWT.out.ext hE3
        have hst := Bx2.store hT3'.box hy6.wid
        have hG3 : Hid (GB T w3 ((w9.setCell ⟨T, 0, none⟩ (.bool false)).setCell ⟨T, 1, none⟩ (.slice ao9 (dig (r - (D - r))).length cap9))) := ((hG.out.trans (GB.ext hE3)).set _).set _
        replace hst : Hid _ := hst
        replace hA' : Hid _ := hA'
        go_roundw
        case rel => exact ⟨k, (r - (D - r)), (L + 2 ^ k), (by rw [Int.natCast_add, Int.natCast_pow, Int.add_assoc]; rfl), by go_num, hA', by omega, ⟨by omega, by omega⟩, hst, hG3⟩
        case measure => simp [intOf] <;> omega
end Go.Proofs.YtaoioncjmfcolaaGreat
