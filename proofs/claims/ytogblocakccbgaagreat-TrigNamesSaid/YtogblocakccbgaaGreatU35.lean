/- The reference: From of signed numbers. -/
import Derived.Test.YtogblocakccbgaaGreatU34
set_option linter.unusedSimpArgs false
set_option linter.unusedVariables false
set_option maxRecDepth 100000
set_option maxHeartbeats 4000000
namespace Go.Proofs.YtogblocakccbgaaGreat
open Go.RowKit
theorem r_FromN (n : Nat) (w : World) (h0 : 0 < n) (hn : n ≤ 9223372036854775808) :
    Calls Tryz.prog 23 #[.int .i64 (-(n : Int))] w fun e w' => ∃ u, e = .returned u ∧ Wid w' u (-(n : Int)) ∧ Ext w w' := by
 have hL := lim_two (w.alloc (.cells #[.bool false, .slice none 0 0] 24)) ((n : Int) % 4294967296) ((n : Int) / 4294967296) c_19 c_19
 rw [World.size_alloc] at hL
 have hv : val [(n : Int) % 4294967296, (n : Int) / 4294967296] = n := by simp only [val]; unfold BB; omega
 have hl : (dig n).length ≤ 4096 := dig_bits (k := 64) (L := 4096) (by omega) (by decide)
 have hd : decide (-(n : Int) < 0) = true := decide_eq_true (by omega)
 have hwu : IntKind.u64.wrap (-(IntKind.u64.wrap (-(n : Int)))) = n := by rw [IntKind.wrap_u64, IntKind.wrap_u64]; omega
 have hw2 : (n : Int) / 4294967296 % 4294967296 = (n : Int) / 4294967296 := by omega
 have hlen := dig_pos.2 h0
 have hmd := (r_madeS true _ _ n _ hL hv hl).mono (R' := fun e w' => ∃ u, e = .returned (.tuple #[.agg #[.bool true, u], .int .i64 0]) ∧ Lim w' u (dig n) ∧ Ext ((w.alloc (.cells #[.bool false, .slice none 0 0] 24)).alloc (.cells #[.int .u32 ((n : Int) % 4294967296), .int .u32 ((n : Int) / 4294967296)] 25)) w') (by
  rintro e w1 ⟨s, bo, rfl, hs, hbo, hb⟩
  rw [decide_eq_true hlen] at hbo
  subst hbo
  exact ⟨s, rfl, hs, hb⟩)
 clear hL hv hl
 go_enter Tryz.func23, Tryz.ntmps23
 go_wp2_with (go_at_call 59; (with_reducible refine hmd.mono ?_); rintro e w1 ⟨s, rfl, hs, hb⟩; obtain ⟨ao, b1, o1, cap1, rfl, -⟩ := hs.view; obtain ⟨_, _, ⟨hc, hf⟩, hz⟩ := hb.c3; (try simp only [wsz] at hz hc hf))
 clear hwu hw2 hmd
 have hB : NoU w1 w.heap.size := ((NoU.new w _ _ (noU2 (by simp) (by simp))).alloc (by simp) _ _).ext c_6 hb
 refine bodyPost_ret (v := .agg #[.bool true, .slice ao (dig n).length cap1]) ?_ rfl ⟨_, rfl, ⟨_, by rw [hd], ?_⟩, ?_⟩
 ·simp [results, Tryz.results23, go_sem, ↓IntWalk.iteOmega, *]
 ·rw [Int.natAbs_neg, Int.natAbs_natCast]
  have hB3 := hB.alloc (c := #[.bool true, .slice ao (dig n).length cap1]) (t := 24) (by omega)
  exact Lim.box (Lim.box (hs.alloc _) hB3) (NoU.set hB3 (fun z e => by cases e))
 ·exact b_0
theorem r_FromZ (n : Int) (w : World) (h0 : -9223372036854775808 ≤ n) (h1 : n ≤ 9223372036854775807) :
    Calls Tryz.prog 23 #[.int .i64 n] w fun e w' => ∃ u, e = .returned u ∧ Wid w' u n ∧ Ext w w' := by
 by_cases h : n < 0
 ·obtain ⟨m, hm⟩ : ∃ m : Nat, n = -(m : Int) := ⟨n.natAbs, by omega⟩
  subst hm
  exact r_FromN m w (by omega) (by omega)
 ·obtain ⟨m, hm⟩ : ∃ m : Nat, n = (m : Int) := ⟨n.natAbs, by omega⟩
  subst hm
  refine (r_From m w (by omega)).mono ?_
  rintro e w' ⟨u, rfl, hu, hb⟩
  exact ⟨u, rfl, hu.wid, hb⟩
end Go.Proofs.YtogblocakccbgaaGreat
namespace Go.Proofs.YtogblocakccbgaaGreat
theorem T_RatF_1 {p : Prop} (h : p := by
 obtain ⟨c1, c2⟩ := cross_lt h k
 refine fb_mk (Nat.mul_pos (den_pos' x) (den_pos' y)) ?_ (Nat.lt_of_lt_of_le (mul_lt2 h.2 k.2) (Nat.pow_le_pow_right (by decide) (by omega)))
 rw [Nat.pow_succ]; omega) : p := h
theorem mk_parts (n : Int) {d : Nat} (hd : 0 < d) : (mkRat n d).num = n / (Nat.gcd n.natAbs d : Int) ∧ (mkRat n d).den = d / Nat.gcd n.natAbs d := by
 have h : d ≠ 0 := by omega
 rw [Rat.mkRat_def, dif_neg h, Rat.normalize_eq]
 exact ⟨rfl, rfl⟩
theorem add_mk (x y : Rat) : x + y = mkRat (x.num * y.den + y.num * x.den) (x.den * y.den) := by
 rw [Rat.add_def, Rat.normalize_eq_mkRat]
theorem mul_mk (x y : Rat) : x * y = mkRat (x.num * y.num) (x.den * y.den) := by
 rw [Rat.mul_def, Rat.normalize_eq_mkRat]
theorem sub_mk (x y : Rat) : x - y = mkRat (x.num * y.den - y.num * x.den) (x.den * y.den) := by
 rw [Rat.sub_def, Rat.normalize_eq_mkRat]
def Fb (x : Rat) (b : Nat) : Prop := x.num.natAbs < 2 ^ b ∧ x.den < 2 ^ b
theorem Fb.le {x : Rat} {a b : Nat} (h : Fb x a) (k : a ≤ b) : Fb x b :=
 ⟨Nat.lt_of_lt_of_le h.1 (Nat.pow_le_pow_right (by decide) k), Nat.lt_of_lt_of_le h.2 (Nat.pow_le_pow_right (by decide) k)⟩
theorem fb_mk {n : Int} {d b : Nat} (hd : 0 < d) (hn : n.natAbs < 2 ^ b) (h : d < 2 ^ b) : Fb (mkRat n d) b := by
 obtain ⟨e1, e2⟩ := mk_parts n hd
 refine ⟨?_, ?_⟩
 ·rw [e1, Int.natAbs_ediv_of_dvd (Int.natAbs_dvd_natAbs.1 (by simpa using Nat.gcd_dvd_left _ _))]
  exact Nat.lt_of_le_of_lt (Nat.div_le_self _ _) hn
 ·rw [e2]; exact Nat.lt_of_le_of_lt (Nat.div_le_self _ _) h
theorem mul_lt2 {a b i j : Nat} (h : a < 2 ^ i) (k : b < 2 ^ j) : a * b < 2 ^ (i + j) := by
 rw [Nat.pow_add]
 exact Nat.lt_of_le_of_lt (Nat.mul_le_mul_right _ (Nat.le_of_lt h)) (Nat.mul_lt_mul_of_pos_left k (Nat.two_pow_pos i))
theorem den_pos' (x : Rat) : 0 < x.den := Nat.pos_of_ne_zero x.den_nz
theorem Fb.mul {x y : Rat} {a b : Nat} (h : Fb x a) (k : Fb y b) : Fb (x * y) (a + b) := by
 rw [mul_mk]
 exact fb_mk (Nat.mul_pos (den_pos' x) (den_pos' y)) (by rw [Int.natAbs_mul]; exact mul_lt2 h.1 k.1) (mul_lt2 h.2 k.2)
theorem cross_lt {x y : Rat} {a b : Nat} (h : Fb x a) (k : Fb y b) : (x.num * (y.den : Int)).natAbs < 2 ^ (a + b) ∧ (y.num * (x.den : Int)).natAbs < 2 ^ (a + b) := by
 refine ⟨?_, ?_⟩
 ·rw [Int.natAbs_mul]; exact mul_lt2 h.1 (by simpa using k.2)
 ·rw [Int.natAbs_mul, Nat.add_comm]; exact mul_lt2 k.1 (by simpa using h.2)
theorem Fb.add {x y : Rat} {a b : Nat} (h : Fb x a) (k : Fb y b) : Fb (x + y) (a + b + 1) := by
 rw [add_mk]
 exact T_RatF_1
theorem Fb.sub {x y : Rat} {a b : Nat} (h : Fb x a) (k : Fb y b) : Fb (x - y) (a + b + 1) := by
 rw [sub_mk]
 exact T_RatF_1
/-! Chebyshev's polynomials, and Clenshaw's sum. -/
def chT (x : Rat) : Nat → Rat
 | 0 => 1
 | 1 => x
 | n + 2 => 2 * (x * chT x (n + 1)) + (-1) * chT x n
def chS (c : Nat → Int) (x : Rat) : Nat → Rat
 | 0 => 0
 | n + 1 => chS c x n + (c n : Rat) * chT x n
def clB (c : Nat → Int) (x : Rat) (n : Nat) : Nat → Rat × Rat
 | 0 => (0, 0)
 | k + 1 => (((c (n - k) : Rat) + (x + x) * (clB c x n k).1) - (clB c x n k).2, (clB c x n k).1)
/-! How large Chebyshev's polynomials are. -/
def pw3 : Nat → Rat
 | 0 => 1
 | n + 1 => 3 * pw3 n
def sm3 : Nat → Rat
 | 0 => 0
 | n + 1 => sm3 n + pw3 n
end Go.Proofs.YtogblocakccbgaaGreat
namespace Go.Proofs.YtogblocakccbgaaGreat
open Go.RowKit
def Fq (w : World) (v : Value) (p q : Nat) : Prop := ∃ u s, v = .agg #[.bool false, u, .bool false, s] ∧ Lim w u (dig p) ∧ Lim w s (dig q)
theorem Fq.ext {a w : World} {v : Value} {p q : Nat} (h : Fq a v p q) (k : Ext a w) : Fq w v p q := by
 obtain ⟨u, s, e, hu, hs⟩ := h; exact ⟨u, s, e, hu.ext k, hs.ext k⟩
def Fs (w : World) (v : Value) (sa : Bool) (p q : Nat) : Prop := ∃ u s, v = .agg #[.bool sa, u, .bool false, s] ∧ Lim w u (dig p) ∧ Lim w s (dig q)
theorem Fs.ext {a w : World} {v : Value} {sa : Bool} {p q : Nat} (h : Fs a v sa p q) (k : Ext a w) : Fs w v sa p q := by
 obtain ⟨u, s, e, hu, hs⟩ := h; exact ⟨u, s, e, hu.ext k, hs.ext k⟩
def Fr (w : World) (v : Value) (x : Rat) : Prop := Fs w v (decide (x.num < 0)) x.num.natAbs x.den
theorem Fr.ext {a w : World} {v : Value} {x : Rat} (h : Fr a v x) (k : Ext a w) : Fr w v x := Fs.ext h k
theorem Fr.num {w : World} {v : Value} {x : Rat} (h : Fr w v x) : ∃ u s, v = .agg #[.bool (decide (x.num < 0)), u, .bool false, s] ∧ Wid w (.agg #[.bool (decide (x.num < 0)), u]) x.num ∧ Nn w (.agg #[.bool false, s]) x.den := by
 obtain ⟨u, s, e, hu, hs⟩ := h
 exact ⟨u, s, e, ⟨_, rfl, hu⟩, ⟨_, rfl, hs⟩⟩
def Bxn (W : World) (B m : Nat) (u : Value) : Prop := W.cell? ⟨B, 0, none⟩ = some (.bool false) ∧ W.cell? ⟨B, 1, none⟩ = some u ∧ Lim W u (dig m) ∧ B < W.heap.size
theorem Bxn.ext {a w : World} {B m : Nat} {u : Value} (h : Bxn a B m u) (k : Ext a w) : Bxn w B m u :=
 ⟨(k.cells.1 _ _ h.2.2.2).trans h.1, (k.cells.1 _ _ h.2.2.2).trans h.2.1, h.2.2.1.ext k, Nat.lt_of_lt_of_le h.2.2.2 k.size⟩
theorem Bxn.nn {W : World} {B m : Nat} {u : Value} (h : Bxn W B m u) : Nn W (.agg #[.bool false, u]) m := ⟨_, rfl, h.2.2.1⟩
theorem Bxn.made {t : World} {ao : Option Addr} {cap m : Nat} (h : Lim t (.slice ao (dig m).length cap) (dig m)) :
    Bxn (t.alloc (.cells #[.bool false, .slice ao (dig m).length cap] 24)) t.heap.size m (.slice ao (dig m).length cap) ∧ Ext t (t.alloc (.cells #[.bool false, .slice ao (dig m).length cap] 24)) := by
 refine ⟨⟨?_, ?_, h.alloc _, by simp⟩, (Ext.refl t).alloc _⟩
 ·simp [go_sem, ↓IntWalk.iteOmega]
 ·simp [go_sem, ↓IntWalk.iteOmega]
theorem T_RZ8_1 {p : Prop} (h : p := by
 rw [rounds_succ]
 go_wp2_with fail
 rw [rounds_succ]
 go_wp2_with fail
 go_ret2
 exact ⟨by first | rfl | (simp; have hq := hwn.out; rw [IntKind.wrap_i64] at hq; first | (unfold wrap64; done) | (unfold wrap64; exact hq)) | (congr 4; have := hwn.out; omega), ex_⟩) : p := h
theorem r_Int1n (a : Int) (va u : Value) (w : World) (hva : va = .agg #[.bool true, u]) (hu : Lim w u [a])
    (hck : ∀ w1, Ext w w1 → Calls Tryz.prog 129 #[va] w1 fun e w' => e = .returned (.int .i64 0) ∧ Ext w1 w') :
    Calls Tryz.prog 70 #[va] w fun e w' => e = .returned (.tuple #[.int .i64 (-a), .int .i64 0]) ∧ Ext w w' := by
 subst hva
 obtain ⟨ao, b1, o1, cap1, rfl, v1, v2, v3, v4, v5, v6⟩ := hu.view
 have haU : U32 a := (hu.lb.getD 0)
 have e0 := v1 (by simp)
 subst e0
 have hl0 := v5 0 (by simp)
 have hbl := v4 (by simp)
 simp only [List.getD_cons_zero, List.getD_cons_succ, Nat.add_zero] at hl0
 unfold U32 at haU
 have hwn : Hid (IntKind.i64.wrap (IntKind.u64.wrap (-a)) = -a) := by show _ = _; rw [IntKind.wrap_u64, IntKind.wrap_i64]; omega
 clear v1 v5 v4 v6 hu
 simp only [List.length_cons, List.length_nil, Nat.zero_add, Nat.reduceAdd] at v2 hck ⊢
 go_enter Tryz.func70, Tryz.ntmps70
 go_wp2_with (go_at_call 129; (with_reducible refine (hck _ ex_).mono ?_); rintro e w1 ⟨rfl, hb⟩; obtain ⟨_, _, ⟨hc, hf⟩, hz⟩ := hb.c3; (try simp only [wsz] at hz hc hf))
 refine wp_loop_rounds 2 ?_
 exact T_RZ8_1
theorem r_Int2n (a b : Int) (va u : Value) (w : World) (hva : va = .agg #[.bool true, u]) (hu : Lim w u [a, b]) (hlt : a + b * 4294967296 ≤ 9223372036854775808)
    (hck : ∀ w1, Ext w w1 → Calls Tryz.prog 129 #[va] w1 fun e w' => e = .returned (.int .i64 0) ∧ Ext w1 w') :
    Calls Tryz.prog 70 #[va] w fun e w' => e = .returned (.tuple #[.int .i64 (-(a + b * 4294967296)), .int .i64 0]) ∧ Ext w w' := by
 subst hva
 obtain ⟨ao, b1, o1, cap1, rfl, v1, v2, v3, v4, v5, v6⟩ := hu.view
 have haU : U32 a := (hu.lb.getD 0)
 have e0 := v1 (by simp)
 subst e0
 have hl0 := v5 0 (by simp)
 have hbl := v4 (by simp)
 simp only [List.getD_cons_zero, List.getD_cons_succ, Nat.add_zero] at hl0
 have hbU : U32 b := (hu.lb.getD 1)
 have hl1 := v5 1 (by simp)
 simp only [List.getD_cons_zero, List.getD_cons_succ] at hl1
 have hsh : b * 4294967296 + a = a + b * 4294967296 := by omega
 unfold U32 at haU
 unfold U32 at hbU
 have hwn : Hid (IntKind.i64.wrap (IntKind.u64.wrap (-(a + b * 4294967296))) = -(a + b * 4294967296)) := by show _ = _; rw [IntKind.wrap_u64, IntKind.wrap_i64]; omega
 clear v1 v5 v4 v6 hu
 simp only [List.length_cons, List.length_nil, Nat.zero_add, Nat.reduceAdd] at v2 hck ⊢
 go_enter Tryz.func70, Tryz.ntmps70
 go_wp2_with (go_at_call 129; (with_reducible refine (hck _ ex_).mono ?_); rintro e w1 ⟨rfl, hb⟩; obtain ⟨_, _, ⟨hc, hf⟩, hz⟩ := hb.c3; (try simp only [wsz] at hz hc hf))
 refine wp_loop_rounds 3 ?_
 rw [rounds_succ]
 go_wp2_with fail
 exact T_RZ8_1
theorem r_IntZ (va : Value) (n : Int) (w : World) (ha : Wid w va n) (h0 : -9223372036854775808 ≤ n) (h1 : n ≤ 9223372036854775807) :
    Calls Tryz.prog 70 #[va] w fun e w' => e = .returned (.tuple #[.int .i64 n, .int .i64 0]) ∧ Ext w w' := by
 by_cases hn : n < 0
 ·have hs : Sz n := dig_bits (k := 64) (L := 4096) (by omega) (by decide)
  have hl2 : (dig n.natAbs).length ≤ 2 := dig_bits (k := 64) (L := 2) (by omega) (by decide)
  have hck := fun w1 (k1 : Ext w w1) => r_CheckZ va n w1 (ha.ext k1) hs
  obtain ⟨u, hva, hu⟩ := ha
  rw [decide_eq_true hn] at hva
  have hv := dig_val n.natAbs
  have hB : BB = 4294967296 := rfl
  rcases two_limbs hl2 with e | ⟨a, e⟩ | ⟨a, b, e⟩
  ·rw [e] at hv
   simp only [val] at hv
   omega
  ·rw [e] at hv hu
   simp only [val] at hv
   rw [hB] at hv
   rw [show n = -a by omega]
   exact r_Int1n a va u w hva hu hck
  ·rw [e] at hv hu
   simp only [val] at hv
   rw [hB] at hv
   rw [show n = -(a + b * 4294967296) by omega]
   exact r_Int2n a b va u w hva hu (by omega) hck
 ·have := r_Int va n.natAbs w (ha.nn (by omega)) (by omega)
  rw [show ((n.natAbs : Nat) : Int) = n by omega] at this
  exact this
theorem q_addI {va vb : Value} {m k : Int} {w : World} (ha : Wid w va m) (hb : Wid w vb k) (h0 : 0 ≤ m) (h1 : 0 ≤ k) (s1 : okN m = true) (s2 : okN k = true) (s3 : okN (m + k) = true) : Calls Tryz.prog 75 #[va, vb] w fun e w' => ∃ u, e = .returned u ∧ Wid w' u (m + k) ∧ Ext w w' := by
 obtain ⟨a, rfl⟩ := Int.eq_ofNat_of_zero_le h0
 obtain ⟨b, rfl⟩ := Int.eq_ofNat_of_zero_le (show 0 ≤ k by omega)
 refine (q_add va vb a b w ha.nat hb.nat (okN.small s1) (okN.small s2) (okN.small s3)).mono ?_
 rintro e w' ⟨u, rfl, h2, h3⟩
 exact ⟨u, rfl, h2.wid, h3⟩
theorem q_mulI {va vb : Value} {m k : Int} {w : World} (ha : Wid w va m) (hb : Wid w vb k) (h0 : 0 ≤ m) (h1 : 0 ≤ k) (s1 : okN m = true) (s2 : okN k = true) (s3 : okN (m * k) = true) : Calls Tryz.prog 73 #[va, vb] w fun e w' => ∃ u, e = .returned u ∧ Wid w' u (m * k) ∧ Ext w w' := by
 obtain ⟨a, rfl⟩ := Int.eq_ofNat_of_zero_le h0
 obtain ⟨b, rfl⟩ := Int.eq_ofNat_of_zero_le (show 0 ≤ k by omega)
 refine (q_mul va vb a b w ha.nat hb.nat (okN.small s1) (okN.small s2) (okN.small s3)).mono ?_
 rintro e w' ⟨u, rfl, h2, h3⟩
 exact ⟨u, rfl, h2.wid, h3⟩
theorem q_overI {va vb : Value} {m k : Int} {w : World} (ha : Wid w va m) (hb : Wid w vb k) (h0 : 0 ≤ m) (h1 : 0 < k) (s1 : okN m = true) (s2 : okN k = true) : Calls Tryz.prog 72 #[va, vb] w fun e w' => ∃ u, e = .returned u ∧ Wid w' u (m / k) ∧ Ext w w' := by
 obtain ⟨a, rfl⟩ := Int.eq_ofNat_of_zero_le h0
 obtain ⟨b, rfl⟩ := Int.eq_ofNat_of_zero_le (show 0 ≤ k by omega)
 refine (q_over va vb a b w ha.nat hb.nat (okN.small s1) (okN.small s2) (by omega)).mono ?_
 rintro e w' ⟨u, rfl, h2, h3⟩
 exact ⟨u, rfl, h2.wid, h3⟩
theorem q_subI {va vb : Value} {m k : Int} {w : World} (ha : Wid w va m) (hb : Wid w vb k) (h0 : 0 ≤ m) (h1 : 0 ≤ k) (s1 : okN m = true) (s2 : okN k = true) (hkm : k ≤ m) : Calls Tryz.prog 130 #[va, vb] w fun e w' => ∃ u, e = .returned u ∧ Wid w' u (m - k) ∧ Ext w w' := by
 obtain ⟨a, rfl⟩ := Int.eq_ofNat_of_zero_le h0
 obtain ⟨b, rfl⟩ := Int.eq_ofNat_of_zero_le (show 0 ≤ k by omega)
 refine (q_sub va vb a b w ha.nat hb.nat (okN.small s1) (okN.small s2) (by omega)).mono ?_
 rintro e w' ⟨u, rfl, h2, h3⟩
 exact ⟨u, rfl, (by rw [show (a : Int) - b = ((a - b : Nat) : Int) by omega]; exact h2.wid), h3⟩
theorem q_fromI {n : Int} {w : World} (h0 : 0 ≤ n) (h1 : n < 9223372036854775808) : Calls Tryz.prog 74 #[.int .i64 n] w fun e w' => ∃ u, e = .returned u ∧ Wid w' u n ∧ Ext w w' := by
 obtain ⟨a, rfl⟩ := Int.eq_ofNat_of_zero_le h0
 refine (q_from a w (by omega)).mono ?_
 rintro e w' ⟨u, rfl, h2, h3⟩
 exact ⟨u, rfl, h2.wid, h3⟩
theorem r_SameW (va vb : Value) (n : Int) (w : World) (ha : Wid w va n) (hb0 : Wid w vb n) :
    Calls Tryz.prog 69 #[va, vb] w fun e w' => e = .returned (.bool true) ∧ Ext w w' := by
 have hq := cmp_zero n.natAbs n.natAbs
 obtain ⟨u, rfl, hu⟩ := ha
 obtain ⟨s, rfl, hv⟩ := hb0
 obtain ⟨ao, b1, o1, cap1, rfl, -⟩ := hu.view
 obtain ⟨bo, b2, o2, cap2, rfl, -⟩ := hv.view
 have hcm := fun w1 (k1 : Ext w w1) => r_compare _ _ (dig n.natAbs) (dig n.natAbs) w1 (hu.ext k1) (hv.ext k1) (dig_nz n.natAbs) (dig_nz n.natAbs)
 rw [dig_val] at hcm
 generalize decide (n < 0) = sg0
 cases sg0
 all_goals
  go_enter Tryz.func69, Tryz.ntmps69
  go_wp2_with (go_at_call 128; (with_reducible refine (hcm _ ex_).mono ?_); rintro e w1 ⟨rfl, hb⟩; obtain ⟨_, _, ⟨hc, hf⟩, hz⟩ := hb.c3; (try simp only [wsz] at hz hc hf))
  go_ret
  exact ⟨rfl, ex_⟩
theorem T_QS_3 {p : Prop} (h : p := by
 exact ob_e2 (x := .tmp 42) (y := .const (.int .i64 2)) (a := (.int .i64 (k))) (b := .int .i64 2) (u := .int .i64 ((k : Int) + 2)) (some 7) none hc (hs := by intro ρ w1 h k; go_simp; first | done | (simp only [IntKind.wrap_i64]; omega))) : p := h
theorem T_QS_2 {p : Prop} (h : p := by
 exact ob_e2 (x := .tmp 40) (y := .const (.int .i64 1)) (a := (.int .i64 (k))) (b := .int .i64 1) (u := .int .i64 ((k : Int) + 1)) (some 5) none hc (hs := by intro ρ w1 h k; go_simp; first | done | (simp only [IntKind.wrap_i64]; omega))) : p := h
theorem T_QS_1 {p : Prop} (h : p := by
 exact ob_e2 (x := .tmp 41) (y := .tmp 43) (a := (.int .i64 ((k : Int) + 1))) (b := (.int .i64 ((k : Int) + 2))) (u := .int .i64 (((k : Int) + 1) * ((k : Int) + 2))) (some 6) (some 8) hc (hs := by intro ρ w1 h k; go_simp; first | done | exact hw3)) : p := h
def rserF (y q : Nat) : Nat → Bool → Nat → Nat → Nat → Option Nat
  | 0, _, _, _, _ => none
  | F + 1, ng, t, k, s => if okN (s : Int) = true ∧ okN (t : Int) = true ∧ okN ((t * y : Nat) : Int) = true ∧ k ≤ 100000 then
      (if t = 0 then some s else if ng = true then (if t ≤ s then rserF y q F false (t * y / 2 ^ q / ((k + 1) * (k + 2))) (k + 2) (s - t) else none) else rserF y q F true (t * y / 2 ^ q / ((k + 1) * (k + 2))) (k + 2) (s + t)) else none
theorem rserF_succ {y q F t k s r : Nat} {ng : Bool} (h : rserF y q F ng t k s = some r) : ∃ G, F = G + 1 ∧ (okN (s : Int) = true ∧ okN (t : Int) = true ∧ okN ((t * y : Nat) : Int) = true ∧ k ≤ 100000) ∧ ((t = 0 ∧ r = s) ∨ (¬ t = 0 ∧ ((ng = true ∧ t ≤ s ∧ rserF y q G false (t * y / 2 ^ q / ((k + 1) * (k + 2))) (k + 2) (s - t) = some r) ∨ (ng = false ∧ rserF y q G true (t * y / 2 ^ q / ((k + 1) * (k + 2))) (k + 2) (s + t) = some r)))) := by
 cases F with
 | zero => cases h
 | succ G =>
  refine ⟨G, rfl, ?_⟩
  rw [rserF] at h
  split at h
  ·rename_i k0
   refine ⟨k0, ?_⟩
   split at h
   ·rename_i h1; exact .inl ⟨h1, (Option.some.inj h).symm⟩
   ·rename_i h1
    refine .inr ⟨h1, ?_⟩
    split at h
    ·rename_i h2
     split at h
     ·rename_i h3; exact .inl ⟨h2, h3, h⟩
     ·cases h
    ·rename_i h2; exact .inr ⟨by simpa using h2, h⟩
  ·cases h
theorem rserF_ok {y q F t k s r : Nat} {ng : Bool} (h : rserF y q F ng t k s = some r) : okN (s : Int) = true := by
 obtain ⟨_, _, h, _⟩ := rserF_succ h; exact h.1
theorem q_series (va : Value) (x q F r t0 k0 : Nat) (cos : Bool) (w : World) (ha : Wid w va (x : Int)) (hx : okN (x : Int) = true) (hxx : okN ((x * x : Nat) : Int) = true) (hq0 : 0 < q) (hq : q ≤ 1000) (ht0 : t0 = if cos = true then 2 ^ q else x) (hk0 : k0 = if cos = true then 0 else 1) (hF : rserF (x * x / 2 ^ q) q F false t0 k0 0 = some r) :
    Calls Tryz.prog 137 #[va, .int .i64 q, .bool cos] w fun e w' => ∃ u, e = .returned u ∧ Wid w' u (r : Int) ∧ Ext w w' := by
 have hmx : ∀ (w1 : World) (u1 u2 : Value), Wid w1 u1 (x : Int) → Wid w1 u2 (x : Int) → Calls Tryz.prog 73 #[u1, u2] w1 fun e w' => ∃ u, e = .returned u ∧ Wid w' u ((x * x : Nat) : Int) ∧ Ext w1 w' := fun w1 u1 u2 a b => by
  have := q_mulI a b (Int.natCast_nonneg _) (Int.natCast_nonneg _) hx hx (by rw [← Int.natCast_mul]; exact hxx)
  rw [← Int.natCast_mul] at this
  exact this
 have hdX : ∀ (w1 : World) (u1 u2 : Value), Wid w1 u1 ((x * x : Nat) : Int) → u2 = .int .i64 (q : Int) → Calls Tryz.prog 68 #[u1, u2] w1 fun e w' => ∃ u, e = .returned u ∧ Wid w' u ((x * x / 2 ^ q : Nat) : Int) ∧ Ext w1 w' := fun w1 u1 u2 a b => by
  subst b
  have := q_down u1 _ q w1 a (okN.sz hxx) hq0 (by omega)
  have e : ((x * x : Nat) : Int) / 2 ^ q = ((x * x / 2 ^ q : Nat) : Int) := by rw [Int.natCast_ediv, Int.natCast_pow]; rfl
  rw [e] at this
  exact this
 have hps : Small (2 ^ q) := small_bits (k := q + 1) (Nat.pow_lt_pow_right (by decide) (by omega)) (by omega)
 have hpw : ∀ (w1 : World) (u1 : Value), u1 = .int .i64 (q : Int) → Calls Tryz.prog 132 #[u1] w1 fun e w' => ∃ u, e = .returned u ∧ Wid w' u ((2 ^ q : Nat) : Int) ∧ Ext w1 w' := fun w1 u1 a => by
  subst a
  refine (q_power q w1 (by omega) hps).mono ?_
  rintro e w' ⟨u, rfl, h2, h3⟩
  exact ⟨u, rfl, h2.wid, h3⟩
 have hmt0 : ∀ t y : Nat, okN (t : Int) = true → okN (y : Int) = true → okN ((t * y : Nat) : Int) = true → ∀ (w1 : World) (u1 u2 : Value), Wid w1 u1 (t : Int) → Wid w1 u2 (y : Int) → Calls Tryz.prog 73 #[u1, u2] w1 fun e w' => ∃ u, e = .returned u ∧ Wid w' u ((t * y : Nat) : Int) ∧ Ext w1 w' := fun t y k1 k2 k3 w1 u1 u2 a b => by
  have := q_mulI a b (Int.natCast_nonneg _) (Int.natCast_nonneg _) k1 k2 (by rw [← Int.natCast_mul]; exact k3)
  rw [← Int.natCast_mul] at this
  exact this
 have hdt0 : ∀ t y : Nat, okN ((t * y : Nat) : Int) = true → ∀ (w1 : World) (u1 u2 : Value), Wid w1 u1 ((t * y : Nat) : Int) → u2 = .int .i64 (q : Int) → Calls Tryz.prog 68 #[u1, u2] w1 fun e w' => ∃ u, e = .returned u ∧ Wid w' u ((t * y / 2 ^ q : Nat) : Int) ∧ Ext w1 w' := fun t y k1 w1 u1 u2 a b => by
  subst b
  have := q_down u1 _ q w1 a (okN.sz k1) hq0 (by omega)
  have e : ((t * y : Nat) : Int) / 2 ^ q = ((t * y / 2 ^ q : Nat) : Int) := by rw [Int.natCast_ediv, Int.natCast_pow]; rfl
  rw [e] at this
  exact this
 have hov0 : ∀ t y k : Nat, okN ((t * y : Nat) : Int) = true → k ≤ 100000 → ∀ (w1 : World) (u1 u2 : Value), Wid w1 u1 ((t * y / 2 ^ q : Nat) : Int) → Wid w1 u2 (((k + 1) * (k + 2) : Nat) : Int) → Calls Tryz.prog 72 #[u1, u2] w1 fun e w' => ∃ u, e = .returned u ∧ Wid w' u ((t * y / 2 ^ q / ((k + 1) * (k + 2)) : Nat) : Int) ∧ Ext w1 w' := fun t y k k1 k2 w1 u1 u2 a b => by
  have hle : (k + 1) * (k + 2) ≤ 100001 * 100002 := Nat.mul_le_mul (by omega) (by omega)
  have hpos : 0 < (k + 1) * (k + 2) := Nat.mul_pos (by omega) (by omega)
  have s1 : Small (t * y / 2 ^ q) := Small.le (okN.small k1) (Nat.div_le_self _ _)
  refine (q_over u1 u2 _ _ w1 a.nat b.nat s1 (small_bits (k := 64) (by omega) (by decide)) hpos).mono ?_
  rintro e w' ⟨u, rfl, h2, h3⟩
  exact ⟨u, rfl, h2.wid, h3⟩
 have hfr0 : ∀ k : Nat, k ≤ 100000 → ∀ (w1 : World) (u1 : Value), u1 = .int .i64 (((k : Int) + 1) * ((k : Int) + 2)) → Calls Tryz.prog 74 #[u1] w1 fun e w' => ∃ u, e = .returned u ∧ Wid w' u (((k + 1) * (k + 2) : Nat) : Int) ∧ Ext w1 w' := fun k k2 w1 u1 a => by
  subst a
  have hle : (k + 1) * (k + 2) ≤ 100001 * 100002 := Nat.mul_le_mul (by omega) (by omega)
  have e : ((k : Int) + 1) * ((k : Int) + 2) = (((k + 1) * (k + 2) : Nat) : Int) := by push_cast; rfl
  rw [e]
  exact q_fromI (by omega) (by omega)
 have hsb0 : ∀ s t : Nat, okN (s : Int) = true → okN (t : Int) = true → t ≤ s → ∀ (w1 : World) (u1 u2 : Value), Wid w1 u1 (s : Int) → Wid w1 u2 (t : Int) → Calls Tryz.prog 130 #[u1, u2] w1 fun e w' => ∃ u, e = .returned u ∧ Wid w' u ((s - t : Nat) : Int) ∧ Ext w1 w' := fun s t k1 k2 k3 w1 u1 u2 a b => by
  have := q_subI a b (Int.natCast_nonneg _) (Int.natCast_nonneg _) k1 k2 (by omega)
  rw [show (s : Int) - t = ((s - t : Nat) : Int) by omega] at this
  exact this
 have had0 : ∀ s t : Nat, okN (s : Int) = true → okN (t : Int) = true → okN ((s + t : Nat) : Int) = true → ∀ (w1 : World) (u1 u2 : Value), Wid w1 u1 (s : Int) → Wid w1 u2 (t : Int) → Calls Tryz.prog 75 #[u1, u2] w1 fun e w' => ∃ u, e = .returned u ∧ Wid w' u ((s + t : Nat) : Int) ∧ Ext w1 w' := fun s t k1 k2 k3 w1 u1 u2 a b => by
  have := q_addI a b (Int.natCast_nonneg _) (Int.natCast_nonneg _) k1 k2 (by rw [← Int.natCast_add]; exact k3)
  rw [← Int.natCast_add] at this
  exact this
 have hyo : okN ((x * x / 2 ^ q : Nat) : Int) = true := by
  unfold okN at hxx ⊢
  rw [Int.natAbs_natCast] at hxx ⊢
  have this : x * x / 2 ^ q ≤ x * x := Nat.div_le_self _ _
  by_cases hz : x * x / 2 ^ q = 0
  ·rw [hz]; rfl
  ·have hne : x * x ≠ 0 := fun e => hz (by rw [e, Nat.zero_div])
   have h1 := (Nat.log2_lt (n := x * x) hne).1 (of_decide_eq_true hxx)
   exact decide_eq_true ((Nat.log2_lt hz).2 (Nat.lt_of_le_of_lt this h1))
 obtain ⟨y, hy⟩ : ∃ y, x * x / 2 ^ q = y := ⟨_, rfl⟩
 rw [hy] at hyo hF
 have hdx : ∀ (w1 : World) (u1 u2 : Value), Wid w1 u1 ((x * x : Nat) : Int) → u2 = .int .i64 (q : Int) → Calls Tryz.prog 68 #[u1, u2] w1 fun e w' => ∃ u, e = .returned u ∧ Wid w' u (y : Int) ∧ Ext w1 w' := fun w1 u1 u2 a b => by rw [← hy]; exact hdX w1 u1 u2 a b
 clear hdX hy hps hx hxx
 obtain ⟨sx, ao, nx, cx, rfl, hWx⟩ := ha.open
 have I0 : KBd w [] w := ⟨Ext.refl w, trivial, by simp, by simp⟩
 have I := ((I0.push ((Ext.refl w).alloc (.cells #[.bool sx, .slice ao nx cx] 24)) (BF.wat (x : Int)) (WAt.lit hWx)).new [.bool false, .slice none 0 0] 24 (by simp))
 simp only [World.size_alloc, List.nil_append, List.cons_append] at I
 clear I0 hWx ha
 replace hF := Lib.hid hF
 go_enter Tryz.func137, Tryz.ntmps137
 go_upto_region 1 with fail
 refine wp_regB [] [⟨5, some 6, BF.b2, (BF.wat (y : Int))⟩] (fun z_ => ([VF.wid ((x : Int)), VF.wid ((x : Int)), VF.wid (((x * x : Nat) : Int)), VF.eq (.int .i64 (q)), VF.wid ((y : Int))] : List VF).getD z_ VF.any) I (fun hc => ⟨?_, ?_, ?_, ?_, ?_, ?_, ?_, trivial⟩) (fun vs gl W hK0 hv hp => ?_)
 ·exact b_67
 ·exact b_67
 ·exact ob_call (fun v => [v 0, v 1]) hc rfl fun vs gs w1 c => hmx _ _ _ (c.v 0) (c.v 1)
 ·exact ob_mv hc (.inl rfl)
 ·exact ob_call (fun v => [v 2, v 3]) hc rfl fun vs gs w1 c => hdx _ _ _ (c.v 2) (c.v 3)
 ·exact b_15
 ·exact ob_putW (n := 2) rfl 4 hc rfl 0
 have p0 : vs 5 = .pointer (some ⟨gl 0, 0, none⟩) := hp 0 _ rfl
 simp only [putS, Nat.reduceAdd, Act.put, List.setIfInBounds_toArray, List.set_cons_zero, List.set_cons_succ, p0]
 obtain ⟨g7, e90⟩ : ∃ n, gl 0 = n := ⟨_, rfl⟩
 simp only [kb_, e90] at hK0
 rw [e90]
 replace I := hK0
 clear hK0 hv hp gl p0 e90
 go_upto_region 2 with fail
 refine wp_regB [] [⟨1, some 2, BF.b2, (BF.wat (x : Int))⟩] (fun z_ => ([VF.wid ((x : Int)), VF.any, VF.any, VF.eq (.int .i64 (1))] : List VF).getD z_ VF.any) I (fun hc => ⟨?_, ?_, ?_, ?_, trivial⟩) (fun vs gl W hK0 hv hp => ?_)
 ·exact b_67
 ·exact b_29
 ·exact ob_putW (n := 3) rfl 0 hc rfl 0
 ·exact ob_mv hc (.inr rfl)
 have p0 : vs 1 = .pointer (some ⟨gl 0, 0, none⟩) := hp 0 _ rfl
 have v3 : vs 3 = .int .i64 1 := hv 3 (by decide)
 simp only [putS, Nat.reduceAdd, Act.put, List.setIfInBounds_toArray, List.set_cons_zero, List.set_cons_succ, p0, v3]
 obtain ⟨g8, e90⟩ : ∃ n, gl 0 = n := ⟨_, rfl⟩
 simp only [kb_, e90] at hK0
 rw [e90]
 replace I := hK0
 clear hK0 hv hp gl p0 v3 e90
 go_upto_if 18 with fail
 go_cut [9] from 19 to 20 (fun s9 wx => s9 = .int .i64 (k0 : Int) ∧ KBd w [(w.heap.size, BF.wat (x : Int)), (w.heap.size + 1, BF.own [.bool false, .slice none 0 0]), (g7, BF.wat (y : Int)), (g8, BF.wat (t0 : Int))] wx)
 case first =>
  cases cos
  ·simp at ht0 hk0
   subst ht0 hk0
   go_wp2_with fail
   go_meet
   case rel => exact ⟨rfl, I⟩
  ·simp at ht0 hk0
   subst ht0 hk0
   go_upto_region 4 with fail
   refine wp_regB [[], [], [], [(2, BF.wat ((2 ^ q : Nat) : Int))]] [] (fun z_ => ([VF.eq (.int .i64 (q)), VF.wid (((2 ^ q : Nat) : Int)), VF.any, VF.eq (.int .i64 (0))] : List VF).getD z_ VF.any) I (fun hc => ⟨?_, ?_, ?_, ?_, trivial⟩) (fun vs gl W hK0 hv hp => ?_)
   ·exact ob_mv hc (.inl rfl)
   ·exact ob_call (fun v => [v 0]) hc rfl fun vs gs w1 c => hpw _ _ (c.v 0)
   ·exact ob_putW (n := 3) rfl 1 hc rfl 0
   ·exact ob_mv hc (.inr rfl)
   have v3 : vs 3 = .int .i64 0 := hv 3 (by decide)
   simp only [putS, Nat.reduceAdd, Act.put, List.setIfInBounds_toArray, List.set_cons_zero, List.set_cons_succ, v3]
   simp only [kb_] at hK0
   replace I := hK0
   clear hK0 hv hp gl v3
   go_wp2_with fail
   go_meet
   case rel => exact ⟨rfl, I⟩
 case rest =>
  obtain ⟨rfl, hI⟩ := hcut
  clear I ht0 hpw hmx hdx
  have I := hI
  clear hI
  go_upto_region 5 with fail
  refine wp_regB [] [⟨1, some 2, BF.b2, (BF.wat 0)⟩] (fun z_ => ([VF.wid (0)] : List VF).getD z_ VF.any) I (fun hc => ⟨?_, ?_, ?_, trivial⟩) (fun vs gl W hK0 hv hp => ?_)
  ·exact ob_zeroW hc rfl
  ·exact ob_allocW (n := 4) rfl hc rfl rfl rfl
  ·exact ob_putW (n := 4) rfl 0 hc rfl 0
  have p0 : vs 1 = .pointer (some ⟨gl 0, 0, none⟩) := hp 0 _ rfl
  simp only [putS, Nat.reduceAdd, Act.put, List.setIfInBounds_toArray, List.set_cons_zero, List.set_cons_succ, p0]
  obtain ⟨g10, e90⟩ : ∃ n, gl 0 = n := ⟨_, rfl⟩
  simp only [kb_, e90] at hK0
  rw [e90]
  replace I := hK0
  clear hK0 hv hp gl p0 e90
  go_upto_region 6 with fail
  go_wp2_with fail
  go_loopw [9, 11] (fun s9 s11 wr => ∃ (k t s G : Nat) (ng : Bool), s9 = .int .i64 (k : Int) ∧ s11 = .bool ng ∧ k ≤ 100002 ∧ Hid (rserF y q G ng t k s = some r) ∧ Hid (KBd w [(w.heap.size, BF.wat (x : Int)), (w.heap.size + 1, BF.own [.bool false, .slice none 0 0]), (g7, BF.wat (y : Int)), (g8, BF.wat (t : Int)), (g10, BF.wat (s : Int))] wr)) (fun s9 _ _ => (200000 - intOf s9).toNat)
  case atStart => exact ⟨k0, t0, 0, F, false, rfl, rfl, (by rw [hk0]; split <;> omega), hF, Lib.hid I⟩
  case round =>
   obtain ⟨k, t, s, G, ng, rfl, rfl, hk9, HF, HI⟩ := hrel
   clear I hF hk0
   have I := HI.out
   clear HI
   obtain ⟨G, rfl, ⟨o1, o2, o3, o4⟩, hc⟩ := rserF_succ HF.out
   clear HF
   have hWt := (show WAt _ g8 (t : Int) from I.at 3)
   obtain ⟨aoT, capT, cT0, cT1, hNt, hfT⟩ := hWt.openN
   have hTl := hWt.lt
   clear hWt
   rcases hc with ⟨h0, hres⟩ | ⟨h0, hc⟩
   ·subst h0
    subst hres
    have hl0 : (dig 0).length = 0 := rfl
    rw [hl0] at cT1
    have hWs := (show WAt _ g10 (r : Int) from I.at 4)
    obtain ⟨aoS, capS, z0, z1, hNs, hfS⟩ := hWs.openN
    have hSl := hWs.lt
    have hR := (show (BF.own [.bool false, .slice none 0 0]).p (w.heap.size + 1) _ from I.at 1)
    have q0 := hR.1 0 _ rfl
    have q1 := hR.1 1 _ rfl
    have qf := hR.2.1
    have qn := hR.2.2.1
    have ql := hR.2.2.2
    have hEx := I.e
    clear I hmt0 hdt0 hov0 hfr0 hsb0 had0 hWs hR
    go_wp2_with fail
    refine bodyPost_ret (v := .agg #[.bool false, .slice aoS (dig r).length capS]) ?_ rfl ⟨_, rfl, ?_, ?_⟩
    ·simp [results, Tryz.results137, go_sem, ↓IntWalk.iteOmega, *]
    ·exact (Wid.box (Wid.box hNs.wid qn) (NoU.set qn (fun z e => by cases e)))
    ·exact (hEx.setCell (p := ⟨w.heap.size + 1, 0, none⟩) (by simp) _).setCell (p := ⟨w.heap.size + 1, 1, none⟩) (by simp) _
   ·have hlp : decide ((0 : Int) < ((dig t).length : Int)) = true := decide_eq_true (by have := dig_pos.2 (Nat.pos_of_ne_zero h0); omega)
    have hw3 : IntKind.i64.wrap (((k : Int) + 1) * ((k : Int) + 2)) = ((k : Int) + 1) * ((k : Int) + 2) := by
     have hle : (k + 1) * (k + 2) ≤ 100001 * 100002 := Nat.mul_le_mul (by omega) (by omega)
     have e : ((k : Int) + 1) * ((k : Int) + 2) = (((k + 1) * (k + 2) : Nat) : Int) := by push_cast; rfl
     rw [e, IntKind.wrap_i64]; omega
    have hmt := hmt0 t y o2 hyo o3
    have hdt := hdt0 t y o3
    have hov := hov0 t y k o3 o4
    have hfr := hfr0 k o4
    have hn : ∀ s', rserF y q G (!ng) (t * y / 2 ^ q / ((k + 1) * (k + 2))) (k + 2) s' = some r → okN (s' : Int) = true := fun s' h => rserF_ok h
    have hln : 0 < (dig t).length := dig_pos.2 (Nat.pos_of_ne_zero h0)
    have hlq : decide (0 < (dig t).length) = true := decide_eq_true hln
    go_upto_region 9 with fail
    go_upto_if 28 with fail
    rcases hc with ⟨rfl, hle, hc⟩ | ⟨rfl, hc⟩
    ·have hsb := hsb0 s t o1 o2 hle
     clear hdt0 hov0 hfr0 hsb0 had0 hlp hln hlq hmt0
     replace hc := Lib.hid hc
     clear hn cT0 cT1 hNt hfT
     go_upto_region 10 with fail
     refine wp_regB [[], [], [], [], [(3, BF.wat ((s - t : Nat) : Int))]] [] (fun z_ => ([VF.wid ((s : Int)), VF.wid ((t : Int)), VF.wid (((s - t : Nat) : Int))] : List VF).getD z_ VF.any) I (fun hc => ⟨?_, ?_, ?_, ?_, trivial⟩) (fun vs gl W hK0 hv hp => ?_)
     ·exact ob_getW g10 ((s : Int)) hc rfl fun vs gs w1 c => c.b0 4
     ·exact b_68
     ·exact ob_call (fun v => [v 0, v 1]) hc rfl fun vs gs w1 c => hsb _ _ _ (c.v 0) (c.v 1)
     ·exact ob_putW (n := 4) rfl 2 hc rfl 0
     simp only [putS, Nat.reduceAdd, Act.put, List.setIfInBounds_toArray, List.set_cons_zero, List.set_cons_succ]
     simp only [kb_] at hK0
     replace I := hK0
     clear hK0 hv hp gl
     go_upto_region 12 with fail
     refine wp_regB [[], [], [], [(12, BF.wat ((t * y / 2 ^ q / ((k + 1) * (k + 2)) : Nat) : Int))]] [] (fun z_ => ([VF.wid ((t : Int)), VF.wid ((y : Int)), VF.wid (((t * y : Nat) : Int)), VF.eq (.int .i64 (q)), VF.wid (((t * y / 2 ^ q : Nat) : Int)), VF.eq (.int .i64 (k)), VF.eq (.int .i64 ((k : Int) + 1)), VF.eq (.int .i64 (k)), VF.eq (.int .i64 ((k : Int) + 2)), VF.eq (.int .i64 (((k : Int) + 1) * ((k : Int) + 2))), VF.wid ((((k + 1) * (k + 2) : Nat) : Int)), VF.wid (((t * y / 2 ^ q / ((k + 1) * (k + 2)) : Nat) : Int))] : List VF).getD z_ VF.any) I (fun hc => ⟨?_, ?_, ?_, ?_, ?_, ?_, ?_, ?_, ?_, ?_, ?_, ?_, ?_, trivial⟩) (fun vs gl W hK0 hv hp => ?_)
     ·exact b_68
     ·exact ob_getW g7 ((y : Int)) hc rfl fun vs gs w1 c => c.b0 2
     ·exact ob_call (fun v => [v 0, v 1]) hc rfl fun vs gs w1 c => hmt _ _ _ (c.v 0) (c.v 1)
     ·exact ob_mv hc (.inl rfl)
     ·exact ob_call (fun v => [v 2, v 3]) hc rfl fun vs gs w1 c => hdt _ _ _ (c.v 2) (c.v 3)
     ·exact ob_mv hc (.inl rfl)
     ·exact T_QS_2
     ·exact ob_mv hc (.inl rfl)
     ·exact T_QS_3
     ·exact T_QS_1
     ·exact ob_call (fun v => [v 9]) hc rfl fun vs gs w1 c => hfr _ _ (c.v 9)
     ·exact ob_call (fun v => [v 4, v 10]) hc rfl fun vs gs w1 c => hov _ _ _ (c.v 4) (c.v 10)
     ·exact ob_putW (n := 3) rfl 11 hc rfl 0
     simp only [putS, Nat.reduceAdd, Act.put, List.setIfInBounds_toArray, List.set_cons_zero, List.set_cons_succ]
     simp only [kb_] at hK0
     replace I := hK0
     clear hK0 hv hp gl
     go_wp2_with fail
     go_roundw
     case rel => exact ⟨k + 2, _, _, G, false, (by go_num), rfl, by omega, hc, Lib.hid I⟩
     case measure => simp [intOf]; omega
    ·have had := had0 s t o1 o2 (hn _ hc)
     clear hdt0 hov0 hfr0 hsb0 had0 hlp hln hlq hmt0
     replace hc := Lib.hid hc
     clear hn cT0 cT1 hNt hfT
     go_upto_region 11 with fail
     refine wp_regB [[], [], [], [], [(3, BF.wat ((s + t : Nat) : Int))]] [] (fun z_ => ([VF.wid ((s : Int)), VF.wid ((t : Int)), VF.wid (((s + t : Nat) : Int))] : List VF).getD z_ VF.any) I (fun hc => ⟨?_, ?_, ?_, ?_, trivial⟩) (fun vs gl W hK0 hv hp => ?_)
     ·exact ob_getW g10 ((s : Int)) hc rfl fun vs gs w1 c => c.b0 4
     ·exact b_68
     ·exact ob_call (fun v => [v 0, v 1]) hc rfl fun vs gs w1 c => had _ _ _ (c.v 0) (c.v 1)
     ·exact ob_putW (n := 4) rfl 2 hc rfl 0
     simp only [putS, Nat.reduceAdd, Act.put, List.setIfInBounds_toArray, List.set_cons_zero, List.set_cons_succ]
     simp only [kb_] at hK0
     replace I := hK0
     clear hK0 hv hp gl
     go_upto_region 12 with fail
     refine wp_regB [[], [], [], [(12, BF.wat ((t * y / 2 ^ q / ((k + 1) * (k + 2)) : Nat) : Int))]] [] (fun z_ => ([VF.wid ((t : Int)), VF.wid ((y : Int)), VF.wid (((t * y : Nat) : Int)), VF.eq (.int .i64 (q)), VF.wid (((t * y / 2 ^ q : Nat) : Int)), VF.eq (.int .i64 (k)), VF.eq (.int .i64 ((k : Int) + 1)), VF.eq (.int .i64 (k)), VF.eq (.int .i64 ((k : Int) + 2)), VF.eq (.int .i64 (((k : Int) + 1) * ((k : Int) + 2))), VF.wid ((((k + 1) * (k + 2) : Nat) : Int)), VF.wid (((t * y / 2 ^ q / ((k + 1) * (k + 2)) : Nat) : Int))] : List VF).getD z_ VF.any) I (fun hc => ⟨?_, ?_, ?_, ?_, ?_, ?_, ?_, ?_, ?_, ?_, ?_, ?_, ?_, trivial⟩) (fun vs gl W hK0 hv hp => ?_)
     ·exact b_68
     ·exact ob_getW g7 ((y : Int)) hc rfl fun vs gs w1 c => c.b0 2
     ·exact ob_call (fun v => [v 0, v 1]) hc rfl fun vs gs w1 c => hmt _ _ _ (c.v 0) (c.v 1)
     ·exact ob_mv hc (.inl rfl)
     ·exact ob_call (fun v => [v 2, v 3]) hc rfl fun vs gs w1 c => hdt _ _ _ (c.v 2) (c.v 3)
     ·exact ob_mv hc (.inl rfl)
     ·exact T_QS_2
     ·exact ob_mv hc (.inl rfl)
     ·exact T_QS_3
     ·exact T_QS_1
     ·exact ob_call (fun v => [v 9]) hc rfl fun vs gs w1 c => hfr _ _ (c.v 9)
     ·exact ob_call (fun v => [v 4, v 10]) hc rfl fun vs gs w1 c => hov _ _ _ (c.v 4) (c.v 10)
     ·exact ob_putW (n := 3) rfl 11 hc rfl 0
     simp only [putS, Nat.reduceAdd, Act.put, List.setIfInBounds_toArray, List.set_cons_zero, List.set_cons_succ]
     simp only [kb_] at hK0
     replace I := hK0
     clear hK0 hv hp gl
     go_wp2_with fail
     go_roundw
     case rel => exact ⟨k + 2, _, _, G, true, (by go_num), rfl, by omega, hc, Lib.hid I⟩
     case measure => simp [intOf]; omega
end Go.Proofs.YtogblocakccbgaaGreat
