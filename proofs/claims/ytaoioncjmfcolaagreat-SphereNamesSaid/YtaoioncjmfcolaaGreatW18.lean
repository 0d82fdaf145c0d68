/- Plain functions on vectors of intervals. -/
import Derived.Test.YtaoioncjmfcolaaGreatW17
set_option linter.unusedSimpArgs false
set_option linter.unusedVariables false
set_option maxRecDepth 100000
set_option maxHeartbeats 4000000
namespace Go.Proofs.YtaoioncjmfcolaaGreat
open Go.RowKit
def doI (E : Int) (r : R3) : R3 := if E ≠ 0 then ⟨0, 0, E⟩ else r
def kpI (E x y e : Int) : R3 := if E ≠ 0 then ⟨0, 0, E⟩ else if e ≠ 0 then ⟨0, 0, e⟩ else ⟨x, y, 0⟩
def R3.Z (r : R3) : Prop := r.e ≠ 0 → r.lo = 0 ∧ r.hi = 0
def sqR (a b : Int) : R3 := if (absI a b).e ≠ 0 then ⟨0, 0, (absI a b).e⟩ else mulI (absI a b).lo (absI a b).hi (absI a b).lo (absI a b).hi
def negR (a b : Int) : R3 := if ckI a b ≠ 0 then ⟨0, 0, ckI a b⟩ else madeI (wrap64 (-b)) (wrap64 (-a))
def absR (a b : Int) : R3 := if ckI a b ≠ 0 then ⟨0, 0, ckI a b⟩ else if 0 ≤ a then ⟨a, b, 0⟩ else if b ≤ 0 then madeI (wrap64 (-b)) (wrap64 (-a)) else madeI 0 (max (wrap64 (-a)) b)
def R3.W (r : R3) : Prop := I64 r.lo ∧ I64 r.hi
structure V3 where
 (a b c d e f : Int)
structure V7 where
 v : V3
 e : Int
def V3.O : V3 := ⟨0, 0, 0, 0, 0, 0⟩
def V3.I (v : V3) : Prop := (I64 v.a ∧ I64 v.b) ∧ (I64 v.c ∧ I64 v.d) ∧ (I64 v.e ∧ I64 v.f)
def ckV (v : V3) : Int := if ckI v.a v.b ≠ 0 then ckI v.a v.b else ck2 v.c v.d v.e v.f
def ck2V (a b : V3) : Int := if ckV a ≠ 0 then ckV a else ckV b
def v3 (x y z : R3) : V3 := ⟨x.lo, x.hi, y.lo, y.hi, z.lo, z.hi⟩
def vecV (E : Int) (v : V3) : V7 := if E ≠ 0 then ⟨V3.O, E⟩ else ⟨v, 0⟩
def each0 (f : Int → Int → Int → Int → R3) (a b : V3) : R3 := doI 0 (f a.a a.b b.a b.b)
def each1 (f : Int → Int → Int → Int → R3) (a b : V3) : R3 := doI (each0 f a b).e (f a.c a.d b.c b.d)
def each2 (f : Int → Int → Int → Int → R3) (a b : V3) : R3 := doI (each1 f a b).e (f a.e a.f b.e b.f)
def eachV (f : Int → Int → Int → Int → R3) (a b : V3) : V7 := if ck2V a b ≠ 0 then ⟨V3.O, ck2V a b⟩ else vecV (each2 f a b).e (v3 (each0 f a b) (each1 f a b) (each2 f a b))
def dot0 (E : Int) (a b : V3) : R3 := doI E (mulI a.a a.b b.a b.b)
def dot1 (E : Int) (a b : V3) : R3 := doI (dot0 E a b).e (mulI a.c a.d b.c b.d)
def dot2 (E : Int) (a b : V3) : R3 := doI (dot1 E a b).e (addI (dot0 E a b).lo (dot0 E a b).hi (dot1 E a b).lo (dot1 E a b).hi)
def dot3 (E : Int) (a b : V3) : R3 := doI (dot2 E a b).e (mulI a.e a.f b.e b.f)
def dotI (E : Int) (a b : V3) : R3 := doI (dot3 E a b).e (addI (dot2 E a b).lo (dot2 E a b).hi (dot3 E a b).lo (dot3 E a b).hi)
def dotV (a b : V3) : R3 := if ck2V a b ≠ 0 then ⟨0, 0, ck2V a b⟩ else dotI 0 a b
def nrm0 (E : Int) (a : V3) : R3 := doI E (sqI a.a a.b)
def nrm1 (E : Int) (a : V3) : R3 := doI (nrm0 E a).e (sqI a.c a.d)
def nrm2 (E : Int) (a : V3) : R3 := doI (nrm1 E a).e (addI (nrm0 E a).lo (nrm0 E a).hi (nrm1 E a).lo (nrm1 E a).hi)
def nrm3 (E : Int) (a : V3) : R3 := doI (nrm2 E a).e (sqI a.e a.f)
def nrmI (E : Int) (a : V3) : R3 := doI (nrm3 E a).e (addI (nrm2 E a).lo (nrm2 E a).hi (nrm3 E a).lo (nrm3 E a).hi)
def nrmV (a : V3) : R3 := if ckV a ≠ 0 then ⟨0, 0, ckV a⟩ else nrmI 0 a
def mm0 (E a b c d : Int) : R3 := doI E (mulI a b c d)
def mm1 (E a b c d e f g h : Int) : R3 := doI (mm0 E a b c d).e (mulI e f g h)
def mmI (E a b c d e f g h : Int) : R3 := doI (mm1 E a b c d e f g h).e (subI (mm0 E a b c d).lo (mm0 E a b c d).hi (mm1 E a b c d e f g h).lo (mm1 E a b c d e f g h).hi)
def crs0 (a b : V3) : R3 := mmI 0 a.c a.d b.e b.f a.e a.f b.c b.d
def crs1 (a b : V3) : R3 := mmI (crs0 a b).e a.e a.f b.a b.b a.a a.b b.e b.f
def crs2 (a b : V3) : R3 := mmI (crs1 a b).e a.a a.b b.c b.d a.c a.d b.a b.b
def crsV (a b : V3) : V7 := if ck2V a b ≠ 0 then ⟨V3.O, ck2V a b⟩ else vecV (crs2 a b).e (v3 (crs0 a b) (crs1 a b) (crs2 a b))
def scaV (a : V3) (x y : Int) : V7 := eachV mulI a ⟨x, y, x, y, x, y⟩
theorem s_check1 (a b : Int) (w : World) :
    Calls Tryz.prog 93 #[.agg #[.int .i64 a, .int .i64 b]] w fun e w' => e = .returned (.int .i64 (ckI a b)) ∧ Ext w w' := by
 have l0 : IntKind.i64.wrap 0 = 0 := rfl
 have l1 : IntKind.i64.wrap 1 = 1 := rfl
 have l2 : IntKind.i64.wrap 2 = 2 := rfl
 have l3 : IntKind.i64.wrap 3 = 3 := rfl
 go_enter Tryz.func93, Tryz.ntmps93
 go_wp2_with (first | (go_at_call 91; (with_reducible refine (check_1 _ _ _ _ c_30).mono ?_); rintro e w1 ⟨rfl, hb⟩; obtain ⟨_, _, ⟨hc, hf⟩, hz⟩ := hb.c3; (try simp only [World.size_alloc] at hz hc hf)))
 all_goals
  go_ret
  refine ⟨?_, ?_⟩
  ·(try simp only [] at *)
   first | (simp [ckI, *]; done) | (simp [ckI, *]; omega)
  ·exact b_1
theorem s_check (v : V3) (w : World) :
    Calls Tryz.prog 43 #[.agg #[.int .i64 v.a, .int .i64 v.b, .int .i64 v.c, .int .i64 v.d, .int .i64 v.e, .int .i64 v.f]] w fun e w' => e = .returned (.int .i64 (ckV v)) ∧ Ext w w' := by
 have l0 : IntKind.i64.wrap 0 = 0 := rfl
 have l1 : IntKind.i64.wrap 1 = 1 := rfl
 have l2 : IntKind.i64.wrap 2 = 2 := rfl
 have l3 : IntKind.i64.wrap 3 = 3 := rfl
 go_enter Tryz.func43, Tryz.ntmps43
 go_wp2_with fail
 refine wp_loop_rounds 4 ?_
 repeat
  any_goals
   rw [rounds_succ]
   go_wp2_with (first | (go_at_call 93; (with_reducible refine (s_check1 _ _ _).mono ?_); rintro e w1 ⟨rfl, hb⟩; obtain ⟨_, _, ⟨hc, hf⟩, hz⟩ := hb.c3; (try simp only [World.size_alloc] at hz hc hf)))
 all_goals
  go_ret
  refine ⟨?_, ?_⟩
  ·(try simp only [bn_] at *)
   first | (simp [ckV, ck2, *]; done) | (simp [ckV, ck2, *]; omega)
  ·exact b_1
theorem s_look (a b : V3) (w : World) :
    Calls Tryz.prog 38 #[.agg #[.int .i64 a.a, .int .i64 a.b, .int .i64 a.c, .int .i64 a.d, .int .i64 a.e, .int .i64 a.f], .agg #[.int .i64 b.a, .int .i64 b.b, .int .i64 b.c, .int .i64 b.d, .int .i64 b.e, .int .i64 b.f]] w fun e w' => e = .returned (.int .i64 (ck2V a b)) ∧ Ext w w' := by
 have l0 : IntKind.i64.wrap 0 = 0 := rfl
 have l1 : IntKind.i64.wrap 1 = 1 := rfl
 have l2 : IntKind.i64.wrap 2 = 2 := rfl
 have l3 : IntKind.i64.wrap 3 = 3 := rfl
 go_enter Tryz.func38, Tryz.ntmps38
 go_wp2_with (first | (go_at_call 43; (with_reducible refine (s_check a _).mono ?_); rintro e w1 ⟨rfl, hb⟩; obtain ⟨_, _, ⟨hc, hf⟩, hz⟩ := hb.c3; (try simp only [World.size_alloc] at hz hc hf)) | (go_at_call 43; (with_reducible refine (s_check b _).mono ?_); rintro e w1 ⟨rfl, hb⟩; obtain ⟨_, _, ⟨hc, hf⟩, hz⟩ := hb.c3; (try simp only [wsz] at hz hc hf)))
 all_goals
  go_ret
  refine ⟨?_, ?_⟩
  ·(try simp only [bn_] at *)
   first | (simp [ck2V, *]; done) | (simp [ck2V, *]; omega)
  ·exact b_1
theorem s_nsq (a b c d : Int) (w : World) (ha : I64 a ∧ I64 b) :
    Calls Tryz.prog 44 #[.agg #[.int .i64 a, .int .i64 b], .agg #[.int .i64 c, .int .i64 d]] w fun e w' => e = .returned (.tuple #[.agg #[.int .i64 (sqI a b).lo, .int .i64 (sqI a b).hi], .int .i64 (sqI a b).e]) ∧ Ext w w' := by
 go_enter Tryz.func44, Tryz.ntmps44
 go_wp2_with (first | (go_at_call 45; (with_reducible refine (span_sq _ _ _ ha.1 ha.2).mono ?_); rintro e w1 ⟨rfl, hb⟩; obtain ⟨_, _, ⟨hc, hf⟩, hz⟩ := hb.c3; (try simp only [World.size_alloc] at hz hc hf)))
 all_goals
  refine bodyPost_ret (v := .tuple #[.agg #[.int .i64 (sqI a b).lo, .int .i64 (sqI a b).hi], .int .i64 (sqI a b).e]) ?_ rfl ⟨rfl, ?_⟩
  ·(try simp only [] at *)
   simp [results, Tryz.results44, go_sem, *]
  ·exact b_18
theorem s_begin (w : World) :
    Calls Tryz.prog 30 #[] w fun e w' => e = .returned (.pointer (some ⟨w.heap.size, 0, none⟩)) ∧ w' = w.alloc (.cells #[.func (.func 42) #[] #[], .func (.func 70) #[] #[], .func (.func 48) #[] #[], .func (.func 71) #[] #[], .int .i64 0] 74) := by
 go_enter Tryz.func30, Tryz.ntmps30
 go_wp2_with fail
 all_goals go_ret
 exact ⟨rfl, rfl⟩
theorem d_add (p : Nat) (E a b c d : Int) (w : World) (hc : w.cell? ⟨p, 4, none⟩ = some (.int .i64 E)) (hf : w.frozen? ⟨p, 4, none⟩ = false) :
    Calls Tryz.prog 32 #[.pointer (some ⟨p, 0, none⟩), .func (.func 42) #[] #[], .agg #[.int .i64 a, .int .i64 b], .agg #[.int .i64 c, .int .i64 d]] w fun e w' => e = .returned (.agg #[.int .i64 (doI E (addI a b c d)).lo, .int .i64 (doI E (addI a b c d)).hi]) ∧ Ext (w.setCell ⟨p, 4, none⟩ (.int .i64 ((doI E (addI a b c d)).e))) w' := by
 have hp : p < w.heap.size := World.block_lt_of_cell? w _ hc
 go_enter Tryz.func32, Tryz.ntmps32
 go_wp2_with (first | (go_at_call 42; (with_reducible refine (span_add _ _ _ _ _).mono ?_); rintro e w1 ⟨rfl, hb⟩; obtain ⟨_, _, ⟨hc, hf⟩, hz⟩ := hb.c3; (try simp only [World.size_alloc] at hz hc hf)))
 all_goals
  refine bodyPost_ret (v := .agg #[.int .i64 (doI E (addI a b c d)).lo, .int .i64 (doI E (addI a b c d)).hi]) ?_ rfl ⟨rfl, ?_⟩
  ·(try simp only [bn_] at *)
   simp [results, Tryz.results32, go_sem, ↓IntWalk.iteOmega, doI, *]
  ·refine ExtP.fin ?_ ?_ hp
   ·exact b_19
   ·(try simp only [bn_] at *)
    simp [go_sem, ↓IntWalk.iteOmega, doI, *]
theorem d_sub (p : Nat) (E a b c d : Int) (w : World) (hc : w.cell? ⟨p, 4, none⟩ = some (.int .i64 E)) (hf : w.frozen? ⟨p, 4, none⟩ = false) :
    Calls Tryz.prog 32 #[.pointer (some ⟨p, 0, none⟩), .func (.func 70) #[] #[], .agg #[.int .i64 a, .int .i64 b], .agg #[.int .i64 c, .int .i64 d]] w fun e w' => e = .returned (.agg #[.int .i64 (doI E (subI a b c d)).lo, .int .i64 (doI E (subI a b c d)).hi]) ∧ Ext (w.setCell ⟨p, 4, none⟩ (.int .i64 ((doI E (subI a b c d)).e))) w' := by
 have hp : p < w.heap.size := World.block_lt_of_cell? w _ hc
 go_enter Tryz.func32, Tryz.ntmps32
 go_wp2_with (first | (go_at_call 70; (with_reducible refine (span_sub _ _ _ _ _).mono ?_); rintro e w1 ⟨rfl, hb⟩; obtain ⟨_, _, ⟨hc, hf⟩, hz⟩ := hb.c3; (try simp only [World.size_alloc] at hz hc hf)))
 all_goals
  refine bodyPost_ret (v := .agg #[.int .i64 (doI E (subI a b c d)).lo, .int .i64 (doI E (subI a b c d)).hi]) ?_ rfl ⟨rfl, ?_⟩
  ·(try simp only [bn_] at *)
   simp [results, Tryz.results32, go_sem, ↓IntWalk.iteOmega, doI, *]
  ·refine ExtP.fin ?_ ?_ hp
   ·exact b_19
   ·(try simp only [bn_] at *)
    simp [go_sem, ↓IntWalk.iteOmega, doI, *]
theorem d_mul (p : Nat) (E a b c d : Int) (w : World) (hc : w.cell? ⟨p, 4, none⟩ = some (.int .i64 E)) (hf : w.frozen? ⟨p, 4, none⟩ = false) (ha : I64 a ∧ I64 b) (hc0 : I64 c ∧ I64 d) :
    Calls Tryz.prog 32 #[.pointer (some ⟨p, 0, none⟩), .func (.func 48) #[] #[], .agg #[.int .i64 a, .int .i64 b], .agg #[.int .i64 c, .int .i64 d]] w fun e w' => e = .returned (.agg #[.int .i64 (doI E (mulI a b c d)).lo, .int .i64 (doI E (mulI a b c d)).hi]) ∧ Ext (w.setCell ⟨p, 4, none⟩ (.int .i64 ((doI E (mulI a b c d)).e))) w' := by
 have hp : p < w.heap.size := World.block_lt_of_cell? w _ hc
 go_enter Tryz.func32, Tryz.ntmps32
 go_wp2_with (first | (go_at_call 48; (with_reducible refine (span_mul _ _ _ _ _ ha hc0).mono ?_); rintro e w1 ⟨rfl, hb⟩; obtain ⟨_, _, ⟨hc, hf⟩, hz⟩ := hb.c3; (try simp only [World.size_alloc] at hz hc hf)))
 all_goals
  refine bodyPost_ret (v := .agg #[.int .i64 (doI E (mulI a b c d)).lo, .int .i64 (doI E (mulI a b c d)).hi]) ?_ rfl ⟨rfl, ?_⟩
  ·(try simp only [bn_] at *)
   simp [results, Tryz.results32, go_sem, ↓IntWalk.iteOmega, doI, *]
  ·refine ExtP.fin ?_ ?_ hp
   ·exact b_19
   ·(try simp only [bn_] at *)
    simp [go_sem, ↓IntWalk.iteOmega, doI, *]
theorem d_sq (p : Nat) (E a b c d : Int) (w : World) (hc : w.cell? ⟨p, 4, none⟩ = some (.int .i64 E)) (hf : w.frozen? ⟨p, 4, none⟩ = false) (ha : I64 a ∧ I64 b) :
    Calls Tryz.prog 32 #[.pointer (some ⟨p, 0, none⟩), .func (.func 44) #[] #[], .agg #[.int .i64 a, .int .i64 b], .agg #[.int .i64 c, .int .i64 d]] w fun e w' => e = .returned (.agg #[.int .i64 (doI E (sqI a b)).lo, .int .i64 (doI E (sqI a b)).hi]) ∧ Ext (w.setCell ⟨p, 4, none⟩ (.int .i64 ((doI E (sqI a b)).e))) w' := by
 have hp : p < w.heap.size := World.block_lt_of_cell? w _ hc
 go_enter Tryz.func32, Tryz.ntmps32
 go_wp2_with (first | (go_at_call 44; (with_reducible refine (s_nsq _ _ _ _ _ ha).mono ?_); rintro e w1 ⟨rfl, hb⟩; obtain ⟨_, _, ⟨hc, hf⟩, hz⟩ := hb.c3; (try simp only [World.size_alloc] at hz hc hf)))
 all_goals
  refine bodyPost_ret (v := .agg #[.int .i64 (doI E (sqI a b)).lo, .int .i64 (doI E (sqI a b)).hi]) ?_ rfl ⟨rfl, ?_⟩
  ·(try simp only [bn_] at *)
   simp [results, Tryz.results32, go_sem, ↓IntWalk.iteOmega, doI, *]
  ·refine ExtP.fin ?_ ?_ hp
   ·exact b_19
   ·(try simp only [bn_] at *)
    simp [go_sem, ↓IntWalk.iteOmega, doI, *]
theorem ediv_le_pos {T c d : Int} (h : 0 ≤ T) (c0 : 0 < c) (hcd : c ≤ d) : T / d ≤ T / c := by
 have q : 0 ≤ T / d := Int.ediv_nonneg h (by omega)
 rw [Int.le_ediv_iff_mul_le c0]
 have h1 : T / d * c ≤ T / d * d := Int.mul_le_mul_of_nonneg_left hcd q
 have h2 : T / d * d ≤ T := Int.ediv_mul_le _ (by omega)
 omega
theorem ediv_le_neg {T c d : Int} (h : T < 0) (c0 : 0 < c) (hcd : c ≤ d) : T / c ≤ T / d := by
 have q : T / c < 0 := Int.ediv_neg_of_neg_of_pos h c0
 rw [Int.le_ediv_iff_mul_le (by omega)]
 have h1 : -(T / c) * c ≤ -(T / c) * d := Int.mul_le_mul_of_nonneg_left hcd (by omega)
 have h2 : T / c * c ≤ T := Int.ediv_mul_le _ (by omega)
 rw [Int.neg_mul, Int.neg_mul] at h1
 omega
theorem dn_min {T c d : Int} (c0 : 0 < c) (hcd : c ≤ d) : min (dnT T c) (dnT T d) = dnT T (if T < 0 then c else d) := by
 split
 ·have := ediv_le_neg ‹_› c0 hcd
  unfold dnT; omega
 ·have := ediv_le_pos (T := T) (by omega) c0 hcd
  unfold dnT; omega
theorem up_max {T c d : Int} (c0 : 0 < c) (hcd : c ≤ d) : max (upT T c) (upT T d) = upT T (if 0 < T then c else d) := by
 have h := dn_min (T := -T) c0 hcd
 have e : (if -T < 0 then c else d) = (if 0 < T then c else d) := by split <;> split <;> omega
 rw [e] at h
 unfold upT
 rw [← h]; omega
def divP (a b c d : Int) : R3 := madeI (dnT (a * 1099511627776) (if a < 0 then c else d)) (upT (b * 1099511627776) (if 0 < b then c else d))
def divI (a b c d : Int) : R3 := if ck2 a b c d ≠ 0 then ⟨0, 0, ck2 a b c d⟩ else if c ≤ 0 ∧ 0 ≤ d then ⟨0, 0, 18⟩ else if d < 0 then divP (-b) (-a) (-d) (-c) else divP a b c d
theorem divP_prog {a b c d : Int} (c0 : 0 < c) (hcd : c ≤ d) : divP a b c d = madeI (min (dnT (a * 1099511627776) c) (dnT (a * 1099511627776) d)) (max (upT (b * 1099511627776) c) (upT (b * 1099511627776) d)) := by
 unfold divP
 rw [dn_min c0 hcd, up_max c0 hcd]
 have e1 : (if a * 1099511627776 < 0 then c else d) = (if a < 0 then c else d) := by split <;> split <;> omega
 have e2 : (if 0 < b * 1099511627776 then c else d) = (if 0 < b then c else d) := by split <;> split <;> omega
 rw [e1, e2]
def IsRoot (x r : Int) : Prop := 0 ≤ r ∧ r * r ≤ x * 1099511627776 ∧ x * 1099511627776 < (r + 1) * (r + 1)
theorem sq_lt {r s : Int} (h0 : 0 ≤ s) (h : r * r < s * s) : r < s := by
 rcases Int.lt_or_le r s with h1 | h1
 ·exact h1
 ·have := Int.mul_le_mul h1 h1 h0 (by omega); omega
theorem IsRoot.one {x r s : Int} (h : IsRoot x r) (k : IsRoot x s) : r = s := by
 have h1 := sq_lt (r := r) (s := s + 1) (by have := k.1; omega) (by have := h.2.1; have := k.2.2; omega)
 have h2 := sq_lt (r := s) (s := r + 1) (by have := h.1; omega) (by have := k.2.1; have := h.2.2; omega)
 omega
noncomputable def rootI (x : Int) : Int := @Classical.epsilon Int ⟨0⟩ (IsRoot x)
theorem IsRoot.eq {x r : Int} (h : IsRoot x r) : r = rootI x := h.one (Classical.epsilon_spec (p := IsRoot x) ⟨r, h⟩)
theorem IsRoot.of {x r : Int} (h : IsRoot x r) : IsRoot x (rootI x) := h.eq ▸ h
noncomputable def sqrtI (a b : Int) : R3 := if ckI a b ≠ 0 then ⟨0, 0, ckI a b⟩ else if a < 0 then ⟨0, 0, 2⟩ else ⟨rootI a, if rootI b * rootI b = b * 1099511627776 then rootI b else rootI b + 1, 0⟩
def sc3I (a b : Int) : R3 := if ckI a b ≠ 0 then ⟨0, 0, ckI a b⟩ else madeI (dnT (a * 3) 1) (upT (b * 3) 1)
def absv (x : Int) : Int := if x < 0 then -x else x
def ovS (T d : Int) (up : Bool) : Int := if up then upT T d else dnT T d
theorem held3d {w W w' : World} {RB lo hi : Nat} {ob : Obj}
    (h : (∀ b o, b < W.heap.size → w'.drew.cell? ⟨b, o, none⟩ = if b = RB ∧ lo ≤ o ∧ o < hi then (W.cell? ⟨b, o, none⟩).map (obx w'.drew b o) else W.cell? ⟨b, o, none⟩) ∧ (∀ b o, b < W.heap.size → w'.drew.frozen? ⟨b, o, none⟩ = W.frozen? ⟨b, o, none⟩) ∧ W.heap.size ≤ w'.drew.heap.size ∧ Ext w w'.drew) :
    (∀ b o, b < W.heap.size → (w'.alloc ob).drew.cell? ⟨b, o, none⟩ = if b = RB ∧ lo ≤ o ∧ o < hi then (W.cell? ⟨b, o, none⟩).map (obx (w'.alloc ob).drew b o) else W.cell? ⟨b, o, none⟩) ∧ (∀ b o, b < W.heap.size → (w'.alloc ob).drew.frozen? ⟨b, o, none⟩ = W.frozen? ⟨b, o, none⟩) ∧ W.heap.size ≤ (w'.alloc ob).drew.heap.size ∧ Ext w (w'.alloc ob).drew :=
  held3 (w' := w'.drew) h
theorem heldDrop {w W w' : World} {RB lo hi : Nat} {ob : Obj} (h : (∀ b o, b < W.heap.size → (w'.alloc ob).cell? ⟨b, o, none⟩ = if b = RB ∧ lo ≤ o ∧ o < hi then (W.cell? ⟨b, o, none⟩).map (obx (w'.alloc ob) b o) else W.cell? ⟨b, o, none⟩) ∧ (∀ b o, b < W.heap.size → (w'.alloc ob).frozen? ⟨b, o, none⟩ = W.frozen? ⟨b, o, none⟩) ∧ W.heap.size ≤ (w'.alloc ob).heap.size ∧ Ext w (w'.alloc ob)) (hz : W.heap.size ≤ w'.heap.size) (hz2 : w.heap.size ≤ w'.heap.size) :
    (∀ b o, b < W.heap.size → (w').cell? ⟨b, o, none⟩ = if b = RB ∧ lo ≤ o ∧ o < hi then (W.cell? ⟨b, o, none⟩).map (obx (w') b o) else W.cell? ⟨b, o, none⟩) ∧ (∀ b o, b < W.heap.size → (w').frozen? ⟨b, o, none⟩ = W.frozen? ⟨b, o, none⟩) ∧ W.heap.size ≤ (w').heap.size ∧ Ext w (w') := by
 have hE := h.2.2.2
 have h3 := heldBackA ⟨h.1, h.2.1, h.2.2.1⟩ hz
 have hE' : Ext w w' := ⟨hE.os, hE.tape, hE.output, hz2, fun k hk => by
  rw [← hE.block k hk]; exact (Below.heap_alloc w' ob k (Nat.lt_of_lt_of_le hk hz2)).symm⟩
 exact ⟨h3.1, h3.2.1, h3.2.2, hE'⟩
theorem held5 {w W w' : World} {RB lo hi : Nat} {o1 o1' o2 : Obj} (h : (∀ b o, b < W.heap.size → ((w'.alloc o1).alloc o2).cell? ⟨b, o, none⟩ = if b = RB ∧ lo ≤ o ∧ o < hi then (W.cell? ⟨b, o, none⟩).map (obx ((w'.alloc o1).alloc o2) b o) else W.cell? ⟨b, o, none⟩) ∧ (∀ b o, b < W.heap.size → ((w'.alloc o1).alloc o2).frozen? ⟨b, o, none⟩ = W.frozen? ⟨b, o, none⟩) ∧ W.heap.size ≤ ((w'.alloc o1).alloc o2).heap.size ∧ Ext w ((w'.alloc o1).alloc o2)) (hz : W.heap.size ≤ w'.heap.size) (hz2 : w.heap.size ≤ w'.heap.size) :
    (∀ b o, b < W.heap.size → ((w'.alloc o1').alloc o2).cell? ⟨b, o, none⟩ = if b = RB ∧ lo ≤ o ∧ o < hi then (W.cell? ⟨b, o, none⟩).map (obx ((w'.alloc o1').alloc o2) b o) else W.cell? ⟨b, o, none⟩) ∧ (∀ b o, b < W.heap.size → ((w'.alloc o1').alloc o2).frozen? ⟨b, o, none⟩ = W.frozen? ⟨b, o, none⟩) ∧ W.heap.size ≤ ((w'.alloc o1').alloc o2).heap.size ∧ Ext w ((w'.alloc o1').alloc o2) :=
  held3 (held4 (heldDrop h (by simp only [World.size_alloc]; omega) (by simp only [World.size_alloc]; omega)) hz hz2)
theorem sdiv_p (a b c d : Int) (w : World) (hk : ck2 a b c d = 0) (h0 : 0 < c) :
    Calls Tryz.prog 71 #[.agg #[.int .i64 a, .int .i64 b], .agg #[.int .i64 c, .int .i64 d]] w fun e w' => e = .returned (.tuple #[.agg #[.int .i64 (divP a b c d).lo, .int .i64 (divP a b c d).hi], .int .i64 (divP a b c d).e]) ∧ Ext w w' := by
 obtain ⟨hk1, hk2⟩ := ck2_ok hk
 obtain ⟨ka1, ka2, ka3⟩ := ckI_ok hk1
 obtain ⟨kc1, kc2, kc3⟩ := ckI_ok hk2
 have hM : I64 1099511627776 := by unfold I64; omega
 have hA : I64 a := by unfold I64; omega
 have hB : I64 b := by unfold I64; omega
 have ec : IntKind.u64.wrap c = c := by rw [IntKind.wrap_u64]; omega
 have ed : IntKind.u64.wrap d = d := by rw [IntKind.wrap_u64]; omega
 have eV := divP_prog (a := a) (b := b) h0 kc1
 go_enter Tryz.func71, Tryz.ntmps71
 go_upto_region 9 with (first | (go_at_call 91; (with_reducible refine (check_2 _ _ _ _ _ _ c_30).mono ?_); rintro e w1 ⟨rfl, hb⟩; obtain ⟨_, _, ⟨hc, hf⟩, hz⟩ := hb.c3; (try simp only [wsz] at hz hc hf)))
 refine wp_name fun V hV => ?_
 obtain ⟨hVc, hVf, hVz⟩ := hV.cells
 have hVe : Ext w V := Ext.same hV ex_
 (try simp only [wsz] at hVz)
 replace hVz := And.intro (Nat.le_of_eq hVz) (Nat.le_of_eq hVz.symm)
 have hlv : w.heap.size < V.heap.size ∧ w.heap.size + 1 < V.heap.size ∧ w.heap.size + 1 + 1 < V.heap.size := (by refine ⟨?_, ?_, ?_⟩ <;> omega)
 have hd := q_4 w.heap.size (w.heap.size + 1) (w.heap.size + 1 + 1)
 have hnv : ¬ w.heap.size = V.heap.size ∧ ¬ w.heap.size + 1 = V.heap.size ∧ ¬ w.heap.size + 1 + 1 = V.heap.size := (by omega)
 go_cut [7, 8] (fun sx0 sx1 wx => ∃ g h : Nat, sx0 = .pointer (some ⟨g, 0, none⟩) ∧ sx1 = .pointer (some ⟨h, 0, none⟩) ∧ Ext V wx ∧ V.heap.size ≤ g ∧ g < wx.heap.size ∧ (∀ o, wx.frozen? ⟨g, o, none⟩ = false) ∧ V.heap.size ≤ h ∧ h < wx.heap.size ∧ (∀ o, wx.frozen? ⟨h, o, none⟩ = false) ∧ g ≠ h ∧ wx.cell? ⟨g, 0, none⟩ = some (.int .i64 ((a * 1099511627776) / 18446744073709551616)) ∧ wx.cell? ⟨g, 1, none⟩ = some (.int .u64 ((a * 1099511627776) % 18446744073709551616)) ∧ wx.cell? ⟨h, 0, none⟩ = some (.int .i64 ((b * 1099511627776) / 18446744073709551616)) ∧ wx.cell? ⟨h, 1, none⟩ = some (.int .u64 ((b * 1099511627776) % 18446744073709551616)))
 case first =>
  have hWe : Ext V V := Ext.refl V
  go_region_held3 (fun w' => (∀ b o, b < V.heap.size → w'.cell? ⟨b, o, none⟩ = if b = V.heap.size ∧ 0 ≤ o ∧ o < 0 then (V.cell? ⟨b, o, none⟩).map (obx w' b o) else V.cell? ⟨b, o, none⟩) ∧ (∀ b o, b < V.heap.size → w'.frozen? ⟨b, o, none⟩ = V.frozen? ⟨b, o, none⟩) ∧ V.heap.size ≤ w'.heap.size ∧ Ext V w') (exact k_1) ((first | (go_at_call 95; (with_reducible refine (times_any (a) 1099511627776 _ hA hM).mono ?_); rintro e w2 ⟨rfl, hb0⟩; obtain ⟨hq0, hr0⟩ := hb0.cells; have hz0 := hb0.size; (try simp only [wsd] at hz0 hq0 hr0); (try have hly0 : V.heap.size < w2.heap.size := by omega); (try have hly1 : V.heap.size + 1 < w2.heap.size := by omega)) | (go_at_call 95; (with_reducible refine (times_any (b) 1099511627776 _ hB hM).mono ?_); rintro e w3 ⟨rfl, hb1⟩; obtain ⟨hq1, hr1⟩ := hb1.cells; have hz1 := hb1.size; (try simp only [wsd] at hz1 hq1 hr1); (try have hly0 : V.heap.size < w3.heap.size := by omega); (try have hly1 : V.heap.size + 1 < w3.heap.size := by omega); (try have hly2 : w2.heap.size < w3.heap.size := by omega); (try have hly3 : w2.heap.size + 1 < w3.heap.size := by omega))))
  all_goals
   rename_i hOld
   clear hOld
   go_wp2_with fail
   go_meet
   refine ⟨_, _, rfl, rfl, ?_, ?_, ?_, ?_, ?_, ?_, ?_, ?_, ?_, ?_, ?_, ?_⟩
   ·exact b_20
   all_goals first | ((try simp only [wsz]); omega) | (intro o; simp [go_sem, ↓IntWalk.iteOmega, *]; done) | (simp [go_sem, ↓IntWalk.iteOmega, *]; done)
 case rest =>
  obtain ⟨g, h, rfl, rfl, hx, hg01, hg02, hgf0, hg11, hg12, hgf1, hgh, hv00, hv01, hv10, hv11⟩ := hcut
  obtain ⟨_, _, hcc, hcf⟩ := hx.cells2
  have hcz := hx.size
  replace hVe := hVe.trans hx
  have hlv2 : w.heap.size < wc.heap.size ∧ w.heap.size + 1 < wc.heap.size ∧ w.heap.size + 1 + 1 < wc.heap.size := (by omega)
  have hlg := q_2 w.heap.size g h (w.heap.size + 1) (w.heap.size + 1 + 1)
  clear hx
  go_wp2_with fail
  refine wp_name fun W hW => ?_
  obtain ⟨hWc, hWf, hWz⟩ := hW.cells
  have hlw : w.heap.size < wc.heap.size ∧ w.heap.size + 1 < wc.heap.size ∧ w.heap.size + 1 + 1 < wc.heap.size ∧ g < wc.heap.size ∧ h < wc.heap.size := (by omega)
  have hWe : Ext w W := Ext.same hW ex_
  (try simp only [wsz] at hWz)
  go_region_held3 (fun w' => (∀ b o, b < W.heap.size → w'.cell? ⟨b, o, none⟩ = if b = w.heap.size ∧ 0 ≤ o ∧ o < 0 then (W.cell? ⟨b, o, none⟩).map (obx w' b o) else W.cell? ⟨b, o, none⟩) ∧ (∀ b o, b < W.heap.size → w'.frozen? ⟨b, o, none⟩ = W.frozen? ⟨b, o, none⟩) ∧ W.heap.size ≤ w'.heap.size ∧ Ext w w') (exact k_2) (fail)
  rename_i hOld
  have hE := hOld.2.2.2
  have hO := And.intro hOld.1 (And.intro hOld.2.1 hOld.2.2.1)
  clear hOld
  obtain ⟨hOc, hOf, hOz⟩ := heldEnd hO
  clear hO
  go_wp2_with fail
  refine wp_name fun W hW => ?_
  obtain ⟨hWc, hWf, hWz⟩ := hW.cells
  have hlw : w.heap.size < wc.heap.size ∧ w.heap.size + 1 < wc.heap.size ∧ w.heap.size + 1 + 1 < wc.heap.size := (by omega)
  have hWe : Ext w W := Ext.same hW ex_
  (try simp only [wsz] at hWz)
  go_region_held3 (fun w' => (∀ b o, b < W.heap.size → w'.cell? ⟨b, o, none⟩ = if b = w.heap.size + 1 + 1 ∧ 0 ≤ o ∧ o < 2 then (W.cell? ⟨b, o, none⟩).map (obx w' b o) else W.cell? ⟨b, o, none⟩) ∧ (∀ b o, b < W.heap.size → w'.frozen? ⟨b, o, none⟩ = W.frozen? ⟨b, o, none⟩) ∧ W.heap.size ≤ w'.heap.size ∧ Ext w w') (exact k_2) ((first | (go_at_call 96; (with_reducible refine (down_any _ _ _ (abs_mul_bound hA hM).1 (abs_mul_bound hA hM).2 (by omega) (by omega)).mono ?_); rintro e w2 ⟨rfl, hb2⟩; have hz2 := hb2.size; (try rw [size_drew] at hz2)) | (go_at_call 97; (with_reducible refine (up_any _ _ _ (abs_mul_bound hB hM).1 (abs_mul_bound hB hM).2 (by omega) (by omega)).mono ?_); rintro e w2 ⟨rfl, hb2⟩; have hz2 := hb2.size; (try rw [size_drew] at hz2)) | (go_at_call 92; (with_reducible refine (span_made _ _ _).mono ?_); rintro e w2 ⟨rfl, hb2⟩; have hz2 := hb2.size; (try rw [size_drew] at hz2))))
  all_goals
   rename_i hOld
   have hE := hOld.2.2.2
   have hO := And.intro hOld.1 (And.intro hOld.2.1 hOld.2.2.1)
   clear hOld
   replace hO := heldBack hO c_9
   replace hO := heldBack hO c_9
   obtain ⟨hOc, hOf, hOz⟩ := heldEnd hO
   clear hO
   go_wp2_with fail
   refine bodyPost_ret (v := .tuple #[.agg #[.int .i64 (divP a b c d).lo, .int .i64 (divP a b c d).hi], .int .i64 (divP a b c d).e]) ?_ rfl ⟨rfl, ?_⟩
   ·(try simp only [bn_, bm_] at *)
    simp [results, Tryz.results71, go_sem, ↓IntWalk.iteOmega, eV, *]
   ·exact b_1
theorem sdiv_n (a b c d : Int) (w : World) (hk : ck2 a b c d = 0) (h0 : d < 0) :
    Calls Tryz.prog 71 #[.agg #[.int .i64 a, .int .i64 b], .agg #[.int .i64 c, .int .i64 d]] w fun e w' => e = .returned (.tuple #[.agg #[.int .i64 (divP (-b) (-a) (-d) (-c)).lo, .int .i64 (divP (-b) (-a) (-d) (-c)).hi], .int .i64 (divP (-b) (-a) (-d) (-c)).e]) ∧ Ext w w' := by
 obtain ⟨hk1, hk2⟩ := ck2_ok hk
 obtain ⟨ka1, ka2, ka3⟩ := ckI_ok hk1
 obtain ⟨kc1, kc2, kc3⟩ := ckI_ok hk2
 have hM : I64 1099511627776 := by unfold I64; omega
 have hA : I64 (-b) := by unfold I64; omega
 have hB : I64 (-a) := by unfold I64; omega
 have n1 : IntKind.i64.wrap (-b) = -b := by rw [IntKind.wrap_i64]; omega
 have n2 : IntKind.i64.wrap (-a) = -a := by rw [IntKind.wrap_i64]; omega
 have n3 : IntKind.i64.wrap (-d) = -d := by rw [IntKind.wrap_i64]; omega
 have n4 : IntKind.i64.wrap (-c) = -c := by rw [IntKind.wrap_i64]; omega
 have ec : IntKind.u64.wrap (-d) = -d := by rw [IntKind.wrap_u64]; omega
 have ed : IntKind.u64.wrap (-c) = -c := by rw [IntKind.wrap_u64]; omega
 have eV := divP_prog (a := -b) (b := -a) (c := -d) (d := -c) (by omega) (by omega)
 go_enter Tryz.func71, Tryz.ntmps71
 go_upto_region 9 with (first | (go_at_call 91; (with_reducible refine (check_2 _ _ _ _ _ _ c_30).mono ?_); rintro e w1 ⟨rfl, hb⟩; obtain ⟨_, _, ⟨hc, hf⟩, hz⟩ := hb.c3; (try simp only [wsz] at hz hc hf)))
 refine wp_name fun V hV => ?_
 obtain ⟨hVc, hVf, hVz⟩ := hV.cells
 have hVe : Ext w V := Ext.same hV ex_
 (try simp only [wsz] at hVz)
 replace hVz := And.intro (Nat.le_of_eq hVz) (Nat.le_of_eq hVz.symm)
 have hlv : w.heap.size < V.heap.size ∧ w.heap.size + 1 < V.heap.size ∧ w.heap.size + 1 + 1 < V.heap.size := (by refine ⟨?_, ?_, ?_⟩ <;> omega)
 have hd := q_4 w.heap.size (w.heap.size + 1) (w.heap.size + 1 + 1)
 have hnv : ¬ w.heap.size = V.heap.size ∧ ¬ w.heap.size + 1 = V.heap.size ∧ ¬ w.heap.size + 1 + 1 = V.heap.size := (by omega)
 go_cut [7, 8] (fun sx0 sx1 wx => ∃ g h : Nat, sx0 = .pointer (some ⟨g, 0, none⟩) ∧ sx1 = .pointer (some ⟨h, 0, none⟩) ∧ Ext V wx ∧ V.heap.size ≤ g ∧ g < wx.heap.size ∧ (∀ o, wx.frozen? ⟨g, o, none⟩ = false) ∧ V.heap.size ≤ h ∧ h < wx.heap.size ∧ (∀ o, wx.frozen? ⟨h, o, none⟩ = false) ∧ g ≠ h ∧ wx.cell? ⟨g, 0, none⟩ = some (.int .i64 ((-b * 1099511627776) / 18446744073709551616)) ∧ wx.cell? ⟨g, 1, none⟩ = some (.int .u64 ((-b * 1099511627776) % 18446744073709551616)) ∧ wx.cell? ⟨h, 0, none⟩ = some (.int .i64 ((-a * 1099511627776) / 18446744073709551616)) ∧ wx.cell? ⟨h, 1, none⟩ = some (.int .u64 ((-a * 1099511627776) % 18446744073709551616)))
 case first =>
  have hWe : Ext V V := Ext.refl V
  go_region_held3 (fun w' => (∀ b o, b < V.heap.size → w'.cell? ⟨b, o, none⟩ = if b = V.heap.size ∧ 0 ≤ o ∧ o < 0 then (V.cell? ⟨b, o, none⟩).map (obx w' b o) else V.cell? ⟨b, o, none⟩) ∧ (∀ b o, b < V.heap.size → w'.frozen? ⟨b, o, none⟩ = V.frozen? ⟨b, o, none⟩) ∧ V.heap.size ≤ w'.heap.size ∧ Ext V w') (exact k_1) ((first | (go_at_call 95; (with_reducible refine (times_any (-b) 1099511627776 _ hA hM).mono ?_); rintro e w2 ⟨rfl, hb0⟩; obtain ⟨hq0, hr0⟩ := hb0.cells; have hz0 := hb0.size; (try simp only [wsd] at hz0 hq0 hr0); (try have hly0 : V.heap.size < w2.heap.size := by omega); (try have hly1 : V.heap.size + 1 < w2.heap.size := by omega)) | (go_at_call 95; (with_reducible refine (times_any (-a) 1099511627776 _ hB hM).mono ?_); rintro e w3 ⟨rfl, hb1⟩; obtain ⟨hq1, hr1⟩ := hb1.cells; have hz1 := hb1.size; (try simp only [wsd] at hz1 hq1 hr1); (try have hly0 : V.heap.size < w3.heap.size := by omega); (try have hly1 : V.heap.size + 1 < w3.heap.size := by omega); (try have hly2 : w2.heap.size < w3.heap.size := by omega); (try have hly3 : w2.heap.size + 1 < w3.heap.size := by omega))))
  all_goals
   rename_i hOld
   clear hOld
   go_wp2_with fail
   go_meet
   refine ⟨_, _, rfl, rfl, ?_, ?_, ?_, ?_, ?_, ?_, ?_, ?_, ?_, ?_, ?_, ?_⟩
   ·exact b_20
   all_goals first | ((try simp only [wsz]); omega) | (intro o; simp [go_sem, ↓IntWalk.iteOmega, *]; done) | (simp [go_sem, ↓IntWalk.iteOmega, *]; done)
 case rest =>
  obtain ⟨g, h, rfl, rfl, hx, hg01, hg02, hgf0, hg11, hg12, hgf1, hgh, hv00, hv01, hv10, hv11⟩ := hcut
  obtain ⟨_, _, hcc, hcf⟩ := hx.cells2
  have hcz := hx.size
  replace hVe := hVe.trans hx
  have hlv2 : w.heap.size < wc.heap.size ∧ w.heap.size + 1 < wc.heap.size ∧ w.heap.size + 1 + 1 < wc.heap.size := (by omega)
  have hlg := q_2 w.heap.size g h (w.heap.size + 1) (w.heap.size + 1 + 1)
  clear hx
  go_wp2_with fail
  refine wp_name fun W hW => ?_
  obtain ⟨hWc, hWf, hWz⟩ := hW.cells
  have hlw : w.heap.size < wc.heap.size ∧ w.heap.size + 1 < wc.heap.size ∧ w.heap.size + 1 + 1 < wc.heap.size ∧ g < wc.heap.size ∧ h < wc.heap.size := (by omega)
  have hWe : Ext w W := Ext.same hW ex_
  (try simp only [wsz] at hWz)
  go_region_held3 (fun w' => (∀ b o, b < W.heap.size → w'.cell? ⟨b, o, none⟩ = if b = w.heap.size ∧ 0 ≤ o ∧ o < 0 then (W.cell? ⟨b, o, none⟩).map (obx w' b o) else W.cell? ⟨b, o, none⟩) ∧ (∀ b o, b < W.heap.size → w'.frozen? ⟨b, o, none⟩ = W.frozen? ⟨b, o, none⟩) ∧ W.heap.size ≤ w'.heap.size ∧ Ext w w') (exact k_2) (fail)
  rename_i hOld
  have hE := hOld.2.2.2
  have hO := And.intro hOld.1 (And.intro hOld.2.1 hOld.2.2.1)
  clear hOld
  obtain ⟨hOc, hOf, hOz⟩ := heldEnd hO
  clear hO
  go_wp2_with fail
  refine wp_name fun W hW => ?_
  obtain ⟨hWc, hWf, hWz⟩ := hW.cells
  have hlw : w.heap.size < wc.heap.size ∧ w.heap.size + 1 < wc.heap.size ∧ w.heap.size + 1 + 1 < wc.heap.size := (by omega)
  have hWe : Ext w W := Ext.same hW ex_
  (try simp only [wsz] at hWz)
  go_region_held3 (fun w' => (∀ b o, b < W.heap.size → w'.cell? ⟨b, o, none⟩ = if b = w.heap.size + 1 + 1 ∧ 0 ≤ o ∧ o < 2 then (W.cell? ⟨b, o, none⟩).map (obx w' b o) else W.cell? ⟨b, o, none⟩) ∧ (∀ b o, b < W.heap.size → w'.frozen? ⟨b, o, none⟩ = W.frozen? ⟨b, o, none⟩) ∧ W.heap.size ≤ w'.heap.size ∧ Ext w w') (exact k_2) ((first | (go_at_call 96; (with_reducible refine (down_any _ _ _ (abs_mul_bound hA hM).1 (abs_mul_bound hA hM).2 (by omega) (by omega)).mono ?_); rintro e w2 ⟨rfl, hb2⟩; have hz2 := hb2.size; (try rw [size_drew] at hz2)) | (go_at_call 97; (with_reducible refine (up_any _ _ _ (abs_mul_bound hB hM).1 (abs_mul_bound hB hM).2 (by omega) (by omega)).mono ?_); rintro e w2 ⟨rfl, hb2⟩; have hz2 := hb2.size; (try rw [size_drew] at hz2)) | (go_at_call 92; (with_reducible refine (span_made _ _ _).mono ?_); rintro e w2 ⟨rfl, hb2⟩; have hz2 := hb2.size; (try rw [size_drew] at hz2))))
  all_goals
   rename_i hOld
   have hE := hOld.2.2.2
   have hO := And.intro hOld.1 (And.intro hOld.2.1 hOld.2.2.1)
   clear hOld
   replace hO := heldBack hO c_9
   replace hO := heldBack hO c_9
   obtain ⟨hOc, hOf, hOz⟩ := heldEnd hO
   clear hO
   go_wp2_with fail
   refine bodyPost_ret (v := .tuple #[.agg #[.int .i64 (divP (-b) (-a) (-d) (-c)).lo, .int .i64 (divP (-b) (-a) (-d) (-c)).hi], .int .i64 (divP (-b) (-a) (-d) (-c)).e]) ?_ rfl ⟨rfl, ?_⟩
   ·(try simp only [bn_, bm_] at *)
    simp [results, Tryz.results71, go_sem, ↓IntWalk.iteOmega, eV, *]
   ·exact b_1
theorem sdiv_e (a b c d : Int) (w : World) (hk : ¬ ck2 a b c d = 0) :
    Calls Tryz.prog 71 #[.agg #[.int .i64 a, .int .i64 b], .agg #[.int .i64 c, .int .i64 d]] w fun e w' => e = .returned (.tuple #[.agg #[.int .i64 (R3.mk 0 0 (ck2 a b c d)).lo, .int .i64 (R3.mk 0 0 (ck2 a b c d)).hi], .int .i64 (R3.mk 0 0 (ck2 a b c d)).e]) ∧ Ext w w' := by
 go_enter Tryz.func71, Tryz.ntmps71
 go_wp2_with (first | (go_at_call 91; (with_reducible refine (check_2 _ _ _ _ _ _ c_30).mono ?_); rintro e w1 ⟨rfl, hb⟩; obtain ⟨_, _, ⟨hc, hf⟩, hz⟩ := hb.c3; (try simp only [wsz] at hz hc hf)))
 all_goals
  refine bodyPost_ret (v := .tuple #[.agg #[.int .i64 (R3.mk 0 0 (ck2 a b c d)).lo, .int .i64 (R3.mk 0 0 (ck2 a b c d)).hi], .int .i64 (R3.mk 0 0 (ck2 a b c d)).e]) ?_ rfl ⟨rfl, ?_⟩
  ·(try simp only [bn_, bm_] at *)
   simp [results, Tryz.results71, go_sem, ↓IntWalk.iteOmega, ne_eq, *]
  ·exact b_1
theorem sdiv_z (a b c d : Int) (w : World) (hk : ck2 a b c d = 0) (h0 : c ≤ 0) (h1 : 0 ≤ d) :
    Calls Tryz.prog 71 #[.agg #[.int .i64 a, .int .i64 b], .agg #[.int .i64 c, .int .i64 d]] w fun e w' => e = .returned (.tuple #[.agg #[.int .i64 (R3.mk 0 0 18).lo, .int .i64 (R3.mk 0 0 18).hi], .int .i64 (R3.mk 0 0 18).e]) ∧ Ext w w' := by
 go_enter Tryz.func71, Tryz.ntmps71
 go_wp2_with (first | (go_at_call 91; (with_reducible refine (check_2 _ _ _ _ _ _ c_30).mono ?_); rintro e w1 ⟨rfl, hb⟩; obtain ⟨_, _, ⟨hc, hf⟩, hz⟩ := hb.c3; (try simp only [wsz] at hz hc hf)))
 all_goals
  refine bodyPost_ret (v := .tuple #[.agg #[.int .i64 (R3.mk 0 0 18).lo, .int .i64 (R3.mk 0 0 18).hi], .int .i64 (R3.mk 0 0 18).e]) ?_ rfl ⟨rfl, ?_⟩
  ·(try simp only [bn_, bm_] at *)
   simp [results, Tryz.results71, go_sem, ↓IntWalk.iteOmega, ne_eq, *]
  ·exact b_1
theorem span_div (a b c d : Int) (w : World) :
    Calls Tryz.prog 71 #[.agg #[.int .i64 a, .int .i64 b], .agg #[.int .i64 c, .int .i64 d]] w fun e w' => e = .returned (.tuple #[.agg #[.int .i64 (divI a b c d).lo, .int .i64 (divI a b c d).hi], .int .i64 (divI a b c d).e]) ∧ Ext w w' := by
 by_cases hk : ck2 a b c d = 0
 ·by_cases h0 : c ≤ 0 ∧ 0 ≤ d
  ·have e : divI a b c d = ⟨0, 0, 18⟩ := by unfold divI; rw [if_neg (by simpa using hk), if_pos h0]
   rw [e]; exact sdiv_z a b c d w hk h0.1 h0.2
  ·have hc := (ckI_ok (ck2_ok hk).2).1
   by_cases h1 : d < 0
   ·have e : divI a b c d = divP (-b) (-a) (-d) (-c) := by unfold divI; rw [if_neg (by simpa using hk), if_neg h0, if_pos h1]
    rw [e]; exact sdiv_n a b c d w hk h1
   ·have e : divI a b c d = divP a b c d := by unfold divI; rw [if_neg (by simpa using hk), if_neg h0, if_neg h1]
    rw [e]; exact sdiv_p a b c d w hk (by omega)
 ·have e : divI a b c d = ⟨0, 0, ck2 a b c d⟩ := by unfold divI; rw [if_pos (by simpa using hk)]
  rw [e]; exact sdiv_e a b c d w hk
end Go.Proofs.YtaoioncjmfcolaaGreat
