/- span: Of.; Plain functions on vectors of intervals.; Plain functions: quotients, roots.; planisphereref03: numbers of two words with a sign. -/
import Derived.Test.YtogblocakccbgaaGreatJ00
import Derived.Test.YtogblocakccbgaaGreatJ07
import Derived.Test.YtogblocakccbgaaGreatJ10
import Derived.Test.YtogblocakccbgaaGreatJ11
import Derived.Test.YtogblocakccbgaaGreatJ13
import Derived.Test.YtogblocakccbgaaGreatJ14
set_option linter.unusedSimpArgs false
set_option linter.unusedVariables false
set_option maxRecDepth 100000
set_option maxHeartbeats 4000000
namespace Go.Proofs.YtogblocakccbgaaGreat
open Go.RowKit
theorem s_Of (vf : Value) (P D n r1 lo1 : Nat) (w : World) (hf : Fq w vf P D) (hP : P < 9223372036854775808) (hD : D < 4611686018427387904) (hD0 : 0 < D) (hg : Nat.gcd P D = 1) (hn : P / D = n) (hn2 : n ≤ 1000) (hr : ofF D 40 (P % D) (n * 1099511627776) = (r1, lo1)) (hr1 : 0 < r1) (hr2 : r1 < 9223372036854775808) (hl1 : lo1 ≤ 2000000000000000) :
    Calls Tryz.prog 140 #[vf] w fun e w' => e = .returned (.tuple #[.agg #[.int .i64 lo1, .int .i64 ((lo1 : Int) + 1)], .int .i64 0]) ∧ Ext w w' := by
 have sP : Small P := dig_len2 hP
 have sD : Small D := dig_len2 (by omega)
 have hck := fun w1 (k1 : Ext w w1) => w_fCheck vf P D w1 (hf.ext k1) sP sD hD0 hg
 obtain ⟨u, s, rfl, hu, hs⟩ := hf
 obtain ⟨ao, b1, o1, cap1, rfl, -⟩ := hu.view
 obtain ⟨bo, b2, o2, cap2, rfl, -⟩ := hs.view
 have hdm := fun w1 (k1 : Ext w w1) => w_DivMod (.agg #[.bool false, .slice ao (dig P).length cap1]) (.agg #[.bool false, .slice bo (dig D).length cap2]) P D w1 ⟨_, rfl, hu.ext k1⟩ ⟨_, rfl, hs.ext k1⟩ sP hD0 sD
 rw [hn] at hdm
 have hnD : ∀ w1, Ext w w1 → Nn w1 (.agg #[.bool false, .slice bo (dig D).length cap2]) D := fun w1 k1 => ⟨_, rfl, hs.ext k1⟩
 have hin := fun v w1 (h : Nn w1 v n) => z_Int v n w1 h.wid (by omega) (by omega)
 have hr0 : P % D < D := Nat.mod_lt _ hD0
 generalize P % D = r0 at hdm hr hr0
 have hmd : ∀ w1, Calls Tryz.prog 95 #[.int .i64 lo1, .int .i64 ((lo1 : Int) + 1)] w1 fun e w' => e = .returned (.tuple #[.agg #[.int .i64 lo1, .int .i64 ((lo1 : Int) + 1)], .int .i64 0]) ∧ Ext w1 w' := fun w1 => by
  have := span_made lo1 ((lo1 : Int) + 1) w1
  have e : madeI (lo1 : Int) ((lo1 : Int) + 1) = ⟨lo1, (lo1 : Int) + 1, 0⟩ := by unfold madeI; rw [if_neg (by omega)]
  rw [e] at this; exact this
 have hnI : (n : Int) ≤ 1000 := by omega
 have hlI : (lo1 : Int) ≤ 2000000000000000 := by omega
 have hr1p := dig_pos.2 hr1
 have hr1I : decide ((0 : Int) < ((dig r1).length : Int)) = true := decide_eq_true (by omega)
 have hr1N : decide (0 < (dig r1).length) = true := decide_eq_true hr1p
 clear hu hs hn
 go_enter Tryz.func140, Tryz.ntmps140
 go_wp2_with (first
  | (go_at_call 187; (with_reducible refine (hck _ ex_).mono ?_); rintro e w1 ⟨rfl, hb1⟩; obtain ⟨_, _, hc1, hf1⟩ := hb1.cells2; have hz1 := hb1.size; (try simp only [wsz] at hz1 hc1 hf1); clear hck)
  | (go_at_call 63; (with_reducible refine (hdm _ ex_).mono ?_); rintro e w2 ⟨y1, y2, rfl, hy1, hy2, hb2⟩; obtain ⟨ao3, cap3, rfl, hy3⟩ := hy1.open; obtain ⟨ao4, cap4, rfl, hy4⟩ := hy2.open; obtain ⟨_, _, hc2, hf2⟩ := hb2.cells2; have hz2 := hb2.size; (try simp only [wsz] at hz2 hc2 hf2); clear hdm)
  | (go_at_call 119; (with_reducible refine (hin _ _ (hy3.ext ex_)).mono ?_); rintro e w3 ⟨rfl, hb3⟩; obtain ⟨_, _, hc3, hf3⟩ := hb3.cells2; have hz3 := hb3.size; (try simp only [wsz] at hz3 hc3 hf3); clear hin))
 have hWT0 : WAt w3 (w2.heap.size + 1) (r0 : Int) := by
  have h := (WAt.lit (w := w2.alloc (.cells #[.bool false, .slice ao3 (dig n).length cap3] 24)) (hy4.wid.ext ((Ext.refl w2).alloc (.cells #[.bool false, .slice ao3 (dig n).length cap3] 24)))).ext hb3
  simpa using h
 have hE2 : Ext ((w.alloc (.cells #[.bool false, .slice ao (dig P).length cap1, .bool false, .slice bo (dig D).length cap2] 145)).alloc (.cells #[.int .i64 0, .int .i64 0] 31)) w2 := ex_
 have hE0 : Ext ((w.alloc (.cells #[.bool false, .slice ao (dig P).length cap1, .bool false, .slice bo (dig D).length cap2] 145)).alloc (.cells #[.int .i64 0, .int .i64 0] 31)) w3 := Ext.trans hE2 (Ext.trans (((Ext.refl w2).alloc _).alloc _) hb3)
 have f2 : w3.cell? ⟨w.heap.size, 2, none⟩ = some (.bool false) := (hE0.cells.1 _ 2 c_29).trans c_20
 have f3 : w3.cell? ⟨w.heap.size, 3, none⟩ = some (.slice bo (dig D).length cap2) := (hE0.cells.1 _ 3 c_29).trans c_20
 have e0 : w3.cell? ⟨w.heap.size + 1, 0, none⟩ = some (.int .i64 0) := (hE0.cells.1 _ 0 (by simp)).trans c_20
 have e1 : w3.cell? ⟨w.heap.size + 1, 1, none⟩ = some (.int .i64 0) := (hE0.cells.1 _ 1 (by simp)).trans c_20
 have e2 : ∀ o, w3.frozen? ⟨w.heap.size + 1, o, none⟩ = false := fun o => (hE0.cells.2 _ o (by simp)).trans c_20
 have hEw : Ext w w3 := Ext.trans (((Ext.refl w).alloc _).alloc _) hE0
 have hs2 := hE2.size
 have hs3 := hb3.size
 simp only [World.size_alloc] at hs2 hs3
 have hnT := hWT0.noU
 obtain ⟨T, hT⟩ : ∃ T, w2.heap.size + 1 = T := ⟨_, rfl⟩
 rw [hT] at hWT0 hnT ⊢
 have hTw : w.heap.size + 1 < T := by omega
 have hT3 : T < w3.heap.size := by omega
 clear hE2 hE0 hT hs2 hs3 hy1 hy2 hy3 hy4 hb1 hb2 hb3 hc1 hc2 hc3 hf1 hf2 hf3 hz1 hz2 hz3
 go_loopw [10, 11] (fun a b wr => ∃ k r lo : Nat, a = .int .i64 (lo : Int) ∧ b = .int .i64 ((k : Int) - 1) ∧ Hid (ofF D k r lo = (r1, lo1)) ∧ r < D ∧ Hid (k ≤ 40 ∧ lo + 2 ^ k ≤ 1100611139403776) ∧ Hid (WAt wr T (r : Int)) ∧ Hid (GB T w3 wr)) (fun _ b _ => (intOf b + 1).toNat)
 case atStart => exact ⟨40, r0, n * 1099511627776, by go_num, rfl, hr, hr0, ⟨by omega, by omega⟩, hWT0, GB.refl _ _⟩
 case round =>
  obtain ⟨k', r, lo, rfl, rfl, hA, hrD, hlo, hWT, hG⟩ := hrel
  clear hWT0 hr hr0
  obtain ⟨hk40, hlo⟩ := hlo.out
  have hGs := hG.out.size
  have g0 := (hG.out.cell (o := 0) (show w.heap.size + 1 < w3.heap.size by omega) (by omega)).trans e0
  have g1 := (hG.out.cell (o := 1) (show w.heap.size + 1 < w3.heap.size by omega) (by omega)).trans e1
  have g2 : ∀ o, wr.frozen? ⟨w.heap.size + 1, o, none⟩ = false := fun o => (hG.out.frozen (o := o) (show w.heap.size + 1 < w3.heap.size by omega) (by omega)).trans (e2 o)
  have g3 := (hG.out.cell (o := 2) (show w.heap.size < w3.heap.size by omega) (by omega)).trans f2
  have g4 := (hG.out.cell (o := 3) (show w.heap.size < w3.heap.size by omega) (by omega)).trans f3
  have hND : Nn wr (.agg #[.bool false, .slice bo (dig D).length cap2]) D := by
   obtain ⟨u, e, hu⟩ := hnD w3 hEw
   exact ⟨u, e, hu.grown hnT hG.out⟩
  obtain ⟨aoR, capR, t0, t1, hNr, hfR⟩ := hWT.out.openN
  have hTl := hWT.out.lt
  have sr : Small r := dig_len2 (by omega)
  match k', hA, hk40, hlo with
  | 0, hA, _, _ =>
   have hA' := hA.out
   simp only [ofF, Prod.mk.injEq] at hA'
   obtain ⟨ea, eb⟩ := hA'
   subst ea
   subst eb
   have hEr : Ext w wr := GB.pre hEw hG.out (by omega)
   go_wp2_with (go_at_call 95; (with_reducible refine (hmd _).mono ?_); rintro e w9 ⟨rfl, hb9⟩; obtain ⟨_, _, hc9, hf9⟩ := hb9.cells2; have hz9 := hb9.size; (try simp only [wsz] at hz9 hc9 hf9))
   refine bodyPost_ret (v := .tuple #[.agg #[.int .i64 (lo : Int), .int .i64 ((lo : Int) + 1)], .int .i64 0]) ?_ rfl ⟨rfl, ?_⟩
   ·simp [results, Tryz.results140, go_sem, ↓IntWalk.iteOmega, *]
   ·exact Ext.setCell (Ext.setCell (Ext.trans hEr hb9) (Nat.le_succ _) _) (Nat.le_succ _) _
  | k + 1, hA, hk40, hlo =>
   have hA' := hA.out
   have hkk : (((k + 1 : Nat) : Int) - 1) = (k : Int) := by omega
   rw [hkk]
   have h2s : 2 ^ (k + 1) = 2 * 2 ^ k := by rw [Nat.pow_succ]; omega
   have sl : Small (D - r) := dig_len2 (by omega)
   have hsl : ∀ w1, Ext wr w1 → Calls Tryz.prog 115 #[.agg #[.bool false, .slice bo (dig D).length cap2], .agg #[.bool false, .slice aoR (dig r).length capR]] w1 fun e w' => ∃ u, e = .returned (.tuple #[u, .int .i64 0]) ∧ Nn w' u (D - r) ∧ Ext w1 w' := fun w1 k1 => by
    refine (z_Sub _ _ D r w1 (hND.ext k1).wid (hNr.ext k1).wid (by unfold Sz; rw [Int.natAbs_natCast]; exact sD) (by unfold Sz; rw [Int.natAbs_natCast]; exact sr) (dig_bits (k := 64) (L := 4096) (by omega) (by decide))).mono ?_
    rintro e w2 ⟨u, rfl, h2, h3⟩
    exact ⟨u, rfl, h2.natE (by omega), h3⟩
   unfold ofF at hA'
   by_cases hless : r < D - r
   ·rw [if_pos hless] at hA'
    have hkI : (k : Int) ≤ 39 := by omega
    have hcp : ∀ va w1, Nn w1 va (D - r) → Ext wr w1 → Calls Tryz.prog 56 #[.agg #[.bool false, .slice aoR (dig r).length capR], va] w1 fun e w' => e = .returned (.tuple #[.int .i64 (-1), .int .i64 0]) ∧ Ext w1 w' := fun va w1 h k1 => by
     have := w_Cmp _ va r (D - r) w1 (hNr.ext k1) h sr sl
     rw [cmp_lt (show (r : Int) < ((D - r : Nat) : Int) by omega)] at this
     exact this
    have s2 : Small (r + r) := dig_len2 (by omega)
    go_wp2_with (first
     | (go_at_call 115; (with_reducible refine (hsl _ (Ext.refl _)).mono ?_); rintro e w7 ⟨y1, rfl, hy2, hb7⟩; obtain ⟨ao1, capl, rfl, hy3⟩ := hy2.open; obtain ⟨_, _, hc7, hf7⟩ := hb7.cells2; have hz7 := hb7.size; (try simp only [wsz] at hz7 hc7 hf7); clear hsl)
     | (go_at_call 56; (with_reducible refine (hcp _ _ (hy3.ext ex_) ex_).mono ?_); rintro e w8 ⟨rfl, hb8⟩; obtain ⟨_, _, hc8, hf8⟩ := hb8.cells2; have hz8 := hb8.size; (try simp only [wsz] at hz8 hc8 hf8); clear hcp)
     | (go_at_call 116; (with_reducible refine (w_Add _ _ r r _ (hNr.ext ex_) (hNr.ext ex_) sr sr s2).mono ?_); rintro e w9 ⟨y5, rfl, hy5, hb9⟩; obtain ⟨ao9, cap9, rfl, hy6⟩ := hy5.open; obtain ⟨_, _, hc9, hf9⟩ := hb9.cells2; have hz9 := hb9.size; (try simp only [wsz] at hz9 hc9 hf9)))
    have hE3 : Ext wr w9 := ex_
    have hT3' := hWT.out.ext hE3
    have hst := Bx2.store hT3'.box hy6.wid
    have hG3 : Hid (GB T w3 ((w9.setCell ⟨T, 0, none⟩ (.bool false)).setCell ⟨T, 1, none⟩ (.slice ao9 (dig (r + r)).length cap9))) := ((hG.out.trans (GB.ext hE3)).set _).set _
    replace hst : Hid _ := hst
    replace hA' : Hid _ := hA'
    go_roundw
    case rel => exact ⟨k, (r + r), lo, rfl, by go_num, hA', by omega, ⟨by omega, by omega⟩, hst, hG3⟩
    case measure => simp [intOf] <;> omega
   ·rw [if_neg hless] at hA'
    have hkI : (k : Int) ≤ 39 := by omega
    obtain ⟨C, hC⟩ : ∃ C, cmpI (r : Int) ((D - r : Nat) : Int) = C := ⟨_, rfl⟩
    have hC0 : decide (C < 0) = false := by
     rw [← hC]; unfold cmpI; rw [if_neg (by omega)]; split <;> rfl
    have hcp : ∀ va w1, Nn w1 va (D - r) → Ext wr w1 → Calls Tryz.prog 56 #[.agg #[.bool false, .slice aoR (dig r).length capR], va] w1 fun e w' => e = .returned (.tuple #[.int .i64 C, .int .i64 0]) ∧ Ext w1 w' := fun va w1 h k1 => by
     have := w_Cmp _ va r (D - r) w1 (hNr.ext k1) h sr sl
     rw [hC] at this
     exact this
    clear hC
    have hs2 : ∀ va w1, Nn w1 va (D - r) → Ext wr w1 → Calls Tryz.prog 115 #[.agg #[.bool false, .slice aoR (dig r).length capR], va] w1 fun e w' => ∃ u, e = .returned (.tuple #[u, .int .i64 0]) ∧ Nn w' u (r - (D - r)) ∧ Ext w1 w' := fun va w1 h k1 => by
     refine (z_Sub _ va r (D - r : Nat) w1 (hNr.ext k1).wid h.wid (by unfold Sz; rw [Int.natAbs_natCast]; exact sr) (by unfold Sz; rw [Int.natAbs_natCast]; exact sl) (dig_bits (k := 64) (L := 4096) (by omega) (by decide))).mono ?_
     rintro e w2 ⟨u, rfl, h2, h3⟩
     exact ⟨u, rfl, h2.natE (by omega), h3⟩
    have h2k : (2 : Int) ^ k ≤ 549755813888 := two_pow_le (t := 39) (by omega)
    have h2k0 : (0 : Int) < 2 ^ k := Int.pow_pos (by decide)
    have hloI : (lo : Int) ≤ 1100611139403776 := by omega
    go_wp2_with (first
     | (go_at_call 115; (with_reducible refine (hsl _ (Ext.refl _)).mono ?_); rintro e w7 ⟨y1, rfl, hy2, hb7⟩; obtain ⟨ao1, capl, rfl, hy3⟩ := hy2.open; obtain ⟨_, _, hc7, hf7⟩ := hb7.cells2; have hz7 := hb7.size; (try simp only [wsz] at hz7 hc7 hf7); clear hsl)
     | (go_at_call 56; (with_reducible refine (hcp _ _ (hy3.ext ex_) ex_).mono ?_); rintro e w8 ⟨rfl, hb8⟩; obtain ⟨_, _, hc8, hf8⟩ := hb8.cells2; have hz8 := hb8.size; (try simp only [wsz] at hz8 hc8 hf8); clear hcp)
     | (go_at_call 115; (with_reducible refine (hs2 _ _ (hy3.ext ex_) ex_).mono ?_); rintro e w9 ⟨y5, rfl, hy5, hb9⟩; obtain ⟨ao9, cap9, rfl, hy6⟩ := hy5.open; obtain ⟨_, _, hc9, hf9⟩ := hb9.cells2; have hz9 := hb9.size; (try simp only [wsz] at hz9 hc9 hf9)))
    have hE3 : Ext wr w9 := ex_
    have hT3' := hWT.out.ext hE3
    have hst := Bx2.store hT3'.box hy6.wid
    have hG3 : Hid (GB T w3 ((w9.setCell ⟨T, 0, none⟩ (.bool false)).setCell ⟨T, 1, none⟩ (.slice ao9 (dig (r - (D - r))).length cap9))) := ((hG.out.trans (GB.ext hE3)).set _).set _
    replace hst : Hid _ := hst
    replace hA' : Hid _ := hA'
    go_roundw
    case rel => exact ⟨k, (r - (D - r)), (lo + 2 ^ k), (by rw [Int.natCast_add, Int.natCast_pow]; rfl), by go_num, hA', by omega, ⟨by omega, by omega⟩, hst, hG3⟩
    case measure => simp [intOf] <;> omega
def doI (E : Int) (r : R3) : R3 := if E ≠ 0 then ⟨0, 0, E⟩ else r
def kpI (E x y e : Int) : R3 := if E ≠ 0 then ⟨0, 0, E⟩ else if e ≠ 0 then ⟨0, 0, e⟩ else ⟨x, y, 0⟩
def R3.Z (r : R3) : Prop := r.e ≠ 0 → r.lo = 0 ∧ r.hi = 0
theorem R3.eta (r : R3) (x y e : Int) (h1 : r.lo = x) (h2 : r.hi = y) (h3 : r.e = e) : r = ⟨x, y, e⟩ := by cases r; simp_all
theorem kp_do {E : Int} {r : R3} (h : r.Z) : kpI E r.lo r.hi r.e = doI E r := by
 unfold kpI doI
 split
 ·rfl
 ·split
  ·have h2 := h ‹_›
   exact (R3.eta r _ _ _ h2.1 h2.2 rfl).symm
  ·exact (R3.eta r _ _ _ rfl rfl (by simpa using ‹¬ r.e ≠ 0›)).symm
theorem madeI_Z (a b : Int) : (madeI a b).Z := by
 intro h; unfold madeI at *; split at h <;> simp_all
theorem ifZ {p : Prop} [Decidable p] {e : Int} {r : R3} (h : r.Z) : (if p then ⟨0, 0, e⟩ else r : R3).Z := by
 split
 ·intro _; exact ⟨rfl, rfl⟩
 ·exact h
theorem addI_Z (a b c d : Int) : (addI a b c d).Z := ifZ (madeI_Z _ _)
theorem subI_Z (a b c d : Int) : (subI a b c d).Z := ifZ (madeI_Z _ _)
theorem mulI_Z (a b c d : Int) : (mulI a b c d).Z := ifZ (madeI_Z _ _)
theorem sqI_Z (a b : Int) : (sqI a b).Z := ifZ (madeI_Z _ _)
theorem doI_Z {E : Int} {r : R3} (h : r.Z) : (doI E r).Z := ifZ h
theorem absI_ok {a b : Int} (h : (absI a b).e = 0) : 0 ≤ (absI a b).lo ∧ (absI a b).lo ≤ (absI a b).hi ∧ (absI a b).hi ≤ 2305843009213693952 ∧ ckI a b = 0 := by
 unfold absI at *
 split at h
 ·exact absurd h (by simpa using ‹ckI a b ≠ 0›)
 ·have hc : ckI a b = 0 := by simpa using ‹¬ ckI a b ≠ 0›
  have ho := ckI_ok hc
  rw [if_neg (by simpa using hc)]
  split
  ·exact ⟨by omega, by simp only []; omega, by simp only []; omega, hc⟩
  ·split
   ·simp only []
    rw [w64_in (by omega), w64_in (by omega)]
    exact ⟨by omega, by omega, by omega, hc⟩
   ·simp only []
    rw [w64_in (by omega)]
    exact ⟨by omega, by omega, by omega, hc⟩
def sqR (a b : Int) : R3 := if (absI a b).e ≠ 0 then ⟨0, 0, (absI a b).e⟩ else mulI (absI a b).lo (absI a b).hi (absI a b).lo (absI a b).hi
theorem sqI_mul (a b : Int) : sqI a b = sqR a b := by
 show _ = if (absI a b).e ≠ 0 then ⟨0, 0, (absI a b).e⟩ else mulI (absI a b).lo (absI a b).hi (absI a b).lo (absI a b).hi
 unfold sqI
 split
 ·rfl
 ·have h : (absI a b).e = 0 := by simpa using ‹¬ (absI a b).e ≠ 0›
  obtain ⟨h1, h2, h3, -⟩ := absI_ok h
  obtain ⟨x, hx⟩ : ∃ x, x = (absI a b).lo := ⟨_, rfl⟩
  obtain ⟨y, hy⟩ : ∃ y, y = (absI a b).hi := ⟨_, rfl⟩
  rw [← hx] at h1 h2
  rw [← hy] at h2 h3
  rw [← hx, ← hy]
  have hc : ckI x y = 0 := ckI_of ⟨h2, by omega, h3⟩
  have hc2 : ck2 x y x y = 0 := by unfold ck2; rw [hc]; rfl
  unfold mulI
  rw [hc2, if_neg (by simp)]
  have m1 : x * x ≤ x * y := Int.mul_le_mul_of_nonneg_left h2 h1
  have m2 : x * y ≤ y * y := Int.mul_le_mul_of_nonneg_right h2 (by omega)
  have e1 : min4 (x * x) (x * y) (y * x) (y * y) = x * x := by rw [Int.mul_comm y x]; unfold min4; omega
  have e2 : max4 (x * x) (x * y) (y * x) (y * y) = y * y := by rw [Int.mul_comm y x]; unfold max4; omega
  rw [e1, e2]
def negR (a b : Int) : R3 := if ckI a b ≠ 0 then ⟨0, 0, ckI a b⟩ else madeI (wrap64 (-b)) (wrap64 (-a))
def absR (a b : Int) : R3 := if ckI a b ≠ 0 then ⟨0, 0, ckI a b⟩ else if 0 ≤ a then ⟨a, b, 0⟩ else if b ≤ 0 then madeI (wrap64 (-b)) (wrap64 (-a)) else madeI 0 (max (wrap64 (-a)) b)
theorem absI_made (a b : Int) : absI a b = absR a b := by
 show _ = if ckI a b ≠ 0 then ⟨0, 0, ckI a b⟩ else if 0 ≤ a then ⟨a, b, 0⟩ else if b ≤ 0 then madeI (wrap64 (-b)) (wrap64 (-a)) else madeI 0 (max (wrap64 (-a)) b)
 unfold absI
 split
 ·rfl
 ·have ho := ckI_ok (show ckI a b = 0 by simpa using ‹¬ ckI a b ≠ 0›)
  split
  ·rfl
  ·split
   ·unfold madeI
    rw [w64_in (by omega), w64_in (by omega), if_neg (by omega)]
   ·unfold madeI
    rw [w64_in (by omega), if_neg (by omega)]
theorem I64_0 : I64 0 := by unfold I64; omega
theorem madeI_I64 (a b : Int) (ha : I64 a) (hb : I64 b) : I64 (madeI a b).lo ∧ I64 (madeI a b).hi := by
 unfold madeI; split
 ·exact ⟨I64_0, I64_0⟩
 ·exact ⟨ha, hb⟩
theorem w64_I64 (x : Int) : I64 (wrap64 x) := ⟨(w64_mod x).2.1, (w64_mod x).2.2⟩
def R3.W (r : R3) : Prop := I64 r.lo ∧ I64 r.hi
theorem ifW {p : Prop} [Decidable p] {e : Int} {r : R3} (h : r.W) : (if p then ⟨0, 0, e⟩ else r : R3).W := by
 split
 ·exact ⟨I64_0, I64_0⟩
 ·exact h
theorem addI_W (a b c d : Int) : (addI a b c d).W := ifW (madeI_I64 _ _ (w64_I64 _) (w64_I64 _))
theorem subI_W (a b c d : Int) : (subI a b c d).W := ifW (madeI_I64 _ _ (w64_I64 _) (w64_I64 _))
theorem dn_I64 (T d : Int) : I64 (dnT T d) := by have := dnT_range T d; unfold I64; omega
theorem up_I64 (T d : Int) : I64 (upT T d) := by have := upT_range T d; unfold I64; omega
theorem mulI_W (a b c d : Int) : (mulI a b c d).W := ifW (madeI_I64 _ _ (dn_I64 _ _) (up_I64 _ _))
theorem doI_W {E : Int} {r : R3} (h : r.W) : (doI E r).W := ifW h
structure V3 where
 (a b c d e f : Int)
structure V7 where
 v : V3
 e : Int
def V3.O : V3 := ⟨0, 0, 0, 0, 0, 0⟩
def V3.I (v : V3) : Prop := (I64 v.a ∧ I64 v.b) ∧ (I64 v.c ∧ I64 v.d) ∧ (I64 v.e ∧ I64 v.f)
def ckV (v : V3) : Int := if ckI v.a v.b ≠ 0 then ckI v.a v.b else ck2 v.c v.d v.e v.f
def ck2V (a b : V3) : Int := if ckV a ≠ 0 then ckV a else ckV b
def v3 (x y z : R3) : V3 := ⟨x.lo, x.hi, y.lo, y.hi, z.lo, z.hi⟩
def vecV (E : Int) (v : V3) : V7 := if E ≠ 0 then ⟨V3.O, E⟩ else ⟨v, 0⟩
def each0 (f : Int → Int → Int → Int → R3) (a b : V3) : R3 := doI 0 (f a.a a.b b.a b.b)
def each1 (f : Int → Int → Int → Int → R3) (a b : V3) : R3 := doI (each0 f a b).e (f a.c a.d b.c b.d)
def each2 (f : Int → Int → Int → Int → R3) (a b : V3) : R3 := doI (each1 f a b).e (f a.e a.f b.e b.f)
def eachV (f : Int → Int → Int → Int → R3) (a b : V3) : V7 := if ck2V a b ≠ 0 then ⟨V3.O, ck2V a b⟩ else vecV (each2 f a b).e (v3 (each0 f a b) (each1 f a b) (each2 f a b))
def dot0 (E : Int) (a b : V3) : R3 := doI E (mulI a.a a.b b.a b.b)
def dot1 (E : Int) (a b : V3) : R3 := doI (dot0 E a b).e (mulI a.c a.d b.c b.d)
def dot2 (E : Int) (a b : V3) : R3 := doI (dot1 E a b).e (addI (dot0 E a b).lo (dot0 E a b).hi (dot1 E a b).lo (dot1 E a b).hi)
def dot3 (E : Int) (a b : V3) : R3 := doI (dot2 E a b).e (mulI a.e a.f b.e b.f)
def dotI (E : Int) (a b : V3) : R3 := doI (dot3 E a b).e (addI (dot2 E a b).lo (dot2 E a b).hi (dot3 E a b).lo (dot3 E a b).hi)
def dotV (a b : V3) : R3 := if ck2V a b ≠ 0 then ⟨0, 0, ck2V a b⟩ else dotI 0 a b
def nrm0 (E : Int) (a : V3) : R3 := doI E (sqI a.a a.b)
def nrm1 (E : Int) (a : V3) : R3 := doI (nrm0 E a).e (sqI a.c a.d)
def nrm2 (E : Int) (a : V3) : R3 := doI (nrm1 E a).e (addI (nrm0 E a).lo (nrm0 E a).hi (nrm1 E a).lo (nrm1 E a).hi)
def nrm3 (E : Int) (a : V3) : R3 := doI (nrm2 E a).e (sqI a.e a.f)
def nrmI (E : Int) (a : V3) : R3 := doI (nrm3 E a).e (addI (nrm2 E a).lo (nrm2 E a).hi (nrm3 E a).lo (nrm3 E a).hi)
def nrmV (a : V3) : R3 := if ckV a ≠ 0 then ⟨0, 0, ckV a⟩ else nrmI 0 a
def mm0 (E a b c d : Int) : R3 := doI E (mulI a b c d)
def mm1 (E a b c d e f g h : Int) : R3 := doI (mm0 E a b c d).e (mulI e f g h)
def mmI (E a b c d e f g h : Int) : R3 := doI (mm1 E a b c d e f g h).e (subI (mm0 E a b c d).lo (mm0 E a b c d).hi (mm1 E a b c d e f g h).lo (mm1 E a b c d e f g h).hi)
def crs0 (a b : V3) : R3 := mmI 0 a.c a.d b.e b.f a.e a.f b.c b.d
def crs1 (a b : V3) : R3 := mmI (crs0 a b).e a.e a.f b.a b.b a.a a.b b.e b.f
def crs2 (a b : V3) : R3 := mmI (crs1 a b).e a.a a.b b.c b.d a.c a.d b.a b.b
def crsV (a b : V3) : V7 := if ck2V a b ≠ 0 then ⟨V3.O, ck2V a b⟩ else vecV (crs2 a b).e (v3 (crs0 a b) (crs1 a b) (crs2 a b))
def scaV (a : V3) (x y : Int) : V7 := eachV mulI a ⟨x, y, x, y, x, y⟩
theorem ediv_le_pos {T c d : Int} (h : 0 ≤ T) (c0 : 0 < c) (hcd : c ≤ d) : T / d ≤ T / c := by
 have q : 0 ≤ T / d := Int.ediv_nonneg h (by omega)
 rw [Int.le_ediv_iff_mul_le c0]
 have h1 : T / d * c ≤ T / d * d := Int.mul_le_mul_of_nonneg_left hcd q
 have h2 : T / d * d ≤ T := Int.ediv_mul_le _ (by omega)
 omega
theorem ediv_le_neg {T c d : Int} (h : T < 0) (c0 : 0 < c) (hcd : c ≤ d) : T / c ≤ T / d := by
 have q : T / c < 0 := Int.ediv_neg_of_neg_of_pos h c0
 rw [Int.le_ediv_iff_mul_le (by omega)]
 have h1 : -(T / c) * c ≤ -(T / c) * d := Int.mul_le_mul_of_nonneg_left hcd (by omega)
 have h2 : T / c * c ≤ T := Int.ediv_mul_le _ (by omega)
 rw [Int.neg_mul, Int.neg_mul] at h1
 omega
theorem dn_min {T c d : Int} (c0 : 0 < c) (hcd : c ≤ d) : min (dnT T c) (dnT T d) = dnT T (if T < 0 then c else d) := by
 split
 ·have := ediv_le_neg ‹_› c0 hcd
  unfold dnT; omega
 ·have := ediv_le_pos (T := T) (by omega) c0 hcd
  unfold dnT; omega
theorem up_max {T c d : Int} (c0 : 0 < c) (hcd : c ≤ d) : max (upT T c) (upT T d) = upT T (if 0 < T then c else d) := by
 have h := dn_min (T := -T) c0 hcd
 have e : (if -T < 0 then c else d) = (if 0 < T then c else d) := by split <;> split <;> omega
 rw [e] at h
 unfold upT
 rw [← h]; omega
def divP (a b c d : Int) : R3 := madeI (dnT (a * 1099511627776) (if a < 0 then c else d)) (upT (b * 1099511627776) (if 0 < b then c else d))
def divI (a b c d : Int) : R3 := if ck2 a b c d ≠ 0 then ⟨0, 0, ck2 a b c d⟩ else if c ≤ 0 ∧ 0 ≤ d then ⟨0, 0, 18⟩ else if d < 0 then divP (-b) (-a) (-d) (-c) else divP a b c d
theorem divP_prog {a b c d : Int} (c0 : 0 < c) (hcd : c ≤ d) : divP a b c d = madeI (min (dnT (a * 1099511627776) c) (dnT (a * 1099511627776) d)) (max (upT (b * 1099511627776) c) (upT (b * 1099511627776) d)) := by
 unfold divP
 rw [dn_min c0 hcd, up_max c0 hcd]
 have e1 : (if a * 1099511627776 < 0 then c else d) = (if a < 0 then c else d) := by split <;> split <;> omega
 have e2 : (if 0 < b * 1099511627776 then c else d) = (if 0 < b then c else d) := by split <;> split <;> omega
 rw [e1, e2]
theorem divI_Z (a b c d : Int) : (divI a b c d).Z := by
 unfold divI
 refine ifZ ?_
 split
 ·intro _; exact ⟨rfl, rfl⟩
 ·split <;> exact madeI_Z _ _
def IsRoot (x r : Int) : Prop := 0 ≤ r ∧ r * r ≤ x * 1099511627776 ∧ x * 1099511627776 < (r + 1) * (r + 1)
theorem sq_lt {r s : Int} (h0 : 0 ≤ s) (h : r * r < s * s) : r < s := by
 rcases Int.lt_or_le r s with h1 | h1
 ·exact h1
 ·have := Int.mul_le_mul h1 h1 h0 (by omega); omega
theorem IsRoot.one {x r s : Int} (h : IsRoot x r) (k : IsRoot x s) : r = s := by
 have h1 := sq_lt (r := r) (s := s + 1) (by have := k.1; omega) (by have := h.2.1; have := k.2.2; omega)
 have h2 := sq_lt (r := s) (s := r + 1) (by have := h.1; omega) (by have := k.2.1; have := h.2.2; omega)
 omega
noncomputable def rootI (x : Int) : Int := @Classical.epsilon Int ⟨0⟩ (IsRoot x)
theorem IsRoot.eq {x r : Int} (h : IsRoot x r) : r = rootI x := h.one (Classical.epsilon_spec (p := IsRoot x) ⟨r, h⟩)
theorem IsRoot.of {x r : Int} (h : IsRoot x r) : IsRoot x (rootI x) := h.eq ▸ h
noncomputable def sqrtI (a b : Int) : R3 := if ckI a b ≠ 0 then ⟨0, 0, ckI a b⟩ else if a < 0 then ⟨0, 0, 2⟩ else ⟨rootI a, if rootI b * rootI b = b * 1099511627776 then rootI b else rootI b + 1, 0⟩
def sc3I (a b : Int) : R3 := if ckI a b ≠ 0 then ⟨0, 0, ckI a b⟩ else madeI (dnT (a * 3) 1) (upT (b * 3) 1)
def absv (x : Int) : Int := if x < 0 then -x else x
theorem absv_nonneg (x : Int) : 0 ≤ absv x := by unfold absv; split <;> omega
theorem absv_mul (a b : Int) : absv a * absv b = absv (a * b) := by
 have h : ∀ x, absv x = (x.natAbs : Int) := fun x => by unfold absv; split <;> omega
 rw [h, h, h, Int.natAbs_mul]; rfl
theorem wrapNeg (x : Int) (h : x < 0) (h2 : -9223372036854775808 ≤ x) : IntKind.u64.wrap (-IntKind.u64.wrap x) = absv x := by
 rw [IntKind.wrap_u64, IntKind.wrap_u64, absv, if_pos h]; omega
theorem mul64q (x y : Int) (w : World) (hx : 0 ≤ x ∧ x < 18446744073709551616) (hy : 0 ≤ y ∧ y < 18446744073709551616) :
    Calls Tryz.prog 157 #[.int .u64 x, .int .u64 y] w fun e w' => e = .returned (.tuple #[.int .u64 (x * y / 18446744073709551616), .int .u64 (x * y % 18446744073709551616)]) ∧ Ext w w' := by
 obtain ⟨m, rfl⟩ := Int.eq_ofNat_of_zero_le hx.1
 obtain ⟨n, rfl⟩ := Int.eq_ofNat_of_zero_le hy.1
 refine (Tryz.bits_Mul64 m n (by omega) (by omega) w).mono ?_
 rintro e w' ⟨rfl, rfl⟩
 refine ⟨?_, Ext.refl _⟩
 rw [Int.natCast_ediv, Int.natCast_emod, Int.natCast_mul]
 rfl
theorem sign_mul (a b : Int) : (a < 0 → b < 0 → 0 ≤ a * b) ∧ (0 ≤ a → 0 ≤ b → 0 ≤ a * b) ∧ (a < 0 → 0 ≤ b → a * b ≤ 0) ∧ (0 ≤ a → b < 0 → a * b ≤ 0) := by
 refine ⟨fun h1 h2 => Int.mul_nonneg_of_nonpos_of_nonpos (by omega) (by omega), fun h1 h2 => Int.mul_nonneg h1 h2, fun h1 h2 => Int.mul_nonpos_of_nonpos_of_nonneg (by omega) h2, fun h1 h2 => Int.mul_nonpos_of_nonneg_of_nonpos h1 (by omega)⟩
theorem ref_size (a : Int) (w : World) (ha : I64 a) :
    Calls Tryz.prog 112 #[.int .i64 a] w fun e w' => e = .returned (.int .u64 (absv a)) ∧ Ext w w' := by
 obtain ⟨h1, h2⟩ := ha
 go_enter Tryz.func112, Tryz.ntmps112
 go_wp2
 all_goals
  go_ret
  refine ⟨congrArg (fun n => Ending.returned (.int .u64 n)) ?_, Ext.refl _⟩
  first | exact wrapNeg a c_32 h1 | (unfold absv; rw [if_neg (by omega)])
theorem ref_times (a b : Int) (w : World) (ha : I64 a) (hb0 : I64 b) :
    Calls Tryz.prog 107 #[.int .i64 a, .int .i64 b] w fun e w' => e = .returned (.agg #[.bool (decide (a * b < 0)), .int .u64 (absv (a * b) / 18446744073709551616), .int .u64 (absv (a * b) % 18446744073709551616)]) ∧ Ext w w' := by
 have hT := abs_mul_bound ha hb0
 have hs := sign_mul a b
 have ea := absv_mul a b
 obtain ⟨a1, a2⟩ := (show -9223372036854775808 ≤ a ∧ a < 9223372036854775808 from ha)
 obtain ⟨b1, b2⟩ := (show -9223372036854775808 ≤ b ∧ b < 9223372036854775808 from hb0)
 have ba : 0 ≤ absv a ∧ absv a < 18446744073709551616 := by unfold absv; split <;> omega
 have bb : 0 ≤ absv b ∧ absv b < 18446744073709551616 := by unfold absv; split <;> omega
 have hx := fun w => mul64q (absv a) (absv b) w ba bb
 rw [ea] at hx
 obtain ⟨T, eT⟩ : ∃ T, T = a * b := ⟨_, rfl⟩
 rw [← eT] at hx hs hT
 have hz : (absv T / 18446744073709551616 ≤ 0 → absv T % 18446744073709551616 ≤ 0 → T = 0) ∧ (T = 0 → absv T / 18446744073709551616 = 0 ∧ absv T % 18446744073709551616 = 0) := by
  unfold absv; split <;> omega
 have Hx := Lib.hid hx
 have Hs := Lib.hid (And.intro hs hz)
 have Et := Lib.hid eT
 clear hx hs hz eT ea hT
 go_enter Tryz.func107, Tryz.ntmps107
 go_wp2_with (first | (go_at_call 112; (with_reducible refine (ref_size _ _ c_32).mono ?_); rintro e w1 ⟨rfl, hb⟩; obtain ⟨_, _, hc, hf⟩ := hb.cells2; have hz := hb.size; (try simp only [World.size_alloc] at hz hc hf)) | (go_at_call 157; (with_reducible refine (Hx.out _).mono ?_); rintro e w1 ⟨rfl, hb⟩; obtain ⟨_, _, hc, hf⟩ := hb.cells2; have hz := hb.size; (try simp only [wsz] at hz hc hf)))
 all_goals
  refine bodyPost_ret (v := .agg #[.bool (decide (a * b < 0)), .int .u64 (absv (a * b) / 18446744073709551616), .int .u64 (absv (a * b) % 18446744073709551616)]) ?_ rfl ⟨rfl, ?_⟩
  ·simp [results, Tryz.results107, go_sem, ↓IntWalk.iteOmega, *]
   rw [← Et.out]
   obtain ⟨⟨s1, s2, s3, s4⟩, z1, z2⟩ := Hs.out
   by_cases c1 : a < 0 <;> by_cases c2 : b < 0 <;> by_cases c3 : T < 0 <;> by_cases c4 : 0 < absv T / 18446744073709551616 <;> by_cases c5 : 0 < absv T % 18446744073709551616 <;> first | (exfalso; omega) | (simp [c1, c2, c3, c4, c5]; done) | (simp; omega)
  ·repeat (first | exact Ext.refl _ | with_reducible assumption | refine Ext.alloc ?_ _ | refine Ext.setCell ?_ c_19 _ | refine Ext.drewN ?_ _ | refine Ext.drew ?_ | refine Ext.trans ?_ c_1)
def ovS (T d : Int) (up : Bool) : Int := if up then upT T d else dnT T d
theorem over_eq (T d : Int) (up s : Bool) (h l : Int) (es : s = decide (T < 0)) (eT : absv T = h * 18446744073709551616 + l) (hh : 0 ≤ h) (hl : 0 ≤ l) (hl2 : l < 18446744073709551616) (d0 : 0 < d) :
    (¬ h < d → ovS T d up = if s then -4611686018427387904 else 4611686018427387904) ∧
    (h < d → ovS T d up = (if s then -1 else 1) * (if 4611686018427387904 ≤ absv T / d then 4611686018427387904 else if 0 < absv T % d ∧ up ≠ s then absv T / d + 1 else absv T / d)) := by
 have key : ovS T d up = (if s then -1 else 1) * min (if 0 < absv T % d ∧ up ≠ s then absv T / d + 1 else absv T / d) 4611686018427387904 := by
  by_cases ht : T < 0
  ·have e : absv T = -T := by unfold absv; rw [if_pos ht]
   have e1 := upT_eq (-T) d (by omega) d0
   have e2 := dnT_eq (-T) d (by omega) d0
   have e3 := upT_neg T d
   have e4 : upT T d = - dnT (-T) d := rfl
   rw [e]
   cases up <;> cases s <;> simp [ht, ovS] at es ⊢
   ·omega
   ·rw [e4, e2]
  ·have e : absv T = T := by unfold absv; rw [if_neg ht]
   have e1 := upT_eq T d (by omega) d0
   have e2 := dnT_eq T d (by omega) d0
   rw [e]
   cases up <;> cases s <;> simp [ht, ovS] at es ⊢
   ·exact e2
   ·exact e1
   all_goals omega
 refine ⟨fun hd => ?_, fun hd => ?_⟩
 ·have hb := big_quot eT hl (by omega) d0
  rw [key, Int.min_eq_right (by split <;> omega)]
  cases s <;> simp
 ·obtain ⟨q1, q2, r1, r2⟩ := small_quot eT hh hl hl2 hd
  rw [key]
  congr 1
  split <;> split <;> omega
theorem ref_over (T d : Int) (up : Bool) (w : World) (h1 : -85070591730234615865843651857942052864 ≤ T) (h2 : T ≤ 85070591730234615865843651857942052864) (d0 : 0 < d) (d1 : d < 18446744073709551616) :
    Calls Tryz.prog 111 #[.agg #[.bool (decide (T < 0)), .int .u64 (absv (T) / 18446744073709551616), .int .u64 (absv (T) % 18446744073709551616)], .int .u64 d, .bool up] w fun e w' => e = .returned (.int .i64 (ovS T d up)) ∧ Ext w w' := by
 have hz := absv_nonneg T
 have hn : (T < 0 → absv T = -T) ∧ (0 ≤ T → absv T = T) := by unfold absv; split <;> omega
 obtain ⟨h, eh⟩ : ∃ h : Int, h = absv T / 18446744073709551616 := ⟨_, rfl⟩
 obtain ⟨l, el⟩ : ∃ h : Int, h = absv T % 18446744073709551616 := ⟨_, rfl⟩
 have hl1 : 0 ≤ l := by omega
 have hl2 : l < 18446744073709551616 := by omega
 have hh1 : 0 ≤ h := by omega
 have hh2 : h < 18446744073709551616 := by omega
 have eT : absv T = h * 18446744073709551616 + l := by omega
 rw [← eh, ← el]
 obtain ⟨s, es⟩ : ∃ s : Bool, s = decide (T < 0) := ⟨_, rfl⟩
 rw [← es]
 have ho := over_eq T d up s h l es eT hh1 hl1 hl2 d0
 clear eh el h1 h2
 by_cases hd : h < d
 ·obtain ⟨q1, q2, r1, r2⟩ := small_quot eT hh1 hl1 hl2 hd
  obtain ⟨q, hq⟩ : ∃ q, q = absv T / d := ⟨_, rfl⟩
  obtain ⟨r, hr⟩ : ∃ q, q = absv T % d := ⟨_, rfl⟩
  rw [← hq] at q1 q2
  rw [← hr] at r1 r2
  have hc := fun w => div64q h l d q r w (by omega) (by omega) d1 (by rw [hq, eT]) (by rw [hr, eT])
  have ho2 := ho.2 hd
  rw [← hq, ← hr] at ho2
  have Hc := Lib.hid hc; clear hc
  have Ho := Lib.hid ho2; clear ho2 ho
  clear eT hq hr hz hn es
  go_enter Tryz.func111, Tryz.ntmps111
  go_wp2_with (go_at_call 160; refine (Hc.out _).mono ?_; rintro e w1 ⟨rfl, hb⟩; obtain ⟨_, _, hc, hf⟩ := hb.cells2; have hz := hb.size; (try simp only [World.size_alloc] at hz hc hf))
  all_goals
   go_ret
   refine ⟨congrArg (fun n => Ending.returned (.int .i64 n)) ?_, by repeat (first | exact Ext.refl _ | with_reducible assumption | refine Ext.alloc ?_ _ | refine Ext.setCell ?_ c_14 _ | refine Ext.drewN ?_ _ | refine Ext.drew ?_ | refine Ext.trans ?_ c_1)⟩
   rw [Ho.out]
   clear hb hc hf Hc Ho
   cases up <;> cases s <;> simp_all <;> omega
 ·have ho1 := ho.1 hd
  have Ho := Lib.hid ho1; clear ho1 ho
  clear eT hz hn es
  go_enter Tryz.func111, Tryz.ntmps111
  go_wp2_with fail
  all_goals
   go_ret
   refine ⟨congrArg (fun n => Ending.returned (.int .i64 n)) ?_, by repeat (first | exact Ext.refl _ | with_reducible assumption | refine Ext.alloc ?_ _ | refine Ext.setCell ?_ c_14 _ | refine Ext.drewN ?_ _ | refine Ext.drew ?_ | refine Ext.trans ?_ c_1)⟩
   rw [Ho.out]
   cases s <;> simp_all
end Go.Proofs.YtogblocakccbgaaGreat
