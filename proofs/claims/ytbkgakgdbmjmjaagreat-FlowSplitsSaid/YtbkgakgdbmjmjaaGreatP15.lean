/- span: Of, of a rational number in range. -/
import Derived.Test.YtbkgakgdbmjmjaaGreatP14
set_option linter.unusedSimpArgs false
set_option linter.unusedVariables false
set_option maxRecDepth 100000
set_option maxHeartbeats 4000000
namespace Go.Proofs.YtbkgakgdbmjmjaaGreat
open Go.RowKit
theorem ofF_is (q : Nat) (hq : 0 < q) : ∀ k r L, r < q → ofF q k r L = ((r * 2 ^ k) % q, L + (r * 2 ^ k) / q)
 | 0, r, L, h => by simp only [ofF, Nat.pow_zero, Nat.mul_one]; rw [Nat.mod_eq_of_lt h, Nat.div_eq_of_lt h]; rfl
 | k + 1, r, L, h => by
  simp only [ofF]
  have e : r * 2 ^ (k + 1) = (r + r) * 2 ^ k := by rw [Nat.pow_succ, Nat.add_mul, ← Nat.two_mul, Nat.mul_comm 2, Nat.mul_assoc]
  split
  ·rename_i h1
   rw [ofF_is q hq k (r + r) L (by omega), e]
  ·rename_i h1
   rw [ofF_is q hq k (r - (q - r)) (L + 2 ^ k) (by omega), e]
   have e2 : (r + r) * 2 ^ k = (r - (q - r)) * 2 ^ k + q * 2 ^ k := by rw [← Nat.add_mul]; congr 1; omega
   rw [e2, Nat.add_mul_mod_self_left, Nat.add_mul_div_left _ _ hq, Nat.add_assoc, Nat.add_comm (2 ^ k)]
def ofLo (x : Rat) : Int := (x.num * 1099511627776) / (x.den : Int)
def ofHi (x : Rat) : Int := if (x.num * 1099511627776) % (x.den : Int) = 0 then ofLo x else ofLo x + 1
theorem of_split (x : Rat) : ofLo x = x.num / (x.den : Int) * 1099511627776 + (((x.num % (x.den : Int)).toNat * 2 ^ 40 / x.den : Nat) : Int) ∧ (x.num * 1099511627776) % (x.den : Int) = (((x.num % (x.den : Int)).toNat * 2 ^ 40 % x.den : Nat) : Int) := by
 have hd : (0 : Int) < x.den := by have := den_pos' x; omega
 unfold ofLo
 have h1 := Int.emod_nonneg x.num (show (x.den : Int) ≠ 0 by omega)
 have h3 := Int.mul_ediv_add_emod x.num x.den
 obtain ⟨r, hr⟩ : ∃ r : Nat, x.num % (x.den : Int) = r := ⟨(x.num % (x.den : Int)).toNat, by omega⟩
 rw [hr] at h3 ⊢
 rw [Int.toNat_natCast]
 obtain ⟨q, hq⟩ : ∃ q, x.num / (x.den : Int) = q := ⟨_, rfl⟩
 rw [hq] at h3 ⊢
 have e : x.num * 1099511627776 = ((r * 2 ^ 40 : Nat) : Int) + x.den * (q * 1099511627776) := by
  rw [← h3, Int.add_mul, Int.add_comm, Int.mul_assoc]
  congr 1
 have c40 : ((r * 2 ^ 40 : Nat) : Int) = (r : Int) * 1099511627776 := by rw [Int.natCast_mul]; rfl
 refine ⟨?_, ?_⟩
 ·rw [e, Int.add_mul_ediv_left _ _ (by omega), Int.add_comm]; rfl
 ·rw [e, Int.add_mul_emod_self_left]; rfl
theorem z_SOf (vf : Value) (x : Rat) (b : Nat) (w : World) (hf : Fr w vf x) (hx : Fb x b) (hb : b ≤ 131000) (hn1 : -2097152 ≤ x.num / (x.den : Int)) (hn2 : x.num / (x.den : Int) ≤ 2097151) :
    Calls Tryz.prog 94 #[vf] w fun e w' => e = .returned (.tuple #[.agg #[.int .i64 (ofLo x), .int .i64 (ofHi x)], .int .i64 0]) ∧ Ext w w' := by
  obtain ⟨sP, sD⟩ := fb_small hx (by omega)
  have hck := fun w1 (k1 : Ext w w1) => z_fCheck vf x b w1 (hf.ext k1) hx (by omega)
  obtain ⟨u, s, rfl, hu0, hs0⟩ := hf.num
  obtain ⟨u', s', e0, hu, hs⟩ := hf
  simp only [Value.agg.injEq, Array.mk.injEq, List.cons.injEq, and_true, true_and] at e0
  obtain ⟨rfl, rfl⟩ := e0
  obtain ⟨ao, b1, o1, cap1, rfl, -⟩ := hu.view
  obtain ⟨bo, b2, o2, cap2, rfl, -⟩ := hs.view
  have hD0 := den_pos' x
  have sDD : Small (x.den + x.den) := small_bits (k := b + 1) (by have := hx.2; rw [Nat.pow_succ]; omega) (by omega)
  have hdm := fun w1 (k1 : Ext w w1) => z_DivMod _ _ x.num x.den w1 (hu0.ext k1) (hs0.ext k1) sP hD0 sD
  have hnD0 : ∀ w1, Ext w w1 → Nn w1 (.agg #[.bool false, .slice bo (dig x.den).length cap2]) x.den := fun w1 k1 => ⟨_, rfl, hs.ext k1⟩
  obtain ⟨h3, h4⟩ := of_split x
  unfold ofHi
  rw [h4, h3]
  clear h3 h4
  have hr0 : (x.num % (x.den : Int)).toNat < x.den := by have := Int.emod_lt_of_pos x.num (show (0 : Int) < x.den by omega); omega
  have hA0 := ofF_is x.den hD0 40 (x.num % (x.den : Int)).toNat 0 hr0
  rw [Nat.zero_add] at hA0
  generalize (x.num % (x.den : Int)).toNat = r0 at *
  generalize x.num / (x.den : Int) = n at *
  have hq1 : r0 * 2 ^ 40 / x.den < 1099511627776 := Nat.div_lt_of_lt_mul (by have : x.den * 1099511627776 = x.den * 2 ^ 40 := rfl
                                                                             rw [this]; exact Nat.mul_lt_mul_of_pos_right hr0 (by decide))
  generalize r0 * 2 ^ 40 % x.den = r1 at *
  generalize r0 * 2 ^ 40 / x.den = L1 at *
  generalize hsa : decide (x.num < 0) = sa at *
  generalize x.num.natAbs = p at *
  generalize x.den = D at *
  clear hx sP hu hu0 hs0 hsa
  obtain ⟨N40, hN⟩ : ∃ N40, n * 1099511627776 = N40 := ⟨_, rfl⟩
  have hin := fun v w1 (h : Wid w1 v n) => z_Int v n w1 h (by omega) (by omega)
  have hNb : -2305843009213693952 ≤ N40 ∧ N40 ≤ 2305841909702066176 := by omega
  obtain ⟨HI, hHI⟩ : ∃ HI, (if ((r1 : Nat) : Int) = 0 then N40 + (L1 : Int) else N40 + (L1 : Int) + 1) = HI := ⟨_, rfl⟩
  rw [hN, hHI]
  have hHb : HI = N40 + (L1 : Int) ∨ HI = N40 + (L1 : Int) + 1 := by rw [← hHI]; split <;> simp
  have hmd : ∀ w1, Calls Tryz.prog 112 #[.int .i64 (N40 + (L1 : Int)), .int .i64 HI] w1 fun e w' => e = .returned (.tuple #[.agg #[.int .i64 (N40 + (L1 : Int)), .int .i64 HI], .int .i64 0]) ∧ Ext w1 w' := fun w1 => by
    have := span_made (N40 + (L1 : Int)) HI w1
    have e : madeI (N40 + (L1 : Int)) HI = ⟨N40 + (L1 : Int), HI, 0⟩ := by unfold madeI; rw [if_neg (by omega)]
    rw [e] at this; exact this
  replace hNb : Hid (-2305843009213693952 ≤ N40 ∧ N40 ≤ 2305841909702066176) := hNb
  replace hHb : Hid _ := hHb
  replace hHI : Hid _ := hHI
  replace hN : Hid (n * 1099511627776 = N40) := hN
  have hnD : Hid _ := hnD0
  clear hnD0
  go_enter Tryz.func94, Tryz.ntmps94
  go_upto_region 8 with (first
    | (go_at_call 139; (with_reducible refine (hck _ ex_).mono ?_); rintro e w1 ⟨rfl, hb1⟩; obtain ⟨_, _, ⟨hc1, hf1⟩, hz1⟩ := hb1.c3; (try simp only [wsz] at hz1 hc1 hf1); clear hck)
    | (go_at_call 140; (with_reducible refine (hdm _ ex_).mono ?_); rintro e w2 ⟨y1, y2, rfl, hy1, hy2, hb2⟩; obtain ⟨y9, rfl, hy3⟩ := hy1; obtain ⟨ao3, _, _, cap3, rfl, -⟩ := hy3.view; have hy1 : Wid w2 _ n := ⟨_, rfl, hy3⟩; obtain ⟨ao4, cap4, rfl, hy4⟩ := hy2.open; obtain ⟨_, _, ⟨hc2, hf2⟩, hz2⟩ := hb2.c3; (try simp only [wsz] at hz2 hc2 hf2); clear hdm)
    | (go_at_call 141; (with_reducible refine (hin _ _ (hy1.ext ex_)).mono ?_); rintro e w3 ⟨rfl, hb3⟩; obtain ⟨_, _, ⟨hc3, hf3⟩, hz3⟩ := hb3.c3; (try simp only [wsz] at hz3 hc3 hf3); clear hin))
  go_upto_region 10 with fail
  have hWT0 : WAt w3 (w2.heap.size + 1) (r0 : Int) := by
    have h := (WAt.lit (w := w2.alloc (.cells #[.bool (decide (n < 0)), .slice ao3 (dig n.natAbs).length cap3] 159)) (hy4.wid.ext ((Ext.refl w2).alloc (.cells #[.bool (decide (n < 0)), .slice ao3 (dig n.natAbs).length cap3] 159)))).ext hb3
    simpa using h
  have hE2 : Ext ((w.alloc (.cells #[.bool sa, .slice ao (dig p).length cap1, .bool false, .slice bo (dig D).length cap2] 161)).alloc (.cells #[.int .i64 0, .int .i64 0] 26)) w2 := ex_
  have hE0 : Ext ((w.alloc (.cells #[.bool sa, .slice ao (dig p).length cap1, .bool false, .slice bo (dig D).length cap2] 161)).alloc (.cells #[.int .i64 0, .int .i64 0] 26)) w3 := Ext.trans hE2 (Ext.trans (((Ext.refl w2).alloc _).alloc _) hb3)
  have f2 : w3.cell? ⟨w.heap.size, 2, none⟩ = some (.bool false) := (hE0.cells.1 _ 2 c_46).trans c_47
  have f3 : w3.cell? ⟨w.heap.size, 3, none⟩ = some (.slice bo (dig D).length cap2) := (hE0.cells.1 _ 3 c_46).trans c_47
  have e0 : w3.cell? ⟨w.heap.size + 1, 0, none⟩ = some (.int .i64 0) := (hE0.cells.1 _ 0 (by simp)).trans c_47
  have e1 : w3.cell? ⟨w.heap.size + 1, 1, none⟩ = some (.int .i64 0) := (hE0.cells.1 _ 1 (by simp)).trans c_47
  have e2 : ∀ o, w3.frozen? ⟨w.heap.size + 1, o, none⟩ = false := fun o => (hE0.cells.2 _ o (by simp)).trans c_47
  have hEw : Ext w w3 := Ext.trans (((Ext.refl w).alloc _).alloc _) hE0
  have hs2 := hE2.size
  have hs3 := hb3.size
  simp only [World.size_alloc] at hs2 hs3
  have hnT := hWT0.noU
  obtain ⟨T, hT⟩ : ∃ T, w2.heap.size + 1 = T := ⟨_, rfl⟩
  rw [hT] at hWT0 hnT ⊢
  have hTw : w.heap.size + 1 < T := by omega
  have hT3 : T < w3.heap.size := by omega
  have hsh : IntKind.i64.wrap (n * 1099511627776) = N40 := by
    have h9 := hNb.out
    rw [hN.out, IntKind.wrap_i64]; omega
  clear hE2 hE0 hT hs2 hs3 hy1 hy3 hy4 hb1 hb2 hb3 hc1 hc2 hc3 hf1 hf2 hf3 hz1 hz2 hz3
  go_loopw [10, 11] (fun a b wr => ∃ k r L : Nat, a = .int .i64 (N40 + (L : Int)) ∧ b = .int .i64 ((k : Int) - 1) ∧ Hid (ofF D k r L = (r1, L1)) ∧ r < D ∧ Hid (k ≤ 40 ∧ L + 2 ^ k ≤ 1099511627776) ∧ Hid (WAt wr T (r : Int)) ∧ Hid (GB T w3 wr)) (fun _ b _ => (intOf b + 1).toNat)
  case atStart => exact ⟨40, r0, 0, by rw [hN.out]; simp, rfl, hA0, hr0, ⟨by omega, by omega⟩, hWT0, GB.refl _ _⟩
  case round =>
    obtain ⟨k', r, L, rfl, rfl, hA, hrD, hlo, hWT, hG⟩ := hrel
    clear hWT0 hA0 hr0
    obtain ⟨hk40, hlo⟩ := hlo.out
    have hGs := hG.out.size
    have g0 := (hG.out.cell (o := 0) (show w.heap.size + 1 < w3.heap.size by omega) (by omega)).trans e0
    have g1 := (hG.out.cell (o := 1) (show w.heap.size + 1 < w3.heap.size by omega) (by omega)).trans e1
    have g2 : ∀ o, wr.frozen? ⟨w.heap.size + 1, o, none⟩ = false := fun o => (hG.out.frozen (o := o) (show w.heap.size + 1 < w3.heap.size by omega) (by omega)).trans (e2 o)
    have g3 := (hG.out.cell (o := 2) (show w.heap.size < w3.heap.size by omega) (by omega)).trans f2
    have g4 := (hG.out.cell (o := 3) (show w.heap.size < w3.heap.size by omega) (by omega)).trans f3
    have hND : Nn wr (.agg #[.bool false, .slice bo (dig D).length cap2]) D := by
      obtain ⟨u, e, hu⟩ := hnD.out w3 hEw
      exact ⟨u, e, hu.grown hnT hG.out⟩
    obtain ⟨aoR, capR, t0, t1, hNr, hfR⟩ := hWT.out.openN
    have hTl := hWT.out.lt
    have sr : Small r := Small.le sD (by omega)
    match k', hA, hk40, hlo with
    | 0, hA, _, _ =>
      have hA' := hA.out
      simp only [ofF, Prod.mk.injEq] at hA'
      obtain ⟨ea, eb⟩ := hA'
      subst ea
      subst eb
      have hEr : Ext w wr := GB.pre hEw hG.out (by omega)
      have hlen : (dig r).length = 0 ∨ 0 < (dig r).length := by omega
      have hHIo := hHI.out
      have hNbo := hNb.out
      rcases hlen with h0 | h0
      · have hr00 : r = 0 := by rcases Nat.eq_zero_or_pos r with e | e
                                · exact e
                                · have := dig_pos.2 e; omega
        subst hr00
        rw [if_pos (show ((0 : Nat) : Int) = 0 from rfl)] at hHIo
        subst hHIo
        go_wp2_with (go_at_call 112; (with_reducible refine (hmd _).mono ?_); rintro e w9 ⟨rfl, hb9⟩; obtain ⟨_, _, ⟨hc9, hf9⟩, hz9⟩ := hb9.c3; (try simp only [wsz] at hz9 hc9 hf9))
        refine bodyPost_ret (v := .tuple #[.agg #[.int .i64 (N40 + (L : Int)), .int .i64 (N40 + (L : Int))], .int .i64 0]) ?_ rfl ⟨rfl, ?_⟩
        · simp [results, Tryz.results94, go_sem, ↓IntWalk.iteOmega, *]
        · exact Ext.setCell (Ext.setCell (Ext.trans hEr hb9) (Nat.le_succ _) _) (Nat.le_succ _) _
      · have hr1 : ¬ ((r : Nat) : Int) = 0 := by have := dig_pos.1 h0; omega
        rw [if_neg hr1] at hHIo
        subst hHIo
        have hr1I : decide ((0 : Int) < ((dig r).length : Int)) = true := decide_eq_true (by omega)
        have hr1N : decide (0 < (dig r).length) = true := decide_eq_true h0
        have hw1 : IntKind.i64.wrap (N40 + (L : Int) + 1) = N40 + (L : Int) + 1 := by rw [IntKind.wrap_i64]; omega
        go_wp2_with (go_at_call 112; (with_reducible refine (hmd _).mono ?_); rintro e w9 ⟨rfl, hb9⟩; obtain ⟨_, _, ⟨hc9, hf9⟩, hz9⟩ := hb9.c3; (try simp only [wsz] at hz9 hc9 hf9))
        refine bodyPost_ret (v := .tuple #[.agg #[.int .i64 (N40 + (L : Int)), .int .i64 (N40 + (L : Int) + 1)], .int .i64 0]) ?_ rfl ⟨rfl, ?_⟩
        · simp [results, Tryz.results94, go_sem, ↓IntWalk.iteOmega, *]
        · exact Ext.setCell (Ext.setCell (Ext.trans hEr hb9) (Nat.le_succ _) _) (Nat.le_succ _) _
    | k + 1, hA, hk40, hlo =>
      have hA' := hA.out
      have hkk : (((k + 1 : Nat) : Int) - 1) = (k : Int) := by omega
      rw [hkk]
      have h2s : 2 ^ (k + 1) = 2 * 2 ^ k := by rw [Nat.pow_succ]; omega
      have sl : Small (D - r) := Small.le sD (by omega)
      have hNbo := hNb.out
      have hsl : ∀ w1, Ext wr w1 → Calls Tryz.prog 142 #[.agg #[.bool false, .slice bo (dig D).length cap2], .agg #[.bool false, .slice aoR (dig r).length capR]] w1 fun e w' => ∃ u, e = .returned (.tuple #[u, .int .i64 0]) ∧ Nn w' u (D - r) ∧ Ext w1 w' := fun w1 k1 => by
        refine (z_Sub _ _ D r w1 (hND.ext k1).wid (hNr.ext k1).wid (by unfold Sz; rw [Int.natAbs_natCast]; exact sD) (by unfold Sz; rw [Int.natAbs_natCast]; exact sr) (by unfold Sz; exact Small.le sD (by omega))).mono ?_
        rintro e w2 ⟨u, rfl, h2, h3⟩
        exact ⟨u, rfl, h2.natE (by omega), h3⟩
      unfold ofF at hA'
      by_cases hless : r < D - r
      · rw [if_pos hless] at hA'
        have hkI : (k : Int) ≤ 39 := by omega
        have hcp : ∀ va w1, Nn w1 va (D - r) → Ext wr w1 → Calls Tryz.prog 143 #[.agg #[.bool false, .slice aoR (dig r).length capR], va] w1 fun e w' => e = .returned (.tuple #[.int .i64 (-1), .int .i64 0]) ∧ Ext w1 w' := fun va w1 h k1 => by
          have := w_Cmp _ va r (D - r) w1 (hNr.ext k1) h sr sl
          rw [cmp_lt (show (r : Int) < ((D - r : Nat) : Int) by omega)] at this
          exact this
        have s2 : Small (r + r) := Small.le sDD (by omega)
        go_wp2_with (first
          | (go_at_call 142; (with_reducible refine (hsl _ (Ext.refl _)).mono ?_); rintro e w7 ⟨y1, rfl, hy2, hb7⟩; obtain ⟨ao1, capl, rfl, hy3⟩ := hy2.open; obtain ⟨_, _, ⟨hc7, hf7⟩, hz7⟩ := hb7.c3; (try simp only [wsz] at hz7 hc7 hf7); clear hsl)
          | (go_at_call 143; (with_reducible refine (hcp _ _ (hy3.ext ex_) ex_).mono ?_); rintro e w8 ⟨rfl, hb8⟩; obtain ⟨_, _, ⟨hc8, hf8⟩, hz8⟩ := hb8.c3; (try simp only [wsz] at hz8 hc8 hf8); clear hcp)
          | (go_at_call 144; (with_reducible refine (w_Add _ _ r r _ (hNr.ext ex_) (hNr.ext ex_) sr sr s2).mono ?_); rintro e w9 ⟨y5, rfl, hy5, hb9⟩; obtain ⟨ao9, cap9, rfl, hy6⟩ := hy5.open; obtain ⟨_, _, ⟨hc9, hf9⟩, hz9⟩ := hb9.c3; (try simp only [wsz] at hz9 hc9 hf9)))
        have hE3 : Ext wr w9 := ex_
        have hT3' := hWT.out.ext hE3
        have hst := Bx2.store hT3'.box hy6.wid
        have hG3 : Hid (GB T w3 ((w9.setCell ⟨T, 0, none⟩ (.bool false)).setCell ⟨T, 1, none⟩ (.slice ao9 (dig (r + r)).length cap9))) := ((hG.out.trans (GB.ext hE3)).set _).set _
        replace hst : Hid _ := hst
        replace hA' : Hid _ := hA'
        go_roundw
        case rel => exact ⟨k, (r + r), L, rfl, by go_num, hA', by omega, ⟨by omega, by omega⟩, hst, hG3⟩
        case measure => simp [intOf] <;> omega
      · rw [if_neg hless] at hA'
        have hkI : (k : Int) ≤ 39 := by omega
        obtain ⟨C, hC⟩ : ∃ C, cmpI (r : Int) ((D - r : Nat) : Int) = C := ⟨_, rfl⟩
        have hC0 : decide (C < 0) = false := by
          rw [← hC]; unfold cmpI; rw [if_neg (by omega)]; split <;> rfl
        have hcp : ∀ va w1, Nn w1 va (D - r) → Ext wr w1 → Calls Tryz.prog 143 #[.agg #[.bool false, .slice aoR (dig r).length capR], va] w1 fun e w' => e = .returned (.tuple #[.int .i64 C, .int .i64 0]) ∧ Ext w1 w' := fun va w1 h k1 => by
          have := w_Cmp _ va r (D - r) w1 (hNr.ext k1) h sr sl
          rw [hC] at this
          exact this
        clear hC
        have hs2 : ∀ va w1, Nn w1 va (D - r) → Ext wr w1 → Calls Tryz.prog 142 #[.agg #[.bool false, .slice aoR (dig r).length capR], va] w1 fun e w' => ∃ u, e = .returned (.tuple #[u, .int .i64 0]) ∧ Nn w' u (r - (D - r)) ∧ Ext w1 w' := fun va w1 h k1 => by
          refine (z_Sub _ va r (D - r : Nat) w1 (hNr.ext k1).wid h.wid (by unfold Sz; rw [Int.natAbs_natCast]; exact sr) (by unfold Sz; rw [Int.natAbs_natCast]; exact sl) (by unfold Sz; exact Small.le sr (by omega))).mono ?_
          rintro e w2 ⟨u, rfl, h2, h3⟩
          exact ⟨u, rfl, h2.natE (by omega), h3⟩
        have h2k : (2 : Int) ^ k ≤ 549755813888 := two_pow_le (t := 39) (by omega)
        have h2k0 : (0 : Int) < 2 ^ k := Int.pow_pos (by decide)
        have h2c : ((2 ^ k : Nat) : Int) = 2 ^ k := by rw [Int.natCast_pow]; rfl
        have hLN : (L : Int) + 2 ^ k ≤ 1099511627776 := by omega
        have hB1 : -2305843009213693952 ≤ N40 + L ∧ N40 + L + 2 ^ k ≤ 2305843009213693952 := by omega
        go_wp2_with (first
          | (go_at_call 142; (with_reducible refine (hsl _ (Ext.refl _)).mono ?_); rintro e w7 ⟨y1, rfl, hy2, hb7⟩; obtain ⟨ao1, capl, rfl, hy3⟩ := hy2.open; obtain ⟨_, _, ⟨hc7, hf7⟩, hz7⟩ := hb7.c3; (try simp only [wsz] at hz7 hc7 hf7); clear hsl)
          | (go_at_call 143; (with_reducible refine (hcp _ _ (hy3.ext ex_) ex_).mono ?_); rintro e w8 ⟨rfl, hb8⟩; obtain ⟨_, _, ⟨hc8, hf8⟩, hz8⟩ := hb8.c3; (try simp only [wsz] at hz8 hc8 hf8); clear hcp)
          | (go_at_call 142; (with_reducible refine (hs2 _ _ (hy3.ext ex_) ex_).mono ?_); rintro e w9 ⟨y5, rfl, hy5, hb9⟩; obtain ⟨ao9, cap9, rfl, hy6⟩ := hy5.open; obtain ⟨_, _, ⟨hc9, hf9⟩, hz9⟩ := hb9.c3; (try simp only [wsz] at hz9 hc9 hf9)))
        have hE3 : Ext wr w9 := ex_
        have hT3' := hWT.out.ext hE3
        have hst := Bx2.store hT3'.box hy6.wid
        have hG3 : Hid (GB T w3 ((w9.setCell ⟨T, 0, none⟩ (.bool false)).setCell ⟨T, 1, none⟩ (.slice ao9 (dig (r - (D - r))).length cap9))) := ((hG.out.trans (GB.ext hE3)).set _).set _
        replace hst : Hid _ := hst
        replace hA' : Hid _ := hA'
        go_roundw
        case rel => exact ⟨k, (r - (D - r)), (L + 2 ^ k), (by rw [Int.natCast_add, Int.natCast_pow, Int.add_assoc]; rfl), by go_num, hA', by omega, ⟨by omega, by omega⟩, hst, hG3⟩
        case measure => simp [intOf] <;> omega
theorem T_EPL_1 {p : Prop} (h : p := by
 have e := mk_mul (n := n) hd
 have hp : (0 : Rat) < (d : Rat) := by exact_mod_cast hd
 refine Rat.not_lt.1 fun hl => ?_
 have := Rat.mul_lt_mul_of_pos_right hl hp
 grind) : p := h
def cN (l : List Int) (k : Nat) : Int := l.getD k 0
def plX (l : List Int) (x : Rat) : Rat := chS (cN l) x l.length
def sgX (s : SegD) (t : Int) : Rat := mkRat (2 * t - s.fr - s.ti) (s.ti - s.fr).toNat
def plU (l : List Int) (x : Rat) : Rat := plX l x * mkRat 1 1099511627776
def swS (l : List Int) : Nat → Int
 | 0 => 0
 | k + 1 => swS l k + (k : Int) * k * (cN l k).natAbs
def swI (l : List Int) (n long : Int) : Int := -(-(swS l l.length * n) / long)
def COk (l : List Int) : Prop := 0 < l.length ∧ l.length ≤ 6 ∧ ∀ k, k < l.length → -1125899906842624 ≤ cN l k ∧ cN l k ≤ 1125899906842624
def SOk (s : SegD) : Prop := s.fr < s.ti ∧ -5000000000000000 ≤ s.fr ∧ s.ti ≤ 5000000000000000 ∧ COk s.c0 ∧ COk s.c1 ∧ COk s.c2
theorem SOk.c {s : SegD} (h : SOk s) : ∀ i, COk (s.c i)
 | 0 => h.2.2.2.1
 | 1 => h.2.2.2.2.1
 | _ + 2 => h.2.2.2.2.2
theorem fl_bounds {x : Rat} {a b : Int} (h1 : (a : Rat) ≤ x) (h2 : x ≤ (b : Rat)) : a ≤ x.num / (x.den : Int) ∧ x.num / (x.den : Int) ≤ b := by
 rw [← Rat.floor_def]
 refine ⟨Rat.le_floor_iff.2 h1, ?_⟩
 have := Rat.floor_monotone h2
 rwa [Rat.floor_intCast] at this
theorem mk_mul {n : Int} {d : Nat} (hd : 0 < d) : mkRat n d * (d : Rat) = (n : Rat) := by
 rw [Rat.mkRat_eq_div]
 have : (d : Rat) ≠ 0 := by intro e; have := Rat.natCast_eq_zero_iff.1 e; omega
 rw [Rat.div_mul_cancel this]
theorem mk_le {n : Int} {d : Nat} {k : Rat} (hd : 0 < d) (h : (n : Rat) ≤ k * d) : mkRat n d ≤ k := by
 exact T_EPL_1
theorem le_mk {n : Int} {d : Nat} {k : Rat} (hd : 0 < d) (h : k * d ≤ (n : Rat)) : k ≤ mkRat n d := by
 exact T_EPL_1
theorem sgX_le {s : SegD} {t : Int} (h : s.fr < s.ti) (h1 : s.fr ≤ t) (h2 : t ≤ s.ti) : -1 ≤ sgX s t ∧ sgX s t ≤ 1 := by
 have hd : 0 < (s.ti - s.fr).toNat := by omega
 have e : ((s.ti - s.fr).toNat : Int) = s.ti - s.fr := by omega
 have er : (((s.ti - s.fr).toNat : Nat) : Rat) = (s.ti : Rat) - (s.fr : Rat) := by
  rw [← Rat.intCast_natCast, e, Rat.intCast_sub]
 refine ⟨le_mk hd ?_, mk_le hd ?_⟩
 ·have : ((-(s.ti - s.fr) : Int) : Rat) ≤ ((2 * t - s.fr - s.ti : Int) : Rat) := Rat.intCast_le_intCast.2 (by omega)
  rw [er]
  rw [Rat.intCast_neg, Rat.intCast_sub] at this
  grind
 ·have : ((2 * t - s.fr - s.ti : Int) : Rat) ≤ ((s.ti - s.fr : Int) : Rat) := Rat.intCast_le_intCast.2 (by omega)
  rw [er]
  rw [Rat.intCast_sub s.ti] at this
  grind
theorem plX_le {l : List Int} {x : Rat} (h : COk l) (h1 : -1 ≤ x) (h2 : x ≤ 1) : -(1125899906842624 * 364) ≤ plX l x ∧ plX l x ≤ 1125899906842624 * 364 := by
 obtain ⟨hl0, hl, hc⟩ := h
 have := chS_le (c := cN l) (A := 1125899906842624) (by decide) h1 h2 l.length (fun k hk => by
  obtain ⟨a, b⟩ := hc k hk
  have a' : ((-1125899906842624 : Int) : Rat) ≤ (cN l k : Rat) := Rat.intCast_le_intCast.2 a
  have b' : (cN l k : Rat) ≤ ((1125899906842624 : Int) : Rat) := Rat.intCast_le_intCast.2 b
  exact ⟨by simpa using a', by simpa using b'⟩)
 have hs : sm3 l.length ≤ 364 := by
  obtain e | e | e | e | e | e : l.length = 1 ∨ l.length = 2 ∨ l.length = 3 ∨ l.length = 4 ∨ l.length = 5 ∨ l.length = 6 := by omega
  all_goals (rw [e]; simp only [sm3, pw3]; grind)
 unfold plX
 constructor <;> grind
theorem plU_le {l : List Int} {x : Rat} (h : COk l) (h1 : -1 ≤ x) (h2 : x ≤ 1) : -372736 ≤ (plU l x).num / ((plU l x).den : Int) ∧ (plU l x).num / ((plU l x).den : Int) ≤ 372736 := by
 obtain ⟨a, b⟩ := plX_le h h1 h2
 have e : (mkRat 1 1099511627776 : Rat) * 1099511627776 = 1 := by decide +kernel
 refine fl_bounds ?_ ?_
 ·unfold plU; have : (((-372736 : Int)) : Rat) = -372736 := rfl
  rw [this]
  generalize mkRat 1 1099511627776 = u at *
  have hu : 0 ≤ u := by refine Rat.not_lt.1 fun hl => ?_; grind
  have := Rat.mul_nonneg (show 0 ≤ plX l x + 1125899906842624 * 364 by grind) hu
  grind
 ·unfold plU; have : (((372736 : Int)) : Rat) = 372736 := rfl
  rw [this]
  generalize mkRat 1 1099511627776 = u at *
  have hu : 0 ≤ u := by refine Rat.not_lt.1 fun hl => ?_; grind
  have := Rat.mul_nonneg (show 0 ≤ 1125899906842624 * 364 - plX l x by grind) hu
  grind
theorem ofLo_le {x : Rat} {a b : Int} (h : a ≤ x.num / (x.den : Int)) (k : x.num / (x.den : Int) ≤ b) : a * 1099511627776 ≤ ofLo x ∧ ofLo x ≤ b * 1099511627776 + 1099511627775 ∧ ofLo x ≤ ofHi x ∧ ofHi x ≤ ofLo x + 1 := by
 have hd : (0 : Int) < x.den := by have := den_pos' x; omega
 have h1 : a * x.den ≤ x.num := (Int.le_ediv_iff_mul_le hd).1 h
 have h2 : x.num < (b + 1) * x.den := (Int.ediv_lt_iff_lt_mul hd).1 (by omega)
 refine ⟨(Int.le_ediv_iff_mul_le hd).2 ?_, ?_, ?_⟩
 ·have := Int.mul_le_mul_of_nonneg_right h1 (show (0 : Int) ≤ 1099511627776 by decide)
  grind
 ·have : ofLo x < (b + 1) * 1099511627776 := (Int.ediv_lt_iff_lt_mul hd).2 (by
   have := Int.mul_lt_mul_of_pos_right h2 (show (0 : Int) < 1099511627776 by decide)
   grind)
  omega
 ·unfold ofHi; split <;> omega
theorem swS_le {l : List Int} (h : COk l) : 0 ≤ swS l l.length ∧ swS l l.length ≤ 55 * 1125899906842624 := by
 obtain ⟨hl0, hl, hc⟩ := h
 have hb : ∀ k, k < l.length → (0 : Int) ≤ (cN l k).natAbs ∧ ((cN l k).natAbs : Int) ≤ 1125899906842624 := fun k hk => by have := hc k hk; omega
 obtain e | e | e | e | e | e : l.length = 1 ∨ l.length = 2 ∨ l.length = 3 ∨ l.length = 4 ∨ l.length = 5 ∨ l.length = 6 := by omega
 all_goals (
  rw [e]
  have b0 := hb 0 (by omega)
  try have b1 := hb 1 (by omega)
  try have b2 := hb 2 (by omega)
  try have b3 := hb 3 (by omega)
  try have b4 := hb 4 (by omega)
  try have b5 := hb 5 (by omega)
  simp only [swS]
  omega)
def CsOk (l : List Int) : Prop := 0 < l.length ∧ ∀ k, k < l.length → -1125899906842624 ≤ cN l k ∧ cN l k ≤ 1125899906842624
def SgOk (s : SegD) : Prop := s.fr < s.ti ∧ -5000000000000000 ≤ s.fr ∧ s.ti ≤ 5000000000000000 ∧ CsOk s.c0 ∧ CsOk s.c1 ∧ CsOk s.c2
def sgA (b : BodyD) (k : Nat) : SegD := b.segs.getD k seg0
def bd (l : List BodyD) (k : Nat) : BodyD := l.getD k body0
def SgsOk (b : BodyD) (n : Nat) : Prop := (∀ k, k < n → SgOk (sgA b k)) ∧ ∀ k, k + 1 < n → (sgA b (k + 1)).fr = (sgA b k).ti
def BdOk (b : BodyD) : Prop := NmOk b.name ∧ 0 ≤ b.gm ∧ b.gm ≤ 1152921504606846976 ∧ 0 ≤ b.rad ∧ b.rad ≤ 1125899906842624 ∧ 0 < b.segs.length ∧ SgsOk b b.segs.length
def EpOk (l : List BodyD) (n : Nat) : Prop := (∀ k, k < n → BdOk (bd l k)) ∧ ∀ i k, i < k → k < n → (bd l i).name ≠ (bd l k).name
def ManyS (s : SegD) : Prop := 16 < s.c0.length ∨ 16 < s.c1.length ∨ 16 < s.c2.length
def ManyB (b : BodyD) : Prop := 100 < b.segs.length ∨ ∃ k, k < b.segs.length ∧ ManyS (sgA b k)
def Many (l : List BodyD) : Prop := 12 < l.length ∨ ∃ k, k < l.length ∧ ManyB (bd l k)
def CkE (l : List BodyD) (E : Int) : Prop := (Many l → E = 4) ∧ (¬ Many l → EpOk l l.length → E = 0) ∧ (¬ Many l → ¬ EpOk l l.length → E = 8)
theorem CkE.ex (l : List BodyD) : ∃ E, CkE l E := by
 by_cases h : Many l
 ·exact ⟨4, fun _ => rfl, fun k => absurd h k, fun k => absurd h k⟩
 ·by_cases k : EpOk l l.length
  ·exact ⟨0, fun j => absurd j h, fun _ _ => rfl, fun _ j => absurd k j⟩
  ·exact ⟨8, fun j => absurd j h, fun _ j => absurd j k, fun _ _ => rfl⟩
theorem CkE.zero {l : List BodyD} {E : Int} (h : CkE l E) (h0 : E = 0) : ¬ Many l ∧ EpOk l l.length := by
 refine ⟨fun k => ?_, ?_⟩
 ·have := h.1 k; omega
 ·by_cases m : Many l
  ·have := h.1 m; omega
  ·by_cases k : EpOk l l.length
   ·exact k
   ·have := h.2.2 m k; omega
theorem CkE.range {l : List BodyD} {E : Int} (h : CkE l E) : E = 0 ∨ E = 4 ∨ E = 8 := by
 by_cases m : Many l
 ·exact .inr (.inl (h.1 m))
 ·by_cases k : EpOk l l.length
  ·exact .inl (h.2.1 m k)
  ·exact .inr (.inr (h.2.2 m k))
def Sml (l : List BodyD) : Prop := l.length ≤ 4 ∧ ∀ i, i < l.length → (bd l i).segs.length ≤ 4 ∧ ∀ k, k < (bd l i).segs.length → (sgA (bd l i) k).c0.length ≤ 6 ∧ (sgA (bd l i) k).c1.length ≤ 6 ∧ (sgA (bd l i) k).c2.length ≤ 6
theorem sml_sok {l : List BodyD} (h : EpOk l l.length) (hs : Sml l) {i k : Nat} (hi : i < l.length) (hk : k < (bd l i).segs.length) : SOk (sgA (bd l i) k) := by
 obtain ⟨a, b, c, d, e, f⟩ := (h.1 i hi).2.2.2.2.2.2.1 k hk
 obtain ⟨l0, l1, l2⟩ := (hs.2 i hi).2 k hk
 exact ⟨a, b, c, ⟨d.1, l0, d.2⟩, ⟨e.1, l1, e.2⟩, ⟨f.1, l2, f.2⟩⟩
/-! Where a body may be between two times. -/
def oeX (s : SegD) (fr : Int) : Int := max s.fr fr
def oeY (s : SegD) (ti : Int) : Int := min s.ti ti
def oeM (s : SegD) (fr ti : Int) : Int := oeX s fr + (oeY s ti - oeX s fr) / 2
def oeW (s : SegD) (l : List Int) (fr ti : Int) : Int := swI l (oeY s ti - oeX s fr + 1) (s.ti - s.fr)
def oeL (s : SegD) (l : List Int) (fr ti : Int) : Int := ofLo (plU l (sgX s (oeM s fr ti))) - oeW s l fr ti
def oeH (s : SegD) (l : List Int) (fr ti : Int) : Int := ofHi (plU l (sgX s (oeM s fr ti))) + oeW s l fr ti
def oeS (s : SegD) (fr ti : Int) : V3 := ⟨oeL s s.c0 fr ti, oeH s s.c0 fr ti, oeL s s.c1 fr ti, oeH s s.c1 fr ti, oeL s s.c2 fr ti, oeH s s.c2 fr ti⟩
def hullV (a b : V3) : V3 := ⟨min a.a b.a, max a.b b.b, min a.c b.c, max a.d b.d, min a.e b.e, max a.f b.f⟩
def inS (s : SegD) (fr ti : Int) : Bool := decide (s.fr ≤ ti) && decide (fr ≤ s.ti)
def oeN (b : BodyD) (fr ti : Int) : Nat → Nat × V3
 | 0 => (0, V3.O)
 | k + 1 => if inS (sgA b k) fr ti then ((oeN b fr ti k).1 + 1, if 0 < (oeN b fr ti k).1 then hullV (oeS (sgA b k) fr ti) (oeN b fr ti k).2 else oeS (sgA b k) fr ti) else oeN b fr ti k
def outR (b : BodyD) (fr ti : Int) : Prop := fr < (sgA b 0).fr ∨ (sgA b (b.segs.length - 1)).ti < ti
instance (b : BodyD) (fr ti : Int) : Decidable (outR b fr ti) := by unfold outR; infer_instance
def oeV (b : BodyD) (fr ti : Int) : V3 := (oeN b fr ti b.segs.length).2
def oeR (b : BodyD) (fr ti : Int) : V7 := if ti < fr then ⟨V3.O, 2⟩ else if outR b fr ti then ⟨V3.O, 16⟩ else if ckV (oeV b fr ti) ≠ 0 then ⟨V3.O, 16⟩ else ⟨oeV b fr ti, 0⟩
/-! The sources but the Sun. -/
structure SrcD where
 x : Int
 y : Int
 v : V3
def gmX (b : BodyD) : Rat := mkRat b.gm 1000000000000000000
def srcO (b : BodyD) (fr ti : Int) : SrcD := ⟨ofLo (gmX b), ofHi (gmX b), (oeR b fr ti).v⟩
def srN (l : List BodyD) (fr ti : Int) : Nat → List SrcD × Int
 | 0 => ([], 0)
 | k + 1 => if (srN l fr ti k).2 ≠ 0 then srN l fr ti k else if (bd l k).gm = 0 then srN l fr ti k else if (oeR (bd l k) fr ti).e ≠ 0 then ([], (oeR (bd l k) fr ti).e) else ((srN l fr ti k).1 ++ [srcO (bd l k) fr ti], 0)
def gaR (E : Int) (l : List BodyD) (fr ti : Int) (p : V3) : List SrcD × Int :=
 if E ≠ 0 then ([], E) else if ckV p ≠ 0 then ([], ckV p) else if ti < fr then ([], 2) else if (srN l fr ti l.length).2 ≠ 0 then ([], (srN l fr ti l.length).2) else srN l fr ti l.length
end Go.Proofs.YtbkgakgdbmjmjaaGreat
namespace Go.Proofs.YtbkgakgdbmjmjaaGreat
open Go.RowKit Go.Shelf
theorem T_EP7_2 {p : Prop} (h : p := by
 go_enter Tryz.func176, Tryz.ntmps176
 go_wp2_with fail
 refine bodyPost_ret (v := .bool true) ?_ rfl ⟨rfl, ?_⟩
 ·(try simp only [bn_, bm_] at *)
  simp [results, Tryz.results176, go_sem, ↓IntWalk.iteOmega, *]
 ·repeat (first | with_reducible exact Ext.refl _ | with_reducible assumption | with_reducible refine Ext.alloc ?_ _ | with_reducible refine Ext.setCell ?_ c_19 _ | with_reducible refine Ext.drewN ?_ _ | with_reducible refine Ext.drew ?_ | with_reducible refine Ext.trans ?_ c_9)) : p := h
theorem T_EP7_1 {p : Prop} (h : p := by
 go_enter Tryz.func127, Tryz.ntmps127
 go_wp2_with (go_at_call 174; (with_reducible refine (hc _).mono ?_); rintro e w4 ⟨rfl, hb4⟩; obtain ⟨_, _, ⟨hc4, hf4⟩, hz4⟩ := hb4.c3; (try simp only [wsz] at hz4 hc4 hf4))
 refine bodyPost_ret (v := .bool false) ?_ rfl ⟨rfl, ?_⟩
 ·(try simp only [bn_, bm_] at *)
  simp [results, Tryz.results127, go_sem, ↓IntWalk.iteOmega, *]
 ·repeat (first | with_reducible exact Ext.refl _ | with_reducible assumption | with_reducible refine Ext.alloc ?_ _ | with_reducible refine Ext.setCell ?_ c_19 _ | with_reducible refine Ext.drewN ?_ _ | with_reducible refine Ext.drew ?_ | with_reducible refine Ext.trans ?_ c_9)) : p := h
theorem p_outside (n m : Int) (w : World) (hm : 0 ≤ m) (hm2 : m ≤ 9223372036854775807) :
    Calls Tryz.prog 176 #[.int .i64 n, .int .i64 m] w fun e w' => e = .returned (.bool (decide (n < -m) || decide (m < n))) ∧ Ext w w' := by
 by_cases h1 : n < -m
 ·rw [decide_eq_true h1, Bool.true_or]
  exact T_EP7_2
 ·rw [decide_eq_false h1, Bool.false_or]
  by_cases h2 : m < n
  ·rw [decide_eq_true h2]
   exact T_EP7_2
  ·rw [decide_eq_false h2]
   go_enter Tryz.func176, Tryz.ntmps176
   go_wp2_with fail
   refine bodyPost_ret (v := .bool false) ?_ rfl ⟨rfl, ?_⟩
   ·(try simp only [bn_, bm_] at *)
    simp [results, Tryz.results176, go_sem, ↓IntWalk.iteOmega, *]
   ·exact b_6
theorem p_nmR (w : World) : PredAt Tryz.prog 175 #[] encR nmR w := fun W r _ => by
 unfold FnGives
 by_cases h1 : r < 97 <;> by_cases h2 : 122 < r <;> by_cases h3 : r < 48 <;> by_cases h4 : 57 < r <;> by_cases h5 : r = 45
 all_goals first | (exfalso; omega) | (
  go_enter Tryz.func175, Tryz.ntmps175
  go_wp2
  all_goals first | (exfalso; omega) | (go_ret; exact ⟨by first | (simp [nmR, h1, h2, h3, h4, h5]; done) | (simp [nmR, h1, h2, h3, h4, h5]; omega), 0, rfl⟩))
theorem p_cont (s : ByteArray) (w : World) : Calls Tryz.prog 174 #[.string s, .func (.func 175) #[] #[]] w fun e w' => e = .returned (.bool (nmAny s s.size)) ∧ Ext w w' := by
 have h := Tryz.strings_ContainsFunc 175 #[] (enters_of Tryz.func175 c_16 rfl) nmR s w (p_nmR w)
 rw [nm_idx] at h
 exact h
theorem get_bang (s : ByteArray) (k : Nat) (h : k < s.size) : s.get! k = s[k] := by
 cases s with
 | mk d =>
  show d[k]! = d[k]
  exact getElem!_pos d k h
def nmB (s : ByteArray) : Bool := decide (1 ≤ s.size) && (decide (s.size ≤ 24) && (!nmAny s s.size && (decide (97 ≤ bt s 0) && decide (bt s 0 ≤ 122))))
theorem nmB_iff (s : ByteArray) : nmB s = true ↔ NmOk s := by
 unfold nmB NmOk
 simp only [Bool.and_eq_true, decide_eq_true_eq, Bool.not_eq_true']
theorem p_name (s : ByteArray) (w : World) (hs : s.size ≤ 9223372036854775807) :
    Calls Tryz.prog 127 #[.string s] w fun e w' => e = .returned (.bool (nmB s)) ∧ Ext w w' := by
 have hc := p_cont s
 obtain ⟨B, hB⟩ : ∃ B, nmB s = B := ⟨_, rfl⟩
 rw [hB]
 unfold nmB at hB
 generalize nmAny s s.size = q at *
 by_cases h0 : s.size = 0
 ·rw [decide_eq_false (by omega), Bool.false_and] at hB
  subst hB
  have hs0 : s = ⟨#[]⟩ := by
   apply ByteArray.ext
   exact Array.eq_empty_of_size_eq_zero h0
  subst hs0
  exact T_EP7_1
 ·rw [decide_eq_true (by omega), Bool.true_and] at hB
  have hne : s.toList.isEmpty = false := by
   rw [Lib.toList_data, List.isEmpty_eq_false_iff]
   intro e
   have := congrArg List.length e
   simp at this
   exact h0 (by rw [this]; rfl)
  have e0 : bt s 0 = (s[0]'(by omega)).toNat := by unfold bt; rw [get_bang s 0 (by omega)]
  rw [e0] at hB
  obtain ⟨c, hc0⟩ : ∃ c, (s[0]'(by omega)).toNat = c := ⟨_, rfl⟩
  rw [hc0] at hB
  by_cases h1 : s.size ≤ 24
  ·rw [decide_eq_true h1, Bool.true_and] at hB
   cases q
   ·rw [Bool.not_false, Bool.true_and] at hB
    by_cases h2 : 97 ≤ c
    ·rw [decide_eq_true h2, Bool.true_and] at hB
     by_cases h3 : c ≤ 122
     ·have h3i : (c : Int) ≤ 122 := by omega
      rw [decide_eq_true h3] at hB
      subst hB
      go_enter Tryz.func127, Tryz.ntmps127
      go_wp2_with (go_at_call 174; (with_reducible refine (hc _).mono ?_); rintro e w4 ⟨rfl, hb4⟩; obtain ⟨_, _, ⟨hc4, hf4⟩, hz4⟩ := hb4.c3; (try simp only [wsz] at hz4 hc4 hf4))
      refine bodyPost_ret (v := .bool true) ?_ rfl ⟨rfl, ?_⟩
      ·(try simp only [bn_, bm_] at *)
       simp [results, Tryz.results127, go_sem, ↓IntWalk.iteOmega, *]
      ·exact b_6
     ·have h3i : 122 < (c : Int) := by omega
      rw [decide_eq_false h3] at hB
      subst hB
      exact T_EP7_1
    ·rw [decide_eq_false h2, Bool.false_and] at hB
     subst hB
     exact T_EP7_1
   ·rw [Bool.not_true, Bool.false_and] at hB
    subst hB
    exact T_EP7_1
  ·rw [decide_eq_false h1, Bool.false_and] at hB
   subst hB
   exact T_EP7_1
end Go.Proofs.YtbkgakgdbmjmjaaGreat
namespace Go.Proofs.YtbkgakgdbmjmjaaGreat
open Go.RowKit
theorem z_MulS (va vb : Value) (sa sb : Bool) (m k : Nat) (w : World) (ha : Sm w va sa m) (hb0 : Sm w vb sb k) (hs : Small m) (hs2 : Small k) (hs3 : Small (m * k)) (hz : m = 0 → sa = false) (hz2 : k = 0 → sb = false) :
    Calls Tryz.prog 180 #[va, vb] w fun e w' => ∃ u, e = .returned (.tuple #[u, .int .i64 0]) ∧ Wid w' u (sg (!sa == sb) (m * k)) ∧ Ext w w' := by
 obtain ⟨u, rfl, hu⟩ := ha
 obtain ⟨s, rfl, hv⟩ := hb0
 obtain ⟨ao, b1, o1, cap1, rfl, v1, v2, v3, v4, v5, v6⟩ := hu.view
 obtain ⟨bo, b2, o2, cap2, rfl, y1, y2, y3, y4, y5, y6⟩ := hv.view
 have hlen : (dig m).length ≤ 100000 ∧ (dig k).length ≤ 100000 := by unfold Small at hs hs2; omega
 obtain ⟨W3, hW3⟩ : ∃ W3, ((w.alloc (.cells #[.bool sa, .slice ao (dig m).length cap1] 159)).alloc (.cells #[.bool sb, .slice bo (dig k).length cap2] 159)).alloc (.cells #[.bool false, .slice none 0 0] 159) = W3 := ⟨_, rfl⟩
 have hWs : W3.heap.size = w.heap.size + 1 + 1 + 1 := by rw [← hW3]; simp
 have hEW : Ext w W3 := by rw [← hW3]; exact (((Ext.refl w).alloc _).alloc _).alloc _
 have hS : BX w (w.heap.size + 1 + 1) [(w.heap.size, 0, .bool sa), (w.heap.size, 1, .slice ao (dig m).length cap1), (w.heap.size + 1, 0, .bool sb), (w.heap.size + 1, 1, .slice bo (dig k).length cap2)] W3 := by
  rw [← hW3]
  refine ⟨hW3 ▸ hEW, ?_, ?_, ?_, ?_, ?_, by simp⟩
  ·intro p hp
   simp only [List.mem_cons, List.mem_nil_iff, or_false] at hp
   rcases hp with rfl | rfl | rfl | rfl <;> simp [go_sem, ↓IntWalk.iteOmega]
  ·exact b_11
  ·exact b_12
  ·exact b_13
  ·have := NoU.new ((w.alloc (.cells #[.bool sa, .slice ao (dig m).length cap1] 159)).alloc (.cells #[.bool sb, .slice bo (dig k).length cap2] 159)) #[.bool false, .slice none 0 0] 159 (noU2 (by simp) (by simp))
   simpa using this
 have hLn : ∀ p ∈ ([(w.heap.size, 0, .bool sa), (w.heap.size, 1, .slice ao (dig m).length cap1), (w.heap.size + 1, 0, .bool sb), (w.heap.size + 1, 1, .slice bo (dig k).length cap2)] : List (Nat × Nat × Value)), p.1 ≠ w.heap.size + 1 + 1 := by
  intro p hp
  simp only [List.mem_cons, List.mem_nil_iff, or_false] at hp
  rcases hp with rfl | rfl | rfl | rfl <;> (dsimp only; omega)
 have hck := z_check_two W3 _ _ sa sb m k (hu.ext hEW) (hv.ext hEW) hs hs2 hz hz2
 rw [hWs] at hck
 subst hW3
 clear v1 v4 v5 y1 y4 y5 hWs hEW hz hz2
 go_enter Tryz.func180, Tryz.ntmps180
 go_upto_region 4 with (go_at_call 193; (with_reducible refine hck.mono ?_); rintro e w1 ⟨rfl, hb⟩)
 have hs4 : (dig (m * k)).length ≤ 4096 := hs3
 have hS0 := hS.ext (((Ext.refl _).alloc _).trans hb)
 clear hS hck hb
 refine wp_region_held_drew (S := (fun w0 => BX w (w.heap.size + 1 + 1) [(w.heap.size, 0, .bool sa), (w.heap.size, 1, .slice ao (dig m).length cap1), (w.heap.size + 1, 0, .bool sb), (w.heap.size + 1, 1, .slice bo (dig k).length cap2)] w0)) c_16 ?_ (fun hH => ?_)
 ·exact hS0.drew
 try simp only [sx_]
 refine tk 0 rfl c_3 ?_
 try simp only [sx_]
 refine tk 1 rfl c_5 ?_
 try simp only [sx_]
 refine tk 2 rfl c_3 ?_
 try simp only [sx_]
 refine tk 3 rfl c_5 ?_
 try simp only [sx_]
 refine tk 4 rfl c_3 ?_
 try simp only [sx_]
 refine tk 5 rfl c_3 ?_
 try simp only [sx_]
 refine tk 6 rfl c_5 ?_
 try simp only [sx_]
 refine tk 7 rfl c_3 ?_
 try simp only [sx_]
 refine tk 8 rfl c_5 ?_
 try simp only [sx_]
 refine rh1 9 rfl fun K hK => ?_
 go_simp
 (go_at_call 231; (with_reducible refine (w_times _ _ _ _ _ (hu.ext hH.base) (hv.ext hH.base) hlen).mono ?_); rintro e t2 ⟨s2, zs, rfl, hz2, hval, hx2⟩; obtain ⟨ao2, bb2, oo2, cc2, rfl, _⟩ := hz2.view)
 have hv2 : val zs = ((m * k : Nat) : Int) := by rw [hval, dig_val, dig_val]; exact (Int.natCast_mul m k).symm
 refine hK.out _ _ ?_ fun _ => ?_
 ·exact b_14
 clear hK K hH
 rename_i hH
 try simp only [sx_]
 refine rh1 10 rfl fun K hK => ?_
 go_simp
 (go_at_call 189; (with_reducible refine (w_madeS (!sa == sb) _ _ (m * k) _ hz2 hv2 hs4).mono ?_); rintro e t3 ⟨s3, bo3, rfl, hz3, hbo3, hx3⟩; obtain ⟨ao3, bb3, oo3, cc3, rfl, _⟩ := hz3.view)
 refine hK.out _ _ ?_ fun _ => ?_
 ·(try dsimp only); exact hH.ext hx3
 clear hK K hH
 rename_i hH
 try simp only [sx_]
 refine tk 11 rfl c_3 ?_
 try simp only [sx_]
 refine tk 12 rfl c_3 ?_
 try simp only [sx_]
 refine rh1 13 rfl fun K hK => ?_
 obtain ⟨⟨xa, h3a⟩, ⟨xb, h3b⟩, h3f, hnu, hsl⟩ := hH.box
 go_simp
 refine hK.out _ _ ?_ fun _ => ?_
 ·(try dsimp only); exact (hH.set (by omega) hLn (fun z e => by cases e)).set (by omega) hLn (fun z e => by cases e)
 clear hK K hH
 rename_i hH
 try simp only [sx_]
 refine tk 14 rfl c_3 ?_
 try simp only [sx_]
 refine wpAnyH_done c_16 ?_ _
 go_wp2_with fail
 refine bodyPost_ret (v := .tuple #[.agg #[.bool bo3, .slice ao3 (dig (m * k)).length cc3], .int .i64 0]) ?_ rfl ⟨_, rfl, Wid.mk' (Lim.box (Lim.box hz3 hnu) (NoU.set hnu (fun z e => by cases e))) hbo3, ?_⟩
 ·simp [results, Tryz.results180, go_sem, ↓IntWalk.iteOmega, h3a, h3b] <;> first | exact hbo3.symm | simp [hbo3]
 ·exact hH.base
theorem z_Mul (va vb : Value) (m k : Int) (w : World) (ha : Wid w va m) (hb0 : Wid w vb k) (hs : Sz m) (hs2 : Sz k) (hs3 : Sz (m * k)) :
    Calls Tryz.prog 180 #[va, vb] w fun e w' => ∃ u, e = .returned (.tuple #[u, .int .i64 0]) ∧ Wid w' u (m * k) ∧ Ext w w' := by
 unfold Sz at hs3
 rw [Int.natAbs_mul] at hs3
 have h := z_MulS va vb (decide (m < 0)) (decide (k < 0)) m.natAbs k.natAbs w ha hb0 hs hs2 hs3 (wid_s _ rfl) (wid_s _ rfl)
 have e : sg (!decide (m < 0) == decide (k < 0)) (m.natAbs * k.natAbs) = m * k := by
  have h0 : ∀ (s t : Bool) (a b : Nat), sg (!s == t) (a * b) = sg s a * sg t b := by
   intro s t a b; cases s <;> cases t <;> simp [sg, Int.neg_mul, Int.mul_neg]
  rw [h0, sg_wid, sg_wid]
 rw [e] at h
 exact h
theorem Fr.shape {w : World} {v : Value} {x : Rat} (h : Fr w v x) : ∃ s ao l cap bo l2 cap2, v = .agg #[.bool s, .slice ao l cap, .bool false, .slice bo l2 cap2] := by
 obtain ⟨u, s, rfl, hu, hs⟩ := h
 obtain ⟨ao, b1, o1, cap1, rfl, -⟩ := hu.view
 obtain ⟨bo, b2, o2, cap2, rfl, -⟩ := hs.view
 exact ⟨_, ao, _, cap1, bo, _, cap2, rfl⟩
theorem Fr.parts {w : World} {x : Rat} {s : Bool} {ao bo : Option Addr} {l l2 cap cap2 : Nat} (h : Fr w (.agg #[.bool s, .slice ao l cap, .bool false, .slice bo l2 cap2]) x) : Wid w (.agg #[.bool s, .slice ao l cap]) x.num ∧ Nn w (.agg #[.bool false, .slice bo l2 cap2]) x.den := by
 obtain ⟨u, t, e, hu, ht⟩ := h.num
 simp only [Value.agg.injEq, Array.mk.injEq, List.cons.injEq, Value.bool.injEq, and_true, true_and] at e
 obtain ⟨rfl, rfl, rfl⟩ := e
 exact ⟨hu, ht⟩
theorem z_must0 (va : Value) (n : Int) (w : World) (ha : Wid w va n) : Calls Tryz.prog 232 #[va, .int .i64 0] w fun e w' => e = .returned va ∧ Ext w w' := by
 obtain ⟨s, ao, k, cap, rfl, -⟩ := ha.open
 go_enter Tryz.func232, Tryz.ntmps232
 go_wp2
 refine bodyPost_ret (v := .agg #[.bool s, .slice ao k cap]) ?_ rfl ⟨rfl, ex_⟩
 simp [results, Tryz.results232, go_sem, ↓IntWalk.iteOmega, *]
theorem z_cross (va vb : Value) (x y : Rat) (a b : Nat) (w : World) (hf : Fr w va x) (hg : Fr w vb y) (hx : Fb x a) (hy : Fb y b) (hab : a + b ≤ 131000) :
    Calls Tryz.prog 269 #[va, vb] w fun e w' => ∃ u, e = .returned u ∧ Wid w' u (x.num * y.den) ∧ Ext w w' := by
 obtain ⟨sx, -⟩ := fb_small hx (by omega)
 obtain ⟨-, sy⟩ := fb_small hy (by omega)
 have sp : Sz (x.num * y.den) := small_bits (cross_lt hx hy).1 (by omega)
 obtain ⟨s1, ao, l1, cap1, bo, l2, cap2, rfl⟩ := hf.shape
 obtain ⟨s2, co, l3, cap3, eo, l4, cap4, rfl⟩ := hg.shape
 have hm := fun w1 (k1 : Ext w w1) => z_Mul _ _ x.num y.den w1 (hf.parts.1.ext k1) (hg.parts.2.wid.ext k1) sx (by unfold Sz; rw [Int.natAbs_natCast]; exact sy) sp
 generalize x.num * (y.den : Int) = N at *
 clear hf hg hx hy sx sy sp
 go_enter Tryz.func269, Tryz.ntmps269
 go_wp2_with (first
  | (go_at_call 180; (with_reducible refine (hm _ ex_).mono ?_); rintro e w1 ⟨y1, rfl, hn1, hb1⟩; obtain ⟨_, _, ⟨hc1, hf1⟩, hz1⟩ := hb1.c3; (try simp only [wsz] at hz1 hc1 hf1))
  | (go_at_call 232; (with_reducible refine (z_must0 _ N _ hn1).mono ?_); rintro e w2 ⟨rfl, hb2⟩; obtain ⟨s3, ao5, n5, cap5, rfl, hx⟩ := hn1.open; replace hx := hx.ext hb2; obtain ⟨_, _, ⟨hc2, hf2⟩, hz2⟩ := hb2.c3; (try simp only [wsz] at hz2 hc2 hf2)))
 have hA0 : Ext (((w.alloc (.cells #[.bool s1, .slice ao l1 cap1, .bool false, .slice bo l2 cap2] 161)).alloc (.cells #[.bool s2, .slice co l3 cap3, .bool false, .slice eo l4 cap4] 161)).alloc (.cells #[.bool false, .slice none 0 0] 159)) w2 := ex_
 have hnu : NoU w2 (w.heap.size + 1 + 1) := by
  have := (NoU.new ((w.alloc (.cells #[.bool s1, .slice ao l1 cap1, .bool false, .slice bo l2 cap2] 161)).alloc (.cells #[.bool s2, .slice co l3 cap3, .bool false, .slice eo l4 cap4] 161)) #[.bool false, .slice none 0 0] 159 (noU2 (by simp) (by simp))).ext (by simp) hA0
  simpa using this
 refine bodyPost_ret (v := .agg #[.bool s3, .slice ao5 n5 cap5]) ?_ rfl ⟨_, rfl, ?_, ?_⟩
 ·simp [results, Tryz.results269, go_sem, ↓IntWalk.iteOmega, *]
 ·exact Wid.box (Wid.box hx hnu) (NoU.set hnu (fun z e => by cases e))
 ·exact b_6
end Go.Proofs.YtbkgakgdbmjmjaaGreat
