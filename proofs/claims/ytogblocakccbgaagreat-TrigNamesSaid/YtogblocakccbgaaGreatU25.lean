/- trig: radian, two rounds. -/
import Derived.Test.YtogblocakccbgaaGreatU24
set_option linter.unusedSimpArgs false
set_option linter.unusedVariables false
set_option maxRecDepth 100000
set_option maxHeartbeats 4000000
namespace Go.Proofs.YtogblocakccbgaaGreat
open Go.RowKit
theorem T_TRB_10 {p : Prop} (h : p := by
 exact ob_e2 (x := .tmp 93) (y := .const (.int .i64 4)) (a := (.int .i64 (r1 + 4))) (b := .int .i64 4) (u := .int .i64 (k)) (some 4) none hc (hs := by intro ρ w1 h k; go_simp; first | done | exact hk)) : p := h
theorem T_TRB_9 {p : Prop} (h : p := by
 exact ob_e2 (x := .tmp 91) (y := .const (.int .i64 4)) (a := (.int .i64 (q + m))) (b := .int .i64 4) (u := .int .i64 (r1)) (some 2) none hc (hs := by intro ρ w1 h k; go_simp; first | done | exact hr1)) : p := h
theorem T_TRB_8 {p : Prop} (h : p := by
 exact ob_e2 (x := .tmp 89) (y := .tmp 90) (a := (.int .i64 (q))) (b := (.int .i64 (m))) (u := .int .i64 (q + m)) (some 0) (some 1) hc (hs := by intro ρ w1 h k; go_simp; first | done | (simp only [IntKind.wrap_i64]; omega))) : p := h
theorem T_TRB_7 {p : Prop} (h : p := by
 exact ob_e2 (x := .tmp 92) (y := .const (.int .i64 4)) (a := (.int .i64 (r1))) (b := .int .i64 4) (u := .int .i64 (r1 + 4)) (some 3) none hc (hs := by intro ρ w1 h k; go_simp; first | done | (simp only [IntKind.wrap_i64]; omega))) : p := h
theorem T_TRB_6 {p : Prop} (h : p := by
 exact ob_e2 (x := .const (.int .i64 2)) (y := .tmp 78) (a := .int .i64 2) (b := (.int .i64 (b.r))) (u := .int .i64 (2 * b.r)) none (some 2) hc (hs := by intro ρ w1 h k; go_simp; first | done | (simp only [IntKind.wrap_i64]; omega))) : p := h
theorem T_TRB_5 {p : Prop} (h : p := by
 exact ob_e2 (x := .tmp 53) (y := .const (.int .i64 1)) (a := (.int .i64 (100 * P.r))) (b := .int .i64 1) (u := .int .i64 (b.r)) (some 9) none hc (hs := by intro ρ w1 h k; go_simp; first | done | (simp only [IntKind.wrap_i64]; omega))) : p := h
theorem T_TRB_4 {p : Prop} (h : p := by
 exact ob_e2 (x := .const (.int .i64 100)) (y := .tmp 52) (a := .int .i64 100) (b := (.int .i64 (P.r))) (u := .int .i64 (100 * P.r)) none (some 8) hc (hs := by intro ρ w1 h k; go_simp; first | done | (simp only [IntKind.wrap_i64]; omega))) : p := h
theorem T_TRB_3 {p : Prop} (h : p := by
 exact ob_e1 (x := .tmp 12) (a := .pointer (some ⟨gb, 0, none⟩)) (u := .pointer (some ⟨gb, 2, none⟩)) none hc) : p := h
theorem T_TRB_2 {p : Prop} (h : p := by
 exact ob_e1 (x := .tmp 12) (a := .pointer (some ⟨gb, 0, none⟩)) (u := .pointer (some ⟨gb, 0, none⟩)) none hc) : p := h
theorem T_TRB_1 {p : Prop} (h : p := by
 exact ob_e1 (x := .tmp 8) (a := .pointer (some ⟨gp, 0, none⟩)) (u := .pointer (some ⟨gp, 0, none⟩)) none hc) : p := h
def radQ2 (p : Nat) (n : Int) (P : Bl) : Int := n * 2 ^ (p - 40) * 2 ^ 1 / P.v
def radB2 (p : Nat) (n : Int) (P : Bl) : Bl := ⟨n * 2 ^ (p - 40) - radQ2 p n P * P.v / 2, 100 * P.r + 1⟩
def radT (p : Nat) (n m : Int) : Option (Int × Bl) := (piF p).bind fun P =>
 if 0 < P.v ∧ -100000000000 ≤ radQ2 p n P ∧ radQ2 p n P ≤ 100000000000 ∧ okN (n * 2 ^ (p - 40)) = true ∧ okN (n * 2 ^ (p - 40) * 2 ^ 1) = true ∧ okN (radQ2 p n P * P.v) = true ∧ okN (radQ2 p n P * P.v / 2) = true ∧ okN (radB2 p n P).v = true ∧ okN (P.v / 2) = true ∧ okN (P.v / 2 - (radB2 p n P).v) = true ∧ (radB2 p n P).r < (radB2 p n P).v ∧ 2 * (radB2 p n P).r < P.v / 2 - (radB2 p n P).v then
  (turnF ((radQ2 p n P + m) % 4) (radB2 p n P) P p).bind fun T => if 0 ≤ T.r ∧ T.r ≤ 9000000000000000000 then some (radQ2 p n P, T) else none
 else none
structure RadC (p : Nat) (n m q : Int) (P b T : Bl) (x h ph o k r1 : Int) : Prop where
 hpi : ∀ w1 u, u = .int .i64 (p : Int) → Calls Tryz.prog 25 #[u] w1 fun e w' => ∃ u, e = .returned u ∧ Ball w' u P.v P.r ∧ Ext w1 w'
 hnn : ∀ (w1 : World) (u1 : Value), u1 = .int .i64 n → Calls Tryz.prog 28 #[u1] w1 fun e w' => ∃ u, e = .returned u ∧ Wid w' u n ∧ Ext w1 w'
 hbr : ∀ (w1 : World) (u1 : Value), u1 = .int .i64 b.r → Calls Tryz.prog 28 #[u1] w1 fun e w' => ∃ u, e = .returned u ∧ Wid w' u b.r ∧ Ext w1 w'
 hb2 : ∀ (w1 : World) (u1 : Value), u1 = .int .i64 (2 * b.r) → Calls Tryz.prog 28 #[u1] w1 fun e w' => ∃ u, e = .returned u ∧ Wid w' u (2 * b.r) ∧ Ext w1 w'
 hxs : ∀ (w1 : World) (u1 u2 : Value), Wid w1 u1 n → u2 = .int .i64 ((p : Int) - 40) → Calls Tryz.prog 118 #[u1, u2] w1 fun e w' => ∃ u, e = .returned u ∧ Wid w' u x ∧ Ext w1 w'
 hx2 : ∀ (w1 : World) (u1 : Value), Wid w1 u1 x → Calls Tryz.prog 118 #[u1, .int .i64 1] w1 fun e w' => ∃ u, e = .returned u ∧ Wid w' u (x * 2 ^ 1) ∧ Ext w1 w'
 hqd : ∀ (w1 : World) (u1 u2 : Value), Wid w1 u1 (x * 2 ^ 1) → Wid w1 u2 P.v → Calls Tryz.prog 26 #[u1, u2] w1 fun e w' => ∃ u, e = .returned u ∧ Wid w' u q ∧ Ext w1 w'
 hqi : ∀ (w1 : World) (u1 : Value), Wid w1 u1 q → Calls Tryz.prog 119 #[u1] w1 fun e w' => ∃ u, e = .returned u ∧ u = .tuple #[.int .i64 q, .int .i64 0] ∧ Ext w1 w'
 hqp : ∀ (w1 : World) (u1 u2 : Value), Wid w1 u1 q → Wid w1 u2 P.v → Calls Tryz.prog 27 #[u1, u2] w1 fun e w' => ∃ u, e = .returned u ∧ Wid w' u (q * P.v) ∧ Ext w1 w'
 hhf : ∀ (w1 : World) (u1 : Value), Wid w1 u1 (q * P.v) → Calls Tryz.prog 118 #[u1, .int .i64 (-1)] w1 fun e w' => ∃ u, e = .returned u ∧ Wid w' u h ∧ Ext w1 w'
 hbs : ∀ (w1 : World) (u1 u2 : Value), Wid w1 u1 x → Wid w1 u2 h → Calls Tryz.prog 57 #[u1, u2] w1 fun e w' => ∃ u, e = .returned u ∧ Wid w' u b.v ∧ Ext w1 w'
 hph : ∀ (w1 : World) (u1 : Value), Wid w1 u1 P.v → Calls Tryz.prog 118 #[u1, .int .i64 (-1)] w1 fun e w' => ∃ u, e = .returned u ∧ Wid w' u ph ∧ Ext w1 w'
 hos : ∀ (w1 : World) (u1 u2 : Value), Wid w1 u1 ph → Wid w1 u2 b.v → Calls Tryz.prog 57 #[u1, u2] w1 fun e w' => ∃ u, e = .returned u ∧ Wid w' u o ∧ Ext w1 w'
 hc1 : ∀ (w1 : World) (u1 u2 : Value), Wid w1 u1 b.v → Wid w1 u2 b.r → Calls Tryz.prog 56 #[u1, u2] w1 fun e w' => ∃ u, e = .returned u ∧ u = .tuple #[.int .i64 1, .int .i64 0] ∧ Ext w1 w'
 hc2 : ∀ (w1 : World) (u1 u2 : Value), Wid w1 u1 o → Wid w1 u2 (2 * b.r) → Calls Tryz.prog 56 #[u1, u2] w1 fun e w' => ∃ u, e = .returned u ∧ u = .tuple #[.int .i64 1, .int .i64 0] ∧ Ext w1 w'
 htu : ∀ (w1 : World) (u0 u1 u2 : Value), u0 = .int .i64 k → Ball w1 u1 b.v b.r → u2 = .int .i64 (p : Int) → Calls Tryz.prog 67 #[u0, u1, u2] w1 fun e w' => ∃ u, e = .returned u ∧ Ball w' u T.v T.r ∧ Ext w1 w'
 hr1 : (q + m).tmod 4 = r1
 hk : (r1 + 4).tmod 4 = k
 hr4 : -4 < r1 ∧ r1 < 4
 kr : 0 ≤ P.r ∧ P.r ≤ 30000000 ∧ 100 * P.r + 1 = b.r
 qb : -100000000000 ≤ q ∧ q ≤ 100000000000
theorem radT_spec {p : Nat} {n m q : Int} {T : Bl} (hp0 : 41 ≤ p) (h0 : -9000000000000000000 ≤ n) (h1 : n ≤ 9000000000000000000) (hm : m = 0 ∨ m = 1) (w0 : World) (hF : radT p n m = some (q, T)) : (∃ P b x h ph o k r1, RadC p n m q P b T x h ph o k r1) ∧ 0 ≤ T.r ∧ T.r ≤ 9000000000000000000 := by
 unfold radT at hF
 rw [Option.bind_eq_some_iff] at hF
 obtain ⟨P, hP, hF⟩ := hF
 split at hF
 case isFalse => cases hF
 rename_i k0
 obtain ⟨z0, z1, z2, z3, z4, z5, z6, z7, z8, z9, z10, z11⟩ := k0
 rw [Option.bind_eq_some_iff] at hF
 obtain ⟨T', hT, hF⟩ := hF
 split at hF
 case isFalse => cases hF
 rename_i k1
 have hF2 := Option.some.inj hF
 have e1 : radQ2 p n P = q := congrArg Prod.fst hF2
 have e2 : T' = T := congrArg Prod.snd hF2
 subst e2
 obtain ⟨T, hTT⟩ : ∃ T, T' = T := ⟨_, rfl⟩
 rw [hTT] at hT k1 ⊢
 clear hTT
 rw [e1] at z1 z2 z5 z6 hT
 clear hF hF2
 obtain ⟨b, hb⟩ : ∃ b, radB2 p n P = b := ⟨_, rfl⟩
 have hbv : n * 2 ^ (p - 40) - q * P.v / 2 = b.v := by rw [← hb, ← e1]; rfl
 have hbr0 : 100 * P.r + 1 = b.r := by rw [← hb]; rfl
 rw [hb] at z7 z9 z10 z11 hT
 unfold radQ2 at e1
 obtain ⟨x, hx⟩ : ∃ x, n * 2 ^ (p - 40) = x := ⟨_, rfl⟩
 rw [hx] at z3 z4 hbv e1
 obtain ⟨h, hh⟩ : ∃ h, q * P.v / 2 = h := ⟨_, rfl⟩
 rw [hh] at z6 hbv
 obtain ⟨ph, hph0⟩ : ∃ ph, P.v / 2 = ph := ⟨_, rfl⟩
 rw [hph0] at z8 z9 z11
 obtain ⟨o, ho⟩ : ∃ o, ph - b.v = o := ⟨_, rfl⟩
 rw [ho] at z9 z11
 obtain ⟨-, kP, kP0, kr0, kr1, hp1⟩ := t_piF w0 hP
 have hpi : ∀ w1 u, u = .int .i64 (p : Int) → Calls Tryz.prog 25 #[u] w1 fun e w' => ∃ u, e = .returned u ∧ Ball w' u P.v P.r ∧ Ext w1 w' := fun w1 u hu => by subst hu; exact (t_piF w1 hP).1
 have hnn : ∀ (w1 : World) (u1 : Value), u1 = .int .i64 n → Calls Tryz.prog 28 #[u1] w1 fun e w' => ∃ u, e = .returned u ∧ Wid w' u n ∧ Ext w1 w' := fun w1 u1 k => by subst k; exact t_numZ _ _ (by omega) (by omega)
 have hbr : ∀ (w1 : World) (u1 : Value), u1 = .int .i64 b.r → Calls Tryz.prog 28 #[u1] w1 fun e w' => ∃ u, e = .returned u ∧ Wid w' u b.r ∧ Ext w1 w' := fun w1 u1 k => by subst k; exact t_numZ _ _ (by omega) (by omega)
 have hb2 : ∀ (w1 : World) (u1 : Value), u1 = .int .i64 (2 * b.r) → Calls Tryz.prog 28 #[u1] w1 fun e w' => ∃ u, e = .returned u ∧ Wid w' u (2 * b.r) ∧ Ext w1 w' := fun w1 u1 k => by subst k; exact t_numZ _ _ (by omega) (by omega)
 have szn : Sz n := dig_bits (k := 64) (L := 4096) (by omega) (by decide)
 have szr : Sz b.r := dig_bits (k := 64) (L := 4096) (by omega) (by decide)
 have szr2 : Sz (2 * b.r) := dig_bits (k := 64) (L := 4096) (by omega) (by decide)
 have szq : Sz q := dig_bits (k := 64) (L := 4096) (by omega) (by decide)
 have hxs : ∀ (w1 : World) (u1 u2 : Value), Wid w1 u1 n → u2 = .int .i64 ((p : Int) - 40) → Calls Tryz.prog 118 #[u1, u2] w1 fun e w' => ∃ u, e = .returned u ∧ Wid w' u x ∧ Ext w1 w' := fun w1 u1 u2 k1 k2 => by
  subst k2
  rw [show (p : Int) - 40 = ((p - 40 : Nat) : Int) by omega]
  have := t_shiftU u1 n (p - 40) w1 k1 szn (by omega) (by rw [hx]; exact okN.sz z3)
  rw [hx] at this
  exact this
 have hx2 : ∀ (w1 : World) (u1 : Value), Wid w1 u1 x → Calls Tryz.prog 118 #[u1, .int .i64 1] w1 fun e w' => ∃ u, e = .returned u ∧ Wid w' u (x * 2 ^ 1) ∧ Ext w1 w' := fun w1 u1 k1 => t_shiftU u1 x 1 w1 k1 (okN.sz z3) (by decide) (okN.sz z4)
 have hqd : ∀ (w1 : World) (u1 u2 : Value), Wid w1 u1 (x * 2 ^ 1) → Wid w1 u2 P.v → Calls Tryz.prog 26 #[u1, u2] w1 fun e w' => ∃ u, e = .returned u ∧ Wid w' u q ∧ Ext w1 w' := fun w1 u1 u2 k1 k2 => by
  rw [← e1]
  have e : P.v = ((P.v.natAbs : Nat) : Int) := by omega
  have := t_divZ u1 u2 _ P.v.natAbs w1 k1 (k2.nn (by omega)) (okN.sz z4) (okN.sz kP) (by omega)
  rw [← e] at this
  exact this
 have hqi : ∀ (w1 : World) (u1 : Value), Wid w1 u1 q → Calls Tryz.prog 119 #[u1] w1 fun e w' => ∃ u, e = .returned u ∧ u = .tuple #[.int .i64 q, .int .i64 0] ∧ Ext w1 w' := fun w1 u1 k1 => calls_eq (z_Int u1 q w1 k1 (by omega) (by omega))
 have hqp : ∀ (w1 : World) (u1 u2 : Value), Wid w1 u1 q → Wid w1 u2 P.v → Calls Tryz.prog 27 #[u1, u2] w1 fun e w' => ∃ u, e = .returned u ∧ Wid w' u (q * P.v) ∧ Ext w1 w' := fun w1 u1 u2 k1 k2 => t_mulZ u1 u2 _ _ w1 k1 k2 szq (okN.sz kP) (okN.sz z5)
 have hhf : ∀ (w1 : World) (u1 : Value), Wid w1 u1 (q * P.v) → Calls Tryz.prog 118 #[u1, .int .i64 (-1)] w1 fun e w' => ∃ u, e = .returned u ∧ Wid w' u h ∧ Ext w1 w' := fun w1 u1 k => by
  have := t_shiftD u1 (q * P.v) 1 w1 k (okN.sz z5) (by decide) (by decide)
  rw [Int.pow_one, hh] at this
  exact this
 have hbs : ∀ (w1 : World) (u1 u2 : Value), Wid w1 u1 x → Wid w1 u2 h → Calls Tryz.prog 57 #[u1, u2] w1 fun e w' => ∃ u, e = .returned u ∧ Wid w' u b.v ∧ Ext w1 w' := fun w1 u1 u2 k1 k2 => by
  have := t_subZ u1 u2 _ _ w1 k1 k2 (okN.sz z3) (okN.sz z6) (by rw [hbv]; exact okN.sz z7)
  rw [hbv] at this
  exact this
 have hph : ∀ (w1 : World) (u1 : Value), Wid w1 u1 P.v → Calls Tryz.prog 118 #[u1, .int .i64 (-1)] w1 fun e w' => ∃ u, e = .returned u ∧ Wid w' u ph ∧ Ext w1 w' := fun w1 u1 k => by
  have := t_shiftD u1 P.v 1 w1 k (okN.sz kP) (by decide) (by decide)
  rw [Int.pow_one, hph0] at this
  exact this
 have hos : ∀ (w1 : World) (u1 u2 : Value), Wid w1 u1 ph → Wid w1 u2 b.v → Calls Tryz.prog 57 #[u1, u2] w1 fun e w' => ∃ u, e = .returned u ∧ Wid w' u o ∧ Ext w1 w' := fun w1 u1 u2 k1 k2 => by
  have := t_subZ u1 u2 _ _ w1 k1 k2 (okN.sz z8) (okN.sz z7) (by rw [ho]; exact okN.sz z9)
  rw [ho] at this
  exact this
 have hc1 : ∀ (w1 : World) (u1 u2 : Value), Wid w1 u1 b.v → Wid w1 u2 b.r → Calls Tryz.prog 56 #[u1, u2] w1 fun e w' => ∃ u, e = .returned u ∧ u = .tuple #[.int .i64 1, .int .i64 0] ∧ Ext w1 w' := fun w1 u1 u2 k1 k2 => by
  have := z_Cmp u1 u2 _ _ w1 k1 k2 (okN.sz z7) szr
  rw [cmp_gt z10] at this
  exact calls_eq this
 have hc2 : ∀ (w1 : World) (u1 u2 : Value), Wid w1 u1 o → Wid w1 u2 (2 * b.r) → Calls Tryz.prog 56 #[u1, u2] w1 fun e w' => ∃ u, e = .returned u ∧ u = .tuple #[.int .i64 1, .int .i64 0] ∧ Ext w1 w' := fun w1 u1 u2 k1 k2 => by
  have := z_Cmp u1 u2 _ _ w1 k1 k2 (okN.sz z9) szr2
  rw [cmp_gt z11] at this
  exact calls_eq this
 obtain ⟨r1, hr1⟩ : ∃ r1, (q + m).tmod 4 = r1 := ⟨_, rfl⟩
 obtain ⟨k, hk⟩ : ∃ k, (r1 + 4).tmod 4 = k := ⟨_, rfl⟩
 obtain ⟨t4, hr4⟩ := tmod4 (q + m)
 rw [hr1] at t4 hr4
 rw [hk] at t4
 rw [← t4] at hT
 have hk4 : k = 0 ∨ k = 1 ∨ k = 2 ∨ k = 3 := by omega
 have htu : ∀ (w1 : World) (u0 u1 u2 : Value), u0 = .int .i64 k → Ball w1 u1 b.v b.r → u2 = .int .i64 (p : Int) → Calls Tryz.prog 67 #[u0, u1, u2] w1 fun e w' => ∃ u, e = .returned u ∧ Ball w' u T.v T.r ∧ Ext w1 w' := fun w1 u0 u1 u2 k0 k1 k2 => by
  subst k0 k2
  exact t_turned u1 _ b P T p w1 k1 hk4 (by omega) hP hT
 exact ⟨⟨P, b, x, h, ph, o, k, r1, ⟨hpi, hnn, hbr, hb2, hxs, hx2, hqd, hqi, hqp, hhf, hbs, hph, hos, hc1, hc2, htu, hr1, hk, hr4, ⟨kr0, kr1, hbr0⟩, ⟨z1, z2⟩⟩⟩, k1.1, k1.2⟩
theorem t_radian2 (n m q q2 f2 : Int) (T T2 : Bl) (w : World) (h0 : -9000000000000000000 ≤ n) (h1 : n ≤ 9000000000000000000) (hn : ¬ n = 0) (hm : m = 0 ∨ m = 1) (hF0 : radT 130 n m = some (q, T)) (hN : floorN T.v T.r 130 = true) (hF : radT 260 n m = some (q2, T2)) (hf : floorF T2.v T2.r 260 = some f2) :
    Calls Tryz.prog 61 #[.int .i64 n, .int .i64 m] w fun e w' => e = .returned (.tuple #[.int .i64 q2, .agg #[.int .i64 f2, .int .i64 (f2 + 1)]]) ∧ Ext w w' := by
 obtain ⟨E1, t0, t1⟩ := radT_spec (by decide) h0 h1 hm w hF0
 obtain ⟨E2, t2, t3⟩ := radT_spec (by decide) h0 h1 hm w hF
 have hun1 : ∀ (w1 : World) (u1 u2 : Value), Ball w1 u1 T.v T.r → u2 = .int .i64 130 → Calls Tryz.prog 29 #[u1, u2] w1 fun e w' => ∃ u, e = .returned u ∧ u = .tuple #[.agg #[.int .i64 0, .int .i64 1], .bool false] ∧ Ext w1 w' := fun w1 u1 u2 j1 j2 => by
  subst j2
  exact calls_eq (t_unitNo u1 T.v T.r 130 w1 j1 t0 t1 (by decide) (by decide) hN)
 have hun2 : ∀ (w1 : World) (u1 u2 : Value), Ball w1 u1 T2.v T2.r → u2 = .int .i64 260 → Calls Tryz.prog 29 #[u1, u2] w1 fun e w' => ∃ u, e = .returned u ∧ u = .tuple #[.agg #[.int .i64 f2, .int .i64 (f2 + 1)], .bool true] ∧ Ext w1 w' := fun w1 u1 u2 j1 j2 => by
  subst j2
  exact calls_eq (t_unit u1 T2.v T2.r f2 260 w1 j1 t2 t3 (by decide) (by decide) hf)
 clear hF0 hN hF hf t0 t1 t2 t3
 have I0 : KBd w [] w := ⟨Ext.refl w, trivial, by simp, by simp⟩
 have I := I0.new [.int .i64 0, .int .i64 0] 31 (by simp)
 simp only [List.nil_append] at I
 clear I0
 go_enter Tryz.func61, Tryz.ntmps61
 go_upto_region 1 with fail
 obtain ⟨J, hJ⟩ : ∃ J : Act → World → Prop, J = fun a' w' => ∃ (u7 u8 u9 u10 u11 u12 u13 u14 u15 u16 u17 u18 u19 u20 u21 u22 u23 u24 u25 u26 u27 u28 u29 u30 u31 u32 u33 u34 u35 u36 u37 u38 u39 u40 u41 u42 u43 u44 u45 u46 u47 u48 u49 u50 u51 u52 u53 u54 u55 u56 u57 u58 u59 u60 u61 u62 u63 u64 u65 u66 u67 u68 u69 u70 u71 u72 u73 u74 u75 u76 u77 u78 u79 u80 u81 u82 u83 u84 u85 u86 u87 u88 u89 u90 u91 u92 u93 u94 u95 u96 u97 u98 u99 u100 u101 u102 u103 u104 u105 u106 u107 : Value), a' = { tmps := #[.int .i64 n, .int .i64 m, undef, undef, .int .i64 0, .pointer (some ⟨w.heap.size, 0, none⟩), .int .i64 260, u7, u8, u9, u10, u11, u12, u13, u14, u15, u16, u17, u18, u19, u20, u21, u22, u23, u24, u25, u26, u27, u28, u29, u30, u31, u32, u33, u34, u35, u36, u37, u38, u39, u40, u41, u42, u43, u44, u45, u46, u47, u48, u49, u50, u51, u52, u53, u54, u55, u56, u57, u58, u59, u60, u61, u62, u63, u64, u65, u66, u67, u68, u69, u70, u71, u72, u73, u74, u75, u76, u77, u78, u79, u80, u81, u82, u83, u84, u85, u86, u87, u88, u89, u90, u91, u92, u93, u94, u95, u96, u97, u98, u99, u100, u101, u102, u103, u104, u105, u106, u107], defers := [] } ∧ KBd w [(w.heap.size, BF.own [.int .i64 0, .int .i64 0])] w' := ⟨_, rfl⟩
 replace hJ := Lib.hid hJ
 refine wp_scope_jumps 0 J (fun _ _ => 0) rfl ?first ?pass
 case first =>
  clear E2 hun2
  have hun := hun1
  clear hun1
  obtain ⟨P, b, x, h, ph, o, k, r1, hpi, hnn, hbr, hb2, hxs, hx2, hqd, hqi, hqp, hhf, hbs, hph, hos, hc1, hc2, htu, hr1, hk, hr4, ⟨kr0, kr1, hbr0⟩, z1, z2⟩ := E1
  replace hxs : ∀ (w1 : World) (u1 u2 : Value), Wid w1 u1 n → u2 = .int .i64 90 → Calls Tryz.prog 118 #[u1, u2] w1 fun e w' => ∃ u, e = .returned u ∧ Wid w' u x ∧ Ext w1 w' := hxs
  go_wp2_with fail
  go_step3
  go_upto_region 4 with fail
  refine wp_regB [] [⟨5, some 6, BF.b2, (BF.wat x)⟩] (fun z_ => ([VF.eq (.int .i64 (n)), VF.wid (n), VF.eq (.int .i64 (130)), VF.eq (.int .i64 (90)), VF.wid (x)] : List VF).getD z_ VF.any) I (fun hc => ⟨?_, ?_, ?_, ?_, ?_, ?_, ?_, trivial⟩) (fun vs gl W hK0 hv hp => ?_)
  ·exact ob_mv hc (.inl rfl)
  ·exact b_22
  ·exact ob_mv hc (.inl rfl)
  ·exact b_23
  ·exact b_24
  ·exact ob_allocW (n := 1) rfl hc rfl rfl rfl
  ·exact ob_putW (n := 1) rfl 4 hc rfl 0
  have p0 : vs 5 = .pointer (some ⟨gl 0, 0, none⟩) := hp 0 _ rfl
  simp only [putS, Nat.reduceAdd, Act.put, List.setIfInBounds_toArray, List.set_cons_zero, List.set_cons_succ, p0]
  obtain ⟨gx, e90⟩ : ∃ n, gl 0 = n := ⟨_, rfl⟩
  simp only [kb_, e90] at hK0
  rw [e90]
  replace I := hK0
  clear hK0 hv hp gl p0 e90
  go_upto_region 5 with fail
  refine wp_regB [] [⟨2, some 3, BF.own [.bool false, .slice none 0 0, .int .i64 0], (BF.bat P.v P.r)⟩] (fun z_ => ([VF.eq (.int .i64 (130)), VF.ball (P.v) (P.r)] : List VF).getD z_ VF.any) I (fun hc => ⟨?_, ?_, ?_, ?_, trivial⟩) (fun vs gl W hK0 hv hp => ?_)
  ·exact ob_mv hc (.inl rfl)
  ·exact b_19
  ·exact b_20
  ·exact ob_putB (n := 2) rfl 1 hc rfl 0
  have p0 : vs 2 = .pointer (some ⟨gl 0, 0, none⟩) := hp 0 _ rfl
  simp only [putS, Nat.reduceAdd, Act.put, List.setIfInBounds_toArray, List.set_cons_zero, List.set_cons_succ, p0]
  obtain ⟨gp, e90⟩ : ∃ n, gl 0 = n := ⟨_, rfl⟩
  simp only [kb_, e90] at hK0
  rw [e90]
  replace I := hK0
  clear hK0 hv hp gl p0 e90
  go_upto_region 6 with fail
  refine wp_regB [] [⟨5, some 6, BF.b2, (BF.wat q)⟩] (fun z_ => ([VF.wid (x), VF.wid (x * 2 ^ 1), VF.eq (.pointer (some ⟨gp, 0, none⟩)), VF.wid (P.v), VF.wid (q)] : List VF).getD z_ VF.any) I (fun hc => ⟨?_, ?_, ?_, ?_, ?_, ?_, ?_, trivial⟩) (fun vs gl W hK0 hv hp => ?_)
  ·exact b_25
  ·exact b_26
  ·exact T_TRB_1
  ·exact b_27
  ·exact b_28
  ·exact b_29
  ·exact ob_putW (n := 3) rfl 4 hc rfl 0
  have p0 : vs 5 = .pointer (some ⟨gl 0, 0, none⟩) := hp 0 _ rfl
  simp only [putS, Nat.reduceAdd, Act.put, List.setIfInBounds_toArray, List.set_cons_zero, List.set_cons_succ, p0]
  obtain ⟨gq, e90⟩ : ∃ n, gl 0 = n := ⟨_, rfl⟩
  simp only [kb_, e90] at hK0
  rw [e90]
  replace I := hK0
  clear hK0 hv hp gl p0 e90
  go_upto_region 7 with fail
  refine wp_regB [] [] (fun z_ => ([VF.wid (q), VF.eq (.tuple #[.int .i64 q, .int .i64 0]), VF.eq (.tuple #[.int .i64 q, .int .i64 0]), VF.eq (.int .i64 (q)), VF.eq (.int .i64 (0)), VF.eq (.int .i64 (q)), VF.eq (.int .i64 (0))] : List VF).getD z_ VF.any) I (fun hc => ⟨?_, ?_, ?_, ?_, ?_, ?_, ?_, trivial⟩) (fun vs gl W hK0 hv hp => ?_)
  ·exact b_30
  ·exact b_31
  ·exact ob_cp 1 hc (.inl rfl)
  ·exact b_32
  ·exact b_33
  ·exact ob_cp 3 hc (.inr rfl)
  ·exact ob_cp 4 hc (.inr rfl)
  have v5 : vs 5 = .int .i64 q := hv 5 (by decide)
  have v6 : vs 6 = .int .i64 0 := hv 6 (by decide)
  simp only [putS, Nat.reduceAdd, Act.put, List.setIfInBounds_toArray, List.set_cons_zero, List.set_cons_succ, v5, v6]
  simp only [kb_] at hK0
  replace I := hK0
  clear hK0 hv hp gl v5 v6
  go_upto_region 8 with fail
  refine wp_regB [] [⟨12, some 13, BF.own [.bool false, .slice none 0 0, .int .i64 0], (BF.bat b.v b.r)⟩] (fun z_ => ([VF.wid (x), VF.wid (q), VF.eq (.pointer (some ⟨gp, 0, none⟩)), VF.wid (P.v), VF.wid (q * P.v), VF.wid (h), VF.wid (b.v), VF.eq (.pointer (some ⟨gp, 2, none⟩)), VF.eq (.int .i64 (P.r)), VF.eq (.int .i64 (100 * P.r)), VF.eq (.int .i64 (b.r)), VF.ball (b.v) (b.r)] : List VF).getD z_ VF.any) I (fun hc => ⟨?_, ?_, ?_, ?_, ?_, ?_, ?_, ?_, ?_, ?_, ?_, ?_, ?_, ?_, trivial⟩) (fun vs gl W hK0 hv hp => ?_)
  ·exact b_25
  ·exact b_30
  ·exact T_TRB_1
  ·exact b_27
  ·exact b_34
  ·exact b_35
  ·exact b_36
  ·exact b_37
  ·exact b_38
  ·exact T_TRB_4
  ·exact T_TRB_5
  ·exact ob_buildB (q := b.v) (r := b.r) 6 (some 10) hc rfl
  ·exact b_21
  ·exact ob_putB (n := 4) rfl 11 hc rfl 0
  have p0 : vs 12 = .pointer (some ⟨gl 0, 0, none⟩) := hp 0 _ rfl
  simp only [putS, Nat.reduceAdd, Act.put, List.setIfInBounds_toArray, List.set_cons_zero, List.set_cons_succ, p0]
  obtain ⟨gb, e90⟩ : ∃ n, gl 0 = n := ⟨_, rfl⟩
  simp only [kb_, e90] at hK0
  rw [e90]
  replace I := hK0
  clear hK0 hv hp gl p0 e90
  go_upto_region 9 with fail
  refine wp_regB [] [⟨6, some 7, BF.b2, (BF.wat o)⟩] (fun z_ => ([VF.eq (.pointer (some ⟨gp, 0, none⟩)), VF.wid (P.v), VF.wid (ph), VF.eq (.pointer (some ⟨gb, 0, none⟩)), VF.wid (b.v), VF.wid (o)] : List VF).getD z_ VF.any) I (fun hc => ⟨?_, ?_, ?_, ?_, ?_, ?_, ?_, ?_, trivial⟩) (fun vs gl W hK0 hv hp => ?_)
  ·exact T_TRB_1
  ·exact ob_getN gp P.v P.r (some 0) hc rfl fun vs gs w1 c => c.b0 2
  ·exact b_39
  ·exact T_TRB_2
  ·exact ob_getN gb b.v b.r (some 3) hc rfl fun vs gs w1 c => c.b0 4
  ·exact b_40
  ·exact b_17
  ·exact ob_putW (n := 5) rfl 5 hc rfl 0
  have p0 : vs 6 = .pointer (some ⟨gl 0, 0, none⟩) := hp 0 _ rfl
  simp only [putS, Nat.reduceAdd, Act.put, List.setIfInBounds_toArray, List.set_cons_zero, List.set_cons_succ, p0]
  obtain ⟨go, e90⟩ : ∃ n, gl 0 = n := ⟨_, rfl⟩
  simp only [kb_, e90] at hK0
  rw [e90]
  replace I := hK0
  clear hK0 hv hp gl p0 e90
  go_upto_region 10 with fail
  refine wp_regB [] [] (fun z_ => ([VF.eq (.pointer (some ⟨gb, 0, none⟩)), VF.wid (b.v), VF.eq (.pointer (some ⟨gb, 2, none⟩)), VF.eq (.int .i64 (b.r)), VF.wid (b.r), VF.eq (.tuple #[.int .i64 1, .int .i64 0]), VF.eq (.tuple #[.int .i64 1, .int .i64 0]), VF.eq (.int .i64 (1)), VF.eq (.int .i64 (0)), VF.eq (.int .i64 (1)), VF.eq (.int .i64 (0))] : List VF).getD z_ VF.any) I (fun hc => ⟨?_, ?_, ?_, ?_, ?_, ?_, ?_, ?_, ?_, ?_, ?_, trivial⟩) (fun vs gl W hK0 hv hp => ?_)
  ·exact T_TRB_2
  ·exact ob_getN gb b.v b.r (some 0) hc rfl fun vs gs w1 c => c.b0 4
  ·exact T_TRB_3
  ·exact b_41
  ·exact b_42
  ·exact b_43
  ·exact ob_cp 5 hc (.inl rfl)
  ·exact b_44
  ·exact b_45
  ·exact ob_cp 7 hc (.inr rfl)
  ·exact ob_cp 8 hc (.inr rfl)
  have v9 : vs 9 = .int .i64 1 := hv 9 (by decide)
  have v10 : vs 10 = .int .i64 0 := hv 10 (by decide)
  simp only [putS, Nat.reduceAdd, Act.put, List.setIfInBounds_toArray, List.set_cons_zero, List.set_cons_succ, v9, v10]
  simp only [kb_] at hK0
  replace I := hK0
  clear hK0 hv hp gl v9 v10
  go_upto_region 13 with fail
  refine wp_regB [] [] (fun z_ => ([VF.wid (o), VF.eq (.pointer (some ⟨gb, 2, none⟩)), VF.eq (.int .i64 (b.r)), VF.eq (.int .i64 (2 * b.r)), VF.wid (2 * b.r), VF.eq (.tuple #[.int .i64 1, .int .i64 0]), VF.eq (.tuple #[.int .i64 1, .int .i64 0]), VF.eq (.int .i64 (1)), VF.eq (.int .i64 (0)), VF.eq (.int .i64 (1)), VF.eq (.int .i64 (0))] : List VF).getD z_ VF.any) I (fun hc => ⟨?_, ?_, ?_, ?_, ?_, ?_, ?_, ?_, ?_, ?_, ?_, trivial⟩) (fun vs gl W hK0 hv hp => ?_)
  ·exact ob_getW go (o) hc rfl fun vs gs w1 c => c.b0 5
  ·exact T_TRB_3
  ·exact b_46
  ·exact T_TRB_6
  ·exact b_47
  ·exact b_48
  ·exact ob_cp 5 hc (.inl rfl)
  ·exact b_49
  ·exact b_50
  ·exact ob_cp 7 hc (.inr rfl)
  ·exact ob_cp 8 hc (.inr rfl)
  have v9 : vs 9 = .int .i64 1 := hv 9 (by decide)
  have v10 : vs 10 = .int .i64 0 := hv 10 (by decide)
  simp only [putS, Nat.reduceAdd, Act.put, List.setIfInBounds_toArray, List.set_cons_zero, List.set_cons_succ, v9, v10]
  simp only [kb_] at hK0
  replace I := hK0
  clear hK0 hv hp gl v9 v10
  go_upto_region 16 with fail
  refine wp_regB [] [⟨14, some 15, BF.own [.int .i64 0, .int .i64 0], (BF.own [.int .i64 0, .int .i64 1])⟩] (fun z_ => ([VF.eq (.int .i64 (q)), VF.eq (.int .i64 (m)), VF.eq (.int .i64 (q + m)), VF.eq (.int .i64 (r1)), VF.eq (.int .i64 (r1 + 4)), VF.eq (.int .i64 (k)), VF.ball (b.v) (b.r), VF.eq (.int .i64 (130)), VF.ball (T.v) (T.r), VF.eq (.int .i64 (130)), VF.eq (.tuple #[.agg #[.int .i64 0, .int .i64 1], .bool false]), VF.eq (.tuple #[.agg #[.int .i64 0, .int .i64 1], .bool false]), VF.eq (.agg #[.int .i64 0, .int .i64 1]), VF.eq (.bool false), VF.any, VF.any, VF.eq (.bool false)] : List VF).getD z_ VF.any) I (fun hc => ⟨?_, ?_, ?_, ?_, ?_, ?_, ?_, ?_, ?_, ?_, ?_, ?_, ?_, ?_, ?_, ?_, ?_, trivial⟩) (fun vs gl W hK0 hv hp => ?_)
  ·exact ob_mv hc (.inl rfl)
  ·exact ob_mv hc (.inl rfl)
  ·exact T_TRB_8
  ·exact T_TRB_9
  ·exact T_TRB_7
  ·exact T_TRB_10
  ·exact ob_getB gb (b.v) (b.r) hc rfl fun vs gs w1 c => c.b0 4
  ·exact ob_mv hc (.inl rfl)
  ·exact b_51
  ·exact ob_mv hc (.inl rfl)
  ·exact b_52
  ·exact ob_cp 10 hc (.inl rfl)
  ·exact ob_e1 (x := .tmp 88) (a := (.tuple #[.agg #[.int .i64 0, .int .i64 1], .bool false])) (u := .agg #[.int .i64 0, .int .i64 1]) (some 11) hc
  ·exact ob_e1 (x := .tmp 88) (a := (.tuple #[.agg #[.int .i64 0, .int .i64 1], .bool false])) (u := .bool false) (some 11) hc
  ·exact b_55
  ·exact ob_put2 (n := 6) 0 rfl (some 12) hc rfl
  ·exact ob_cp 13 hc (.inr rfl)
  have p0 : vs 14 = .pointer (some ⟨gl 0, 0, none⟩) := hp 0 _ rfl
  have v16 : vs 16 = .bool false := hv 16 (by decide)
  simp only [putS, Nat.reduceAdd, Act.put, List.setIfInBounds_toArray, List.set_cons_zero, List.set_cons_succ, p0, v16]
  obtain ⟨gi, e90⟩ : ∃ n, gl 0 = n := ⟨_, rfl⟩
  simp only [kb_, e90] at hK0
  rw [e90]
  replace I := hK0
  clear hK0 hv hp gl p0 v16 e90
  have I1 := I.take 1
  clear hpi hnn hbr hb2 hxs hx2 hqd hqi hqp hhf hbs hph hos hc1 hc2 htu hun I
  go_wp2_with fail
  go_step3
  try simp only [Exit.jump]
  rw [hJ.out]
  exact ⟨rfl, _, _, _, _, _, _, _, _, _, _, _, _, _, _, _, _, _, _, _, _, _, _, _, _, _, _, _, _, _, _, _, _, _, _, _, _, _, _, _, _, _, _, _, _, _, _, _, _, _, _, _, _, _, _, _, _, _, _, _, _, _, _, _, _, _, _, _, _, _, _, _, _, _, _, _, _, _, _, _, _, _, _, _, _, _, _, _, _, _, _, _, _, _, _, _, _, _, _, _, _, _, rfl, I1⟩
 case pass =>
  clear E1 hun1 T q I
  obtain ⟨q, rfl⟩ : ∃ q, q = q2 := ⟨_, rfl⟩
  obtain ⟨f, rfl⟩ : ∃ f, f = f2 := ⟨_, rfl⟩
  obtain ⟨T, rfl⟩ : ∃ T, T = T2 := ⟨_, rfl⟩
  have hun := hun2
  clear hun2
  obtain ⟨P, b, x, h, ph, o, k, r1, hpi, hnn, hbr, hb2, hxs, hx2, hqd, hqi, hqp, hhf, hbs, hph, hos, hc1, hc2, htu, hr1, hk, hr4, ⟨kr0, kr1, hbr0⟩, z1, z2⟩ := E2
  replace hxs : ∀ (w1 : World) (u1 u2 : Value), Wid w1 u1 n → u2 = .int .i64 220 → Calls Tryz.prog 118 #[u1, u2] w1 fun e w' => ∃ u, e = .returned u ∧ Wid w' u x ∧ Ext w1 w' := hxs
  rintro a' w' hJJ
  rw [hJ.out] at hJJ
  obtain ⟨u7, u8, u9, u10, u11, u12, u13, u14, u15, u16, u17, u18, u19, u20, u21, u22, u23, u24, u25, u26, u27, u28, u29, u30, u31, u32, u33, u34, u35, u36, u37, u38, u39, u40, u41, u42, u43, u44, u45, u46, u47, u48, u49, u50, u51, u52, u53, u54, u55, u56, u57, u58, u59, u60, u61, u62, u63, u64, u65, u66, u67, u68, u69, u70, u71, u72, u73, u74, u75, u76, u77, u78, u79, u80, u81, u82, u83, u84, u85, u86, u87, u88, u89, u90, u91, u92, u93, u94, u95, u96, u97, u98, u99, u100, u101, u102, u103, u104, u105, u106, u107, rfl, I⟩ := hJJ
  clear hJ
  go_upto_region 4 with fail
  refine wp_regB [] [⟨5, some 6, BF.b2, (BF.wat x)⟩] (fun z_ => ([VF.eq (.int .i64 (n)), VF.wid (n), VF.eq (.int .i64 (260)), VF.eq (.int .i64 (220)), VF.wid (x)] : List VF).getD z_ VF.any) I (fun hc => ⟨?_, ?_, ?_, ?_, ?_, ?_, ?_, trivial⟩) (fun vs gl W hK0 hv hp => ?_)
  ·exact ob_mv hc (.inl rfl)
  ·exact b_22
  ·exact ob_mv hc (.inl rfl)
  ·exact ob_e2 (x := .tmp 29) (y := .const (.int .i64 40)) (a := (.int .i64 (260))) (b := .int .i64 40) (u := .int .i64 (220)) (some 2) none hc (hs := by intro ρ w1 h k; go_simp; first | done | (simp only [IntKind.wrap_i64]; omega))
  ·exact b_24
  ·exact ob_allocW (n := 1) rfl hc rfl rfl rfl
  ·exact ob_putW (n := 1) rfl 4 hc rfl 0
  have p0 : vs 5 = .pointer (some ⟨gl 0, 0, none⟩) := hp 0 _ rfl
  simp only [putS, Nat.reduceAdd, Act.put, List.setIfInBounds_toArray, List.set_cons_zero, List.set_cons_succ, p0]
  obtain ⟨gx, e90⟩ : ∃ n, gl 0 = n := ⟨_, rfl⟩
  simp only [kb_, e90] at hK0
  rw [e90]
  replace I := hK0
  clear hK0 hv hp gl p0 e90
  go_upto_region 5 with fail
  refine wp_regB [] [⟨2, some 3, BF.own [.bool false, .slice none 0 0, .int .i64 0], (BF.bat P.v P.r)⟩] (fun z_ => ([VF.eq (.int .i64 (260)), VF.ball (P.v) (P.r)] : List VF).getD z_ VF.any) I (fun hc => ⟨?_, ?_, ?_, ?_, trivial⟩) (fun vs gl W hK0 hv hp => ?_)
  ·exact ob_mv hc (.inl rfl)
  ·exact b_19
  ·exact b_20
  ·exact ob_putB (n := 2) rfl 1 hc rfl 0
  have p0 : vs 2 = .pointer (some ⟨gl 0, 0, none⟩) := hp 0 _ rfl
  simp only [putS, Nat.reduceAdd, Act.put, List.setIfInBounds_toArray, List.set_cons_zero, List.set_cons_succ, p0]
  obtain ⟨gp, e90⟩ : ∃ n, gl 0 = n := ⟨_, rfl⟩
  simp only [kb_, e90] at hK0
  rw [e90]
  replace I := hK0
  clear hK0 hv hp gl p0 e90
  go_upto_region 6 with fail
  refine wp_regB [] [⟨5, some 6, BF.b2, (BF.wat q)⟩] (fun z_ => ([VF.wid (x), VF.wid (x * 2 ^ 1), VF.eq (.pointer (some ⟨gp, 0, none⟩)), VF.wid (P.v), VF.wid (q)] : List VF).getD z_ VF.any) I (fun hc => ⟨?_, ?_, ?_, ?_, ?_, ?_, ?_, trivial⟩) (fun vs gl W hK0 hv hp => ?_)
  ·exact b_25
  ·exact b_26
  ·exact T_TRB_1
  ·exact b_27
  ·exact b_28
  ·exact b_29
  ·exact ob_putW (n := 3) rfl 4 hc rfl 0
  have p0 : vs 5 = .pointer (some ⟨gl 0, 0, none⟩) := hp 0 _ rfl
  simp only [putS, Nat.reduceAdd, Act.put, List.setIfInBounds_toArray, List.set_cons_zero, List.set_cons_succ, p0]
  obtain ⟨gq, e90⟩ : ∃ n, gl 0 = n := ⟨_, rfl⟩
  simp only [kb_, e90] at hK0
  rw [e90]
  replace I := hK0
  clear hK0 hv hp gl p0 e90
  go_upto_region 7 with fail
  refine wp_regB [] [] (fun z_ => ([VF.wid (q), VF.eq (.tuple #[.int .i64 q, .int .i64 0]), VF.eq (.tuple #[.int .i64 q, .int .i64 0]), VF.eq (.int .i64 (q)), VF.eq (.int .i64 (0)), VF.eq (.int .i64 (q)), VF.eq (.int .i64 (0))] : List VF).getD z_ VF.any) I (fun hc => ⟨?_, ?_, ?_, ?_, ?_, ?_, ?_, trivial⟩) (fun vs gl W hK0 hv hp => ?_)
  ·exact b_30
  ·exact b_31
  ·exact ob_cp 1 hc (.inl rfl)
  ·exact b_32
  ·exact b_33
  ·exact ob_cp 3 hc (.inr rfl)
  ·exact ob_cp 4 hc (.inr rfl)
  have v5 : vs 5 = .int .i64 q := hv 5 (by decide)
  have v6 : vs 6 = .int .i64 0 := hv 6 (by decide)
  simp only [putS, Nat.reduceAdd, Act.put, List.setIfInBounds_toArray, List.set_cons_zero, List.set_cons_succ, v5, v6]
  simp only [kb_] at hK0
  replace I := hK0
  clear hK0 hv hp gl v5 v6
  go_upto_region 8 with fail
  refine wp_regB [] [⟨12, some 13, BF.own [.bool false, .slice none 0 0, .int .i64 0], (BF.bat b.v b.r)⟩] (fun z_ => ([VF.wid (x), VF.wid (q), VF.eq (.pointer (some ⟨gp, 0, none⟩)), VF.wid (P.v), VF.wid (q * P.v), VF.wid (h), VF.wid (b.v), VF.eq (.pointer (some ⟨gp, 2, none⟩)), VF.eq (.int .i64 (P.r)), VF.eq (.int .i64 (100 * P.r)), VF.eq (.int .i64 (b.r)), VF.ball (b.v) (b.r)] : List VF).getD z_ VF.any) I (fun hc => ⟨?_, ?_, ?_, ?_, ?_, ?_, ?_, ?_, ?_, ?_, ?_, ?_, ?_, ?_, trivial⟩) (fun vs gl W hK0 hv hp => ?_)
  ·exact b_25
  ·exact b_30
  ·exact T_TRB_1
  ·exact b_27
  ·exact b_34
  ·exact b_35
  ·exact b_36
  ·exact b_37
  ·exact b_38
  ·exact T_TRB_4
  ·exact T_TRB_5
  ·exact ob_buildB (q := b.v) (r := b.r) 6 (some 10) hc rfl
  ·exact b_21
  ·exact ob_putB (n := 4) rfl 11 hc rfl 0
  have p0 : vs 12 = .pointer (some ⟨gl 0, 0, none⟩) := hp 0 _ rfl
  simp only [putS, Nat.reduceAdd, Act.put, List.setIfInBounds_toArray, List.set_cons_zero, List.set_cons_succ, p0]
  obtain ⟨gb, e90⟩ : ∃ n, gl 0 = n := ⟨_, rfl⟩
  simp only [kb_, e90] at hK0
  rw [e90]
  replace I := hK0
  clear hK0 hv hp gl p0 e90
  go_upto_region 9 with fail
  refine wp_regB [] [⟨6, some 7, BF.b2, (BF.wat o)⟩] (fun z_ => ([VF.eq (.pointer (some ⟨gp, 0, none⟩)), VF.wid (P.v), VF.wid (ph), VF.eq (.pointer (some ⟨gb, 0, none⟩)), VF.wid (b.v), VF.wid (o)] : List VF).getD z_ VF.any) I (fun hc => ⟨?_, ?_, ?_, ?_, ?_, ?_, ?_, ?_, trivial⟩) (fun vs gl W hK0 hv hp => ?_)
  ·exact T_TRB_1
  ·exact ob_getN gp P.v P.r (some 0) hc rfl fun vs gs w1 c => c.b0 2
  ·exact b_39
  ·exact T_TRB_2
  ·exact ob_getN gb b.v b.r (some 3) hc rfl fun vs gs w1 c => c.b0 4
  ·exact b_40
  ·exact b_17
  ·exact ob_putW (n := 5) rfl 5 hc rfl 0
  have p0 : vs 6 = .pointer (some ⟨gl 0, 0, none⟩) := hp 0 _ rfl
  simp only [putS, Nat.reduceAdd, Act.put, List.setIfInBounds_toArray, List.set_cons_zero, List.set_cons_succ, p0]
  obtain ⟨go, e90⟩ : ∃ n, gl 0 = n := ⟨_, rfl⟩
  simp only [kb_, e90] at hK0
  rw [e90]
  replace I := hK0
  clear hK0 hv hp gl p0 e90
  go_upto_region 10 with fail
  refine wp_regB [] [] (fun z_ => ([VF.eq (.pointer (some ⟨gb, 0, none⟩)), VF.wid (b.v), VF.eq (.pointer (some ⟨gb, 2, none⟩)), VF.eq (.int .i64 (b.r)), VF.wid (b.r), VF.eq (.tuple #[.int .i64 1, .int .i64 0]), VF.eq (.tuple #[.int .i64 1, .int .i64 0]), VF.eq (.int .i64 (1)), VF.eq (.int .i64 (0)), VF.eq (.int .i64 (1)), VF.eq (.int .i64 (0))] : List VF).getD z_ VF.any) I (fun hc => ⟨?_, ?_, ?_, ?_, ?_, ?_, ?_, ?_, ?_, ?_, ?_, trivial⟩) (fun vs gl W hK0 hv hp => ?_)
  ·exact T_TRB_2
  ·exact ob_getN gb b.v b.r (some 0) hc rfl fun vs gs w1 c => c.b0 4
  ·exact T_TRB_3
  ·exact b_41
  ·exact b_42
  ·exact b_43
  ·exact ob_cp 5 hc (.inl rfl)
  ·exact b_44
  ·exact b_45
  ·exact ob_cp 7 hc (.inr rfl)
  ·exact ob_cp 8 hc (.inr rfl)
  have v9 : vs 9 = .int .i64 1 := hv 9 (by decide)
  have v10 : vs 10 = .int .i64 0 := hv 10 (by decide)
  simp only [putS, Nat.reduceAdd, Act.put, List.setIfInBounds_toArray, List.set_cons_zero, List.set_cons_succ, v9, v10]
  simp only [kb_] at hK0
  replace I := hK0
  clear hK0 hv hp gl v9 v10
  go_upto_region 13 with fail
  refine wp_regB [] [] (fun z_ => ([VF.wid (o), VF.eq (.pointer (some ⟨gb, 2, none⟩)), VF.eq (.int .i64 (b.r)), VF.eq (.int .i64 (2 * b.r)), VF.wid (2 * b.r), VF.eq (.tuple #[.int .i64 1, .int .i64 0]), VF.eq (.tuple #[.int .i64 1, .int .i64 0]), VF.eq (.int .i64 (1)), VF.eq (.int .i64 (0)), VF.eq (.int .i64 (1)), VF.eq (.int .i64 (0))] : List VF).getD z_ VF.any) I (fun hc => ⟨?_, ?_, ?_, ?_, ?_, ?_, ?_, ?_, ?_, ?_, ?_, trivial⟩) (fun vs gl W hK0 hv hp => ?_)
  ·exact ob_getW go (o) hc rfl fun vs gs w1 c => c.b0 5
  ·exact T_TRB_3
  ·exact b_46
  ·exact T_TRB_6
  ·exact b_47
  ·exact b_48
  ·exact ob_cp 5 hc (.inl rfl)
  ·exact b_49
  ·exact b_50
  ·exact ob_cp 7 hc (.inr rfl)
  ·exact ob_cp 8 hc (.inr rfl)
  have v9 : vs 9 = .int .i64 1 := hv 9 (by decide)
  have v10 : vs 10 = .int .i64 0 := hv 10 (by decide)
  simp only [putS, Nat.reduceAdd, Act.put, List.setIfInBounds_toArray, List.set_cons_zero, List.set_cons_succ, v9, v10]
  simp only [kb_] at hK0
  replace I := hK0
  clear hK0 hv hp gl v9 v10
  go_upto_region 16 with fail
  refine wp_regB [] [⟨14, some 15, BF.own [.int .i64 0, .int .i64 0], (BF.own [.int .i64 f, .int .i64 (f + 1)])⟩] (fun z_ => ([VF.eq (.int .i64 (q)), VF.eq (.int .i64 (m)), VF.eq (.int .i64 (q + m)), VF.eq (.int .i64 (r1)), VF.eq (.int .i64 (r1 + 4)), VF.eq (.int .i64 (k)), VF.ball (b.v) (b.r), VF.eq (.int .i64 (260)), VF.ball (T.v) (T.r), VF.eq (.int .i64 (260)), VF.eq (.tuple #[.agg #[.int .i64 f, .int .i64 (f + 1)], .bool true]), VF.eq (.tuple #[.agg #[.int .i64 f, .int .i64 (f + 1)], .bool true]), VF.eq (.agg #[.int .i64 f, .int .i64 (f + 1)]), VF.eq (.bool true), VF.any, VF.any, VF.eq (.bool true)] : List VF).getD z_ VF.any) I (fun hc => ⟨?_, ?_, ?_, ?_, ?_, ?_, ?_, ?_, ?_, ?_, ?_, ?_, ?_, ?_, ?_, ?_, ?_, trivial⟩) (fun vs gl W hK0 hv hp => ?_)
  ·exact ob_mv hc (.inl rfl)
  ·exact ob_mv hc (.inl rfl)
  ·exact T_TRB_8
  ·exact T_TRB_9
  ·exact T_TRB_7
  ·exact T_TRB_10
  ·exact ob_getB gb (b.v) (b.r) hc rfl fun vs gs w1 c => c.b0 4
  ·exact ob_mv hc (.inl rfl)
  ·exact b_51
  ·exact ob_mv hc (.inl rfl)
  ·exact b_52
  ·exact ob_cp 10 hc (.inl rfl)
  ·exact b_53
  ·exact b_54
  ·exact b_55
  ·exact ob_put2 (n := 6) 0 rfl (some 12) hc rfl
  ·exact ob_cp 13 hc (.inr rfl)
  have p0 : vs 14 = .pointer (some ⟨gl 0, 0, none⟩) := hp 0 _ rfl
  have v16 : vs 16 = .bool true := hv 16 (by decide)
  simp only [putS, Nat.reduceAdd, Act.put, List.setIfInBounds_toArray, List.set_cons_zero, List.set_cons_succ, p0, v16]
  obtain ⟨gi, e90⟩ : ∃ n, gl 0 = n := ⟨_, rfl⟩
  simp only [kb_, e90] at hK0
  rw [e90]
  replace I := hK0
  clear hK0 hv hp gl p0 v16 e90
  go_upto_region 19 with fail
  refine wp_regB [[(3, BF.own [.int .i64 f, .int .i64 (f + 1)])]] [] (fun z_ => ([VF.eq (.int .i64 (q)), VF.eq (.agg #[.int .i64 f, .int .i64 (f + 1)]), VF.eq (.int .i64 (q))] : List VF).getD z_ VF.any) I (fun hc => ⟨?_, ?_, ?_, ?_, trivial⟩) (fun vs gl W hK0 hv hp => ?_)
  ·exact ob_mv hc (.inl rfl)
  ·exact ob_ld2 (x := .tmp 18) (g := gi) (f := 0) none hc rfl fun vs gs w1 c => ⟨c.own 6 0, c.own 6 1⟩
  ·exact ob_cp 0 hc (.inr rfl)
  ·exact ob_put2 (n := 0) 0 rfl (some 1) hc rfl
  have v2 : vs 2 = .int .i64 q := hv 2 (by decide)
  simp only [putS, Nat.reduceAdd, Act.put, List.setIfInBounds_toArray, List.set_cons_zero, List.set_cons_succ, v2]
  simp only [kb_] at hK0
  replace I := hK0
  clear hK0 hv hp gl v2
  have d0 := I.own 0 0
  have d1 := I.own 0 1
  have hE := I.e
  clear I hpi hnn hbr hb2 hxs hx2 hqd hqi hqp hhf hbs hph hos hc1 hc2 htu hun
  go_wp2_with fail
  try simp only [Exit.jump]
  try (show bodyPost _ _ _ _ _ _)
  refine bodyPost_ret (v := .tuple #[.int .i64 q, .agg #[.int .i64 f, .int .i64 (f + 1)]]) ?_ rfl ⟨rfl, ?_⟩
  ·simp [results, Tryz.results61, go_sem, ↓IntWalk.iteOmega, *]
  ·exact b_0
end Go.Proofs.YtogblocakccbgaaGreat
