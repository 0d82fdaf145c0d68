/- Numbers with signs: Add, Sub.; The plain arithmetic of a division of two words by one.; math/bits.Div64: the quotient and the remainder of two words by one. -/
import Derived.Test.YtogblocakccbgaaGreatJ00
import Derived.Test.YtogblocakccbgaaGreatJ12
import Derived.Test.YtogblocakccbgaaGreatJ01
import Derived.Test.YtogblocakccbgaaGreatJ06
import Derived.Laws.Bits64b
import Derived.Lib.BitFns
import Derived.Lib.ItoaNum
import Derived.Laws.Bits64
import Derived.Deep.CutBlock
import Derived.Deep.DeepCutAuto
set_option linter.unusedSimpArgs false
set_option linter.unusedVariables false
set_option maxRecDepth 100000
set_option maxHeartbeats 4000000
namespace Go.Proofs.YtogblocakccbgaaGreat
open Go.RowKit
theorem z_Add (va vb : Value) (m k : Int) (w : World) (ha : Wid w va m) (hb0 : Wid w vb k) (hs : Sz m) (hs2 : Sz k) (hs3 : Sz (m + k)) :
    Calls Tryz.prog 116 #[va, vb] w fun e w' => ∃ u, e = .returned (.tuple #[u, .int .i64 0]) ∧ Wid w' u (m + k) ∧ Ext w w' := by
 obtain ⟨u, rfl, hu⟩ := ha
 obtain ⟨s, rfl, hv⟩ := hb0
 obtain ⟨ao, b1, o1, cap1, rfl, -⟩ := hu.view
 obtain ⟨bo, b2, o2, cap2, rfl, -⟩ := hv.view
 have hck := fun w1 (k1 : Ext w w1) => z_check_two w1 _ _ (decide (m < 0)) (decide (k < 0)) m.natAbs k.natAbs (hu.ext k1) (hv.ext k1) hs hs2 (wid_s _ rfl) (wid_s _ rfl)
 have hR : sg (decide (m < 0)) m.natAbs + sg ((decide (k < 0))) k.natAbs = m + k := by
  have h1 := sg_wid (n := m)
  have h2 := sg_wid (n := k)
  rw [h1, h2]
 have had := fun w1 (k1 : Ext w w1) => z_add (.agg #[.bool (decide (m < 0)), .slice ao (dig m.natAbs).length cap1]) (.agg #[.bool ((decide (k < 0))), .slice bo (dig k.natAbs).length cap2]) (decide (m < 0)) ((decide (k < 0))) m.natAbs k.natAbs w1 ⟨_, rfl, hu.ext k1⟩ ⟨_, rfl, hv.ext k1⟩ hs hs2 (by rw [hR]; exact hs3)
 rw [hR] at had
 clear hR hs3
 generalize m + k = R at had ⊢
 generalize decide (m < 0) = sa at hck had ⊢
 generalize decide (k < 0) = sb at hck had ⊢
 generalize (dig m.natAbs).length = la at hck had ⊢
 generalize (dig k.natAbs).length = lb at hck had ⊢
 clear hu hv hs hs2
 have hck3 := hck (((w.alloc (.cells #[.bool sa, .slice ao la cap1] 24)).alloc (.cells #[.bool sb, .slice bo lb cap2] 24)).alloc (.cells #[.bool false, .slice none 0 0] 24)) ex_
 simp only [World.size_alloc] at hck3
 clear hck
 go_enter Tryz.func116, Tryz.ntmps116
 go_wp2_with (first
  | (go_at_call 52; (with_reducible refine hck3.mono ?_); rintro e w1 ⟨rfl, hb⟩; obtain ⟨_, _, hc, hf⟩ := hb.cells2; have hz := hb.size; (try simp only [wsz] at hz hc hf); clear hck3)
  | (go_at_call 168; (with_reducible refine (had _ ex_).mono ?_); rintro e w2 ⟨y1, rfl, ⟨y2, rfl, hx⟩, hb2⟩; obtain ⟨xo, _, _, xc, rfl, -⟩ := hx.view; obtain ⟨_, _, hc2, hf2⟩ := hb2.cells2; have hz2 := hb2.size; (try simp only [wsz] at hz2 hc2 hf2); clear had))
 have hnu : NoU w2 (w.heap.size + 1 + 1) := by
  have h0 := (NoU.new ((w.alloc (.cells #[.bool sa, .slice ao la cap1] 24)).alloc (.cells #[.bool sb, .slice bo lb cap2] 24)) #[.bool false, .slice none 0 0] 24 (noU2 (by simp) (by simp)))
  simp only [World.size_alloc] at h0
  exact ((h0.alloc (by simp) _ _).ext (by simp) hb).ext (by omega) hb2
 refine bodyPost_ret (v := .tuple #[.agg #[.bool (decide (R < 0)), .slice xo (dig R.natAbs).length xc], .int .i64 0]) ?_ rfl ⟨_, rfl, ⟨_, rfl, ?_⟩, ?_⟩
 ·simp [results, Tryz.results116, go_sem, ↓IntWalk.iteOmega, *]
 ·exact Lim.box (Lim.box hx hnu) (NoU.set hnu (fun z e => by cases e))
 ·exact ex_
theorem z_Sub (va vb : Value) (m k : Int) (w : World) (ha : Wid w va m) (hb0 : Wid w vb k) (hs : Sz m) (hs2 : Sz k) (hs3 : Sz (m - k)) :
    Calls Tryz.prog 115 #[va, vb] w fun e w' => ∃ u, e = .returned (.tuple #[u, .int .i64 0]) ∧ Wid w' u (m - k) ∧ Ext w w' := by
 obtain ⟨u, rfl, hu⟩ := ha
 obtain ⟨s, rfl, hv⟩ := hb0
 obtain ⟨ao, b1, o1, cap1, rfl, -⟩ := hu.view
 obtain ⟨bo, b2, o2, cap2, rfl, -⟩ := hv.view
 have hck := fun w1 (k1 : Ext w w1) => z_check_two w1 _ _ (decide (m < 0)) (decide (k < 0)) m.natAbs k.natAbs (hu.ext k1) (hv.ext k1) hs hs2 (wid_s _ rfl) (wid_s _ rfl)
 have hR : sg (decide (m < 0)) m.natAbs + sg (!(decide (k < 0))) k.natAbs = m - k := by
  have h1 := sg_wid (n := m)
  have h2 := sg_wid (n := k)
  rw [h1]; unfold sg at h2 ⊢; cases hk : decide (k < 0) <;> rw [hk] at h2 <;> simp at h2 ⊢ <;> omega
 have had := fun w1 (k1 : Ext w w1) => z_add (.agg #[.bool (decide (m < 0)), .slice ao (dig m.natAbs).length cap1]) (.agg #[.bool (!(decide (k < 0))), .slice bo (dig k.natAbs).length cap2]) (decide (m < 0)) (!(decide (k < 0))) m.natAbs k.natAbs w1 ⟨_, rfl, hu.ext k1⟩ ⟨_, rfl, hv.ext k1⟩ hs hs2 (by rw [hR]; exact hs3)
 rw [hR] at had
 clear hR hs3
 generalize m - k = R at had ⊢
 generalize decide (m < 0) = sa at hck had ⊢
 generalize decide (k < 0) = sb at hck had ⊢
 generalize (dig m.natAbs).length = la at hck had ⊢
 generalize (dig k.natAbs).length = lb at hck had ⊢
 clear hu hv hs hs2
 have hck3 := hck (((w.alloc (.cells #[.bool sa, .slice ao la cap1] 24)).alloc (.cells #[.bool sb, .slice bo lb cap2] 24)).alloc (.cells #[.bool false, .slice none 0 0] 24)) ex_
 simp only [World.size_alloc] at hck3
 clear hck
 go_enter Tryz.func115, Tryz.ntmps115
 go_wp2_with (first
  | (go_at_call 52; (with_reducible refine hck3.mono ?_); rintro e w1 ⟨rfl, hb⟩; obtain ⟨_, _, hc, hf⟩ := hb.cells2; have hz := hb.size; (try simp only [wsz] at hz hc hf); clear hck3)
  | (go_at_call 168; (with_reducible refine (had _ ex_).mono ?_); rintro e w2 ⟨y1, rfl, ⟨y2, rfl, hx⟩, hb2⟩; obtain ⟨xo, _, _, xc, rfl, -⟩ := hx.view; obtain ⟨_, _, hc2, hf2⟩ := hb2.cells2; have hz2 := hb2.size; (try simp only [wsz] at hz2 hc2 hf2); clear had))
 have hnu : NoU w2 (w.heap.size + 1 + 1) := by
  have h0 := (NoU.new ((w.alloc (.cells #[.bool sa, .slice ao la cap1] 24)).alloc (.cells #[.bool sb, .slice bo lb cap2] 24)) #[.bool false, .slice none 0 0] 24 (noU2 (by simp) (by simp)))
  simp only [World.size_alloc] at h0
  exact (NoU.set ((h0.alloc (by simp) _ _).ext (by simp) hb) (fun z e => by cases e)).ext (by simp only [World.size_setCell]; omega) hb2
 refine bodyPost_ret (v := .tuple #[.agg #[.bool (decide (R < 0)), .slice xo (dig R.natAbs).length xc], .int .i64 0]) ?_ rfl ⟨_, rfl, ⟨_, rfl, ?_⟩, ?_⟩
 ·simp [results, Tryz.results115, go_sem, ↓IntWalk.iteOmega, *]
 ·exact Lim.box (Lim.box hx hnu) (NoU.set hnu (fun z e => by cases e))
 ·exact ex_
end Go.Proofs.YtogblocakccbgaaGreat
namespace Go.Proofs.YtogblocakccbgaaGreat
theorem step_stop {Y v1 v0 u c q r : Nat} (hY : Y = v1 * 4294967296 + v0) (hu : q * v1 + r = u) (hle : (u * 4294967296 + c) / Y ≤ q) (h0 : 0 < Y) (ht : q * v0 ≤ 4294967296 * r + c) :
    q = (u * 4294967296 + c) / Y := by
 refine Nat.le_antisymm ?_ hle
 rw [Nat.le_div_iff_mul_le h0]
 have : q * Y = q * v1 * 4294967296 + q * v0 := by rw [hY, Nat.mul_add, Nat.mul_assoc]
 rw [this, ← hu]; omega
theorem step_more {Y v1 v0 u c q r : Nat} (hY : Y = v1 * 4294967296 + v0) (hu : q * v1 + r = u) (h0 : 0 < Y) (ht : 4294967296 * r + c < q * v0) :
    (u * 4294967296 + c) / Y ≤ q - 1 := by
 have h1 : (u * 4294967296 + c) / Y < q := by
  rw [Nat.div_lt_iff_lt_mul h0]
  have : q * Y = q * v1 * 4294967296 + q * v0 := by rw [hY, Nat.mul_add, Nat.mul_assoc]
  rw [this, ← hu]; omega
 omega
theorem step_big {Y u c q : Nat} (h0 : 0 < Y) (hu : u < Y) (hc : c < 4294967296) (hq : 4294967296 ≤ q) : (u * 4294967296 + c) / Y ≤ q - 1 := by
 have h1 : (u * 4294967296 + c) / Y < 4294967296 := by
  rw [Nat.div_lt_iff_lt_mul h0]
  have : (u + 1) * 4294967296 ≤ Y * 4294967296 := Nat.mul_le_mul_right _ hu
  rw [Nat.mul_comm 4294967296 Y]; omega
 omega
theorem step_break {Y v1 v0 u c q r : Nat} (hY : Y = v1 * 4294967296 + v0) (h0 : 0 < Y) (hv0 : v0 < 4294967296) (hu : u < Y) (hq : q * v1 + r = u) (hle : (u * 4294967296 + c) / Y ≤ q) (hr : 4294967296 ≤ r) :
    q = (u * 4294967296 + c) / Y := by
 refine step_stop hY hq hle h0 ?_
 have h1 : q < 4294967296 := by
  refine Nat.lt_of_not_le fun hn => ?_
  have : 4294967296 * v1 ≤ q * v1 := Nat.mul_le_mul_right _ hn
  omega
 have h2 : q * v0 ≤ q * 4294967296 := Nat.mul_le_mul_left _ (Nat.le_of_lt hv0)
 omega
theorem step_first {Y v1 v0 u c : Nat} (hY : Y = v1 * 4294967296 + v0) (h0 : 0 < v1) (hc : c < 4294967296) : (u * 4294967296 + c) / Y ≤ u / v1 := by
 rw [hY, Nat.le_div_iff_mul_le h0]
 have h1 := Nat.div_mul_le_self (u * 4294967296 + c) (v1 * 4294967296 + v0)
 generalize (u * 4294967296 + c) / (v1 * 4294967296 + v0) = q at h1 ⊢
 rw [Nat.mul_add, ← Nat.mul_assoc] at h1
 omega
theorem step_down {q v1 r u : Nat} (hq : q * v1 + r = u) (h : 1 ≤ q) : (q - 1) * v1 + (r + v1) = u := by
 obtain ⟨k, rfl⟩ : ∃ k, q = k + 1 := ⟨q - 1, by omega⟩
 rw [Nat.add_mul] at hq
 simp; omega
theorem pow_split (s : Nat) (hs : s ≤ 64) : 2 ^ (64 - s) * 2 ^ s = 18446744073709551616 := by
 rw [← Nat.pow_add, Nat.sub_add_cancel hs]
theorem norm_facts (hi lo y : Nat) (hy0 : 0 < y) (hy : y < 18446744073709551616) (hh : hi < y) (hl : lo < 18446744073709551616) :
    ∃ s : Nat, s < 64 ∧ Lib.bitLen y + s = 64 ∧ 9223372036854775808 ≤ y * 2 ^ s ∧ y * 2 ^ s < 18446744073709551616 ∧
      (hi * 2 ^ s) ||| (lo / 2 ^ (64 - s)) = hi * 2 ^ s + lo / 2 ^ (64 - s) ∧ hi * 2 ^ s + lo / 2 ^ (64 - s) < y * 2 ^ s ∧ hi * 2 ^ s < 18446744073709551616 ∧
      (hi * 2 ^ s + lo / 2 ^ (64 - s)) * 18446744073709551616 + lo * 2 ^ s % 18446744073709551616 = (hi * 18446744073709551616 + lo) * 2 ^ s := by
 have hb := Lib.bitLenAux_bounds 64 y (by simpa using hy) (by omega)
 have hL : Lib.bitLen y ≤ 64 := Lib.bitLen_le y 64 (by omega) (by simpa using hy)
 obtain ⟨b1, b2, b3⟩ := hb
 change 1 ≤ Lib.bitLen y at b1
 change 2 ^ (Lib.bitLen y - 1) ≤ y at b2
 change y < 2 ^ Lib.bitLen y at b3
 refine ⟨64 - Lib.bitLen y, by omega, by omega, ?_⟩
 generalize hs : 64 - Lib.bitLen y = s
 have hs' : Lib.bitLen y = 64 - s := by omega
 have hp := pow_split s (by omega)
 rw [hs'] at b2 b3
 have hpos : 0 < 2 ^ s := Nat.two_pow_pos s
 have e1 : 9223372036854775808 ≤ y * 2 ^ s := by
  have h2 : 2 ^ (64 - s) = 2 ^ (64 - s - 1) * 2 := by
   rw [← Nat.pow_succ]; congr 1; omega
  have h3 : 2 ^ (64 - s - 1) * 2 ^ s ≤ y * 2 ^ s := Nat.mul_le_mul_right _ b2
  rw [h2, Nat.mul_right_comm] at hp
  omega
 have e2 : y * 2 ^ s < 18446744073709551616 := by
  rw [← hp]; exact Nat.mul_lt_mul_of_pos_right b3 hpos
 have hlo : lo / 2 ^ (64 - s) < 2 ^ s := by
  rw [Nat.div_lt_iff_lt_mul (Nat.two_pow_pos _), Nat.mul_comm, hp]; exact hl
 have hlo2 : lo * 2 ^ s / 18446744073709551616 = lo / 2 ^ (64 - s) := by
  rw [← hp]; exact Nat.mul_div_mul_right _ _ hpos
 have e5 : (hi * 2 ^ s + lo / 2 ^ (64 - s)) * 18446744073709551616 + lo * 2 ^ s % 18446744073709551616 = (hi * 18446744073709551616 + lo) * 2 ^ s := by
  have := Nat.div_add_mod (lo * 2 ^ s) 18446744073709551616
  rw [hlo2] at this
  rw [Nat.add_mul, Nat.add_mul, Nat.mul_right_comm hi]; omega
 have e4 : hi * 2 ^ s + lo / 2 ^ (64 - s) < y * 2 ^ s := by
  have h1 : (hi + 1) * 2 ^ s ≤ y * 2 ^ s := Nat.mul_le_mul_right _ hh
  rw [Nat.add_mul] at h1; omega
 refine ⟨e1, e2, ?_, e4, by omega, e5⟩
 have := Nat.two_pow_add_eq_or_of_lt hlo hi
 rw [Nat.mul_comm hi]
 exact this.symm
theorem wrapN (a : Nat) : IntKind.u64.wrap (a : Int) = ((a % 18446744073709551616 : Nat) : Int) := by rw [IntKind.wrap_u64]; omega
theorem wrapL (a : Nat) (ha : a < 18446744073709551616) : IntKind.u64.wrap (a : Int) = (a : Int) := by rw [IntKind.wrap_u64]; omega
theorem wrap_rest (u c q Y R : Nat) (h : u * 4294967296 + c = q * Y + R) (hR : R < 18446744073709551616) :
    IntKind.u64.wrap (IntKind.u64.wrap (IntKind.u64.wrap ((u : Int) * 4294967296) + (c : Int)) - IntKind.u64.wrap ((q : Int) * (Y : Int))) = (R : Int) := by
 have h' : (u : Int) * 4294967296 + c = (q : Int) * Y + R := by
  have h2 : ((u * 4294967296 + c : Nat) : Int) = ((q * Y + R : Nat) : Int) := by rw [h]
  rw [Int.natCast_add, Int.natCast_mul, Int.natCast_add, Int.natCast_mul] at h2
  exact h2
 rw [IntKind.wrap_u64, IntKind.wrap_u64, IntKind.wrap_u64, IntKind.wrap_u64]
 generalize (q : Int) * (Y : Int) = p at h' ⊢
 omega
theorem maskN (a : Nat) (ha : a < 18446744073709551616) : bits .and .u64 (a : Int) 4294967295 = ((a % 4294967296 : Nat) : Int) := by
 have h := bits_and_u64_nat a 4294967295 ha (by omega)
 have e : a &&& 4294967295 = a % 4294967296 := Nat.and_two_pow_sub_one_eq_mod a 32
 rw [e] at h
 exact h
#print axioms norm_facts
end Go.Proofs.YtogblocakccbgaaGreat
namespace Go.Proofs.YtogblocakccbgaaGreat
open Go.RowKit
theorem T_Div_5 {p : Prop} (h : p := by
 have J1 := Lib.hid j1; clear j1
 have K2 := Lib.hid k2; clear k2
 have HM := Lib.hid hm; clear hm
 exact T_Div_1) : p := h
theorem T_Div_4 {p : Prop} (h : p := by
 have e3 : (q : Int) - 1 = Q1 := by omega
 clear k3
 go_wp2_with fail
 go_meet
 exact ⟨rfl, ⟨_, rfl⟩, rfl⟩) : p := h
theorem T_Div_3 {p : Prop} (h : p := by
 have e3 : (q : Int) - 1 = Q0 := by omega
 clear k3
 go_wp2_with fail
 go_meet
 exact ⟨rfl, ⟨_, rfl⟩, rfl⟩) : p := h
theorem T_Div_2 {p : Prop} (h : p := by
 subst k3
 have J1 := Lib.hid j1; clear j1
 have HM := Lib.hid hm; clear hm
 go_wp2_with fail
 go_meet
 exact ⟨rfl, ⟨_, rfl⟩, rfl⟩) : p := h
theorem T_Div_1 {p : Prop} (h : p := by
 go_wp2_with fail
 go_round
 case rel => exact ⟨q - 1, r + v1, by omega, ⟨K2.out, k1, by omega⟩, by go_num, by go_num⟩
 case measure => simp [intOf]; omega) : p := h
def StepInv (v1 u Q q r : Nat) : Prop := q * v1 + r = u ∧ Q ≤ q ∧ r < 4294967296
theorem div64_core (hi lo y : Nat) (w : World) (_h2 : (lo : Int) < 18446744073709551616) (h3 : (y : Int) < 18446744073709551616) (h0 : ((hi : Int) == 0) = false) (hy : ((y : Int) == 0) = false)
   (hy' : ¬ (y ≤ hi)) (s : Nat) (hs : s < 64) (hs' : 64 - (Lib.bitLen y : Int) = (s : Int)) (Y v1 v0 u l l1 l0 qa pa ra Q1 u2 qb pb rb Q0 : Nat)
   (eY : IntKind.u64.wrap (↑y * 2 ^ s) = (Y : Int)) (hv1 : (0:Int) < v1) (hv1' : (v1 : Int) < 4294967296) (e1 : (Y : Int) / 4294967296 = v1)
   (hv0 : (v0 : Int) < 4294967296) (e0 : bits BinOp.and IntKind.u64 (Y : Int) 4294967295 = v0)
   (eU : bits BinOp.or IntKind.u64 (IntKind.u64.wrap (↑hi * 2 ^ s)) (↑lo / 2 ^ (64 - s)) = (u : Int))
   (eL : IntKind.u64.wrap (↑lo * 2 ^ s) = (l : Int)) (eL1 : (l : Int) / 4294967296 = l1) (eL0 : bits BinOp.and IntKind.u64 (l : Int) 4294967295 = l0)
   (hl1 : (l1 : Int) < 4294967296) (hl0 : (l0 : Int) < 4294967296)
   (eqa : (u : Int) / v1 = qa) (epa : IntKind.u64.wrap ((qa : Int) * v1) = pa) (hpa : pa ≤ u) (hu64 : (u : Int) < 18446744073709551616) (era : (u : Int) - pa = ra)
   (eu2 : IntKind.u64.wrap (IntKind.u64.wrap (IntKind.u64.wrap ((u : Int) * 4294967296) + (l1 : Int)) - IntKind.u64.wrap ((Q1 : Int) * (Y : Int))) = (u2 : Int))
   (eqb : (u2 : Int) / v1 = qb) (epb : IntKind.u64.wrap ((qb : Int) * v1) = pb) (hpb : pb ≤ u2) (hu264 : (u2 : Int) < 18446744073709551616) (erb : (u2 : Int) - pb = rb)
   (hqa : (qa : Int) < 18446744073709551616) (hqb : (qb : Int) < 18446744073709551616)
   (hQ1 : (Q1 : Int) < 4294967296) (hQ0 : (Q0 : Int) < 4294967296)
   (I1 : StepInv v1 u Q1 qa ra) (I2 : StepInv v1 u2 Q0 qb rb)
   (big1 : ∀ q, 4294967296 ≤ q → Q1 ≤ q - 1) (more1 : ∀ q r, q * v1 + r = u → 4294967296 * r + l1 < q * v0 → Q1 ≤ q - 1)
   (stop1 : ∀ q r, q * v1 + r = u → Q1 ≤ q → q * v0 ≤ 4294967296 * r + l1 → q = Q1) (break1 : ∀ q r, q * v1 + r = u → Q1 ≤ q → 4294967296 ≤ r → q = Q1)
   (R : Nat) (eR : IntKind.u64.wrap (IntKind.u64.wrap (IntKind.u64.wrap ((u2 : Int) * 4294967296) + (l0 : Int)) - IntKind.u64.wrap ((Q0 : Int) * (Y : Int))) = (R : Int))
   (big2 : ∀ q, 4294967296 ≤ q → Q0 ≤ q - 1) (more2 : ∀ q r, q * v1 + r = u2 → 4294967296 * r + l0 < q * v0 → Q0 ≤ q - 1)
   (stop2 : ∀ q r, q * v1 + r = u2 → Q0 ≤ q → q * v0 ≤ 4294967296 * r + l0 → q = Q0) (break2 : ∀ q r, q * v1 + r = u2 → Q0 ≤ q → 4294967296 ≤ r → q = Q0) :
    Calls Tryz.prog 160 #[.int .u64 hi, .int .u64 lo, .int .u64 y] w fun e w' => e = .returned (.tuple #[.int .u64 ((Q1 : Int) * 4294967296 + Q0), .int .u64 ((R : Int) / 2 ^ s)]) ∧ Ext w w' := by
 have Hb1 := Lib.hid big1; clear big1
 have Hb2 := Lib.hid big2; clear big2
 have Hm1 := Lib.hid more1; clear more1
 have Hm2 := Lib.hid more2; clear more2
 have Hs1 := Lib.hid stop1; clear stop1
 have Hs2 := Lib.hid stop2; clear stop2
 have Hk1 := Lib.hid break1; clear break1
 have Hk2 := Lib.hid break2; clear break2
 go_enter Tryz.func160, Tryz.ntmps160
 go_upto_block 0 with (go_at_call 194; refine (Tryz.bits_LeadingZeros64 _ _ (by omega) (by omega)).mono ?_; rintro e w' ⟨rfl, hw⟩; rw [hw]; clear hw; simp only [Int.toNat_natCast]; rw [hs'])
 go_cut [15, 16] (fun a b wx => a = .int .u64 Q1 ∧ (∃ r : Nat, b = .int .u64 r) ∧ wx = w)
 case first =>
  go_wp2_with fail
  go_loop [15, 16] (fun a b => ∃ q r : Nat, (q : Int) < 18446744073709551616 ∧ StepInv v1 u Q1 q r ∧ a = .int .u64 q ∧ b = .int .u64 r) (fun a _ => (intOf a).toNat)
  case atStart => exact ⟨qa, ra, hqa, I1, rfl, rfl⟩
  case round =>
   obtain ⟨q, r, hq64, ⟨j1, j2, j3⟩, rfl, rfl⟩ := hrel
   have j3' : (r : Int) < 4294967296 := by omega
   clear j3
   by_cases hbig : (4294967296 : Int) ≤ q
   ·have k1 := Hb1.out q (by omega)
    have k2 := step_down j1 (by omega)
    by_cases hr : (4294967296 : Int) ≤ (r : Int) + v1
    ·have k3 := Hk1.out _ _ k2 k1 (by omega)
     have J1 := Lib.hid j1; clear j1
     have K2 := Lib.hid k2; clear k2
     exact T_Div_4
    ·have J1 := Lib.hid j1; clear j1
     have K2 := Lib.hid k2; clear k2
     exact T_Div_1
   ·obtain ⟨m, hm⟩ : ∃ m, m = q * v0 := ⟨_, rfl⟩
    have hm64 : (m : Int) < 18446744073709551616 := by
     have h5 : q * v0 ≤ 4294967295 * 4294967295 := Nat.mul_le_mul (by omega) (by omega)
     omega
    have em : IntKind.u64.wrap ((q : Int) * v0) = (m : Int) := by
     rw [← Int.natCast_mul, ← hm]; exact wrapL m (by omega)
    by_cases ht : 4294967296 * (r : Int) + l1 < m
    ·have k1 := Hm1.out q r j1 (by omega)
     have hq1 : 1 ≤ q := by
      refine Nat.pos_of_ne_zero fun h => ?_
      subst h; simp at hm; omega
     have k2 := step_down j1 hq1
     by_cases hr : (4294967296 : Int) ≤ (r : Int) + v1
     ·have k3 := Hk1.out _ _ k2 k1 (by omega)
      have J1 := Lib.hid j1; clear j1
      have K2 := Lib.hid k2; clear k2
      have HM := Lib.hid hm; clear hm
      exact T_Div_4
     ·exact T_Div_5
    ·have k3 := Hs1.out q r j1 j2 (by omega)
     exact T_Div_2
 case rest =>
  obtain ⟨rfl, ⟨r1, rfl⟩, rfl⟩ := hcut
  go_upto_block 2 with fail
  go_cut [18, 16] (fun a b wx => a = .int .u64 Q0 ∧ (∃ r : Nat, b = .int .u64 r) ∧ wx = wc)
  case first =>
   go_wp2_with fail
   go_loop [18, 16] (fun a b => ∃ q r : Nat, (q : Int) < 18446744073709551616 ∧ StepInv v1 u2 Q0 q r ∧ a = .int .u64 q ∧ b = .int .u64 r) (fun a _ => (intOf a).toNat)
   case atStart => exact ⟨qb, rb, hqb, I2, rfl, rfl⟩
   case round =>
    obtain ⟨q, r, hq64, ⟨j1, j2, j3⟩, rfl, rfl⟩ := hrel
    have j3' : (r : Int) < 4294967296 := by omega
    clear j3
    by_cases hbig : (4294967296 : Int) ≤ q
    ·have k1 := Hb2.out q (by omega)
     have k2 := step_down j1 (by omega)
     by_cases hr : (4294967296 : Int) ≤ (r : Int) + v1
     ·have k3 := Hk2.out _ _ k2 k1 (by omega)
      have J1 := Lib.hid j1; clear j1
      have K2 := Lib.hid k2; clear k2
      exact T_Div_3
     ·have J1 := Lib.hid j1; clear j1
      have K2 := Lib.hid k2; clear k2
      exact T_Div_1
    ·obtain ⟨m, hm⟩ : ∃ m, m = q * v0 := ⟨_, rfl⟩
     have hm64 : (m : Int) < 18446744073709551616 := by
      have h5 : q * v0 ≤ 4294967295 * 4294967295 := Nat.mul_le_mul (by omega) (by omega)
      omega
     have em : IntKind.u64.wrap ((q : Int) * v0) = (m : Int) := by
      rw [← Int.natCast_mul, ← hm]; exact wrapL m (by omega)
     by_cases ht : 4294967296 * (r : Int) + l0 < m
     ·have k1 := Hm2.out q r j1 (by omega)
      have hq1 : 1 ≤ q := by
       refine Nat.pos_of_ne_zero fun h => ?_
       subst h; simp at hm; omega
      have k2 := step_down j1 hq1
      by_cases hr : (4294967296 : Int) ≤ (r : Int) + v1
      ·have k3 := Hk2.out _ _ k2 k1 (by omega)
       have J1 := Lib.hid j1; clear j1
       have K2 := Lib.hid k2; clear k2
       have HM := Lib.hid hm; clear hm
       exact T_Div_3
      ·exact T_Div_5
     ·have k3 := Hs2.out q r j1 j2 (by omega)
      exact T_Div_2
  case rest =>
   obtain ⟨rfl, ⟨r2, rfl⟩, rfl⟩ := hcut
   go_wp2_with fail
   go_ret2
   exact ⟨rfl, Ext.refl _⟩
theorem div64_small (hi lo y : Nat) (w : World) (hh : ((hi : Int) == 0) = true) (h0 : (1 : Int) ≤ y) (h2 : (lo : Int) < 18446744073709551616) (h3 : (y : Int) < 18446744073709551616) (hy : ((y : Int) == 0) = false) (hy' : ¬ y ≤ hi) :
    Calls Tryz.prog 160 #[.int .u64 hi, .int .u64 lo, .int .u64 y] w fun e w' => e = .returned (.tuple #[.int .u64 ((lo : Int) / y), .int .u64 ((lo : Int) % y)]) ∧ Ext w w' := by
 have d1 : 0 ≤ (lo : Int) / y := Int.ediv_nonneg (by omega) (by omega)
 have d2 : (lo : Int) / y ≤ lo := Int.ediv_le_self _ (by omega)
 go_enter Tryz.func160, Tryz.ntmps160
 go_wp2_with fail
 go_quiet (fail)
 go_wp2_with fail
 go_ret2
 exact ⟨rfl, (Ext.refl _).drewN _⟩
theorem step_pack {Y v1 v0 u c : Nat} (hY : Y = v1 * 4294967296 + v0) (hv0 : v0 < 4294967296) (hv1 : 2147483648 ≤ v1) (hv1' : v1 < 4294967296) (hu : u < Y) (hc : c < 4294967296) :
    StepInv v1 u ((u * 4294967296 + c) / Y) (u / v1) (u % v1) ∧ (u * 4294967296 + c) / Y < 4294967296 ∧ (u * 4294967296 + c) % Y < Y ∧ u / v1 * v1 ≤ u ∧
    (∀ q, 4294967296 ≤ q → (u * 4294967296 + c) / Y ≤ q - 1) ∧ (∀ q r, q * v1 + r = u → 4294967296 * r + c < q * v0 → (u * 4294967296 + c) / Y ≤ q - 1) ∧
    (∀ q r, q * v1 + r = u → (u * 4294967296 + c) / Y ≤ q → q * v0 ≤ 4294967296 * r + c → q = (u * 4294967296 + c) / Y) ∧
    (∀ q r, q * v1 + r = u → (u * 4294967296 + c) / Y ≤ q → 4294967296 ≤ r → q = (u * 4294967296 + c) / Y) := by
 have h0 : 0 < Y := by omega
 refine ⟨⟨?_, step_first hY (by omega) hc, ?_⟩, ?_, Nat.mod_lt _ h0, Nat.div_mul_le_self _ _, fun q hq => step_big h0 hu hc hq, fun q r h1 h2 => step_more hY h1 h0 h2, fun q r h1 h2 h3 => step_stop hY h1 h2 h0 h3, fun q r h1 h2 h3 => step_break hY h0 hv0 hu h1 h2 h3⟩
 ·exact Nat.div_add_mod' u v1
 ·have := Nat.mod_lt u (show v1 > 0 by omega); omega
 ·have := step_big (q := 4294967296) h0 hu hc (Nat.le_refl _); omega
theorem step_ex {Y v1 v0 u c : Nat} (hY : Y = v1 * 4294967296 + v0) (hv0 : v0 < 4294967296) (hv1 : 2147483648 ≤ v1) (hv1' : v1 < 4294967296) (hu : u < Y) (hc : c < 4294967296) :
    ∃ Q R qa pa ra : Nat, u * 4294967296 + c = Q * Y + R ∧ R < Y ∧ Q < 4294967296 ∧ qa = u / v1 ∧ pa = qa * v1 ∧ pa + ra = u ∧ qa ≤ u ∧ StepInv v1 u Q qa ra ∧
    (∀ q, 4294967296 ≤ q → Q ≤ q - 1) ∧ (∀ q r, q * v1 + r = u → 4294967296 * r + c < q * v0 → Q ≤ q - 1) ∧
    (∀ q r, q * v1 + r = u → Q ≤ q → q * v0 ≤ 4294967296 * r + c → q = Q) ∧ (∀ q r, q * v1 + r = u → Q ≤ q → 4294967296 ≤ r → q = Q) := by
 obtain ⟨a1, a2, a3, a4, a5, a6, a7, a8⟩ := step_pack hY hv0 hv1 hv1' hu hc
 exact ⟨_, _, _, _, _, (Nat.div_add_mod' _ _).symm, a3, a2, rfl, rfl, Nat.div_add_mod' u v1, Nat.div_le_self _ _, a1, a5, a6, a7, a8⟩
theorem back {N y s Y u l Q1 u2 Q0 R l1 l0 B : Nat} (hY : Y = y * 2 ^ s) (hl : l = l1 * B + l0)
    (hU : u * (B * B) + l = N * 2 ^ s) (h1 : u * B + l1 = Q1 * Y + u2) (h2 : u2 * B + l0 = Q0 * Y + R) (hR : R < Y) :
    Q1 * B + Q0 = N / y ∧ R / 2 ^ s = N % y := by
 have hp : 0 < 2 ^ s := Nat.two_pow_pos s
 have e : N * 2 ^ s = (Q1 * B + Q0) * Y + R := by
  have e1 : u * (B * B) + l1 * B = (Q1 * Y + u2) * B := by rw [← h1, Nat.add_mul, Nat.mul_assoc]
  have e2 : (Q1 * Y + u2) * B = Q1 * B * Y + u2 * B := by rw [Nat.add_mul, Nat.mul_right_comm]
  rw [← hU, hl, Nat.add_mul]; omega
 have hd : N * 2 ^ s / Y = Q1 * B + Q0 := by
  rw [e]; exact Nat.div_eq_of_lt_le (by omega) (by rw [Nat.succ_mul]; omega)
 have hm : N * 2 ^ s % Y = R := by
  rw [e, Nat.mul_comm, Nat.mul_add_mod]; exact Nat.mod_eq_of_lt hR
 rw [hY, Nat.mul_div_mul_right _ _ hp] at hd
 rw [hY, Nat.mul_mod_mul_right] at hm
 exact ⟨hd.symm, by rw [← hm, Nat.mul_div_cancel _ hp]⟩
theorem div64 (hi lo y : Nat) (w : World) (hh : hi < y) (hl : lo < 18446744073709551616) (hy : y < 18446744073709551616) :
    Calls Tryz.prog 160 #[.int .u64 hi, .int .u64 lo, .int .u64 y] w fun e w' => e = .returned (.tuple #[.int .u64 (((hi * 18446744073709551616 + lo) / y : Nat) : Int), .int .u64 (((hi * 18446744073709551616 + lo) % y : Nat) : Int)]) ∧ Ext w w' := by
 by_cases h0 : hi = 0
 ·refine (div64_small hi lo y w (by simpa using h0) (by omega) (by omega) (by omega) c_29 (by omega)).mono ?_
  rintro e w' ⟨rfl, hb⟩
  subst h0
  refine ⟨?_, hb⟩
  simp
 ·obtain ⟨s, hs, hL, f1, f2, f3, f4, f5, f6⟩ := norm_facts hi lo y (by omega) hy hh hl
  obtain ⟨Y, hY⟩ : ∃ Y, Y = y * 2 ^ s := ⟨_, rfl⟩
  obtain ⟨u, hU⟩ : ∃ u, u = hi * 2 ^ s + lo / 2 ^ (64 - s) := ⟨_, rfl⟩
  obtain ⟨l, hl'⟩ : ∃ l, l = lo * 2 ^ s % 18446744073709551616 := ⟨_, rfl⟩
  rw [← hY] at f1 f2 f4
  rw [← hU] at f3 f4 f6
  rw [← hl'] at f6
  have hl64 : l < 18446744073709551616 := by rw [hl']; exact Nat.mod_lt _ (by omega)
  have hYs : Y = Y / 4294967296 * 4294967296 + Y % 4294967296 := by omega
  have hls : l = l / 4294967296 * 4294967296 + l % 4294967296 := by omega
  obtain ⟨Q1, u2, qa, pa, ra, r1, a3, a2, aq, ap, ar, al, a1, a5, a6, a7, a8⟩ := step_ex (c := l / 4294967296) hYs (by omega) (by omega) (by omega) f4 (by omega)
  obtain ⟨Q0, R, qb, pb, rb, r2, b3, b2, bq, bp, br, bl, b1, b5, b6, b7, b8⟩ := step_ex (c := l % 4294967296) hYs (by omega) (by omega) (by omega) a3 (by omega)
  have hb := back (B := 4294967296) hY hls f6 r1 r2 b3
  have hwrap : ∀ a : Nat, IntKind.u64.wrap ((a : Int) * 2 ^ s) = ((a * 2 ^ s % 18446744073709551616 : Nat) : Int) := fun a => by
   rw [← wrapN, Int.natCast_mul, Int.natCast_pow]; rfl
  refine (div64_core hi lo y w (by omega) (by omega) (by simpa using h0) c_29 (by omega) s hs (by omega) Y (Y / 4294967296) (Y % 4294967296) u l (l / 4294967296) (l % 4294967296)
   qa pa ra Q1 u2 qb pb rb Q0
   ?_ (by omega) (by omega) (by omega) (by omega) ?_ ?_ ?_ (by omega) ?_ (by omega) (by omega) ?_ ?_ (by omega) (by omega) (by omega) (wrap_rest _ _ _ _ _ r1 (by omega)) ?_ ?_ (by omega) (by omega) (by omega) (by omega) (by omega) (by omega) (by omega) a1 b1 a5 a6 a7 a8 R (wrap_rest _ _ _ _ _ r2 (by omega)) b5 b6 b7 b8).mono ?_
  ·rw [hwrap, ← hY, Nat.mod_eq_of_lt f2]
  ·exact maskN Y f2
  ·rw [hwrap, Nat.mod_eq_of_lt f5]
   have h1 : ((lo : Int) / 2 ^ (64 - s)) = ((lo / 2 ^ (64 - s) : Nat) : Int) := by rw [Int.natCast_ediv, Int.natCast_pow]; rfl
   rw [h1, bits_or_u64_nat _ _ f5 (by have := Nat.div_le_self lo (2 ^ (64 - s)); omega), f3]
  ·rw [hwrap, hl']
  ·exact maskN l hl64
  ·rw [aq]; exact (Int.natCast_ediv u (Y / 4294967296)).symm
  ·rw [← Int.natCast_mul, ← ap]; exact wrapL _ (by omega)
  ·rw [bq]; exact (Int.natCast_ediv u2 (Y / 4294967296)).symm
  ·rw [← Int.natCast_mul, ← bp]; exact wrapL _ (by omega)
  ·rintro e w' ⟨rfl, hx⟩
   refine ⟨?_, hx⟩
   rw [← hb.1, ← hb.2, Int.natCast_ediv, Int.natCast_pow, Int.natCast_add, Int.natCast_mul]
   rfl
#print axioms div64
end Go.Proofs.YtogblocakccbgaaGreat
