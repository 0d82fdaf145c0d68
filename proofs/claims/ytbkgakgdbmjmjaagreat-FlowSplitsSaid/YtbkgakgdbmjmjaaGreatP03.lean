/- span: numbers of two words. -/
import Derived.Test.YtbkgakgdbmjmjaaGreatP02
import Derived.Shelf.Spec.BitsCarry
import Derived.Handy
set_option linter.unusedSimpArgs false
set_option linter.unusedVariables false
set_option maxRecDepth 100000
set_option maxHeartbeats 2000000
namespace Go.Proofs.YtbkgakgdbmjmjaaGreat
open Go.RowKit
theorem times_any (a b : Int) (w : World) (ha : I64 a) (hb : I64 b) :
    Calls Tryz.prog 163 #[.int .i64 a, .int .i64 b] w fun e w' => e = .returned (.agg #[.int .i64 (a * b / 18446744073709551616), .int .u64 (a * b % 18446744073709551616)]) ∧ Ext w w' := by
 have ht := times_hi a b _ _ ha hb rfl rfl
 obtain ⟨a1, a2⟩ := ha
 obtain ⟨b1, b2⟩ := hb
 obtain ⟨x, hx⟩ : ∃ x : Nat, (x : Int) = a % 18446744073709551616 := ⟨(a % 18446744073709551616).toNat, by omega⟩
 obtain ⟨y, hy⟩ : ∃ x : Nat, (x : Int) = b % 18446744073709551616 := ⟨(b % 18446744073709551616).toNat, by omega⟩
 have ex : IntKind.u64.wrap a = (x : Int) := by rw [IntKind.wrap_u64]; omega
 have ey : IntKind.u64.wrap b = (y : Int) := by rw [IntKind.wrap_u64]; omega
 have hx64 : x < 18446744073709551616 := by omega
 have hy64 : y < 18446744073709551616 := by omega
 rw [← hx, ← hy] at ht
 have Ht := Lib.hid ht; clear ht
 have Hx := Lib.hid hx; clear hx
 have Hy := Lib.hid hy; clear hy
 go_enter Tryz.func163, Tryz.ntmps163
 go_wp2_with (go_at_call 171; refine (Tryz.bits_Mul64 x y hx64 hy64 _).mono ?_; rintro e w' ⟨rfl, hw⟩; rw [hw]; clear hw)
 all_goals
  refine bodyPost_ret (v := .agg #[.int .i64 (a * b / 18446744073709551616), .int .u64 (a * b % 18446744073709551616)]) ?_ rfl ⟨rfl, (Ext.refl _).alloc _⟩
  simp [results, Tryz.results163, go_sem]
  obtain ⟨t0, t1, t2, t3, t4⟩ := Ht.out
  refine ⟨?_, t0⟩
  first | exact t1 c_60 c_60 | exact t2 c_60 c_60 | exact t3 c_60 c_60 | exact t4 c_60 c_60
theorem sub64_run (y : Int) (h1 : 0 ≤ y) (h2 : y < 18446744073709551616) (w : World) :
    (callFunc 221 #[.int .u64 0, .int .u64 y, .int .u64 0]).run Tryz.prog w = .ok (.value (.tuple #[.int .u64 ((-y) % 18446744073709551616), .int .u64 (if y = 0 then 0 else 1)])) w := by
 obtain ⟨n, rfl⟩ := Int.eq_ofNat_of_zero_le h1
 have h := run_sub64 (P := Tryz.prog) 0 n 0 (by omega) w
 rw [run_callFunc_extern Tryz.func221 c_16 c_16 c_16 (e := sub64Entry) c_16]
 have e0 : (.int .u64 0 : Value) = .int .u64 ((0 : Nat) : Int) := rfl
 have e1 : (((0 + 18446744073709551616 - n - 0) % 18446744073709551616 : Nat) : Int) = (-(n : Int)) % 18446744073709551616 := by omega
 have e2 : ((if 0 < n + 0 then 1 else 0 : Nat) : Int) = if (n : Int) = 0 then 0 else 1 := by split <;> split <;> first | rfl | omega
 rw [e1, e2] at h
 rw [e0, h]
 rfl
theorem div64q (hi lo y q r : Int) (w : World) (hh : 0 ≤ hi ∧ hi < y) (hl : 0 ≤ lo ∧ lo < 18446744073709551616) (hy : y < 18446744073709551616) (hq : q = (hi * 18446744073709551616 + lo) / y) (hr : r = (hi * 18446744073709551616 + lo) % y) :
    Calls Tryz.prog 172 #[.int .u64 hi, .int .u64 lo, .int .u64 y] w fun e w' => e = .returned (.tuple #[.int .u64 q, .int .u64 r]) ∧ Ext w w' := by
 obtain ⟨h, rfl⟩ := Int.eq_ofNat_of_zero_le hh.1
 obtain ⟨l, rfl⟩ := Int.eq_ofNat_of_zero_le hl.1
 obtain ⟨d, rfl⟩ := Int.eq_ofNat_of_zero_le (show 0 ≤ y by omega)
 refine (div64 h l d w (by omega) (by omega) (by omega)).mono ?_
 rintro e w' ⟨rfl, hx⟩
 refine ⟨?_, hx⟩
 rw [hq, hr, Int.natCast_ediv, Int.natCast_emod, Int.natCast_add, Int.natCast_mul]
 rfl
theorem neg_any (T : Int) (w : World) (h1 : -85070591730234615865843651857942052864 ≤ T) (h2 : T ≤ 85070591730234615865843651857942052864) :
    Calls Tryz.prog 164 #[.agg #[.int .i64 (T / 18446744073709551616), .int .u64 (T % 18446744073709551616)]] w fun e w' => e = .returned (.agg #[.int .i64 ((-T) / 18446744073709551616), .int .u64 ((-T) % 18446744073709551616)]) ∧ Ext w w' := by
 obtain ⟨h, eh⟩ : ∃ h, h = T / 18446744073709551616 := ⟨_, rfl⟩
 obtain ⟨l, el⟩ : ∃ h, h = T % 18446744073709551616 := ⟨_, rfl⟩
 obtain ⟨b, eb⟩ : ∃ b : Int, b = if l = 0 then 0 else 1 := ⟨_, rfl⟩
 have hb : b = 0 ∨ b = 1 := by rw [eb]; split <;> simp
 have hs := fun w => sub64_run l (by omega) (by omega) w
 rw [← eb] at hs
 rw [← eh, ← el]
 have b1 : 0 ≤ b := by omega
 have b2 : b ≤ 1 := by omega
 have g1 : -4611686018427387904 ≤ h := by omega
 have g2 : h ≤ 4611686018427387904 := by omega
 have hf : -h - b = (-T) / 18446744073709551616 ∧ (-l) % 18446744073709551616 = (-T) % 18446744073709551616 := by
  rw [eb]; split <;> omega
 have HF := Lib.hid hf; clear hf eh el eb hb h1 h2
 go_enter Tryz.func164, Tryz.ntmps164
 go_wp2_with fail
 refine bodyPost_ret (v := .agg #[.int .i64 ((-T) / 18446744073709551616), .int .u64 ((-T) % 18446744073709551616)]) ?_ rfl ⟨rfl, ((Ext.refl _).alloc _).alloc _⟩
 simp [results, Tryz.results164, go_sem]
 exact HF.out
theorem up_nonneg (T d : Int) (w : World) (h0 : 0 ≤ T) (h2 : T ≤ 85070591730234615865843651857942052864) (d0 : 0 < d) (d1 : d < 18446744073709551616) :
    Calls Tryz.prog 168 #[.agg #[.int .i64 (T / 18446744073709551616), .int .u64 (T % 18446744073709551616)], .int .u64 d] w fun e w' => e = .returned (.int .i64 (upT T d)) ∧ Ext w w' := by
 obtain ⟨h, eh⟩ : ∃ h : Int, h = T / 18446744073709551616 := ⟨_, rfl⟩
 obtain ⟨l, el⟩ : ∃ h : Int, h = T % 18446744073709551616 := ⟨_, rfl⟩
 have hl1 : 0 ≤ l := by omega
 have hl2 : l < 18446744073709551616 := by omega
 have hh1 : 0 ≤ h := by omega
 have hh2 : h < 9223372036854775808 := by omega
 have eT : T = h * 18446744073709551616 + l := by omega
 have Et : Hid (T = h * 18446744073709551616 + l ∧ 0 ≤ T) := Lib.hid ⟨eT, h0⟩
 rw [← eh, ← el]
 clear eh el h2 h0
 have e1 : IntKind.u64.wrap h = h := by rw [IntKind.wrap_u64]; omega
 by_cases hd : d ≤ h
 ·clear eT
  go_enter Tryz.func168, Tryz.ntmps168
  go_wp2_with fail
  go_ret
  refine ⟨?_, (Ext.refl _).alloc _⟩
  rw [upT_eq T d Et.out.2 d0]
  have := big_quot Et.out.1 hl1 hd d0
  exact congrArg (fun n => Ending.returned (.int .i64 n)) (by split <;> omega)
 ·obtain ⟨q1, q2, r1, r2⟩ := small_quot eT hh1 hl1 hl2 (show h < d by omega)
  obtain ⟨q, hq⟩ : ∃ q, q = T / d := ⟨_, rfl⟩
  obtain ⟨r, hr⟩ : ∃ q, q = T % d := ⟨_, rfl⟩
  rw [← hq] at q1 q2
  rw [← hr] at r1 r2
  have hc := div64q h l d q r (w.alloc (.cells #[.int .i64 h, .int .u64 l] 230)) (by omega) (by omega) d1 (by rw [hq, eT]) (by rw [hr, eT])
  have Hc := Lib.hid hc; clear hc
  have Hq := Lib.hid hq; clear hq
  have Hr := Lib.hid hr; clear hr
  clear eT
  go_enter Tryz.func168, Tryz.ntmps168
  go_wp2_with (go_at_call 172; refine Hc.out.mono ?_; rintro e w1 ⟨rfl, hb⟩)
  all_goals
   go_ret
   refine ⟨?_, ((Ext.refl _).alloc _).trans hb⟩
   rw [upT_eq T d Et.out.2 d0, ← Hq.out, ← Hr.out]
   exact congrArg (fun n => Ending.returned (.int .i64 n)) (by split <;> first | rfl | omega)
theorem down_nonneg (T d : Int) (w : World) (h0 : 0 ≤ T) (h2 : T ≤ 85070591730234615865843651857942052864) (d0 : 0 < d) (d1 : d < 18446744073709551616) :
    Calls Tryz.prog 166 #[.agg #[.int .i64 (T / 18446744073709551616), .int .u64 (T % 18446744073709551616)], .int .u64 d] w fun e w' => e = .returned (.int .i64 (dnT T d)) ∧ Ext w w' := by
 obtain ⟨h, eh⟩ : ∃ h : Int, h = T / 18446744073709551616 := ⟨_, rfl⟩
 obtain ⟨l, el⟩ : ∃ h : Int, h = T % 18446744073709551616 := ⟨_, rfl⟩
 have hl1 : 0 ≤ l := by omega
 have hl2 : l < 18446744073709551616 := by omega
 have hh1 : 0 ≤ h := by omega
 have hh2 : h < 9223372036854775808 := by omega
 have eT : T = h * 18446744073709551616 + l := by omega
 have Et : Hid (T = h * 18446744073709551616 + l ∧ 0 ≤ T) := Lib.hid ⟨eT, h0⟩
 rw [← eh, ← el]
 clear eh el h2 h0
 have e1 : IntKind.u64.wrap h = h := by rw [IntKind.wrap_u64]; omega
 by_cases hd : d ≤ h
 ·clear eT
  go_enter Tryz.func166, Tryz.ntmps166
  go_wp2_with fail
  go_ret
  refine ⟨?_, (Ext.refl _).alloc _⟩
  rw [dnT_eq T d Et.out.2 d0]
  have := big_quot Et.out.1 hl1 hd d0
  exact congrArg (fun n => Ending.returned (.int .i64 n)) (by omega)
 ·obtain ⟨q1, q2, r1, r2⟩ := small_quot eT hh1 hl1 hl2 (show h < d by omega)
  obtain ⟨q, hq⟩ : ∃ q, q = T / d := ⟨_, rfl⟩
  obtain ⟨r, hr⟩ : ∃ q, q = T % d := ⟨_, rfl⟩
  rw [← hq] at q1 q2
  rw [← hr] at r1 r2
  have hc := div64q h l d q r (w.alloc (.cells #[.int .i64 h, .int .u64 l] 230)) (by omega) (by omega) d1 (by rw [hq, eT]) (by rw [hr, eT])
  have Hc := Lib.hid hc; clear hc
  have Hq := Lib.hid hq; clear hq
  have Hr := Lib.hid hr; clear hr
  clear eT
  go_enter Tryz.func166, Tryz.ntmps166
  go_wp2_with (go_at_call 172; refine Hc.out.mono ?_; rintro e w1 ⟨rfl, hb⟩)
  all_goals
   go_ret
   refine ⟨?_, ((Ext.refl _).alloc _).trans hb⟩
   rw [dnT_eq T d Et.out.2 d0, ← Hq.out]
   exact congrArg (fun n => Ending.returned (.int .i64 n)) (by first | rfl | omega)
theorem up_neg (T d : Int) (w : World) (h0 : T < 0) (h2 : -85070591730234615865843651857942052864 ≤ T) (d0 : 0 < d) (d1 : d < 18446744073709551616) :
    Calls Tryz.prog 168 #[.agg #[.int .i64 (T / 18446744073709551616), .int .u64 (T % 18446744073709551616)], .int .u64 d] w fun e w' => e = .returned (.int .i64 (upT T d)) ∧ Ext w w' := by
 have hh : T / 18446744073709551616 < 0 := by omega
 have hr := dnT_range (-T) d
 have hr1 := hr.1
 have hr2 := hr.2
 have hn := fun w => neg_any T w (by omega) (by omega)
 have ho := fun w => down_nonneg (-T) d w (by omega) (by omega) d0 d1
 have Hn := Lib.hid hn; clear hn
 have Ho := Lib.hid ho; clear ho hr h0 h2
 go_enter Tryz.func168, Tryz.ntmps168
 go_wp2_with (first | (go_at_call 164; refine (Hn.out _).mono ?_; rintro e w1 ⟨rfl, hb⟩) | (go_at_call 166; refine (Ho.out _).mono ?_; rintro e w2 ⟨rfl, hb2⟩))
 go_ret
 refine ⟨?_, (((Ext.refl _).alloc _).trans hb).trans hb2⟩
 exact congrArg (fun n => Ending.returned (.int .i64 n)) (by have := dnT_neg T d; omega)
theorem up_any (T d : Int) (w : World) (h1 : -85070591730234615865843651857942052864 ≤ T) (h2 : T ≤ 85070591730234615865843651857942052864) (d0 : 0 < d) (d1 : d < 18446744073709551616) :
    Calls Tryz.prog 168 #[.agg #[.int .i64 (T / 18446744073709551616), .int .u64 (T % 18446744073709551616)], .int .u64 d] w fun e w' => e = .returned (.int .i64 (upT T d)) ∧ Ext w w' := by
 by_cases h : T < 0
 ·exact up_neg T d w h h1 d0 d1
 ·exact up_nonneg T d w (by omega) h2 d0 d1
theorem down_neg (T d : Int) (w : World) (h0 : T < 0) (h2 : -85070591730234615865843651857942052864 ≤ T) (d0 : 0 < d) (d1 : d < 18446744073709551616) :
    Calls Tryz.prog 166 #[.agg #[.int .i64 (T / 18446744073709551616), .int .u64 (T % 18446744073709551616)], .int .u64 d] w fun e w' => e = .returned (.int .i64 (dnT T d)) ∧ Ext w w' := by
 have hh : T / 18446744073709551616 < 0 := by omega
 have hr := upT_range (-T) d
 have hr1 := hr.1
 have hr2 := hr.2
 have hn := fun w => neg_any T w (by omega) (by omega)
 have ho := fun w => up_nonneg (-T) d w (by omega) (by omega) d0 d1
 have Hn := Lib.hid hn; clear hn
 have Ho := Lib.hid ho; clear ho hr h0 h2
 go_enter Tryz.func166, Tryz.ntmps166
 go_wp2_with (first | (go_at_call 164; refine (Hn.out _).mono ?_; rintro e w1 ⟨rfl, hb⟩) | (go_at_call 168; refine (Ho.out _).mono ?_; rintro e w2 ⟨rfl, hb2⟩))
 go_ret
 refine ⟨?_, (((Ext.refl _).alloc _).trans hb).trans hb2⟩
 exact congrArg (fun n => Ending.returned (.int .i64 n)) (by have := upT_neg T d; omega)
theorem down_any (T d : Int) (w : World) (h1 : -85070591730234615865843651857942052864 ≤ T) (h2 : T ≤ 85070591730234615865843651857942052864) (d0 : 0 < d) (d1 : d < 18446744073709551616) :
    Calls Tryz.prog 166 #[.agg #[.int .i64 (T / 18446744073709551616), .int .u64 (T % 18446744073709551616)], .int .u64 d] w fun e w' => e = .returned (.int .i64 (dnT T d)) ∧ Ext w w' := by
 by_cases h : T < 0
 ·exact down_neg T d w h h1 d0 d1
 ·exact down_nonneg T d w (by omega) h2 d0 d1
def cmpT (T U : Int) : Int := if T = U then 0 else if T < U then -1 else 1
theorem cmp_any (T U : Int) (w : World) :
    Calls Tryz.prog 222 #[.agg #[.int .i64 (T / 18446744073709551616), .int .u64 (T % 18446744073709551616)], .agg #[.int .i64 (U / 18446744073709551616), .int .u64 (U % 18446744073709551616)]] w fun e w' => e = .returned (.int .i64 (cmpT T U)) ∧ Ext w w' := by
 obtain ⟨h, eh⟩ : ∃ h : Int, h = T / 18446744073709551616 := ⟨_, rfl⟩
 obtain ⟨l, el⟩ : ∃ h : Int, h = T % 18446744073709551616 := ⟨_, rfl⟩
 obtain ⟨h', eh'⟩ : ∃ h : Int, h = U / 18446744073709551616 := ⟨_, rfl⟩
 obtain ⟨l', el'⟩ : ∃ h : Int, h = U % 18446744073709551616 := ⟨_, rfl⟩
 have hc : (h = h' ∧ l = l' ↔ T = U) ∧ (h < h' ∨ h = h' ∧ l < l' ↔ T < U) := by omega
 rw [← eh, ← el, ← eh', ← el']
 have Hc := Lib.hid hc
 clear hc eh el eh' el'
 go_enter Tryz.func222, Tryz.ntmps222
 go_wp2_with fail
 all_goals
  go_ret
  refine ⟨?_, ((Ext.refl _).alloc _).alloc _⟩
  obtain ⟨c1, c2⟩ := Hc.out
  exact congrArg (fun n => Ending.returned (.int .i64 n)) (by unfold cmpT; split <;> (try split) <;> omega)
theorem cmp_neg (T U : Int) : cmpT T U < 0 ↔ T < U := by unfold cmpT; split <;> (try split) <;> omega
theorem cmp_nn (T U : Int) : 0 ≤ cmpT T U ↔ U ≤ T := by unfold cmpT; split <;> (try split) <;> omega
theorem cmp_pos (T U : Int) : 0 < cmpT T U ↔ U < T := by unfold cmpT; split <;> (try split) <;> omega
theorem cmp_np (T U : Int) : cmpT T U ≤ 0 ↔ T ≤ U := by unfold cmpT; split <;> (try split) <;> omega
def min2 (a b : Int) : Int := min a b
def max2 (a b : Int) : Int := max a b
theorem least_3 (T U V X : Int) (b c : Nat) (w : World) 
    (c2 : w.cell? ⟨b, 2, none⟩ = some (.int .i64 (U / 18446744073709551616))) (c3 : w.cell? ⟨b, 3, none⟩ = some (.int .u64 (U % 18446744073709551616)))
    (c4 : w.cell? ⟨b, 4, none⟩ = some (.int .i64 (V / 18446744073709551616))) (c5 : w.cell? ⟨b, 5, none⟩ = some (.int .u64 (V % 18446744073709551616)))
    (c6 : w.cell? ⟨b, 6, none⟩ = some (.int .i64 (X / 18446744073709551616))) (c7 : w.cell? ⟨b, 7, none⟩ = some (.int .u64 (X % 18446744073709551616))) :
    Calls Tryz.prog 165 #[.agg #[.int .i64 (T / 18446744073709551616), .int .u64 (T % 18446744073709551616)], .slice (some ⟨b, 2, none⟩) 3 c] w fun e w' => e = .returned (.agg #[.int .i64 (min4 T U V X / 18446744073709551616), .int .u64 (min4 T U V X % 18446744073709551616)]) ∧ Ext w w' := by
 have hb0 : b < w.heap.size := World.block_lt_of_cell? w _ c2
 go_enter Tryz.func165, Tryz.ntmps165
 go_wp2_with fail
 refine wp_loop_rounds 4 ?_
 repeat
  any_goals
   rw [rounds_succ]
   go_wp2_with (go_at_call 222; (with_reducible refine (cmp_any _ _ _).mono ?_); rintro e w1 ⟨rfl, hb⟩; obtain ⟨_, _, ⟨hc, hf⟩, hz⟩ := hb.c3; (try simp only [wsz] at hz hc hf))
 all_goals
  refine bodyPost_ret (v := .agg #[.int .i64 (min4 T U V X / 18446744073709551616), .int .u64 (min4 T U V X % 18446744073709551616)]) ?_ rfl ⟨rfl, ?_⟩
  ·simp [results, Tryz.results165, go_sem, ↓IntWalk.iteOmega, *]
   simp only [cmp_neg, cmp_nn] at *
   refine ⟨congrArg (· / 18446744073709551616) ?_, congrArg (· % 18446744073709551616) ?_⟩ <;> (unfold min4; omega)
  ·exact b_2
theorem greatest_3 (T U V X : Int) (b c : Nat) (w : World) 
    (c2 : w.cell? ⟨b, 2, none⟩ = some (.int .i64 (U / 18446744073709551616))) (c3 : w.cell? ⟨b, 3, none⟩ = some (.int .u64 (U % 18446744073709551616)))
    (c4 : w.cell? ⟨b, 4, none⟩ = some (.int .i64 (V / 18446744073709551616))) (c5 : w.cell? ⟨b, 5, none⟩ = some (.int .u64 (V % 18446744073709551616)))
    (c6 : w.cell? ⟨b, 6, none⟩ = some (.int .i64 (X / 18446744073709551616))) (c7 : w.cell? ⟨b, 7, none⟩ = some (.int .u64 (X % 18446744073709551616))) :
    Calls Tryz.prog 167 #[.agg #[.int .i64 (T / 18446744073709551616), .int .u64 (T % 18446744073709551616)], .slice (some ⟨b, 2, none⟩) 3 c] w fun e w' => e = .returned (.agg #[.int .i64 (max4 T U V X / 18446744073709551616), .int .u64 (max4 T U V X % 18446744073709551616)]) ∧ Ext w w' := by
 have hb0 : b < w.heap.size := World.block_lt_of_cell? w _ c2
 go_enter Tryz.func167, Tryz.ntmps167
 go_wp2_with fail
 refine wp_loop_rounds 4 ?_
 repeat
  any_goals
   rw [rounds_succ]
   go_wp2_with (go_at_call 222; (with_reducible refine (cmp_any _ _ _).mono ?_); rintro e w1 ⟨rfl, hb⟩; obtain ⟨_, _, ⟨hc, hf⟩, hz⟩ := hb.c3; (try simp only [wsz] at hz hc hf))
 all_goals
  refine bodyPost_ret (v := .agg #[.int .i64 (max4 T U V X / 18446744073709551616), .int .u64 (max4 T U V X % 18446744073709551616)]) ?_ rfl ⟨rfl, ?_⟩
  ·simp [results, Tryz.results167, go_sem, ↓IntWalk.iteOmega, *]
   simp only [cmp_pos, cmp_np] at *
   refine ⟨congrArg (· / 18446744073709551616) ?_, congrArg (· % 18446744073709551616) ?_⟩ <;> (unfold max4; omega)
  ·exact b_2
theorem least_1 (T U : Int) (b c : Nat) (w : World) 
    (c0 : w.cell? ⟨b, 0, none⟩ = some (.int .i64 (U / 18446744073709551616))) (c1 : w.cell? ⟨b, 1, none⟩ = some (.int .u64 (U % 18446744073709551616))) :
    Calls Tryz.prog 165 #[.agg #[.int .i64 (T / 18446744073709551616), .int .u64 (T % 18446744073709551616)], .slice (some ⟨b, 0, none⟩) 1 c] w fun e w' => e = .returned (.agg #[.int .i64 (min2 T U / 18446744073709551616), .int .u64 (min2 T U % 18446744073709551616)]) ∧ Ext w w' := by
 have hb0 : b < w.heap.size := World.block_lt_of_cell? w _ c0
 go_enter Tryz.func165, Tryz.ntmps165
 go_wp2_with fail
 refine wp_loop_rounds 2 ?_
 repeat
  any_goals
   rw [rounds_succ]
   go_wp2_with (go_at_call 222; (with_reducible refine (cmp_any _ _ _).mono ?_); rintro e w1 ⟨rfl, hb⟩; obtain ⟨_, _, ⟨hc, hf⟩, hz⟩ := hb.c3; (try simp only [World.size_alloc] at hz hc hf))
 all_goals
  refine bodyPost_ret (v := .agg #[.int .i64 (min2 T U / 18446744073709551616), .int .u64 (min2 T U % 18446744073709551616)]) ?_ rfl ⟨rfl, ?_⟩
  ·simp [results, Tryz.results165, go_sem, *]
   simp only [cmp_neg, cmp_nn] at *
   refine ⟨congrArg (· / 18446744073709551616) ?_, congrArg (· % 18446744073709551616) ?_⟩ <;> (unfold min2; omega)
  ·exact b_2
theorem greatest_1 (T U : Int) (b c : Nat) (w : World) 
    (c0 : w.cell? ⟨b, 0, none⟩ = some (.int .i64 (U / 18446744073709551616))) (c1 : w.cell? ⟨b, 1, none⟩ = some (.int .u64 (U % 18446744073709551616))) :
    Calls Tryz.prog 167 #[.agg #[.int .i64 (T / 18446744073709551616), .int .u64 (T % 18446744073709551616)], .slice (some ⟨b, 0, none⟩) 1 c] w fun e w' => e = .returned (.agg #[.int .i64 (max2 T U / 18446744073709551616), .int .u64 (max2 T U % 18446744073709551616)]) ∧ Ext w w' := by
 have hb0 : b < w.heap.size := World.block_lt_of_cell? w _ c0
 go_enter Tryz.func167, Tryz.ntmps167
 go_wp2_with fail
 refine wp_loop_rounds 2 ?_
 repeat
  any_goals
   rw [rounds_succ]
   go_wp2_with (go_at_call 222; (with_reducible refine (cmp_any _ _ _).mono ?_); rintro e w1 ⟨rfl, hb⟩; obtain ⟨_, _, ⟨hc, hf⟩, hz⟩ := hb.c3; (try simp only [World.size_alloc] at hz hc hf))
 all_goals
  refine bodyPost_ret (v := .agg #[.int .i64 (max2 T U / 18446744073709551616), .int .u64 (max2 T U % 18446744073709551616)]) ?_ rfl ⟨rfl, ?_⟩
  ·simp [results, Tryz.results167, go_sem, *]
   simp only [cmp_pos, cmp_np] at *
   refine ⟨congrArg (· / 18446744073709551616) ?_, congrArg (· % 18446744073709551616) ?_⟩ <;> (unfold max2; omega)
  ·exact b_2
theorem check_2 (a b c d : Int) (n : Nat) (w : World) (hn : n = w.heap.size) :
    Calls Tryz.prog 66 #[.slice (some ⟨n, 0, none⟩) 2 2] (w.alloc (.cells #[.int .i64 a, .int .i64 b, .int .i64 c, .int .i64 d] 26)) fun e w' => e = .returned (.int .i64 (ck2 a b c d)) ∧ Ext (w.alloc (.cells #[.int .i64 a, .int .i64 b, .int .i64 c, .int .i64 d] 26)) w' := by
 subst hn
 go_enter Tryz.func66, Tryz.ntmps66
 go_wp2
 refine wp_loop_rounds 3 ?_
 repeat
  any_goals
   rw [rounds_succ]
   go_wp2
 all_goals
  go_ret
  refine ⟨?_, ?_⟩
  ·first | (simp [ck2, ckI, *]; done) | (simp [ck2, ckI, *]; omega)
  ·exact b_3
theorem check_1 (a b : Int) (n : Nat) (w : World) (hn : n = w.heap.size) :
    Calls Tryz.prog 66 #[.slice (some ⟨n, 0, none⟩) 1 1] (w.alloc (.cells #[.int .i64 a, .int .i64 b] 26)) fun e w' => e = .returned (.int .i64 (ckI a b)) ∧ Ext (w.alloc (.cells #[.int .i64 a, .int .i64 b] 26)) w' := by
 subst hn
 go_enter Tryz.func66, Tryz.ntmps66
 go_wp2
 refine wp_loop_rounds 2 ?_
 repeat
  any_goals
   rw [rounds_succ]
   go_wp2
 all_goals
  go_ret
  refine ⟨?_, ?_⟩
  ·first | (simp [ckI, *]; done) | (simp [ckI, *]; omega)
  ·exact b_3
theorem span_made (lo hi : Int) (w : World) :
    Calls Tryz.prog 112 #[.int .i64 lo, .int .i64 hi] w fun e w' => e = .returned (.tuple #[.agg #[.int .i64 (madeI lo hi).lo, .int .i64 (madeI lo hi).hi], .int .i64 (madeI lo hi).e]) ∧ Ext w w' := by
 go_enter Tryz.func112, Tryz.ntmps112
 go_wp2
 all_goals
  refine bodyPost_ret (v := .tuple #[.agg #[.int .i64 (madeI lo hi).lo, .int .i64 (madeI lo hi).hi], .int .i64 (madeI lo hi).e]) ?_ rfl ⟨rfl, ?_⟩
  ·(try simp only [] at *)
   simp [results, Tryz.results112, go_sem, ↓IntWalk.iteOmega, madeI, *]
  ·exact b_3
theorem span_add (a b c d : Int) (w : World) :
    Calls Tryz.prog 95 #[.agg #[.int .i64 a, .int .i64 b], .agg #[.int .i64 c, .int .i64 d]] w fun e w' => e = .returned (.tuple #[.agg #[.int .i64 (addI a b c d).lo, .int .i64 (addI a b c d).hi], .int .i64 (addI a b c d).e]) ∧ Ext w w' := by
 go_enter Tryz.func95, Tryz.ntmps95
 go_wp2_with (first | (go_at_call 66; (with_reducible refine (check_2 _ _ _ _ _ _ c_53).mono ?_); rintro e w1 ⟨rfl, hb⟩; obtain ⟨_, _, ⟨hc, hf⟩, hz⟩ := hb.c3; (try simp only [World.size_alloc] at hz hc hf)) | (go_at_call 112; (with_reducible refine (span_made _ _ _).mono ?_); rintro e w1 ⟨rfl, hb⟩; obtain ⟨_, _, ⟨hc, hf⟩, hz⟩ := hb.c3; (try simp only [wsz] at hz hc hf)))
 all_goals
  refine bodyPost_ret (v := .tuple #[.agg #[.int .i64 (addI a b c d).lo, .int .i64 (addI a b c d).hi], .int .i64 (addI a b c d).e]) ?_ rfl ⟨rfl, ?_⟩
  ·(try simp only [bn_] at *)
   simp [results, Tryz.results95, go_sem, ↓IntWalk.iteOmega, addI, *]
  ·exact b_4
theorem span_sub (a b c d : Int) (w : World) :
    Calls Tryz.prog 62 #[.agg #[.int .i64 a, .int .i64 b], .agg #[.int .i64 c, .int .i64 d]] w fun e w' => e = .returned (.tuple #[.agg #[.int .i64 (subI a b c d).lo, .int .i64 (subI a b c d).hi], .int .i64 (subI a b c d).e]) ∧ Ext w w' := by
 go_enter Tryz.func62, Tryz.ntmps62
 go_wp2_with (first | (go_at_call 66; (with_reducible refine (check_2 _ _ _ _ _ _ c_53).mono ?_); rintro e w1 ⟨rfl, hb⟩; obtain ⟨_, _, ⟨hc, hf⟩, hz⟩ := hb.c3; (try simp only [World.size_alloc] at hz hc hf)) | (go_at_call 112; (with_reducible refine (span_made _ _ _).mono ?_); rintro e w1 ⟨rfl, hb⟩; obtain ⟨_, _, ⟨hc, hf⟩, hz⟩ := hb.c3; (try simp only [wsz] at hz hc hf)))
 all_goals
  refine bodyPost_ret (v := .tuple #[.agg #[.int .i64 (subI a b c d).lo, .int .i64 (subI a b c d).hi], .int .i64 (subI a b c d).e]) ?_ rfl ⟨rfl, ?_⟩
  ·(try simp only [bn_] at *)
   simp [results, Tryz.results62, go_sem, ↓IntWalk.iteOmega, subI, *]
  ·exact b_4
def absv (x : Int) : Int := if x < 0 then -x else x
def ovS (T d : Int) (up : Bool) : Int := if up then upT T d else dnT T d
theorem held3d {w W w' : World} {RB lo hi : Nat} {ob : Obj}
    (h : (∀ b o, b < W.heap.size → w'.drew.cell? ⟨b, o, none⟩ = if b = RB ∧ lo ≤ o ∧ o < hi then (W.cell? ⟨b, o, none⟩).map (obx w'.drew b o) else W.cell? ⟨b, o, none⟩) ∧ (∀ b o, b < W.heap.size → w'.drew.frozen? ⟨b, o, none⟩ = W.frozen? ⟨b, o, none⟩) ∧ W.heap.size ≤ w'.drew.heap.size ∧ Ext w w'.drew) :
    (∀ b o, b < W.heap.size → (w'.alloc ob).drew.cell? ⟨b, o, none⟩ = if b = RB ∧ lo ≤ o ∧ o < hi then (W.cell? ⟨b, o, none⟩).map (obx (w'.alloc ob).drew b o) else W.cell? ⟨b, o, none⟩) ∧ (∀ b o, b < W.heap.size → (w'.alloc ob).drew.frozen? ⟨b, o, none⟩ = W.frozen? ⟨b, o, none⟩) ∧ W.heap.size ≤ (w'.alloc ob).drew.heap.size ∧ Ext w (w'.alloc ob).drew :=
  held3 (w' := w'.drew) h
theorem min4_bound {a b c d : Int} (pa : I64 a) (pb : I64 b) (pc : I64 c) (pd : I64 d) : -85070591730234615865843651857942052864 ≤ min4 (a * c) (a * d) (b * c) (b * d) ∧ min4 (a * c) (a * d) (b * c) (b * d) ≤ 85070591730234615865843651857942052864 := by
 have h1 := abs_mul_bound pa pc
 have h2 := abs_mul_bound pa pd
 have h3 := abs_mul_bound pb pc
 have h4 := abs_mul_bound pb pd
 unfold min4; omega
theorem max4_bound {a b c d : Int} (pa : I64 a) (pb : I64 b) (pc : I64 c) (pd : I64 d) : -85070591730234615865843651857942052864 ≤ max4 (a * c) (a * d) (b * c) (b * d) ∧ max4 (a * c) (a * d) (b * c) (b * d) ≤ 85070591730234615865843651857942052864 := by
 have h1 := abs_mul_bound pa pc
 have h2 := abs_mul_bound pa pd
 have h3 := abs_mul_bound pb pc
 have h4 := abs_mul_bound pb pd
 unfold max4; omega
theorem absI_I64 {a b : Int} (ha : I64 a) (hb : I64 b) : I64 (absI a b).lo ∧ I64 (absI a b).hi := by
 have h1 := w64_mod (-a)
 have h2 := w64_mod (-b)
 unfold I64 absI at *
 split
 ·simp
 ·split
  ·exact ⟨ha, hb⟩
  ·split
   ·exact ⟨h2.2, h1.2⟩
   ·simp only []; omega
theorem span_abs (a b : Int) (w : World) :
    Calls Tryz.prog 169 #[.agg #[.int .i64 a, .int .i64 b]] w fun e w' => e = .returned (.tuple #[.agg #[.int .i64 (absI a b).lo, .int .i64 (absI a b).hi], .int .i64 (absI a b).e]) ∧ Ext w w' := by
 go_enter Tryz.func169, Tryz.ntmps169
 go_wp2_with (first | (go_at_call 66; (with_reducible refine (check_1 _ _ _ _ c_53).mono ?_); rintro e w1 ⟨rfl, hb⟩; obtain ⟨_, _, ⟨hc, hf⟩, hz⟩ := hb.c3; (try simp only [World.size_alloc] at hz hc hf)))
 all_goals
  refine bodyPost_ret (v := .tuple #[.agg #[.int .i64 (absI a b).lo, .int .i64 (absI a b).hi], .int .i64 (absI a b).e]) ?_ rfl ⟨rfl, ?_⟩
  ·(try simp only [bn_] at *)
   simp [results, Tryz.results169, go_sem, ↓IntWalk.iteOmega, absI, *]
   (try (split <;> simp_all <;> omega))
  ·exact b_4
theorem span_sq (a b : Int) (w : World) (ha : I64 a) (hb0 : I64 b) :
    Calls Tryz.prog 107 #[.agg #[.int .i64 a, .int .i64 b]] w fun e w' => e = .returned (.tuple #[.agg #[.int .i64 (sqI a b).lo, .int .i64 (sqI a b).hi], .int .i64 (sqI a b).e]) ∧ Ext w w' := by
 obtain ⟨i1, i2⟩ := absI_I64 ha hb0
 go_enter Tryz.func107, Tryz.ntmps107
 go_wp2_with (first | (go_at_call 169; (with_reducible refine (span_abs _ _ _).mono ?_); rintro e w1 ⟨rfl, hb⟩; obtain ⟨_, _, ⟨hc, hf⟩, hz⟩ := hb.c3; (try simp only [World.size_alloc] at hz hc hf); (try have zz := q_7 w.heap.size w1.heap.size); (try have zz := q_7 (w.heap.size + 1) w1.heap.size)))
 any_goals
  refine wp_name fun W hW => ?_
  obtain ⟨hWc, hWf, hWz⟩ := hW.cells
  have hWe : Ext w W := Ext.same hW c_30
  (try simp only [World.size_alloc] at hWz)
  go_region_held3 (fun w' => (∀ b o, b < W.heap.size → w'.cell? ⟨b, o, none⟩ = if b = w.heap.size + 1 ∧ 0 ≤ o ∧ o < 2 then (W.cell? ⟨b, o, none⟩).map (obx w' b o) else W.cell? ⟨b, o, none⟩) ∧ (∀ b o, b < W.heap.size → w'.frozen? ⟨b, o, none⟩ = W.frozen? ⟨b, o, none⟩) ∧ W.heap.size ≤ w'.heap.size ∧ Ext w w') (exact k_1) ((first | (go_at_call 163; (with_reducible refine (times_any _ _ _ c_60 c_60).mono ?_); rintro e w2 ⟨rfl, hb2⟩; have hz2 := hb2.size; (try rw [size_drew] at hz2)) | (go_at_call 166; (with_reducible refine (down_any _ _ _ (abs_mul_bound c_60 c_60).1 (abs_mul_bound c_60 c_60).2 (by omega) (by omega)).mono ?_); rintro e w2 ⟨rfl, hb2⟩; have hz2 := hb2.size; (try rw [size_drew] at hz2)) | (go_at_call 168; (with_reducible refine (up_any _ _ _ (abs_mul_bound c_60 c_60).1 (abs_mul_bound c_60 c_60).2 (by omega) (by omega)).mono ?_); rintro e w2 ⟨rfl, hb2⟩; have hz2 := hb2.size; (try rw [size_drew] at hz2)) | (go_at_call 112; (with_reducible refine (span_made _ _ _).mono ?_); rintro e w2 ⟨rfl, hb2⟩; have hz2 := hb2.size; (try rw [size_drew] at hz2))))
  rename_i hOld
  have hE := hOld.2.2.2
  have hO := And.intro hOld.1 (And.intro hOld.2.1 hOld.2.2.1)
  clear hOld
  replace hO := heldBack hO c_13
  replace hO := heldBack hO c_13
  obtain ⟨hOc, hOf, hOz⟩ := heldEnd hO
  clear hO
 any_goals go_wp2_with fail
 all_goals
  refine bodyPost_ret (v := .tuple #[.agg #[.int .i64 (sqI a b).lo, .int .i64 (sqI a b).hi], .int .i64 (sqI a b).e]) ?_ rfl ⟨rfl, ?_⟩
  ·(try simp only [bn_] at *)
   simp [results, Tryz.results107, go_sem, sqI, *]
  ·exact b_4
theorem span_mul (a b c d : Int) (w : World) (ha : I64 a ∧ I64 b) (hc0 : I64 c ∧ I64 d) :
    Calls Tryz.prog 113 #[.agg #[.int .i64 a, .int .i64 b], .agg #[.int .i64 c, .int .i64 d]] w fun e w' => e = .returned (.tuple #[.agg #[.int .i64 (mulI a b c d).lo, .int .i64 (mulI a b c d).hi], .int .i64 (mulI a b c d).e]) ∧ Ext w w' := by
 obtain ⟨pa, pb⟩ := ha
 obtain ⟨pc, pd⟩ := hc0
 have i0 : ∀ w, (Instr.index 201 (.agg #[.int .i64 a, .int .i64 b]) (.int .i64 0)).run Tryz.prog w = .ok (.int .i64 a) w := fun _ => by kernel_rfl
 have i1 : ∀ w, (Instr.index 201 (.agg #[.int .i64 a, .int .i64 b]) (.int .i64 1)).run Tryz.prog w = .ok (.int .i64 b) w := fun _ => by kernel_rfl
 have l0 : IntKind.i64.wrap 0 = 0 := rfl
 have l1 : IntKind.i64.wrap 1 = 1 := rfl
 have l2 : IntKind.i64.wrap 2 = 2 := rfl
 have l3 : IntKind.i64.wrap 3 = 3 := rfl
 go_enter Tryz.func113, Tryz.ntmps113
 go_wp2_with (first | (go_at_call 66; (with_reducible refine (check_2 _ _ _ _ _ _ c_53).mono ?_); rintro e w1 ⟨rfl, hb⟩; obtain ⟨_, _, ⟨hc, hf⟩, hz⟩ := hb.c3; (try simp only [World.size_alloc] at hz hc hf); (try have zz := q_7 w.heap.size w1.heap.size); (try have zz := q_7 (w.heap.size + 1) w1.heap.size); (try have zz := q_7 (w.heap.size + 1 + 1) w1.heap.size); (try have zz := q_7 (w.heap.size + 1 + 1 + 1) w1.heap.size)))
 ·all_goals
   refine bodyPost_ret (v := .tuple #[.agg #[.int .i64 (mulI a b c d).lo, .int .i64 (mulI a b c d).hi], .int .i64 (mulI a b c d).e]) ?_ rfl ⟨rfl, ?_⟩
   ·(try simp only [bne_iff_ne, ne_eq] at *)
    simp [results, Tryz.results113, go_sem, mulI, *]
   ·exact b_4
 ·refine wp_loop_rounds 3 ?_
  rw [rounds_succ]
  go_wp2_with fail
  refine wp_name fun W hW => ?_
  obtain ⟨hWc, hWf, hWz⟩ := hW.cells
  have hWe : Ext w W := Ext.same hW c_30
  (try simp only [World.size_alloc] at hWz)
  go_region_held3 (fun w' => (∀ b o, b < W.heap.size → w'.cell? ⟨b, o, none⟩ = if b = w1.heap.size ∧ 0 ≤ o ∧ o < 4 then (W.cell? ⟨b, o, none⟩).map (obx w' b o) else W.cell? ⟨b, o, none⟩) ∧ (∀ b o, b < W.heap.size → w'.frozen? ⟨b, o, none⟩ = W.frozen? ⟨b, o, none⟩) ∧ W.heap.size ≤ w'.heap.size ∧ Ext w w') (exact k_1) ((first | (go_at_call 163; (with_reducible refine (times_any _ _ _ c_60 c_60).mono ?_); rintro e w2 ⟨rfl, hb2⟩; have hz2 := hb2.size; (try rw [size_drew] at hz2))))
  rename_i hOld
  have hE := hOld.2.2.2
  have hO := And.intro hOld.1 (And.intro hOld.2.1 hOld.2.2.1)
  clear hOld
  replace hO := heldBack hO c_13
  replace hO := heldBack hO c_13
  replace hO := heldBack hO c_13
  replace hO := heldBack hO c_13
  obtain ⟨hOc, hOf, hOz⟩ := heldEnd hO
  clear hO
  (try have zz := q_7 w.heap.size w2.heap.size)
  (try have zz := q_7 (w.heap.size + 1) w2.heap.size)
  (try have zz := q_7 (w.heap.size + 1 + 1) w2.heap.size)
  (try have zz := q_7 w1.heap.size w2.heap.size)
  go_wp2_with fail
  rw [rounds_succ]
  go_wp2_with fail
  refine wp_name fun W hW => ?_
  obtain ⟨hWc, hWf, hWz⟩ := hW.cells
  have hWe : Ext w W := Ext.same hW c_30
  (try simp only [World.size_setCell] at hWz)
  go_region_held3 (fun w' => (∀ b o, b < W.heap.size → w'.cell? ⟨b, o, none⟩ = if b = w1.heap.size ∧ 4 ≤ o ∧ o < 8 then (W.cell? ⟨b, o, none⟩).map (obx w' b o) else W.cell? ⟨b, o, none⟩) ∧ (∀ b o, b < W.heap.size → w'.frozen? ⟨b, o, none⟩ = W.frozen? ⟨b, o, none⟩) ∧ W.heap.size ≤ w'.heap.size ∧ Ext w w') (exact k_1) ((first | (go_at_call 163; (with_reducible refine (times_any _ _ _ c_60 c_60).mono ?_); rintro e w2 ⟨rfl, hb2⟩; have hz2 := hb2.size; (try rw [size_drew] at hz2))))
  rename_i hOld
  have hE := hOld.2.2.2
  have hO := And.intro hOld.1 (And.intro hOld.2.1 hOld.2.2.1)
  clear hOld
  replace hO := heldBack hO c_13
  replace hO := heldBack hO c_13
  replace hO := heldBack hO c_13
  replace hO := heldBack hO c_13
  obtain ⟨hOc, hOf, hOz⟩ := heldEnd hO
  clear hO
  (try have zz := q_7 w.heap.size w2.heap.size)
  (try have zz := q_7 (w.heap.size + 1) w2.heap.size)
  (try have zz := q_7 (w.heap.size + 1 + 1) w2.heap.size)
  (try have zz := q_7 w1.heap.size w2.heap.size)
  go_wp2_with fail
  rw [rounds_succ]
  go_wp2_with fail
  refine wp_name fun W hW => ?_
  obtain ⟨hWc, hWf, hWz⟩ := hW.cells
  have hWe : Ext w W := Ext.same hW c_30
  (try simp only [World.size_setCell] at hWz)
  go_region_held3 (fun w' => (∀ b o, b < W.heap.size → w'.cell? ⟨b, o, none⟩ = if b = w.heap.size + 1 + 1 ∧ 0 ≤ o ∧ o < 2 then (W.cell? ⟨b, o, none⟩).map (obx w' b o) else W.cell? ⟨b, o, none⟩) ∧ (∀ b o, b < W.heap.size → w'.frozen? ⟨b, o, none⟩ = W.frozen? ⟨b, o, none⟩) ∧ W.heap.size ≤ w'.heap.size ∧ Ext w w') (exact k_1) ((first | (go_at_call 165; (with_reducible refine (least_3 (a * c) (a * d) (b * c) (b * d) _ _ _ c_54 c_54 c_54 c_54 c_54 c_54).mono ?_); rintro e w2 ⟨rfl, hb2⟩; have hz2 := hb2.size; (try rw [size_drew] at hz2)) | (go_at_call 167; (with_reducible refine (greatest_3 (a * c) (a * d) (b * c) (b * d) _ _ _ c_54 c_54 c_54 c_54 c_54 c_54).mono ?_); rintro e w2 ⟨rfl, hb2⟩; have hz2 := hb2.size; (try rw [size_drew] at hz2)) | (go_at_call 166; (with_reducible refine (down_any _ _ _ (min4_bound pa pb pc pd).1 (min4_bound pa pb pc pd).2 (by omega) (by omega)).mono ?_); rintro e w2 ⟨rfl, hb2⟩; have hz2 := hb2.size; (try rw [size_drew] at hz2)) | (go_at_call 168; (with_reducible refine (up_any _ _ _ (max4_bound pa pb pc pd).1 (max4_bound pa pb pc pd).2 (by omega) (by omega)).mono ?_); rintro e w2 ⟨rfl, hb2⟩; have hz2 := hb2.size; (try rw [size_drew] at hz2)) | (go_at_call 112; (with_reducible refine (span_made _ _ _).mono ?_); rintro e w2 ⟨rfl, hb2⟩; have hz2 := hb2.size; (try rw [size_drew] at hz2))))
  rename_i hOld
  have hE := hOld.2.2.2
  have hO := And.intro hOld.1 (And.intro hOld.2.1 hOld.2.2.1)
  clear hOld
  replace hO := heldBack hO c_13
  replace hO := heldBack hO c_13
  obtain ⟨hOc, hOf, hOz⟩ := heldEnd hO
  clear hO
  go_wp2_with fail
  all_goals
   refine bodyPost_ret (v := .tuple #[.agg #[.int .i64 (mulI a b c d).lo, .int .i64 (mulI a b c d).hi], .int .i64 (mulI a b c d).e]) ?_ rfl ⟨rfl, ?_⟩
   ·(try simp only [bne_eq_false_iff_eq] at *)
    simp [results, Tryz.results113, go_sem, mulI, *]
   ·exact b_3
end Go.Proofs.YtbkgakgdbmjmjaaGreat
