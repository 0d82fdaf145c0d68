/- span: numbers of two words. -/
import Derived.Test.YtomgcjeahkmhiaaDiv
import Derived.Test.YtomgcjeahkmhiaaIv
import Derived.Shelf.Spec.BitsCarry
namespace Go.Proofs.Ytomgcjeahkmhiaa
open Go.RowKit

set_option maxRecDepth 100000 in
set_option maxHeartbeats 1000000 in
theorem times_any (a b : Int) (w : World) (ha : I64 a) (hb : I64 b) :
    Calls Try.prog 75 #[.int .i64 a, .int .i64 b] w fun e w' => e = .returned (.agg #[.int .i64 (a * b / 18446744073709551616), .int .u64 (a * b % 18446744073709551616)]) ∧ Ext w w' := by
  have ht := times_hi a b _ _ ha hb rfl rfl
  obtain ⟨a1, a2⟩ := ha
  obtain ⟨b1, b2⟩ := hb
  obtain ⟨x, hx⟩ : ∃ x : Nat, (x : Int) = a % 18446744073709551616 := ⟨(a % 18446744073709551616).toNat, by omega⟩
  obtain ⟨y, hy⟩ : ∃ x : Nat, (x : Int) = b % 18446744073709551616 := ⟨(b % 18446744073709551616).toNat, by omega⟩
  have ex : IntKind.u64.wrap a = (x : Int) := by rw [IntKind.wrap_u64]; omega
  have ey : IntKind.u64.wrap b = (y : Int) := by rw [IntKind.wrap_u64]; omega
  have hx64 : x < 18446744073709551616 := by omega
  have hy64 : y < 18446744073709551616 := by omega
  rw [← hx, ← hy] at ht
  have Ht := Lib.hid ht; clear ht
  have Hx := Lib.hid hx; clear hx
  have Hy := Lib.hid hy; clear hy
  go_enter Try.func75, Try.ntmps75
  go_wp2_with (go_at_call 118; refine (Try.bits_Mul64 x y hx64 hy64 _).mono ?_; rintro e w' ⟨rfl, hw⟩; rw [hw]; clear hw)
  all_goals
    refine bodyPost_ret (v := .agg #[.int .i64 (a * b / 18446744073709551616), .int .u64 (a * b % 18446744073709551616)]) ?_ rfl ⟨rfl, (Ext.refl _).alloc _⟩
    simp [results, Try.results75, go_sem]
    obtain ⟨t0, t1, t2, t3, t4⟩ := Ht.out
    refine ⟨?_, t0⟩
    first | exact t1 (by assumption) (by assumption) | exact t2 (by assumption) (by assumption) | exact t3 (by assumption) (by assumption) | exact t4 (by assumption) (by assumption)

theorem sub64_run (y : Int) (h1 : 0 ≤ y) (h2 : y < 18446744073709551616) (w : World) :
    (callFunc 160 #[.int .u64 0, .int .u64 y, .int .u64 0]).run Try.prog w = .ok (.value (.tuple #[.int .u64 ((-y) % 18446744073709551616), .int .u64 (if y = 0 then 0 else 1)])) w := by
  obtain ⟨n, rfl⟩ := Int.eq_ofNat_of_zero_le h1
  have h := run_sub64 (P := Try.prog) 0 n 0 (by omega) w
  rw [run_callFunc_extern Try.func160 (by kernel_rfl) (by kernel_rfl) (by kernel_rfl) (e := sub64Entry) (by kernel_rfl)]
  have e0 : (.int .u64 0 : Value) = .int .u64 ((0 : Nat) : Int) := rfl
  have e1 : (((0 + 18446744073709551616 - n - 0) % 18446744073709551616 : Nat) : Int) = (-(n : Int)) % 18446744073709551616 := by omega
  have e2 : ((if 0 < n + 0 then 1 else 0 : Nat) : Int) = if (n : Int) = 0 then 0 else 1 := by split <;> split <;> first | rfl | omega
  rw [e1, e2] at h
  rw [e0, h]
  rfl

theorem div64q (hi lo y q r : Int) (w : World) (hh : 0 ≤ hi ∧ hi < y) (hl : 0 ≤ lo ∧ lo < 18446744073709551616) (hy : y < 18446744073709551616) (hq : q = (hi * 18446744073709551616 + lo) / y) (hr : r = (hi * 18446744073709551616 + lo) % y) :
    Calls Try.prog 121 #[.int .u64 hi, .int .u64 lo, .int .u64 y] w fun e w' => e = .returned (.tuple #[.int .u64 q, .int .u64 r]) ∧ Ext w w' := by
  obtain ⟨h, rfl⟩ := Int.eq_ofNat_of_zero_le hh.1
  obtain ⟨l, rfl⟩ := Int.eq_ofNat_of_zero_le hl.1
  obtain ⟨d, rfl⟩ := Int.eq_ofNat_of_zero_le (show 0 ≤ y by omega)
  refine (div64 h l d w (by omega) (by omega) (by omega)).mono ?_
  rintro e w' ⟨rfl, hx⟩
  refine ⟨?_, hx⟩
  rw [hq, hr, Int.natCast_ediv, Int.natCast_emod, Int.natCast_add, Int.natCast_mul]
  rfl

set_option maxRecDepth 100000 in
set_option maxHeartbeats 1000000 in
theorem neg_any (T : Int) (w : World) (h1 : -85070591730234615865843651857942052864 ≤ T) (h2 : T ≤ 85070591730234615865843651857942052864) :
    Calls Try.prog 120 #[.agg #[.int .i64 (T / 18446744073709551616), .int .u64 (T % 18446744073709551616)]] w fun e w' => e = .returned (.agg #[.int .i64 ((-T) / 18446744073709551616), .int .u64 ((-T) % 18446744073709551616)]) ∧ Ext w w' := by
  obtain ⟨h, eh⟩ : ∃ h, h = T / 18446744073709551616 := ⟨_, rfl⟩
  obtain ⟨l, el⟩ : ∃ h, h = T % 18446744073709551616 := ⟨_, rfl⟩
  obtain ⟨b, eb⟩ : ∃ b : Int, b = if l = 0 then 0 else 1 := ⟨_, rfl⟩
  have hb : b = 0 ∨ b = 1 := by rw [eb]; split <;> simp
  have hs := fun w => sub64_run l (by omega) (by omega) w
  rw [← eb] at hs
  rw [← eh, ← el]
  have b1 : 0 ≤ b := by omega
  have b2 : b ≤ 1 := by omega
  have g1 : -4611686018427387904 ≤ h := by omega
  have g2 : h ≤ 4611686018427387904 := by omega
  have hf : -h - b = (-T) / 18446744073709551616 ∧ (-l) % 18446744073709551616 = (-T) % 18446744073709551616 := by
    rw [eb]; split <;> omega
  have HF := Lib.hid hf; clear hf eh el eb hb h1 h2
  go_enter Try.func120, Try.ntmps120
  go_wp2_with fail
  refine bodyPost_ret (v := .agg #[.int .i64 ((-T) / 18446744073709551616), .int .u64 ((-T) % 18446744073709551616)]) ?_ rfl ⟨rfl, ((Ext.refl _).alloc _).alloc _⟩
  simp [results, Try.results120, go_sem]
  exact HF.out

set_option maxRecDepth 100000 in
set_option maxHeartbeats 1000000 in
theorem up_nonneg (T d : Int) (w : World) (h0 : 0 ≤ T) (h2 : T ≤ 85070591730234615865843651857942052864) (d0 : 0 < d) (d1 : d < 18446744073709551616) :
    Calls Try.prog 79 #[.agg #[.int .i64 (T / 18446744073709551616), .int .u64 (T % 18446744073709551616)], .int .u64 d] w fun e w' => e = .returned (.int .i64 (upT T d)) ∧ Ext w w' := by
  obtain ⟨h, eh⟩ : ∃ h : Int, h = T / 18446744073709551616 := ⟨_, rfl⟩
  obtain ⟨l, el⟩ : ∃ h : Int, h = T % 18446744073709551616 := ⟨_, rfl⟩
  have hl1 : 0 ≤ l := by omega
  have hl2 : l < 18446744073709551616 := by omega
  have hh1 : 0 ≤ h := by omega
  have hh2 : h < 9223372036854775808 := by omega
  have eT : T = h * 18446744073709551616 + l := by omega
  have Et : Hid (T = h * 18446744073709551616 + l ∧ 0 ≤ T) := Lib.hid ⟨eT, h0⟩
  rw [← eh, ← el]
  clear eh el h2 h0
  have e1 : IntKind.u64.wrap h = h := by rw [IntKind.wrap_u64]; omega
  by_cases hd : d ≤ h
  · clear eT
    go_enter Try.func79, Try.ntmps79
    go_wp2_with fail
    go_ret
    refine ⟨?_, (Ext.refl _).alloc _⟩
    rw [upT_eq T d Et.out.2 d0]
    have := big_quot Et.out.1 hl1 hd d0
    exact congrArg (fun n => Ending.returned (.int .i64 n)) (by split <;> omega)
  · obtain ⟨q1, q2, r1, r2⟩ := small_quot eT hh1 hl1 hl2 (show h < d by omega)
    obtain ⟨q, hq⟩ : ∃ q, q = T / d := ⟨_, rfl⟩
    obtain ⟨r, hr⟩ : ∃ q, q = T % d := ⟨_, rfl⟩
    rw [← hq] at q1 q2
    rw [← hr] at r1 r2
    have hc := div64q h l d q r (w.alloc (.cells #[.int .i64 h, .int .u64 l] 113)) (by omega) (by omega) d1 (by rw [hq, eT]) (by rw [hr, eT])
    have Hc := Lib.hid hc; clear hc
    have Hq := Lib.hid hq; clear hq
    have Hr := Lib.hid hr; clear hr
    clear eT
    go_enter Try.func79, Try.ntmps79
    go_wp2_with (go_at_call 121; refine Hc.out.mono ?_; rintro e w1 ⟨rfl, hb⟩)
    all_goals
      go_ret
      refine ⟨?_, ((Ext.refl _).alloc _).trans hb⟩
      rw [upT_eq T d Et.out.2 d0, ← Hq.out, ← Hr.out]
      exact congrArg (fun n => Ending.returned (.int .i64 n)) (by split <;> first | rfl | omega)

set_option maxRecDepth 100000 in
set_option maxHeartbeats 1000000 in
theorem down_nonneg (T d : Int) (w : World) (h0 : 0 ≤ T) (h2 : T ≤ 85070591730234615865843651857942052864) (d0 : 0 < d) (d1 : d < 18446744073709551616) :
    Calls Try.prog 77 #[.agg #[.int .i64 (T / 18446744073709551616), .int .u64 (T % 18446744073709551616)], .int .u64 d] w fun e w' => e = .returned (.int .i64 (dnT T d)) ∧ Ext w w' := by
  obtain ⟨h, eh⟩ : ∃ h : Int, h = T / 18446744073709551616 := ⟨_, rfl⟩
  obtain ⟨l, el⟩ : ∃ h : Int, h = T % 18446744073709551616 := ⟨_, rfl⟩
  have hl1 : 0 ≤ l := by omega
  have hl2 : l < 18446744073709551616 := by omega
  have hh1 : 0 ≤ h := by omega
  have hh2 : h < 9223372036854775808 := by omega
  have eT : T = h * 18446744073709551616 + l := by omega
  have Et : Hid (T = h * 18446744073709551616 + l ∧ 0 ≤ T) := Lib.hid ⟨eT, h0⟩
  rw [← eh, ← el]
  clear eh el h2 h0
  have e1 : IntKind.u64.wrap h = h := by rw [IntKind.wrap_u64]; omega
  by_cases hd : d ≤ h
  · clear eT
    go_enter Try.func77, Try.ntmps77
    go_wp2_with fail
    go_ret
    refine ⟨?_, (Ext.refl _).alloc _⟩
    rw [dnT_eq T d Et.out.2 d0]
    have := big_quot Et.out.1 hl1 hd d0
    exact congrArg (fun n => Ending.returned (.int .i64 n)) (by omega)
  · obtain ⟨q1, q2, r1, r2⟩ := small_quot eT hh1 hl1 hl2 (show h < d by omega)
    obtain ⟨q, hq⟩ : ∃ q, q = T / d := ⟨_, rfl⟩
    obtain ⟨r, hr⟩ : ∃ q, q = T % d := ⟨_, rfl⟩
    rw [← hq] at q1 q2
    rw [← hr] at r1 r2
    have hc := div64q h l d q r (w.alloc (.cells #[.int .i64 h, .int .u64 l] 113)) (by omega) (by omega) d1 (by rw [hq, eT]) (by rw [hr, eT])
    have Hc := Lib.hid hc; clear hc
    have Hq := Lib.hid hq; clear hq
    have Hr := Lib.hid hr; clear hr
    clear eT
    go_enter Try.func77, Try.ntmps77
    go_wp2_with (go_at_call 121; refine Hc.out.mono ?_; rintro e w1 ⟨rfl, hb⟩)
    all_goals
      go_ret
      refine ⟨?_, ((Ext.refl _).alloc _).trans hb⟩
      rw [dnT_eq T d Et.out.2 d0, ← Hq.out]
      exact congrArg (fun n => Ending.returned (.int .i64 n)) (by first | rfl | omega)

set_option maxRecDepth 100000 in
set_option maxHeartbeats 1000000 in
theorem up_neg (T d : Int) (w : World) (h0 : T < 0) (h2 : -85070591730234615865843651857942052864 ≤ T) (d0 : 0 < d) (d1 : d < 18446744073709551616) :
    Calls Try.prog 79 #[.agg #[.int .i64 (T / 18446744073709551616), .int .u64 (T % 18446744073709551616)], .int .u64 d] w fun e w' => e = .returned (.int .i64 (upT T d)) ∧ Ext w w' := by
  have hh : T / 18446744073709551616 < 0 := by omega
  have hr := dnT_range (-T) d
  have hr1 := hr.1
  have hr2 := hr.2
  have hn := fun w => neg_any T w (by omega) (by omega)
  have ho := fun w => down_nonneg (-T) d w (by omega) (by omega) d0 d1
  have Hn := Lib.hid hn; clear hn
  have Ho := Lib.hid ho; clear ho hr h0 h2
  go_enter Try.func79, Try.ntmps79
  go_wp2_with (first | (go_at_call 120; refine (Hn.out _).mono ?_; rintro e w1 ⟨rfl, hb⟩) | (go_at_call 77; refine (Ho.out _).mono ?_; rintro e w2 ⟨rfl, hb2⟩))
  go_ret
  refine ⟨?_, (((Ext.refl _).alloc _).trans hb).trans hb2⟩
  exact congrArg (fun n => Ending.returned (.int .i64 n)) (by have := dnT_neg T d; omega)

theorem up_any (T d : Int) (w : World) (h1 : -85070591730234615865843651857942052864 ≤ T) (h2 : T ≤ 85070591730234615865843651857942052864) (d0 : 0 < d) (d1 : d < 18446744073709551616) :
    Calls Try.prog 79 #[.agg #[.int .i64 (T / 18446744073709551616), .int .u64 (T % 18446744073709551616)], .int .u64 d] w fun e w' => e = .returned (.int .i64 (upT T d)) ∧ Ext w w' := by
  by_cases h : T < 0
  · exact up_neg T d w h h1 d0 d1
  · exact up_nonneg T d w (by omega) h2 d0 d1

set_option maxRecDepth 100000 in
set_option maxHeartbeats 1000000 in
theorem down_neg (T d : Int) (w : World) (h0 : T < 0) (h2 : -85070591730234615865843651857942052864 ≤ T) (d0 : 0 < d) (d1 : d < 18446744073709551616) :
    Calls Try.prog 77 #[.agg #[.int .i64 (T / 18446744073709551616), .int .u64 (T % 18446744073709551616)], .int .u64 d] w fun e w' => e = .returned (.int .i64 (dnT T d)) ∧ Ext w w' := by
  have hh : T / 18446744073709551616 < 0 := by omega
  have hr := upT_range (-T) d
  have hr1 := hr.1
  have hr2 := hr.2
  have hn := fun w => neg_any T w (by omega) (by omega)
  have ho := fun w => up_nonneg (-T) d w (by omega) (by omega) d0 d1
  have Hn := Lib.hid hn; clear hn
  have Ho := Lib.hid ho; clear ho hr h0 h2
  go_enter Try.func77, Try.ntmps77
  go_wp2_with (first | (go_at_call 120; refine (Hn.out _).mono ?_; rintro e w1 ⟨rfl, hb⟩) | (go_at_call 79; refine (Ho.out _).mono ?_; rintro e w2 ⟨rfl, hb2⟩))
  go_ret
  refine ⟨?_, (((Ext.refl _).alloc _).trans hb).trans hb2⟩
  exact congrArg (fun n => Ending.returned (.int .i64 n)) (by have := upT_neg T d; omega)

theorem down_any (T d : Int) (w : World) (h1 : -85070591730234615865843651857942052864 ≤ T) (h2 : T ≤ 85070591730234615865843651857942052864) (d0 : 0 < d) (d1 : d < 18446744073709551616) :
    Calls Try.prog 77 #[.agg #[.int .i64 (T / 18446744073709551616), .int .u64 (T % 18446744073709551616)], .int .u64 d] w fun e w' => e = .returned (.int .i64 (dnT T d)) ∧ Ext w w' := by
  by_cases h : T < 0
  · exact down_neg T d w h h1 d0 d1
  · exact down_nonneg T d w (by omega) h2 d0 d1

end Go.Proofs.Ytomgcjeahkmhiaa
