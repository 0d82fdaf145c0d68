/- ephem.segment. -/
import Derived.Test.YtbkgakgdbmjmjaaGreatP18
set_option linter.unusedSimpArgs false
set_option linter.unusedVariables false
set_option maxRecDepth 100000
set_option maxHeartbeats 4000000
namespace Go.Proofs.YtbkgakgdbmjmjaaGreat
open Go.RowKit
theorem T_EP8_5 {p : Prop} (h : p := by
 (try simp only [bn_, bm_] at *)
 simp [results, Tryz.results128, go_sem, ↓IntWalk.iteOmega, *]) : p := h
theorem T_EP8_4 {p : Prop} (h : p := by
 go_wp2_with (first | (go_at_call 176; (with_reducible refine (p_outT fr _ h2).mono ?_); rintro e w4 ⟨rfl, hb4⟩; obtain ⟨_, _, ⟨hc4, hf4⟩, hz4⟩ := hb4.c3; (try simp only [wsz] at hz4 hc4 hf4)) | (go_at_call 176; (with_reducible refine (p_outT ti _ h3).mono ?_); rintro e w5 ⟨rfl, hb5⟩; obtain ⟨_, _, ⟨hc5, hf5⟩, hz5⟩ := hb5.c3; (try simp only [wsz] at hz5 hc5 hf5)))
 go_meet
 exact ⟨rfl, ex_⟩) : p := h
theorem T_EP8_3 {p : Prop} (h : p := by
 have e0 : (decide (C < -1125899906842624) || decide (1125899906842624 < C)) = true := by
  rcases hc with hc | hc <;> simp [hc]
 rw [e0] at hou
 go_wp2_with (go_at_call 176; (with_reducible refine (hou _).mono ?_); rintro e w7 ⟨rfl, hb7⟩; obtain ⟨_, _, ⟨hc7, hf7⟩, hz7⟩ := hb7.c3; (try simp only [wsz] at hz7 hc7 hf7))
 exact T_EP8_1) : p := h
theorem T_EP8_2 {p : Prop} (h : p := by
 have e0 : (decide (C < -1125899906842624) || decide (1125899906842624 < C)) = false := by
  rw [decide_eq_false (by omega), decide_eq_false (by omega)]; rfl
 rw [e0] at hou
 go_wp2_with (go_at_call 176; (with_reducible refine (hou _).mono ?_); rintro e w7 ⟨rfl, hb7⟩; obtain ⟨_, _, ⟨hc7, hf7⟩, hz7⟩ := hb7.c3; (try simp only [wsz] at hz7 hc7 hf7))
 go_roundw
 case rel =>
  refine ⟨k + 1, by omega, (by congr 1), hE.trans hb7, fun m hmk => ?_⟩
  rcases Nat.lt_or_ge m k with h | h
  ·exact hm m h
  ·obtain rfl : m = k := by omega
   rw [hC]; omega
 case measure => first | (simp [intOf]; done) | (simp [intOf]; omega)) : p := h
theorem T_EP8_1 {p : Prop} (h : p := by
 refine bodyPost_ret (v := .bool false) ?_ rfl ⟨by rw [hBf], ?_⟩
 ·exact T_EP8_5
 ·repeat (first | with_reducible exact Ext.refl _ | with_reducible assumption | with_reducible refine Ext.alloc ?_ _ | with_reducible refine Ext.setCell ?_ c_19 _ | with_reducible refine Ext.drewN ?_ _ | with_reducible refine Ext.drew ?_ | with_reducible refine Ext.trans ?_ c_9)) : p := h
theorem p_outT (n : Int) (w : World) (h : ¬ (n < -5000000000000000 ∨ 5000000000000000 < n)) : Calls Tryz.prog 176 #[.int .i64 n, .int .i64 5000000000000000] w fun e w' => e = .returned (.bool false) ∧ Ext w w' := by
 have := p_outside n 5000000000000000 w (by decide) (by decide)
 rwa [decide_eq_false (by omega), decide_eq_false (by omega)] at this
theorem p_outF (n : Int) (w : World) (h : n < -5000000000000000 ∨ 5000000000000000 < n) : Calls Tryz.prog 176 #[.int .i64 n, .int .i64 5000000000000000] w fun e w' => e = .returned (.bool true) ∧ Ext w w' := by
 have := p_outside n 5000000000000000 w (by decide) (by decide)
 have e : (decide (n < -5000000000000000) || decide (5000000000000000 < n)) = true := by
  rcases h with h | h <;> simp [h]
 rwa [e] at this
theorem p_outC (n : Int) (w : World) : Calls Tryz.prog 176 #[.int .i64 n, .int .i64 1125899906842624] w fun e w' => e = .returned (.bool (decide (n < -1125899906842624) || decide (1125899906842624 < n))) ∧ Ext w w' :=
 p_outside n 1125899906842624 w (by decide) (by decide)
def SeI (w : World) (l : List Int) (i : Value) (wr : World) : Prop := ∃ k : Nat, k ≤ l.length ∧ i = .int .i64 (k : Int) ∧ Ext w wr ∧ ∀ m, m < k → -1125899906842624 ≤ cN l m ∧ cN l m ≤ 1125899906842624
theorem p_segment (v : Value) (s : SegD) (first : Bool) (bf : Int) (B : Bool) (w : World) (hS : Sg w v s) (hB : B = true ↔ SgOk s ∧ (first = true ∨ s.fr = bf)) :
    Calls Tryz.prog 128 #[v, .bool first, .int .i64 bf] w fun e w' => e = .returned (.bool B) ∧ Ext w w' := by
 obtain ⟨v0, v1, v2, rfl, i1, i2, x0, x1, x2⟩ := hS
 obtain ⟨ao0, b0, q0, cap0, rfl, ha0, hl0, hm0⟩ := x0.len
 obtain ⟨ao1, b1, q1, cap1, rfl, ha1, hl1, hm1⟩ := x1.len
 obtain ⟨ao2, b2, q2, cap2, rfl, ha2, hl2, hm2⟩ := x2.len
 have ix0 : ∀ w, (Instr.index 45 (.agg #[.slice ao0 s.c0.length cap0, .slice ao1 s.c1.length cap1, .slice ao2 s.c2.length cap2]) (.int .i64 0)).run Tryz.prog w = .ok (.slice ao0 s.c0.length cap0) w := fun _ => by kernel_rfl
 have ix1 : ∀ w, (Instr.index 45 (.agg #[.slice ao0 s.c0.length cap0, .slice ao1 s.c1.length cap1, .slice ao2 s.c2.length cap2]) (.int .i64 1)).run Tryz.prog w = .ok (.slice ao1 s.c1.length cap1) w := fun _ => by kernel_rfl
 have ix2 : ∀ w, (Instr.index 45 (.agg #[.slice ao0 s.c0.length cap0, .slice ao1 s.c1.length cap1, .slice ao2 s.c2.length cap2]) (.int .i64 2)).run Tryz.prog w = .ok (.slice ao2 s.c2.length cap2) w := fun _ => by kernel_rfl
 obtain ⟨fr, hfr⟩ : ∃ z, s.fr = z := ⟨_, rfl⟩
 obtain ⟨ti, hti⟩ : ∃ z, s.ti = z := ⟨_, rfl⟩
 unfold SgOk at hB
 rw [hfr, hti] at hB
 rw [hfr, hti]
 rw [hfr] at i1
 rw [hti] at i2
 by_cases h1 : ti ≤ fr
 ·have hBf : B = false := by
   cases B with
   | false => rfl
   | true => have := (hB.1 rfl).1.1; omega
  go_enter Tryz.func128, Tryz.ntmps128
  go_wp2_with fail
  exact T_EP8_1
 by_cases h2 : fr < -5000000000000000 ∨ 5000000000000000 < fr
 ·have hBf : B = false := by
   cases B with
   | false => rfl
   | true => have := (hB.1 rfl).1; omega
  go_enter Tryz.func128, Tryz.ntmps128
  go_wp2_with (go_at_call 176; (with_reducible refine (p_outF fr _ h2).mono ?_); rintro e w4 ⟨rfl, hb4⟩; obtain ⟨_, _, ⟨hc4, hf4⟩, hz4⟩ := hb4.c3; (try simp only [wsz] at hz4 hc4 hf4))
  exact T_EP8_1
 by_cases h3 : ti < -5000000000000000 ∨ 5000000000000000 < ti
 ·have hBf : B = false := by
   cases B with
   | false => rfl
   | true => have := (hB.1 rfl).1; omega
  go_enter Tryz.func128, Tryz.ntmps128
  go_wp2_with (first | (go_at_call 176; (with_reducible refine (p_outT fr _ h2).mono ?_); rintro e w4 ⟨rfl, hb4⟩; obtain ⟨_, _, ⟨hc4, hf4⟩, hz4⟩ := hb4.c3; (try simp only [wsz] at hz4 hc4 hf4)) | (go_at_call 176; (with_reducible refine (p_outF ti _ h3).mono ?_); rintro e w5 ⟨rfl, hb5⟩; obtain ⟨_, _, ⟨hc5, hf5⟩, hz5⟩ := hb5.c3; (try simp only [wsz] at hz5 hc5 hf5)))
  refine bodyPost_ret (v := .bool false) ?_ rfl ⟨by rw [hBf], ?_⟩
  ·exact T_EP8_5
  ·exact b_6
 by_cases h4 : first = false ∧ ¬ fr = bf
 ·have hBf : B = false := by
   cases B with
   | false => rfl
   | true => have := (hB.1 rfl).2; rw [h4.1] at this; simp at this; exact absurd this h4.2
  obtain ⟨rfl, h5⟩ := h4
  go_enter Tryz.func128, Tryz.ntmps128
  go_wp2_with (first | (go_at_call 176; (with_reducible refine (p_outT fr _ h2).mono ?_); rintro e w4 ⟨rfl, hb4⟩; obtain ⟨_, _, ⟨hc4, hf4⟩, hz4⟩ := hb4.c3; (try simp only [wsz] at hz4 hc4 hf4)) | (go_at_call 176; (with_reducible refine (p_outT ti _ h3).mono ?_); rintro e w5 ⟨rfl, hb5⟩; obtain ⟨_, _, ⟨hc5, hf5⟩, hz5⟩ := hb5.c3; (try simp only [wsz] at hz5 hc5 hf5)))
  refine bodyPost_ret (v := .bool false) ?_ rfl ⟨by rw [hBf], ?_⟩
  ·exact T_EP8_5
  ·exact b_6
 have hg : first = true ∨ fr = bf := by
  cases first with
  | true => exact Or.inl rfl
  | false => exact Or.inr (Decidable.byContradiction fun h => h4 ⟨rfl, h⟩)
 clear h4
 go_enter Tryz.func128, Tryz.ntmps128
 go_upto_region 1 with fail
 go_cut [35] from 11 to 34 (fun s35 wx => s35 = .bool false ∧ Ext (w.alloc (.cells #[.int .i64 fr, .int .i64 ti, .slice ao0 s.c0.length cap0, .slice ao1 s.c1.length cap1, .slice ao2 s.c2.length cap2] 47)) wx)
 case first =>
  cases first
  ·obtain hg2 : fr = bf := by simpa using hg
   subst hg2
   exact T_EP8_4
  ·exact T_EP8_4
 obtain ⟨rfl, hEc⟩ := hcut
 obtain ⟨_, _, hcc, hcf⟩ := hEc.cells2
 have hzc := hEc.size
 (try simp only [World.size_alloc] at hcc hcf hzc)
 have hEw : Ext w wc := ((Ext.refl w).alloc _).trans hEc
 go_wp2_with fail
 refine wp_loop_rounds 4 ?_
 rw [rounds_succ]
 go_upto_region 6 with fail
 by_cases z0 : s.c0.length = 0
 ·have hBf : B = false := by
   cases B with
   | false => rfl
   | true => exact absurd (hB.1 rfl).1.2.2.2.1.1 (by omega)
  have zi : (s.c0.length : Int) = 0 := by omega
  go_wp2_with fail
  exact T_EP8_1
 ·have hp0 : 0 < s.c0.length := by omega
  obtain rfl := ha0 hp0
  go_wp2_with fail
  go_loopw [46] (fun i wr => SeI w s.c0 i wr) (fun i _ => s.c0.length - (intOf i).toNat)
  case atStart => exact ⟨0, Nat.zero_le _, rfl, ex_, fun m hm => absurd hm (by omega)⟩
  case round =>
   obtain ⟨k, hk, hi, hE, hm⟩ := hrel
   subst hi
   by_cases hkl : k = s.c0.length
   ·subst hkl
    have hok0 : CsOk s.c0 := ⟨hp0, hm⟩
    obtain ⟨_, _, hcE, hfE⟩ := hE.cells2; have hzE := hE.size
    clear hm
    go_wp2_with fail
    rw [rounds_succ]
    go_upto_region 6 with fail
    by_cases z1 : s.c1.length = 0
    ·have hBf : B = false := by
      cases B with
      | false => rfl
      | true => exact absurd (hB.1 rfl).1.2.2.2.2.1.1 (by omega)
     have zi : (s.c1.length : Int) = 0 := by omega
     go_wp2_with fail
     exact T_EP8_1
    ·have hp1 : 0 < s.c1.length := by omega
     obtain rfl := ha1 hp1
     go_wp2_with fail
     go_loopw [46] (fun i wr => SeI w s.c1 i wr) (fun i _ => s.c1.length - (intOf i).toNat)
     case atStart => exact ⟨0, Nat.zero_le _, rfl, ex_, fun m hm => absurd hm (by omega)⟩
     case round =>
      obtain ⟨k, hk, hi, hE, hm⟩ := hrel
      subst hi
      by_cases hkl : k = s.c1.length
      ·subst hkl
       have hok1 : CsOk s.c1 := ⟨hp1, hm⟩
       obtain ⟨_, _, hcE, hfE⟩ := hE.cells2; have hzE := hE.size
       clear hm
       go_wp2_with fail
       rw [rounds_succ]
       go_upto_region 6 with fail
       by_cases z2 : s.c2.length = 0
       ·have hBf : B = false := by
         cases B with
         | false => rfl
         | true => exact absurd (hB.1 rfl).1.2.2.2.2.2.1 (by omega)
        have zi : (s.c2.length : Int) = 0 := by omega
        go_wp2_with fail
        exact T_EP8_1
       ·have hp2 : 0 < s.c2.length := by omega
        obtain rfl := ha2 hp2
        go_wp2_with fail
        go_loopw [46] (fun i wr => SeI w s.c2 i wr) (fun i _ => s.c2.length - (intOf i).toNat)
        case atStart => exact ⟨0, Nat.zero_le _, rfl, ex_, fun m hm => absurd hm (by omega)⟩
        case round =>
         obtain ⟨k, hk, hi, hE, hm⟩ := hrel
         subst hi
         by_cases hkl : k = s.c2.length
         ·subst hkl
          have hok2 : CsOk s.c2 := ⟨hp2, hm⟩
          obtain ⟨_, _, hcE, hfE⟩ := hE.cells2; have hzE := hE.size
          clear hm
          go_wp2_with fail
          rw [rounds_succ]
          go_wp2_with fail
          have hBt : B = true := hB.2 ⟨⟨by omega, by omega, by omega, hok0, hok1, hok2⟩, hg⟩
          refine bodyPost_ret (v := .bool true) ?_ rfl ⟨by rw [hBt], ?_⟩
          ·exact T_EP8_5
          ·exact b_6
         ·obtain ⟨b', o', ej, hb1, hb2, hb3⟩ := (x2.ext hE).at (k := k) (by omega)
          obtain ⟨rfl, rfl⟩ : b2 = b' ∧ q2 = o' := by simpa using ej
          obtain ⟨C, hC⟩ : ∃ C, cN s.c2 k = C := ⟨_, rfl⟩
          rw [hC] at hb2
          have hou := p_outC C
          by_cases hc : C < -1125899906842624 ∨ 1125899906842624 < C
          ·have hBf : B = false := by
            cases B with
            | false => rfl
            | true => have := (hB.1 rfl).1.2.2.2.2.2.2 k (by omega); rw [hC] at this; omega
           exact T_EP8_3
          ·exact T_EP8_2
      ·obtain ⟨b', o', ej, hb1, hb2, hb3⟩ := (x1.ext hE).at (k := k) (by omega)
       obtain ⟨rfl, rfl⟩ : b1 = b' ∧ q1 = o' := by simpa using ej
       obtain ⟨C, hC⟩ : ∃ C, cN s.c1 k = C := ⟨_, rfl⟩
       rw [hC] at hb2
       have hou := p_outC C
       by_cases hc : C < -1125899906842624 ∨ 1125899906842624 < C
       ·have hBf : B = false := by
         cases B with
         | false => rfl
         | true => have := (hB.1 rfl).1.2.2.2.2.1.2 k (by omega); rw [hC] at this; omega
        exact T_EP8_3
       ·exact T_EP8_2
   ·obtain ⟨b', o', ej, hb1, hb2, hb3⟩ := (x0.ext hE).at (k := k) (by omega)
    obtain ⟨rfl, rfl⟩ : b0 = b' ∧ q0 = o' := by simpa using ej
    obtain ⟨C, hC⟩ : ∃ C, cN s.c0 k = C := ⟨_, rfl⟩
    rw [hC] at hb2
    have hou := p_outC C
    by_cases hc : C < -1125899906842624 ∨ 1125899906842624 < C
    ·have hBf : B = false := by
      cases B with
      | false => rfl
      | true => have := (hB.1 rfl).1.2.2.2.1.2 k (by omega); rw [hC] at this; omega
     exact T_EP8_3
    ·exact T_EP8_2
end Go.Proofs.YtbkgakgdbmjmjaaGreat
namespace Go.Proofs.YtbkgakgdbmjmjaaGreat
open Go.RowKit Go.Maps
def nmIn (l : List BodyD) : Nat → ByteArray → Bool
 | 0, _ => false
 | k + 1, s => nmIn l k s || decide ((bd l k).name = s)
theorem nmIn_iff (l : List BodyD) (s : ByteArray) : ∀ n, nmIn l n s = true ↔ ∃ j, j < n ∧ (bd l j).name = s
 | 0 => by simp [nmIn]
 | n + 1 => by
  simp only [nmIn, Bool.or_eq_true, nmIn_iff l s n, decide_eq_true_eq]
  constructor
  ·rintro (⟨k, hk, h⟩ | h)
   ·exact ⟨k, by omega, h⟩
   ·exact ⟨n, by omega, h⟩
  ·rintro ⟨k, hk, h⟩
   by_cases e : k = n
   ·subst e; exact .inr h
   ·exact .inl ⟨k, by omega, h⟩
def Seen (w : World) (M n : Nat) (l : List BodyD) : Prop := ∃ D : DataW Unit, w.ownsMap Tryz.prog 9 (plainElem Tryz.prog 4) M n D ∧ IsMap D ∧ ∀ s : ByteArray, s.size ≤ 9223372036854775807 → D.atKey (.string s.data.toList) (.lit (.bool false)) = .lit (.bool (nmIn l n s))
theorem u191 : Tryz.prog.underlying 191 = some (.map 9 4) := by kernel_rfl
theorem u9 : Tryz.prog.underlying 9 = some .string := by kernel_rfl
theorem u4 : Tryz.prog.underlying 4 = some .bool := by kernel_rfl
theorem zero4 (w : World) : (zeroValue 4).run Tryz.prog w = .ok (.bool false) w := by kernel_rfl
theorem maxLen_eq : maxLen = 9223372036854775807 := rfl
theorem plainElem_bool_inv {v : Value} {z : DataW Unit × List MemPlace} (h : plainElem Tryz.prog 4 v = some z) : ∃ a, v = .bool a ∧ z = (.lit (.bool a), []) := by
 unfold plainElem at h
 rw [u4] at h
 split at h
 ·cases h; exact ⟨_, rfl, rfl⟩
 ·exact absurd ‹some TypeDesc.bool = some (TypeDesc.int _)› (by simp)
 ·exact absurd ‹some TypeDesc.bool = some TypeDesc.string› (by simp)
 ·cases h
theorem Seen.made (w : World) (l : List BodyD) : Seen (w.alloc (.map #[] 0)) w.heap.size 0 l :=
 ⟨.map [], World.ownsMap_made w Tryz.prog 9 _, isMap_empty, fun s _ => rfl⟩
theorem Seen.lt {w : World} {M n : Nat} {l : List BodyD} (h : Seen w M n l) : M < w.heap.size := by obtain ⟨D, h, _⟩ := h; exact h.lt
theorem Seen.kept {w w' : World} {M n : Nat} {l : List BodyD} {row : Option Nat} (h : Seen w M n l) (hg : w.grownBy w' row) (hne : some M ≠ row) : Seen w' M n l := by
 obtain ⟨D, h, k⟩ := h; exact ⟨D, h.kept hg hne, k⟩
theorem Ext.grownN {w w' : World} (h : Ext w w') : w.grownBy w' none := ⟨h.os, h.tape, h.output, h.size, fun i hi _ => h.block i hi⟩
theorem Seen.ext {w w' : World} {M n : Nat} {l : List BodyD} (h : Seen w M n l) (k : Ext w w') : Seen w' M n l := h.kept k.grownN (by simp)
theorem Seen.look {w : World} {M n : Nat} {l : List BodyD} (h : Seen w M n l) {s : ByteArray} (hs : s.size ≤ 9223372036854775807) : (Instr.lookup 191 (.map (some M)) (.string s) false).run Tryz.prog w = .ok (.bool (nmIn l n s)) w := by
 obtain ⟨D, h, hD, hat⟩ := h
 obtain ⟨v, ps, hrun, hv⟩ := h.lookup (string_keyed u9) u191 (zero4 w) (plainElem_bool u4 false) (WideMaps.keyOf_string_mk u9 hs)
 rw [hat s hs] at hv
 obtain ⟨a, rfl, ha⟩ := plainElem_bool_inv hv
 simp only [Prod.mk.injEq, DataW.lit.injEq, Lit.bool.injEq] at ha
 rw [hrun, ha.1]
theorem Seen.put {w1 : World} {M n : Nat} {l : List BodyD} {D : DataW Unit} (hm : IsMap D) (hat : ∀ s : ByteArray, s.size ≤ 9223372036854775807 → D.atKey (.string s.data.toList) (.lit (.bool false)) = .lit (.bool (nmIn l n s)))
    (h : w1.ownsMap Tryz.prog 9 (plainElem Tryz.prog 4) M (n + 1) (D.put (.string (bd l n).name.data.toList) (.lit (.bool true)))) : Seen w1 M (n + 1) l := by
 refine ⟨_, h, hm.put _ _, fun s hs => ?_⟩
 by_cases e : (bd l n).name = s
 ·subst e
  rw [atKey_put_same hm (by exact trivial)]
  simp [nmIn]
 ·rw [atKey_put_other, hat s hs]
  ·simp [nmIn, e]
  ·intro h
   simp only [Lit.string.injEq] at h
   apply e
   apply ByteArray.ext
   exact (Array.toList_inj.1 h).symm
theorem Seen.next {w : World} {M n : Nat} {l : List BodyD} (h : Seen w M n l) (hn : n ≤ 4611686018427387904) (hs : (bd l n).name.size ≤ 9223372036854775807) :
    ∃ w', (Instr.mapUpdate 191 (.map (some M)) (.string (bd l n).name) (.bool true)).run Tryz.prog w = .ok () w' ∧ Seen w' M (n + 1) l ∧ w.grownBy w' (some M) := by
 obtain ⟨D, hown, hm, hat⟩ := h
 obtain ⟨w', hrun, ho, hg⟩ := hown.update (string_keyed u9) u191 (by rw [maxLen_eq]; omega) (WideMaps.keyOf_string_mk u9 hs) (plainElem_bool u4 true)
 exact ⟨w', hrun, Seen.put hm hat ho, hg⟩
end Go.Proofs.YtbkgakgdbmjmjaaGreat
namespace Go.Proofs.YtbkgakgdbmjmjaaGreat
open Go.RowKit
theorem T_EP9_3 {p : Prop} (h : p := by
 (try simp only [bn_, bm_] at *)
 simp [results, Tryz.results85, go_sem, ↓IntWalk.iteOmega, *]) : p := h
theorem T_EP9_2 {p : Prop} (h : p := by
 go_wp2_with fail
 refine bodyPost_ret (v := .int .i64 4) ?_ rfl ⟨by first | rfl | rw [e4], ?_⟩
 ·exact T_EP9_3
 ·repeat (first | with_reducible exact Ext.refl _ | with_reducible assumption | with_reducible refine Ext.alloc ?_ _ | with_reducible refine Ext.setCell ?_ c_19 _ | with_reducible refine Ext.drewN ?_ _ | with_reducible refine Ext.drew ?_ | with_reducible refine Ext.trans ?_ c_9)) : p := h
theorem T_EP9_1 {p : Prop} (h : p := by
 go_wp2_with (go_at_call 127; (with_reducible refine (hnm _).mono ?_); rintro e w4 ⟨rfl, hb4⟩; obtain ⟨_, _, ⟨hc4, hf4⟩, hz4⟩ := hb4.c3; (try simp only [wsz] at hz4 hc4 hf4); have hE4 : Ext wr w4 := ex_; have hlk := Seen.look (hS.ext hE4) hns; rw [hq] at hlk)
 refine bodyPost_ret (v := .int .i64 8) ?_ rfl ⟨by first | rfl | rw [e8], ?_⟩
 ·exact T_EP9_3
 ·repeat (first | with_reducible exact Ext.refl _ | with_reducible assumption | with_reducible refine Ext.alloc ?_ _ | with_reducible refine Ext.setCell ?_ c_19 _ | with_reducible refine Ext.drewN ?_ _ | with_reducible refine Ext.drew ?_ | with_reducible refine Ext.trans ?_ c_9)) : p := h
theorem Bds.len {w : World} {v : Value} {l : List BodyD} (h : Bds w v l) : ∃ ao b o cap, v = .slice ao l.length cap ∧ (0 < l.length → ao = some ⟨b, o, none⟩) ∧ l.length ≤ cap ∧ cap ≤ 9223372036854775807 := by
 obtain ⟨ao, b, o, cap, rfl, h1, h2, h3, h4, h5⟩ := h; exact ⟨ao, b, o, cap, rfl, h1, h2, h3⟩
theorem Bds.at {w : World} {b o cap n : Nat} {l : List BodyD} (h : Bds w (.slice (some ⟨b, o, none⟩) n cap) l) {i : Nat} (hi : i < l.length) : b < w.heap.size ∧ ∃ vs, (w.cell? ⟨b, o + i * 4, none⟩ = some (.string (bd l i).name) ∧ w.cell? ⟨b, o + i * 4 + 1, none⟩ = some (.int .i64 (bd l i).gm) ∧ w.cell? ⟨b, o + i * 4 + 2, none⟩ = some (.int .i64 (bd l i).rad) ∧ w.cell? ⟨b, o + i * 4 + 3, none⟩ = some vs) ∧
      (bd l i).name.size ≤ 9223372036854775807 ∧ I64 (bd l i).gm ∧ I64 (bd l i).rad ∧ Sgs w vs (bd l i).segs := by
 obtain ⟨ao', b', o', cap', e, h1, h2, h3, h4, h5⟩ := h
 cases e
 have := h1 (by omega)
 cases this
 exact ⟨h4 (by omega), h5 i hi⟩
theorem Sgs.len {w : World} {v : Value} {l : List SegD} (h : Sgs w v l) : ∃ ao b o cap, v = .slice ao l.length cap ∧ (0 < l.length → ao = some ⟨b, o, none⟩) ∧ l.length ≤ cap ∧ cap ≤ 9223372036854775807 := by
 obtain ⟨ao, b, o, cap, rfl, h1, h2, h3, h4, h5⟩ := h; exact ⟨ao, b, o, cap, rfl, h1, h2, h3⟩
theorem Sgs.at {w : World} {b o cap n : Nat} {d : BodyD} (h : Sgs w (.slice (some ⟨b, o, none⟩) n cap) d.segs) {i : Nat} (hi : i < d.segs.length) : b < w.heap.size ∧ ∃ a0 b0 o0 p0 a1 b1 o1 p1 a2 b2 o2 p2, (w.cell? ⟨b, o + i * 5, none⟩ = some (.int .i64 (sgA d i).fr) ∧ w.cell? ⟨b, o + i * 5 + 1, none⟩ = some (.int .i64 (sgA d i).ti) ∧ w.cell? ⟨b, o + i * 5 + 2, none⟩ = some (.slice a0 (sgA d i).c0.length p0) ∧ w.cell? ⟨b, o + i * 5 + 3, none⟩ = some (.slice a1 (sgA d i).c1.length p1) ∧ w.cell? ⟨b, o + i * 5 + 4, none⟩ = some (.slice a2 (sgA d i).c2.length p2)) ∧
      Sg w (.agg #[.int .i64 (sgA d i).fr, .int .i64 (sgA d i).ti, .slice a0 (sgA d i).c0.length p0, .slice a1 (sgA d i).c1.length p1, .slice a2 (sgA d i).c2.length p2]) (sgA d i) ∧ (0 < (sgA d i).c0.length → a0 = some ⟨b0, o0, none⟩) ∧ (0 < (sgA d i).c1.length → a1 = some ⟨b1, o1, none⟩) ∧ (0 < (sgA d i).c2.length → a2 = some ⟨b2, o2, none⟩) ∧ ((sgA d i).c0.length ≤ 9223372036854775807 ∧ (sgA d i).c1.length ≤ 9223372036854775807 ∧ (sgA d i).c2.length ≤ 9223372036854775807) := by
 obtain ⟨ao', b', o', cap', e, h1, h2, h3, h4, h5⟩ := h
 cases e
 have := h1 (by omega)
 cases this
 obtain ⟨v0, v1, v2, hc, f1, f2, x0, x1, x2⟩ := h5 i hi
 have y0 := x0.len
 have y1 := x1.len
 have y2 := x2.len
 obtain ⟨a0, b0, o0, p0, rfl, e0, q0, r0⟩ := y0
 obtain ⟨a1, b1, o1, p1, rfl, e1, q1, r1⟩ := y1
 obtain ⟨a2, b2, o2, p2, rfl, e2, q2, r2⟩ := y2
 exact ⟨h4 (by omega), a0, b0, o0, p0, a1, b1, o1, p1, a2, b2, o2, p2, hc, ⟨_, _, _, rfl, f1, f2, x0, x1, x2⟩, e0, e1, e2, by unfold sgA; omega, by unfold sgA; omega, by unfold sgA; omega⟩
def ChA (W : World) (l : List BodyD) (i : Value) (wr : World) : Prop := ∃ k : Nat, k ≤ l.length ∧ i = .int .i64 (k : Int) ∧ Ext W wr ∧ ∀ j, j < k → ¬ ManyB (bd l j)
def ChS (W : World) (d : BodyD) (i : Value) (wr : World) : Prop := ∃ k : Nat, k ≤ d.segs.length ∧ i = .int .i64 (k : Int) ∧ Ext W wr ∧ ∀ j, j < k → ¬ ManyS (sgA d j)
def ChB (W : World) (M : Nat) (l : List BodyD) (i : Value) (wr : World) : Prop := ∃ k : Nat, k ≤ l.length ∧ i = .int .i64 (k : Int) ∧ Ext W wr ∧ Seen wr M k l ∧ EpOk l k
def prevT (d : BodyD) (m : Nat) : Int := if m = 0 then 0 else (sgA d (m - 1)).ti
def ChT (W : World) (M k : Nat) (l : List BodyD) (i e : Value) (wr : World) : Prop := ∃ m : Nat, m ≤ (bd l k).segs.length ∧ i = .int .i64 (m : Int) ∧ e = .int .i64 (prevT (bd l k) m) ∧ Ext W wr ∧ Seen wr M (k + 1) l ∧ SgsOk (bd l k) m
theorem Ext.mapped {a w w' : World} {M : Nat} (h : Ext a w) (hg : w.grownBy w' (some M)) (hM : a.heap.size ≤ M) : Ext a w' := Below.grown h hg h.size (fun k e => by cases e; exact hM)
theorem BdOk.step {l : List BodyD} {k : Nat} (h : EpOk l k) (h1 : NmOk (bd l k).name) (h2 : nmIn l k (bd l k).name = false) (h3 : 0 ≤ (bd l k).gm) (h4 : (bd l k).gm ≤ 1152921504606846976) (h5 : 0 ≤ (bd l k).rad) (h6 : (bd l k).rad ≤ 1125899906842624) (h7 : 0 < (bd l k).segs.length) (h8 : SgsOk (bd l k) (bd l k).segs.length) : EpOk l (k + 1) := by
 refine ⟨fun j hj => ?_, fun i j hij hj => ?_⟩
 ·rcases Nat.lt_or_ge j k with h' | h'
  ·exact h.1 j h'
  ·obtain rfl : j = k := by omega
   exact ⟨h1, h3, h4, h5, h6, h7, h8⟩
 ·rcases Nat.lt_or_ge j k with h' | h'
  ·exact h.2 i j hij h'
  ·obtain rfl : j = k := by omega
   intro e
   have := (nmIn_iff l (bd l j).name j).2 ⟨i, hij, e⟩
   rw [h2] at this; cases this
theorem SgsOk.step {d : BodyD} {m : Nat} (h : SgsOk d m) (h1 : SgOk (sgA d m)) (h2 : m = 0 ∨ (sgA d m).fr = prevT d m) : SgsOk d (m + 1) := by
 refine ⟨fun j hj => ?_, fun j hj => ?_⟩
 ·rcases Nat.lt_or_ge j m with h' | h'
  ·exact h.1 j h'
  ·obtain rfl : j = m := by omega
   exact h1
 ·rcases Nat.lt_or_ge (j + 1) m with h' | h'
  ·exact h.2 j h'
  ·obtain rfl : m = j + 1 := by omega
   have := h2.resolve_left (by omega)
   simpa [prevT] using this
theorem p_eCheck (v : Value) (l : List BodyD) (E : Int) (w : World) (hB : Bds w v l) (hE : CkE l E) :
    Calls Tryz.prog 85 #[.agg #[v]] w fun e w' => e = .returned (.int .i64 E) ∧ Ext w w' := by
 obtain ⟨ao, b, o, cap, rfl, ha, hl, hm⟩ := hB.len
 by_cases h12 : 12 < l.length
 ·have e4 : E = 4 := hE.1 (Or.inl h12)
  go_enter Tryz.func85, Tryz.ntmps85
  exact T_EP9_2
 go_enter Tryz.func85, Tryz.ntmps85
 go_wp2_with fail
 go_loopw [20] (fun i wr => ChA (w.alloc (.cells #[.slice ao l.length cap] 24)) l i wr) (fun i _ => l.length - (intOf i).toNat)
 case atStart => exact ⟨0, Nat.zero_le _, rfl, Ext.refl _, fun m hm => absurd hm (by omega)⟩
 case round =>
  obtain ⟨k, hk, hi, hX, hno⟩ := hrel
  subst hi
  by_cases hkl : k = l.length
  ·subst hkl
   have hnM : ¬ Many l := by
    rintro (h | ⟨j, hj, h⟩)
    ·exact h12 h
    ·exact hno j hj h
   have hE0 := hE.2.1 hnM
   have hE8 := hE.2.2 hnM
   clear hno hE hnM
   have hmm := @run_makeMap Tryz.prog
   obtain ⟨W1, hW1e⟩ : ∃ W1, w.alloc (.cells #[.slice ao l.length cap] 24) = W1 := ⟨_, rfl⟩
   have hW1 : Ext w W1 := by rw [← hW1e]; exact (Ext.refl w).alloc _
   have hc0 : wr.cell? ⟨w.heap.size, 0, none⟩ = some (.slice ao l.length cap) := (hX.cells.1 w.heap.size 0 (by simp)).trans c_47
   have hl0 : w.heap.size < wr.heap.size := by have := hX.size; simp only [World.size_alloc] at this; omega
   rw [hW1e] at hX
   have hM1 : W1.heap.size ≤ wr.heap.size := hX.size
   have hSn := Seen.made wr l
   have hc00 : (wr.alloc (.map #[] 0)).cell? ⟨w.heap.size, 0, none⟩ = some (.slice ao l.length cap) := (World.cell?_alloc_lt _ _ _ hl0).trans hc0
   have hXn : Ext W1 (wr.alloc (.map #[] 0)) := hX.alloc _
   obtain ⟨M, hMe⟩ : ∃ M, wr.heap.size = M := ⟨_, rfl⟩
   rw [hMe] at hSn hM1
   obtain ⟨wA, rfl⟩ : ∃ x, x = wr := ⟨_, rfl⟩
   go_wp2_with fail
   go_loopw [55] (fun i wr => ChB W1 M l i wr) (fun i _ => l.length - (intOf i).toNat)
   case atStart => exact ⟨0, Nat.zero_le _, rfl, hXn, hSn, fun j hj => absurd hj (by omega), fun i j _ hj => absurd hj (by omega)⟩
   case round =>
    clear hSn hXn hX hc0
    obtain ⟨k, hk2, hi, hX, hS, hok⟩ := hrel
    subst hi
    by_cases hkl : k = l.length
    ·subst hkl
     have e0 : E = 0 := hE0 hok
     go_wp2_with fail
     replace hX := hW1.trans hX
     refine bodyPost_ret (v := .int .i64 0) ?_ rfl ⟨by first | rfl | rw [e0], ?_⟩
     ·exact T_EP9_3
     ·exact b_6
    ·obtain rfl := ha (by omega)
     have hXw : Ext w wr := hW1.trans hX
     obtain ⟨hb1, vs, ⟨c0, c1, c2, c3⟩, hns, hg1, hr1, hss0⟩ := (hB).at (i := k) (by omega)
     replace c0 := (hXw.cells.1 b _ hb1).trans c0
     replace c1 := (hXw.cells.1 b _ hb1).trans c1
     replace c2 := (hXw.cells.1 b _ hb1).trans c2
     replace c3 := (hXw.cells.1 b _ hb1).trans c3
     obtain ⟨sao, sb, so, scap, rfl, sha, shl, shm⟩ := hss0.len
     have hbr : b < wr.heap.size := Nat.lt_of_lt_of_le hb1 hXw.size
     have hnm := fun w1 => p_name (bd l k).name w1 hns
     cases hnq : nmB (bd l k).name
     ·have e8 : E = 8 := hE8 (fun h => by
       have hb := (nmB_iff _).2 (h.1 k (by omega)).1
       rw [hnq] at hb; cases hb)
      rw [hnq] at hnm
      have hq : nmIn l k (bd l k).name = nmIn l k (bd l k).name := rfl
      exact T_EP9_1
     rw [hnq] at hnm
     cases hq : nmIn l k (bd l k).name
     rotate_left
     ·have e8 : E = 8 := hE8 (fun h => by
       obtain ⟨j, hj, e⟩ := (nmIn_iff l _ k).1 hq
       exact h.2 j k hj (by omega) e)
      exact T_EP9_1
     by_cases z1 : (bd l k).gm < 0
     ·have e8 : E = 8 := hE8 (fun h => by
       have hb := h.1 k (by omega)
       have := hb.2.1; omega)
      exact T_EP9_1
     by_cases z2 : 1152921504606846976 < (bd l k).gm
     ·have e8 : E = 8 := hE8 (fun h => by
       have hb := h.1 k (by omega)
       have := hb.2.2.1; omega)
      exact T_EP9_1
     by_cases z3 : (bd l k).rad < 0
     ·have e8 : E = 8 := hE8 (fun h => by
       have hb := h.1 k (by omega)
       have := hb.2.2.2.1; omega)
      exact T_EP9_1
     by_cases z4 : 1125899906842624 < (bd l k).rad
     ·have e8 : E = 8 := hE8 (fun h => by
       have hb := h.1 k (by omega)
       have := hb.2.2.2.2.1; omega)
      exact T_EP9_1
     by_cases z5 : (bd l k).segs.length = 0
     ·have e8 : E = 8 := hE8 (fun h => by
       have hb := h.1 k (by omega)
       have := hb.2.2.2.2.2.1; omega)
      exact T_EP9_1
     obtain rfl := sha (by omega)
     have z5b : (((bd l k).segs.length : Int) == 0) = false := beq_eq_false_iff_ne.2 (by omega)
     go_wp2_with (go_at_call 127; (with_reducible refine (hnm _).mono ?_); rintro e w4 ⟨rfl, hb4⟩; obtain ⟨_, _, ⟨hc4, hf4⟩, hz4⟩ := hb4.c3; (try simp only [wsz] at hz4 hc4 hf4); have hE4 : Ext wr w4 := ex_; have hlk := Seen.look (hS.ext hE4) hns; rw [hq] at hlk; obtain ⟨w5, hrun5, hS5, hgr5⟩ := Seen.next (hS.ext hE4) (by omega) hns; have hMr := hS.lt; have hc5 : w5.cell? ⟨wr.heap.size, 3, none⟩ = some (.slice (some ⟨sb, so, none⟩) (bd l k).segs.length scap) := hgr5.cell c_27 (by intro e; simp only [Option.some.injEq] at e; omega); have hE5 : Ext W1 w5 := (hX.trans hE4).mapped hgr5 hM1)
     clear hc4 hf4 hlk hnm hrun5 hc5 hgr5
     obtain ⟨wB, rfl⟩ : ∃ x, x = wr := ⟨_, rfl⟩
     go_loopw [101, 10] (fun i e wr => ChT W1 M k l i e wr) (fun i _ _ => (bd l k).segs.length - (intOf i).toNat)
     case atStart => exact ⟨0, Nat.zero_le _, rfl, rfl, hE5, hS5, fun j hj => absurd hj (by omega), fun j hj => absurd hj (by omega)⟩
     case round =>
      obtain ⟨m, hm2, hi, he, hX2, hS2, hSg⟩ := hrel
      subst hi
      subst he
      by_cases hml : m = (bd l k).segs.length
      ·subst hml
       go_wp2_with fail
       go_roundw
       case rel => exact ⟨k + 1, by omega, (by congr 1), hX2, hS2, BdOk.step hok ((nmB_iff _).1 hnq) hq (by omega) (by omega) (by omega) (by omega) (by omega) hSg⟩
       case measure => first | (simp [intOf]; done) | (simp [intOf]; omega)
      ·have hX2w : Ext w wr := hW1.trans hX2
       obtain ⟨hsb1, a0, d0, o0, p0, a1, d1, o1, p1, a2, d2, o2, p2, ⟨g0, g1, g2, g3, g4⟩, hsg, -, -, -, hl0, hl1, hl2⟩ := (hss0.ext hX2w).at (i := m) (by omega)
       by_cases hok2 : SgOk (sgA (bd l k) m) ∧ (m = 0 ∨ (sgA (bd l k) m).fr = prevT (bd l k) m)
       ·have hsgm : ∀ w1, Ext wr w1 → Calls Tryz.prog 128 #[.agg #[.int .i64 (sgA (bd l k) m).fr, .int .i64 (sgA (bd l k) m).ti, .slice a0 (sgA (bd l k) m).c0.length p0, .slice a1 (sgA (bd l k) m).c1.length p1, .slice a2 (sgA (bd l k) m).c2.length p2], (.bool ((m : Int) == 0)), .int .i64 (prevT (bd l k) m)] w1 fun e w' => e = .returned (.bool true) ∧ Ext w1 w' := fun w1 h1 =>
         p_segment _ _ _ _ true w1 (hsg.ext h1) (Iff.intro (fun _ => ⟨hok2.1, hok2.2.imp (fun h => by rw [h]; rfl) id⟩) (fun _ => rfl))
        go_wp2_with (go_at_call 128; (with_reducible refine (hsgm _ ex_).mono ?_); rintro e w6 ⟨rfl, hb6⟩; obtain ⟨_, _, ⟨hc6, hf6⟩, hz6⟩ := hb6.c3; (try simp only [wsz] at hz6 hc6 hf6))
        go_roundw
        case rel => exact ⟨m + 1, by omega, (by congr 1), (by first | rfl | simp [prevT]), hX2.trans (ex_ : Ext wr w6), hS2.ext (ex_ : Ext wr w6), hSg.step hok2.1 hok2.2⟩
        case measure => first | (simp [intOf]; done) | (simp [intOf]; omega)
       ·have e8 : E = 8 := hE8 (fun h => by
         obtain ⟨f1, f2⟩ := (h.1 k (by omega)).2.2.2.2.2.2
         refine hok2 ⟨f1 m (by omega), ?_⟩
         rcases Nat.eq_zero_or_pos m with z | z
         ·exact Or.inl z
         ·refine Or.inr ?_
          have := f2 (m - 1) (by omega)
          rw [Nat.sub_add_cancel z] at this
          rw [this]; unfold prevT; rw [if_neg (by omega)])
        have hsgm : ∀ w1, Ext wr w1 → Calls Tryz.prog 128 #[.agg #[.int .i64 (sgA (bd l k) m).fr, .int .i64 (sgA (bd l k) m).ti, .slice a0 (sgA (bd l k) m).c0.length p0, .slice a1 (sgA (bd l k) m).c1.length p1, .slice a2 (sgA (bd l k) m).c2.length p2], (.bool ((m : Int) == 0)), .int .i64 (prevT (bd l k) m)] w1 fun e w' => e = .returned (.bool false) ∧ Ext w1 w' := fun w1 h1 =>
         p_segment _ _ _ _ false w1 (hsg.ext h1) (Iff.intro (fun h => by cases h) (fun h => absurd (And.intro h.1 (h.2.imp (fun h => by simpa using h) id)) hok2))
        go_wp2_with (go_at_call 128; (with_reducible refine (hsgm _ ex_).mono ?_); rintro e w6 ⟨rfl, hb6⟩; obtain ⟨_, _, ⟨hc6, hf6⟩, hz6⟩ := hb6.c3; (try simp only [wsz] at hz6 hc6 hf6))
        replace hX2 := hW1.trans hX2
        refine bodyPost_ret (v := .int .i64 8) ?_ rfl ⟨by first | rfl | rw [e8], ?_⟩
        ·exact T_EP9_3
        ·exact b_6
  ·obtain rfl := ha (by omega)
   have hXw : Ext w wr := ((Ext.refl w).alloc _).trans hX
   obtain ⟨hb1, vs, ⟨c0, c1, c2, c3⟩, hns, hg1, hr1, hss⟩ := (hB.ext hXw).at (i := k) (by omega)
   obtain ⟨sao, sb, so, scap, rfl, sha, shl, shm⟩ := hss.len
   by_cases h100 : 100 < (bd l k).segs.length
   ·have e4 : E = 4 := hE.1 (Or.inr ⟨k, by omega, Or.inl h100⟩)
    exact T_EP9_2
   ·obtain ⟨wA, rfl⟩ : ∃ x, x = wr := ⟨_, rfl⟩
    go_wp2_with fail
    go_loopw [31] (fun i wr => ChS (wA.alloc (.cells #[.string (bd l k).name, .int .i64 (bd l k).gm, .int .i64 (bd l k).rad, .slice sao (bd l k).segs.length scap] 50)) (bd l k) i wr) (fun i _ => (bd l k).segs.length - (intOf i).toNat)
    case atStart => exact ⟨0, Nat.zero_le _, rfl, Ext.refl _, fun m hm => absurd hm (by omega)⟩
    case round =>
     obtain ⟨j, hj, hi, hY, hn2⟩ := hrel
     subst hi
     have hYA : Ext wA wr := ((Ext.refl wA).alloc _).trans hY
     by_cases hjl : j = (bd l k).segs.length
     ·subst hjl
      go_wp2_with fail
      go_roundw
      case rel =>
       refine ⟨k + 1, by omega, (by congr 1), hX.trans hYA, fun m hm => ?_⟩
       rcases Nat.lt_or_ge m k with h | h
       ·exact hno m h
       ·obtain rfl : m = k := by omega
        rintro (h | ⟨q, hq, h⟩)
        ·exact h100 h
        ·exact hn2 q hq h
      case measure => first | (simp [intOf]; done) | (simp [intOf]; omega)
     ·obtain rfl := sha (by omega)
      obtain ⟨hsb1, a0, d0, o0, p0, a1, d1, o1, p1, a2, d2, o2, p2, ⟨g0, g1, g2, g3, g4⟩, hsg, -, -, -, hl0, hl1, hl2⟩ := (hss.ext hYA).at (i := j) (by omega)
      by_cases hM : ManyS (sgA (bd l k) j)
      ·have e4 : E = 4 := hE.1 (Or.inr ⟨k, by omega, Or.inr ⟨j, by omega, hM⟩⟩)
       unfold ManyS at hM
       go_wp2_with fail
       all_goals
        refine bodyPost_ret (v := .int .i64 4) ?_ rfl ⟨by first | rfl | rw [e4], ?_⟩
        ·(try simp only [bn_, bm_] at *)
         simp [results, Tryz.results85, go_sem, ↓IntWalk.iteOmega, *]
        ·exact b_6
      ·have hM2 := hM
       unfold ManyS at hM2
       go_wp2_with fail
       go_roundw
       case rel =>
        refine ⟨j + 1, by omega, (by congr 1), ex_, fun m hm => ?_⟩
        rcases Nat.lt_or_ge m j with h | h
        ·exact hn2 m h
        ·obtain rfl : m = j := by omega
         exact hM
       case measure => first | (simp [intOf]; done) | (simp [intOf]; omega)
end Go.Proofs.YtbkgakgdbmjmjaaGreat
