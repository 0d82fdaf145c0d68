/- planisphereref03.root. -/
import Derived.Test.YtomgcjeahkmhiaaDivP
import Derived.Test.YtomgcjeahkmhiaaRefC
import Derived.Test.YtomgcjeahkmhiaaRefD
import Derived.Test.YtomgcjeahkmhiaaEqs
set_option linter.unusedSimpArgs false
set_option linter.unusedVariables false
namespace Go.Proofs.Ytomgcjeahkmhiaa
open Go.RowKit

theorem eq_long (s s' : Bool) (h l h' l' : Int) (d : Nat) (w : World) : (Op.equalIn (d + 1 + 1) 158 (.agg #[.bool s, .int .u64 h, .int .u64 l]) (.agg #[.bool s', .int .u64 h', .int .u64 l'])).run Try.prog w = .ok (s == s' && (h == h' && l == l')) w := by
  rw [run_equalIn_agg w (d + 1) 158 _ _ (by simp [Program.fieldsOf, Try.underlying158]) (by kernel_rfl)]
  simp [Op.eqFields, Program.fieldsOf, Try.underlying158, go_sem, Try.underlying111, Try.underlying4]
  cases s <;> cases s' <;> by_cases e : h = h' <;> by_cases e2 : l = l' <;> simp [e, e2, go_sem]

theorem long_eq (T U : Int) (hT : 0 ≤ T) (hU : 0 ≤ U) : (decide (T < 0) == decide (U < 0) && (absv T / 18446744073709551616 == absv U / 18446744073709551616 && absv T % 18446744073709551616 == absv U % 18446744073709551616)) = decide (T = U) := by
  have e1 : absv T = T := by unfold absv; rw [if_neg (by omega)]
  have e2 : absv U = U := by unfold absv; rw [if_neg (by omega)]
  have f1 : decide (T < 0) = false := by simp; omega
  have f2 : decide (U < 0) = false := by simp; omega
  rw [e1, e2, f1, f2]
  by_cases h : T = U
  · subst h; simp
  · simp [h]; omega

theorem pow_half {b : Int} {k : Nat} (h : b = 2 ^ k) : (b / 2 = 0 ∧ b = 1) ∨ (0 < b / 2 ∧ b = 2 * (b / 2) ∧ ∃ j : Nat, b / 2 = 2 ^ j) := by
  cases k with
  | zero => left; subst h; decide
  | succ j =>
    right
    have e : b = 2 * 2 ^ j := by rw [h, Int.pow_succ]; omega
    have p : (0 : Int) < 2 ^ j := Int.pow_pos (by omega)
    have q : b / 2 = 2 ^ j := by omega
    exact ⟨by omega, by omega, j, q⟩
theorem stepA {X r b : Int} {k : Nat} (hX : X < (r + 2 * b) * (r + 2 * b)) (h : b = 2 ^ k) : (b / 2 = 0 ∧ X < (r + b + 1) * (r + b + 1)) ∨ (0 < b / 2 ∧ X < (r + b + 2 * (b / 2)) * (r + b + 2 * (b / 2)) ∧ ∃ k : Nat, b / 2 = 2 ^ k) := by
  rcases pow_half h with ⟨h1, h2⟩ | ⟨h1, h2, h3⟩
  · left
    have e : r + b + 1 = r + 2 * b := by omega
    rw [e]; exact ⟨h1, hX⟩
  · right
    have e : r + b + 2 * (b / 2) = r + 2 * b := by omega
    rw [e]; exact ⟨h1, hX, h3⟩
theorem stepB {X r b : Int} {k : Nat} (hX : X < (r + b) * (r + b)) (h : b = 2 ^ k) : (b / 2 = 0 ∧ X < (r + 1) * (r + 1)) ∨ (0 < b / 2 ∧ X < (r + 2 * (b / 2)) * (r + 2 * (b / 2)) ∧ ∃ k : Nat, b / 2 = 2 ^ k) := by
  rcases pow_half h with ⟨h1, h2⟩ | ⟨h1, h2, h3⟩
  · left
    have e : r + 1 = r + b := by omega
    rw [e]; exact ⟨h1, hX⟩
  · right
    have e : r + 2 * (b / 2) = r + b := by omega
    rw [e]; exact ⟨h1, hX, h3⟩

set_option maxRecDepth 100000 in
set_option maxHeartbeats 2000000 in
theorem r_root (x : Int) (w : World) (x0 : 0 ≤ x) (x1 : x ≤ 2305843009213693952) :
    Calls Try.prog 164 #[.int .i64 x] w fun e w' => e = .returned (.tuple #[.int .i64 (rootI x), .bool (decide (rootI x * rootI x = x * 1099511627776))]) ∧ Ext w w' := by
  have hx : I64 x := by unfold I64; omega
  have hM : I64 1099511627776 := by unfold I64; omega
  go_enter Try.func164, Try.ntmps164
  go_wp2_with (first | (go_at_call 129; (with_reducible refine (ref_times x 1099511627776 _ hx hM).mono ?_); rintro e w1 ⟨rfl, hb⟩; obtain ⟨_, _, hc, hf⟩ := hb.cells2; have hz := hb.size; (try simp only [World.size_alloc, World.size_setCell] at hz hc hf)))
  go_loopw [5, 6] (fun v5 v6 wr => ∃ r b : Int, v5 = .int .i64 r ∧ v6 = .int .i64 b ∧ 0 ≤ r ∧ r + 2 * b ≤ 4503599627370496 ∧ r * r ≤ x * 1099511627776 ∧ ((b = 0 ∧ x * 1099511627776 < (r + 1) * (r + 1)) ∨ (0 < b ∧ x * 1099511627776 < (r + 2 * b) * (r + 2 * b) ∧ ∃ k : Nat, b = 2 ^ k)) ∧ Ext w wr ∧ w1.heap.size < wr.heap.size ∧ wr.cell? ⟨w1.heap.size, 0, none⟩ = some (.bool (decide (x * 1099511627776 < 0))) ∧ wr.cell? ⟨w1.heap.size, 1, none⟩ = some (.int .u64 (absv (x * 1099511627776) / 18446744073709551616)) ∧ wr.cell? ⟨w1.heap.size, 2, none⟩ = some (.int .u64 (absv (x * 1099511627776) % 18446744073709551616))) (fun v5 v6 wr => (intOf v6).toNat)
  case atStart =>
    refine ⟨_, _, rfl, rfl, by omega, by omega, by omega, Or.inr ⟨by omega, by omega, 51, by decide⟩, ?_, ?_, ?_, ?_, ?_⟩
    · repeat (first | with_reducible exact Ext.refl _ | with_reducible assumption | with_reducible refine Ext.alloc ?_ _ | with_reducible refine Ext.setCell ?_ (by (try simp only [World.size_alloc, World.size_setCell]); omega) _ | with_reducible refine Ext.drewN ?_ _ | with_reducible refine Ext.drew ?_ | with_reducible refine Ext.trans ?_ (by with_reducible assumption))
    all_goals first | ((try simp only [World.size_alloc, World.size_setCell]); omega) | (simp [go_sem, ↓IntWalk.iteOmega, *]; done)
  case round =>
    obtain ⟨r, b, rfl, rfl, k0, k1, k3, k4, hE0, hg, hc0, hc1, hc2⟩ := hrel
    have K3 := Lib.hid k3
    have K4 := Lib.hid k4
    clear k3 k4
    by_cases h1 : 0 < b
    · have s1 : IntKind.i64.wrap (r + b) = r + b := by rw [IntKind.wrap_i64]; omega
      have hm : I64 (r + b) := by unfold I64; omega
      obtain ⟨hX, k, hk⟩ : x * 1099511627776 < (r + 2 * b) * (r + 2 * b) ∧ ∃ k : Nat, b = 2 ^ k := by
        rcases K4.out with h | h
        · omega
        · exact h.2
      have HX := Lib.hid hX
      have HK := Lib.hid hk
      clear hX hk K4
      go_wp2_with fail
      refine wp_name fun W hW => ?_
      obtain ⟨hWc, hWf, hWz⟩ := hW.cells
      have hWe : Ext w W := Ext.same hW (by repeat (first | with_reducible exact Ext.refl _ | with_reducible assumption | with_reducible refine Ext.alloc ?_ _ | with_reducible refine Ext.setCell ?_ (by (try simp only [World.size_alloc, World.size_setCell]); omega) _ | with_reducible refine Ext.drewN ?_ _ | with_reducible refine Ext.drew ?_ | with_reducible refine Ext.trans ?_ (by with_reducible assumption)))
      (try simp only [World.size_alloc, World.size_setCell] at hWz)
      (try simp only [size_drew, size_drewN, World.size_alloc, World.size_setCell] at hWz)
      replace hWz := And.intro (Nat.le_of_eq hWz) (Nat.le_of_eq hWz.symm)
      have hlt : w1.heap.size < W.heap.size := by omega
      
      go_region_held3 (fun w' => (∀ b o, b < W.heap.size → w'.cell? ⟨b, o, none⟩ = if b = w1.heap.size ∧ 0 ≤ o ∧ o < 0 then (W.cell? ⟨b, o, none⟩).map (obx w' b o) else W.cell? ⟨b, o, none⟩) ∧ (∀ b o, b < W.heap.size → w'.frozen? ⟨b, o, none⟩ = W.frozen? ⟨b, o, none⟩) ∧ W.heap.size ≤ w'.heap.size ∧ Ext w w') (first | (with_reducible exact held0 hWe) | (with_reducible exact held1 (by with_reducible assumption) (by with_reducible assumption)) | (with_reducible exact held3 (by with_reducible assumption)) | ((with_reducible refine held4 (by with_reducible assumption) ?_ ?_) <;> omega) | (repeat (first | (with_reducible assumption) | (with_reducible refine held2 ?_ (by first | (refine Or.inl ⟨?_, ?_, ?_⟩ <;> (first | rfl | (dsimp only; omega))) | (refine Or.inr ?_; (try dsimp only); (try simp only [World.size_alloc, World.size_setCell]); omega)) (by (try dsimp only); (try simp only [World.size_alloc, World.size_setCell]); omega))))) ((first | (go_at_call 129; (with_reducible refine (ref_times (r + b) (r + b) _ hm hm).mono ?_); rintro e w2 ⟨rfl, hb2⟩; have hz2 := hb2.size; (try rw [size_drew] at hz2)) | (go_at_call 130; (with_reducible refine (ref_less2 _ _ _).mono ?_); rintro e w3 ⟨⟨B, hB, rfl⟩, hb3⟩; have hz3 := hb3.size; (try rw [size_drew] at hz3))))
      all_goals
        rename_i hOld
        have hE := hOld.2.2.2
        have hO := And.intro hOld.1 (And.intro hOld.2.1 hOld.2.2.1)
        clear hOld
        obtain ⟨hOc, hOf, hOz⟩ := heldEnd hO
        clear hO
        go_wp2_with fail
        all_goals
          go_roundw
          case measure => simp only [intOf]; omega
          have hB2 := hB.out
          simp only [Bool.not_eq_true', Bool.not_eq_false', Bool.not_eq_eq_eq_not, Bool.not_true, Bool.not_false] at *
          simp only [*, Bool.false_eq_true, false_iff, true_iff] at hB2
          first | (refine ⟨r + b, b / 2, rfl, rfl, by omega, by omega, Int.not_lt.1 hB2, stepA HX.out HK.out, ?_, ?_, ?_, ?_, ?_⟩) | (refine ⟨r, b / 2, rfl, rfl, by omega, by omega, K3.out, stepB hB2 HK.out, ?_, ?_, ?_, ?_, ?_⟩)
          · repeat (first | with_reducible exact Ext.refl _ | with_reducible assumption | with_reducible refine Ext.alloc ?_ _ | with_reducible refine Ext.setCell ?_ (by (try simp only [World.size_alloc, World.size_setCell]); omega) _ | with_reducible refine Ext.drewN ?_ _ | with_reducible refine Ext.drew ?_ | with_reducible refine Ext.trans ?_ (by with_reducible assumption))
          all_goals first | ((try simp only [World.size_alloc, World.size_setCell]); omega) | (simp [go_sem, ↓IntWalk.iteOmega, *]; done)

    · have hr0 : IsRoot x r := by
        refine ⟨k0, K3.out, ?_⟩
        rcases K4.out with h | h
        · exact h.2
        · omega
      have hr := Lib.hid hr0.eq
      have hm : I64 r := by
        have q : 0 ≤ b := by
          rcases K4.out with h | h
          · omega
          · omega
        unfold I64; omega
      have n158 : ∀ (s s' : Bool) (h l h' l' : Int) (w : World), (Op.equalIn 10000 158 (.agg #[.bool s, .int .u64 h, .int .u64 l]) (.agg #[.bool s', .int .u64 h', .int .u64 l'])).run Try.prog w = .ok (s == s' && (h == h' && l == l')) w := fun s s' h l h' l' w => eq_long s s' h l h' l' 9998 w
      have m158 : Try.prog.eqGuardType Try.prog.depth 158 = false := by kernel_rfl
      have hq := Lib.hid (long_eq (r * r) (x * 1099511627776) (Int.mul_nonneg k0 k0) (by omega))
      clear hr0 K4 K3
      go_wp2_with fail
      refine wp_name fun W hW => ?_
      obtain ⟨hWc, hWf, hWz⟩ := hW.cells
      have hWe : Ext w W := Ext.same hW (by repeat (first | with_reducible exact Ext.refl _ | with_reducible assumption | with_reducible refine Ext.alloc ?_ _ | with_reducible refine Ext.setCell ?_ (by (try simp only [World.size_alloc, World.size_setCell]); omega) _ | with_reducible refine Ext.drewN ?_ _ | with_reducible refine Ext.drew ?_ | with_reducible refine Ext.trans ?_ (by with_reducible assumption)))
      (try simp only [World.size_alloc, World.size_setCell] at hWz)
      (try simp only [size_drew, size_drewN, World.size_alloc, World.size_setCell] at hWz)
      replace hWz := And.intro (Nat.le_of_eq hWz) (Nat.le_of_eq hWz.symm)
      have hlt : w1.heap.size < W.heap.size := by omega
      
      go_region_held3 (fun w' => (∀ b o, b < W.heap.size → w'.cell? ⟨b, o, none⟩ = if b = w1.heap.size ∧ 0 ≤ o ∧ o < 0 then (W.cell? ⟨b, o, none⟩).map (obx w' b o) else W.cell? ⟨b, o, none⟩) ∧ (∀ b o, b < W.heap.size → w'.frozen? ⟨b, o, none⟩ = W.frozen? ⟨b, o, none⟩) ∧ W.heap.size ≤ w'.heap.size ∧ Ext w w') (first | (with_reducible exact held0 hWe) | (with_reducible exact held1 (by with_reducible assumption) (by with_reducible assumption)) | (with_reducible exact held3 (by with_reducible assumption)) | ((with_reducible refine held4 (by with_reducible assumption) ?_ ?_) <;> omega) | (repeat (first | (with_reducible assumption) | (with_reducible refine held2 ?_ (by first | (refine Or.inl ⟨?_, ?_, ?_⟩ <;> (first | rfl | (dsimp only; omega))) | (refine Or.inr ?_; (try dsimp only); (try simp only [World.size_alloc, World.size_setCell]); omega)) (by (try dsimp only); (try simp only [World.size_alloc, World.size_setCell]); omega))))) ((first | (go_at_call 129; (with_reducible refine (ref_times r r _ hm hm).mono ?_); rintro e w2 ⟨rfl, hb2⟩; have hz2 := hb2.size; (try rw [size_drew] at hz2))))
      all_goals
        rename_i hOld
        have hE := hOld.2.2.2
        have hO := And.intro hOld.1 (And.intro hOld.2.1 hOld.2.2.1)
        clear hOld
        obtain ⟨hOc, hOf, hOz⟩ := heldEnd hO
        clear hO
        go_wp2_with fail
        go_ret2
        refine ⟨?_, hE⟩
        rw [← hr.out, ← hq.out]
        rfl

end Go.Proofs.Ytomgcjeahkmhiaa
