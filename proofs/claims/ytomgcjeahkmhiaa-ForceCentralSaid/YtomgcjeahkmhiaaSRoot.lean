/- span.root. -/
import Derived.Test.YtomgcjeahkmhiaaDivP
import Derived.Test.YtomgcjeahkmhiaaRefC
import Derived.Test.YtomgcjeahkmhiaaSpanD
set_option linter.unusedSimpArgs false
set_option linter.unusedVariables false
namespace Go.Proofs.Ytomgcjeahkmhiaa
open Go.RowKit

set_option maxRecDepth 100000 in
set_option maxHeartbeats 2000000 in
theorem s_root (x : Int) (w : World) (x0 : 0 ≤ x) (x1 : x ≤ 2305843009213693952) :
    Calls Try.prog 163 #[.int .i64 x] w fun e w' => e = .returned (.int .i64 (rootI x)) ∧ Ext w w' := by
  have hx : I64 x := by unfold I64; omega
  have hM : I64 1099511627776 := by unfold I64; omega
  go_enter Try.func163, Try.ntmps163
  go_wp2_with (first | (go_at_call 75; (with_reducible refine (times_any x 1099511627776 _ hx hM).mono ?_); rintro e w1 ⟨rfl, hb⟩; obtain ⟨_, _, hc, hf⟩ := hb.cells2; have hz := hb.size; (try simp only [World.size_alloc, World.size_setCell] at hz hc hf)))
  go_loopw [4, 5] (fun v4 v5 wr => ∃ lo hi : Int, v4 = .int .i64 lo ∧ v5 = .int .i64 hi ∧ 0 ≤ lo ∧ lo < hi ∧ hi ≤ 4503599627370496 ∧ lo * lo ≤ x * 1099511627776 ∧ x * 1099511627776 < hi * hi ∧ Ext w wr ∧ w1.heap.size < wr.heap.size ∧ wr.cell? ⟨w1.heap.size, 0, none⟩ = some (.int .i64 (x * 1099511627776 / 18446744073709551616)) ∧ wr.cell? ⟨w1.heap.size, 1, none⟩ = some (.int .u64 (x * 1099511627776 % 18446744073709551616))) (fun v4 v5 wr => (intOf v5 - intOf v4).toNat)
  case atStart =>
    refine ⟨_, _, rfl, rfl, by omega, by omega, by omega, by omega, by omega, ?_, ?_, ?_, ?_⟩
    · repeat (first | with_reducible exact Ext.refl _ | with_reducible assumption | with_reducible refine Ext.alloc ?_ _ | with_reducible refine Ext.setCell ?_ (by (try simp only [World.size_alloc, World.size_setCell]); omega) _ | with_reducible refine Ext.drewN ?_ _ | with_reducible refine Ext.drew ?_ | with_reducible refine Ext.trans ?_ (by with_reducible assumption))
    all_goals first | ((try simp only [World.size_alloc, World.size_setCell]); omega) | (simp [go_sem, ↓IntWalk.iteOmega, *]; done)
  case round =>
    obtain ⟨lo, hi, rfl, rfl, k0, k1, k2, k3, k4, hE0, hg, hc0, hc1⟩ := hrel
    have s1 : IntKind.i64.wrap (hi - lo) = hi - lo := by rw [IntKind.wrap_i64]; omega
    have s2 : IntKind.i64.wrap (lo + hi) = lo + hi := by rw [IntKind.wrap_i64]; omega
    obtain ⟨m, em⟩ : ∃ m, m = (lo + hi) / 2 := ⟨_, rfl⟩
    have s3 : (lo + hi).tdiv 2 = m := by rw [Int.tdiv_eq_ediv_of_nonneg (by omega)]; exact em.symm
    have s4 : IntKind.i64.wrap m = m := by rw [IntKind.wrap_i64]; omega
    have hm : I64 m := by unfold I64; omega
    by_cases h1 : 1 < hi - lo
    · have b1 : lo < m := by omega
      have b2 : m < hi := by omega
      have em' := Lib.hid em
      clear em
      have K3 := Lib.hid k3
      have K4 := Lib.hid k4
      clear k3 k4
      go_wp2_with fail
      refine wp_name fun W hW => ?_
      obtain ⟨hWc, hWf, hWz⟩ := hW.cells
      have hWe : Ext w W := Ext.same hW (by repeat (first | with_reducible exact Ext.refl _ | with_reducible assumption | with_reducible refine Ext.alloc ?_ _ | with_reducible refine Ext.setCell ?_ (by (try simp only [World.size_alloc, World.size_setCell]); omega) _ | with_reducible refine Ext.drewN ?_ _ | with_reducible refine Ext.drew ?_ | with_reducible refine Ext.trans ?_ (by with_reducible assumption)))
      (try simp only [World.size_alloc, World.size_setCell] at hWz)
      (try simp only [size_drew, size_drewN, World.size_alloc, World.size_setCell] at hWz)
      replace hWz := And.intro (Nat.le_of_eq hWz) (Nat.le_of_eq hWz.symm)
      have hlt : w1.heap.size < W.heap.size := by omega
      
      go_region_held3 (fun w' => (∀ b o, b < W.heap.size → w'.cell? ⟨b, o, none⟩ = if b = w1.heap.size ∧ 0 ≤ o ∧ o < 0 then (W.cell? ⟨b, o, none⟩).map (obx w' b o) else W.cell? ⟨b, o, none⟩) ∧ (∀ b o, b < W.heap.size → w'.frozen? ⟨b, o, none⟩ = W.frozen? ⟨b, o, none⟩) ∧ W.heap.size ≤ w'.heap.size ∧ Ext w w') (first | (with_reducible exact held0 hWe) | (with_reducible exact held1 (by with_reducible assumption) (by with_reducible assumption)) | (with_reducible exact held3 (by with_reducible assumption)) | ((with_reducible refine held4 (by with_reducible assumption) ?_ ?_) <;> omega) | (repeat (first | (with_reducible assumption) | (with_reducible refine held2 ?_ (by first | (refine Or.inl ⟨?_, ?_, ?_⟩ <;> (first | rfl | (dsimp only; omega))) | (refine Or.inr ?_; (try dsimp only); (try simp only [World.size_alloc, World.size_setCell]); omega)) (by (try dsimp only); (try simp only [World.size_alloc, World.size_setCell]); omega))))) ((first | (go_at_call 75; (with_reducible refine (times_any m m _ hm hm).mono ?_); rintro e w2 ⟨rfl, hb2⟩; have hz2 := hb2.size; (try rw [size_drew] at hz2)) | (go_at_call 119; (with_reducible refine (cmp_any _ _ _).mono ?_); rintro e w2 ⟨rfl, hb2⟩; have hz2 := hb2.size; (try rw [size_drew] at hz2))))
      all_goals
        rename_i hOld
        have hE := hOld.2.2.2
        have hO := And.intro hOld.1 (And.intro hOld.2.1 hOld.2.2.1)
        clear hOld
        obtain ⟨hOc, hOf, hOz⟩ := heldEnd hO
        clear hO
        go_wp2_with fail
        all_goals
          go_roundw
          case measure => simp only [intOf]; omega
          simp only [cmp_np, cmp_pos] at *
          refine ⟨_, _, rfl, rfl, by omega, by omega, by omega, by first | (with_reducible assumption) | exact K3.out, by first | (with_reducible assumption) | exact K4.out, ?_, ?_, ?_, ?_⟩
          · repeat (first | with_reducible exact Ext.refl _ | with_reducible assumption | with_reducible refine Ext.alloc ?_ _ | with_reducible refine Ext.setCell ?_ (by (try simp only [World.size_alloc, World.size_setCell]); omega) _ | with_reducible refine Ext.drewN ?_ _ | with_reducible refine Ext.drew ?_ | with_reducible refine Ext.trans ?_ (by with_reducible assumption))
          all_goals first | ((try simp only [World.size_alloc, World.size_setCell]); omega) | (simp [go_sem, ↓IntWalk.iteOmega, *]; done)

    · have h2 : hi = lo + 1 := by omega
      subst h2
      have hr : lo = rootI x := IsRoot.eq ⟨k0, k3, k4⟩
      have hr' := Lib.hid hr
      clear hr k3 k4
      go_wp2_with fail
      go_ret
      refine ⟨?_, hE0⟩
      rw [← hr'.out]
      rfl

end Go.Proofs.Ytomgcjeahkmhiaa
