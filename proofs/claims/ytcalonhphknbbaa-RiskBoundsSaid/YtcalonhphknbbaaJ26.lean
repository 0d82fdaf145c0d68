/- The reference: the greatest common divisor. -/
import Derived.Test.YtcalonhphknbbaaJ23
import Derived.Test.YtcalonhphknbbaaJ25
import Derived.Test.YtcalonhphknbbaaJ10
import Derived.Deep.QuietTactic
import Derived.BigQuiet
set_option linter.unusedSimpArgs false
set_option linter.unusedVariables false
namespace Go.Proofs.Ytcalonhphknbbaa
open Go.RowKit

set_option maxRecDepth 100000 in
set_option maxHeartbeats 4000000 in
theorem r_Gcd (va vb : Value) (m k : Nat) (w : World) (ha : Nn w va m) (hb0 : Nn w vb k) (hs : Small m) (hs2 : Small k) :
    Calls Try.prog 26 #[va, vb] w fun e w' => ∃ u, e = .returned (.tuple #[u, .int .i64 0]) ∧ Nn w' u (Nat.gcd m k) ∧ Ext w w' := by
  obtain ⟨u, rfl, hu⟩ := ha
  obtain ⟨s, rfl, hv⟩ := hb0
  obtain ⟨ao, b1, o1, cap1, rfl, -⟩ := hu.view
  obtain ⟨bo, b2, o2, cap2, rfl, -⟩ := hv.view
  have hbo := fun w1 (k1 : Ext w w1) => r_both (.agg #[.bool false, .slice ao (dig m).length cap1]) (.agg #[.bool false, .slice bo (dig k).length cap2]) m k w1 ⟨_, rfl, hu.ext k1⟩ ⟨_, rfl, hv.ext k1⟩ hs hs2
  go_enter Try.func26, Try.ntmps26
  go_upto_region 3 with (go_at_call 40; (with_reducible refine (hbo _ (by repeat (first | with_reducible exact Ext.refl _ | with_reducible assumption | with_reducible refine Ext.alloc ?_ _ | with_reducible refine Ext.setCell ?_ (by (try simp only [World.size_alloc, World.size_setCell]); omega) _ | with_reducible refine Ext.drewN ?_ _ | with_reducible refine Ext.drew ?_ | with_reducible refine Ext.trans ?_ (by with_reducible assumption)))).mono ?_); rintro e w1 ⟨rfl, hb⟩)
  have hEA : Ext w (((w.alloc (.cells #[.bool false, .slice ao (dig m).length cap1] 25)).alloc (.cells #[.bool false, .slice bo (dig k).length cap2] 25)).alloc (.cells #[.bool false, .slice none 0 0] 25)) := (by repeat (first | with_reducible exact Ext.refl _ | with_reducible assumption | with_reducible refine Ext.alloc ?_ _ | with_reducible refine Ext.setCell ?_ (by (try simp only [World.size_alloc, World.size_setCell]); omega) _ | with_reducible refine Ext.drewN ?_ _ | with_reducible refine Ext.drew ?_ | with_reducible refine Ext.trans ?_ (by with_reducible assumption)))
  have hE1 := hEA.trans hb
  have k1 : w1.cell? ⟨w.heap.size, 1, none⟩ = some (.slice ao (dig m).length cap1) := (hb.cells.1 _ 1 (by simp; omega)).trans (by simp [go_sem, ↓IntWalk.iteOmega])
  have k3 : w1.cell? ⟨w.heap.size + 1, 1, none⟩ = some (.slice bo (dig k).length cap2) := (hb.cells.1 _ 1 (by simp)).trans (by simp [go_sem, ↓IntWalk.iteOmega])
  have hA4 : w.heap.size + 1 + 1 < w1.heap.size := by have := hb.size; simp only [World.size_alloc] at this; omega
  have c0 : w1.cell? ⟨w.heap.size + 1 + 1, 0, none⟩ = some (.bool false) := (hb.cells.1 _ 0 (by simp)).trans (by simp [go_sem, ↓IntWalk.iteOmega])
  have c1 : w1.cell? ⟨w.heap.size + 1 + 1, 1, none⟩ = some (.slice none 0 0) := (hb.cells.1 _ 1 (by simp)).trans (by simp [go_sem, ↓IntWalk.iteOmega])
  have f0 : ∀ o, w1.frozen? ⟨w.heap.size + 1 + 1, o, none⟩ = false := fun o => (hb.cells.2 _ o (by simp)).trans (by simp [go_sem, ↓IntWalk.iteOmega])
  have hnu : NoU w1 (w.heap.size + 1 + 1) := by
    have := (NoU.new ((w.alloc (.cells #[.bool false, .slice ao (dig m).length cap1] 25)).alloc (.cells #[.bool false, .slice bo (dig k).length cap2] 25)) #[.bool false, .slice none 0 0] 25 (noU2 (by simp) (by simp))).ext (by simp) hb
    simpa using this
  clear hbo hb hEA
  go_quiet (fail)
  go_wp2_with fail
  go_loopw [6, 7] (fun p q wr => ∃ a c : Nat, Small a ∧ Small c ∧ Hid (Nat.gcd a c = Nat.gcd m k) ∧ Hid (Lim wr p (dig a)) ∧ Hid (Lim wr q (dig c)) ∧ Hid (Ext w1 wr)) (fun _ q wr => lmeas wr q)
  case atStart => exact ⟨m, k, hs, hs2, rfl, hu.ext (hE1.trans ((Ext.refl _).drewN _)), hv.ext (hE1.trans ((Ext.refl _).drewN _)), (Ext.refl _).drewN _⟩
  case round =>
    obtain ⟨a, c, a1, cc1, hg, HA, HC, HB⟩ := hrel
    obtain ⟨ao4, b4, o4, cap4, rfl, -⟩ := HA.out.view
    obtain ⟨ao5, b5, o5, cap5, rfl, -⟩ := HC.out.view
    rcases Nat.eq_zero_or_pos c with h0 | h0
    · subst h0
      have hl0 : (dig 0).length = 0 := rfl
      have hga : Hid (a = Nat.gcd m k) := by show a = _; rw [← hg.out, Nat.gcd_zero_right]
      rw [hl0]
      have hla : (dig a).length ≤ 4096 := a1
      go_wp2_with (go_at_call 42; (with_reducible refine (r_madeN _ (dig a) a _ HA.out (dig_val a) hla).mono ?_); rintro e w5 ⟨y16, rfl, hu6, hb6⟩; obtain ⟨ao7, b7, o7, cap7, rfl, _⟩ := hu6.view; have hEx := HB.out.trans hb6; have d0 := (hEx.cells.1 _ 0 hA4).trans c0; have d1 := (hEx.cells.1 _ 1 hA4).trans c1; have g0 := (hEx.cells.2 _ 0 hA4).trans (f0 0); have g1 := (hEx.cells.2 _ 1 hA4).trans (f0 1); have hnv := hnu.ext hA4 hEx)
      rw [← hga.out]
      refine bodyPost_ret (v := .tuple #[.agg #[.bool false, .slice ao7 (dig a).length cap7], .int .i64 0]) ?_ rfl ⟨_, rfl, ⟨_, rfl, ?_⟩, ?_⟩
      · simp [results, Try.results26, go_sem, ↓IntWalk.iteOmega, d0, d1]
      · exact Lim.box (Lim.box hu6 hnv) (NoU.set hnv (fun z e => by cases e))
      · exact ((hE1.trans hEx).setCell (p := ⟨w.heap.size + 1 + 1, 0, none⟩) (by dsimp only; omega) _).setCell (p := ⟨w.heap.size + 1 + 1, 1, none⟩) (by dsimp only; omega) _
    · have hl1 : 0 < (dig c).length := dig_pos.2 h0
      have hdv := r_over _ _ (dig a) (dig c) wr HA.out HC.out (dig_nz a) (dig_nz c) (by unfold Small at a1; omega) hl1
      have hmeas : lmeas wr (.slice ao5 (dig c).length cap5) = c := HC.out.meas
      go_wp2_with (go_at_call 41; (with_reducible refine hdv.mono ?_); rintro e w4 ⟨y14, y15, qs, rs, rfl, hq, hr, nq, nr, hval, hlt, hb5⟩)
      obtain ⟨eq, er⟩ := div_dig hq.lb hr.lb nq nr hval hlt
      rw [er] at hr
      have hrc : a % c < c := Nat.mod_lt _ h0
      have hm2 : lmeas w4 y15 = a % c := hr.meas
      go_roundw
      case rel => exact ⟨c, a % c, cc1, Nat.le_trans (dig_mono (Nat.le_of_lt hrc)) cc1, (by rw [Nat.gcd_comm, ← Nat.gcd_rec, Nat.gcd_comm, hg.out] : _ = _), HC.out.ext hb5, hr, HB.out.trans hb5⟩
      case measure => rw [hm2, hmeas]; exact hrc

end Go.Proofs.Ytcalonhphknbbaa
