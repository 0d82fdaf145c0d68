/- The reference: fractions added. -/
import Derived.Test.YtcalonhphknbbaaJ40
import Derived.Test.YtcalonhphknbbaaJ28
import Derived.Test.YtcalonhphknbbaaJ32
set_option linter.unusedSimpArgs false
set_option linter.unusedVariables false
namespace Go.Proofs.Ytcalonhphknbbaa
open Go.RowKit

/-- The box B holds the number m. -/
def Bxn (W : World) (B m : Nat) (u : Value) : Prop := W.cell? ⟨B, 0, none⟩ = some (.bool false) ∧ W.cell? ⟨B, 1, none⟩ = some u ∧ Lim W u (dig m) ∧ B < W.heap.size
theorem Bxn.ext {a w : World} {B m : Nat} {u : Value} (h : Bxn a B m u) (k : Ext a w) : Bxn w B m u :=
  ⟨(k.cells.1 _ _ h.2.2.2).trans h.1, (k.cells.1 _ _ h.2.2.2).trans h.2.1, h.2.2.1.ext k, Nat.lt_of_lt_of_le h.2.2.2 k.size⟩
theorem Bxn.nn {W : World} {B m : Nat} {u : Value} (h : Bxn W B m u) : Nn W (.agg #[.bool false, u]) m := ⟨_, rfl, h.2.2.1⟩
theorem Bxn.made {t : World} {ao : Option Addr} {cap m : Nat} (h : Lim t (.slice ao (dig m).length cap) (dig m)) :
    Bxn (t.alloc (.cells #[.bool false, .slice ao (dig m).length cap] 25)) t.heap.size m (.slice ao (dig m).length cap) ∧ Ext t (t.alloc (.cells #[.bool false, .slice ao (dig m).length cap] 25)) := by
  refine ⟨⟨?_, ?_, h.alloc _, by simp⟩, (Ext.refl t).alloc _⟩
  · simp [go_sem, ↓IntWalk.iteOmega]
  · simp [go_sem, ↓IntWalk.iteOmega]
set_option maxRecDepth 100000 in
set_option maxHeartbeats 4000000 in
theorem r_added (va vb : Value) (p q r s : Nat) (w : World) (hf : Fq w va p q) (hg : Fq w vb r s) (h1 : Small p) (h2 : Small q) (h3 : Small r) (h4 : Small s) (hS1 : Small (p * s)) (hS2 : Small (r * q)) (hS3 : Small (p * s + r * q)) (hS4 : Small (q * s)) (hq0 : 0 < q) (hs0 : 0 < s) :
    Calls Try.prog 30 #[va, vb, .bool false] w fun e w' => ∃ u, e = .returned (.tuple #[u, .int .i64 0]) ∧ Fq w' u ((p * s + r * q) / Nat.gcd (p * s + r * q) (q * s)) ((q * s) / Nat.gcd (p * s + r * q) (q * s)) ∧ Ext w w' := by
  obtain ⟨u1, s1, rfl, hp, hq⟩ := hf
  obtain ⟨u2, s2, rfl, hr, hs⟩ := hg
  obtain ⟨ao, b1, o1, cap1, rfl, -⟩ := hp.view
  obtain ⟨bo, b2, o2, cap2, rfl, -⟩ := hq.view
  obtain ⟨co, b3, o3, cap3, rfl, -⟩ := hr.view
  obtain ⟨eo, b4, o4, cap4, rfl, -⟩ := hs.view
  have hk0 : 0 < q * s := Nat.mul_pos hq0 hs0
  have hm1 := fun w1 (k1 : Ext w w1) => r_Mul (.agg #[.bool false, .slice ao (dig p).length cap1]) (.agg #[.bool false, .slice eo (dig s).length cap4]) p s w1 ⟨_, rfl, hp.ext k1⟩ ⟨_, rfl, hs.ext k1⟩ h1 h4 hS1
  have hm2 := fun w1 (k1 : Ext w w1) => r_Mul (.agg #[.bool false, .slice co (dig r).length cap3]) (.agg #[.bool false, .slice bo (dig q).length cap2]) r q w1 ⟨_, rfl, hr.ext k1⟩ ⟨_, rfl, hq.ext k1⟩ h3 h2 hS2
  have hm3 := fun w1 (k1 : Ext w w1) => r_Mul (.agg #[.bool false, .slice bo (dig q).length cap2]) (.agg #[.bool false, .slice eo (dig s).length cap4]) q s w1 ⟨_, rfl, hq.ext k1⟩ ⟨_, rfl, hs.ext k1⟩ h2 h4 hS4
  have hm5 := fun w1 va vb (k1 : Nn w1 va (p * s + r * q)) (k2 : Nn w1 vb (q * s)) => r_Reduced va vb _ _ w1 k1 k2 hS3 hS4 hk0
  obtain ⟨D, hD⟩ : ∃ D, (p * s + r * q) / Nat.gcd (p * s + r * q) (q * s) = D := ⟨_, rfl⟩
  obtain ⟨G, hG⟩ : ∃ G, (q * s) / Nat.gcd (p * s + r * q) (q * s) = G := ⟨_, rfl⟩
  rw [hD, hG] at hm5 ⊢
  clear hD hG
  go_enter Try.func30, Try.ntmps30
  go_upto_region 1 with fail
  refine wp_name fun W0 hW0 => ?_
  have hi0 : Ext w W0 ∧ W0.cell? ⟨w.heap.size, 0, none⟩ = some (.bool false) ∧ W0.cell? ⟨w.heap.size, 1, none⟩ = some (.slice ao (dig p).length cap1) ∧ W0.cell? ⟨w.heap.size, 2, none⟩ = some (.bool false) ∧ W0.cell? ⟨w.heap.size, 3, none⟩ = some (.slice bo (dig q).length cap2) ∧ W0.cell? ⟨w.heap.size + 1, 0, none⟩ = some (.bool false) ∧ W0.cell? ⟨w.heap.size + 1, 1, none⟩ = some (.slice co (dig r).length cap3) ∧ W0.cell? ⟨w.heap.size + 1, 2, none⟩ = some (.bool false) ∧ W0.cell? ⟨w.heap.size + 1, 3, none⟩ = some (.slice eo (dig s).length cap4) ∧ NoU W0 (w.heap.size + 1 + 1) ∧ (∀ o, W0.frozen? ⟨w.heap.size + 1 + 1, o, none⟩ = false) ∧ (∀ o, o < 4 → ∃ a, W0.cell? ⟨w.heap.size + 1 + 1, o, none⟩ = some a) ∧ w.heap.size + 1 + 1 < W0.heap.size := by
    have e9 : W0 = _ := hW0
    rw [e9]
    have hn := NoU.new ((w.alloc (.cells #[.bool false, .slice ao (dig p).length cap1, .bool false, .slice bo (dig q).length cap2] 27)).alloc (.cells #[.bool false, .slice co (dig r).length cap3, .bool false, .slice eo (dig s).length cap4] 27)) #[.bool false, .slice none 0 0, .bool false, .slice none 0 0] 27 (noU4 (by simp) (by simp) (by simp) (by simp))
    simp only [World.size_alloc] at hn
    refine ⟨(((Ext.refl w).alloc _).alloc _).alloc _, ?_, ?_, ?_, ?_, ?_, ?_, ?_, ?_, hn, fun o => ?_, fun o ho => ?_, by simp⟩
    all_goals try (simp [go_sem, ↓IntWalk.iteOmega]; done)
    rcases (by omega : o = 0 ∨ o = 1 ∨ o = 2 ∨ o = 3) with rfl | rfl | rfl | rfl <;> exact ⟨_, by simp [go_sem, ↓IntWalk.iteOmega]; rfl⟩
  clear hW0
  obtain ⟨hEw, c0, c1, c2, c3, c4, c5, c6, c7, hnu, hfz, hce, hsz⟩ := hi0
  have hpq : Hid (∀ W', Ext W0 W' → W'.cell? ⟨w.heap.size, 0, none⟩ = some (.bool false) ∧ W'.cell? ⟨w.heap.size, 1, none⟩ = some (.slice ao (dig p).length cap1) ∧ W'.cell? ⟨w.heap.size, 2, none⟩ = some (.bool false) ∧ W'.cell? ⟨w.heap.size, 3, none⟩ = some (.slice bo (dig q).length cap2) ∧ W'.cell? ⟨w.heap.size + 1, 0, none⟩ = some (.bool false) ∧ W'.cell? ⟨w.heap.size + 1, 1, none⟩ = some (.slice co (dig r).length cap3) ∧ W'.cell? ⟨w.heap.size + 1, 2, none⟩ = some (.bool false) ∧ W'.cell? ⟨w.heap.size + 1, 3, none⟩ = some (.slice eo (dig s).length cap4)) := (fun W' k => ⟨(k.cells.1 _ _ (by omega)).trans c0, (k.cells.1 _ _ (by omega)).trans c1, (k.cells.1 _ _ (by omega)).trans c2, (k.cells.1 _ _ (by omega)).trans c3, (k.cells.1 _ _ (by omega)).trans c4, (k.cells.1 _ _ (by omega)).trans c5, (k.cells.1 _ _ (by omega)).trans c6, (k.cells.1 _ _ (by omega)).trans c7⟩ : ∀ W', Ext W0 W' → _)
  have hbx : Hid (∀ W', Ext W0 W' → NoU W' (w.heap.size + 1 + 1) ∧ W'.frozen? ⟨w.heap.size + 1 + 1, 0, none⟩ = false ∧ W'.frozen? ⟨w.heap.size + 1 + 1, 1, none⟩ = false ∧ W'.frozen? ⟨w.heap.size + 1 + 1, 2, none⟩ = false ∧ W'.frozen? ⟨w.heap.size + 1 + 1, 3, none⟩ = false ∧ (∃ a, W'.cell? ⟨w.heap.size + 1 + 1, 0, none⟩ = some a) ∧ (∃ a, W'.cell? ⟨w.heap.size + 1 + 1, 1, none⟩ = some a) ∧ (∃ a, W'.cell? ⟨w.heap.size + 1 + 1, 2, none⟩ = some a) ∧ (∃ a, W'.cell? ⟨w.heap.size + 1 + 1, 3, none⟩ = some a)) := (fun W' k => by
    have g := fun o (ho : o < 4) => (hce o ho).imp fun a h => (k.cells.1 _ _ hsz).trans h
    exact ⟨hnu.ext hsz k, (k.cells.2 _ _ hsz).trans (hfz 0), (k.cells.2 _ _ hsz).trans (hfz 1), (k.cells.2 _ _ hsz).trans (hfz 2), (k.cells.2 _ _ hsz).trans (hfz 3), g 0 (by decide), g 1 (by decide), g 2 (by decide), g 3 (by decide)⟩ : ∀ W', Ext W0 W' → _)
  have hE0 : Ext W0 W0 := Ext.refl W0
  have hx1' := hm1 _ (hEw.trans hE0)
  clear hnu hfz hce
  go_upto_region 2 with (go_at_call 44; (with_reducible refine (hm1 _ hEw).mono ?_); rintro e t1 ⟨y1, rfl, ⟨z1, rfl, hx1⟩, hb1⟩; obtain ⟨xo1, xb1, xq1, xc1, rfl, -⟩ := hx1.view)
  refine wp_name fun W1 hW1 => ?_
  have hB1 : Bxn W1 t1.heap.size (p * s) (.slice xo1 (dig (p * s)).length xc1) ∧ Ext t1 W1 := by
    have e9 : W1 = _ := hW1
    rw [e9]
    exact Bxn.made hx1
  obtain ⟨hB1, hT1⟩ := hB1
  have hE1 : Ext W0 W1 := hE0.trans (hb1.trans hT1)
  have hN1 : Ext W0 W1 := hb1.trans hT1
  obtain ⟨c0, c1, c2, c3, c4, c5, c6, c7⟩ := hpq.out _ hE1
  clear hW1 hx1
  go_upto_region 3 with (go_at_call 44; (with_reducible refine (hm2 _ (hEw.trans hE1)).mono ?_); rintro e t2 ⟨y2, rfl, ⟨z2, rfl, hx2⟩, hb2⟩; obtain ⟨xo2, xb2, xq2, xc2, rfl, -⟩ := hx2.view)
  refine wp_name fun W2 hW2 => ?_
  have hB2 : Bxn W2 t2.heap.size (r * q) (.slice xo2 (dig (r * q)).length xc2) ∧ Ext t2 W2 := by
    have e9 : W2 = _ := hW2
    rw [e9]
    exact Bxn.made hx2
  obtain ⟨hB2, hT2⟩ := hB2
  have hE2 : Ext W0 W2 := hE1.trans (hb2.trans hT2)
  have hN2 : Ext W1 W2 := hb2.trans hT2
  obtain ⟨c0, c1, c2, c3, c4, c5, c6, c7⟩ := hpq.out _ hE2
  clear hW2 hx2
  go_upto_region 4 with (go_at_call 44; (with_reducible refine (hm3 _ (hEw.trans hE2)).mono ?_); rintro e t3 ⟨y3, rfl, ⟨z3, rfl, hx3⟩, hb3⟩; obtain ⟨xo3, xb3, xq3, xc3, rfl, -⟩ := hx3.view)
  refine wp_name fun W3 hW3 => ?_
  have hB3 : Bxn W3 t3.heap.size (q * s) (.slice xo3 (dig (q * s)).length xc3) ∧ Ext t3 W3 := by
    have e9 : W3 = _ := hW3
    rw [e9]
    exact Bxn.made hx3
  obtain ⟨hB3, hT3⟩ := hB3
  have hE3 : Ext W0 W3 := hE2.trans (hb3.trans hT3)
  have hN3 : Ext W2 W3 := hb3.trans hT3
  obtain ⟨c0, c1, c2, c3, c4, c5, c6, c7⟩ := hpq.out _ hE3
  clear hW3 hx3
  replace hB1 := (hB1.ext hN2).ext hN3
  replace hB2 := hB2.ext hN3
  have b0 := hB1.1
  have b1' := hB1.2.1
  have b2' := hB2.1
  have b3' := hB2.2.1
  go_upto_region 7 with (go_at_call 47; (with_reducible refine (r_Add _ _ _ _ _ hB1.nn hB2.nn hS1 hS2 hS3).mono ?_); rintro e t4 ⟨y4, rfl, ⟨z4, rfl, hx4⟩, hb4⟩; obtain ⟨xo4, xb4, xq4, xc4, rfl, -⟩ := hx4.view)
  refine wp_name fun W4 hW4 => ?_
  have hB4 : Bxn W4 t4.heap.size (p * s + r * q) (.slice xo4 (dig (p * s + r * q)).length xc4) ∧ Ext t4 W4 := by
    have e9 : W4 = _ := hW4
    rw [e9]
    exact Bxn.made hx4
  obtain ⟨hB4, hT4⟩ := hB4
  have hE4 : Ext W0 W4 := hE3.trans (hb4.trans hT4)
  have hN4 : Ext W3 W4 := hb4.trans hT4
  obtain ⟨c0, c1, c2, c3, c4, c5, c6, c7⟩ := hpq.out _ hE4
  clear hW4 hx4
  replace hB3 := hB3.ext hN4
  clear c0 c1 c2 c3 c4 c5 c6 c7 b0 b1' b2' b3' hB1 hB2
  have b0 := hB3.1
  have b1' := hB3.2.1
  have b2' := hB4.1
  have b3' := hB4.2.1
  go_wp2_with (go_at_call 49; (with_reducible refine (hm5 _ _ _ hB4.nn hB3.nn).mono ?_); rintro e t5 ⟨y5, rfl, ⟨u5, s5, rfl, hu5, hs5⟩, hb5⟩; obtain ⟨xo5, _, _, xc5, rfl, -⟩ := hu5.view; obtain ⟨xo6, _, _, xc6, rfl, -⟩ := hs5.view; have hE5 := hE4.trans hb5; obtain ⟨hnu, f0, f1, f2, f3, ⟨g0, e0⟩, ⟨g1, e1⟩, ⟨g2, e2⟩, ⟨g3, e3⟩⟩ := hbx.out _ hE5)
  refine bodyPost_ret (v := .tuple #[.agg #[.bool false, .slice xo5 (dig D).length xc5, .bool false, .slice xo6 (dig G).length xc6], .int .i64 0]) ?_ rfl ⟨_, rfl, ⟨_, _, rfl, ?_, ?_⟩, ?_⟩
  · simp [results, Try.results30, go_sem, ↓IntWalk.iteOmega, *]
  · refine Lim.box (Lim.box (Lim.box (Lim.box hu5 ?_) ?_) ?_) ?_ <;> (repeat (first | with_reducible exact hnu | with_reducible refine NoU.set ?_ (fun z e => by cases e)))
  · refine Lim.box (Lim.box (Lim.box (Lim.box hs5 ?_) ?_) ?_) ?_ <;> (repeat (first | with_reducible exact hnu | with_reducible refine NoU.set ?_ (fun z e => by cases e)))
  · have hEz : Ext w t5 := hEw.trans hE5
    have hle : w.heap.size ≤ w.heap.size + 1 + 1 := by omega
    exact (((hEz.setCell (p := ⟨w.heap.size + 1 + 1, 0, none⟩) hle _).setCell (p := ⟨w.heap.size + 1 + 1, 1, none⟩) hle _).setCell (p := ⟨w.heap.size + 1 + 1, 2, none⟩) hle _).setCell (p := ⟨w.heap.size + 1 + 1, 3, none⟩) hle _

end Go.Proofs.Ytcalonhphknbbaa

/- The reference: Plus, Whole. -/
namespace Go.Proofs.Ytcalonhphknbbaa
open Go.RowKit

set_option maxRecDepth 100000 in
set_option maxHeartbeats 4000000 in
theorem r_Plus (va vb : Value) (p q r s : Nat) (w : World) (hf : Fq w va p q) (hg : Fq w vb r s) (h1 : Small p) (h2 : Small q) (h3 : Small r) (h4 : Small s) (hS1 : Small (p * s)) (hS2 : Small (r * q)) (hS3 : Small (p * s + r * q)) (hS4 : Small (q * s)) (hq0 : 0 < q) (hs0 : 0 < s) :
    Calls Try.prog 18 #[va, vb] w fun e w' => ∃ u, e = .returned (.tuple #[u, .int .i64 0]) ∧ Fq w' u ((p * s + r * q) / Nat.gcd (p * s + r * q) (q * s)) ((q * s) / Nat.gcd (p * s + r * q) (q * s)) ∧ Ext w w' := by
  obtain ⟨u1, s1, rfl, hp, hq⟩ := hf
  obtain ⟨u2, s2, rfl, hr, hs⟩ := hg
  obtain ⟨ao, b1, o1, cap1, rfl, -⟩ := hp.view
  obtain ⟨bo, b2, o2, cap2, rfl, -⟩ := hq.view
  obtain ⟨co, b3, o3, cap3, rfl, -⟩ := hr.view
  obtain ⟨eo, b4, o4, cap4, rfl, -⟩ := hs.view
  have ha := fun w1 (k1 : Ext w w1) => r_added (.agg #[.bool false, .slice ao (dig p).length cap1, .bool false, .slice bo (dig q).length cap2]) (.agg #[.bool false, .slice co (dig r).length cap3, .bool false, .slice eo (dig s).length cap4]) p q r s w1 ⟨_, _, rfl, hp.ext k1, hq.ext k1⟩ ⟨_, _, rfl, hr.ext k1, hs.ext k1⟩ h1 h2 h3 h4 hS1 hS2 hS3 hS4 hq0 hs0
  obtain ⟨D, hD⟩ : ∃ D, (p * s + r * q) / Nat.gcd (p * s + r * q) (q * s) = D := ⟨_, rfl⟩
  obtain ⟨G, hG⟩ : ∃ G, (q * s) / Nat.gcd (p * s + r * q) (q * s) = G := ⟨_, rfl⟩
  rw [hD, hG] at ha ⊢
  clear hD hG
  go_enter Try.func18, Try.ntmps18
  go_wp2_with (go_at_call 30; (with_reducible refine (ha _ (by repeat (first | with_reducible exact Ext.refl _ | with_reducible assumption | with_reducible refine Ext.alloc ?_ _ | with_reducible refine Ext.setCell ?_ (by (try simp only [World.size_alloc, World.size_setCell]); omega) _ | with_reducible refine Ext.drewN ?_ _ | with_reducible refine Ext.drew ?_ | with_reducible refine Ext.trans ?_ (by with_reducible assumption)))).mono ?_); rintro e w5 ⟨y5, rfl, ⟨u5, s5, rfl, hu5, hs5⟩, hb5⟩; obtain ⟨xo5, _, _, xc5, rfl, -⟩ := hu5.view; obtain ⟨xo6, _, _, xc6, rfl, -⟩ := hs5.view; obtain ⟨_, _, hc5, hf5⟩ := hb5.cells2; have hz5 := hb5.size; (try simp only [World.size_alloc, World.size_setCell] at hz5 hc5 hf5))
  have hnu : NoU w5 (w.heap.size + 1 + 1) := by
    have := (NoU.new ((w.alloc (.cells #[.bool false, .slice ao (dig p).length cap1, .bool false, .slice bo (dig q).length cap2] 27)).alloc (.cells #[.bool false, .slice co (dig r).length cap3, .bool false, .slice eo (dig s).length cap4] 27)) #[.bool false, .slice none 0 0, .bool false, .slice none 0 0] 27 (noU4 (by simp) (by simp) (by simp) (by simp))).ext (by simp) hb5
    simpa using this
  refine bodyPost_ret (v := .tuple #[.agg #[.bool false, .slice xo5 (dig D).length xc5, .bool false, .slice xo6 (dig G).length xc6], .int .i64 0]) ?_ rfl ⟨_, rfl, ⟨_, _, rfl, ?_, ?_⟩, ?_⟩
  · simp [results, Try.results18, go_sem, ↓IntWalk.iteOmega, *]
  · refine Lim.box (Lim.box (Lim.box (Lim.box hu5 ?_) ?_) ?_) ?_ <;> (repeat (first | with_reducible exact hnu | with_reducible refine NoU.set ?_ (fun z e => by cases e)))
  · refine Lim.box (Lim.box (Lim.box (Lim.box hs5 ?_) ?_) ?_) ?_ <;> (repeat (first | with_reducible exact hnu | with_reducible refine NoU.set ?_ (fun z e => by cases e)))
  · repeat (first | with_reducible exact Ext.refl _ | with_reducible assumption | with_reducible refine Ext.alloc ?_ _ | with_reducible refine Ext.setCell ?_ (by (try simp only [World.size_alloc, World.size_setCell]); omega) _ | with_reducible refine Ext.drewN ?_ _ | with_reducible refine Ext.drew ?_ | with_reducible refine Ext.trans ?_ (by with_reducible assumption))
/-- A weight is added to a sum of weights. -/
theorem r_PlusD (va vb : Value) (S W D : Nat) (w : World) (hf : Fq w va (rn S D) (rd S D)) (hg : Fq w vb (rn W D) (rd W D)) (hS : S ≤ 70368744177664) (hW : W ≤ 70368744177664) (hD0 : 0 < D) (hD : D ≤ 70368744177664) :
    Calls Try.prog 18 #[va, vb] w fun e w' => ∃ u, e = .returned (.tuple #[u, .int .i64 0]) ∧ Fq w' u (rn (S + W) D) (rd (S + W) D) ∧ Ext w w' := by
  have a1 := Nat.le_trans (rn_le S D) hS
  have a2 := Nat.le_trans (rd_le S D) hD
  have a3 := Nat.le_trans (rn_le W D) hW
  have a4 := Nat.le_trans (rd_le W D) hD
  have m1 := mul_small a1 a4
  have m2 := mul_small a3 a2
  have m3 := mul_small a2 a4
  have h := r_Plus va vb (rn S D) (rd S D) (rn W D) (rd W D) w hf hg (small_of (by omega)) (small_of (by omega)) (small_of (by omega)) (small_of (by omega)) (small_of (by omega)) (small_of (by omega)) (small_of (by omega)) (small_of (by omega)) (rd_pos hD0) (rd_pos hD0)
  obtain ⟨e1, e2⟩ := sum_eq (S := S) (W := W) hD0
  rw [← e1, ← e2]
  exact h
set_option maxRecDepth 100000 in
set_option maxHeartbeats 4000000 in
theorem r_Whole (n : Nat) (w : World) (hn : n < 9223372036854775808) :
    Calls Try.prog 23 #[.int .i64 n] w fun e w' => ∃ u, e = .returned u ∧ Fq w' u n 1 ∧ Ext w w' := by
  have hF : ∀ w, Calls Try.prog 27 #[.int .i64 1] w fun e w' => ∃ u, e = .returned u ∧ Nn w' u 1 ∧ Ext w w' := fun w => r_From 1 w (by decide)
  go_enter Try.func23, Try.ntmps23
  go_wp2_with (first
    | (go_at_call 27; (with_reducible refine (r_From n _ hn).mono ?_); rintro e w1 ⟨y1, rfl, ⟨y2, rfl, hx⟩, hb1⟩; obtain ⟨ao5, b5, o5, cap5, rfl, -⟩ := hx.view; obtain ⟨_, _, hc1, hf1⟩ := hb1.cells2; have hz1 := hb1.size; (try simp only [World.size_alloc, World.size_setCell] at hz1 hc1 hf1))
    | (go_at_call 27; (with_reducible refine (hF _).mono ?_); rintro e w2 ⟨y3, rfl, ⟨y4, rfl, hy⟩, hb2⟩; obtain ⟨ao7, b7, o7, cap7, rfl, -⟩ := hy.view; obtain ⟨_, _, hc2, hf2⟩ := hb2.cells2; have hz2 := hb2.size; (try simp only [World.size_alloc, World.size_setCell] at hz2 hc2 hf2); replace hx := hx.ext hb2))
  have hnu : NoU w2 w.heap.size := (NoU.new w _ _ (noU4 (by simp) (by simp) (by simp) (by simp))).ext (by simp) ((by repeat (first | with_reducible exact Ext.refl _ | with_reducible assumption | with_reducible refine Ext.alloc ?_ _ | with_reducible refine Ext.setCell ?_ (by (try simp only [World.size_alloc, World.size_setCell]); omega) _ | with_reducible refine Ext.drewN ?_ _ | with_reducible refine Ext.drew ?_ | with_reducible refine Ext.trans ?_ (by with_reducible assumption))) : Ext (w.alloc (.cells #[.bool false, .slice none 0 0, .bool false, .slice none 0 0] 27)) w2)
  refine bodyPost_ret (v := .agg #[.bool false, .slice ao5 (dig n).length cap5, .bool false, .slice ao7 (dig 1).length cap7]) ?_ rfl ⟨_, rfl, ⟨_, _, rfl, ?_, ?_⟩, ?_⟩
  · simp [results, Try.results23, go_sem, ↓IntWalk.iteOmega, *]
  · refine Lim.box (Lim.box (Lim.box (Lim.box hx ?_) ?_) ?_) ?_ <;> (repeat (first | with_reducible exact hnu | with_reducible refine NoU.set ?_ (fun z e => by cases e)))
  · refine Lim.box (Lim.box (Lim.box (Lim.box hy ?_) ?_) ?_) ?_ <;> (repeat (first | with_reducible exact hnu | with_reducible refine NoU.set ?_ (fun z e => by cases e)))
  · repeat (first | with_reducible exact Ext.refl _ | with_reducible assumption | with_reducible refine Ext.alloc ?_ _ | with_reducible refine Ext.setCell ?_ (by (try simp only [World.size_alloc, World.size_setCell]); omega) _ | with_reducible refine Ext.drewN ?_ _ | with_reducible refine Ext.drew ?_ | with_reducible refine Ext.trans ?_ (by with_reducible assumption))

end Go.Proofs.Ytcalonhphknbbaa
