/- The reference: fractions made and compared. -/
import Derived.Test.YtcalonhphknbbaaJ19
import Derived.Test.YtcalonhphknbbaaJ27
set_option linter.unusedSimpArgs false
set_option linter.unusedVariables false
namespace Go.Proofs.Ytcalonhphknbbaa
open Go.RowKit

set_option maxRecDepth 100000 in
set_option maxHeartbeats 4000000 in
theorem r_Reduced (va vb : Value) (m k : Nat) (w : World) (ha : Nn w va m) (hb0 : Nn w vb k) (hs : Small m) (hs2 : Small k) (hk0 : 0 < k) :
    Calls Try.prog 49 #[va, vb] w fun e w' => ∃ u, e = .returned u ∧ Fq w' u (m / Nat.gcd m k) (k / Nat.gcd m k) ∧ Ext w w' := by
  obtain ⟨u, rfl, hu⟩ := ha
  obtain ⟨s, rfl, hv⟩ := hb0
  obtain ⟨ao, b1, o1, cap1, rfl, -⟩ := hu.view
  obtain ⟨bo, b2, o2, cap2, rfl, -⟩ := hv.view
  obtain ⟨g, hg⟩ : ∃ g, Nat.gcd m k = g := ⟨_, rfl⟩
  have hg0 : 0 < g := hg ▸ Nat.gcd_pos_of_pos_right m hk0
  have hsg : Small g := Nat.le_trans (dig_mono (hg ▸ Nat.gcd_le_right m hk0)) hs2
  have h1 := fun w1 (k1 : Ext w w1) => r_Gcd (.agg #[.bool false, .slice ao (dig m).length cap1]) (.agg #[.bool false, .slice bo (dig k).length cap2]) m k w1 ⟨_, rfl, hu.ext k1⟩ ⟨_, rfl, hv.ext k1⟩ hs hs2
  rw [hg] at h1 ⊢
  clear hg
  have h2 := fun w1 (k1 : Ext w w1) vg (hn : Nn w1 vg g) => r_DivMod (.agg #[.bool false, .slice ao (dig m).length cap1]) vg m g w1 ⟨_, rfl, hu.ext k1⟩ hn hs hg0 hsg
  have h3 := fun w1 (k1 : Ext w w1) vg (hn : Nn w1 vg g) => r_DivMod (.agg #[.bool false, .slice bo (dig k).length cap2]) vg k g w1 ⟨_, rfl, hv.ext k1⟩ hn hs2 hg0 hsg
  go_enter Try.func49, Try.ntmps49
  go_upto_region 6 with (first
    | (go_at_call 26; (with_reducible refine (h1 _ (by repeat (first | with_reducible exact Ext.refl _ | with_reducible assumption | with_reducible refine Ext.alloc ?_ _ | with_reducible refine Ext.setCell ?_ (by (try simp only [World.size_alloc, World.size_setCell]); omega) _ | with_reducible refine Ext.drewN ?_ _ | with_reducible refine Ext.drew ?_ | with_reducible refine Ext.trans ?_ (by with_reducible assumption)))).mono ?_); rintro e w1 ⟨y1, rfl, hng, hb1⟩; have hngb := hng; obtain ⟨y2, rfl, hgu⟩ := hngb; obtain ⟨ao3, b3, o3, cap3, rfl, -⟩ := hgu.view; obtain ⟨_, _, hc1, hf1⟩ := hb1.cells2; have hz1 := hb1.size; (try simp only [World.size_alloc, World.size_setCell] at hz1 hc1 hf1))
    | (go_at_call 67; (with_reducible refine (h2 _ (by repeat (first | with_reducible exact Ext.refl _ | with_reducible assumption | with_reducible refine Ext.alloc ?_ _ | with_reducible refine Ext.setCell ?_ (by (try simp only [World.size_alloc, World.size_setCell]); omega) _ | with_reducible refine Ext.drewN ?_ _ | with_reducible refine Ext.drew ?_ | with_reducible refine Ext.trans ?_ (by with_reducible assumption))) _ (hng.ext (by repeat (first | with_reducible exact Ext.refl _ | with_reducible assumption | with_reducible refine Ext.alloc ?_ _ | with_reducible refine Ext.setCell ?_ (by (try simp only [World.size_alloc, World.size_setCell]); omega) _ | with_reducible refine Ext.drewN ?_ _ | with_reducible refine Ext.drew ?_ | with_reducible refine Ext.trans ?_ (by with_reducible assumption))))).mono ?_); rintro e w3 ⟨y3, y4, rfl, ⟨y5, rfl, hx⟩, ⟨y6, rfl, hxr⟩, hb3⟩; obtain ⟨ao5, b5, o5, cap5, rfl, -⟩ := hx.view; obtain ⟨ao6, b6, o6, cap6, rfl, -⟩ := hxr.view; obtain ⟨_, _, hc3, hf3⟩ := hb3.cells2; have hz3 := hb3.size; (try simp only [World.size_alloc, World.size_setCell] at hz3 hc3 hf3); clear h2)
    | (go_at_call 67; (with_reducible refine (h3 _ (by repeat (first | with_reducible exact Ext.refl _ | with_reducible assumption | with_reducible refine Ext.alloc ?_ _ | with_reducible refine Ext.setCell ?_ (by (try simp only [World.size_alloc, World.size_setCell]); omega) _ | with_reducible refine Ext.drewN ?_ _ | with_reducible refine Ext.drew ?_ | with_reducible refine Ext.trans ?_ (by with_reducible assumption))) _ (hng.ext (by repeat (first | with_reducible exact Ext.refl _ | with_reducible assumption | with_reducible refine Ext.alloc ?_ _ | with_reducible refine Ext.setCell ?_ (by (try simp only [World.size_alloc, World.size_setCell]); omega) _ | with_reducible refine Ext.drewN ?_ _ | with_reducible refine Ext.drew ?_ | with_reducible refine Ext.trans ?_ (by with_reducible assumption))))).mono ?_); rintro e w4 ⟨y7, y8, rfl, ⟨y9, rfl, hy⟩, ⟨y10, rfl, hyr⟩, hb4⟩; obtain ⟨ao7, b7, o7, cap7, rfl, -⟩ := hy.view; obtain ⟨ao8, b8, o8, cap8, rfl, -⟩ := hyr.view; obtain ⟨_, _, hc4, hf4⟩ := hb4.cells2; have hz4 := hb4.size; (try simp only [World.size_alloc, World.size_setCell] at hz4 hc4 hf4)))
  refine wp_name fun W hW => ?_
  obtain ⟨hWc, hWf, hWz⟩ := hW.cells
  have hWE : Ext w W := Ext.same hW (by repeat (first | with_reducible exact Ext.refl _ | with_reducible assumption | with_reducible refine Ext.alloc ?_ _ | with_reducible refine Ext.setCell ?_ (by (try simp only [World.size_alloc, World.size_setCell]); omega) _ | with_reducible refine Ext.drewN ?_ _ | with_reducible refine Ext.drew ?_ | with_reducible refine Ext.trans ?_ (by with_reducible assumption)))
  have hA0 : Ext (((w.alloc (.cells #[.bool false, .slice ao (dig m).length cap1] 25)).alloc (.cells #[.bool false, .slice bo (dig k).length cap2] 25)).alloc (.cells #[.bool false, .slice none 0 0, .bool false, .slice none 0 0] 27)) W := Ext.same hW (by repeat (first | with_reducible exact Ext.refl _ | with_reducible assumption | with_reducible refine Ext.alloc ?_ _ | with_reducible refine Ext.setCell ?_ (by (try simp only [World.size_alloc, World.size_setCell]); omega) _ | with_reducible refine Ext.drewN ?_ _ | with_reducible refine Ext.drew ?_ | with_reducible refine Ext.trans ?_ (by with_reducible assumption)))
  have hnu : NoU W (w.heap.size + 1 + 1) := by
    have := (NoU.new ((w.alloc (.cells #[.bool false, .slice ao (dig m).length cap1] 25)).alloc (.cells #[.bool false, .slice bo (dig k).length cap2] 25)) #[.bool false, .slice none 0 0, .bool false, .slice none 0 0] 27 (noU4 (by simp) (by simp) (by simp) (by simp))).ext (by simp) hA0
    simpa using this
  have hxW := hx.ext (Ext.same hW (by repeat (first | with_reducible exact Ext.refl _ | with_reducible assumption | with_reducible refine Ext.alloc ?_ _ | with_reducible refine Ext.setCell ?_ (by (try simp only [World.size_alloc, World.size_setCell]); omega) _ | with_reducible refine Ext.drewN ?_ _ | with_reducible refine Ext.drew ?_ | with_reducible refine Ext.trans ?_ (by with_reducible assumption))) : Ext w3 W)
  have hyW := hy.ext (Ext.same hW (by repeat (first | with_reducible exact Ext.refl _ | with_reducible assumption | with_reducible refine Ext.alloc ?_ _ | with_reducible refine Ext.setCell ?_ (by (try simp only [World.size_alloc, World.size_setCell]); omega) _ | with_reducible refine Ext.drewN ?_ _ | with_reducible refine Ext.drew ?_ | with_reducible refine Ext.trans ?_ (by with_reducible assumption))) : Ext w4 W)
  clear hW
  go_wp2_with fail
  refine bodyPost_ret (v := .agg #[.bool false, .slice ao5 (dig (m / g)).length cap5, .bool false, .slice ao7 (dig (k / g)).length cap7]) ?_ rfl ⟨_, rfl, ⟨_, _, rfl, ?_, ?_⟩, ?_⟩
  · simp [results, Try.results49, go_sem, ↓IntWalk.iteOmega, *]
  · refine Lim.box (Lim.box (Lim.box (Lim.box hxW ?_) ?_) ?_) ?_ <;> (repeat (first | with_reducible exact hnu | with_reducible refine NoU.set ?_ (fun z e => by cases e)))
  · refine Lim.box (Lim.box (Lim.box (Lim.box hyW ?_) ?_) ?_) ?_ <;> (repeat (first | with_reducible exact hnu | with_reducible refine NoU.set ?_ (fun z e => by cases e)))
  · repeat (first | with_reducible exact Ext.refl _ | with_reducible assumption | with_reducible refine Ext.alloc ?_ _ | with_reducible refine Ext.setCell ?_ (by (try simp only [World.size_alloc, World.size_setCell]); omega) _ | with_reducible refine Ext.drewN ?_ _ | with_reducible refine Ext.drew ?_ | with_reducible refine Ext.trans ?_ (by with_reducible assumption))
set_option maxRecDepth 100000 in
set_option maxHeartbeats 4000000 in
theorem r_Make (va vb : Value) (m k : Nat) (w : World) (ha : Nn w va m) (hb0 : Nn w vb k) (hs : Small m) (hs2 : Small k) (hk0 : 0 < k) :
    Calls Try.prog 46 #[va, vb] w fun e w' => ∃ u, e = .returned (.tuple #[u, .int .i64 0]) ∧ Fq w' u (m / Nat.gcd m k) (k / Nat.gcd m k) ∧ Ext w w' := by
  obtain ⟨u, rfl, hu⟩ := ha
  obtain ⟨s, rfl, hv⟩ := hb0
  obtain ⟨ao, b1, o1, cap1, rfl, -⟩ := hu.view
  obtain ⟨bo, b2, o2, cap2, rfl, -⟩ := hv.view
  have hl1 := dig_pos.2 hk0
  have z0 : (((dig k).length : Int) == 0) = false := by simp; intro e; rw [e] at hl1; simp at hl1
  clear hl1
  have h1 := fun w1 (k1 : Ext w w1) => r_Check (.agg #[.bool false, .slice ao (dig m).length cap1]) m w1 ⟨_, rfl, hu.ext k1⟩ hs
  have h2 := fun w1 (k1 : Ext w w1) => r_Check (.agg #[.bool false, .slice bo (dig k).length cap2]) k w1 ⟨_, rfl, hv.ext k1⟩ hs2
  have h4 := fun w1 (k1 : Ext w w1) => r_Reduced (.agg #[.bool false, .slice ao (dig m).length cap1]) (.agg #[.bool false, .slice bo (dig k).length cap2]) m k w1 ⟨_, rfl, hu.ext k1⟩ ⟨_, rfl, hv.ext k1⟩ hs hs2 hk0
  generalize m / Nat.gcd m k = m1 at *
  generalize k / Nat.gcd m k = k1 at *
  go_enter Try.func46, Try.ntmps46
  go_wp2_with (first
    | (go_at_call 25; (with_reducible refine (h1 _ (by repeat (first | with_reducible exact Ext.refl _ | with_reducible assumption | with_reducible refine Ext.alloc ?_ _ | with_reducible refine Ext.setCell ?_ (by (try simp only [World.size_alloc, World.size_setCell]); omega) _ | with_reducible refine Ext.drewN ?_ _ | with_reducible refine Ext.drew ?_ | with_reducible refine Ext.trans ?_ (by with_reducible assumption)))).mono ?_); rintro e w1 ⟨rfl, hb1⟩; obtain ⟨_, _, hc1, hf1⟩ := hb1.cells2; have hz1 := hb1.size; (try simp only [World.size_alloc, World.size_setCell] at hz1 hc1 hf1); clear h1)
    | (go_at_call 25; (with_reducible refine (h2 _ (by repeat (first | with_reducible exact Ext.refl _ | with_reducible assumption | with_reducible refine Ext.alloc ?_ _ | with_reducible refine Ext.setCell ?_ (by (try simp only [World.size_alloc, World.size_setCell]); omega) _ | with_reducible refine Ext.drewN ?_ _ | with_reducible refine Ext.drew ?_ | with_reducible refine Ext.trans ?_ (by with_reducible assumption)))).mono ?_); rintro e w2 ⟨rfl, hb2⟩; obtain ⟨_, _, hc2, hf2⟩ := hb2.cells2; have hz2 := hb2.size; (try simp only [World.size_alloc, World.size_setCell] at hz2 hc2 hf2); clear h2)
    | (go_at_call 49; (with_reducible refine (h4 _ (by repeat (first | with_reducible exact Ext.refl _ | with_reducible assumption | with_reducible refine Ext.alloc ?_ _ | with_reducible refine Ext.setCell ?_ (by (try simp only [World.size_alloc, World.size_setCell]); omega) _ | with_reducible refine Ext.drewN ?_ _ | with_reducible refine Ext.drew ?_ | with_reducible refine Ext.trans ?_ (by with_reducible assumption)))).mono ?_); rintro e w4 ⟨y4, rfl, ⟨y5, y6, rfl, hx, hy⟩, hb4⟩; obtain ⟨ao5, b5, o5, cap5, rfl, -⟩ := hx.view; obtain ⟨ao7, b7, o7, cap7, rfl, -⟩ := hy.view; obtain ⟨_, _, hc4, hf4⟩ := hb4.cells2; have hz4 := hb4.size; (try simp only [World.size_alloc, World.size_setCell] at hz4 hc4 hf4)))
  have hA0 : Ext (((w.alloc (.cells #[.bool false, .slice ao (dig m).length cap1] 25)).alloc (.cells #[.bool false, .slice bo (dig k).length cap2] 25)).alloc (.cells #[.bool false, .slice none 0 0, .bool false, .slice none 0 0] 27)) w4 := (by repeat (first | with_reducible exact Ext.refl _ | with_reducible assumption | with_reducible refine Ext.alloc ?_ _ | with_reducible refine Ext.setCell ?_ (by (try simp only [World.size_alloc, World.size_setCell]); omega) _ | with_reducible refine Ext.drewN ?_ _ | with_reducible refine Ext.drew ?_ | with_reducible refine Ext.trans ?_ (by with_reducible assumption)))
  have hnu : NoU w4 (w.heap.size + 1 + 1) := by
    have := (NoU.new ((w.alloc (.cells #[.bool false, .slice ao (dig m).length cap1] 25)).alloc (.cells #[.bool false, .slice bo (dig k).length cap2] 25)) #[.bool false, .slice none 0 0, .bool false, .slice none 0 0] 27 (noU4 (by simp) (by simp) (by simp) (by simp))).ext (by simp) hA0
    simpa using this
  refine bodyPost_ret (v := .tuple #[.agg #[.bool false, .slice ao5 (dig m1).length cap5, .bool false, .slice ao7 (dig k1).length cap7], .int .i64 0]) ?_ rfl ⟨_, rfl, ⟨_, _, rfl, ?_, ?_⟩, ?_⟩
  · simp [results, Try.results46, go_sem, ↓IntWalk.iteOmega, *]
  · refine Lim.box (Lim.box (Lim.box (Lim.box hx ?_) ?_) ?_) ?_ <;> (repeat (first | with_reducible exact hnu | with_reducible refine NoU.set ?_ (fun z e => by cases e)))
  · refine Lim.box (Lim.box (Lim.box (Lim.box hy ?_) ?_) ?_) ?_ <;> (repeat (first | with_reducible exact hnu | with_reducible refine NoU.set ?_ (fun z e => by cases e)))
  · repeat (first | with_reducible exact Ext.refl _ | with_reducible assumption | with_reducible refine Ext.alloc ?_ _ | with_reducible refine Ext.setCell ?_ (by (try simp only [World.size_alloc, World.size_setCell]); omega) _ | with_reducible refine Ext.drewN ?_ _ | with_reducible refine Ext.drew ?_ | with_reducible refine Ext.trans ?_ (by with_reducible assumption))
set_option maxRecDepth 100000 in
set_option maxHeartbeats 4000000 in
theorem r_Of (n d : Nat) (w : World) (hn : n < 9223372036854775808) (hd : d < 9223372036854775808) (h0 : 0 < d) :
    Calls Try.prog 29 #[.int .i64 n, .int .i64 d] w fun e w' => ∃ u, e = .returned (.tuple #[u, .int .i64 0]) ∧ Fq w' u (n / Nat.gcd n d) (d / Nat.gcd n d) ∧ Ext w w' := by
  have h1 := fun w1 va vb (ha : Nn w1 va n) (hb : Nn w1 vb d) => r_Make va vb n d w1 ha hb (dig_len2 hn) (dig_len2 hd) h0
  generalize n / Nat.gcd n d = m1 at *
  generalize d / Nat.gcd n d = k1 at *
  go_enter Try.func29, Try.ntmps29
  go_wp2_with (first
    | (go_at_call 27; (with_reducible refine (r_From n _ hn).mono ?_); rintro e w1 ⟨y1, rfl, hn1, hb1⟩; obtain ⟨_, _, hc1, hf1⟩ := hb1.cells2; have hz1 := hb1.size; (try simp only [World.size_alloc, World.size_setCell] at hz1 hc1 hf1))
    | (go_at_call 27; (with_reducible refine (r_From d _ hd).mono ?_); rintro e w2 ⟨y2, rfl, hn2, hb2⟩; obtain ⟨_, _, hc2, hf2⟩ := hb2.cells2; have hz2 := hb2.size; (try simp only [World.size_alloc, World.size_setCell] at hz2 hc2 hf2); replace hn1 := hn1.ext hb2)
    | (go_at_call 46; (with_reducible refine (h1 _ _ _ hn1 hn2).mono ?_); rintro e w3 ⟨y3, rfl, ⟨y4, y5, rfl, hx, hy⟩, hb3⟩; obtain ⟨ao5, b5, o5, cap5, rfl, -⟩ := hx.view; obtain ⟨ao7, b7, o7, cap7, rfl, -⟩ := hy.view; obtain ⟨_, _, hc3, hf3⟩ := hb3.cells2; have hz3 := hb3.size; (try simp only [World.size_alloc, World.size_setCell] at hz3 hc3 hf3)))
  have hnu : NoU w3 w.heap.size := (NoU.new w _ _ (noU4 (by simp) (by simp) (by simp) (by simp))).ext (by simp) ((by repeat (first | with_reducible exact Ext.refl _ | with_reducible assumption | with_reducible refine Ext.alloc ?_ _ | with_reducible refine Ext.setCell ?_ (by (try simp only [World.size_alloc, World.size_setCell]); omega) _ | with_reducible refine Ext.drewN ?_ _ | with_reducible refine Ext.drew ?_ | with_reducible refine Ext.trans ?_ (by with_reducible assumption))) : Ext (w.alloc (.cells #[.bool false, .slice none 0 0, .bool false, .slice none 0 0] 27)) w3)
  refine bodyPost_ret (v := .tuple #[.agg #[.bool false, .slice ao5 (dig m1).length cap5, .bool false, .slice ao7 (dig k1).length cap7], .int .i64 0]) ?_ rfl ⟨_, rfl, ⟨_, _, rfl, ?_, ?_⟩, ?_⟩
  · simp [results, Try.results29, go_sem, ↓IntWalk.iteOmega, *]
  · refine Lim.box (Lim.box (Lim.box (Lim.box hx ?_) ?_) ?_) ?_ <;> (repeat (first | with_reducible exact hnu | with_reducible refine NoU.set ?_ (fun z e => by cases e)))
  · refine Lim.box (Lim.box (Lim.box (Lim.box hy ?_) ?_) ?_) ?_ <;> (repeat (first | with_reducible exact hnu | with_reducible refine NoU.set ?_ (fun z e => by cases e)))
  · repeat (first | with_reducible exact Ext.refl _ | with_reducible assumption | with_reducible refine Ext.alloc ?_ _ | with_reducible refine Ext.setCell ?_ (by (try simp only [World.size_alloc, World.size_setCell]); omega) _ | with_reducible refine Ext.drewN ?_ _ | with_reducible refine Ext.drew ?_ | with_reducible refine Ext.trans ?_ (by with_reducible assumption))
set_option maxRecDepth 100000 in
set_option maxHeartbeats 4000000 in
theorem r_fSame (va vb : Value) (p q r s : Nat) (w : World) (hf : Fq w va p q) (hg : Fq w vb r s) :
    Calls Try.prog 10 #[va, vb] w fun e w' => e = .returned (.bool (decide (p = r) && decide (q = s))) ∧ Ext w w' := by
  obtain ⟨u1, s1, rfl, hp, hq⟩ := hf
  obtain ⟨u2, s2, rfl, hr, hs⟩ := hg
  obtain ⟨ao, b1, o1, cap1, rfl, -⟩ := hp.view
  obtain ⟨bo, b2, o2, cap2, rfl, -⟩ := hq.view
  obtain ⟨co, b3, o3, cap3, rfl, -⟩ := hr.view
  obtain ⟨eo, b4, o4, cap4, rfl, -⟩ := hs.view
  have h1 := fun w1 (k1 : Ext w w1) => r_Same (.agg #[.bool false, .slice ao (dig p).length cap1]) (.agg #[.bool false, .slice co (dig r).length cap3]) p r w1 ⟨_, rfl, hp.ext k1⟩ ⟨_, rfl, hr.ext k1⟩
  have h2 := fun w1 (k1 : Ext w w1) => r_Same (.agg #[.bool false, .slice bo (dig q).length cap2]) (.agg #[.bool false, .slice eo (dig s).length cap4]) q s w1 ⟨_, rfl, hq.ext k1⟩ ⟨_, rfl, hs.ext k1⟩
  generalize decide (p = r) = d1 at *
  generalize decide (q = s) = d2 at *
  cases d1 with
  | false =>
    go_enter Try.func10, Try.ntmps10
    go_wp2_with (go_at_call 24; (with_reducible refine (h1 _ (by repeat (first | with_reducible exact Ext.refl _ | with_reducible assumption | with_reducible refine Ext.alloc ?_ _ | with_reducible refine Ext.setCell ?_ (by (try simp only [World.size_alloc, World.size_setCell]); omega) _ | with_reducible refine Ext.drewN ?_ _ | with_reducible refine Ext.drew ?_ | with_reducible refine Ext.trans ?_ (by with_reducible assumption)))).mono ?_); rintro e w1 ⟨rfl, hb1⟩; obtain ⟨_, _, hc1, hf1⟩ := hb1.cells2; have hz1 := hb1.size; (try simp only [World.size_alloc, World.size_setCell] at hz1 hc1 hf1); clear h1)
    go_ret
    exact ⟨rfl, (by repeat (first | with_reducible exact Ext.refl _ | with_reducible assumption | with_reducible refine Ext.alloc ?_ _ | with_reducible refine Ext.setCell ?_ (by (try simp only [World.size_alloc, World.size_setCell]); omega) _ | with_reducible refine Ext.drewN ?_ _ | with_reducible refine Ext.drew ?_ | with_reducible refine Ext.trans ?_ (by with_reducible assumption)))⟩
  | true =>
    go_enter Try.func10, Try.ntmps10
    go_wp2_with (first
      | (go_at_call 24; (with_reducible refine (h1 _ (by repeat (first | with_reducible exact Ext.refl _ | with_reducible assumption | with_reducible refine Ext.alloc ?_ _ | with_reducible refine Ext.setCell ?_ (by (try simp only [World.size_alloc, World.size_setCell]); omega) _ | with_reducible refine Ext.drewN ?_ _ | with_reducible refine Ext.drew ?_ | with_reducible refine Ext.trans ?_ (by with_reducible assumption)))).mono ?_); rintro e w1 ⟨rfl, hb1⟩; obtain ⟨_, _, hc1, hf1⟩ := hb1.cells2; have hz1 := hb1.size; (try simp only [World.size_alloc, World.size_setCell] at hz1 hc1 hf1); clear h1)
      | (go_at_call 24; (with_reducible refine (h2 _ (by repeat (first | with_reducible exact Ext.refl _ | with_reducible assumption | with_reducible refine Ext.alloc ?_ _ | with_reducible refine Ext.setCell ?_ (by (try simp only [World.size_alloc, World.size_setCell]); omega) _ | with_reducible refine Ext.drewN ?_ _ | with_reducible refine Ext.drew ?_ | with_reducible refine Ext.trans ?_ (by with_reducible assumption)))).mono ?_); rintro e w2 ⟨rfl, hb2⟩; obtain ⟨_, _, hc2, hf2⟩ := hb2.cells2; have hz2 := hb2.size; (try simp only [World.size_alloc, World.size_setCell] at hz2 hc2 hf2); clear h2))
    go_ret
    exact ⟨by simp, (by repeat (first | with_reducible exact Ext.refl _ | with_reducible assumption | with_reducible refine Ext.alloc ?_ _ | with_reducible refine Ext.setCell ?_ (by (try simp only [World.size_alloc, World.size_setCell]); omega) _ | with_reducible refine Ext.drewN ?_ _ | with_reducible refine Ext.drew ?_ | with_reducible refine Ext.trans ?_ (by with_reducible assumption)))⟩

end Go.Proofs.Ytcalonhphknbbaa
