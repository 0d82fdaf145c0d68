/- The reference: fractions made and compared.; The reference: fractions added.; The reference: fractions checked and compared.; The reference: numbers with signs: made, checked, turned.; Rows made and appended to at a step of a drawn region; boxes beside them.; The reference: times a power of 2. -/
import Derived.Test.YtogblocakccbgaaGreatJ00
import Derived.Test.YtogblocakccbgaaGreatJ10
import Derived.Test.YtogblocakccbgaaGreatJ24
import Derived.Test.YtogblocakccbgaaGreatJ22
import Derived.Test.YtogblocakccbgaaGreatJ21
import Derived.Test.YtogblocakccbgaaGreatJ05
import Derived.Test.YtogblocakccbgaaGreatJ07
import Derived.Test.YtogblocakccbgaaGreatJ06
import Derived.Deep.AppendLies
set_option linter.unusedSimpArgs false
set_option linter.unusedVariables false
set_option maxRecDepth 100000
set_option maxHeartbeats 4000000
namespace Go.Proofs.YtogblocakccbgaaGreat
open Go.RowKit
theorem T_RJ_3 {p : Prop} (h : p := by
 refine Lim.box (Lim.box (Lim.box (Lim.box hy ?_) ?_) ?_) ?_ <;> (repeat (first | with_reducible exact hnu | with_reducible refine NoU.set ?_ (fun z e => by cases e)))) : p := h
theorem T_RJ_2 {p : Prop} (h : p := by
 refine Lim.box (Lim.box (Lim.box (Lim.box hx ?_) ?_) ?_) ?_ <;> (repeat (first | with_reducible exact hnu | with_reducible refine NoU.set ?_ (fun z e => by cases e)))) : p := h
theorem T_RJ_1 {p : Prop} (h : p := by
 have := (NoU.new ((w.alloc (.cells #[.bool false, .slice ao (dig m).length cap1] 24)).alloc (.cells #[.bool false, .slice bo (dig k).length cap2] 24)) #[.bool false, .slice none 0 0, .bool false, .slice none 0 0] 145 (noU4 (by simp) (by simp) (by simp) (by simp))).ext (by simp) hA0
 simpa using this) : p := h
theorem r_Reduced (va vb : Value) (m k : Nat) (w : World) (ha : Nn w va m) (hb0 : Nn w vb k) (hs : Small m) (hs2 : Small k) (hk0 : 0 < k) :
    Calls Tryz.prog 195 #[va, vb] w fun e w' => ∃ u, e = .returned u ∧ Fq w' u (m / Nat.gcd m k) (k / Nat.gcd m k) ∧ Ext w w' := by
 obtain ⟨u, rfl, hu⟩ := ha
 obtain ⟨s, rfl, hv⟩ := hb0
 obtain ⟨ao, b1, o1, cap1, rfl, -⟩ := hu.view
 obtain ⟨bo, b2, o2, cap2, rfl, -⟩ := hv.view
 obtain ⟨g, hg⟩ : ∃ g, Nat.gcd m k = g := ⟨_, rfl⟩
 have hg0 : 0 < g := hg ▸ Nat.gcd_pos_of_pos_right m hk0
 have hsg : Small g := Nat.le_trans (dig_mono (hg ▸ Nat.gcd_le_right m hk0)) hs2
 have h1 := fun w1 (k1 : Ext w w1) => r_Gcd (.agg #[.bool false, .slice ao (dig m).length cap1]) (.agg #[.bool false, .slice bo (dig k).length cap2]) m k w1 ⟨_, rfl, hu.ext k1⟩ ⟨_, rfl, hv.ext k1⟩ hs hs2
 rw [hg] at h1 ⊢
 clear hg
 have h2 := fun w1 (k1 : Ext w w1) vg (hn : Nn w1 vg g) => r_DivMod (.agg #[.bool false, .slice ao (dig m).length cap1]) vg m g w1 ⟨_, rfl, hu.ext k1⟩ hn hs hg0 hsg
 have h3 := fun w1 (k1 : Ext w w1) vg (hn : Nn w1 vg g) => r_DivMod (.agg #[.bool false, .slice bo (dig k).length cap2]) vg k g w1 ⟨_, rfl, hv.ext k1⟩ hn hs2 hg0 hsg
 go_enter Tryz.func195, Tryz.ntmps195
 go_upto_region 6 with (first
  | (go_at_call 196; (with_reducible refine (h1 _ ex_).mono ?_); rintro e w1 ⟨y1, rfl, hng, hb1⟩; have hngb := hng; obtain ⟨y2, rfl, hgu⟩ := hngb; obtain ⟨ao3, b3, o3, cap3, rfl, -⟩ := hgu.view; obtain ⟨_, _, hc1, hf1⟩ := hb1.cells2; have hz1 := hb1.size; (try simp only [wsz] at hz1 hc1 hf1))
  | (go_at_call 134; (with_reducible refine (h2 _ ex_ _ (hng.ext ex_)).mono ?_); rintro e w3 ⟨y3, y4, rfl, ⟨y5, rfl, hx⟩, ⟨y6, rfl, hxr⟩, hb3⟩; obtain ⟨ao5, b5, o5, cap5, rfl, -⟩ := hx.view; obtain ⟨ao6, b6, o6, cap6, rfl, -⟩ := hxr.view; obtain ⟨_, _, hc3, hf3⟩ := hb3.cells2; have hz3 := hb3.size; (try simp only [wsz] at hz3 hc3 hf3); clear h2)
  | (go_at_call 134; (with_reducible refine (h3 _ ex_ _ (hng.ext ex_)).mono ?_); rintro e w4 ⟨y7, y8, rfl, ⟨y9, rfl, hy⟩, ⟨y10, rfl, hyr⟩, hb4⟩; obtain ⟨ao7, b7, o7, cap7, rfl, -⟩ := hy.view; obtain ⟨ao8, b8, o8, cap8, rfl, -⟩ := hyr.view; obtain ⟨_, _, hc4, hf4⟩ := hb4.cells2; have hz4 := hb4.size; (try simp only [wsz] at hz4 hc4 hf4)))
 refine wp_name fun W hW => ?_
 obtain ⟨hWc, hWf, hWz⟩ := hW.cells
 have hWE : Ext w W := Ext.same hW ex_
 have hA0 : Ext (((w.alloc (.cells #[.bool false, .slice ao (dig m).length cap1] 24)).alloc (.cells #[.bool false, .slice bo (dig k).length cap2] 24)).alloc (.cells #[.bool false, .slice none 0 0, .bool false, .slice none 0 0] 145)) W := Ext.same hW ex_
 have hnu : NoU W (w.heap.size + 1 + 1) := by
  exact T_RJ_1
 have hxW := hx.ext (Ext.same hW ex_ : Ext w3 W)
 have hyW := hy.ext (Ext.same hW ex_ : Ext w4 W)
 clear hW
 go_wp2_with fail
 refine bodyPost_ret (v := .agg #[.bool false, .slice ao5 (dig (m / g)).length cap5, .bool false, .slice ao7 (dig (k / g)).length cap7]) ?_ rfl ⟨_, rfl, ⟨_, _, rfl, ?_, ?_⟩, ?_⟩
 ·simp [results, Tryz.results195, go_sem, ↓IntWalk.iteOmega, *]
 ·refine Lim.box (Lim.box (Lim.box (Lim.box hxW ?_) ?_) ?_) ?_ <;> (repeat (first | with_reducible exact hnu | with_reducible refine NoU.set ?_ (fun z e => by cases e)))
 ·refine Lim.box (Lim.box (Lim.box (Lim.box hyW ?_) ?_) ?_) ?_ <;> (repeat (first | with_reducible exact hnu | with_reducible refine NoU.set ?_ (fun z e => by cases e)))
 ·exact ex_
theorem r_Make (va vb : Value) (m k : Nat) (w : World) (ha : Nn w va m) (hb0 : Nn w vb k) (hs : Small m) (hs2 : Small k) (hk0 : 0 < k) :
    Calls Tryz.prog 162 #[va, vb] w fun e w' => ∃ u, e = .returned (.tuple #[u, .int .i64 0]) ∧ Fq w' u (m / Nat.gcd m k) (k / Nat.gcd m k) ∧ Ext w w' := by
 obtain ⟨u, rfl, hu⟩ := ha
 obtain ⟨s, rfl, hv⟩ := hb0
 obtain ⟨ao, b1, o1, cap1, rfl, -⟩ := hu.view
 obtain ⟨bo, b2, o2, cap2, rfl, -⟩ := hv.view
 have hl1 := dig_pos.2 hk0
 have z0 : (((dig k).length : Int) == 0) = false := by simp; intro e; rw [e] at hl1; simp at hl1
 clear hl1
 have h1 := fun w1 (k1 : Ext w w1) => r_Check (.agg #[.bool false, .slice ao (dig m).length cap1]) m w1 ⟨_, rfl, hu.ext k1⟩ hs
 have h2 := fun w1 (k1 : Ext w w1) => r_Check (.agg #[.bool false, .slice bo (dig k).length cap2]) k w1 ⟨_, rfl, hv.ext k1⟩ hs2
 have h4 := fun w1 (k1 : Ext w w1) => r_Reduced (.agg #[.bool false, .slice ao (dig m).length cap1]) (.agg #[.bool false, .slice bo (dig k).length cap2]) m k w1 ⟨_, rfl, hu.ext k1⟩ ⟨_, rfl, hv.ext k1⟩ hs hs2 hk0
 generalize m / Nat.gcd m k = m1 at *
 generalize k / Nat.gcd m k = k1 at *
 go_enter Tryz.func162, Tryz.ntmps162
 go_wp2_with (first
  | (go_at_call 129; (with_reducible refine (h1 _ ex_).mono ?_); rintro e w1 ⟨rfl, hb1⟩; obtain ⟨_, _, hc1, hf1⟩ := hb1.cells2; have hz1 := hb1.size; (try simp only [wsz] at hz1 hc1 hf1); clear h1)
  | (go_at_call 129; (with_reducible refine (h2 _ ex_).mono ?_); rintro e w2 ⟨rfl, hb2⟩; obtain ⟨_, _, hc2, hf2⟩ := hb2.cells2; have hz2 := hb2.size; (try simp only [wsz] at hz2 hc2 hf2); clear h2)
  | (go_at_call 195; (with_reducible refine (h4 _ ex_).mono ?_); rintro e w4 ⟨y4, rfl, ⟨y5, y6, rfl, hx, hy⟩, hb4⟩; obtain ⟨ao5, b5, o5, cap5, rfl, -⟩ := hx.view; obtain ⟨ao7, b7, o7, cap7, rfl, -⟩ := hy.view; obtain ⟨_, _, hc4, hf4⟩ := hb4.cells2; have hz4 := hb4.size; (try simp only [wsz] at hz4 hc4 hf4)))
 have hA0 : Ext (((w.alloc (.cells #[.bool false, .slice ao (dig m).length cap1] 24)).alloc (.cells #[.bool false, .slice bo (dig k).length cap2] 24)).alloc (.cells #[.bool false, .slice none 0 0, .bool false, .slice none 0 0] 145)) w4 := ex_
 have hnu : NoU w4 (w.heap.size + 1 + 1) := by
  exact T_RJ_1
 refine bodyPost_ret (v := .tuple #[.agg #[.bool false, .slice ao5 (dig m1).length cap5, .bool false, .slice ao7 (dig k1).length cap7], .int .i64 0]) ?_ rfl ⟨_, rfl, ⟨_, _, rfl, ?_, ?_⟩, ?_⟩
 ·simp [results, Tryz.results162, go_sem, ↓IntWalk.iteOmega, *]
 ·exact T_RJ_2
 ·exact T_RJ_3
 ·exact ex_
theorem r_Of (n d : Nat) (w : World) (hn : n < 9223372036854775808) (hd : d < 9223372036854775808) (h0 : 0 < d) :
    Calls Tryz.prog 102 #[.int .i64 n, .int .i64 d] w fun e w' => ∃ u, e = .returned (.tuple #[u, .int .i64 0]) ∧ Fq w' u (n / Nat.gcd n d) (d / Nat.gcd n d) ∧ Ext w w' := by
 have h1 := fun w1 va vb (ha : Nn w1 va n) (hb : Nn w1 vb d) => r_Make va vb n d w1 ha hb (dig_len2 hn) (dig_len2 hd) h0
 generalize n / Nat.gcd n d = m1 at *
 generalize d / Nat.gcd n d = k1 at *
 go_enter Tryz.func102, Tryz.ntmps102
 go_wp2_with (first
  | (go_at_call 23; (with_reducible refine (r_From n _ hn).mono ?_); rintro e w1 ⟨y1, rfl, hn1, hb1⟩; obtain ⟨_, _, hc1, hf1⟩ := hb1.cells2; have hz1 := hb1.size; (try simp only [wsz] at hz1 hc1 hf1))
  | (go_at_call 23; (with_reducible refine (r_From d _ hd).mono ?_); rintro e w2 ⟨y2, rfl, hn2, hb2⟩; obtain ⟨_, _, hc2, hf2⟩ := hb2.cells2; have hz2 := hb2.size; (try simp only [wsz] at hz2 hc2 hf2); replace hn1 := hn1.ext hb2)
  | (go_at_call 162; (with_reducible refine (h1 _ _ _ hn1 hn2).mono ?_); rintro e w3 ⟨y3, rfl, ⟨y4, y5, rfl, hx, hy⟩, hb3⟩; obtain ⟨ao5, b5, o5, cap5, rfl, -⟩ := hx.view; obtain ⟨ao7, b7, o7, cap7, rfl, -⟩ := hy.view; obtain ⟨_, _, hc3, hf3⟩ := hb3.cells2; have hz3 := hb3.size; (try simp only [wsz] at hz3 hc3 hf3)))
 have hnu : NoU w3 w.heap.size := (NoU.new w _ _ (noU4 (by simp) (by simp) (by simp) (by simp))).ext (by simp) (ex_ : Ext (w.alloc (.cells #[.bool false, .slice none 0 0, .bool false, .slice none 0 0] 145)) w3)
 refine bodyPost_ret (v := .tuple #[.agg #[.bool false, .slice ao5 (dig m1).length cap5, .bool false, .slice ao7 (dig k1).length cap7], .int .i64 0]) ?_ rfl ⟨_, rfl, ⟨_, _, rfl, ?_, ?_⟩, ?_⟩
 ·simp [results, Tryz.results102, go_sem, ↓IntWalk.iteOmega, *]
 ·exact T_RJ_2
 ·exact T_RJ_3
 ·exact ex_
def Bxn (W : World) (B m : Nat) (u : Value) : Prop := W.cell? ⟨B, 0, none⟩ = some (.bool false) ∧ W.cell? ⟨B, 1, none⟩ = some u ∧ Lim W u (dig m) ∧ B < W.heap.size
theorem Bxn.ext {a w : World} {B m : Nat} {u : Value} (h : Bxn a B m u) (k : Ext a w) : Bxn w B m u :=
 ⟨(k.cells.1 _ _ h.2.2.2).trans h.1, (k.cells.1 _ _ h.2.2.2).trans h.2.1, h.2.2.1.ext k, Nat.lt_of_lt_of_le h.2.2.2 k.size⟩
theorem Bxn.nn {W : World} {B m : Nat} {u : Value} (h : Bxn W B m u) : Nn W (.agg #[.bool false, u]) m := ⟨_, rfl, h.2.2.1⟩
theorem Bxn.made {t : World} {ao : Option Addr} {cap m : Nat} (h : Lim t (.slice ao (dig m).length cap) (dig m)) :
    Bxn (t.alloc (.cells #[.bool false, .slice ao (dig m).length cap] 24)) t.heap.size m (.slice ao (dig m).length cap) ∧ Ext t (t.alloc (.cells #[.bool false, .slice ao (dig m).length cap] 24)) := by
 refine ⟨⟨?_, ?_, h.alloc _, by simp⟩, (Ext.refl t).alloc _⟩
 ·simp [go_sem, ↓IntWalk.iteOmega]
 ·simp [go_sem, ↓IntWalk.iteOmega]
theorem r_fCheck (va : Value) (p q : Nat) (w : World) (hf : Fq w va p q) (h1 : Small p) (h2 : Small q) (hq0 : 0 < q) (hg : Nat.gcd p q = 1) :
    Calls Tryz.prog 163 #[va] w fun e w' => e = .returned (.int .i64 0) ∧ Ext w w' := by
 obtain ⟨u1, s1, rfl, hp, hq⟩ := hf
 obtain ⟨ao, b1, o1, cap1, rfl, -⟩ := hp.view
 obtain ⟨bo, b2, o2, cap2, rfl, -⟩ := hq.view
 have hl1 := dig_pos.2 hq0
 have z0 : (((dig q).length : Int) == 0) = false := by simp; intro e; rw [e] at hl1; simp at hl1
 clear hl1
 have hF : ∀ w, Calls Tryz.prog 23 #[.int .i64 1] w fun e w' => ∃ u, e = .returned u ∧ Nn w' u 1 ∧ Ext w w' := fun w => r_From 1 w (by decide)
 have h3 := fun w1 (k1 : Ext w w1) => r_Check (.agg #[.bool false, .slice ao (dig p).length cap1]) p w1 ⟨_, rfl, hp.ext k1⟩ h1
 have h4 := fun w1 (k1 : Ext w w1) => r_Check (.agg #[.bool false, .slice bo (dig q).length cap2]) q w1 ⟨_, rfl, hq.ext k1⟩ h2
 have h5 := fun w1 (k1 : Ext w w1) => r_Gcd (.agg #[.bool false, .slice ao (dig p).length cap1]) (.agg #[.bool false, .slice bo (dig q).length cap2]) p q w1 ⟨_, rfl, hp.ext k1⟩ ⟨_, rfl, hq.ext k1⟩ h1 h2
 rw [hg] at h5
 go_enter Tryz.func163, Tryz.ntmps163
 go_upto_region 4 with (first
  | (go_at_call 129; (with_reducible refine (h3 _ ex_).mono ?_); rintro e w1 ⟨rfl, hb1⟩; obtain ⟨_, _, hc1, hf1⟩ := hb1.cells2; have hz1 := hb1.size; (try simp only [wsz] at hz1 hc1 hf1); clear h3)
  | (go_at_call 129; (with_reducible refine (h4 _ ex_).mono ?_); rintro e w2 ⟨rfl, hb2⟩; obtain ⟨_, _, hc2, hf2⟩ := hb2.cells2; have hz2 := hb2.size; (try simp only [wsz] at hz2 hc2 hf2); clear h4)
  | (go_at_call 196; (with_reducible refine (h5 _ ex_).mono ?_); rintro e w3 ⟨y3, rfl, hn3, hb3⟩; obtain ⟨y4, rfl, hx3⟩ := hn3; obtain ⟨xo3, _, _, xc3, rfl, -⟩ := hx3.view; obtain ⟨_, _, hc3, hf3⟩ := hb3.cells2; have hz3 := hb3.size; (try simp only [wsz] at hz3 hc3 hf3)))
 refine wp_name fun W hW => ?_
 have hi : W.cell? ⟨w3.heap.size, 0, none⟩ = some (.bool false) ∧ W.cell? ⟨w3.heap.size, 1, none⟩ = some (.slice xo3 (dig 1).length xc3) ∧ w3.heap.size < W.heap.size ∧ Ext w W ∧ Lim W (.slice xo3 (dig 1).length xc3) (dig 1) := by
  have e9 : W = _ := hW
  rw [e9]
  exact ⟨by simp [go_sem, ↓IntWalk.iteOmega], by simp [go_sem, ↓IntWalk.iteOmega], by simp, ex_, hx3.alloc _⟩
 clear hW
 obtain ⟨d0, d1, hBs, hWE, hL3⟩ := hi
 have hSa := fun w1 (k1 : Ext W w1) vb (hn : Nn w1 vb 1) => r_Same (.agg #[.bool false, .slice xo3 (dig 1).length xc3]) vb 1 1 w1 ⟨_, rfl, hL3.ext k1⟩ hn
 have hd1 : decide ((1 : Nat) = 1) = true := by decide
 rw [hd1] at hSa
 clear hx3 h5 hb1 hb2 hb3
 refine wp_region_held_drew (S := (fun w0 => Ext W w0)) c_4 ?_ (fun hH => ?_)
 ·exact (Ext.refl W).drew
 try simp only [sx_]
 refine tk (v := ?_) 0 rfl ?_ ?_
 rotate_left
 ·intro w0 hSw; have q0 := (hSw.cells.1 _ 0 hBs).trans d0; have q1 := (hSw.cells.1 _ 1 hBs).trans d1; go_simp; try with_reducible rfl
 try simp only [sx_]
 refine wpAnyH_ready (rs := [1]) c_4 (by simp) ?_
 refine rd1 rfl fun K hK => ?_
 go_simp
 (go_at_call 23; (with_reducible refine (hF _).mono ?_); rintro e t1 ⟨y1, rfl, hn1, hx1⟩; have hn1b := hn1; obtain ⟨y2, rfl, hy2⟩ := hn1b; obtain ⟨xo1, _, _, xc1, rfl, -⟩ := hy2.view; have k1 := hH.trans hx1)
 refine hK.out _ _ ?_ (fun hN => ?_)
 ·(try dsimp only); exact k1
 clear hK K hH
 have hH := hN
 clear hN
 try simp only [sx_]
 refine wpAnyH_ready (rs := [2]) c_4 (by simp) ?_
 refine rd1 rfl fun K hK => ?_
 go_simp
 (go_at_call 69; (with_reducible refine (hSa _ k1 _ hn1).mono ?_); rintro e t2 ⟨rfl, hx2⟩; have k2 := k1.trans hx2)
 refine hK.out _ _ ?_ (fun hN => ?_)
 ·(try dsimp only); exact k2
 clear hK K hH
 have hH := hN
 clear hN
 try simp only [sx_]
 refine tk 3 rfl c_0 ?_
 try simp only [sx_]
 refine wpAnyH_done c_4 ?_ _
 go_wp2_with fail
 go_ret
 exact ⟨rfl, hWE.trans k2⟩
theorem r_madeS (neg : Bool) (v : Value) (xs : List Int) (m : Nat) (w : World) (h : Lim w v xs) (hm : val xs = m) (hl : (dig m).length ≤ 4096) :
    Calls Tryz.prog 59 #[.bool neg, v] w fun e w' => ∃ u bo, e = .returned (.tuple #[.agg #[.bool bo, u], .int .i64 0]) ∧ Lim w' u (dig m) ∧ bo = (neg && decide (0 < (dig m).length)) ∧ Ext w w' := by
 have ht := trim_dig h.lb hm
 have hk := fun w1 (k : Ext w w1) => r_trim v xs w1 (h.ext k)
 rw [ht] at hk
 clear ht hm
 generalize hd : dig m = ds at hk hl ⊢
 by_cases hpos : 0 < ds.length
 ·have hp1 : decide ((0 : Int) < (ds.length : Int)) = true := decide_eq_true (by omega)
  have hp2 : decide (0 < ds.length) = true := decide_eq_true hpos
  rw [hp2]
  cases neg
  all_goals
   go_enter Tryz.func59, Tryz.ntmps59
   go_wp2_with (go_at_call 117; (with_reducible refine (hk _ ex_).mono ?_); rintro e w1 ⟨u, rfl, hu, hb⟩; obtain ⟨ao, b1, o1, cap1, rfl, v1, v2, v3, v4, v5, v6⟩ := hu.view; obtain ⟨_, _, hc, hf⟩ := hb.cells2; have hz := hb.size; (try simp only [wsz] at hz hc hf))
   have hB : NoU w1 w.heap.size := (NoU.new w _ _ (noU2 (by simp) (by simp))).ext (by simp) hb
  ·refine bodyPost_ret (v := .tuple #[.agg #[.bool false, .slice ao ds.length cap1], .int .i64 0]) ?_ rfl ⟨_, false, rfl, ?_, rfl, ?_⟩
   ·simp [results, Tryz.results59, go_sem, ↓IntWalk.iteOmega, *]
   ·exact Lim.box (Lim.box hu hB) (NoU.set hB (fun z e => by cases e))
   ·exact ex_
  ·refine bodyPost_ret (v := .tuple #[.agg #[.bool true, .slice ao ds.length cap1], .int .i64 0]) ?_ rfl ⟨_, true, rfl, ?_, rfl, ?_⟩
   ·simp [results, Tryz.results59, go_sem, ↓IntWalk.iteOmega, *]
   ·exact Lim.box (Lim.box hu hB) (NoU.set hB (fun z e => by cases e))
   ·exact ex_
 ·have hp1 : decide ((0 : Int) < (ds.length : Int)) = false := decide_eq_false (by omega)
  have hp2 : decide (0 < ds.length) = false := decide_eq_false hpos
  rw [hp2]
  cases neg
  all_goals
   go_enter Tryz.func59, Tryz.ntmps59
   go_wp2_with (go_at_call 117; (with_reducible refine (hk _ ex_).mono ?_); rintro e w1 ⟨u, rfl, hu, hb⟩; obtain ⟨ao, b1, o1, cap1, rfl, v1, v2, v3, v4, v5, v6⟩ := hu.view; obtain ⟨_, _, hc, hf⟩ := hb.cells2; have hz := hb.size; (try simp only [wsz] at hz hc hf))
   have hB : NoU w1 w.heap.size := (NoU.new w _ _ (noU2 (by simp) (by simp))).ext (by simp) hb
   refine bodyPost_ret (v := .tuple #[.agg #[.bool false, .slice ao ds.length cap1], .int .i64 0]) ?_ rfl ⟨_, false, rfl, ?_, rfl, ?_⟩
   ·simp [results, Tryz.results59, go_sem, ↓IntWalk.iteOmega, *]
   ·exact Lim.box (Lim.box hu hB) (NoU.set hB (fun z e => by cases e))
   ·exact ex_
theorem r_CheckZ (v : Value) (n : Int) (w : World) (h : Wid w v n) (hs : Sz n) :
    Calls Tryz.prog 129 #[v] w fun e w' => e = .returned (.int .i64 0) ∧ Ext w w' := by
 by_cases hn : n < 0
 ·obtain ⟨u, rfl, hu⟩ := h
  rw [decide_eq_true hn]
  unfold Sz Small at hs
  have hpos := (dig_pos (m := n.natAbs)).2 (by omega)
  have hln := last_ne (m := n.natAbs) hpos
  obtain ⟨ao, b1, o1, cap1, rfl, v1, v2, v3, v4, v5, v6⟩ := hu.view
  generalize dig n.natAbs = ds at *
  have e := v1 hpos
  subst e
  have hlw := v4 hpos
  obtain ⟨q, eq⟩ : ∃ q, ds.length = q + 1 := ⟨ds.length - 1, by omega⟩
  have hl := v5 q (by omega)
  rw [eq, Nat.add_sub_cancel] at hln
  obtain ⟨z, ez⟩ : ∃ z, ds.getD q 0 = z := ⟨_, rfl⟩
  rw [ez] at hl hln
  rw [eq] at hs ⊢
  have z1 : (z == 0) = false := by simpa using hln
  have z2 : decide ((4096 : Int) < (q : Int) + 1) = false := decide_eq_false (by omega)
  have z3 : ((q : Int) + 1 == 0) = false := by simp; omega
  have z4 : decide ((0 : Int) < (q : Int) + 1) = true := decide_eq_true (by omega)
  clear hu v5 v6 v4 v1 v2 ez eq hpos
  go_enter Tryz.func129, Tryz.ntmps129
  go_wp2_with fail
  go_ret
  exact ⟨rfl, ex_⟩
 ·have h2 := h.nn (by omega)
  exact r_Check v n.natAbs w h2 hs
theorem r_Neg (va : Value) (n : Int) (w : World) (ha : Wid w va n) (hs : Sz n) :
    Calls Tryz.prog 138 #[va] w fun e w' => ∃ u, e = .returned (.tuple #[u, .int .i64 0]) ∧ Wid w' u (-n) ∧ Ext w w' := by
 have hck := fun w1 (k1 : Ext w w1) => r_CheckZ va n w1 (ha.ext k1) hs
 obtain ⟨u, rfl, hu⟩ := ha
 obtain ⟨ao, b1, o1, cap1, rfl, -⟩ := hu.view
 have hsg : sg (!decide (n < 0)) n.natAbs = -n := by
  have h2 := sg_wid (n := n)
  unfold sg at h2 ⊢; cases hk : decide (n < 0) <;> rw [hk] at h2 <;> simp at h2 ⊢ <;> omega
 have hmd := fun w1 (k1 : Ext w w1) => r_madeS (!decide (n < 0)) _ _ n.natAbs w1 (hu.ext k1) (dig_val _) hs
 rw [← hsg]
 clear hsg hu
 generalize decide (n < 0) = sa at *
 generalize n.natAbs = m at *
 generalize hl : (dig m).length = la at *
 go_enter Tryz.func138, Tryz.ntmps138
 go_wp2_with (first
  | (go_at_call 129; (with_reducible refine (hck _ ex_).mono ?_); rintro e w1 ⟨rfl, hb⟩; obtain ⟨_, _, hc, hf⟩ := hb.cells2; have hz := hb.size; (try simp only [wsz] at hz hc hf); clear hck)
  | (go_at_call 59; (with_reducible refine (hmd _ ex_).mono ?_); rintro e w4 ⟨s3, bo3, rfl, hz3, hbo3, hb4⟩; obtain ⟨ao3, bb3, oo3, cc3, rfl, _⟩ := hz3.view; obtain ⟨_, _, hc4, hf4⟩ := hb4.cells2; have hz4 := hb4.size; (try simp only [wsz] at hz4 hc4 hf4); clear hmd))
 have hE4 : Ext ((w.alloc (.cells #[.bool sa, .slice ao la cap1] 24)).alloc (.cells #[.bool false, .slice none 0 0] 24)) w4 := ex_
 have hnu : NoU w4 (w.heap.size + 1) := by
  have h0 := NoU.new (w.alloc (.cells #[.bool sa, .slice ao la cap1] 24)) #[.bool false, .slice none 0 0] 24 (noU2 (by simp) (by simp))
  simp only [World.size_alloc] at h0
  exact h0.ext (by simp) hE4
 refine bodyPost_ret (v := .tuple #[.agg #[.bool bo3, .slice ao3 (dig m).length cc3], .int .i64 0]) ?_ rfl ⟨_, rfl, Wid.mk' (Lim.box (Lim.box hz3 hnu) (NoU.set hnu (fun z e => by cases e))) (by rw [hbo3, hl]), ?_⟩
 ·simp [results, Tryz.results138, go_sem, ↓IntWalk.iteOmega, *] <;> first | exact hbo3.symm | simp [hbo3]
 ·exact ex_
theorem step_make {P : Program} {ops : Array Oper} {o : Oper} {a : Act} {K : Act → World → Prop} {Q : Exit → Act → World → Prop} {E : Prop} (hgd : o.guard = none) (l c : Operand) (t : TypeId) (hop : o.op = Op.makeSlice t l c) (w : World)
    (base : Nat) (e : TypeId) (i : TypeInfo) (z : Value) (size : Nat) (h1 : P.underlying t = some (.slice e)) (h2 : P.info? e = some i) (h3 : i.zero = some z) (h4 : i.size = size)
    (kl kc : IntKind) (L C : Int) (n : Nat) (hl : a.eval l = .int kl L) (hc : a.eval c = .int kc C) (hL : L = (n : Int)) (hC : C = (n : Int)) (b2 : i.bytes * n ≤ 281474976710656) (b3 : n ≤ maxLen) (b4 : base ≤ w.heap.size)
    (h : ∀ g w', w.heap.size = g → w'.ownsRow base e size (.slice (some ⟨g, 0, none⟩) n n) n (madeCells z.cells (n * size)).toList → w.grownBy w' none → K (a.put o.dst (.slice (some ⟨g, 0, none⟩) n n)) w') :
    if Region.wanted o (yielded ops a.tmps) = true then Oper.wp P o a w K Q else E := by
 have hw : Region.wanted o (yielded ops a.tmps) = true := by simp [Region.wanted, hgd]
 rw [if_pos hw]
 obtain ⟨w', hrun, r1, r2⟩ := run_make_full (P := P) w base t e i z size h1 h2 h3 h4 kl kc n b2 b3 b4
 subst hL
 subst hC
 unfold Oper.wp
 simp [execOp, hop, hl, hc, hrun, Result.andThen]
 exact h _ _ rfl r1 r2
theorem O32.news {w : World} {base g n cap : Nat} {xs : List Int} (h : O32 w base g n cap xs) : ∀ j u, (xs.map (Value.int .u32))[j]? = some u → w.cell? ((⟨g, 0, none⟩ : Addr).add j) = some u := by
 intro j u hj
 rw [List.getElem?_map] at hj
 cases hx : xs[j]? with
 | none => rw [hx] at hj; cases hj
 | some x =>
  rw [hx] at hj
  have hl := (List.getElem?_eq_some_iff.1 hx).1
  have := h.cell (k := j) (by rw [← h.len]; exact hl)
  rw [List.getD_eq_getElem?_getD, hx] at this
  rw [show (⟨g, 0, none⟩ : Addr).add j = ⟨g, j, none⟩ from by unfold Addr.add; split <;> simp_all, this]
  simpa using hj
theorem u32_one' (xs : List Int) : ∀ u ∈ xs.map (Value.int .u32), u.oneCell' = true := by
 intro u hu
 obtain ⟨x, _, rfl⟩ := List.mem_map.1 hu
 rfl
theorem BX.grown {w a w0 : World} {B g : Nat} {L : List (Nat × Nat × Value)} (h : BX w B L a) (k : GB g a w0) (hw : w.heap.size ≤ g) (hB : B ≠ g) (hL : ∀ p ∈ L, p.1 ≠ g) : BX w B L w0 := by
 obtain ⟨h1, h2, ⟨a0, h3⟩, ⟨a1, h4⟩, h5, h6, h7⟩ := h
 exact ⟨GB.pre h1 k hw, fun p hp => (k.cell (World.block_lt_of_cell? _ _ (h2 p hp)) (hL p hp)).trans (h2 p hp), ⟨a0, (k.cell h7 hB).trans h3⟩, ⟨a1, (k.cell h7 hB).trans h4⟩, fun o => (k.frozen h7 hB).trans (h5 o), h6.grown k h7 hB, Nat.lt_of_lt_of_le h7 k.size⟩
theorem val_pad (d : Nat) (zs : List Int) : val (List.replicate d 0 ++ zs) = BB ^ d * val zs := by
 rw [val_append, val_zeros, List.length_replicate, Int.zero_add]
theorem Lb.zeros (d : Nat) : Lb (List.replicate d 0) := fun y hy => by rw [List.eq_of_mem_replicate hy]; decide
theorem lim_app {w : World} {base n m g cap : Nat} {xs ys : List Int} (h : w.ownsRow base 25 1 (.slice (some ⟨g, 0, none⟩) (n + m) cap) (n + m) (xs.map (.int .u32) ++ ys.map (.int .u32))) (hx : Lb xs) (hy : Lb ys) (hc : n + m ≤ 1099511627776) : Lim w (.slice (some ⟨g, 0, none⟩) (n + m) cap) (xs ++ ys) := by
 rw [← List.map_append] at h
 exact Lim.own h (hx.append hy) hc
theorem T_RSH_2 {p : Prop} (h : p := by
 intro p hp
 simp only [List.mem_cons, List.mem_nil_iff, or_false] at hp
 rcases hp with rfl | rfl <;> (dsimp only; omega)) : p := h
theorem T_RSH_1 {p : Prop} (h : p := by
 clear hK K hH
 have hH := hN
 clear hN
 try simp only [sx_]
 refine wpAnyH_ready (rs := [11]) c_4 (by simp) ?_
 refine rd1 rfl fun K hK => ?_
 have hzp : zs.length = (dig m).length + 1 := hzl
 refine step_append_lies _ rfl _ _ 22 (by rfl) w.heap.size 25 i0 (.int .u32 0) 1 4 Tryz.underlying22 hi hz0 hz1 hz2 rfl (by decide) (.slice (some ⟨gm, 0, none⟩) d d) d ((List.replicate d 0).map (Value.int .u32)) (by rfl) hR ⟨g2, 0, none⟩ zs.length cc (zs.map (Value.int .u32)) (by rfl) (by simp) hO.news (u32_one' zs) (by omega) c_21 (by omega) hH.base.size _ rfl ?_
 intro ga capa wa howna hgrowa hata hlta
 have hLm : ∀ p ∈ ([(w.heap.size, 0, .bool sa), (w.heap.size, 1, .slice ao (dig m).length cap1)] : List (Nat × Nat × Value)), p.1 ≠ gm := by
  exact T_RSH_2
 have hv2 : val (List.replicate d 0 ++ zs) = ((m * 2 ^ (32 * d + s) : Nat) : Int) := by rw [val_pad, hval, dig_val, bb_two]; simp
 have hLa := lim_app howna (Lb.zeros d) lz (by omega)
 refine hK.out _ _ ?_ (fun hN => ?_)
 ·(try dsimp only); exact hH.grown (g := gm) hgrowa (by omega) (by omega) hLm
 clear hK K hH
 have hH := hN
 clear hN
 try simp only [sx_]
 refine wpAnyH_ready (rs := [12]) c_4 (by simp) ?_
 refine rd1 rfl fun K hK => ?_
 rw [hzp] at hLa
 go_simp
 (go_at_call 59; (with_reducible refine (r_madeS sa _ _ (m * 2 ^ (32 * d + s)) _ hLa hv2 hs4).mono ?_); rintro e t3 ⟨s3, bo3, rfl, hz3, hbo3, hx3⟩; obtain ⟨ao3, bb3, oo3, cc3, rfl, _⟩ := hz3.view)
 refine hK.out _ _ ?_ (fun hN => ?_)
 ·(try dsimp only); exact hH.ext hx3
 clear hK K hH
 have hH := hN
 clear hN
 try simp only [sx_]
 refine tk 13 rfl c_0 ?_
 try simp only [sx_]
 refine tk 14 rfl c_0 ?_
 try simp only [sx_]
 refine wpAnyH_ready (rs := [15]) c_4 (by simp) ?_
 refine rd1 rfl fun K hK => ?_
 obtain ⟨⟨xa, h3a⟩, ⟨xb, h3b⟩, h3f, hnu, hsl⟩ := hH.box
 go_simp
 refine hK.out _ _ ?_ (fun hN => ?_)
 ·(try dsimp only); exact (hH.set (by omega) hLn (fun z e => by cases e)).set (by omega) hLn (fun z e => by cases e)
 clear hK K hH
 have hH := hN
 clear hN
 try simp only [sx_]
 refine tk 16 rfl c_0 ?_
 try simp only [sx_]
 refine wpAnyH_done c_4 ?_ _
 go_wp2_with fail
 refine bodyPost_ret (v := .tuple #[.agg #[.bool bo3, .slice ao3 (dig (m * 2 ^ (32 * d + s))).length cc3], .int .i64 0]) ?_ rfl ⟨_, rfl, Wid.mk' (Lim.box (Lim.box hz3 hnu) (NoU.set hnu (fun z e => by cases e))) hbo3, ?_⟩
 ·simp [results, Tryz.results127, go_sem, ↓IntWalk.iteOmega, h3a, h3b] <;> first | exact hbo3.symm | simp [hbo3]
 ·exact hH.base) : p := h
theorem sm_wid {w : World} {u : Value} {s : Bool} {m : Nat} (h : Lim w u (dig m)) (hz : m = 0 → s = false) : Wid w (.agg #[.bool s, u]) (sg s m) := by
 refine Wid.mk' h ?_
 rcases Nat.eq_zero_or_pos m with h0 | h0
 ·rw [hz h0]; rfl
 ·rw [decide_eq_true (dig_pos.2 h0), Bool.and_true]
theorem r_shiftU0 (va : Value) (sa : Bool) (m d s k : Nat) (w : World) (ha : Sm w va sa m) (hs : Small m) (hz : m = 0 → sa = false) (hs5 : s < 32) (hk : k = 32 * d + s) (hd : k ≤ 131072) (hs3 : Small (m * 2 ^ (32 * d + s))) :
    Calls Tryz.prog 127 #[va, .int .i64 (k : Int)] w fun e w' => ∃ u, e = .returned (.tuple #[u, .int .i64 0]) ∧ Wid w' u (sg sa (m * 2 ^ (32 * d + s))) ∧ Ext w w' := by
 obtain ⟨u, rfl, hu⟩ := ha
 obtain ⟨ao, b1, o1, cap1, rfl, v1, v2, v3, v4, v5, v6⟩ := hu.view
 have hlen : (dig m).length ≤ 4096 := hs
 obtain ⟨W3, hW3⟩ : ∃ W3, (w.alloc (.cells #[.bool sa, .slice ao (dig m).length cap1] 24)).alloc (.cells #[.bool false, .slice none 0 0] 24) = W3 := ⟨_, rfl⟩
 have hWs : W3.heap.size = w.heap.size + 1 + 1 := by rw [← hW3]; simp
 have hEW : Ext w W3 := by rw [← hW3]; exact ((Ext.refl w).alloc _).alloc _
 have hS : BX w (w.heap.size + 1) [(w.heap.size, 0, .bool sa), (w.heap.size, 1, .slice ao (dig m).length cap1)] W3 := by
  rw [← hW3]
  refine ⟨hW3 ▸ hEW, ?_, ?_, ?_, ?_, ?_, by simp⟩
  ·intro p hp
   simp only [List.mem_cons, List.mem_nil_iff, or_false] at hp
   rcases hp with rfl | rfl <;> simp [go_sem, ↓IntWalk.iteOmega]
  ·exact ⟨.bool false, by simp [go_sem, ↓IntWalk.iteOmega]⟩
  ·exact ⟨.slice none 0 0, by simp [go_sem, ↓IntWalk.iteOmega]⟩
  ·intro o; simp [go_sem, ↓IntWalk.iteOmega]
  ·have := NoU.new (w.alloc (.cells #[.bool sa, .slice ao (dig m).length cap1] 24)) #[.bool false, .slice none 0 0] 24 (noU2 (by simp) (by simp))
   simpa using this
 have hLn : ∀ p ∈ ([(w.heap.size, 0, .bool sa), (w.heap.size, 1, .slice ao (dig m).length cap1)] : List (Nat × Nat × Value)), p.1 ≠ w.heap.size + 1 := by
  exact T_RSH_2
 have hck := fun w1 (k1 : Ext w w1) => r_CheckZ (.agg #[.bool sa, .slice ao (dig m).length cap1]) (sg sa m) w1 (sm_wid (hu.ext k1) hz) (by unfold Sz; rw [sg_abs]; exact hs)
 subst hW3
 clear v1 v4 v5 hWs hEW
 obtain ⟨i0, hi, hz0, hz1, hz2⟩ := info_parts info81
 have hwq : Hid (IntKind.i64.wrap ((k : Int).tdiv 32) = (d : Int)) := by show _ = _; rw [IntKind.wrap_i64, Int.tdiv_eq_ediv_of_nonneg (by omega)]; omega
 have hws : Hid (IntKind.u64.wrap ((k : Int).tmod 32) = (s : Int)) := by show _ = _; rw [IntKind.wrap_u64, Int.tmod_eq_emod_of_nonneg (by omega)]; omega
 have hs4 : (dig (m * 2 ^ (32 * d + s))).length ≤ 4096 := hs3
 have hd1 : d ≤ 5000 := by omega
 clear hk
 go_enter Tryz.func127, Tryz.ntmps127
 go_upto_region 6 with (go_at_call 129; (with_reducible refine (hck _ ex_).mono ?_); rintro e w1 ⟨rfl, hb⟩; have q0 := BX.get (hS.ext hb) 0 rfl)
 have hS0 := hS.ext hb
 clear hS hb hck
 refine wp_region_held_drew (S := (fun w0 => BX w (w.heap.size + 1) [(w.heap.size, 0, .bool sa), (w.heap.size, 1, .slice ao (dig m).length cap1)] w0)) c_4 ?_ (fun hH => ?_)
 ·exact hS0.drew
 try simp only [sx_]
 refine tk 0 rfl c_0 ?_
 try simp only [sx_]
 refine tk (v := ?_) 1 rfl ?_ ?_
 rotate_left
 ·intro w0 hSw; have q0 := BX.get hSw 0 rfl; have q1 := BX.get hSw 1 rfl; go_simp; try with_reducible rfl
 try simp only [sx_]
 refine tk 2 rfl c_0 ?_
 try simp only [sx_]
 refine tk 3 rfl c_0 ?_
 try simp only [sx_]
 refine tk 5 rfl c_0 ?_
 try simp only [sx_]
 refine tk (v := ?_) 6 rfl ?_ ?_
 rotate_left
 ·intro w0 hSw; have q0 := BX.get hSw 0 rfl; have q1 := BX.get hSw 1 rfl; go_simp; try with_reducible rfl
 try simp only [sx_]
 refine tk 7 rfl c_0 ?_
 try simp only [sx_]
 refine tk 8 rfl c_0 ?_
 try simp only [sx_]
 refine tk 9 rfl c_0 ?_
 try simp only [sx_]
 refine wpAnyH_ready (rs := [4, 10]) c_4 (by simp) ?_
 refine rd2 rfl rfl (fun K hK => ?_) fun K hK => ?_
 ·refine step_make rfl _ _ 22 (by rfl) _ w.heap.size 25 i0 (.int .u32 0) 1 Tryz.underlying22 hi hz0 hz1 .i64 .i64 _ _ d (by rfl) (by rfl) hwq.out hwq.out c_38 c_21 hH.base.size ?_
  intro gm wm hgm hownm hgrowm
  have hR : O32 wm w.heap.size gm d d (List.replicate d 0) := R32.made hownm
  have hxm := Ext.grown (Ext.refl _) hgrowm
  have hgw : w.heap.size + 1 + 1 ≤ gm := by have := hH.box.2.2.2.2; have := hH.base.size; omega
  have hgs := hR.parts.1
  refine hK.out _ _ ?_ (fun hN => ?_)
  ·(try dsimp only); exact hH.ext hxm
  clear hK K hH
  have hH := hN
  clear hN
  try simp only [sx_]
  refine wpAnyH_ready (rs := [10]) c_4 (by simp) ?_
  refine rd1 rfl fun K hK => ?_
  go_simp
  rw [hws.out]
  (go_at_call 179; (with_reducible refine (r_left _ (dig m) s _ (hu.ext hH.base) (by omega) hs5).mono ?_); rintro e t2 ⟨g2, cc, zs, rfl, hO, lz, hval, hzl, hx2⟩)
  replace hR := hR.ext hx2
  replace hgs := Nat.lt_of_lt_of_le hgs hx2.size
  refine hK.out _ _ ?_ (fun hN => ?_)
  ·(try dsimp only); exact hH.ext hx2
  exact T_RSH_1
 ·go_simp
  rw [hws.out]
  (go_at_call 179; (with_reducible refine (r_left _ (dig m) s _ (hu.ext hH.base) (by omega) hs5).mono ?_); rintro e t2 ⟨g2, cc, zs, rfl, hO, lz, hval, hzl, hx2⟩)
  refine hK.out _ _ ?_ (fun hN => ?_)
  ·(try dsimp only); exact hH.ext hx2
  clear hK K hH
  have hH := hN
  clear hN
  try simp only [sx_]
  refine wpAnyH_ready (rs := [4]) c_4 (by simp) ?_
  refine rd1 rfl fun K hK => ?_
  refine step_make rfl _ _ 22 (by rfl) _ w.heap.size 25 i0 (.int .u32 0) 1 Tryz.underlying22 hi hz0 hz1 .i64 .i64 _ _ d (by rfl) (by rfl) hwq.out hwq.out c_38 c_21 hH.base.size ?_
  intro gm wm hgm hownm hgrowm
  have hR : O32 wm w.heap.size gm d d (List.replicate d 0) := R32.made hownm
  have hxm := Ext.grown (Ext.refl _) hgrowm
  have hgw : w.heap.size + 1 + 1 ≤ gm := by have := hH.box.2.2.2.2; have := hH.base.size; omega
  have hgs := hR.parts.1
  replace hO := hO.ext hxm
  refine hK.out _ _ ?_ (fun hN => ?_)
  ·(try dsimp only); exact hH.ext hxm
  exact T_RSH_1
end Go.Proofs.YtogblocakccbgaaGreat
