/- frac: Check.; frac: reduce.; frac: catch, where there is nothing to catch.; frac: Make.; frac: Of, cross.; Numbers with signs: compared; of int64. -/
import Derived.Test.YtogblocakccbgaaGreatJ00
import Derived.Test.YtogblocakccbgaaGreatJ09
import Derived.Test.YtogblocakccbgaaGreatJ05
import Derived.Tactics2
import Derived.Defers
import Derived.Recover
set_option linter.unusedSimpArgs false
set_option linter.unusedVariables false
set_option maxRecDepth 100000
set_option maxHeartbeats 4000000
namespace Go.Proofs.YtogblocakccbgaaGreat
open Go.RowKit
theorem T_FA_1 {p : Prop} (h : p := by
 intro w0 hSw; have r2 := (hSw.cells.1 _ 2 hB).trans k2; have r3 := (hSw.cells.1 _ 3 hB).trans k3; have g0 := (hSw.cells.1 _ 0 hG).trans l0; have g1 := (hSw.cells.1 _ 1 hG).trans l1; go_simp; try with_reducible rfl) : p := h
def Fq (w : World) (v : Value) (p q : Nat) : Prop := ∃ u s, v = .agg #[.bool false, u, .bool false, s] ∧ Lim w u (dig p) ∧ Lim w s (dig q)
theorem Fq.ext {a w : World} {v : Value} {p q : Nat} (h : Fq a v p q) (k : Ext a w) : Fq w v p q := by
 obtain ⟨u, s, e, hu, hs⟩ := h; exact ⟨u, s, e, hu.ext k, hs.ext k⟩
theorem small1 : Small 1 := by unfold Small; decide
theorem w_fCheck (vf : Value) (p q : Nat) (w : World) (hf : Fq w vf p q) (hs : Small p) (hs2 : Small q) (hq : 0 < q) (hg : Nat.gcd p q = 1) :
    Calls Tryz.prog 187 #[vf] w fun e w' => e = .returned (.int .i64 0) ∧ Ext w w' := by
 obtain ⟨u, s, rfl, hu, hv⟩ := hf
 obtain ⟨ao, b1, o1, cap1, rfl, -⟩ := hu.view
 obtain ⟨bo, b2, o2, cap2, rfl, -⟩ := hv.view
 have hS1 := small1
 have hq0 : decide (q = 0) = false := decide_eq_false (by omega)
 have hgc := w_Gcd (.agg #[.bool false, .slice ao (dig p).length cap1]) (.agg #[.bool false, .slice bo (dig q).length cap2]) p q (w.alloc (.cells #[.bool false, .slice ao (dig p).length cap1, .bool false, .slice bo (dig q).length cap2] 145)) ⟨_, rfl, hu.ext ((Ext.refl w).alloc _)⟩ ⟨_, rfl, hv.ext ((Ext.refl w).alloc _)⟩ hs hs2
 rw [hg] at hgc
 go_enter Tryz.func187, Tryz.ntmps187
 go_upto_region 2 with (go_at_call 211; (with_reducible refine hgc.mono ?_); rintro e w1 ⟨y1, rfl, ⟨y2, rfl, hgu⟩, hb⟩; obtain ⟨ao3, b3, o3, cap3, rfl, -⟩ := hgu.view)
 refine wp_name fun W hW => ?_
 have hWE : Ext w W := Ext.same hW ((((Ext.refl w).alloc _).trans hb).alloc _)
 have hE0 : Ext (w.alloc (.cells #[.bool false, .slice ao (dig p).length cap1, .bool false, .slice bo (dig q).length cap2] 145)) W := Ext.same hW (hb.alloc _)
 have hB : w.heap.size < W.heap.size := by have := hE0.size; simp only [World.size_alloc] at this; omega
 have hG : w1.heap.size < W.heap.size := by rw [hW.cells.2.2]; simp
 have k2 : W.cell? ⟨w.heap.size, 2, none⟩ = some (.bool false) := (hE0.cells.1 _ 2 (by simp)).trans c_47
 have k3 : W.cell? ⟨w.heap.size, 3, none⟩ = some (.slice bo (dig q).length cap2) := (hE0.cells.1 _ 3 (by simp)).trans c_47
 have l0 : W.cell? ⟨w1.heap.size, 0, none⟩ = some (.bool false) := by rw [hW.cells.1]; simp [go_sem]
 have l1 : W.cell? ⟨w1.heap.size, 1, none⟩ = some (.slice ao3 (dig 1).length cap3) := by rw [hW.cells.1]; simp [go_sem]
 have nQ : Nn W (.agg #[.bool false, .slice bo (dig q).length cap2]) q := ⟨_, rfl, hv.ext hWE⟩
 have nG : Nn W (.agg #[.bool false, .slice ao3 (dig 1).length cap3]) 1 := ⟨_, rfl, hgu.ext (Ext.same hW ((Ext.refl w1).alloc _))⟩
 clear hW hb hgc
 refine wp_region_held_drew (S := (fun w0 => Ext W w0)) c_4 ?_ (fun hH => ?_)
 ·exact (Ext.refl W).drew
 try simp only [sx_]
 refine tk 0 rfl c_0 ?_
 try simp only [sx_]
 refine tk 1 rfl c_0 ?_
 try simp only [sx_]
 refine tk 2 rfl c_0 ?_
 try simp only [sx_]
 refine tk 3 rfl c_0 ?_
 try simp only [sx_]
 refine tk 4 rfl c_0 ?_
 try simp only [sx_]
 refine tk (v := ?_) 5 rfl ?_ ?_
 rotate_left
 ·exact T_FA_1
 try simp only [sx_]
 refine tk 6 rfl c_0 ?_
 try simp only [sx_]
 refine tk 7 rfl c_0 ?_
 try simp only [sx_]
 refine tk 8 rfl c_0 ?_
 try simp only [sx_]
 refine tk (v := ?_) 9 rfl ?_ ?_
 rotate_left
 ·exact T_FA_1
 try simp only [sx_]
 refine wpAnyH_ready (rs := [10]) c_4 (by simp) ?_
 refine rd1 rfl fun K hK => ?_
 go_simp
 (go_at_call 209; (with_reducible refine (w_zero _ q _ (nQ.ext hH)).mono ?_); rintro e t0 ⟨rfl, hx0⟩; rw [hq0])
 refine hK.out _ _ ?_ (fun hN => ?_)
 ·(try dsimp only); exact hH.trans hx0
 clear hK K hH
 have hH := hN
 clear hN
 try simp only [sx_]
 refine tk 11 rfl c_0 ?_
 try simp only [sx_]
 refine tk 12 rfl c_0 ?_
 try simp only [sx_]
 refine tk (v := ?_) 13 rfl ?_ ?_
 rotate_left
 ·exact T_FA_1
 try simp only [sx_]
 refine wpAnyH_ready (rs := [14]) c_4 (by simp) ?_
 refine rd1 rfl fun K hK => ?_
 go_simp
 (go_at_call 213; (with_reducible refine (w_one _).mono ?_); rintro e t1 ⟨v1, rfl, hn1, hx1⟩; have hn1b := hn1; obtain ⟨v2, rfl, hv2⟩ := hn1b; obtain ⟨ao4, b4, o4, cap4, rfl, -⟩ := hv2.view)
 refine hK.out _ _ ?_ (fun hN => ?_)
 ·(try dsimp only); exact hH.trans hx1
 clear hK K hH
 have hH := hN
 clear hN
 try simp only [sx_]
 refine wpAnyH_ready (rs := [15]) c_4 (by simp) ?_
 refine rd1 rfl fun K hK => ?_
 go_simp
 (go_at_call 212; (with_reducible refine (w_same _ _ 1 1 _ (nG.ext hH) hn1 hS1 hS1).mono ?_); rintro e t2 ⟨rfl, hx2⟩)
 refine hK.out _ _ ?_ (fun hN => ?_)
 ·(try dsimp only); exact hH.trans hx2
 clear hK K hH
 have hH := hN
 clear hN
 try simp only [sx_]
 refine tk 16 rfl c_0 ?_
 try simp only [sx_]
 refine tk 17 rfl c_0 ?_
 try simp only [sx_]
 refine wpAnyH_done c_4 ?_ _
 go_wp2_with fail
 go_ret
 exact ⟨rfl, hWE.trans hH⟩
theorem w_reduce (va vb : Value) (m k : Nat) (w : World) (ha : Nn w va m) (hb0 : Nn w vb k) (hs : Small m) (hs2 : Small k) (hk0 : 0 < k) :
    Calls Tryz.prog 210 #[va, vb] w fun e w' => ∃ u, e = .returned u ∧ Fq w' u (m / Nat.gcd m k) (k / Nat.gcd m k) ∧ Ext w w' := by
 obtain ⟨u, rfl, hu⟩ := ha
 obtain ⟨s, rfl, hv⟩ := hb0
 obtain ⟨ao, b1, o1, cap1, rfl, -⟩ := hu.view
 obtain ⟨bo, b2, o2, cap2, rfl, -⟩ := hv.view
 obtain ⟨g, hg⟩ : ∃ g, Nat.gcd m k = g := ⟨_, rfl⟩
 have hg0 : 0 < g := hg ▸ Nat.gcd_pos_of_pos_right m hk0
 have hsg : Small g := Nat.le_trans (dig_mono (hg ▸ Nat.gcd_le_right m hk0)) hs2
 have h1 := fun w1 (k1 : Ext w w1) => w_Gcd (.agg #[.bool false, .slice ao (dig m).length cap1]) (.agg #[.bool false, .slice bo (dig k).length cap2]) m k w1 ⟨_, rfl, hu.ext k1⟩ ⟨_, rfl, hv.ext k1⟩ hs hs2
 rw [hg] at h1 ⊢
 clear hg
 have h2 := fun w1 (k1 : Ext w w1) vg (hn : Nn w1 vg g) => w_DivMod (.agg #[.bool false, .slice ao (dig m).length cap1]) vg m g w1 ⟨_, rfl, hu.ext k1⟩ hn hs hg0 hsg
 have h3 := fun w1 (k1 : Ext w w1) vg (hn : Nn w1 vg g) => w_DivMod (.agg #[.bool false, .slice bo (dig k).length cap2]) vg k g w1 ⟨_, rfl, hv.ext k1⟩ hn hs2 hg0 hsg
 go_enter Tryz.func210, Tryz.ntmps210
 go_upto_region 6 with (first
  | (go_at_call 211; (with_reducible refine (h1 _ ex_).mono ?_); rintro e w1 ⟨y1, rfl, hng, hb1⟩; have hngb := hng; obtain ⟨y2, rfl, hgu⟩ := hngb; obtain ⟨ao3, b3, o3, cap3, rfl, -⟩ := hgu.view; obtain ⟨_, _, hc1, hf1⟩ := hb1.cells2; have hz1 := hb1.size; (try simp only [wsz] at hz1 hc1 hf1))
  | (go_at_call 218; (with_reducible refine (w_must0 _ g _ hng).mono ?_); rintro e w2 ⟨rfl, hb2⟩; obtain ⟨_, _, hc2, hf2⟩ := hb2.cells2; have hz2 := hb2.size; (try simp only [wsz] at hz2 hc2 hf2); have hn2 : Nn w2 (.agg #[.bool false, .slice ao3 (dig g).length cap3]) g := hng.ext hb2)
  | (go_at_call 63; (with_reducible refine (h2 _ ex_ _ (hn2.ext ex_)).mono ?_); rintro e w3 ⟨y3, y4, rfl, ⟨y5, rfl, hx⟩, ⟨y6, rfl, hxr⟩, hb3⟩; obtain ⟨ao5, b5, o5, cap5, rfl, -⟩ := hx.view; obtain ⟨ao6, b6, o6, cap6, rfl, -⟩ := hxr.view; obtain ⟨_, _, hc3, hf3⟩ := hb3.cells2; have hz3 := hb3.size; (try simp only [wsz] at hz3 hc3 hf3); clear h2)
  | (go_at_call 63; (with_reducible refine (h3 _ ex_ _ (hn2.ext ex_)).mono ?_); rintro e w4 ⟨y7, y8, rfl, ⟨y9, rfl, hy⟩, ⟨y10, rfl, hyr⟩, hb4⟩; obtain ⟨ao7, b7, o7, cap7, rfl, -⟩ := hy.view; obtain ⟨ao8, b8, o8, cap8, rfl, -⟩ := hyr.view; obtain ⟨_, _, hc4, hf4⟩ := hb4.cells2; have hz4 := hb4.size; (try simp only [wsz] at hz4 hc4 hf4)))
 refine wp_name fun W hW => ?_
 obtain ⟨hWc, hWf, hWz⟩ := hW.cells
 have hWE : Ext w W := Ext.same hW ex_
 have hA0 : Ext (((w.alloc (.cells #[.bool false, .slice ao (dig m).length cap1] 24)).alloc (.cells #[.bool false, .slice bo (dig k).length cap2] 24)).alloc (.cells #[.bool false, .slice none 0 0, .bool false, .slice none 0 0] 145)) W := Ext.same hW ex_
 have hnu : NoU W (w.heap.size + 1 + 1) := by
  have := (NoU.new ((w.alloc (.cells #[.bool false, .slice ao (dig m).length cap1] 24)).alloc (.cells #[.bool false, .slice bo (dig k).length cap2] 24)) #[.bool false, .slice none 0 0, .bool false, .slice none 0 0] 145 (noU4 (by simp) (by simp) (by simp) (by simp))).ext (by simp) hA0
  simpa using this
 have hxW := hx.ext (Ext.same hW ex_ : Ext w3 W)
 have hyW := hy.ext (Ext.same hW ex_ : Ext w4 W)
 clear hW
 go_wp2_with fail
 refine bodyPost_ret (v := .agg #[.bool false, .slice ao5 (dig (m / g)).length cap5, .bool false, .slice ao7 (dig (k / g)).length cap7]) ?_ rfl ⟨_, rfl, ⟨_, _, rfl, ?_, ?_⟩, ?_⟩
 ·simp [results, Tryz.results210, go_sem, ↓IntWalk.iteOmega, *]
 ·refine Lim.box (Lim.box (Lim.box (Lim.box hxW ?_) ?_) ?_) ?_ <;> (repeat (first | with_reducible exact hnu | with_reducible refine NoU.set ?_ (fun z e => by cases e)))
 ·refine Lim.box (Lim.box (Lim.box (Lim.box hyW ?_) ?_) ?_) ?_ <;> (repeat (first | with_reducible exact hnu | with_reducible refine NoU.set ?_ (fun z e => by cases e)))
 ·exact ex_
theorem w_catch (p : Value) (w : World) :
    CallsD Tryz.prog 207 #[p] .returning w fun e u' w' => e = .returned (.tuple #[]) ∧ u' = .returning ∧ w' = w := by
 refine callsD_of_wpS Tryz.func207 rfl fun c₀ cs hu => ?_
 apply wpS_seq
 apply wpS_region
 simp [wpOpsS, go_sem, recoverD, hu, Tryz.ntmps207, Exit.thenS]
 refine wpS_of_wp ?_
 go_wp2
 cases c₀
 simp_all [bodyPostS, results, Tryz.results207]
theorem w_Make (va vb : Value) (m k : Nat) (w : World) (ha : Nn w va m) (hb0 : Nn w vb k) (hs : Small m) (hs2 : Small k) (hk0 : 0 < k) :
    Calls Tryz.prog 186 #[va, vb] w fun e w' => ∃ u, e = .returned (.tuple #[u, .int .i64 0]) ∧ Fq w' u (m / Nat.gcd m k) (k / Nat.gcd m k) ∧ Ext w w' := by
 obtain ⟨u, rfl, hu⟩ := ha
 obtain ⟨s, rfl, hv⟩ := hb0
 obtain ⟨ao, b1, o1, cap1, rfl, -⟩ := hu.view
 obtain ⟨bo, b2, o2, cap2, rfl, -⟩ := hv.view
 have hz0 : decide (k = 0) = false := decide_eq_false (by omega)
 have h1 := fun w1 (k1 : Ext w w1) => w_Check (.agg #[.bool false, .slice ao (dig m).length cap1]) m w1 ⟨_, rfl, hu.ext k1⟩ hs
 have h2 := fun w1 (k1 : Ext w w1) => w_Check (.agg #[.bool false, .slice bo (dig k).length cap2]) k w1 ⟨_, rfl, hv.ext k1⟩ hs2
 have h3 := fun w1 (k1 : Ext w w1) => w_zero (.agg #[.bool false, .slice bo (dig k).length cap2]) k w1 ⟨_, rfl, hv.ext k1⟩
 rw [hz0] at h3
 have h4 := fun w1 (k1 : Ext w w1) => w_reduce (.agg #[.bool false, .slice ao (dig m).length cap1]) (.agg #[.bool false, .slice bo (dig k).length cap2]) m k w1 ⟨_, rfl, hu.ext k1⟩ ⟨_, rfl, hv.ext k1⟩ hs hs2 hk0
 generalize m / Nat.gcd m k = m1 at *
 generalize k / Nat.gcd m k = k1 at *
 go_enter_defers Tryz.func186, Tryz.ntmps186
 go_upto_region 6 with (first
  | (go_at_call 19; (with_reducible refine (h1 _ ex_).mono ?_); rintro e w1 ⟨rfl, hb1⟩; obtain ⟨_, _, hc1, hf1⟩ := hb1.cells2; have hz1 := hb1.size; (try simp only [wsz] at hz1 hc1 hf1); clear h1)
  | (go_at_call 19; (with_reducible refine (h2 _ ex_).mono ?_); rintro e w2 ⟨rfl, hb2⟩; obtain ⟨_, _, hc2, hf2⟩ := hb2.cells2; have hz2 := hb2.size; (try simp only [wsz] at hz2 hc2 hf2); clear h2)
  | (go_at_call 208; (with_reducible refine (w_want0 _).mono ?_); rintro e w9 ⟨rfl, rfl⟩)
  | (go_at_call 209; (with_reducible refine (h3 _ ex_).mono ?_); rintro e w3 ⟨rfl, hb3⟩; obtain ⟨_, _, hc3, hf3⟩ := hb3.cells2; have hz3 := hb3.size; (try simp only [wsz] at hz3 hc3 hf3); clear h3))
 have hA0 : Ext ((((w.alloc (.cells #[.bool false, .slice ao (dig m).length cap1] 24)).alloc (.cells #[.bool false, .slice bo (dig k).length cap2] 24)).alloc (.cells #[.bool false, .slice none 0 0, .bool false, .slice none 0 0] 145)).alloc (.cells #[.int .i64 0] 26)) w3 := ex_
 have hnu : NoU w3 (w.heap.size + 1 + 1) := by
  have := ((NoU.new ((w.alloc (.cells #[.bool false, .slice ao (dig m).length cap1] 24)).alloc (.cells #[.bool false, .slice bo (dig k).length cap2] 24)) #[.bool false, .slice none 0 0, .bool false, .slice none 0 0] 145 (noU4 (by simp) (by simp) (by simp) (by simp))).alloc (by simp) #[.int .i64 0] 26).ext (by simp) hA0
  simpa using this
 have hnv : NoU w3 (w.heap.size + 1 + 1 + 1) := by
  have := (NoU.new (((w.alloc (.cells #[.bool false, .slice ao (dig m).length cap1] 24)).alloc (.cells #[.bool false, .slice bo (dig k).length cap2] 24)).alloc (.cells #[.bool false, .slice none 0 0, .bool false, .slice none 0 0] 145)) #[.int .i64 0] 26 (noU1 (by simp))).ext (by simp) hA0
  simpa using this
 have hsz3 : w.heap.size + 1 + 1 + 1 < w3.heap.size := by have := hA0.size; simp only [World.size_alloc] at this; omega
 go_wp2_with (go_at_call 210; (with_reducible refine (h4 _ ex_).mono ?_); rintro e w4 ⟨y4, rfl, ⟨y5, y6, rfl, hx, hy⟩, hb4⟩; obtain ⟨ao5, b5, o5, cap5, rfl, -⟩ := hx.view; obtain ⟨ao7, b7, o7, cap7, rfl, -⟩ := hy.view; obtain ⟨_, _, hc4, hf4⟩ := hb4.cells2; have hz4 := hb4.size; (try simp only [wsz] at hz4 hc4 hf4); replace hnu := hnu.ext (by omega) hb4; replace hnv := hnv.ext (by omega) hb4)
 refine leaves_cons (f := 207) (args := #[.pointer (some ⟨w.heap.size + 1 + 1 + 1, 0, none⟩)]) (by simp) c_47 ?_
 refine (w_catch _ _).mono ?_
 rintro e u' w'' ⟨rfl, rfl, rfl⟩
 refine ⟨.tuple #[.agg #[.bool false, .slice ao5 (dig m1).length cap5, .bool false, .slice ao7 (dig k1).length cap7], .int .i64 0], ?_, _, rfl, ⟨_, _, rfl, ?_, ?_⟩, ?_⟩
 ·simp [results, Tryz.results186, go_sem, ↓IntWalk.iteOmega, *]
 ·refine Lim.box (Lim.box (Lim.box (Lim.box (Lim.box hx ?_) ?_) ?_) ?_) ?_ <;> (repeat (first | with_reducible exact hnu | with_reducible exact hnv | with_reducible refine NoU.set ?_ (fun z e => by cases e)))
 ·refine Lim.box (Lim.box (Lim.box (Lim.box (Lim.box hy ?_) ?_) ?_) ?_) ?_ <;> (repeat (first | with_reducible exact hnu | with_reducible exact hnv | with_reducible refine NoU.set ?_ (fun z e => by cases e)))
 ·exact ex_
theorem w_Of (n d : Nat) (w : World) (hn : n < 9223372036854775808) (hd : d < 9223372036854775808) (h0 : 0 < d) :
    Calls Tryz.prog 139 #[.int .i64 n, .int .i64 d] w fun e w' => ∃ u, e = .returned (.tuple #[u, .int .i64 0]) ∧ Fq w' u (n / Nat.gcd n d) (d / Nat.gcd n d) ∧ Ext w w' := by
 have h1 := fun w1 va vb (ha : Nn w1 va n) (hb : Nn w1 vb d) => w_Make va vb n d w1 ha hb (dig_len2 hn) (dig_len2 hd) h0
 generalize n / Nat.gcd n d = m1 at *
 generalize d / Nat.gcd n d = k1 at *
 go_enter Tryz.func139, Tryz.ntmps139
 go_wp2_with (first
  | (go_at_call 65; (with_reducible refine (w_From n _ hn).mono ?_); rintro e w1 ⟨y1, rfl, hn1, hb1⟩; obtain ⟨_, _, hc1, hf1⟩ := hb1.cells2; have hz1 := hb1.size; (try simp only [wsz] at hz1 hc1 hf1))
  | (go_at_call 65; (with_reducible refine (w_From d _ hd).mono ?_); rintro e w2 ⟨y2, rfl, hn2, hb2⟩; obtain ⟨_, _, hc2, hf2⟩ := hb2.cells2; have hz2 := hb2.size; (try simp only [wsz] at hz2 hc2 hf2); replace hn1 := hn1.ext hb2)
  | (go_at_call 186; (with_reducible refine (h1 _ _ _ hn1 hn2).mono ?_); rintro e w3 ⟨y3, rfl, ⟨y4, y5, rfl, hx, hy⟩, hb3⟩; obtain ⟨ao5, b5, o5, cap5, rfl, -⟩ := hx.view; obtain ⟨ao7, b7, o7, cap7, rfl, -⟩ := hy.view; obtain ⟨_, _, hc3, hf3⟩ := hb3.cells2; have hz3 := hb3.size; (try simp only [wsz] at hz3 hc3 hf3)))
 have hnu : NoU w3 w.heap.size := (NoU.new w _ _ (noU4 (by simp) (by simp) (by simp) (by simp))).ext (by simp) (ex_ : Ext (w.alloc (.cells #[.bool false, .slice none 0 0, .bool false, .slice none 0 0] 145)) w3)
 refine bodyPost_ret (v := .tuple #[.agg #[.bool false, .slice ao5 (dig m1).length cap5, .bool false, .slice ao7 (dig k1).length cap7], .int .i64 0]) ?_ rfl ⟨_, rfl, ⟨_, _, rfl, ?_, ?_⟩, ?_⟩
 ·simp [results, Tryz.results139, go_sem, ↓IntWalk.iteOmega, *]
 ·refine Lim.box (Lim.box (Lim.box (Lim.box hx ?_) ?_) ?_) ?_ <;> (repeat (first | with_reducible exact hnu | with_reducible refine NoU.set ?_ (fun z e => by cases e)))
 ·refine Lim.box (Lim.box (Lim.box (Lim.box hy ?_) ?_) ?_) ?_ <;> (repeat (first | with_reducible exact hnu | with_reducible refine NoU.set ?_ (fun z e => by cases e)))
 ·exact ex_
theorem T_ZT_3 {p : Prop} (h : p := by
 obtain ⟨u, rfl, hu⟩ := ha
 obtain ⟨s, rfl, hv⟩ := hb0
 obtain ⟨ao, b1, o1, cap1, rfl, -⟩ := hu.view
 obtain ⟨bo, b2, o2, cap2, rfl, -⟩ := hv.view
 go_enter Tryz.func114, Tryz.ntmps114
 go_wp2
 go_ret
 exact T_ZT_1) : p := h
theorem T_ZT_2 {p : Prop} (h : p := by
 rw [dig_val, dig_val] at hcm
 go_enter Tryz.func114, Tryz.ntmps114
 go_wp2_with (go_at_call 167; (with_reducible refine (hcm _ ex_).mono ?_); rintro e w1 ⟨rfl, hb⟩)
 go_ret
 exact T_ZT_1) : p := h
theorem T_ZT_1 {p : Prop} (h : p := by
 exact ⟨rfl, ex_⟩) : p := h
theorem z_toFF (va vb : Value) (m k : Nat) (w : World) (ha : Sm w va false m) (hb0 : Sm w vb false k) :
    Calls Tryz.prog 114 #[va, vb] w fun e w' => e = .returned (.int .i64 (cmpI m k)) ∧ Ext w w' := by
 obtain ⟨u, rfl, hu⟩ := ha
 obtain ⟨s, rfl, hv⟩ := hb0
 obtain ⟨ao, b1, o1, cap1, rfl, -⟩ := hu.view
 obtain ⟨bo, b2, o2, cap2, rfl, -⟩ := hv.view
 have hcm := fun w1 (k1 : Ext w w1) => w_compare _ _ (dig m) (dig k) w1 (hu.ext k1) (hv.ext k1) (dig_nz m) (dig_nz k)
 exact T_ZT_2
theorem z_toTT (va vb : Value) (m k : Nat) (w : World) (ha : Sm w va true m) (hb0 : Sm w vb true k) :
    Calls Tryz.prog 114 #[va, vb] w fun e w' => e = .returned (.int .i64 (cmpI k m)) ∧ Ext w w' := by
 obtain ⟨u, rfl, hu⟩ := ha
 obtain ⟨s, rfl, hv⟩ := hb0
 obtain ⟨ao, b1, o1, cap1, rfl, -⟩ := hu.view
 obtain ⟨bo, b2, o2, cap2, rfl, -⟩ := hv.view
 have hcm := fun w1 (k1 : Ext w w1) => w_compare _ _ (dig k) (dig m) w1 (hv.ext k1) (hu.ext k1) (dig_nz k) (dig_nz m)
 exact T_ZT_2
theorem z_toTF (va vb : Value) (m k : Nat) (w : World) (ha : Sm w va true m) (hb0 : Sm w vb false k) :
    Calls Tryz.prog 114 #[va, vb] w fun e w' => e = .returned (.int .i64 (-1)) ∧ Ext w w' := by
 exact T_ZT_3
theorem z_toFT (va vb : Value) (m k : Nat) (w : World) (ha : Sm w va false m) (hb0 : Sm w vb true k) :
    Calls Tryz.prog 114 #[va, vb] w fun e w' => e = .returned (.int .i64 (1)) ∧ Ext w w' := by
 exact T_ZT_3
theorem z_to (va vb : Value) (m k : Int) (w : World) (ha : Wid w va m) (hb0 : Wid w vb k) :
    Calls Tryz.prog 114 #[va, vb] w fun e w' => e = .returned (.int .i64 (cmpI m k)) ∧ Ext w w' := by
 have ha' : Sm w va (decide (m < 0)) m.natAbs := ha
 have hb' : Sm w vb (decide (k < 0)) k.natAbs := hb0
 by_cases h1 : m < 0 <;> by_cases h2 : k < 0
 ·rw [decide_eq_true h1] at ha'
  rw [decide_eq_true h2] at hb'
  have e : cmpI m k = cmpI (k.natAbs : Int) (m.natAbs : Int) := by
   rw [show (k.natAbs : Int) = -k by omega, show (m.natAbs : Int) = -m by omega]
   unfold cmpI
   split <;> split <;> (try split) <;> (try split) <;> first | rfl | omega
  rw [e]; exact z_toTT va vb _ _ w ha' hb'
 ·rw [decide_eq_true h1] at ha'
  rw [decide_eq_false h2] at hb'
  rw [cmp_lt (show m < k by omega)]; exact z_toTF va vb _ _ w ha' hb'
 ·rw [decide_eq_false h1] at ha'
  rw [decide_eq_true h2] at hb'
  rw [cmp_gt (show k < m by omega)]; exact z_toFT va vb _ _ w ha' hb'
 ·rw [decide_eq_false h1] at ha'
  rw [decide_eq_false h2] at hb'
  have e : cmpI m k = cmpI (m.natAbs : Int) (k.natAbs : Int) := by
   rw [show (k.natAbs : Int) = k by omega, show (m.natAbs : Int) = m by omega]
  rw [e]; exact z_toFF va vb _ _ w ha' hb'
theorem z_Cmp (va vb : Value) (m k : Int) (w : World) (ha : Wid w va m) (hb0 : Wid w vb k) (hs : Sz m) (hs2 : Sz k) :
    Calls Tryz.prog 56 #[va, vb] w fun e w' => e = .returned (.tuple #[.int .i64 (cmpI m k), .int .i64 0]) ∧ Ext w w' := by
 obtain ⟨u, rfl, hu⟩ := ha
 obtain ⟨s, rfl, hv⟩ := hb0
 obtain ⟨ao, b1, o1, cap1, rfl, -⟩ := hu.view
 obtain ⟨bo, b2, o2, cap2, rfl, -⟩ := hv.view
 have hck := fun w1 (k1 : Ext w w1) => z_check_two w1 _ _ (decide (m < 0)) (decide (k < 0)) m.natAbs k.natAbs (hu.ext k1) (hv.ext k1) hs hs2 (wid_s _ rfl) (wid_s _ rfl)
 have hto := fun w1 (k1 : Ext w w1) => z_to (.agg #[.bool (decide (m < 0)), .slice ao (dig m.natAbs).length cap1]) (.agg #[.bool (decide (k < 0)), .slice bo (dig k.natAbs).length cap2]) m k w1 ⟨_, rfl, hu.ext k1⟩ ⟨_, rfl, hv.ext k1⟩
 have hmf : ∀ (fn : Fn) (first cap : Array Value) (w : World), (Instr.makeFunc fn first cap).run Tryz.prog w = .ok (.func fn first cap) w := fun _ _ _ _ => rfl
 generalize cmpI m k = R at hto ⊢
 generalize decide (m < 0) = sa at hck hto ⊢
 generalize decide (k < 0) = sb at hck hto ⊢
 generalize (dig m.natAbs).length = la at hck hto ⊢
 generalize (dig k.natAbs).length = lb at hck hto ⊢
 clear hu hv hs hs2
 have hck3 := hck ((w.alloc (.cells #[.bool sa, .slice ao la cap1] 24)).alloc (.cells #[.bool sb, .slice bo lb cap2] 24)) ex_
 simp only [World.size_alloc] at hck3
 clear hck
 go_enter Tryz.func56, Tryz.ntmps56
 go_wp2_with (first
  | (go_at_call 52; (with_reducible refine hck3.mono ?_); rintro e w1 ⟨rfl, hb⟩; obtain ⟨_, _, hc, hf⟩ := hb.cells2; have hz := hb.size; (try simp only [wsz] at hz hc hf))
  | (go_at_call 114; (with_reducible refine (hto _ ex_).mono ?_); rintro e w2 ⟨rfl, hb2⟩))
 go_ret2
 exact T_ZT_1
theorem sz0 : Sz 0 := by unfold Sz Small; simp [dig_nil.2]
theorem wid0 (w : World) : Wid w (.agg #[.bool false, .slice none 0 0]) 0 := ⟨_, rfl, Lim.nil w⟩
theorem z_Sign (va : Value) (m : Int) (w : World) (ha : Wid w va m) (hs : Sz m) :
    Calls Tryz.prog 53 #[va] w fun e w' => e = .returned (.tuple #[.int .i64 (cmpI m 0), .int .i64 0]) ∧ Ext w w' := by
 obtain ⟨u, rfl, hu⟩ := ha
 obtain ⟨ao, b1, o1, cap1, rfl, -⟩ := hu.view
 have hto := fun w1 (k1 : Ext w w1) => z_Cmp (.agg #[.bool (decide (m < 0)), .slice ao (dig m.natAbs).length cap1]) (.agg #[.bool false, .slice none 0 0]) m 0 w1 ⟨_, rfl, hu.ext k1⟩ (wid0 w1) hs sz0
 generalize cmpI m 0 = R at hto ⊢
 generalize decide (m < 0) = sa at hto ⊢
 generalize (dig m.natAbs).length = la at hto ⊢
 go_enter Tryz.func53, Tryz.ntmps53
 go_wp2_with (go_at_call 56; (with_reducible refine (hto _ ex_).mono ?_); rintro e w2 ⟨rfl, hb2⟩)
 go_ret2
 exact T_ZT_1
theorem z_FromN (n : Nat) (w : World) (h0 : 0 < n) (hn : n ≤ 9223372036854775808) :
    Calls Tryz.prog 65 #[.int .i64 (-(n : Int))] w fun e w' => ∃ u, e = .returned u ∧ Wid w' u (-(n : Int)) ∧ Ext w w' := by
 have hL := lim_two (w.alloc (.cells #[.bool false, .slice none 0 0] 24)) ((n : Int) % 4294967296) ((n : Int) / 4294967296) (by unfold U32; omega) (by unfold U32; omega)
 rw [World.size_alloc] at hL
 have hv : val [(n : Int) % 4294967296, (n : Int) / 4294967296] = n := by simp only [val]; unfold BB; omega
 have hl : (dig n).length ≤ 4096 := dig_bits (k := 64) (L := 4096) (by omega) (by decide)
 have hd : decide (-(n : Int) < 0) = true := decide_eq_true (by omega)
 have hwu : IntKind.u64.wrap (-(IntKind.u64.wrap (-(n : Int)))) = n := by rw [IntKind.wrap_u64, IntKind.wrap_u64]; omega
 have hw2 : (n : Int) / 4294967296 % 4294967296 = (n : Int) / 4294967296 := by omega
 have hlen := dig_pos.2 h0
 have hmd := (w_madeS true _ _ n _ hL hv hl).mono (R' := fun e w' => ∃ u, e = .returned (.tuple #[.agg #[.bool true, u], .int .i64 0]) ∧ Lim w' u (dig n) ∧ Ext ((w.alloc (.cells #[.bool false, .slice none 0 0] 24)).alloc (.cells #[.int .u32 ((n : Int) % 4294967296), .int .u32 ((n : Int) / 4294967296)] 25)) w') (by
  rintro e w1 ⟨s, bo, rfl, hs, hbo, hb⟩
  rw [decide_eq_true hlen] at hbo
  subst hbo
  exact ⟨s, rfl, hs, hb⟩)
 clear hL hv hl
 go_enter Tryz.func65, Tryz.ntmps65
 go_wp2_with (go_at_call 54; (with_reducible refine hmd.mono ?_); rintro e w1 ⟨s, rfl, hs, hb⟩; obtain ⟨ao, b1, o1, cap1, rfl, -⟩ := hs.view; obtain ⟨_, _, hc, hf⟩ := hb.cells2; have hz := hb.size; (try simp only [wsz] at hz hc hf))
 clear hwu hw2 hmd
 have hB : NoU w1 w.heap.size := ((NoU.new w _ _ (noU2 (by simp) (by simp))).alloc (by simp) _ _).ext c_29 hb
 refine bodyPost_ret (v := .agg #[.bool true, .slice ao (dig n).length cap1]) ?_ rfl ⟨_, rfl, ⟨_, by rw [hd], ?_⟩, ?_⟩
 ·simp [results, Tryz.results65, go_sem, ↓IntWalk.iteOmega, *]
 ·rw [Int.natAbs_neg, Int.natAbs_natCast]
  have hB3 := hB.alloc (c := #[.bool true, .slice ao (dig n).length cap1]) (t := 24) (by omega)
  exact Lim.box (Lim.box (hs.alloc _) hB3) (NoU.set hB3 (fun z e => by cases e))
 ·exact ex_
theorem z_From (n : Int) (w : World) (h0 : -9223372036854775808 ≤ n) (h1 : n ≤ 9223372036854775807) :
    Calls Tryz.prog 65 #[.int .i64 n] w fun e w' => ∃ u, e = .returned u ∧ Wid w' u n ∧ Ext w w' := by
 by_cases h : n < 0
 ·obtain ⟨m, hm⟩ : ∃ m : Nat, n = -(m : Int) := ⟨n.natAbs, by omega⟩
  subst hm
  exact z_FromN m w (by omega) (by omega)
 ·obtain ⟨m, hm⟩ : ∃ m : Nat, n = (m : Int) := ⟨n.natAbs, by omega⟩
  subst hm
  refine (w_From m w (by omega)).mono ?_
  rintro e w' ⟨u, rfl, hu, hb⟩
  exact ⟨u, rfl, hu.wid, hb⟩
end Go.Proofs.YtogblocakccbgaaGreat
