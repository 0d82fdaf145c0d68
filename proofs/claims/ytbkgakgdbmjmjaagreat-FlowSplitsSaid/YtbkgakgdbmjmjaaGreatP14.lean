/- frac, over rational numbers: Check, reduce. -/
import Derived.Test.YtbkgakgdbmjmjaaGreatP13
import Derived.Test.YtbkgakgdbmjmjaaGreatP03
set_option linter.unusedSimpArgs false
set_option linter.unusedVariables false
set_option maxRecDepth 100000
set_option maxHeartbeats 4000000
namespace Go.Proofs.YtbkgakgdbmjmjaaGreat
open Go.RowKit
def Fs (w : World) (v : Value) (sa : Bool) (p q : Nat) : Prop := ∃ u s, v = .agg #[.bool sa, u, .bool false, s] ∧ Lim w u (dig p) ∧ Lim w s (dig q)
theorem Fs.ext {a w : World} {v : Value} {sa : Bool} {p q : Nat} (h : Fs a v sa p q) (k : Ext a w) : Fs w v sa p q := by
 obtain ⟨u, s, e, hu, hs⟩ := h; exact ⟨u, s, e, hu.ext k, hs.ext k⟩
def Fr (w : World) (v : Value) (x : Rat) : Prop := Fs w v (decide (x.num < 0)) x.num.natAbs x.den
theorem Fr.ext {a w : World} {v : Value} {x : Rat} (h : Fr a v x) (k : Ext a w) : Fr w v x := Fs.ext h k
theorem Fr.num {w : World} {v : Value} {x : Rat} (h : Fr w v x) : ∃ u s, v = .agg #[.bool (decide (x.num < 0)), u, .bool false, s] ∧ Wid w (.agg #[.bool (decide (x.num < 0)), u]) x.num ∧ Nn w (.agg #[.bool false, s]) x.den := by
 obtain ⟨u, s, e, hu, hs⟩ := h
 exact ⟨u, s, e, ⟨_, rfl, hu⟩, ⟨_, rfl, hs⟩⟩
theorem fb_small {x : Rat} {b : Nat} (h : Fb x b) (hb : b ≤ 131072) : Small x.num.natAbs ∧ Small x.den := ⟨small_bits h.1 hb, small_bits h.2 hb⟩
theorem num_zero_neg {n : Int} : n.natAbs = 0 → decide (n < 0) = false := fun h => decide_eq_false (by omega)
theorem z_fCheckS (vf : Value) (sa : Bool) (p q : Nat) (w : World) (hf : Fs w vf sa p q) (hz : p = 0 → sa = false) (hs : Small p) (hs2 : Small q) (hq : 0 < q) (hg : Nat.gcd p q = 1) :
    Calls Tryz.prog 139 #[vf] w fun e w' => e = .returned (.int .i64 0) ∧ Ext w w' := by
 obtain ⟨u, s, rfl, hu, hv⟩ := hf
 obtain ⟨ao, b1, o1, cap1, rfl, -⟩ := hu.view
 obtain ⟨bo, b2, o2, cap2, rfl, -⟩ := hv.view
 have hS1 := small1
 have hq0 : decide (q = 0) = false := decide_eq_false (by omega)
 have hgc := z_GcdS (.agg #[.bool sa, .slice ao (dig p).length cap1]) (.agg #[.bool false, .slice bo (dig q).length cap2]) sa p q (w.alloc (.cells #[.bool sa, .slice ao (dig p).length cap1, .bool false, .slice bo (dig q).length cap2] 161)) ⟨_, rfl, hu.ext ((Ext.refl w).alloc _)⟩ ⟨_, rfl, hv.ext ((Ext.refl w).alloc _)⟩ hs hs2 hz
 rw [hg] at hgc
 go_enter Tryz.func139, Tryz.ntmps139
 go_upto_region 2 with (go_at_call 190; (with_reducible refine hgc.mono ?_); rintro e w1 ⟨y1, rfl, ⟨y2, rfl, hgu⟩, hb⟩; obtain ⟨ao3, b3, o3, cap3, rfl, -⟩ := hgu.view)
 refine wp_name fun W hW => ?_
 have hWE : Ext w W := Ext.same hW ((((Ext.refl w).alloc _).trans hb).alloc _)
 have hE0 : Ext (w.alloc (.cells #[.bool sa, .slice ao (dig p).length cap1, .bool false, .slice bo (dig q).length cap2] 161)) W := Ext.same hW (hb.alloc _)
 have hB : w.heap.size < W.heap.size := by have := hE0.size; simp only [World.size_alloc] at this; omega
 have hG : w1.heap.size < W.heap.size := by rw [hW.cells.2.2]; simp
 have k2 : W.cell? ⟨w.heap.size, 2, none⟩ = some (.bool false) := (hE0.cells.1 _ 2 (by simp)).trans (by simp [go_sem])
 have k3 : W.cell? ⟨w.heap.size, 3, none⟩ = some (.slice bo (dig q).length cap2) := (hE0.cells.1 _ 3 (by simp)).trans (by simp [go_sem])
 have l0 : W.cell? ⟨w1.heap.size, 0, none⟩ = some (.bool false) := by rw [hW.cells.1]; simp [go_sem]
 have l1 : W.cell? ⟨w1.heap.size, 1, none⟩ = some (.slice ao3 (dig 1).length cap3) := by rw [hW.cells.1]; simp [go_sem]
 have nQ : Nn W (.agg #[.bool false, .slice bo (dig q).length cap2]) q := ⟨_, rfl, hv.ext hWE⟩
 have nG : Nn W (.agg #[.bool false, .slice ao3 (dig 1).length cap3]) 1 := ⟨_, rfl, hgu.ext (Ext.same hW ((Ext.refl w1).alloc _))⟩
 clear hW hb hgc
 refine wp_region_held_drew (S := (fun w0 => Ext W w0)) c_16 ?_ (fun hH => ?_)
 ·exact (Ext.refl W).drew
 try simp only [sx_]
 refine tk 0 rfl c_3 ?_
 try simp only [sx_]
 refine tk 1 rfl c_3 ?_
 try simp only [sx_]
 refine tk 2 rfl c_3 ?_
 try simp only [sx_]
 refine tk 3 rfl c_3 ?_
 try simp only [sx_]
 refine tk 4 rfl c_3 ?_
 try simp only [sx_]
 refine tk 5 rfl c_38 ?_
 try simp only [sx_]
 refine tk 6 rfl c_3 ?_
 try simp only [sx_]
 refine tk 7 rfl c_3 ?_
 try simp only [sx_]
 refine tk 8 rfl c_3 ?_
 try simp only [sx_]
 refine tk 9 rfl c_38 ?_
 try simp only [sx_]
 refine rh1 10 rfl fun K hK => ?_
 go_simp
 (go_at_call 187; (with_reducible refine (w_zero _ q _ (nQ.ext hH)).mono ?_); rintro e t0 ⟨rfl, hx0⟩; rw [hq0])
 refine hK.out _ _ ?_ fun _ => ?_
 ·(try dsimp only); exact hH.trans hx0
 clear hK K hH
 rename_i hH
 try simp only [sx_]
 refine tk 11 rfl c_3 ?_
 try simp only [sx_]
 refine tk 12 rfl c_3 ?_
 try simp only [sx_]
 refine tk 13 rfl c_38 ?_
 try simp only [sx_]
 refine rh1 14 rfl fun K hK => ?_
 go_simp
 (go_at_call 192; (with_reducible refine (w_one _).mono ?_); rintro e t1 ⟨v1, rfl, hn1, hx1⟩; have hn1b := hn1; obtain ⟨v2, rfl, hv2⟩ := hn1b; obtain ⟨ao4, b4, o4, cap4, rfl, -⟩ := hv2.view)
 refine hK.out _ _ ?_ fun _ => ?_
 ·(try dsimp only); exact hH.trans hx1
 clear hK K hH
 rename_i hH
 try simp only [sx_]
 refine rh1 15 rfl fun K hK => ?_
 go_simp
 (go_at_call 191; (with_reducible refine (w_same _ _ 1 1 _ (nG.ext hH) hn1 hS1 hS1).mono ?_); rintro e t2 ⟨rfl, hx2⟩)
 refine hK.out _ _ ?_ fun _ => ?_
 ·(try dsimp only); exact hH.trans hx2
 clear hK K hH
 rename_i hH
 try simp only [sx_]
 refine tk 16 rfl c_3 ?_
 try simp only [sx_]
 refine tk 17 rfl c_3 ?_
 try simp only [sx_]
 refine wpAnyH_done c_16 ?_ _
 go_wp2_with fail
 go_ret
 exact ⟨rfl, hWE.trans hH⟩
theorem z_fCheck (vf : Value) (x : Rat) (b : Nat) (w : World) (hf : Fr w vf x) (hx : Fb x b) (hb : b ≤ 131072) :
    Calls Tryz.prog 139 #[vf] w fun e w' => e = .returned (.int .i64 0) ∧ Ext w w' :=
  z_fCheckS vf _ _ _ w hf num_zero_neg (fb_small hx hb).1 (fb_small hx hb).2 (den_pos' x) x.reduced
theorem z_reduce (va vb : Value) (n : Int) (k : Nat) (w : World) (ha : Wid w va n) (hb0 : Nn w vb k) (hs : Sz n) (hs2 : Small k) (hk0 : 0 < k) :
    Calls Tryz.prog 188 #[va, vb] w fun e w' => ∃ u, e = .returned u ∧ Fr w' u (mkRat n k) ∧ Ext w w' := by
 have ha0 := ha
 have hb00 := hb0
 obtain ⟨u, rfl, hu⟩ := ha
 obtain ⟨s, rfl, hv⟩ := hb0
 obtain ⟨sa, hsa⟩ : ∃ sa, decide (n < 0) = sa := ⟨_, rfl⟩
 obtain ⟨m, hm⟩ : ∃ m, n.natAbs = m := ⟨_, rfl⟩
 rw [hsa] at ha0
 rw [hm] at hu
 rw [hsa]
 obtain ⟨ao, b1, o1, cap1, rfl, -⟩ := hu.view
 obtain ⟨bo, b2, o2, cap2, rfl, -⟩ := hv.view
 obtain ⟨g, hg⟩ : ∃ g, Nat.gcd n.natAbs k = g := ⟨_, rfl⟩
 have hg0 : 0 < g := hg ▸ Nat.gcd_pos_of_pos_right _ hk0
 have hsg : Small g := Nat.le_trans (dig_mono (hg ▸ Nat.gcd_le_right _ hk0)) hs2
 have h1 := fun w1 (k1 : Ext w w1) => z_Gcd (.agg #[.bool sa, .slice ao (dig m).length cap1]) (.agg #[.bool false, .slice bo (dig k).length cap2]) n k w1 (ha0.ext k1) (hb00.ext k1) hs hs2
 obtain ⟨e1, e2⟩ := mk_parts n hk0
 rw [hg] at h1 e1 e2
 have h2 := fun w1 (k1 : Ext w w1) vg (hn : Nn w1 vg g) => z_DivMod (.agg #[.bool sa, .slice ao (dig m).length cap1]) vg n g w1 (ha0.ext k1) hn hs hg0 hsg
 have h3 := fun w1 (k1 : Ext w w1) vg (hn : Nn w1 vg g) => w_DivMod (.agg #[.bool false, .slice bo (dig k).length cap2]) vg k g w1 (hb00.ext k1) hn hs2 hg0 hsg
 rw [show n / (g : Int) = (mkRat n k).num from e1.symm] at h2
 rw [show k / g = (mkRat n k).den from e2.symm] at h3
 obtain ⟨X, hX⟩ : ∃ X, mkRat n k = X := ⟨_, rfl⟩
 rw [hX] at h2 h3 ⊢
 have hX0 : X.num.natAbs = 0 → decide (X.num < 0) = false := num_zero_neg
 obtain ⟨sx, hsx⟩ : ∃ sx, decide (X.num < 0) = sx := ⟨_, rfl⟩
 obtain ⟨P, hP⟩ : ∃ P, X.num.natAbs = P := ⟨_, rfl⟩
 obtain ⟨Q, hQ⟩ : ∃ Q, X.den = Q := ⟨_, rfl⟩
 unfold Wid Fr at *
 rw [hsx, hP] at h2
 rw [hsx, hP, hQ]
 rw [hQ] at h3
 clear hX hg e1 e2 hX0 hsx hP hQ hsa hm ha0 hb00
 go_enter Tryz.func188, Tryz.ntmps188
 go_upto_region 6 with (first
  | (go_at_call 190; (with_reducible refine (h1 _ ex_).mono ?_); rintro e w1 ⟨y1, rfl, hng, hb1⟩; have hngb := hng; obtain ⟨y2, rfl, hgu⟩ := hngb; obtain ⟨ao3, b3, o3, cap3, rfl, -⟩ := hgu.view; obtain ⟨_, _, ⟨hc1, hf1⟩, hz1⟩ := hb1.c3; (try simp only [wsz] at hz1 hc1 hf1))
  | (go_at_call 232; (with_reducible refine (w_must0 _ g _ hng).mono ?_); rintro e w2 ⟨rfl, hb2⟩; obtain ⟨_, _, ⟨hc2, hf2⟩, hz2⟩ := hb2.c3; (try simp only [wsz] at hz2 hc2 hf2); have hn2 : Nn w2 (.agg #[.bool false, .slice ao3 (dig g).length cap3]) g := hng.ext hb2)
  | (go_at_call 140; (with_reducible refine (h2 _ ex_ _ (hn2.ext ex_)).mono ?_); rintro e w3 ⟨y3, y4, rfl, ⟨y5, rfl, hx⟩, ⟨y6, rfl, hxr⟩, hb3⟩; obtain ⟨ao5, b5, o5, cap5, rfl, -⟩ := hx.view; obtain ⟨ao6, b6, o6, cap6, rfl, -⟩ := hxr.view; obtain ⟨_, _, ⟨hc3, hf3⟩, hz3⟩ := hb3.c3; (try simp only [wsz] at hz3 hc3 hf3); clear h2)
  | (go_at_call 140; (with_reducible refine (h3 _ ex_ _ (hn2.ext ex_)).mono ?_); rintro e w4 ⟨y7, y8, rfl, ⟨y9, rfl, hy⟩, ⟨y10, rfl, hyr⟩, hb4⟩; obtain ⟨ao7, b7, o7, cap7, rfl, -⟩ := hy.view; obtain ⟨ao8, b8, o8, cap8, rfl, -⟩ := hyr.view; obtain ⟨_, _, ⟨hc4, hf4⟩, hz4⟩ := hb4.c3; (try simp only [wsz] at hz4 hc4 hf4)))
 refine wp_name fun W hW => ?_
 obtain ⟨hWc, hWf, hWz⟩ := hW.cells
 have hWE : Ext w W := Ext.same hW ex_
 have hA0 : Ext (((w.alloc (.cells #[.bool sa, .slice ao (dig m).length cap1] 159)).alloc (.cells #[.bool false, .slice bo (dig k).length cap2] 159)).alloc (.cells #[.bool false, .slice none 0 0, .bool false, .slice none 0 0] 161)) W := Ext.same hW ex_
 have hnu : NoU W (w.heap.size + 1 + 1) := by
  have := (NoU.new ((w.alloc (.cells #[.bool sa, .slice ao (dig m).length cap1] 159)).alloc (.cells #[.bool false, .slice bo (dig k).length cap2] 159)) #[.bool false, .slice none 0 0, .bool false, .slice none 0 0] 161 (noU4 (by simp) (by simp) (by simp) (by simp))).ext (by simp) hA0
  simpa using this
 have hxW := hx.ext (Ext.same hW ex_ : Ext w3 W)
 have hyW := hy.ext (Ext.same hW ex_ : Ext w4 W)
 clear hW
 go_wp2_with fail
 refine bodyPost_ret (v := .agg #[.bool sx, .slice ao5 (dig P).length cap5, .bool false, .slice ao7 (dig Q).length cap7]) ?_ rfl ⟨_, rfl, ⟨_, _, rfl, ?_, ?_⟩, ?_⟩
 ·simp [results, Tryz.results188, go_sem, ↓IntWalk.iteOmega, *]
 ·refine Lim.box (Lim.box (Lim.box (Lim.box hxW ?_) ?_) ?_) ?_ <;> (repeat (first | with_reducible exact hnu | with_reducible refine NoU.set ?_ (fun z e => by cases e)))
 ·refine Lim.box (Lim.box (Lim.box (Lim.box hyW ?_) ?_) ?_) ?_ <;> (repeat (first | with_reducible exact hnu | with_reducible refine NoU.set ?_ (fun z e => by cases e)))
 ·exact b_6
theorem w_catch (p : Value) (w : World) :
    CallsD Tryz.prog 184 #[p] .returning w fun e u' w' => e = .returned (.tuple #[]) ∧ u' = .returning ∧ w' = w := by
 refine callsD_of_wpS Tryz.func184 rfl fun c₀ cs hu => ?_
 apply wpS_seq
 apply wpS_region
 simp [wpOpsS, go_sem, recoverD, hu, Tryz.ntmps184, Exit.thenS]
 refine wpS_of_wp ?_
 go_wp2
 cases c₀
 simp_all [bodyPostS, results, Tryz.results184]
theorem z_FromN (n : Nat) (w : World) (h0 : 0 < n) (hn : n ≤ 9223372036854775808) :
    Calls Tryz.prog 138 #[.int .i64 (-(n : Int))] w fun e w' => ∃ u, e = .returned u ∧ Wid w' u (-(n : Int)) ∧ Ext w w' := by
 have hL := lim_two (w.alloc (.cells #[.bool false, .slice none 0 0] 159)) ((n : Int) % 4294967296) ((n : Int) / 4294967296) (by unfold U32; omega) (by unfold U32; omega)
 rw [World.size_alloc] at hL
 have hv : val [(n : Int) % 4294967296, (n : Int) / 4294967296] = n := by simp only [val]; unfold BB; omega
 have hl : (dig n).length ≤ 4096 := dig_bits (k := 64) (L := 4096) (by omega) (by decide)
 have hd : decide (-(n : Int) < 0) = true := decide_eq_true (by omega)
 have hwu : IntKind.u64.wrap (-(IntKind.u64.wrap (-(n : Int)))) = n := by rw [IntKind.wrap_u64, IntKind.wrap_u64]; omega
 have hw2 : (n : Int) / 4294967296 % 4294967296 = (n : Int) / 4294967296 := by omega
 have hlen := dig_pos.2 h0
 have hmd := (w_madeS true _ _ n _ hL hv hl).mono (R' := fun e w' => ∃ u, e = .returned (.tuple #[.agg #[.bool true, u], .int .i64 0]) ∧ Lim w' u (dig n) ∧ Ext ((w.alloc (.cells #[.bool false, .slice none 0 0] 159)).alloc (.cells #[.int .u32 ((n : Int) % 4294967296), .int .u32 ((n : Int) / 4294967296)] 255)) w') (by
  rintro e w1 ⟨s, bo, rfl, hs, hbo, hb⟩
  rw [decide_eq_true hlen] at hbo
  subst hbo
  exact ⟨s, rfl, hs, hb⟩)
 clear hL hv hl
 go_enter Tryz.func138, Tryz.ntmps138
 go_wp2_with (go_at_call 189; (with_reducible refine hmd.mono ?_); rintro e w1 ⟨s, rfl, hs, hb⟩; obtain ⟨ao, b1, o1, cap1, rfl, -⟩ := hs.view; obtain ⟨_, _, ⟨hc, hf⟩, hz⟩ := hb.c3; (try simp only [wsz] at hz hc hf))
 clear hwu hw2 hmd
 have hB : NoU w1 w.heap.size := ((NoU.new w _ _ (noU2 (by simp) (by simp))).alloc (by simp) _ _).ext c_46 hb
 refine bodyPost_ret (v := .agg #[.bool true, .slice ao (dig n).length cap1]) ?_ rfl ⟨_, rfl, ⟨_, by rw [hd], ?_⟩, ?_⟩
 ·simp [results, Tryz.results138, go_sem, ↓IntWalk.iteOmega, *]
 ·rw [Int.natAbs_neg, Int.natAbs_natCast]
  have hB3 := hB.alloc (c := #[.bool true, .slice ao (dig n).length cap1]) (t := 159) (by omega)
  exact Lim.box (Lim.box (hs.alloc _) hB3) (NoU.set hB3 (fun z e => by cases e))
 ·exact b_6
theorem z_From (n : Int) (w : World) (h0 : -9223372036854775808 ≤ n) (h1 : n ≤ 9223372036854775807) :
    Calls Tryz.prog 138 #[.int .i64 n] w fun e w' => ∃ u, e = .returned u ∧ Wid w' u n ∧ Ext w w' := by
 by_cases h : n < 0
 ·obtain ⟨m, hm⟩ : ∃ m : Nat, n = -(m : Int) := ⟨n.natAbs, by omega⟩
  subst hm
  exact z_FromN m w (by omega) (by omega)
 ·obtain ⟨m, hm⟩ : ∃ m : Nat, n = (m : Int) := ⟨n.natAbs, by omega⟩
  subst hm
  refine (w_From m w (by omega)).mono ?_
  rintro e w' ⟨u, rfl, hu, hb⟩
  exact ⟨u, rfl, hu.wid, hb⟩
theorem z_Check (v : Value) (n : Int) (w : World) (h : Wid w v n) (hs : Sz n) :
    Calls Tryz.prog 186 #[v] w fun e w' => e = .returned (.int .i64 0) ∧ Ext w w' := by
 obtain ⟨u, rfl, hu⟩ := h
 have hz : n.natAbs = 0 → decide (n < 0) = false := num_zero_neg
 obtain ⟨sa, hsa⟩ : ∃ sa, decide (n < 0) = sa := ⟨_, rfl⟩
 rw [hsa] at hz ⊢
 obtain ⟨ao, b1, o1, cap1, rfl, v1, v2, v3, v4, v5, v6⟩ := hu.view
 have hk := z_check_one (w.alloc (.cells #[.bool sa, .slice ao (dig n.natAbs).length cap1] 159)) _ sa n.natAbs (hu.alloc _) hs hz
 rw [World.size_alloc] at hk
 clear v1 v4 v5 hu hz
 go_enter Tryz.func186, Tryz.ntmps186
 go_wp2_with (go_at_call 193; (with_reducible refine hk.mono ?_); rintro e w1 ⟨rfl, hb⟩; obtain ⟨_, _, ⟨hc, hf⟩, hz⟩ := hb.c3; (try simp only [wsz] at hz hc hf))
 go_ret
 exact ⟨rfl, ex_⟩
theorem z_Make (va vb : Value) (n : Int) (k : Nat) (w : World) (ha : Wid w va n) (hb0 : Nn w vb k) (hs : Sz n) (hs2 : Small k) (hk0 : 0 < k) :
    Calls Tryz.prog 137 #[va, vb] w fun e w' => ∃ u, e = .returned (.tuple #[u, .int .i64 0]) ∧ Fr w' u (mkRat n k) ∧ Ext w w' := by
 have ha0 := ha
 have hb00 := hb0
 obtain ⟨u, rfl, hu⟩ := ha
 obtain ⟨s, rfl, hv⟩ := hb0
 obtain ⟨sa, hsa⟩ : ∃ sa, decide (n < 0) = sa := ⟨_, rfl⟩
 obtain ⟨m, hm⟩ : ∃ m, n.natAbs = m := ⟨_, rfl⟩
 rw [hsa] at ha0
 rw [hm] at hu
 rw [hsa]
 obtain ⟨ao, b1, o1, cap1, rfl, -⟩ := hu.view
 obtain ⟨bo, b2, o2, cap2, rfl, -⟩ := hv.view
 have hz0 : decide (k = 0) = false := decide_eq_false (by omega)
 have h1 := fun w1 (k1 : Ext w w1) => z_Check (.agg #[.bool sa, .slice ao (dig m).length cap1]) n w1 (ha0.ext k1) hs
 have h2 := fun w1 (k1 : Ext w w1) => w_Check (.agg #[.bool false, .slice bo (dig k).length cap2]) k w1 (hb00.ext k1) hs2
 have h3 := fun w1 (k1 : Ext w w1) => w_zero (.agg #[.bool false, .slice bo (dig k).length cap2]) k w1 (hb00.ext k1)
 rw [hz0] at h3
 have h4 := fun w1 (k1 : Ext w w1) => z_reduce (.agg #[.bool sa, .slice ao (dig m).length cap1]) (.agg #[.bool false, .slice bo (dig k).length cap2]) n k w1 (ha0.ext k1) (hb00.ext k1) hs hs2 hk0
 obtain ⟨X, hX⟩ : ∃ X, mkRat n k = X := ⟨_, rfl⟩
 rw [hX] at h4 ⊢
 obtain ⟨sx, hsx⟩ : ∃ sx, decide (X.num < 0) = sx := ⟨_, rfl⟩
 obtain ⟨P, hP⟩ : ∃ P, X.num.natAbs = P := ⟨_, rfl⟩
 obtain ⟨Q, hQ⟩ : ∃ Q, X.den = Q := ⟨_, rfl⟩
 unfold Fr at *
 rw [hsx, hP, hQ] at h4 ⊢
 clear hX hsx hP hQ hsa hm ha0 hb00 hz0
 go_enter_defers Tryz.func137, Tryz.ntmps137
 go_upto_region 6 with (first
  | (go_at_call 186; (with_reducible refine (h1 _ ex_).mono ?_); rintro e w1 ⟨rfl, hb1⟩; obtain ⟨_, _, ⟨hc1, hf1⟩, hz1⟩ := hb1.c3; (try simp only [wsz] at hz1 hc1 hf1); clear h1)
  | (go_at_call 186; (with_reducible refine (h2 _ ex_).mono ?_); rintro e w2 ⟨rfl, hb2⟩; obtain ⟨_, _, ⟨hc2, hf2⟩, hz2⟩ := hb2.c3; (try simp only [wsz] at hz2 hc2 hf2); clear h2)
  | (go_at_call 185; (with_reducible refine (w_want0 _).mono ?_); rintro e w9 ⟨rfl, rfl⟩)
  | (go_at_call 187; (with_reducible refine (h3 _ ex_).mono ?_); rintro e w3 ⟨rfl, hb3⟩; obtain ⟨_, _, ⟨hc3, hf3⟩, hz3⟩ := hb3.c3; (try simp only [wsz] at hz3 hc3 hf3); clear h3))
 have hA0 : Ext ((((w.alloc (.cells #[.bool sa, .slice ao (dig m).length cap1] 159)).alloc (.cells #[.bool false, .slice bo (dig k).length cap2] 159)).alloc (.cells #[.bool false, .slice none 0 0, .bool false, .slice none 0 0] 161)).alloc (.cells #[.int .i64 0] 30)) w3 := ex_
 have hnu : NoU w3 (w.heap.size + 1 + 1) := by
  have := ((NoU.new ((w.alloc (.cells #[.bool sa, .slice ao (dig m).length cap1] 159)).alloc (.cells #[.bool false, .slice bo (dig k).length cap2] 159)) #[.bool false, .slice none 0 0, .bool false, .slice none 0 0] 161 (noU4 (by simp) (by simp) (by simp) (by simp))).alloc (by simp) #[.int .i64 0] 30).ext (by simp) hA0
  simpa using this
 have hnv : NoU w3 (w.heap.size + 1 + 1 + 1) := by
  have := (NoU.new (((w.alloc (.cells #[.bool sa, .slice ao (dig m).length cap1] 159)).alloc (.cells #[.bool false, .slice bo (dig k).length cap2] 159)).alloc (.cells #[.bool false, .slice none 0 0, .bool false, .slice none 0 0] 161)) #[.int .i64 0] 30 (noU1 (by simp))).ext (by simp) hA0
  simpa using this
 have hsz3 : w.heap.size + 1 + 1 + 1 < w3.heap.size := by have := hA0.size; simp only [World.size_alloc] at this; omega
 go_wp2_with (go_at_call 188; (with_reducible refine (h4 _ ex_).mono ?_); rintro e w4 ⟨y4, rfl, ⟨y5, y6, rfl, hx, hy⟩, hb4⟩; obtain ⟨ao5, b5, o5, cap5, rfl, -⟩ := hx.view; obtain ⟨ao7, b7, o7, cap7, rfl, -⟩ := hy.view; obtain ⟨_, _, ⟨hc4, hf4⟩, hz4⟩ := hb4.c3; (try simp only [wsz] at hz4 hc4 hf4); replace hnu := hnu.ext (by omega) hb4; replace hnv := hnv.ext (by omega) hb4)
 refine leaves_cons (f := 184) (args := #[.pointer (some ⟨w.heap.size + 1 + 1 + 1, 0, none⟩)]) (by simp) (by simp [go_sem]) ?_
 refine (w_catch _ _).mono ?_
 rintro e u' w'' ⟨rfl, rfl, rfl⟩
 refine ⟨.tuple #[.agg #[.bool sx, .slice ao5 (dig P).length cap5, .bool false, .slice ao7 (dig Q).length cap7], .int .i64 0], ?_, _, rfl, ⟨_, _, rfl, ?_, ?_⟩, ?_⟩
 ·simp [results, Tryz.results137, go_sem, ↓IntWalk.iteOmega, *]
 ·refine Lim.box (Lim.box (Lim.box (Lim.box (Lim.box hx ?_) ?_) ?_) ?_) ?_ <;> (repeat (first | with_reducible exact hnu | with_reducible exact hnv | with_reducible refine NoU.set ?_ (fun z e => by cases e)))
 ·refine Lim.box (Lim.box (Lim.box (Lim.box (Lim.box hy ?_) ?_) ?_) ?_) ?_ <;> (repeat (first | with_reducible exact hnu | with_reducible exact hnv | with_reducible refine NoU.set ?_ (fun z e => by cases e)))
 ·exact b_6
theorem z_Of (n : Int) (d : Nat) (w : World) (hn : -9223372036854775808 ≤ n) (hn2 : n ≤ 9223372036854775807) (hd : d < 9223372036854775808) (h0 : 0 < d) :
    Calls Tryz.prog 93 #[.int .i64 n, .int .i64 d] w fun e w' => ∃ u, e = .returned (.tuple #[u, .int .i64 0]) ∧ Fr w' u (mkRat n d) ∧ Ext w w' := by
 have hsn : Sz n := dig_bits (k := 64) (L := 4096) (by omega) (by decide)
 have h1 := fun w1 va vb (ha : Wid w1 va n) (hb : Nn w1 vb d) => z_Make va vb n d w1 ha hb hsn (dig_len2 hd) h0
 have hf := fun w1 => z_From n w1 hn hn2
 obtain ⟨X, hX⟩ : ∃ X, mkRat n d = X := ⟨_, rfl⟩
 rw [hX] at h1 ⊢
 obtain ⟨sx, hsx⟩ : ∃ sx, decide (X.num < 0) = sx := ⟨_, rfl⟩
 obtain ⟨P, hP⟩ : ∃ P, X.num.natAbs = P := ⟨_, rfl⟩
 obtain ⟨Q, hQ⟩ : ∃ Q, X.den = Q := ⟨_, rfl⟩
 unfold Fr at *
 rw [hsx, hP, hQ] at h1 ⊢
 clear hX hsx hP hQ hsn
 go_enter Tryz.func93, Tryz.ntmps93
 go_wp2_with (first
  | (go_at_call 138; (with_reducible refine (hf _).mono ?_); rintro e w1 ⟨y1, rfl, hn1, hb1⟩; obtain ⟨_, _, ⟨hc1, hf1⟩, hz1⟩ := hb1.c3; (try simp only [wsz] at hz1 hc1 hf1))
  | (go_at_call 138; (with_reducible refine (w_From d _ hd).mono ?_); rintro e w2 ⟨y2, rfl, hn2, hb2⟩; obtain ⟨_, _, ⟨hc2, hf2⟩, hz2⟩ := hb2.c3; (try simp only [wsz] at hz2 hc2 hf2); replace hn1 := hn1.ext hb2)
  | (go_at_call 137; (with_reducible refine (h1 _ _ _ hn1 hn2).mono ?_); rintro e w3 ⟨y3, rfl, ⟨y4, y5, rfl, hx, hy⟩, hb3⟩; obtain ⟨ao5, b5, o5, cap5, rfl, -⟩ := hx.view; obtain ⟨ao7, b7, o7, cap7, rfl, -⟩ := hy.view; obtain ⟨_, _, ⟨hc3, hf3⟩, hz3⟩ := hb3.c3; (try simp only [wsz] at hz3 hc3 hf3)))
 have hnu : NoU w3 w.heap.size := (NoU.new w _ _ (noU4 (by simp) (by simp) (by simp) (by simp))).ext (by simp) (ex_ : Ext (w.alloc (.cells #[.bool false, .slice none 0 0, .bool false, .slice none 0 0] 161)) w3)
 refine bodyPost_ret (v := .tuple #[.agg #[.bool sx, .slice ao5 (dig P).length cap5, .bool false, .slice ao7 (dig Q).length cap7], .int .i64 0]) ?_ rfl ⟨_, rfl, ⟨_, _, rfl, ?_, ?_⟩, ?_⟩
 ·simp [results, Tryz.results93, go_sem, ↓IntWalk.iteOmega, *]
 ·refine Lim.box (Lim.box (Lim.box (Lim.box hx ?_) ?_) ?_) ?_ <;> (repeat (first | with_reducible exact hnu | with_reducible refine NoU.set ?_ (fun z e => by cases e)))
 ·refine Lim.box (Lim.box (Lim.box (Lim.box hy ?_) ?_) ?_) ?_ <;> (repeat (first | with_reducible exact hnu | with_reducible refine NoU.set ?_ (fun z e => by cases e)))
 ·exact b_6
theorem T_ZN_3 {p : Prop} (h : p := by
 clear hck hu
 simp only [List.length_cons, List.length_nil, Nat.zero_add, Nat.reduceAdd] at v2 hck3 ⊢
 go_enter Tryz.func141, Tryz.ntmps141
 go_wp2_with (go_at_call 193; (with_reducible refine hck3.mono ?_); rintro e w1 ⟨rfl, hb⟩; obtain ⟨_, _, ⟨hc, hf⟩, hz⟩ := hb.c3; (try simp only [wsz] at hz hc hf))
 refine wp_loop_rounds 2 ?_
 rw [rounds_succ]
 go_wp2_with fail
 exact T_ZN_1) : p := h
theorem T_ZN_2 {p : Prop} (h : p := by
 clear hck hu
 simp only [List.length_cons, List.length_nil, Nat.zero_add, Nat.reduceAdd] at v2 hck3 ⊢
 go_enter Tryz.func141, Tryz.ntmps141
 go_wp2_with (go_at_call 193; (with_reducible refine hck3.mono ?_); rintro e w1 ⟨rfl, hb⟩; obtain ⟨_, _, ⟨hc, hf⟩, hz⟩ := hb.c3; (try simp only [wsz] at hz hc hf))
 refine wp_loop_rounds 3 ?_
 rw [rounds_succ]
 go_wp2_with fail
 rw [rounds_succ]
 go_wp2_with fail
 exact T_ZN_1) : p := h
theorem T_ZN_1 {p : Prop} (h : p := by
 rw [rounds_succ]
 go_wp2_with fail
 go_ret2
 exact ⟨rfl, ex_⟩) : p := h
theorem or_lh (h l : Int) (h0 : 0 ≤ h) (h1 : h < 4294967296) (hl : U32 l) : bits .or .u64 l (h * 4294967296) = l + h * 4294967296 := by
 unfold U32 at hl
 obtain ⟨a, rfl⟩ := Int.eq_ofNat_of_zero_le h0
 obtain ⟨b, rfl⟩ := Int.eq_ofNat_of_zero_le hl.1
 have e3 : (a : Int) * 4294967296 = ((2 ^ 32 * a : Nat) : Int) := by rw [Int.natCast_mul]; omega
 have e := Nat.two_pow_add_eq_or_of_lt (i := 32) (b := b) (by omega) a
 rw [e3, u64_or_nat _ _ (by omega) (by omega), Nat.or_comm, ← e]
 omega
theorem or_zero (l : Int) (hl : U32 l) : bits .or .u64 0 l = l := by
 unfold U32 at hl
 obtain ⟨b, rfl⟩ := Int.eq_ofNat_of_zero_le hl.1
 rw [show (0 : Int) = ((0 : Nat) : Int) from rfl, u64_or_nat _ _ (by omega) (by omega), Nat.zero_or]
theorem two_limbs {X : List Int} (h : X.length ≤ 2) : X = [] ∨ (∃ a, X = [a]) ∨ ∃ a b, X = [a, b] := by
 match X, h with
 | [], _ => exact Or.inl rfl
 | [a], _ => exact Or.inr (Or.inl ⟨a, rfl⟩)
 | [a, b], _ => exact Or.inr (Or.inr ⟨a, b, rfl⟩)
 | a :: b :: c :: r, h => simp at h
theorem z_Int0false (va u : Value) (w : World) (hva : va = .agg #[.bool false, u]) (hu : Lim w u [])
    (hck : ∀ w1, Ext w w1 → Calls Tryz.prog 193 #[.slice (some ⟨w1.heap.size, 0, none⟩) 1 1] (w1.alloc (.cells #[.bool false, u] 159)) fun e w' => e = .returned (.int .i64 0) ∧ Ext (w1.alloc (.cells #[.bool false, u] 159)) w') :
    Calls Tryz.prog 141 #[va] w fun e w' => e = .returned (.tuple #[.int .i64 (0), .int .i64 0]) ∧ Ext w w' := by
 subst hva
 obtain ⟨ao, b1, o1, cap1, rfl, v1, v2, v3, v4, v5, v6⟩ := hu.view
 clear v1 v5 v4 v6
 have hck3 := hck (w.alloc (.cells #[.bool false, .slice ao 0 cap1] 159)) ex_
 simp only [World.size_alloc] at hck3
 clear hck hu
 simp only [List.length_cons, List.length_nil, Nat.zero_add, Nat.reduceAdd] at v2 hck3 ⊢
 go_enter Tryz.func141, Tryz.ntmps141
 go_wp2_with (go_at_call 193; (with_reducible refine hck3.mono ?_); rintro e w1 ⟨rfl, hb⟩; obtain ⟨_, _, ⟨hc, hf⟩, hz⟩ := hb.c3; (try simp only [wsz] at hz hc hf))
 refine wp_loop_rounds 1 ?_
 exact T_ZN_1
theorem z_Int1false (a : Int) (va u : Value) (w : World) (hva : va = .agg #[.bool false, u]) (hu : Lim w u [a])
    (hck : ∀ w1, Ext w w1 → Calls Tryz.prog 193 #[.slice (some ⟨w1.heap.size, 0, none⟩) 1 1] (w1.alloc (.cells #[.bool false, u] 159)) fun e w' => e = .returned (.int .i64 0) ∧ Ext (w1.alloc (.cells #[.bool false, u] 159)) w') :
    Calls Tryz.prog 141 #[va] w fun e w' => e = .returned (.tuple #[.int .i64 (a), .int .i64 0]) ∧ Ext w w' := by
 subst hva
 obtain ⟨ao, b1, o1, cap1, rfl, v1, v2, v3, v4, v5, v6⟩ := hu.view
 have haU : U32 a := (hu.lb.getD 0)
 have e0 := v1 (by simp)
 subst e0
 have hl0 := v5 0 (by simp)
 have hbl := v4 (by simp)
 simp only [List.getD_cons_zero, List.getD_cons_succ, Nat.add_zero] at hl0
 have ho0 := or_zero a haU
 unfold U32 at haU
 clear v1 v5 v4 v6
 have hck3 := hck (w.alloc (.cells #[.bool false, .slice (some ⟨b1, o1, none⟩) 1 cap1] 159)) ex_
 simp only [World.size_alloc] at hck3
 exact T_ZN_3
theorem z_Int1true (a : Int) (va u : Value) (w : World) (hva : va = .agg #[.bool true, u]) (hu : Lim w u [a])
    (hck : ∀ w1, Ext w w1 → Calls Tryz.prog 193 #[.slice (some ⟨w1.heap.size, 0, none⟩) 1 1] (w1.alloc (.cells #[.bool true, u] 159)) fun e w' => e = .returned (.int .i64 0) ∧ Ext (w1.alloc (.cells #[.bool true, u] 159)) w') :
    Calls Tryz.prog 141 #[va] w fun e w' => e = .returned (.tuple #[.int .i64 (-(a)), .int .i64 0]) ∧ Ext w w' := by
 subst hva
 obtain ⟨ao, b1, o1, cap1, rfl, v1, v2, v3, v4, v5, v6⟩ := hu.view
 have haU : U32 a := (hu.lb.getD 0)
 have e0 := v1 (by simp)
 subst e0
 have hl0 := v5 0 (by simp)
 have hbl := v4 (by simp)
 simp only [List.getD_cons_zero, List.getD_cons_succ, Nat.add_zero] at hl0
 have ho0 := or_zero a haU
 unfold U32 at haU
 have hng : IntKind.i64.wrap (IntKind.u64.wrap (-(a))) = -(a) := by rw [IntKind.wrap_i64, IntKind.wrap_u64]; omega
 have hng2 : wrap64 (IntKind.u64.wrap (-a)) = -a := by rw [IntKind.wrap_u64]; unfold wrap64; omega
 have hle : decide ((a) ≤ 9223372036854775808) = true := decide_eq_true (by omega)
 clear v1 v5 v4 v6
 have hck3 := hck (w.alloc (.cells #[.bool true, .slice (some ⟨b1, o1, none⟩) 1 cap1] 159)) ex_
 simp only [World.size_alloc] at hck3
 exact T_ZN_3
theorem z_Int2false (a b : Int) (va u : Value) (w : World) (hva : va = .agg #[.bool false, u]) (hu : Lim w u [a, b]) (hlt : a + b * 4294967296 < 9223372036854775808)
    (hck : ∀ w1, Ext w w1 → Calls Tryz.prog 193 #[.slice (some ⟨w1.heap.size, 0, none⟩) 1 1] (w1.alloc (.cells #[.bool false, u] 159)) fun e w' => e = .returned (.int .i64 0) ∧ Ext (w1.alloc (.cells #[.bool false, u] 159)) w') :
    Calls Tryz.prog 141 #[va] w fun e w' => e = .returned (.tuple #[.int .i64 (a + b * 4294967296), .int .i64 0]) ∧ Ext w w' := by
 subst hva
 obtain ⟨ao, b1, o1, cap1, rfl, v1, v2, v3, v4, v5, v6⟩ := hu.view
 have haU : U32 a := (hu.lb.getD 0)
 have e0 := v1 (by simp)
 subst e0
 have hl0 := v5 0 (by simp)
 have hbl := v4 (by simp)
 simp only [List.getD_cons_zero, List.getD_cons_succ, Nat.add_zero] at hl0
 have ho0 := or_zero a haU
 have hbU : U32 b := (hu.lb.getD 1)
 have hl1 := v5 1 (by simp)
 simp only [List.getD_cons_zero, List.getD_cons_succ] at hl1
 have ho1 := or_lh b a (by unfold U32 at hbU; omega) (by unfold U32 at hbU; omega) haU
 unfold U32 at haU
 unfold U32 at hbU
 clear v1 v5 v4 v6
 have hck3 := hck (w.alloc (.cells #[.bool false, .slice (some ⟨b1, o1, none⟩) 2 cap1] 159)) ex_
 simp only [World.size_alloc] at hck3
 exact T_ZN_2
theorem z_Int2true (a b : Int) (va u : Value) (w : World) (hva : va = .agg #[.bool true, u]) (hu : Lim w u [a, b]) (hlt : a + b * 4294967296 ≤ 9223372036854775808)
    (hck : ∀ w1, Ext w w1 → Calls Tryz.prog 193 #[.slice (some ⟨w1.heap.size, 0, none⟩) 1 1] (w1.alloc (.cells #[.bool true, u] 159)) fun e w' => e = .returned (.int .i64 0) ∧ Ext (w1.alloc (.cells #[.bool true, u] 159)) w') :
    Calls Tryz.prog 141 #[va] w fun e w' => e = .returned (.tuple #[.int .i64 (-(a + b * 4294967296)), .int .i64 0]) ∧ Ext w w' := by
 subst hva
 obtain ⟨ao, b1, o1, cap1, rfl, v1, v2, v3, v4, v5, v6⟩ := hu.view
 have haU : U32 a := (hu.lb.getD 0)
 have e0 := v1 (by simp)
 subst e0
 have hl0 := v5 0 (by simp)
 have hbl := v4 (by simp)
 simp only [List.getD_cons_zero, List.getD_cons_succ, Nat.add_zero] at hl0
 have ho0 := or_zero a haU
 have hbU : U32 b := (hu.lb.getD 1)
 have hl1 := v5 1 (by simp)
 simp only [List.getD_cons_zero, List.getD_cons_succ] at hl1
 have ho1 := or_lh b a (by unfold U32 at hbU; omega) (by unfold U32 at hbU; omega) haU
 unfold U32 at haU
 unfold U32 at hbU
 have hng : IntKind.i64.wrap (IntKind.u64.wrap (-(a + b * 4294967296))) = -(a + b * 4294967296) := by rw [IntKind.wrap_i64, IntKind.wrap_u64]; omega
 have hng2 : wrap64 (IntKind.u64.wrap (-(a + b * 4294967296))) = -(a + b * 4294967296) := by rw [IntKind.wrap_u64]; unfold wrap64; omega
 have hle : decide ((a + b * 4294967296) ≤ 9223372036854775808) = true := decide_eq_true (by omega)
 clear v1 v5 v4 v6
 have hck3 := hck (w.alloc (.cells #[.bool true, .slice (some ⟨b1, o1, none⟩) 2 cap1] 159)) ex_
 simp only [World.size_alloc] at hck3
 exact T_ZN_2
theorem z_Int (va : Value) (n : Int) (w : World) (ha : Wid w va n) (h0 : -9223372036854775808 ≤ n) (h1 : n ≤ 9223372036854775807) :
    Calls Tryz.prog 141 #[va] w fun e w' => e = .returned (.tuple #[.int .i64 n, .int .i64 0]) ∧ Ext w w' := by
 obtain ⟨u, hva, hu⟩ := ha
 have hs : Sz n := dig_bits (k := 64) (L := 4096) (by omega) (by decide)
 have hl2 : (dig n.natAbs).length ≤ 2 := dig_bits (k := 64) (L := 2) (by omega) (by decide)
 have hck := fun w1 (k1 : Ext w w1) => z_check_one w1 _ (decide (n < 0)) n.natAbs (hu.ext k1) hs (wid_s _ rfl)
 have hv := dig_val n.natAbs
 have hp := dig_pos (m := n.natAbs)
 rcases two_limbs hl2 with e | ⟨a, e⟩ | ⟨a, b, e⟩
 ·rw [e] at hv hu
  simp only [val] at hv
  have hn : n = 0 := by omega
  have hd : decide (n < 0) = false := decide_eq_false (by omega)
  rw [hd] at hva hck
  rw [hn]
  exact z_Int0false va u w hva hu hck
 ·rw [e] at hv hu
  simp only [val] at hv
  have hB : BB = 4294967296 := rfl
  rw [hB] at hv
  by_cases h : n < 0
  ·rw [decide_eq_true h] at hva hck
   have hn : n = -a := by omega
   rw [hn]
   exact z_Int1true a va u w hva hu hck
  ·rw [decide_eq_false h] at hva hck
   have hn : n = a := by omega
   rw [hn]
   exact z_Int1false a va u w hva hu hck
 ·rw [e] at hv hu
  simp only [val] at hv
  have hB : BB = 4294967296 := rfl
  rw [hB] at hv
  by_cases h : n < 0
  ·rw [decide_eq_true h] at hva hck
   have hn : n = -(a + b * 4294967296) := by omega
   rw [hn]
   exact z_Int2true a b va u w hva hu (by omega) hck
  ·rw [decide_eq_false h] at hva hck
   have hn : n = a + b * 4294967296 := by omega
   rw [hn]
   exact z_Int2false a b va u w hva hu (by omega) hck
theorem z_Add (va vb : Value) (m k : Int) (w : World) (ha : Wid w va m) (hb0 : Wid w vb k) (hs : Sz m) (hs2 : Sz k) (hs3 : Sz (m + k)) :
    Calls Tryz.prog 144 #[va, vb] w fun e w' => ∃ u, e = .returned (.tuple #[u, .int .i64 0]) ∧ Wid w' u (m + k) ∧ Ext w w' := by
 obtain ⟨u, rfl, hu⟩ := ha
 obtain ⟨s, rfl, hv⟩ := hb0
 obtain ⟨ao, b1, o1, cap1, rfl, -⟩ := hu.view
 obtain ⟨bo, b2, o2, cap2, rfl, -⟩ := hv.view
 have hck := fun w1 (k1 : Ext w w1) => z_check_two w1 _ _ (decide (m < 0)) (decide (k < 0)) m.natAbs k.natAbs (hu.ext k1) (hv.ext k1) hs hs2 (wid_s _ rfl) (wid_s _ rfl)
 have hR : sg (decide (m < 0)) m.natAbs + sg ((decide (k < 0))) k.natAbs = m + k := by
  have h1 := sg_wid (n := m)
  have h2 := sg_wid (n := k)
  rw [h1, h2]
 have had := fun w1 (k1 : Ext w w1) => z_add (.agg #[.bool (decide (m < 0)), .slice ao (dig m.natAbs).length cap1]) (.agg #[.bool ((decide (k < 0))), .slice bo (dig k.natAbs).length cap2]) (decide (m < 0)) ((decide (k < 0))) m.natAbs k.natAbs w1 ⟨_, rfl, hu.ext k1⟩ ⟨_, rfl, hv.ext k1⟩ hs hs2 (by rw [hR]; exact hs3)
 rw [hR] at had
 clear hR hs3
 generalize m + k = R at had ⊢
 generalize decide (m < 0) = sa at hck had ⊢
 generalize decide (k < 0) = sb at hck had ⊢
 generalize (dig m.natAbs).length = la at hck had ⊢
 generalize (dig k.natAbs).length = lb at hck had ⊢
 clear hu hv hs hs2
 have hck3 := hck (((w.alloc (.cells #[.bool sa, .slice ao la cap1] 159)).alloc (.cells #[.bool sb, .slice bo lb cap2] 159)).alloc (.cells #[.bool false, .slice none 0 0] 159)) ex_
 simp only [World.size_alloc] at hck3
 clear hck
 go_enter Tryz.func144, Tryz.ntmps144
 go_wp2_with (first
  | (go_at_call 193; (with_reducible refine hck3.mono ?_); rintro e w1 ⟨rfl, hb⟩; obtain ⟨_, _, ⟨hc, hf⟩, hz⟩ := hb.c3; (try simp only [wsz] at hz hc hf); clear hck3)
  | (go_at_call 197; (with_reducible refine (had _ ex_).mono ?_); rintro e w2 ⟨y1, rfl, ⟨y2, rfl, hx⟩, hb2⟩; obtain ⟨xo, _, _, xc, rfl, -⟩ := hx.view; obtain ⟨_, _, ⟨hc2, hf2⟩, hz2⟩ := hb2.c3; (try simp only [wsz] at hz2 hc2 hf2); clear had))
 have hnu : NoU w2 (w.heap.size + 1 + 1) := by
  have h0 := (NoU.new ((w.alloc (.cells #[.bool sa, .slice ao la cap1] 159)).alloc (.cells #[.bool sb, .slice bo lb cap2] 159)) #[.bool false, .slice none 0 0] 159 (noU2 (by simp) (by simp)))
  simp only [World.size_alloc] at h0
  exact ((h0.alloc (by simp) _ _).ext (by simp) hb).ext (by omega) hb2
 refine bodyPost_ret (v := .tuple #[.agg #[.bool (decide (R < 0)), .slice xo (dig R.natAbs).length xc], .int .i64 0]) ?_ rfl ⟨_, rfl, ⟨_, rfl, ?_⟩, ?_⟩
 ·simp [results, Tryz.results144, go_sem, ↓IntWalk.iteOmega, *]
 ·exact Lim.box (Lim.box hx hnu) (NoU.set hnu (fun z e => by cases e))
 ·exact b_6
theorem z_Sub (va vb : Value) (m k : Int) (w : World) (ha : Wid w va m) (hb0 : Wid w vb k) (hs : Sz m) (hs2 : Sz k) (hs3 : Sz (m - k)) :
    Calls Tryz.prog 142 #[va, vb] w fun e w' => ∃ u, e = .returned (.tuple #[u, .int .i64 0]) ∧ Wid w' u (m - k) ∧ Ext w w' := by
 obtain ⟨u, rfl, hu⟩ := ha
 obtain ⟨s, rfl, hv⟩ := hb0
 obtain ⟨ao, b1, o1, cap1, rfl, -⟩ := hu.view
 obtain ⟨bo, b2, o2, cap2, rfl, -⟩ := hv.view
 have hck := fun w1 (k1 : Ext w w1) => z_check_two w1 _ _ (decide (m < 0)) (decide (k < 0)) m.natAbs k.natAbs (hu.ext k1) (hv.ext k1) hs hs2 (wid_s _ rfl) (wid_s _ rfl)
 have hR : sg (decide (m < 0)) m.natAbs + sg (!(decide (k < 0))) k.natAbs = m - k := by
  have h1 := sg_wid (n := m)
  have h2 := sg_wid (n := k)
  rw [h1]; unfold sg at h2 ⊢; cases hk : decide (k < 0) <;> rw [hk] at h2 <;> simp at h2 ⊢ <;> omega
 have had := fun w1 (k1 : Ext w w1) => z_add (.agg #[.bool (decide (m < 0)), .slice ao (dig m.natAbs).length cap1]) (.agg #[.bool (!(decide (k < 0))), .slice bo (dig k.natAbs).length cap2]) (decide (m < 0)) (!(decide (k < 0))) m.natAbs k.natAbs w1 ⟨_, rfl, hu.ext k1⟩ ⟨_, rfl, hv.ext k1⟩ hs hs2 (by rw [hR]; exact hs3)
 rw [hR] at had
 clear hR hs3
 generalize m - k = R at had ⊢
 generalize decide (m < 0) = sa at hck had ⊢
 generalize decide (k < 0) = sb at hck had ⊢
 generalize (dig m.natAbs).length = la at hck had ⊢
 generalize (dig k.natAbs).length = lb at hck had ⊢
 clear hu hv hs hs2
 have hck3 := hck (((w.alloc (.cells #[.bool sa, .slice ao la cap1] 159)).alloc (.cells #[.bool sb, .slice bo lb cap2] 159)).alloc (.cells #[.bool false, .slice none 0 0] 159)) ex_
 simp only [World.size_alloc] at hck3
 clear hck
 go_enter Tryz.func142, Tryz.ntmps142
 go_wp2_with (first
  | (go_at_call 193; (with_reducible refine hck3.mono ?_); rintro e w1 ⟨rfl, hb⟩; obtain ⟨_, _, ⟨hc, hf⟩, hz⟩ := hb.c3; (try simp only [wsz] at hz hc hf); clear hck3)
  | (go_at_call 197; (with_reducible refine (had _ ex_).mono ?_); rintro e w2 ⟨y1, rfl, ⟨y2, rfl, hx⟩, hb2⟩; obtain ⟨xo, _, _, xc, rfl, -⟩ := hx.view; obtain ⟨_, _, ⟨hc2, hf2⟩, hz2⟩ := hb2.c3; (try simp only [wsz] at hz2 hc2 hf2); clear had))
 have hnu : NoU w2 (w.heap.size + 1 + 1) := by
  have h0 := (NoU.new ((w.alloc (.cells #[.bool sa, .slice ao la cap1] 159)).alloc (.cells #[.bool sb, .slice bo lb cap2] 159)) #[.bool false, .slice none 0 0] 159 (noU2 (by simp) (by simp)))
  simp only [World.size_alloc] at h0
  exact (NoU.set ((h0.alloc (by simp) _ _).ext (by simp) hb) (fun z e => by cases e)).ext (by simp only [World.size_setCell]; omega) hb2
 refine bodyPost_ret (v := .tuple #[.agg #[.bool (decide (R < 0)), .slice xo (dig R.natAbs).length xc], .int .i64 0]) ?_ rfl ⟨_, rfl, ⟨_, rfl, ?_⟩, ?_⟩
 ·simp [results, Tryz.results142, go_sem, ↓IntWalk.iteOmega, *]
 ·exact Lim.box (Lim.box hx hnu) (NoU.set hnu (fun z e => by cases e))
 ·exact b_6
end Go.Proofs.YtbkgakgdbmjmjaaGreat
