/- flow: a vector in another one. -/
import Derived.Test.YtbkgakgdbmjmjaaGreatJ29
import Derived.Test.YtbkgakgdbmjmjaaGreatJ30
import Derived.Deep.WholeRow
set_option linter.unusedSimpArgs false
set_option linter.unusedVariables false
set_option maxRecDepth 100000
set_option maxHeartbeats 4000000
namespace Go.Proofs.YtbkgakgdbmjmjaaGreat
open Go.RowKit
def in1 (a b c d : Int) : Bool := decide (c ≤ a) && decide (b ≤ d)
def inV (a b : V3) : Bool := in1 a.a a.b b.a b.b && (in1 a.c a.d b.c b.d && in1 a.e a.f b.e b.f)
theorem T_FPA_1 {p : Prop} (h : p := by
 rw [e]
 go_enter Tryz.func24, Tryz.ntmps24
 go_wp2_with fail
 refine bodyPost_ret (v := .bool false) ?_ rfl ⟨rfl, ?_⟩
 ·(try simp only [bn_, bm_] at *)
  simp [results, Tryz.results24, go_sem, ↓IntWalk.iteOmega, *]
 ·repeat (first | with_reducible exact Ext.refl _ | with_reducible assumption | with_reducible refine Ext.alloc ?_ _ | with_reducible refine Ext.setCell ?_ c_22 _ | with_reducible refine Ext.drewN ?_ _ | with_reducible refine Ext.drew ?_ | with_reducible refine Ext.trans ?_ c_12)) : p := h
def inP (a b k : Int) : Int := a + k % (b - a + 1)
theorem inP_in {a b k : Int} (h : a ≤ b) : a ≤ inP a b k ∧ inP a b k ≤ b := by
 unfold inP
 have h1 := Int.emod_nonneg k (show b - a + 1 ≠ 0 by omega)
 have h2 := Int.emod_lt_of_pos k (show 0 < b - a + 1 by omega)
 omega
theorem g_within (a b c d : Int) (w : World) :
    Calls Tryz.prog 24 #[.agg #[.int .i64 a, .int .i64 b], .agg #[.int .i64 c, .int .i64 d]] w fun e w' => e = .returned (.bool (in1 a b c d)) ∧ Ext w w' := by
 by_cases h1 : c ≤ a
 ·by_cases h2 : b ≤ d
  ·have e : in1 a b c d = true := by simp [in1, h1, h2]
   rw [e]
   go_enter Tryz.func24, Tryz.ntmps24
   go_wp2_with fail
   refine bodyPost_ret (v := .bool true) ?_ rfl ⟨rfl, ?_⟩
   ·(try simp only [bn_, bm_] at *)
    simp [results, Tryz.results24, go_sem, ↓IntWalk.iteOmega, *]
   ·exact b_6
  ·have e : in1 a b c d = false := by simp [in1, h1, h2]
   exact T_FPA_1
 ·have e : in1 a b c d = false := by simp [in1, h1]
  exact T_FPA_1
theorem g_inner (a b k n : Int) (w : World) (hk : ckI a b = 0) (k0 : 0 ≤ k) (n0 : 0 ≤ n) (k1 : k ≤ 18446744073709551615) (n1 : n ≤ 18446744073709551615) :
    Calls Tryz.prog 23 #[.agg #[.int .i64 a, .int .i64 b], .int .u64 k, .int .u64 n] w fun e w' => e = .returned (.agg #[.int .i64 (min (inP a b k) (inP a b n)), .int .i64 (max (inP a b k) (inP a b n))]) ∧ Ext w w' := by
 obtain ⟨h1, h2, h3⟩ := ckI_ok hk
 obtain ⟨p1, p2⟩ := inP_in (k := k) h1
 obtain ⟨q1, q2⟩ := inP_in (k := n) h1
 go_enter Tryz.func23, Tryz.ntmps23
 have hm : 0 ≤ k % (b - a + 1) ∧ k % (b - a + 1) < b - a + 1 := ⟨Int.emod_nonneg k (by omega), Int.emod_lt_of_pos k (by omega)⟩
 have hn : 0 ≤ n % (b - a + 1) ∧ n % (b - a + 1) < b - a + 1 := ⟨Int.emod_nonneg n (by omega), Int.emod_lt_of_pos n (by omega)⟩
 have w1 : wrap64 (k % (b - a + 1)) = k % (b - a + 1) := w64_in (by omega)
 have w2 : wrap64 (n % (b - a + 1)) = n % (b - a + 1) := w64_in (by omega)
 have w3 : wrap64 (a + k % (b - a + 1)) = inP a b k := w64_in (by omega)
 have w4 : wrap64 (a + n % (b - a + 1)) = inP a b n := w64_in (by omega)
 go_upto_region 2 with fail
 go_quiet (fail)
 go_wp2_with fail
 refine bodyPost_ret (v := .agg #[.int .i64 (min (inP a b k) (inP a b n)), .int .i64 (max (inP a b k) (inP a b n))]) ?_ rfl ⟨rfl, ?_⟩
 ·simp [results, Tryz.results23, go_sem, ↓IntWalk.iteOmega, w1, w2, w3, w4]
  unfold inP
  omega
 ·exact b_6
theorem store35 (w : World) (m : M3) : (storeCells ⟨w.heap.size, 0, none⟩ (mvs m).toList 0).run Tryz.prog (w.alloc (.cells #[.int .i64 0, .int .i64 0, .int .i64 0, .int .i64 0, .int .i64 0, .int .i64 0, .int .i64 0, .int .i64 0, .int .i64 0, .int .i64 0, .int .i64 0, .int .i64 0, .int .i64 0, .int .i64 0, .int .i64 0, .int .i64 0, .int .i64 0, .int .i64 0] 35)) = .ok () (w.alloc (.cells (mvs m) 35)) :=
 run_storeCells_new w 35 _ _ tyI35 rfl c_73
theorem f_lk0 (x y : Int) (d : V3) (w : World) (h1 : ckI x y = 0) (h2 : ckV d = 0) :
    Calls Tryz.prog 59 #[.agg #[.int .i64 x, .int .i64 y], .agg #[.int .i64 d.a, .int .i64 d.b, .int .i64 d.c, .int .i64 d.d, .int .i64 d.e, .int .i64 d.f]] w fun e w' => e = .returned (.int .i64 0) ∧ Ext w w' := by
 have hk1 := fun w1 => s_check1 x y w1
 have hk2 := fun w1 => s_check d w1
 rw [h1] at hk1
 rw [h2] at hk2
 go_enter Tryz.func59, Tryz.ntmps59
 go_wp2_with (first
  | (go_at_call 109; (with_reducible refine (hk1 _).mono ?_); rintro e w1 ⟨rfl, hb1⟩; obtain ⟨_, _, ⟨hc1, hf1⟩, hz1⟩ := hb1.c3; (try simp only [wsz] at hz1 hc1 hf1))
  | (go_at_call 77; (with_reducible refine (hk2 _).mono ?_); rintro e w2 ⟨rfl, hb2⟩; obtain ⟨_, _, ⟨hc2, hf2⟩, hz2⟩ := hb2.c3; (try simp only [wsz] at hz2 hc2 hf2)))
 refine bodyPost_ret (v := .int .i64 0) ?_ rfl ⟨rfl, ?_⟩
 ·(try simp only [bn_, bm_] at *)
  simp [results, Tryz.results59, go_sem, ↓IntWalk.iteOmega, *]
 ·exact b_6
theorem f_Pull0 (x y : Int) (d r : V3) (w : World) (hx : I64 x ∧ I64 y) (kd : d.I) (h1 : ckI x y = 0) (h2 : ckV d = 0) (hr : plR 0 x y d = ⟨r, 0⟩) :
    Calls Tryz.prog 19 #[.agg #[.int .i64 x, .int .i64 y], .agg #[.int .i64 d.a, .int .i64 d.b, .int .i64 d.c, .int .i64 d.d, .int .i64 d.e, .int .i64 d.f]] w fun e w' => e = .returned (.tuple #[.agg #[.int .i64 r.a, .int .i64 r.b, .int .i64 r.c, .int .i64 r.d, .int .i64 r.e, .int .i64 r.f], .int .i64 0]) ∧ Ext w w' := by
 have hk := fun w1 => f_lk0 x y d w1 h1 h2
 have hp : ∀ P w1, w1.cell? ⟨P, 0, none⟩ = some (.bool false) → w1.frozen? ⟨P, 0, none⟩ = false → Calls Tryz.prog 45 #[.pointer (some ⟨P, 0, none⟩), .agg #[.int .i64 x, .int .i64 y], .agg #[.int .i64 d.a, .int .i64 d.b, .int .i64 d.c, .int .i64 d.d, .int .i64 d.e, .int .i64 d.f]] w1 fun e w' => e = .returned (.agg #[.int .i64 r.a, .int .i64 r.b, .int .i64 r.c, .int .i64 r.d, .int .i64 r.e, .int .i64 r.f]) ∧ Ext (w1.setCell ⟨P, 0, none⟩ (.bool false)) w' := fun P w1 c f => by
  have h : Calls Tryz.prog 45 #[.pointer (some ⟨P, 0, none⟩), .agg #[.int .i64 x, .int .i64 y], .agg #[.int .i64 d.a, .int .i64 d.b, .int .i64 d.c, .int .i64 d.d, .int .i64 d.e, .int .i64 d.f]] w1 fun e w' => e = .returned (.agg #[.int .i64 (plR 0 x y d).v.a, .int .i64 (plR 0 x y d).v.b, .int .i64 (plR 0 x y d).v.c, .int .i64 (plR 0 x y d).v.d, .int .i64 (plR 0 x y d).v.e, .int .i64 (plR 0 x y d).v.f]) ∧ Ext (w1.setCell ⟨P, 0, none⟩ (.bool (nz (plR 0 x y d).e))) w' := f_pull P 0 x y d w1 c f hx kd
  rw [hr] at h
  exact h
 clear hr
 go_enter Tryz.func19, Tryz.ntmps19
 go_wp2_with (first
  | (go_at_call 59; (with_reducible refine (hk _).mono ?_); rintro e w1 ⟨rfl, hb1⟩; obtain ⟨_, _, ⟨hc1, hf1⟩, hz1⟩ := hb1.c3; (try simp only [wsz] at hz1 hc1 hf1))
  | (go_at_call 45; (with_reducible refine (hp _ _ c_23 c_23).mono ?_); rintro e w2 ⟨rfl, hb2⟩; obtain ⟨_, _, ⟨hc2, hf2⟩, hz2⟩ := hb2.c3; (try simp only [wsz] at hz2 hc2 hf2)))
 refine bodyPost_ret (v := .tuple #[.agg #[.int .i64 r.a, .int .i64 r.b, .int .i64 r.c, .int .i64 r.d, .int .i64 r.e, .int .i64 r.f], .int .i64 0]) ?_ rfl ⟨rfl, ?_⟩
 ·simp [results, Tryz.results19, go_sem, ↓IntWalk.iteOmega, *]
 ·exact b_6
theorem f_Tide0 (x y : Int) (d : V3) (m : M3) (w : World) (hx : I64 x ∧ I64 y) (kd : d.I) (h1 : ckI x y = 0) (h2 : ckV d = 0) (hr : tiR 0 x y d = ⟨m, 0⟩) :
    Calls Tryz.prog 20 #[.agg #[.int .i64 x, .int .i64 y], .agg #[.int .i64 d.a, .int .i64 d.b, .int .i64 d.c, .int .i64 d.d, .int .i64 d.e, .int .i64 d.f]] w fun e w' => e = .returned (.tuple #[.agg (mvs m), .int .i64 0]) ∧ Ext w w' := by
 have hk := fun w1 => f_lk0 x y d w1 h1 h2
 have hp : ∀ P w1, w1.cell? ⟨P, 0, none⟩ = some (.bool false) → w1.frozen? ⟨P, 0, none⟩ = false → Calls Tryz.prog 56 #[.pointer (some ⟨P, 0, none⟩), .agg #[.int .i64 x, .int .i64 y], .agg #[.int .i64 d.a, .int .i64 d.b, .int .i64 d.c, .int .i64 d.d, .int .i64 d.e, .int .i64 d.f]] w1 fun e w' => e = .returned (.agg (mvs m)) ∧ Ext (w1.setCell ⟨P, 0, none⟩ (.bool false)) w' := fun P w1 c f => by
  have h : Calls Tryz.prog 56 #[.pointer (some ⟨P, 0, none⟩), .agg #[.int .i64 x, .int .i64 y], .agg #[.int .i64 d.a, .int .i64 d.b, .int .i64 d.c, .int .i64 d.d, .int .i64 d.e, .int .i64 d.f]] w1 fun e w' => e = .returned (.agg (mvs (tiR 0 x y d).m)) ∧ Ext (w1.setCell ⟨P, 0, none⟩ (.bool (nz (tiR 0 x y d).e))) w' := f_tide P 0 x y d w1 c f hx kd
  rw [hr] at h
  exact h
 have hst := fun w => store35 w m
 clear hr
 go_enter Tryz.func20, Tryz.ntmps20
 go_upto_region 5 with (go_at_call 59; (with_reducible refine (hk _).mono ?_); rintro e w1 ⟨rfl, hb1⟩; obtain ⟨_, _, ⟨hc1, hf1⟩, hz1⟩ := hb1.c3; (try simp only [wsz] at hz1 hc1 hf1))
 have v9 : VB (w1.alloc (.cells #[.bool false] 100)) (w.heap.size + 1 + 1) z18 := by
  have v := ((VB.lit ((w.alloc (.cells #[.int .i64 x, .int .i64 y] 26)).alloc (.cells #[.int .i64 d.a, .int .i64 d.b, .int .i64 d.c, .int .i64 d.d, .int .i64 d.e, .int .i64 d.f] 28)) z18 35).ext hb1).ext ((Ext.refl _).alloc (.cells #[.bool false] 100))
  simpa only [World.size_alloc] using v
 have x9 : Ext w (w1.alloc (.cells #[.bool false] 100)) := ex_
 go_upto_region 8 with (go_at_call 56; (with_reducible refine (hp _ _ c_23 c_23).mono ?_); rintro e w2 ⟨rfl, hb2⟩; obtain ⟨_, _, ⟨hc2, hf2⟩, hz2⟩ := hb2.c3; (try simp only [wsz] at hz2 hc2 hf2))
 refine wp_name fun V hV => ?_
 have eV : Ext w2 V := Ext.same hV ((Ext.refl _).alloc _)
 have v10 : VB V (w.heap.size + 1 + 1) z18 := ((v9.other (B := w1.heap.size) (j := 0) (by omega) _).ext hb2).ext eV
 have bB : VB V w2.heap.size (mL m) := by have e : V = _ := hV; rw [e]; exact VB.lit w2 (mL m) 35
 have xV : Ext w V := (((x9.setCell (p := ⟨w1.heap.size, 0, none⟩) c_34 _).trans hb2)).trans eV
 have hAq : V.rangeAt w2.heap.size 0 (mvs m).toList := bB.range
 have hth : V.there (w.heap.size + 1 + 1) 0 18 := v10.there 18 rfl
 clear hV eV v9 v10 bB hc1 hf1 hc2 hf2 hb1 hb2 hst hk hp
 go_wp2_with (first
  | ((with_reducible show wpList _ _ _ _ _ _); refine wpList_load_mid rfl 35 (.tmp 8) rfl w2.heap.size 0 rfl (mvs m).toList (.array 3 27) hAq tyU35 rfl tyI35 ?_)
  | ((with_reducible show wpList _ _ _ _ _ _); refine store_row rfl 35 (.tmp 4) (.tmp 22) rfl (w.heap.size + 1 + 1) (mvs m) rfl rfl hth tyI35 c_73 (fun W5 hW5 => ?_)))
 refine bodyPost_ret (results_cell_tmp (a := ⟨w.heap.size + 1 + 1, 0, none⟩) rfl rfl rfl (run_load_row W5 _ 35 (mvs m).toList (.array 3 27) hW5.range tyU35 rfl tyI35)) rfl ⟨rfl, hW5.ext xV (by omega)⟩
end Go.Proofs.YtbkgakgdbmjmjaaGreat
