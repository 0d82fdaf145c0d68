/- planisphereref33: Shape, Period.; The two chains of a shape: both can be reckoned, or neither.; The two chains of a period: both can be reckoned, or neither.; KeplerShapes: what the two sides return.; KeplerShapes: the walk.; Arguments that are intervals and vectors of intervals, opened. -/
import Derived.Test.YtogblocakccbgaaGreatJ00
import Derived.Test.YtogblocakccbgaaGreatJ48
import Derived.Test.YtogblocakccbgaaGreatJ49
import Derived.Test.YtogblocakccbgaaGreatJ50
import Derived.Test.YtogblocakccbgaaGreatJ47
import Derived.Test.YtogblocakccbgaaGreatJ44
import Derived.Test.YtogblocakccbgaaGreatJ19
import Derived.Test.YtogblocakccbgaaGreatJ15
import Derived.WideShapes
set_option linter.unusedSimpArgs false
set_option linter.unusedVariables false
set_option maxRecDepth 100000
set_option maxHeartbeats 4000000
namespace Go.Proofs.YtogblocakccbgaaGreat
open Go.RowKit
theorem rf_Shape (t p1 p2 p3 v1 v2 v3 : Int) (w : World) (ip1 : I64 p1) (ip2 : I64 p2) (ip3 : I64 p3) (iv1 : I64 v1) (iv2 : I64 v2) (iv3 : I64 v3) : Calls Tryz.prog 16 #[.agg #[.int .i64 t, .int .i64 p1, .int .i64 p2, .int .i64 p3, .int .i64 v1, .int .i64 v2, .int .i64 v3]] w fun e w' => ((¬ stE t p1 p2 p3 v1 v2 v3 = 0 ∧ e = .returned (.tuple #[.agg #[.int .i64 0, .int .i64 0], .agg #[.int .i64 0, .int .i64 0], .int .i64 (stE t p1 p2 p3 v1 v2 v3)])) ∨ (stE t p1 p2 p3 v1 v2 v3 = 0 ∧ (rq11 (dia p1 p2 p3) (dia v1 v2 v3)).e = 0 ∧ e = .returned (.tuple #[.agg #[.int .i64 (rq6 (dia p1 p2 p3) (dia v1 v2 v3)).lo, .int .i64 (rq6 (dia p1 p2 p3) (dia v1 v2 v3)).hi], .agg #[.int .i64 (rq11 (dia p1 p2 p3) (dia v1 v2 v3)).lo, .int .i64 (rq11 (dia p1 p2 p3) (dia v1 v2 v3)).hi], .int .i64 0])) ∨ (stE t p1 p2 p3 v1 v2 v3 = 0 ∧ ¬ (rq11 (dia p1 p2 p3) (dia v1 v2 v3)).e = 0 ∧ e = .returned (.tuple #[.agg #[.int .i64 0, .int .i64 0], .agg #[.int .i64 0, .int .i64 0], .int .i64 24]))) ∧ Ext w w' :=
 rf_Shape0 t p1 p2 p3 v1 v2 v3 (fun p w1 h => r_shape t p1 p2 p3 v1 v2 v3 p w1 ip1 ip2 ip3 iv1 iv2 iv3 h) w
theorem rf_Period (t p1 p2 p3 v1 v2 v3 : Int) (w : World) (ip1 : I64 p1) (ip2 : I64 p2) (ip3 : I64 p3) (iv1 : I64 v1) (iv2 : I64 v2) (iv3 : I64 v3) : Calls Tryz.prog 18 #[.agg #[.int .i64 t, .int .i64 p1, .int .i64 p2, .int .i64 p3, .int .i64 v1, .int .i64 v2, .int .i64 v3]] w fun e w' => ((¬ stE t p1 p2 p3 v1 v2 v3 = 0 ∧ e = .returned (.tuple #[.agg #[.int .i64 0, .int .i64 0], .int .i64 (stE t p1 p2 p3 v1 v2 v3)])) ∨ (stE t p1 p2 p3 v1 v2 v3 = 0 ∧ RpOk (dia p1 p2 p3) (dia v1 v2 v3) ∧ e = .returned (.tuple #[.agg #[.int .i64 (rp6 (dia p1 p2 p3) (dia v1 v2 v3)).lo, .int .i64 (rp6 (dia p1 p2 p3) (dia v1 v2 v3)).hi], .int .i64 0])) ∨ (stE t p1 p2 p3 v1 v2 v3 = 0 ∧ ¬ RpOk (dia p1 p2 p3) (dia v1 v2 v3) ∧ e = .returned (.tuple #[.agg #[.int .i64 0, .int .i64 0], .int .i64 24]))) ∧ Ext w w' :=
 rf_Period0 t p1 p2 p3 v1 v2 v3 (fun p w1 h => r_shape t p1 p2 p3 v1 v2 v3 p w1 ip1 ip2 ip3 iv1 iv2 iv3 h) w
end Go.Proofs.YtogblocakccbgaaGreat
set_option linter.unusedSimpArgs false
namespace Go.Proofs.YtogblocakccbgaaGreat
open Go.RowKit
theorem doI_inv {E : Int} {r : R3} (h : (doI E r).e = 0) : E = 0 ∧ r.e = 0 ∧ doI E r = r := by
 unfold doI at *
 split at h
 ·rename_i hE; exact absurd h hE
 ·rename_i hE
  have hE0 : E = 0 := Classical.byContradiction hE
  exact ⟨hE0, h, by rw [if_neg (by simpa using hE0)]⟩
theorem doI_zero (r : R3) : doI 0 r = r := by unfold doI; simp
theorem kp_inv {E e : Int} (h : (kpI E 0 0 e).e = 0) : E = 0 ∧ e = 0 := by
 unfold kpI at h
 split at h
 ·rename_i hE; exact absurd h hE
 ·rename_i hE
  split at h
  ·rename_i he; exact absurd h he
  ·rename_i he; exact ⟨Classical.byContradiction hE, Classical.byContradiction he⟩
theorem kp_zero : kpI 0 0 0 0 = ⟨0, 0, 0⟩ := by unfold kpI; simp
theorem sq_ck {a b : Int} (h : (sqI a b).e = 0) : ckI a b = 0 := by
 have ha : (absI a b).e = 0 := by
  unfold sqI at h
  split at h
  ·rename_i hc; exact absurd h hc
  ·rename_i hc; exact Classical.byContradiction hc
 unfold absI at ha
 split at ha
 ·rename_i hc; exact absurd ha hc
 ·rename_i hc; exact Classical.byContradiction hc
theorem nrmI_inv {E : Int} {a : V3} (h : (nrmI E a).e = 0) : E = 0 ∧ (nrmV a).e = 0 ∧ nrmI E a = nrmV a := by
 have h0 := h
 unfold nrmI at h0
 obtain ⟨e3, -, -⟩ := doI_inv h0
 unfold nrm3 at e3
 obtain ⟨e2, s2, -⟩ := doI_inv e3
 unfold nrm2 at e2
 obtain ⟨e1, -, -⟩ := doI_inv e2
 unfold nrm1 at e1
 obtain ⟨e0, s1, -⟩ := doI_inv e1
 unfold nrm0 at e0
 obtain ⟨eE, s0, -⟩ := doI_inv e0
 subst eE
 have hk : ckV a = 0 := by
  unfold ckV
  rw [sq_ck s0]
  unfold ck2
  rw [sq_ck s1, sq_ck s2]
  simp
 have hv : nrmV a = nrmI 0 a := by unfold nrmV; rw [hk]; simp
 exact ⟨rfl, by rw [hv]; exact h, hv.symm⟩
theorem nrmV_inv {a : V3} (h : (nrmV a).e = 0) : nrmI 0 a = nrmV a := by
 unfold nrmV at *
 split at h
 ·rename_i hc; exact absurd h hc
 ·rename_i hc; rw [if_neg hc]
theorem sh_there {P V : V3} (h : ShOk P V) : (rq11 P V).e = 0 ∧ rq2 P = shR P ∧ rq6 P V = shA P V ∧ rq11 P V = shK P V := by
 obtain ⟨h1, h2, h3, h4, h5, h6, h7, h8, h9, h10, h11⟩ := h
 have k1 : rq1 P = nrmV P := nrmV_inv h1
 have k2 : rq2 P = shR P := by unfold rq2 shR; rw [k1, h1, doI_zero]
 have k3 : rq3 P = shI P := by unfold rq3 shI; rw [k2, h2, doI_zero]
 have k4 : rq4 P V = nrmV V := by unfold rq4; rw [k3, h3]; exact nrmV_inv h4
 have k5 : rq5 P V = shB V := by unfold rq5 shB; rw [k4, h4, doI_zero]
 have k6 : rq6 P V = shA P V := by unfold rq6 shA; rw [k5, h5, doI_zero, k3]
 have k7 : rq7 P V = ⟨0, 0, 0⟩ := by unfold rq7; rw [k6, h6, h7, kp_zero]
 have k8 : rq8 P V = shN P V := by unfold rq8 shN; rw [k7]; exact nrmV_inv h8
 have k9 : rq9 P V = shM P V := by unfold rq9 shM; rw [k8, h8, doI_zero, k6]
 have k10 : rq10 P V = shD P V := by unfold rq10 shD; rw [k9, h9, doI_zero]
 have k11 : rq11 P V = shK P V := by unfold rq11 shK; rw [k10, h10, doI_zero]
 exact ⟨by rw [k11]; exact h11, k2, k6, k11⟩
theorem sh_back {P V : V3} (h : (rq11 P V).e = 0) : ShOk P V := by
 have h11 := h
 unfold rq11 at h11
 obtain ⟨h10, s11, -⟩ := doI_inv h11
 have t10 := h10
 unfold rq10 at t10
 obtain ⟨h9, s10, -⟩ := doI_inv t10
 have t9 := h9
 unfold rq9 at t9
 obtain ⟨h8, s9, -⟩ := doI_inv t9
 have t8 := h8
 unfold rq8 at t8
 obtain ⟨h7, s8, -⟩ := nrmI_inv t8
 have t7 := h7
 unfold rq7 at t7
 obtain ⟨h6, s7⟩ := kp_inv t7
 have t6 := h6
 unfold rq6 at t6
 obtain ⟨h5, s6, -⟩ := doI_inv t6
 have t5 := h5
 unfold rq5 at t5
 obtain ⟨h4, s5, -⟩ := doI_inv t5
 have t4 := h4
 unfold rq4 at t4
 obtain ⟨h3, s4, -⟩ := nrmI_inv t4
 have t3 := h3
 unfold rq3 at t3
 obtain ⟨h2, s3, -⟩ := doI_inv t3
 have t2 := h2
 unfold rq2 at t2
 obtain ⟨h1, s2, -⟩ := doI_inv t2
 have t1 := h1
 unfold rq1 at t1
 obtain ⟨-, s1, -⟩ := nrmI_inv t1
 have k1 : rq1 P = nrmV P := nrmV_inv s1
 have k2 : rq2 P = shR P := by unfold rq2 shR; rw [h1, doI_zero, k1]
 have k3 : rq3 P = shI P := by unfold rq3 shI; rw [h2, doI_zero, k2]
 have k4 : rq4 P V = nrmV V := by unfold rq4; rw [h3]; exact nrmV_inv s4
 have k5 : rq5 P V = shB V := by unfold rq5 shB; rw [h4, doI_zero, k4]
 have k6 : rq6 P V = shA P V := by unfold rq6 shA; rw [h5, doI_zero, k3, k5]
 have k8 : rq8 P V = shN P V := by unfold rq8 shN; rw [h7]; exact nrmV_inv s8
 have k9 : rq9 P V = shM P V := by unfold rq9 shM; rw [h8, doI_zero, k8, k6]
 have k10 : rq10 P V = shD P V := by unfold rq10 shD; rw [h9, doI_zero, k9]
 have k11 : rq11 P V = shK P V := by unfold rq11 shK; rw [h10, doI_zero, k10]
 refine ⟨s1, by rw [← k2]; exact h2, by rw [← k3]; exact h3, s4, by rw [← k5]; exact h5, by rw [← k6]; exact h6, s7, s8, by rw [← k9]; exact h9, by rw [← k10]; exact h10, by rw [← k11]; exact h⟩
end Go.Proofs.YtogblocakccbgaaGreat
set_option linter.unusedSimpArgs false
namespace Go.Proofs.YtogblocakccbgaaGreat
open Go.RowKit
theorem kp_inv3 {E x y e : Int} (h : (kpI E x y e).e = 0) : E = 0 ∧ e = 0 ∧ kpI E x y e = ⟨x, y, 0⟩ := by
 unfold kpI at *
 split at h
 ·rename_i hE; exact absurd h hE
 ·rename_i hE
  split at h
  ·rename_i he; exact absurd h he
  ·rename_i he; exact ⟨Classical.byContradiction hE, Classical.byContradiction he, by rw [if_neg hE, if_neg he]⟩
theorem kp_of {r : R3} (h : r.e = 0) : kpI 0 r.lo r.hi r.e = r := by
 obtain ⟨a, b, c⟩ := r
 have hc : c = 0 := h
 subst hc
 unfold kpI
 simp
theorem rp1_is : rp1 = shZ := by unfold rp1 shZ; exact doI_zero _
theorem pd_there {P V : V3} (h : PdOk P V) : RpOk P V ∧ rp6 P V = shE P V := by
 obtain ⟨⟨hs, hpos, hq, hu⟩, ht, he⟩ := h
 obtain ⟨h11, -, h6, -⟩ := sh_there hs
 have hu0 := hu
 unfold shU mul2I at hu0
 obtain ⟨hm, hm2, heq⟩ := doI_inv hu0
 have k2 : rp2 P V = mulI shZ.lo shZ.hi (shA P V).lo (shA P V).hi := by unfold rp2; rw [rp1_is, shZ_ok, doI_zero, h6]
 have k3 : rp3 P V = shQ P V := by unfold rp3 shQ; rw [k2, hm, doI_zero, h6]
 have k4 : rp4 P V = shU P V := by unfold rp4 shU mul2I; rw [k3, hq, k2, hm]
 have k5 : rp5 P V = shT := by unfold rp5; rw [k4, hu]; exact kp_of ht
 have k6 : rp6 P V = shE P V := by unfold rp6 shE; rw [k5, ht, doI_zero, k4]
 exact ⟨⟨h11, by rw [h6]; exact hpos, by rw [k6]; exact he⟩, k6⟩
theorem pd_back {P V : V3} (h : RpOk P V) : PdOk P V := by
 obtain ⟨h11, hpos, hf⟩ := h
 have hs := sh_back h11
 obtain ⟨-, -, h6, -⟩ := sh_there hs
 have t6 := hf
 unfold rp6 at t6
 obtain ⟨f5, s6, -⟩ := doI_inv t6
 have t5 := f5
 unfold rp5 at t5
 obtain ⟨f4, st, -⟩ := kp_inv3 t5
 have t4 := f4
 unfold rp4 at t4
 obtain ⟨f3, s4, -⟩ := doI_inv t4
 have t3 := f3
 unfold rp3 at t3
 obtain ⟨f2, s3, -⟩ := doI_inv t3
 have k2 : rp2 P V = mulI shZ.lo shZ.hi (shA P V).lo (shA P V).hi := by unfold rp2; rw [rp1_is, shZ_ok, doI_zero, h6]
 have k3 : rp3 P V = shQ P V := by unfold rp3 shQ; rw [f2, doI_zero, h6]
 have k4 : rp4 P V = shU P V := by unfold rp4 shU mul2I; rw [f3, k3, ← k2, f2]
 have k5 : rp5 P V = shT := by unfold rp5; rw [f4]; exact kp_of st
 have k6 : rp6 P V = shE P V := by unfold rp6 shE; rw [f5, doI_zero, k5, k4]
 exact ⟨⟨hs, by rw [← h6]; exact hpos, by rw [← k3]; exact f3, by rw [← k4]; exact f4⟩, st, by rw [← k6]; exact hf⟩
end Go.Proofs.YtogblocakccbgaaGreat
namespace Go.Proofs.YtogblocakccbgaaGreat
open Go.RowKit
theorem T_KW_4 {p : Prop} (h : p := by
 rintro e w1 ⟨⟨g, -⟩ | ⟨-, g, -⟩ | ⟨-, -, g⟩, hb⟩
 ·exact absurd h0 g
 ·exact absurd g hn
 ·exact ⟨g, hb⟩) : p := h
theorem T_KW_3 {p : Prop} (h : p := by
 rintro e w1 ⟨⟨g, -⟩ | ⟨-, g, -⟩ | ⟨-, -, g⟩, hb⟩
 ·exact absurd h0 g
 ·exact absurd g hS
 ·exact ⟨g, hb⟩) : p := h
theorem T_KW_2 {p : Prop} (h : p := by
 rintro e w1 ⟨⟨g, -⟩ | ⟨-, -, g⟩ | ⟨-, g, -⟩, hb⟩
 ·exact absurd h0 g
 ·exact ⟨g, hb⟩
 ·exact absurd hS g) : p := h
theorem T_KW_1 {p : Prop} (h : p := by
 rintro e w1 ⟨⟨-, g⟩ | ⟨g, -⟩ | ⟨g, -⟩, hb⟩
 ·exact ⟨g, hb⟩
 ·exact absurd g h0
 ·exact absurd g h0) : p := h
theorem ks_shape (t p1 p2 p3 v1 v2 v3 : Int) (ip1 : I64 p1) (ip2 : I64 p2) (ip3 : I64 p3) (iv1 : I64 v1) (iv2 : I64 v2) (iv3 : I64 v3) : ∃ a b c d E : Int, (∀ w, Calls Tryz.prog 15 #[.agg #[.int .i64 t, .int .i64 p1, .int .i64 p2, .int .i64 p3, .int .i64 v1, .int .i64 v2, .int .i64 v3]] w fun e w' => e = .returned (.tuple #[.agg #[.int .i64 a, .int .i64 b], .agg #[.int .i64 c, .int .i64 d], .int .i64 E]) ∧ Ext w w') ∧ (∀ w, Calls Tryz.prog 16 #[.agg #[.int .i64 t, .int .i64 p1, .int .i64 p2, .int .i64 p3, .int .i64 v1, .int .i64 v2, .int .i64 v3]] w fun e w' => e = .returned (.tuple #[.agg #[.int .i64 a, .int .i64 b], .agg #[.int .i64 c, .int .i64 d], .int .i64 E]) ∧ Ext w w') := by
 have hk := fun w => k_Shape t p1 p2 p3 v1 v2 v3 w ip1 ip2 ip3 iv1 iv2 iv3
 have hr := fun w => rf_Shape t p1 p2 p3 v1 v2 v3 w ip1 ip2 ip3 iv1 iv2 iv3
 by_cases h0 : stE t p1 p2 p3 v1 v2 v3 = 0
 ·by_cases hS : ShOk (dia p1 p2 p3) (dia v1 v2 v3)
  ·obtain ⟨h11, -, h6, hK⟩ := sh_there hS
   refine ⟨(shA (dia p1 p2 p3) (dia v1 v2 v3)).lo, (shA (dia p1 p2 p3) (dia v1 v2 v3)).hi, (shK (dia p1 p2 p3) (dia v1 v2 v3)).lo, (shK (dia p1 p2 p3) (dia v1 v2 v3)).hi, 0, fun w => (hk w).mono ?_, fun w => (hr w).mono ?_⟩
   ·exact T_KW_2
   ·rintro e w1 ⟨⟨g, -⟩ | ⟨-, -, g⟩ | ⟨-, g, -⟩, hb⟩
    ·exact absurd h0 g
    ·rw [h6, hK] at g; exact ⟨g, hb⟩
    ·exact absurd h11 g
  ·have hn : ¬ (rq11 (dia p1 p2 p3) (dia v1 v2 v3)).e = 0 := fun h => hS (sh_back h)
   refine ⟨0, 0, 0, 0, 24, fun w => (hk w).mono ?_, fun w => (hr w).mono ?_⟩
   ·exact T_KW_3
   ·exact T_KW_4
 ·refine ⟨0, 0, 0, 0, stE t p1 p2 p3 v1 v2 v3, fun w => (hk w).mono ?_, fun w => (hr w).mono ?_⟩
  ·exact T_KW_1
  ·exact T_KW_1
theorem ks_period (t p1 p2 p3 v1 v2 v3 : Int) (ip1 : I64 p1) (ip2 : I64 p2) (ip3 : I64 p3) (iv1 : I64 v1) (iv2 : I64 v2) (iv3 : I64 v3) : ∃ a b E : Int, (∀ w, Calls Tryz.prog 17 #[.agg #[.int .i64 t, .int .i64 p1, .int .i64 p2, .int .i64 p3, .int .i64 v1, .int .i64 v2, .int .i64 v3]] w fun e w' => e = .returned (.tuple #[.agg #[.int .i64 a, .int .i64 b], .int .i64 E]) ∧ Ext w w') ∧ (∀ w, Calls Tryz.prog 18 #[.agg #[.int .i64 t, .int .i64 p1, .int .i64 p2, .int .i64 p3, .int .i64 v1, .int .i64 v2, .int .i64 v3]] w fun e w' => e = .returned (.tuple #[.agg #[.int .i64 a, .int .i64 b], .int .i64 E]) ∧ Ext w w') := by
 have hk := fun w => k_Period t p1 p2 p3 v1 v2 v3 w ip1 ip2 ip3 iv1 iv2 iv3
 have hr := fun w => rf_Period t p1 p2 p3 v1 v2 v3 w ip1 ip2 ip3 iv1 iv2 iv3
 by_cases h0 : stE t p1 p2 p3 v1 v2 v3 = 0
 ·by_cases hS : PdOk (dia p1 p2 p3) (dia v1 v2 v3)
  ·obtain ⟨h11, h6⟩ := pd_there hS
   refine ⟨(shE (dia p1 p2 p3) (dia v1 v2 v3)).lo, (shE (dia p1 p2 p3) (dia v1 v2 v3)).hi, 0, fun w => (hk w).mono ?_, fun w => (hr w).mono ?_⟩
   ·exact T_KW_2
   ·rintro e w1 ⟨⟨g, -⟩ | ⟨-, -, g⟩ | ⟨-, g, -⟩, hb⟩
    ·exact absurd h0 g
    ·rw [h6] at g; exact ⟨g, hb⟩
    ·exact absurd h11 g
  ·have hn : ¬ RpOk (dia p1 p2 p3) (dia v1 v2 v3) := fun h => hS (pd_back h)
   refine ⟨0, 0, 24, fun w => (hk w).mono ?_, fun w => (hr w).mono ?_⟩
   ·exact T_KW_3
   ·exact T_KW_4
 ·refine ⟨0, 0, stE t p1 p2 p3 v1 v2 v3, fun w => (hk w).mono ?_, fun w => (hr w).mono ?_⟩
  ·exact T_KW_1
  ·exact T_KW_1
theorem law_shapes (t p1 p2 p3 v1 v2 v3 : Int) (w : World) (ip1 : I64 p1) (ip2 : I64 p2) (ip3 : I64 p3) (iv1 : I64 v1) (iv2 : I64 v2) (iv3 : I64 v3) : Calls Tryz.prog 4 #[.agg #[.int .i64 t, .int .i64 p1, .int .i64 p2, .int .i64 p3, .int .i64 v1, .int .i64 v2, .int .i64 v3]] w fun e w' => e = .returned (.bool true) ∧ Ext w w' := by
 obtain ⟨a, b, c, d, E, hk0, hr0⟩ := ks_shape t p1 p2 p3 v1 v2 v3 ip1 ip2 ip3 iv1 iv2 iv3
 obtain ⟨a', b', E', hp0, hq0⟩ := ks_period t p1 p2 p3 v1 v2 v3 ip1 ip2 ip3 iv1 iv2 iv3
 have hk : Hid _ := hk0
 have hr : Hid _ := hr0
 have hp : Hid _ := hp0
 have hq : Hid _ := hq0
 clear hk0 hr0 hp0 hq0
 have n31 : ∀ (a b : Int) (w : World), (Op.equalIn 10000 31 (.agg #[.int .i64 a, .int .i64 b]) (.agg #[.int .i64 a, .int .i64 b])).run Tryz.prog w = .ok true w := fun a b w => eq_iv a b 9998 w
 have m31 : Tryz.prog.eqGuardType Tryz.prog.depth 31 = false := by kernel_rfl
 go_enter Tryz.func4, Tryz.ntmps4
 go_wp2_with (first
  | (go_at_call 15; (with_reducible refine (hk.out _).mono ?_); rintro e w1 ⟨rfl, hb⟩; obtain ⟨_, _, hc, hf⟩ := hb.cells2; have hz := hb.size; (try simp only [wsz] at hz hc hf))
  | (go_at_call 16; (with_reducible refine (hr.out _).mono ?_); rintro e w2 ⟨rfl, hb⟩; obtain ⟨_, _, hc, hf⟩ := hb.cells2; have hz := hb.size; (try simp only [wsz] at hz hc hf))
  | (go_at_call 17; (with_reducible refine (hp.out _).mono ?_); rintro e w3 ⟨rfl, hb⟩; obtain ⟨_, _, hc, hf⟩ := hb.cells2; have hz := hb.size; (try simp only [wsz] at hz hc hf))
  | (go_at_call 18; (with_reducible refine (hq.out _).mono ?_); rintro e w4 ⟨rfl, hb⟩; obtain ⟨_, _, hc, hf⟩ := hb.cells2; have hz := hb.size; (try simp only [wsz] at hz hc hf)))
 all_goals
  go_ret
  refine ⟨?_, ?_⟩
  ·simp [*]
  ·exact ex_
theorem open_cell {w : World} {r : Reach} {b : Nat} {v : Value} (h : Cell.okWide Tryz.prog w r b 2 v) : ∃ x, v = .int .i64 x ∧ I64 x := by
 simp only [Cell.okWide, Tryz.underlying2, Cell.ok] at h
 cases v <;> simp_all
 rename_i k n
 obtain ⟨rfl, h2⟩ := h
 have e1 : IntKind.i64.min = -9223372036854775808 := by decide
 have e2 : IntKind.i64.max = 9223372036854775807 := by decide
 simp only [IntKind.has, e1, e2] at h2
 unfold I64; omega
theorem types25 : Tryz.prog.cellTypes Tryz.prog.depth 121 = some [2, 2, 2, 2, 2, 2] := by kernel_rfl
theorem types23 : Tryz.prog.cellTypes Tryz.prog.depth 31 = some [2, 2] := by kernel_rfl
theorem size25 : Tryz.prog.cellsOf 121 = 6 := by kernel_rfl
end Go.Proofs.YtogblocakccbgaaGreat
