/- KeplerShapes: for every state the statement's function returns true, and its argument reads as before. Conditions: none. -/
import Derived.Test.YtogblocakccbgaaGreatJ00
import Derived.Test.YtogblocakccbgaaGreatRows
import Derived.Test.YtogblocakccbgaaGreatJ51
import Derived.WalkKit
import Derived.ProofKit
import Derived.OpenShut
import Derived.ChangeOld
import Derived.Below
import Derived.WideShapes
set_option linter.unusedSimpArgs false
set_option linter.unusedVariables false
set_option maxRecDepth 100000
namespace Go.Proofs.YtogblocakccbgaaGreat
open Go.ChangeShapes Go.WideShapes Go.ChangeAt Go.RowKit
theorem types40 : Tryz.prog.cellTypes Tryz.prog.depth 40 = some [2, 2, 2, 2, 2, 2, 2] := by kernel_rfl
theorem size40 : Tryz.prog.cellsOf 40 = 7 := by kernel_rfl
theorem open_state {w : World} {r : Reach} {b : Nat} {v : Value} (h : Value.okWide Tryz.prog w r b 40 v) : ∃ t p1 p2 p3 v1 v2 v3 : Int, v = .agg #[.int .i64 t, .int .i64 p1, .int .i64 p2, .int .i64 p3, .int .i64 v1, .int .i64 v2, .int .i64 v3] ∧ I64 t ∧ I64 p1 ∧ I64 p2 ∧ I64 p3 ∧ I64 v1 ∧ I64 v2 ∧ I64 v3 := by
 simp only [Value.okWide, Tryz.underlying40] at h
 obtain ⟨cs, rfl, hsz, ts, hts, -, hc⟩ := h
 rw [types40] at hts
 obtain rfl : [2, 2, 2, 2, 2, 2, 2] = ts := by injection hts
 rw [size40] at hsz
 obtain ⟨l⟩ := cs
 match l, hsz with
 | [c0, c1, c2, c3, c4, c5, c6], _ =>
  obtain ⟨u, hu, h0⟩ := hc 0 c0 (by simp)
  obtain rfl : 2 = u := by simpa using hu
  obtain ⟨x0, rfl, k0⟩ := open_cell h0
  obtain ⟨u, hu, h1⟩ := hc 1 c1 (by simp)
  obtain rfl : 2 = u := by simpa using hu
  obtain ⟨x1, rfl, k1⟩ := open_cell h1
  obtain ⟨u, hu, h2⟩ := hc 2 c2 (by simp)
  obtain rfl : 2 = u := by simpa using hu
  obtain ⟨x2, rfl, k2⟩ := open_cell h2
  obtain ⟨u, hu, h3⟩ := hc 3 c3 (by simp)
  obtain rfl : 2 = u := by simpa using hu
  obtain ⟨x3, rfl, k3⟩ := open_cell h3
  obtain ⟨u, hu, h4⟩ := hc 4 c4 (by simp)
  obtain rfl : 2 = u := by simpa using hu
  obtain ⟨x4, rfl, k4⟩ := open_cell h4
  obtain ⟨u, hu, h5⟩ := hc 5 c5 (by simp)
  obtain rfl : 2 = u := by simpa using hu
  obtain ⟨x5, rfl, k5⟩ := open_cell h5
  obtain ⟨u, hu, h6⟩ := hc 6 c6 (by simp)
  obtain rfl : 2 = u := by simpa using hu
  obtain ⟨x6, rfl, k6⟩ := open_cell h6
  exact ⟨x0, x1, x2, x3, x4, x5, x6, rfl, k0, k1, k2, k3, k4, k5, k6⟩
theorem own : ownKnob Tryz.prog.godebug = none := by kernel_rfl
theorem laidOut : laidOutB Tryz.prog = true := by kernel_rfl
theorem lifted_keplerShapes (os : Os) (started : os.Started) (H : Type) (enc : TypeId × Value → H) :
    ReturnsInHanded {} Tryz.checked os 4 .any (Rows.keplerShapesSpec.pre6 enc Tryz.prog Tryz.f4 Rows.keplerShapesRow.domain false) (Rows.keplerShapesSpec.post enc Tryz.prog Tryz.f4 false true false false) := by
 refine returnsInHanded_of_change (C := Tryz.checked) own started c_4 Tryz.func4
  (ChangeSpec.witness6 (enc := enc) (C := Tryz.checked) false ⟨#[], #[.agg #[.int .i64 0, .int .i64 0, .int .i64 0, .int .i64 0, .int .i64 0, .int .i64 0, .int .i64 0]], []⟩ 8 c_4 c_4 c_4 c_4) ?_
 intro W base args ds gs before hval0 hW hcnd _
 have hval : ∀ (j : Nat) t v, Tryz.f4.params[j]? = some t → args[j]? = some v → Value.okWide Tryz.prog W .any base t v := hval0
 have hW' := hW
 obtain ⟨p, q, hA0, hV, rfl, hfz, hnd⟩ := hW
 have hA : DataW.TrodAll enc Tryz.prog W 0 (fun _ => true) true Tryz.f4.params.toList args.toList ds p := hA0
 rw [Tryz.params4] at hA hval
 obtain ⟨v0, vs0, d0, ds0, p0, q0, hargs, rfl, rfl, h0, r0⟩ := trodAll_cons hA
 obtain ⟨rfl, rfl, rfl⟩ := trodAll_nil r0
 obtain rfl : args = #[v0] := by cases args; simp_all
 obtain ⟨rfl, rfl⟩ := trodVars_none hV
 have lt0 : ∀ x ∈ p0, x.block < W.heap.size := by obtain ⟨m, hm⟩ := h0; exact DataW.trod_lt m _ _ _ hm
 obtain ⟨x0, x1, x2, x3, x4, x5, x6, rfl, k0, k1, k2, k3, k4, k5, k6⟩ := open_state (hval 0 40 v0 rfl rfl)
 clear hA0 hval0 hval
 refine (law_shapes x0 x1 x2 x3 x4 x5 x6 W k1 k2 k3 k4 k5 k6).mono fun e W' ⟨he, bel⟩ => ?_
 subst he
 exact ⟨_, rfl, _, _, _, [], _, [], hW', trodAll_mk1 (shut_bool Tryz.underlying4 _), (trodAll_cons_mk (Below.trod laidOut c_4 (of_decide_eq_true c_4) h0 bel lt0) trodAll_mk0), rfl, bel.frame _, fun h => by cases h⟩
theorem over_keplerShapes : Rows.keplerShapesRow.holds Tryz.pinned (OpenSpec.ofChange Rows.keplerShapesSpec) :=
 OpenClaim.holds_of_wide 4 Tryz.f4 rfl rfl rfl rfl rfl rfl rfl ⟨rfl, rfl, rfl, rfl, rfl⟩ rfl rfl rfl rfl rfl c_4 Tryz.func4 c_4
  (of_decide_eq_true c_4) (by unfold Func.isWrapper; rw [if_neg (of_decide_eq_false c_4)]; exact ⟨rfl, rfl⟩)
  (fun os started H enc _ => lifted_keplerShapes os started H enc)
theorem keplerShapes_proved : Rows.KeplerShapesSaid := over_keplerShapes
#print axioms keplerShapes_proved
end Go.Proofs.YtogblocakccbgaaGreat
