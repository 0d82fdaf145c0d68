/- FlowSplits: for every ephemeris, state, time and number of steps the statement's function returns true, and its arguments read as before. Conditions: none. -/
import Derived.Test.YtbkgakgdbmjmjaaGreatP40
set_option linter.unusedSimpArgs false
set_option linter.unusedVariables false
set_option maxRecDepth 100000
namespace Go.Proofs.YtbkgakgdbmjmjaaGreat
open Go.ChangeShapes Go.WideShapes Go.ChangeAt Go.RowKit
theorem own : ownKnob Tryz.prog.godebug = none := by kernel_rfl
theorem laidOut : laidOutB Tryz.prog = true := by kernel_rfl
theorem lifted_flowSplits (os : Os) (started : os.Started) (H : Type) (enc : TypeId × Value → H) :
    ReturnsInHanded {} Tryz.checked os 10 .any (Rows.flowSplitsSpec.pre6 enc Tryz.prog Tryz.f10 Rows.flowSplitsRow.domain false) (Rows.flowSplitsSpec.post enc Tryz.prog Tryz.f10 false true false false) := by
 refine returnsInHanded_of_change (C := Tryz.checked) own started c_16 Tryz.func10
  (ChangeSpec.witness6 (enc := enc) (C := Tryz.checked) false ⟨#[], #[.agg #[.slice none 0 0], .agg #[.int .i64 0, .int .i64 0, .int .i64 0, .int .i64 0, .int .i64 0, .int .i64 0, .int .i64 0], .int .i64 0, .int .i64 0], []⟩ 12 c_16 c_16 c_16 c_16) ?_
 intro W base args ds gs before hval0 hW hcnd _
 have hval : ∀ (j : Nat) t v, Tryz.f10.params[j]? = some t → args[j]? = some v → Value.okWide Tryz.prog W .any base t v := hval0
 have hW' := hW
 obtain ⟨p, q, hA0, hV, rfl, hfz, hnd⟩ := hW
 have hA : DataW.TrodAll enc Tryz.prog W 0 (fun _ => true) true Tryz.f10.params.toList args.toList ds p := hA0
 rw [Tryz.params10] at hA hval
 obtain ⟨v0, vs0, d0, ds0, p0, q0, hargs, rfl, rfl, h0, r0⟩ := trodAll_cons hA
 obtain ⟨v1, vs1, d1, ds1, p1, q1, rfl, rfl, rfl, h1, r1⟩ := trodAll_cons r0
 obtain ⟨v2, vs2, d2, ds2, p2, q2, rfl, rfl, rfl, h2, r2⟩ := trodAll_cons r1
 obtain ⟨v3, vs3, d3, ds3, p3, q3, rfl, rfl, rfl, h3, r3⟩ := trodAll_cons r2
 obtain ⟨rfl, rfl, rfl⟩ := trodAll_nil r3
 obtain rfl : args = #[v0, v1, v2, v3] := by cases args; simp_all
 obtain ⟨rfl, rfl⟩ := trodVars_none hV
 have lt0 : ∀ x ∈ p0, x.block < W.heap.size := by obtain ⟨m, hm⟩ := h0; exact DataW.trod_lt m _ _ _ hm
 have lt1 : ∀ x ∈ p1, x.block < W.heap.size := by obtain ⟨m, hm⟩ := h1; exact DataW.trod_lt m _ _ _ hm
 have lt2 : ∀ x ∈ p2, x.block < W.heap.size := by obtain ⟨m, hm⟩ := h2; exact DataW.trod_lt m _ _ _ hm
 have lt3 : ∀ x ∈ p3, x.block < W.heap.size := by obtain ⟨m, hm⟩ := h3; exact DataW.trod_lt m _ _ _ hm
 obtain ⟨u0, l0, rfl, e0⟩ := open_eph (hval 0 24 v0 rfl rfl) h0
 obtain ⟨s1, rfl⟩ := open_state (hval 1 79 v1 rfl rfl)
 obtain ⟨x2, rfl, k2⟩ := open_i64 (hval 2 2 v2 rfl rfl) h2
 obtain ⟨x3, rfl, k3⟩ := open_int3 (hval 3 3 v3 rfl rfl) h3
 clear hA0 hval0 hval
 refine (law_flowSplits u0 l0 s1 x2 x3 W e0).mono fun e W' ⟨he, bel⟩ => ?_
 subst he
 exact ⟨_, rfl, _, _, _, [], _, [], hW', trodAll_mk1 (shut_bool Tryz.underlying4 _), (trodAll_cons_mk (Below.trod laidOut c_16 (of_decide_eq_true c_16) h0 bel lt0) (trodAll_cons_mk (Below.trod laidOut c_16 (of_decide_eq_true c_16) h1 bel lt1) (trodAll_cons_mk (Below.trod laidOut c_16 (of_decide_eq_true c_16) h2 bel lt2) (trodAll_cons_mk (Below.trod laidOut c_16 (of_decide_eq_true c_16) h3 bel lt3) trodAll_mk0)))), rfl, bel.frame _, fun h => by cases h⟩
theorem over_flowSplits : Rows.flowSplitsRow.holds Tryz.pinned (OpenSpec.ofChange Rows.flowSplitsSpec) :=
 OpenClaim.holds_of_wide 10 Tryz.f10 rfl rfl rfl rfl rfl rfl rfl ⟨rfl, rfl, rfl, rfl, rfl⟩ rfl rfl rfl rfl rfl c_16 Tryz.func10 jf10_closed
  (of_decide_eq_true c_16) (by unfold Func.isWrapper; rw [if_neg (of_decide_eq_false c_16)]; exact ⟨rfl, rfl⟩)
  (fun os started H enc _ => lifted_flowSplits os started H enc)
theorem flowSplits_proved : Rows.FlowSplitsSaid := over_flowSplits
#print axioms flowSplits_proved
end Go.Proofs.YtbkgakgdbmjmjaaGreat
