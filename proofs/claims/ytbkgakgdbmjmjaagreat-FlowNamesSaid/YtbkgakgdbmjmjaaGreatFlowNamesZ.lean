/- FlowNames: the statement's function returns true. Conditions: none. -/
import Derived.Test.YtbkgakgdbmjmjaaGreatN37
set_option linter.unusedSimpArgs false
set_option linter.unusedVariables false
set_option maxRecDepth 100000
namespace Go.Proofs.YtbkgakgdbmjmjaaGreat
open Go.ChangeShapes Go.WideShapes Go.ChangeAt Go.RowKit
theorem own : ownKnob Tryz.prog.godebug = none := by kernel_rfl
theorem lifted_flowNames (os : Os) (started : os.Started) (H : Type) (enc : TypeId × Value → H) :
    ReturnsInHanded {} Tryz.checked os 12 .any (Rows.flowNamesSpec.pre6 enc Tryz.prog Tryz.f12 Rows.flowNamesRow.domain false) (Rows.flowNamesSpec.post enc Tryz.prog Tryz.f12 false true false false) := by
 refine returnsInHanded_of_change (C := Tryz.checked) own started c_17 Tryz.func12
  (ChangeSpec.witness6 (enc := enc) (C := Tryz.checked) false ⟨#[], #[], []⟩ 12 c_17 c_17 c_17 c_17) ?_
 intro W base args ds gs before hval0 hW hcnd _
 have hval : ∀ (j : Nat) t v, Tryz.f12.params[j]? = some t → args[j]? = some v → Value.okWide Tryz.prog W .any base t v := hval0
 have hW' := hW
 obtain ⟨p, q, hA0, hV, rfl, hfz, hnd⟩ := hW
 have hA : DataW.TrodAll enc Tryz.prog W 0 (fun _ => true) true Tryz.f12.params.toList args.toList ds p := hA0
 rw [Tryz.params12] at hA hval
 obtain ⟨hnil, rfl, rfl⟩ := trodAll_nil hA
 obtain rfl : args = #[] := by cases args; simp_all
 obtain ⟨rfl, rfl⟩ := trodVars_none hV
 clear hA0 hval0 hval
 refine (law_flowNames W).mono fun e W' ⟨he, bel⟩ => ?_
 subst he
 exact ⟨_, rfl, _, _, _, [], _, [], hW', trodAll_mk1 (shut_bool Tryz.underlying4 _), trodAll_mk0, rfl, bel.frame _, fun h => by cases h⟩
theorem over_flowNames : Rows.flowNamesRow.holds Tryz.pinned (OpenSpec.ofChange Rows.flowNamesSpec) :=
 OpenClaim.holds_of_wide 12 Tryz.f12 rfl rfl rfl rfl rfl rfl rfl ⟨rfl, rfl, rfl, rfl, rfl⟩ rfl rfl rfl rfl rfl c_17 Tryz.func12 jf12_closed
  (of_decide_eq_true c_17) (by unfold Func.isWrapper; rw [if_neg (of_decide_eq_false c_17)]; exact ⟨rfl, rfl⟩)
  (fun os started H enc _ => lifted_flowNames os started H enc)
theorem flowNames_proved : Rows.FlowNamesSaid := over_flowNames
#print axioms flowNames_proved
end Go.Proofs.YtbkgakgdbmjmjaaGreat
