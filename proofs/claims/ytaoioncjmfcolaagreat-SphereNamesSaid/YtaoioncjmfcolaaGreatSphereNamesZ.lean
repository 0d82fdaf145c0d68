/- SphereNames: the statement's function returns true. Conditions: none. -/
import Derived.Test.YtaoioncjmfcolaaGreatW36
import Derived.Test.YtaoioncjmfcolaaGreatW37
set_option linter.unusedSimpArgs false
set_option linter.unusedVariables false
set_option maxRecDepth 100000
namespace Go.Proofs.YtaoioncjmfcolaaGreat
open Go.ChangeShapes Go.WideShapes Go.ChangeAt Go.RowKit
theorem own : ownKnob Tryz.prog.godebug = none := by kernel_rfl
theorem lifted_sphereNames (os : Os) (started : os.Started) (H : Type) (enc : TypeId × Value → H) :
    ReturnsInHanded {} Tryz.checked os 3 .any (Rows.sphereNamesSpec.pre6 enc Tryz.prog Tryz.f3 Rows.sphereNamesRow.domain false) (Rows.sphereNamesSpec.post enc Tryz.prog Tryz.f3 false true false false) := by
 refine returnsInHanded_of_change (C := Tryz.checked) own started c_4 Tryz.func3
  (ChangeSpec.witness6 (enc := enc) (C := Tryz.checked) false ⟨#[], #[], []⟩ 3 c_4 c_4 c_4 c_4) ?_
 intro W base args ds gs before hval0 hW hcnd _
 have hval : ∀ (j : Nat) t v, Tryz.f3.params[j]? = some t → args[j]? = some v → Value.okWide Tryz.prog W .any base t v := hval0
 have hW' := hW
 obtain ⟨p, q, hA0, hV, rfl, hfz, hnd⟩ := hW
 have hA : DataW.TrodAll enc Tryz.prog W 0 (fun _ => true) true Tryz.f3.params.toList args.toList ds p := hA0
 rw [Tryz.params3] at hA hval
 obtain ⟨hnil, rfl, rfl⟩ := trodAll_nil hA
 obtain rfl : args = #[] := by cases args; simp_all
 obtain ⟨rfl, rfl⟩ := trodVars_none hV
 clear hA0 hval0 hval
 refine (law_sphereNames W).mono fun e W' ⟨he, bel⟩ => ?_
 subst he
 exact ⟨_, rfl, _, _, _, [], _, [], hW', trodAll_mk1 (shut_bool Tryz.underlying4 _), trodAll_mk0, rfl, bel.frame _, fun h => by cases h⟩
theorem over_sphereNames : Rows.sphereNamesRow.holds Tryz.pinned (OpenSpec.ofChange Rows.sphereNamesSpec) :=
 OpenClaim.holds_of_wide 3 Tryz.f3 rfl rfl rfl rfl rfl rfl rfl ⟨rfl, rfl, rfl, rfl, rfl⟩ rfl rfl rfl rfl rfl c_4 Tryz.func3 jf3_closed
  (of_decide_eq_true c_4) (by unfold Func.isWrapper; rw [if_neg (of_decide_eq_false c_4)]; exact ⟨rfl, rfl⟩)
  (fun os started H enc _ => lifted_sphereNames os started H enc)
theorem sphereNames_proved : Rows.SphereNamesSaid := over_sphereNames
#print axioms sphereNames_proved
end Go.Proofs.YtaoioncjmfcolaaGreat
