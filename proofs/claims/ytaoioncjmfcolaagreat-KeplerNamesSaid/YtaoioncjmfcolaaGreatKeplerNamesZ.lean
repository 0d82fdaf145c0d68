/- KeplerNames: the statement's function returns true. Conditions: none. -/
import Derived.Test.YtaoioncjmfcolaaGreatV46
set_option linter.unusedSimpArgs false
set_option linter.unusedVariables false
set_option maxRecDepth 100000
namespace Go.Proofs.YtaoioncjmfcolaaGreat
open Go.ChangeShapes Go.WideShapes Go.ChangeAt Go.RowKit
theorem own:ownKnob Tryz.prog.godebug=none:=by kernel_rfl
theorem lifted_keplerNames (os:Os) (started:os.Started) (H:Type) (enc:TypeId×Value→H):
    ReturnsInHanded {} Tryz.checked os 4 .any (Rows.keplerNamesSpec.pre6 enc Tryz.prog Tryz.f4 Rows.keplerNamesRow.domain false) (Rows.keplerNamesSpec.post enc Tryz.prog Tryz.f4 false true false false):=by
 refine returnsInHanded_of_change (C:=Tryz.checked) own started c_3 Tryz.func4
  (ChangeSpec.witness6 (enc:=enc) (C:=Tryz.checked) false ⟨#[],#[],[]⟩ 3 c_3 c_3 c_3 c_3) ?_
 intro W base args ds gs before hval0 hW hcnd _
 have hval:∀(j:Nat) t v,Tryz.f4.params[j]? =some t→args[j]? =some v→Value.okWide Tryz.prog W .any base t v:=hval0
 have hW':=hW
 obtain⟨p,q,hA0,hV,rfl,hfz,hnd⟩:=hW
 have hA:DataW.TrodAll enc Tryz.prog W 0 (fun _=>true) true Tryz.f4.params.toList args.toList ds p:=hA0
 rw[Tryz.params4]at hA hval
 obtain⟨hnil,rfl,rfl⟩:=trodAll_nil hA
 obtain rfl:args=#[]:=by cases args;simp_all
 obtain⟨rfl,rfl⟩:=trodVars_none hV
 clear hA0 hval0 hval
 refine(law_keplerNames W).mono fun e W' ⟨he,bel⟩=> ?_
 subst he
 exact⟨_,rfl,_,_,_,[],_,[],hW',trodAll_mk1 (shut_bool Tryz.underlying4 _),trodAll_mk0,rfl,bel.frame _,fun h=>by cases h⟩
theorem over_keplerNames:Rows.keplerNamesRow.holds Tryz.pinned (OpenSpec.ofChange Rows.keplerNamesSpec):=
 OpenClaim.holds_of_wide 4 Tryz.f4 rfl rfl rfl rfl rfl rfl rfl ⟨rfl,rfl,rfl,rfl,rfl⟩ rfl rfl rfl rfl rfl c_3 Tryz.func4 jf6_closed
  (of_decide_eq_true c_3) (by unfold Func.isWrapper;rw[if_neg (of_decide_eq_false c_3)];exact⟨rfl,rfl⟩)
  (fun os started H enc _=>lifted_keplerNames os started H enc)
theorem keplerNames_proved:Rows.KeplerNamesSaid:=over_keplerNames
#print axioms keplerNames_proved
end Go.Proofs.YtaoioncjmfcolaaGreat
