/- planisphereref03: negatives, absolute values, products, squares. -/
import Derived.Test.YtbkgakgdbmjmjaaGreatJ05
set_option linter.unusedSimpArgs false
set_option linter.unusedVariables false
set_option maxHeartbeats 1000000
namespace Go.Proofs.YtbkgakgdbmjmjaaGreat
open Go.RowKit
theorem c_check (v : V3) (w : World) :
    Calls Tryz.prog 22 #[.agg #[.int .i64 v.a, .int .i64 v.b, .int .i64 v.c, .int .i64 v.d, .int .i64 v.e, .int .i64 v.f]] w fun e w' => e = .returned (.int .i64 (ckV v)) ∧ Ext w w' := by
 have l0 : IntKind.i64.wrap 0 = 0 := rfl
 have l1 : IntKind.i64.wrap 1 = 1 := rfl
 have l2 : IntKind.i64.wrap 2 = 2 := rfl
 have l3 : IntKind.i64.wrap 3 = 3 := rfl
 go_enter Tryz.func22, Tryz.ntmps22
 go_wp2_with fail
 refine wp_loop_rounds 4 ?_
 repeat
  any_goals
   rw [rounds_succ]
   go_wp2_with (first | (go_at_call 60; (with_reducible refine (ref_check _ _ _).mono ?_); rintro e w1 ⟨rfl, hb⟩; obtain ⟨_, _, ⟨hc, hf⟩, hz⟩ := hb.c3; (try simp only [wsz] at hz hc hf)))
 all_goals
  go_ret
  refine ⟨?_, ?_⟩
  ·(try simp only [bn_, bm_] at *)
   first | (simp [ckV, ck2, *]; done) | (simp [ckV, ck2, *]; omega)
  ·exact b_6
end Go.Proofs.YtbkgakgdbmjmjaaGreat
