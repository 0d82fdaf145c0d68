/- ForceCentral: the walk, joined with what is computed. -/
import Derived.Test.YtomgcjeahkmhiaaAl0
import Derived.Test.YtomgcjeahkmhiaaAl1
import Derived.Test.YtomgcjeahkmhiaaFC1
import Derived.Test.YtomgcjeahkmhiaaFC2
import Derived.Test.YtomgcjeahkmhiaaFC3
import Derived.Test.YtomgcjeahkmhiaaCen3
set_option linter.unusedSimpArgs false
set_option linter.unusedVariables false
namespace Go.Proofs.Ytomgcjeahkmhiaa
open Go.RowKit

theorem dA_I : dA.I := ⟨⟨⟨by decide, by decide⟩, ⟨by decide, by decide⟩⟩, ⟨⟨by decide, by decide⟩, ⟨by decide, by decide⟩⟩, ⟨⟨by decide, by decide⟩, ⟨by decide, by decide⟩⟩⟩
theorem oneI : I64 1099511627776 ∧ I64 1099511627776 := ⟨⟨by decide, by decide⟩, ⟨by decide, by decide⟩⟩
theorem pull_A (w : World) :
    Calls Try.prog 21 #[.agg #[.int .i64 1099511627776, .int .i64 1099511627776], .agg #[.int .i64 2199023255552, .int .i64 2199023255552, .int .i64 0, .int .i64 0, .int .i64 0, .int .i64 0]] w fun e w' => e = .returned (.tuple #[.agg #[.int .i64 (-274877906944), .int .i64 (-274877906944), .int .i64 0, .int .i64 0, .int .i64 0, .int .i64 0], .int .i64 0]) ∧ Ext w w' := by
  have h := f_Pull 1099511627776 1099511627776 dA w oneI dA_I
  rw [pullA] at h
  exact h
theorem tide_A (w : World) :
    Calls Try.prog 23 #[.agg #[.int .i64 1099511627776, .int .i64 1099511627776], .agg #[.int .i64 2199023255552, .int .i64 2199023255552, .int .i64 0, .int .i64 0, .int .i64 0, .int .i64 0]] w fun e w' => e = .returned (.tuple #[.agg #[.int .i64 274877906944, .int .i64 274877906944, .int .i64 0, .int .i64 0, .int .i64 0, .int .i64 0, .int .i64 0, .int .i64 0, .int .i64 (-137438953472), .int .i64 (-137438953472), .int .i64 0, .int .i64 0, .int .i64 0, .int .i64 0, .int .i64 0, .int .i64 0, .int .i64 (-137438953472), .int .i64 (-137438953472)], .int .i64 0]) ∧ Ext w w' := by
  have h := f_Tide 1099511627776 1099511627776 dA w oneI dA_I
  rw [tideA.2] at h
  simp only [tideA.1] at h
  exact h
set_option maxRecDepth 100000 in
set_option maxHeartbeats 8000000 in
theorem fc_walk (x y : Int) (d : V3) (w : World) (hx : I64 x ∧ I64 y) (kd : d.I) :
    Calls Try.prog 5 #[.agg #[.int .i64 x, .int .i64 y], .agg #[.int .i64 d.a, .int .i64 d.b, .int .i64 d.c, .int .i64 d.d, .int .i64 d.e, .int .i64 d.f]] w fun e w' => e = .returned (.bool true) ∧ Ext w w' := by
  have hA : ∀ w, Calls Try.prog 25 #[] w fun e w' => e = .returned (.bool true) ∧ Ext w w' := fun w => alive_walk w pull_A tide_A (fun z0 z1 z2 z3 z4 z5 z6 z7 z8 z9 z10 z11 z12 z13 z14 z15 z16 z17 w => eq_mat z0 z1 z2 z3 z4 z5 z6 z7 z8 z9 z10 z11 z12 z13 z14 z15 z16 z17 9996 w)
  by_cases h : ¬ ckI x y = 0 ∨ x < 0 ∨ 1099511627776 < y ∨ modB d = false
  · exact fc_triv x y d w kd hA h
  have kg : ckI x y = 0 := Decidable.of_not_not fun k => h (Or.inl k)
  have kl : ¬ x < 0 := fun k => h (Or.inr (Or.inl k))
  have kh : ¬ 1099511627776 < y := fun k => h (Or.inr (Or.inr (Or.inl k)))
  have km : modB d = true := by
    cases k : modB d with
    | true => rfl
    | false => exact absurd (Or.inr (Or.inr (Or.inr k))) h
  have hk : lkI x y d = 0 := by unfold lkI; rw [if_neg (by simpa using kg)]; exact modB_ck km
  by_cases hp : (pl2 (sz2 (nrmI 0 d)) x y d).e = 0
  · by_cases ht : TdOK (tnI (sz2 (nrmI 0 d)) x y) (tmI (nrmI 0 d) (tnI (sz2 (nrmI 0 d)) x y)) d
    · exact fc_good x y d (plV (sz2 (nrmI 0 d)) x y d) (dgI (tnI (sz2 (nrmI 0 d)) x y) (tmI (nrmI 0 d) (tnI (sz2 (nrmI 0 d)) x y)) 0 d.a d.b) (dgI (tnI (sz2 (nrmI 0 d)) x y) (tmI (nrmI 0 d) (tnI (sz2 (nrmI 0 d)) x y)) 0 d.c d.d) (dgI (tnI (sz2 (nrmI 0 d)) x y) (tmI (nrmI 0 d) (tnI (sz2 (nrmI 0 d)) x y)) 0 d.e d.f) (ozI (tmI (nrmI 0 d) (tnI (sz2 (nrmI 0 d)) x y)) 0 d.c d.d d.a d.b) (ozI (tmI (nrmI 0 d) (tnI (sz2 (nrmI 0 d)) x y)) 0 d.e d.f d.a d.b) (ozI (tmI (nrmI 0 d) (tnI (sz2 (nrmI 0 d)) x y)) 0 d.e d.f d.c d.d) w kd ⟨pzI_W _ _ _ _ _ _, pzI_W _ _ _ _ _ _, pzI_W _ _ _ _ _ _⟩ kg kl kh km hA (fun w => f_Pull_ok x y d w hx kd hk hp) (fun w => f_Tide_ok x y d w hx kd hk _ _ rfl rfl ht) _ rfl _ rfl _ rfl (central hk hp) (trace hk ht _ _ _ _ rfl rfl rfl rfl)
    · exact fc_bad x y d (plV (sz2 (nrmI 0 d)) x y d) 0 0 0 0 0 0 0 0 0 0 0 0 0 0 0 0 0 0 0 24 w kd kg kl kh km hA (fun w => f_Pull_ok x y d w hx kd hk hp) (fun w => f_Tide_bad x y d w hx kd hk _ _ rfl rfl ht) (Or.inl ⟨rfl, rfl⟩)
  · by_cases ht : TdOK (tnI (sz2 (nrmI 0 d)) x y) (tmI (nrmI 0 d) (tnI (sz2 (nrmI 0 d)) x y)) d
    · exact fc_bad x y d ⟨0, 0, 0, 0, 0, 0⟩ (dgI (tnI (sz2 (nrmI 0 d)) x y) (tmI (nrmI 0 d) (tnI (sz2 (nrmI 0 d)) x y)) 0 d.a d.b).lo (dgI (tnI (sz2 (nrmI 0 d)) x y) (tmI (nrmI 0 d) (tnI (sz2 (nrmI 0 d)) x y)) 0 d.a d.b).hi (ozI (tmI (nrmI 0 d) (tnI (sz2 (nrmI 0 d)) x y)) 0 d.c d.d d.a d.b).lo (ozI (tmI (nrmI 0 d) (tnI (sz2 (nrmI 0 d)) x y)) 0 d.c d.d d.a d.b).hi (ozI (tmI (nrmI 0 d) (tnI (sz2 (nrmI 0 d)) x y)) 0 d.e d.f d.a d.b).lo (ozI (tmI (nrmI 0 d) (tnI (sz2 (nrmI 0 d)) x y)) 0 d.e d.f d.a d.b).hi (ozI (tmI (nrmI 0 d) (tnI (sz2 (nrmI 0 d)) x y)) 0 d.c d.d d.a d.b).lo (ozI (tmI (nrmI 0 d) (tnI (sz2 (nrmI 0 d)) x y)) 0 d.c d.d d.a d.b).hi (dgI (tnI (sz2 (nrmI 0 d)) x y) (tmI (nrmI 0 d) (tnI (sz2 (nrmI 0 d)) x y)) 0 d.c d.d).lo (dgI (tnI (sz2 (nrmI 0 d)) x y) (tmI (nrmI 0 d) (tnI (sz2 (nrmI 0 d)) x y)) 0 d.c d.d).hi (ozI (tmI (nrmI 0 d) (tnI (sz2 (nrmI 0 d)) x y)) 0 d.e d.f d.c d.d).lo (ozI (tmI (nrmI 0 d) (tnI (sz2 (nrmI 0 d)) x y)) 0 d.e d.f d.c d.d).hi (ozI (tmI (nrmI 0 d) (tnI (sz2 (nrmI 0 d)) x y)) 0 d.e d.f d.a d.b).lo (ozI (tmI (nrmI 0 d) (tnI (sz2 (nrmI 0 d)) x y)) 0 d.e d.f d.a d.b).hi (ozI (tmI (nrmI 0 d) (tnI (sz2 (nrmI 0 d)) x y)) 0 d.e d.f d.c d.d).lo (ozI (tmI (nrmI 0 d) (tnI (sz2 (nrmI 0 d)) x y)) 0 d.e d.f d.c d.d).hi (dgI (tnI (sz2 (nrmI 0 d)) x y) (tmI (nrmI 0 d) (tnI (sz2 (nrmI 0 d)) x y)) 0 d.e d.f).lo (dgI (tnI (sz2 (nrmI 0 d)) x y) (tmI (nrmI 0 d) (tnI (sz2 (nrmI 0 d)) x y)) 0 d.e d.f).hi 24 0 w kd kg kl kh km hA (fun w => f_Pull_bad x y d w hx kd hk hp) (fun w => f_Tide_ok x y d w hx kd hk _ _ rfl rfl ht) (Or.inr (Or.inl ⟨rfl, rfl⟩))
    · exact fc_bad x y d ⟨0, 0, 0, 0, 0, 0⟩ 0 0 0 0 0 0 0 0 0 0 0 0 0 0 0 0 0 0 24 24 w kd kg kl kh km hA (fun w => f_Pull_bad x y d w hx kd hk hp) (fun w => f_Tide_bad x y d w hx kd hk _ _ rfl rfl ht) (Or.inr (Or.inr ⟨rfl, rfl⟩))
end Go.Proofs.Ytomgcjeahkmhiaa
