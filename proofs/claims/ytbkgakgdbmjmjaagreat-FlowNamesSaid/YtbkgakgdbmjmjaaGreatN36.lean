/- law35.FlowNames: the walk. -/
import Derived.Test.YtbkgakgdbmjmjaaGreatN35
set_option linter.unusedSimpArgs false
set_option linter.unusedVariables false
set_option maxRecDepth 100000
set_option maxHeartbeats 16000000
namespace Go.Proofs.YtbkgakgdbmjmjaaGreat
open Go.RowKit
theorem fx_walk (O a b c : Tu) (w : World)
    (hs0 : ∀ w1, Calls Tryz.prog 30 #[.agg #[.slice none 0 0], .int .i64 0, .int .i64 0, .agg #[.int .i64 1099511627776, .int .i64 1099511627776, .int .i64 0, .int .i64 0, .int .i64 0, .int .i64 0], .agg #[.int .i64 0, .int .i64 0, .int .i64 0, .int .i64 0, .int .i64 0, .int .i64 0]] w1 fun e w' => e = .returned (.tuple #[.agg (tvs O).toArray, .int .i64 2]) ∧ Ext w1 w')
    (hs1 : ∀ w1, Calls Tryz.prog 30 #[.agg #[.slice none 0 0], .int .i64 0, .int .i64 5000000000000001, .agg #[.int .i64 1099511627776, .int .i64 1099511627776, .int .i64 0, .int .i64 0, .int .i64 0, .int .i64 0], .agg #[.int .i64 0, .int .i64 0, .int .i64 0, .int .i64 0, .int .i64 0, .int .i64 0]] w1 fun e w' => e = .returned (.tuple #[.agg (tvs O).toArray, .int .i64 16]) ∧ Ext w1 w')
    (hs2 : ∀ w1, Calls Tryz.prog 30 #[.agg #[.slice none 0 0], .int .i64 0, .int .i64 1, .agg #[.int .i64 1, .int .i64 0, .int .i64 0, .int .i64 0, .int .i64 0, .int .i64 0], .agg #[.int .i64 0, .int .i64 0, .int .i64 0, .int .i64 0, .int .i64 0, .int .i64 0]] w1 fun e w' => e = .returned (.tuple #[.agg (tvs O).toArray, .int .i64 8]) ∧ Ext w1 w')
    (hs3 : ∀ w1, Calls Tryz.prog 30 #[.agg #[.slice none 0 0], .int .i64 0, .int .i64 1, .agg #[.int .i64 1099511627776, .int .i64 1099511627776, .int .i64 0, .int .i64 0, .int .i64 0, .int .i64 0], .agg #[.int .i64 1, .int .i64 0, .int .i64 0, .int .i64 0, .int .i64 0, .int .i64 0]] w1 fun e w' => e = .returned (.tuple #[.agg (tvs O).toArray, .int .i64 8]) ∧ Ext w1 w')
    (hs4 : ∀ w1, Calls Tryz.prog 30 #[.agg #[.slice none 0 0], .int .i64 0, .int .i64 1, .agg #[.int .i64 0, .int .i64 0, .int .i64 0, .int .i64 0, .int .i64 0, .int .i64 0], .agg #[.int .i64 0, .int .i64 0, .int .i64 0, .int .i64 0, .int .i64 0, .int .i64 0]] w1 fun e w' => e = .returned (.tuple #[.agg (tvs O).toArray, .int .i64 24]) ∧ Ext w1 w')
    (hs5 : ∀ w1, Calls Tryz.prog 30 #[.agg #[.slice none 0 0], .int .i64 0, .int .i64 345600000000000, .agg #[.int .i64 1099511627776, .int .i64 1099511627776, .int .i64 0, .int .i64 0, .int .i64 0, .int .i64 0], .agg #[.int .i64 0, .int .i64 0, .int .i64 0, .int .i64 0, .int .i64 0, .int .i64 0]] w1 fun e w' => e = .returned (.tuple #[.agg (tvs O).toArray, .int .i64 24]) ∧ Ext w1 w')
    (hr0 : ∀ w1, Calls Tryz.prog 37 #[.agg #[.slice none 0 0], .agg #[.int .i64 0, .int .i64 0, .int .i64 0, .int .i64 0, .int .i64 0, .int .i64 0, .int .i64 0], .int .i64 5, .int .i64 1] w1 fun e w' => ∃ v, e = .returned (.tuple #[v, .int .i64 8]) ∧ TuS w' v [] ∧ Ext w1 w')
    (hr1 : ∀ w1, Calls Tryz.prog 37 #[.agg #[.slice none 0 0], .agg #[.int .i64 0, .int .i64 1099511627776, .int .i64 0, .int .i64 0, .int .i64 0, .int .i64 0, .int .i64 0], .int .i64 5, .int .i64 6] w1 fun e w' => ∃ v, e = .returned (.tuple #[v, .int .i64 2]) ∧ TuS w' v [] ∧ Ext w1 w')
    (hr2 : ∀ w1, Calls Tryz.prog 37 #[.agg #[.slice none 0 0], .agg #[.int .i64 0, .int .i64 1099511627776, .int .i64 0, .int .i64 0, .int .i64 0, .int .i64 0, .int .i64 0], .int .i64 500, .int .i64 201] w1 fun e w' => ∃ v, e = .returned (.tuple #[v, .int .i64 2]) ∧ TuS w' v [] ∧ Ext w1 w')
    (hr3 : ∀ w1, Calls Tryz.prog 37 #[.agg #[.slice none 0 0], .agg #[.int .i64 0, .int .i64 1099511627776, .int .i64 0, .int .i64 0, .int .i64 0, .int .i64 0, .int .i64 0], .int .i64 5000000000000001, .int .i64 1] w1 fun e w' => ∃ v, e = .returned (.tuple #[v, .int .i64 16]) ∧ TuS w' v [] ∧ Ext w1 w')
    (hr4 : ∀ w1, Calls Tryz.prog 37 #[.agg #[.slice none 0 0], .agg #[.int .i64 0, .int .i64 1099511627776, .int .i64 0, .int .i64 0, .int .i64 0, .int .i64 0, .int .i64 0], .int .i64 5, .int .i64 3] w1 fun e w' => ∃ v, e = .returned (.tuple #[v, .int .i64 0]) ∧ TuS w' v [a, b, c] ∧ Ext w1 w')
    (hy1 : ∀ w1, Calls Tryz.prog 28 #[.agg #[.slice none 0 0], .agg #[.int .i64 0, .int .i64 86400000000, .int .i64 1099511627776, .int .i64 1099511627776, .int .i64 0, .int .i64 0, .int .i64 0, .int .i64 0, .int .i64 0, .int .i64 0, .int .i64 0, .int .i64 0, .int .i64 0, .int .i64 0, .int .i64 1099511627776, .int .i64 1099511627776, .int .i64 0, .int .i64 0, .int .i64 0, .int .i64 0, .int .i64 0, .int .i64 0, .int .i64 0, .int .i64 0, .int .i64 0, .int .i64 0], .agg #[.int .i64 1099511627776, .int .i64 1099511627776, .int .i64 0, .int .i64 0, .int .i64 0, .int .i64 0], .agg #[.int .i64 0, .int .i64 0, .int .i64 0, .int .i64 0, .int .i64 0, .int .i64 0]] w1 fun e w' => e = .returned (.tuple #[.bool false, .int .i64 0]) ∧ Ext w1 w')
    (hy2 : ∀ w1, Calls Tryz.prog 28 #[.agg #[.slice none 0 0], .agg #[.int .i64 0, .int .i64 0, .int .i64 1099511627776, .int .i64 1099511627776, .int .i64 0, .int .i64 0, .int .i64 0, .int .i64 0, .int .i64 0, .int .i64 0, .int .i64 0, .int .i64 0, .int .i64 0, .int .i64 0, .int .i64 1099511627776, .int .i64 1099511627776, .int .i64 0, .int .i64 0, .int .i64 0, .int .i64 0, .int .i64 0, .int .i64 0, .int .i64 0, .int .i64 0, .int .i64 0, .int .i64 0], .agg #[.int .i64 1099511627776, .int .i64 1099511627776, .int .i64 0, .int .i64 0, .int .i64 0, .int .i64 0], .agg #[.int .i64 0, .int .i64 0, .int .i64 0, .int .i64 0, .int .i64 0, .int .i64 0]] w1 fun e w' => e = .returned (.tuple #[.bool false, .int .i64 2]) ∧ Ext w1 w')
    (h1 : a.ti = 1) (h2 : b.fr = 1) (h3 : b.ti = 3) (h5 : c.ti = 5) :
    Calls Tryz.prog 12 #[] w fun e w' => e = .returned (.bool true) ∧ Ext w w' := by
 have hal := fun w1 => m_alone ⟨0, 1099511627776, 0, 0, 0, 0, 0⟩ w1
 dsimp only at hal
 have hz : Hid (∀ w1 : World, (w1.alloc (.cells #[.int .i64 0, .int .i64 0, .int .i64 0, .int .i64 0, .int .i64 0, .int .i64 0, .int .i64 0, .int .i64 0, .int .i64 0, .int .i64 0, .int .i64 0, .int .i64 0, .int .i64 0, .int .i64 0, .int .i64 0, .int .i64 0, .int .i64 0, .int .i64 0, .int .i64 0, .int .i64 0, .int .i64 0, .int .i64 0, .int .i64 0, .int .i64 0, .int .i64 0, .int .i64 0] 65)).there w1.heap.size 0 26) := fun w1 => (zb65 w1).there 26 rfl
 go_enter Tryz.func12, Tryz.ntmps12
 go_upto_region 4 with (first
  | (go_at_call 43; (with_reducible refine (m_rest _).mono ?_); rintro e w1 ⟨rfl, hb1⟩)
  | (go_at_call 38; (with_reducible refine (hal _).mono ?_); rintro e w2 ⟨rfl, hb2⟩))
 refine wp_name fun U hN => ?_
 obtain ⟨B, hB⟩ : ∃ n, w2.heap.size = n := ⟨_, rfl⟩
 have F0 : FxB w B U := by
  have e : U = (((w2.alloc (.cells #[.int .i64 1099511627776, .int .i64 1099511627776, .int .i64 0, .int .i64 0, .int .i64 0, .int .i64 0] 28)).alloc (.cells #[.int .i64 0, .int .i64 0, .int .i64 0, .int .i64 0, .int .i64 0, .int .i64 0] 28)).alloc (.cells #[.slice none 0 0] 24)).alloc (.cells #[.int .i64 1, .int .i64 0, .int .i64 0, .int .i64 0, .int .i64 0, .int .i64 0] 28) := hN
  have b1 := (((VB.lit w2 (six lvP) 28).ext ((Ext.refl _).alloc (.cells #[.int .i64 0, .int .i64 0, .int .i64 0, .int .i64 0, .int .i64 0, .int .i64 0] 28))).ext ((Ext.refl _).alloc (.cells #[.slice none 0 0] 24))).ext ((Ext.refl _).alloc (.cells #[.int .i64 1, .int .i64 0, .int .i64 0, .int .i64 0, .int .i64 0, .int .i64 0] 28))
  have b2 := ((VB.lit (w2.alloc (.cells #[.int .i64 1099511627776, .int .i64 1099511627776, .int .i64 0, .int .i64 0, .int .i64 0, .int .i64 0] 28)) (six V3.O) 28).ext ((Ext.refl _).alloc (.cells #[.slice none 0 0] 24))).ext ((Ext.refl _).alloc (.cells #[.int .i64 1, .int .i64 0, .int .i64 0, .int .i64 0, .int .i64 0, .int .i64 0] 28))
  have b4 := VB.lit (((w2.alloc (.cells #[.int .i64 1099511627776, .int .i64 1099511627776, .int .i64 0, .int .i64 0, .int .i64 0, .int .i64 0] 28)).alloc (.cells #[.int .i64 0, .int .i64 0, .int .i64 0, .int .i64 0, .int .i64 0, .int .i64 0] 28)).alloc (.cells #[.slice none 0 0] 24)) (six lvB) 28
  simp only [World.size_alloc] at b2 b4
  rw [e, ← hB]
  exact ⟨((((hb1.trans hb2).alloc _).alloc _).alloc _).alloc _, b1, b2, by simp [go_sem, ↓IntWalk.iteOmega], b4⟩
 try rw [hB]
 clear hN hB hb1 hb2 hal
 have e0 : U.cell? ⟨B + 2, 0, none⟩ = some (.slice none 0 0) := F0.e
 have p0 : U.cell? ⟨B, 0, none⟩ = some (.int .i64 1099511627776) := F0.p.1 0 _ rfl
 have p1 : U.cell? ⟨B, 1, none⟩ = some (.int .i64 1099511627776) := F0.p.1 1 _ rfl
 have p2 : U.cell? ⟨B, 2, none⟩ = some (.int .i64 0) := F0.p.1 2 _ rfl
 have p3 : U.cell? ⟨B, 3, none⟩ = some (.int .i64 0) := F0.p.1 3 _ rfl
 have p4 : U.cell? ⟨B, 4, none⟩ = some (.int .i64 0) := F0.p.1 4 _ rfl
 have p5 : U.cell? ⟨B, 5, none⟩ = some (.int .i64 0) := F0.p.1 5 _ rfl
 have q0 : U.cell? ⟨B + 1, 0, none⟩ = some (.int .i64 0) := F0.v.1 0 _ rfl
 have q1 : U.cell? ⟨B + 1, 1, none⟩ = some (.int .i64 0) := F0.v.1 1 _ rfl
 have q2 : U.cell? ⟨B + 1, 2, none⟩ = some (.int .i64 0) := F0.v.1 2 _ rfl
 have q3 : U.cell? ⟨B + 1, 3, none⟩ = some (.int .i64 0) := F0.v.1 3 _ rfl
 have q4 : U.cell? ⟨B + 1, 4, none⟩ = some (.int .i64 0) := F0.v.1 4 _ rfl
 have q5 : U.cell? ⟨B + 1, 5, none⟩ = some (.int .i64 0) := F0.v.1 5 _ rfl
 go_upto_region 5 with (first
  | (go_at_call 30; (with_reducible refine (hs0 _).mono ?_); rintro e w5 ⟨rfl, hb⟩; have hth := hz.out w5)
  | ((with_reducible show wpList _ _ _ _ _ _); refine store_row rfl 65 (.tmp 5) (.tmp 48) rfl w5.heap.size (tvs O).toArray rfl rfl hth tyI65 c_38 (fun W0 hW => ?_)))
 have F1 := F0.ext (hW.ext (hb.alloc _) c_70)
 clear e0 p0 p1 p2 p3 p4 p5 q0 q1 q2 q3 q4 q5
 clear hW hth hb F0 hs0
 have e0 : W0.cell? ⟨B + 2, 0, none⟩ = some (.slice none 0 0) := F1.e
 have p0 : W0.cell? ⟨B, 0, none⟩ = some (.int .i64 1099511627776) := F1.p.1 0 _ rfl
 have p1 : W0.cell? ⟨B, 1, none⟩ = some (.int .i64 1099511627776) := F1.p.1 1 _ rfl
 have p2 : W0.cell? ⟨B, 2, none⟩ = some (.int .i64 0) := F1.p.1 2 _ rfl
 have p3 : W0.cell? ⟨B, 3, none⟩ = some (.int .i64 0) := F1.p.1 3 _ rfl
 have p4 : W0.cell? ⟨B, 4, none⟩ = some (.int .i64 0) := F1.p.1 4 _ rfl
 have p5 : W0.cell? ⟨B, 5, none⟩ = some (.int .i64 0) := F1.p.1 5 _ rfl
 have q0 : W0.cell? ⟨B + 1, 0, none⟩ = some (.int .i64 0) := F1.v.1 0 _ rfl
 have q1 : W0.cell? ⟨B + 1, 1, none⟩ = some (.int .i64 0) := F1.v.1 1 _ rfl
 have q2 : W0.cell? ⟨B + 1, 2, none⟩ = some (.int .i64 0) := F1.v.1 2 _ rfl
 have q3 : W0.cell? ⟨B + 1, 3, none⟩ = some (.int .i64 0) := F1.v.1 3 _ rfl
 have q4 : W0.cell? ⟨B + 1, 4, none⟩ = some (.int .i64 0) := F1.v.1 4 _ rfl
 have q5 : W0.cell? ⟨B + 1, 5, none⟩ = some (.int .i64 0) := F1.v.1 5 _ rfl
 go_upto_region 6 with (first
  | (go_at_call 30; (with_reducible refine (hs1 _).mono ?_); rintro e w5 ⟨rfl, hb⟩; have hth := hz.out w5)
  | ((with_reducible show wpList _ _ _ _ _ _); refine store_row rfl 65 (.tmp 7) (.tmp 55) rfl w5.heap.size (tvs O).toArray rfl rfl hth tyI65 c_38 (fun W1 hW => ?_)))
 have F2 := F1.ext (hW.ext (hb.alloc _) c_70)
 clear e0 p0 p1 p2 p3 p4 p5 q0 q1 q2 q3 q4 q5
 clear hW hth hb F1 hs1
 have e0 : W1.cell? ⟨B + 2, 0, none⟩ = some (.slice none 0 0) := F2.e
 have q0 : W1.cell? ⟨B + 1, 0, none⟩ = some (.int .i64 0) := F2.v.1 0 _ rfl
 have q1 : W1.cell? ⟨B + 1, 1, none⟩ = some (.int .i64 0) := F2.v.1 1 _ rfl
 have q2 : W1.cell? ⟨B + 1, 2, none⟩ = some (.int .i64 0) := F2.v.1 2 _ rfl
 have q3 : W1.cell? ⟨B + 1, 3, none⟩ = some (.int .i64 0) := F2.v.1 3 _ rfl
 have q4 : W1.cell? ⟨B + 1, 4, none⟩ = some (.int .i64 0) := F2.v.1 4 _ rfl
 have q5 : W1.cell? ⟨B + 1, 5, none⟩ = some (.int .i64 0) := F2.v.1 5 _ rfl
 have x0 : W1.cell? ⟨B + 3, 0, none⟩ = some (.int .i64 1) := F2.x.1 0 _ rfl
 have x1 : W1.cell? ⟨B + 3, 1, none⟩ = some (.int .i64 0) := F2.x.1 1 _ rfl
 have x2 : W1.cell? ⟨B + 3, 2, none⟩ = some (.int .i64 0) := F2.x.1 2 _ rfl
 have x3 : W1.cell? ⟨B + 3, 3, none⟩ = some (.int .i64 0) := F2.x.1 3 _ rfl
 have x4 : W1.cell? ⟨B + 3, 4, none⟩ = some (.int .i64 0) := F2.x.1 4 _ rfl
 have x5 : W1.cell? ⟨B + 3, 5, none⟩ = some (.int .i64 0) := F2.x.1 5 _ rfl
 go_upto_region 7 with (first
  | (go_at_call 30; (with_reducible refine (hs2 _).mono ?_); rintro e w5 ⟨rfl, hb⟩; have hth := hz.out w5)
  | ((with_reducible show wpList _ _ _ _ _ _); refine store_row rfl 65 (.tmp 9) (.tmp 62) rfl w5.heap.size (tvs O).toArray rfl rfl hth tyI65 c_38 (fun W2 hW => ?_)))
 have F3 := F2.ext (hW.ext (hb.alloc _) c_70)
 clear e0 q0 q1 q2 q3 q4 q5 x0 x1 x2 x3 x4 x5
 clear hW hth hb F2 hs2
 have e0 : W2.cell? ⟨B + 2, 0, none⟩ = some (.slice none 0 0) := F3.e
 have p0 : W2.cell? ⟨B, 0, none⟩ = some (.int .i64 1099511627776) := F3.p.1 0 _ rfl
 have p1 : W2.cell? ⟨B, 1, none⟩ = some (.int .i64 1099511627776) := F3.p.1 1 _ rfl
 have p2 : W2.cell? ⟨B, 2, none⟩ = some (.int .i64 0) := F3.p.1 2 _ rfl
 have p3 : W2.cell? ⟨B, 3, none⟩ = some (.int .i64 0) := F3.p.1 3 _ rfl
 have p4 : W2.cell? ⟨B, 4, none⟩ = some (.int .i64 0) := F3.p.1 4 _ rfl
 have p5 : W2.cell? ⟨B, 5, none⟩ = some (.int .i64 0) := F3.p.1 5 _ rfl
 have q0 : W2.cell? ⟨B + 1, 0, none⟩ = some (.int .i64 0) := F3.v.1 0 _ rfl
 have q1 : W2.cell? ⟨B + 1, 1, none⟩ = some (.int .i64 0) := F3.v.1 1 _ rfl
 have q2 : W2.cell? ⟨B + 1, 2, none⟩ = some (.int .i64 0) := F3.v.1 2 _ rfl
 have q3 : W2.cell? ⟨B + 1, 3, none⟩ = some (.int .i64 0) := F3.v.1 3 _ rfl
 have q4 : W2.cell? ⟨B + 1, 4, none⟩ = some (.int .i64 0) := F3.v.1 4 _ rfl
 have q5 : W2.cell? ⟨B + 1, 5, none⟩ = some (.int .i64 0) := F3.v.1 5 _ rfl
 have x0 : W2.cell? ⟨B + 3, 0, none⟩ = some (.int .i64 1) := F3.x.1 0 _ rfl
 have x1 : W2.cell? ⟨B + 3, 1, none⟩ = some (.int .i64 0) := F3.x.1 1 _ rfl
 have x2 : W2.cell? ⟨B + 3, 2, none⟩ = some (.int .i64 0) := F3.x.1 2 _ rfl
 have x3 : W2.cell? ⟨B + 3, 3, none⟩ = some (.int .i64 0) := F3.x.1 3 _ rfl
 have x4 : W2.cell? ⟨B + 3, 4, none⟩ = some (.int .i64 0) := F3.x.1 4 _ rfl
 have x5 : W2.cell? ⟨B + 3, 5, none⟩ = some (.int .i64 0) := F3.x.1 5 _ rfl
 go_upto_region 8 with (first
  | (go_at_call 30; (with_reducible refine (hs3 _).mono ?_); rintro e w5 ⟨rfl, hb⟩; have hth := hz.out w5)
  | ((with_reducible show wpList _ _ _ _ _ _); refine store_row rfl 65 (.tmp 11) (.tmp 69) rfl w5.heap.size (tvs O).toArray rfl rfl hth tyI65 c_38 (fun W3 hW => ?_)))
 have F4 := F3.ext (hW.ext (hb.alloc _) c_70)
 clear e0 p0 p1 p2 p3 p4 p5 q0 q1 q2 q3 q4 q5 x0 x1 x2 x3 x4 x5
 clear hW hth hb F3 hs3
 have e0 : W3.cell? ⟨B + 2, 0, none⟩ = some (.slice none 0 0) := F4.e
 have q0 : W3.cell? ⟨B + 1, 0, none⟩ = some (.int .i64 0) := F4.v.1 0 _ rfl
 have q1 : W3.cell? ⟨B + 1, 1, none⟩ = some (.int .i64 0) := F4.v.1 1 _ rfl
 have q2 : W3.cell? ⟨B + 1, 2, none⟩ = some (.int .i64 0) := F4.v.1 2 _ rfl
 have q3 : W3.cell? ⟨B + 1, 3, none⟩ = some (.int .i64 0) := F4.v.1 3 _ rfl
 have q4 : W3.cell? ⟨B + 1, 4, none⟩ = some (.int .i64 0) := F4.v.1 4 _ rfl
 have q5 : W3.cell? ⟨B + 1, 5, none⟩ = some (.int .i64 0) := F4.v.1 5 _ rfl
 go_upto_region 9 with (first
  | (go_at_call 30; (with_reducible refine (hs4 _).mono ?_); rintro e w5 ⟨rfl, hb⟩; have hth := hz.out w5)
  | ((with_reducible show wpList _ _ _ _ _ _); refine store_row rfl 65 (.tmp 13) (.tmp 76) rfl w5.heap.size (tvs O).toArray rfl rfl hth tyI65 c_38 (fun W4 hW => ?_)))
 have F5 := F4.ext (hW.ext (hb.alloc _) c_70)
 clear e0 q0 q1 q2 q3 q4 q5
 clear hW hth hb F4 hs4
 have e0 : W4.cell? ⟨B + 2, 0, none⟩ = some (.slice none 0 0) := F5.e
 have p0 : W4.cell? ⟨B, 0, none⟩ = some (.int .i64 1099511627776) := F5.p.1 0 _ rfl
 have p1 : W4.cell? ⟨B, 1, none⟩ = some (.int .i64 1099511627776) := F5.p.1 1 _ rfl
 have p2 : W4.cell? ⟨B, 2, none⟩ = some (.int .i64 0) := F5.p.1 2 _ rfl
 have p3 : W4.cell? ⟨B, 3, none⟩ = some (.int .i64 0) := F5.p.1 3 _ rfl
 have p4 : W4.cell? ⟨B, 4, none⟩ = some (.int .i64 0) := F5.p.1 4 _ rfl
 have p5 : W4.cell? ⟨B, 5, none⟩ = some (.int .i64 0) := F5.p.1 5 _ rfl
 have q0 : W4.cell? ⟨B + 1, 0, none⟩ = some (.int .i64 0) := F5.v.1 0 _ rfl
 have q1 : W4.cell? ⟨B + 1, 1, none⟩ = some (.int .i64 0) := F5.v.1 1 _ rfl
 have q2 : W4.cell? ⟨B + 1, 2, none⟩ = some (.int .i64 0) := F5.v.1 2 _ rfl
 have q3 : W4.cell? ⟨B + 1, 3, none⟩ = some (.int .i64 0) := F5.v.1 3 _ rfl
 have q4 : W4.cell? ⟨B + 1, 4, none⟩ = some (.int .i64 0) := F5.v.1 4 _ rfl
 have q5 : W4.cell? ⟨B + 1, 5, none⟩ = some (.int .i64 0) := F5.v.1 5 _ rfl
 go_upto_region 10 with (first
  | (go_at_call 30; (with_reducible refine (hs5 _).mono ?_); rintro e w5 ⟨rfl, hb⟩; have hth := hz.out w5)
  | ((with_reducible show wpList _ _ _ _ _ _); refine store_row rfl 65 (.tmp 15) (.tmp 83) rfl w5.heap.size (tvs O).toArray rfl rfl hth tyI65 c_38 (fun W5 hW => ?_)))
 have F6 := F5.ext (hW.ext (hb.alloc _) c_70)
 clear e0 p0 p1 p2 p3 p4 p5 q0 q1 q2 q3 q4 q5
 clear hW hth hb F5 hs5
 have e0 : W5.cell? ⟨B + 2, 0, none⟩ = some (.slice none 0 0) := F6.e
 go_upto_region 11 with (go_at_call 37; (with_reducible refine (hr0 _).mono ?_); rintro e w6 ⟨u0, rfl, -, hb⟩)
 have F7 := F6.ext hb
 clear e0 F6 hb hr0
 have J0 := F7.ext (Ext.refl _).drew
 refine wp_region_till (S := (fun w0 => FxB w B w0)) (fun _ => false) c_17 ?_ (fun hHeld => ?_)
 ·exact J0
 try simp only [sx_]
 refine tb 0 rfl c_61 ?_
 try simp only [sx_]
 refine rb (i := 1) rfl fun K hK => ?_
 go_simp
 (go_at_call 43; (with_reducible refine (m_rest _).mono ?_); rintro e y1 ⟨rfl, hy⟩)
 have J1 := J0.ext hy
 refine hK.out _ _ ?_ fun _ => ?_
 ·(try dsimp only); exact J1
 clear hK K hHeld
 rename_i hHeld
 try simp only [sx_]
 refine rb (i := 2) rfl fun K hK => ?_
 go_simp
 (go_at_call 37; (with_reducible refine (hr1 _).mono ?_); rintro e y2 ⟨u1, rfl, hT, hy2⟩)
 have J2 := J1.ext hy2
 refine hK.out _ _ ?_ fun _ => ?_
 ·(try dsimp only); exact J2
 clear hK K hHeld
 rename_i hHeld
 try simp only [sx_]
 refine tp 3 rfl c_1 ?_
 try simp only [sx_]
 refine tp 4 rfl c_1 ?_
 try simp only [sx_]
 refine tp 5 rfl c_1 ?_
 try simp only [sx_]
 refine tp 6 rfl c_1 ?_
 try simp only [sx_]
 refine tp 7 rfl c_1 ?_
 try simp only [sx_]
 refine wpAnyB_done c_17 ?_ _
 have F8 := J2
 clear J0 J1 J2 hHeld hy hy2 hr1 hT
 obtain ⟨Y11, rfl⟩ : ∃ Y, Y = y2 := ⟨_, rfl⟩
 go_upto_region 12 with fail
 have J0 := F8.ext (Ext.refl _).drew
 refine wp_region_till (S := (fun w0 => FxB w B w0)) (fun _ => false) c_17 ?_ (fun hHeld => ?_)
 ·exact J0
 try simp only [sx_]
 refine tb 0 rfl c_61 ?_
 try simp only [sx_]
 refine rb (i := 1) rfl fun K hK => ?_
 go_simp
 (go_at_call 43; (with_reducible refine (m_rest _).mono ?_); rintro e y1 ⟨rfl, hy⟩)
 have J1 := J0.ext hy
 refine hK.out _ _ ?_ fun _ => ?_
 ·(try dsimp only); exact J1
 clear hK K hHeld
 rename_i hHeld
 try simp only [sx_]
 refine rb (i := 2) rfl fun K hK => ?_
 go_simp
 (go_at_call 37; (with_reducible refine (hr2 _).mono ?_); rintro e y2 ⟨u2, rfl, hT, hy2⟩)
 have J2 := J1.ext hy2
 refine hK.out _ _ ?_ fun _ => ?_
 ·(try dsimp only); exact J2
 clear hK K hHeld
 rename_i hHeld
 try simp only [sx_]
 refine tp 3 rfl c_1 ?_
 try simp only [sx_]
 refine tp 4 rfl c_1 ?_
 try simp only [sx_]
 refine tp 5 rfl c_1 ?_
 try simp only [sx_]
 refine tp 6 rfl c_1 ?_
 try simp only [sx_]
 refine tp 7 rfl c_1 ?_
 try simp only [sx_]
 refine wpAnyB_done c_17 ?_ _
 have F9 := J2
 clear J0 J1 J2 hHeld hy hy2 hr2 hT
 obtain ⟨Y12, rfl⟩ : ∃ Y, Y = y2 := ⟨_, rfl⟩
 go_upto_region 13 with fail
 have J0 := F9.ext (Ext.refl _).drew
 refine wp_region_till (S := (fun w0 => FxB w B w0)) (fun _ => false) c_17 ?_ (fun hHeld => ?_)
 ·exact J0
 try simp only [sx_]
 refine tb 0 rfl c_61 ?_
 try simp only [sx_]
 refine rb (i := 1) rfl fun K hK => ?_
 go_simp
 (go_at_call 43; (with_reducible refine (m_rest _).mono ?_); rintro e y1 ⟨rfl, hy⟩)
 have J1 := J0.ext hy
 refine hK.out _ _ ?_ fun _ => ?_
 ·(try dsimp only); exact J1
 clear hK K hHeld
 rename_i hHeld
 try simp only [sx_]
 refine rb (i := 2) rfl fun K hK => ?_
 go_simp
 (go_at_call 37; (with_reducible refine (hr3 _).mono ?_); rintro e y2 ⟨u3, rfl, hT, hy2⟩)
 have J2 := J1.ext hy2
 refine hK.out _ _ ?_ fun _ => ?_
 ·(try dsimp only); exact J2
 clear hK K hHeld
 rename_i hHeld
 try simp only [sx_]
 refine tp 3 rfl c_1 ?_
 try simp only [sx_]
 refine tp 4 rfl c_1 ?_
 try simp only [sx_]
 refine tp 5 rfl c_1 ?_
 try simp only [sx_]
 refine tp 6 rfl c_1 ?_
 try simp only [sx_]
 refine tp 7 rfl c_1 ?_
 try simp only [sx_]
 refine wpAnyB_done c_17 ?_ _
 have F10 := J2
 clear J0 J1 J2 hHeld hy hy2 hr3 hT
 obtain ⟨Y13, rfl⟩ : ∃ Y, Y = y2 := ⟨_, rfl⟩
 go_upto_region 14 with fail
 have J0 := F10.ext (Ext.refl _).drew
 refine wp_region_till (S := (fun w0 => FxB w B w0)) (fun _ => false) c_17 ?_ (fun hHeld => ?_)
 ·exact J0
 try simp only [sx_]
 refine tb 0 rfl c_61 ?_
 try simp only [sx_]
 refine rb (i := 1) rfl fun K hK => ?_
 go_simp
 (go_at_call 43; (with_reducible refine (m_rest _).mono ?_); rintro e y1 ⟨rfl, hy⟩)
 have J1 := J0.ext hy
 refine hK.out _ _ ?_ fun _ => ?_
 ·(try dsimp only); exact J1
 clear hK K hHeld
 rename_i hHeld
 try simp only [sx_]
 refine rb (i := 2) rfl fun K hK => ?_
 go_simp
 (go_at_call 37; (with_reducible refine (hr4 _).mono ?_); rintro e y2 ⟨u4, rfl, hT, hy2⟩)
 have J2 := J1.ext hy2
 refine hK.out _ _ ?_ fun _ => ?_
 ·(try dsimp only); exact J2
 clear hK K hHeld
 rename_i hHeld
 try simp only [sx_]
 refine tp 3 rfl c_1 ?_
 try simp only [sx_]
 refine tp 4 rfl c_1 ?_
 try simp only [sx_]
 refine tp 5 rfl c_1 ?_
 try simp only [sx_]
 refine tp 6 rfl c_1 ?_
 try simp only [sx_]
 refine tp 7 rfl c_1 ?_
 try simp only [sx_]
 refine wpAnyB_done c_17 ?_ _
 have F11 := J2
 clear J0 J1 J2 hHeld hy hy2 hr4
 obtain ⟨Y14, rfl⟩ : ∃ Y, Y = y2 := ⟨_, rfl⟩
 obtain ⟨ao, bb, o, cap, rfl, ha, h200, hlt, hc⟩ := hT
 obtain rfl := ha (by simp)
 have hT : TuS Y14 (.slice (some ⟨bb, o, none⟩) 3 cap) [a, b, c] := ⟨_, bb, o, cap, rfl, fun _ => rfl, h200, hlt, hc⟩
 rw [show [a, b, c].length = 3 from rfl]
 clear ha h200 hlt hc
 go_upto_region 15 with fail
 go_upto_region 16 with (go_at_call 41; (with_reducible refine (at_3 hT h1 h2 h3).mono ?_); rintro e w8 ⟨rfl, hb⟩)
 replace hT := hT.ext hb
 have F12 := F11.ext hb
 clear F11 hb
 go_upto_region 17 with (go_at_call 41; (with_reducible refine (at_6 hT h1 h3 h5).mono ?_); rintro e w9 ⟨rfl, hb⟩)
 replace hT := hT.ext hb
 have F13 := F12.ext hb
 clear F12 hb
 have e0 : w9.cell? ⟨B + 2, 0, none⟩ = some (.slice none 0 0) := F13.e
 have p0 : w9.cell? ⟨B, 0, none⟩ = some (.int .i64 1099511627776) := F13.p.1 0 _ rfl
 have p1 : w9.cell? ⟨B, 1, none⟩ = some (.int .i64 1099511627776) := F13.p.1 1 _ rfl
 have p2 : w9.cell? ⟨B, 2, none⟩ = some (.int .i64 0) := F13.p.1 2 _ rfl
 have p3 : w9.cell? ⟨B, 3, none⟩ = some (.int .i64 0) := F13.p.1 3 _ rfl
 have p4 : w9.cell? ⟨B, 4, none⟩ = some (.int .i64 0) := F13.p.1 4 _ rfl
 have p5 : w9.cell? ⟨B, 5, none⟩ = some (.int .i64 0) := F13.p.1 5 _ rfl
 have q0 : w9.cell? ⟨B + 1, 0, none⟩ = some (.int .i64 0) := F13.v.1 0 _ rfl
 have q1 : w9.cell? ⟨B + 1, 1, none⟩ = some (.int .i64 0) := F13.v.1 1 _ rfl
 have q2 : w9.cell? ⟨B + 1, 2, none⟩ = some (.int .i64 0) := F13.v.1 2 _ rfl
 have q3 : w9.cell? ⟨B + 1, 3, none⟩ = some (.int .i64 0) := F13.v.1 3 _ rfl
 have q4 : w9.cell? ⟨B + 1, 4, none⟩ = some (.int .i64 0) := F13.v.1 4 _ rfl
 have q5 : w9.cell? ⟨B + 1, 5, none⟩ = some (.int .i64 0) := F13.v.1 5 _ rfl
 go_upto_region 18 with (go_at_call 28; (with_reducible refine (hy1 _).mono ?_); rintro e w10 ⟨rfl, hb⟩)
 replace hT := hT.ext hb
 have F14 := F13.ext hb
 clear e0 p0 p1 p2 p3 p4 p5 q0 q1 q2 q3 q4 q5
 clear F13 hb hy1
 have e0 : w10.cell? ⟨B + 2, 0, none⟩ = some (.slice none 0 0) := F14.e
 have p0 : w10.cell? ⟨B, 0, none⟩ = some (.int .i64 1099511627776) := F14.p.1 0 _ rfl
 have p1 : w10.cell? ⟨B, 1, none⟩ = some (.int .i64 1099511627776) := F14.p.1 1 _ rfl
 have p2 : w10.cell? ⟨B, 2, none⟩ = some (.int .i64 0) := F14.p.1 2 _ rfl
 have p3 : w10.cell? ⟨B, 3, none⟩ = some (.int .i64 0) := F14.p.1 3 _ rfl
 have p4 : w10.cell? ⟨B, 4, none⟩ = some (.int .i64 0) := F14.p.1 4 _ rfl
 have p5 : w10.cell? ⟨B, 5, none⟩ = some (.int .i64 0) := F14.p.1 5 _ rfl
 have q0 : w10.cell? ⟨B + 1, 0, none⟩ = some (.int .i64 0) := F14.v.1 0 _ rfl
 have q1 : w10.cell? ⟨B + 1, 1, none⟩ = some (.int .i64 0) := F14.v.1 1 _ rfl
 have q2 : w10.cell? ⟨B + 1, 2, none⟩ = some (.int .i64 0) := F14.v.1 2 _ rfl
 have q3 : w10.cell? ⟨B + 1, 3, none⟩ = some (.int .i64 0) := F14.v.1 3 _ rfl
 have q4 : w10.cell? ⟨B + 1, 4, none⟩ = some (.int .i64 0) := F14.v.1 4 _ rfl
 have q5 : w10.cell? ⟨B + 1, 5, none⟩ = some (.int .i64 0) := F14.v.1 5 _ rfl
 go_upto_region 19 with (go_at_call 28; (with_reducible refine (hy2 _).mono ?_); rintro e w11 ⟨rfl, hb⟩)
 replace hT := hT.ext hb
 have F15 := F14.ext hb
 clear e0 p0 p1 p2 p3 p4 p5 q0 q1 q2 q3 q4 q5
 clear F14 hb hy2
 go_upto_region 20 with (go_at_call 32; (with_reducible refine (g_alive5 _).mono ?_); rintro e w12 ⟨rfl, hb⟩)
 replace hT := hT.ext hb
 have xx := (F15.ext hb).own
 obtain ⟨ao, b2, o2, cap2, he, ha, h200, hlt, hc⟩ := hT
 have hA := ha (by simp)
 subst hA
 cases he
 have r0 : w12.cell? ⟨bb, o + 1, none⟩ = some (.int .i64 1) := (hc 0 (by simp) 1 _ rfl).trans (by rw [← h1]; rfl)
 have r1 : w12.cell? ⟨bb, o + 26, none⟩ = some (.int .i64 1) := (hc 1 (by simp) 0 _ rfl).trans (by rw [← h2]; rfl)
 have r2 : w12.cell? ⟨bb, o + 26 + 1, none⟩ = some (.int .i64 3) := (hc 1 (by simp) 1 _ rfl).trans (by rw [← h3]; rfl)
 have r3 : w12.cell? ⟨bb, o + 52 + 1, none⟩ = some (.int .i64 5) := (hc 2 (by simp) 1 _ rfl).trans (by rw [← h5]; rfl)
 clear hc ha h200 hlt h1 h2 h3 h5 F15 hb
 go_wp2_with fail
 refine bodyPost_ret (v := .bool true) ?_ rfl ⟨rfl, xx⟩
 simp [results, Tryz.results12, go_sem, ↓IntWalk.iteOmega, *]
end Go.Proofs.YtbkgakgdbmjmjaaGreat
