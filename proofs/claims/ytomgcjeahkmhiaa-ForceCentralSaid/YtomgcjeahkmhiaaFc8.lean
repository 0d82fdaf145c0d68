/- force, planisphereref34: Pull, Tide, whatever comes in. -/
import Derived.Test.YtomgcjeahkmhiaaFc7
import Derived.Test.YtomgcjeahkmhiaaEqs
set_option linter.unusedSimpArgs false
set_option linter.unusedVariables false
namespace Go.Proofs.Ytomgcjeahkmhiaa
open Go.RowKit

noncomputable def pullR (x y : Int) (d : V3) : V7 := if lkI x y d ≠ 0 then ⟨V3.O, lkI x y d⟩ else if (pl2 (sz2 (nrmI 0 d)) x y d).e ≠ 0 then ⟨V3.O, 24⟩ else ⟨plV (sz2 (nrmI 0 d)) x y d, 0⟩
def tdL (n m : R3) (d : V3) : List Int := [(dgI n m 0 d.a d.b).lo, (dgI n m 0 d.a d.b).hi, (ozI m 0 d.c d.d d.a d.b).lo, (ozI m 0 d.c d.d d.a d.b).hi, (ozI m 0 d.e d.f d.a d.b).lo, (ozI m 0 d.e d.f d.a d.b).hi, (ozI m 0 d.c d.d d.a d.b).lo, (ozI m 0 d.c d.d d.a d.b).hi, (dgI n m 0 d.c d.d).lo, (dgI n m 0 d.c d.d).hi, (ozI m 0 d.e d.f d.c d.d).lo, (ozI m 0 d.e d.f d.c d.d).hi, (ozI m 0 d.e d.f d.a d.b).lo, (ozI m 0 d.e d.f d.a d.b).hi, (ozI m 0 d.e d.f d.c d.d).lo, (ozI m 0 d.e d.f d.c d.d).hi, (dgI n m 0 d.e d.f).lo, (dgI n m 0 d.e d.f).hi]
instance (n m : R3) (d : V3) : Decidable (TdOK n m d) := by unfold TdOK; infer_instance
noncomputable def tideR (x y : Int) (d : V3) (i : Nat) : Int := if lkI x y d ≠ 0 then 0 else if TdOK (tnI (sz2 (nrmI 0 d)) x y) (tmI (nrmI 0 d) (tnI (sz2 (nrmI 0 d)) x y)) d then (tdL (tnI (sz2 (nrmI 0 d)) x y) (tmI (nrmI 0 d) (tnI (sz2 (nrmI 0 d)) x y)) d).getD i 0 else 0
noncomputable def tideE (x y : Int) (d : V3) : Int := if lkI x y d ≠ 0 then lkI x y d else if TdOK (tnI (sz2 (nrmI 0 d)) x y) (tmI (nrmI 0 d) (tnI (sz2 (nrmI 0 d)) x y)) d then 0 else 24
theorem tide_err {x y : Int} {d : V3} (h : ¬ lkI x y d = 0) : (∀ i, tideR x y d i = 0) ∧ tideE x y d = lkI x y d :=
  ⟨fun i => by unfold tideR; rw [if_pos h], by unfold tideE; rw [if_pos h]⟩
theorem tide_ok {x y : Int} {d : V3} (h : lkI x y d = 0) (k : TdOK (tnI (sz2 (nrmI 0 d)) x y) (tmI (nrmI 0 d) (tnI (sz2 (nrmI 0 d)) x y)) d) : (∀ i, tideR x y d i = (tdL (tnI (sz2 (nrmI 0 d)) x y) (tmI (nrmI 0 d) (tnI (sz2 (nrmI 0 d)) x y)) d).getD i 0) ∧ tideE x y d = 0 :=
  ⟨fun i => by unfold tideR; rw [if_neg (by simpa using h), if_pos k], by unfold tideE; rw [if_neg (by simpa using h), if_pos k]⟩
theorem tide_bad {x y : Int} {d : V3} (h : lkI x y d = 0) (k : ¬ TdOK (tnI (sz2 (nrmI 0 d)) x y) (tmI (nrmI 0 d) (tnI (sz2 (nrmI 0 d)) x y)) d) : (∀ i, tideR x y d i = 0) ∧ tideE x y d = 24 :=
  ⟨fun i => by unfold tideR; rw [if_neg (by simpa using h), if_neg k], by unfold tideE; rw [if_neg (by simpa using h), if_neg k]⟩
theorem size24 : Try.prog.cellsOf 24 = 6 := by kernel_rfl
theorem eq_row (a b c d e f : Int) (n : Nat) (w : World) : (Op.equalIn (n + 1 + 1 + 1) 24 (.agg #[.int .i64 a, .int .i64 b, .int .i64 c, .int .i64 d, .int .i64 e, .int .i64 f]) (.agg #[.int .i64 a, .int .i64 b, .int .i64 c, .int .i64 d, .int .i64 e, .int .i64 f])).run Try.prog w = .ok true w := by
  obtain ⟨i, hi⟩ : ∃ i, Try.prog.info? 23 = some i := Option.isSome_iff_exists.1 (by kernel_rfl)
  rw [run_equalIn_array w (n + 1 + 1) _ _ Try.underlying24 hi, size23]
  have r3 : List.range 3 = [0, 1, 2] := rfl
  rw [r3]
  simp [Op.eqItems, go_sem, eq_iv]
theorem eq_mat (z0 z1 z2 z3 z4 z5 z6 z7 z8 z9 z10 z11 z12 z13 z14 z15 z16 z17 : Int) (n : Nat) (w : World) : (Op.equalIn (n + 1 + 1 + 1 + 1) 44 (.agg #[.int .i64 z0, .int .i64 z1, .int .i64 z2, .int .i64 z3, .int .i64 z4, .int .i64 z5, .int .i64 z6, .int .i64 z7, .int .i64 z8, .int .i64 z9, .int .i64 z10, .int .i64 z11, .int .i64 z12, .int .i64 z13, .int .i64 z14, .int .i64 z15, .int .i64 z16, .int .i64 z17]) (.agg #[.int .i64 z0, .int .i64 z1, .int .i64 z2, .int .i64 z3, .int .i64 z4, .int .i64 z5, .int .i64 z6, .int .i64 z7, .int .i64 z8, .int .i64 z9, .int .i64 z10, .int .i64 z11, .int .i64 z12, .int .i64 z13, .int .i64 z14, .int .i64 z15, .int .i64 z16, .int .i64 z17])).run Try.prog w = .ok true w := by
  obtain ⟨i, hi⟩ : ∃ i, Try.prog.info? 24 = some i := Option.isSome_iff_exists.1 (by kernel_rfl)
  rw [run_equalIn_array w (n + 1 + 1 + 1) _ _ Try.underlying44 hi, size24]
  have r3 : List.range 3 = [0, 1, 2] := rfl
  rw [r3]
  simp [Op.eqItems, go_sem, eq_row]
theorem Ext.range {a b : World} {q o : Nat} {vs : List Value} (h : Ext a b) (hq : q < a.heap.size) (k : a.rangeAt q o vs) : b.rangeAt q o vs := fun j v hv => (h.cells.1 q (o + j) hq).trans (k j v hv)
theorem Row.other {W w : World} {b q o : Nat} {vs us : List Value} (h : Row W w b vs) (hq : ¬ q = b) (k : w.rangeAt q o us) : W.rangeAt q o us := fun j v hv => (h.cells.1 q (o + j) hq).trans (k j v hv)
theorem f_Pull (x y : Int) (d : V3) (w : World) (hx : I64 x ∧ I64 y) (kd : d.I) :
    Calls Try.prog 21 #[.agg #[.int .i64 x, .int .i64 y], .agg #[.int .i64 d.a, .int .i64 d.b, .int .i64 d.c, .int .i64 d.d, .int .i64 d.e, .int .i64 d.f]] w fun e w' => e = .returned (.tuple #[.agg #[.int .i64 ((pullR x y d).v).a, .int .i64 ((pullR x y d).v).b, .int .i64 ((pullR x y d).v).c, .int .i64 ((pullR x y d).v).d, .int .i64 ((pullR x y d).v).e, .int .i64 ((pullR x y d).v).f], .int .i64 (pullR x y d).e]) ∧ Ext w w' := by
  by_cases hk : lkI x y d = 0
  · by_cases h0 : (pl2 (sz2 (nrmI 0 d)) x y d).e = 0
    · have e : pullR x y d = ⟨plV (sz2 (nrmI 0 d)) x y d, 0⟩ := by unfold pullR; rw [if_neg (by simpa using hk), if_neg (by simpa using h0)]
      rw [e]; exact f_Pull_ok x y d w hx kd hk h0
    · have e : pullR x y d = ⟨V3.O, 24⟩ := by unfold pullR; rw [if_neg (by simpa using hk), if_pos h0]
      rw [e]; exact f_Pull_bad x y d w hx kd hk h0
  · have e : pullR x y d = ⟨V3.O, lkI x y d⟩ := by unfold pullR; rw [if_pos hk]
    rw [e]; exact f_Pull_e x y d w hx kd hk
theorem f_Tide (x y : Int) (d : V3) (w : World) (hx : I64 x ∧ I64 y) (kd : d.I) :
    Calls Try.prog 23 #[.agg #[.int .i64 x, .int .i64 y], .agg #[.int .i64 d.a, .int .i64 d.b, .int .i64 d.c, .int .i64 d.d, .int .i64 d.e, .int .i64 d.f]] w fun e w' => e = .returned (.tuple #[.agg #[.int .i64 (tideR x y d 0), .int .i64 (tideR x y d 1), .int .i64 (tideR x y d 2), .int .i64 (tideR x y d 3), .int .i64 (tideR x y d 4), .int .i64 (tideR x y d 5), .int .i64 (tideR x y d 6), .int .i64 (tideR x y d 7), .int .i64 (tideR x y d 8), .int .i64 (tideR x y d 9), .int .i64 (tideR x y d 10), .int .i64 (tideR x y d 11), .int .i64 (tideR x y d 12), .int .i64 (tideR x y d 13), .int .i64 (tideR x y d 14), .int .i64 (tideR x y d 15), .int .i64 (tideR x y d 16), .int .i64 (tideR x y d 17)], .int .i64 (tideE x y d)]) ∧ Ext w w' := by
  by_cases hk : lkI x y d = 0
  · by_cases h0 : TdOK (tnI (sz2 (nrmI 0 d)) x y) (tmI (nrmI 0 d) (tnI (sz2 (nrmI 0 d)) x y)) d
    · obtain ⟨e1, e2⟩ := tide_ok hk h0
      rw [e2]; simp only [e1]
      exact f_Tide_ok x y d w hx kd hk _ _ rfl rfl h0
    · obtain ⟨e1, e2⟩ := tide_bad hk h0
      rw [e2]; simp only [e1]
      exact f_Tide_bad x y d w hx kd hk _ _ rfl rfl h0
  · obtain ⟨e1, e2⟩ := tide_err hk
    rw [e2]; simp only [e1]
    exact f_Tide_e x y d w hx kd hk
end Go.Proofs.Ytomgcjeahkmhiaa
