/- A slice of int8 that came in, opened. -/
import Derived.Test.YtcalonhphknbbaaJ29
import Derived.WalkKit
import Derived.ProofKit
import Derived.OpenShut
import Derived.ChangeOld
import Derived.Below
import Derived.WideShapes
set_option linter.unusedSimpArgs false
set_option linter.unusedVariables false
namespace Go.Proofs.Ytcalonhphknbbaa
open Go.ChangeShapes Go.WideShapes Go.ChangeAt Go.RowKit

theorem cells47 : Try.prog.cellsOf 47 = 1 := by kernel_rfl
theorem wf_i8_bounds {n : Int} (h : (Lit.int .i8 n).wf = true) : -128 ≤ n ∧ n ≤ 127 := by
  have e1 : IntKind.i8.min = -128 := by decide
  have e2 : IntKind.i8.max = 127 := by decide
  simp only [Lit.wf, e1, e2, Bool.and_eq_true, decide_eq_true_eq] at h
  exact h
theorem take_getD8 (zs : List Int) {len i : Nat} (h : i < len) : (zs.take len).getD i 0 = zs.getD i 0 := by
  rw [List.getD_eq_getElem?_getD, List.getD_eq_getElem?_getD, List.getElem?_take_of_lt h]
set_option maxRecDepth 100000 in
theorem open_oc {H : Type} {enc : TypeId × Value → H} {W : World} {r : Reach} {base : Nat} {v : Value} {d : DataW H} {p : List MemPlace} (hok : Value.okWide Try.prog W r base 22 v)
    (h : DataW.Trod enc Try.prog W 0 (fun _ => true) true 22 v d p) (hlt : ∀ x ∈ p, x.block < W.heap.size) : ∃ l : List Int, Oc W v l := by
  obtain ⟨a0, len0, cap0, rfl⟩ := okWide_slice Try.underlying22 hok
  obtain ⟨fuel, hf⟩ := h
  rcases open_ints Try.underlying22 Try.underlying47 cells47 hf with ⟨hcs, hx⟩ | ⟨a, len, cap, zs, hcs, _, hl, hm, hz, hx, hcell, hwz⟩
  · simp [Value.cells] at hcs
    obtain ⟨rfl, rfl, rfl⟩ := hcs
    exact ⟨[], none, 0, 0, 0, rfl, fun e => absurd e (by simp), Nat.le_refl _, by omega, fun e => absurd e (by simp), fun i hi => absurd hi (by simp), fun i hi => absurd hi (by simp)⟩
  · simp [Value.cells] at hcs
    obtain ⟨rfl, rfl, rfl⟩ := hcs
    simp only [Prod.mk.injEq] at hx
    obtain ⟨rfl, rfl⟩ := hx
    simp only [if_true] at hz
    have hlen : (zs.take len0).length = len0 := by rw [List.length_take]; omega
    have hm2 : cap0 ≤ 9223372036854775807 := by unfold maxLen at hm; omega
    rcases Nat.eq_zero_or_pos len0 with e | e
    · subst e
      exact ⟨[], some a, 0, 0, cap0, rfl, fun e => absurd e (by simp), Nat.zero_le _, hm2, fun e => absurd e (by simp), fun i hi => absurd hi (by simp), fun i hi => absurd hi (by simp)⟩
    · obtain ⟨b, off, rfl, hc⟩ := ints_at hcell (by omega)
      refine ⟨zs.take len0, some ⟨b, off, none⟩, b, off, cap0, by rw [hlen], fun _ => rfl, by rw [hlen]; exact hl, hm2, fun _ => ?_, fun i hi => ?_, fun i hi => ?_⟩
      · exact hlt (.cell b off) (MemPlace.mem_row.2 ⟨0, by omega, by simp⟩)
      · rw [hlen] at hi
        rw [take_getD8 zs hi]; exact hc i (by omega)
      · rw [hlen] at hi
        rw [take_getD8 zs hi]
        have hi2 : i < zs.length := by omega
        rw [List.getD_eq_getElem?_getD, List.getElem?_eq_getElem hi2]
        exact wf_i8_bounds (hwz _ (List.getElem_mem hi2))
end Go.Proofs.Ytcalonhphknbbaa
