/- Limbs divided by a power of 2: any number of bits. -/
import Derived.Test.YtbkgakgdbmjmjaaGreatJ11
set_option linter.unusedSimpArgs false
set_option linter.unusedVariables false
namespace Go.Proofs.YtbkgakgdbmjmjaaGreat
open Go.RowKit Go.Shelf
attribute [local go_sem] Oper.semAt_some
def SR2 (X : List Int) (sh k : Nat) (s p : Nat) (pre : List (DN X.length)) (W : World) : Prop :=
 W.cell? ⟨s, 0, none⟩ = some (.int .i64 k) ∧ W.cell? ⟨p, 0, none⟩ = some (.slice (some ⟨s + 1, 0, none⟩) X.length X.length) ∧ W.cell? ⟨p + 1, 0, none⟩ = some (.int .u64 (stA X (2 ^ sh) pre).2) ∧ W.frozen? ⟨p + 1, 0, none⟩ = false ∧ R32 W s (s + 1) X.length (stA X (2 ^ sh) pre).1
theorem Lim.len {w : World} {a : Addr} {n cap : Nat} {xs : List Int} (h : Lim w (.slice (some a) n cap) xs) : xs.length = n := by
 rcases h.2 with ⟨e, _⟩ | ⟨b, o, c, e, _⟩
 ·cases e
 ·cases e; rfl
theorem Lim.drop {w : World} {xs : List Int} {b o cap : Nat} (h : Lim w (.slice (some ⟨b, o, none⟩) xs.length cap) xs) (c : Nat) (hc : c ≤ xs.length) : Lim w (.slice (some ⟨b, o + c, none⟩) (xs.drop c).length (cap - c)) (xs.drop c) := by
 refine ⟨fun y hy => h.1 y (List.mem_of_mem_drop hy), ?_⟩
 rcases h.2 with ⟨e, _⟩ | ⟨b', o', cap', hv, h1, h2, h3, h4⟩
 ·cases e
 ·cases hv
  refine Or.inr ⟨b, o + c, cap - c, rfl, by rw [List.length_drop]; omega, ⟨by omega, by rw [List.length_drop]; omega⟩, h3, fun i hi => ?_⟩
  rw [List.length_drop] at hi
  rw [List.getD_eq_getElem?_getD, List.getElem?_drop, ← List.getD_eq_getElem?_getD, Nat.add_assoc]
  exact h4 (c + i) (by omega)
end Go.Proofs.YtbkgakgdbmjmjaaGreat
