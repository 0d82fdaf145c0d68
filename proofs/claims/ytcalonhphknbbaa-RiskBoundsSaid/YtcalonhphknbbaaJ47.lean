/- The law of the bounds: sums of weights. -/
import Derived.Test.YtcalonhphknbbaaJ46
import Derived.Test.YtcalonhphknbbaaJ41
import Derived.Test.YtcalonhphknbbaaJ42
set_option linter.unusedSimpArgs false
set_option linter.unusedVariables false
namespace Go.Proofs.Ytcalonhphknbbaa
open Go.RowKit

def isNone (x : Int) : Bool := x == 0
def bsum (N : Nat) : Nat → Nat
  | 0 => 0
  | k + 1 => bsum N k + bin N k
theorem bsum_pas (N : Nat) : ∀ m, bsum (N + 1) (m + 1) = bsum N m + bsum N (m + 1)
  | 0 => by simp [bsum, bin_zero]
  | m + 1 => by
    have h := bsum_pas N m
    have e : bsum (N + 1) (m + 1 + 1) = bsum (N + 1) (m + 1) + bin (N + 1) (m + 1) := rfl
    have e2 : bin (N + 1) (m + 1) = bin N m + bin N (m + 1) := rfl
    have e3 : bsum N (m + 1 + 1) = bsum N (m + 1) + bin N (m + 1) := rfl
    have e4 : bsum N (m + 1) = bsum N m + bin N m := rfl
    omega
theorem bsum_all : ∀ N, bsum N (N + 1) = 2 ^ N
  | 0 => by simp [bsum, bin_zero]
  | N + 1 => by
    have h := bsum_all N
    rw [bsum_pas]
    have e3 : bsum N (N + 1 + 1) = bsum N (N + 1) + bin N (N + 1) := rfl
    rw [e3, bin_gt N (N + 1) (Nat.lt_succ_self _), h, Nat.pow_succ]
    omega
theorem wsum_mono {p q : Int → Bool} {l l' : List Int} {n : Nat} : ∀ m, (∀ j, j < m → p (l.getD j 0) = true → q (l'.getD j 0) = true) → wsum p l n m ≤ wsum q l' n m
  | 0, _ => Nat.le_refl _
  | m + 1, h => by
    have ih := wsum_mono (n := n) m fun j hj => h j (by omega)
    have e1 : wsum p l n (m + 1) = wsum p l n m + (if p (l.getD m 0) then bin (2 * n) m else 0) := rfl
    have e2 : wsum q l' n (m + 1) = wsum q l' n m + (if q (l'.getD m 0) then bin (2 * n) m else 0) := rfl
    rw [e1, e2]
    by_cases hp : p (l.getD m 0) = true
    · rw [if_pos hp, if_pos (h m (Nat.lt_succ_self _) hp)]; omega
    · rw [if_neg hp]; omega
theorem wsum_part (l : List Int) (n : Nat) : ∀ m, wsum isAny l n m + wsum isNone l n m = bsum (2 * n) m
  | 0 => rfl
  | m + 1 => by
    have ih := wsum_part l n m
    have e1 : wsum isAny l n (m + 1) = wsum isAny l n m + (if isAny (l.getD m 0) then bin (2 * n) m else 0) := rfl
    have e2 : wsum isNone l n (m + 1) = wsum isNone l n m + (if isNone (l.getD m 0) then bin (2 * n) m else 0) := rfl
    have e3 : bsum (2 * n) (m + 1) = bsum (2 * n) m + bin (2 * n) m := rfl
    rw [e1, e2, e3]
    by_cases hp : l.getD m 0 = 0
    · have a1 : isAny (l.getD m 0) = false := by rw [hp]; rfl
      have a2 : isNone (l.getD m 0) = true := by rw [hp]; rfl
      rw [a1, a2, if_neg (by decide), if_pos rfl]; omega
    · have a1 : isAny (l.getD m 0) = true := by unfold isAny; exact bne_iff_ne.2 hp
      have a2 : isNone (l.getD m 0) = false := by unfold isNone; exact beq_eq_false_iff_ne.2 hp
      rw [a1, a2, if_pos rfl, if_neg (by decide)]; omega
theorem wsum_total (l : List Int) (n : Nat) : wsum isAny l n (2 * n + 1) + wsum isNone l n (2 * n + 1) = 4 ^ n := by
  rw [wsum_part, bsum_all, Nat.pow_mul]
theorem wsum_sure_any (l : List Int) (n m : Nat) : wsum isSure l n m ≤ wsum isAny l n m := wsum_mono m fun j _ h => by
  simp only [isSure, isAny, beq_iff_eq, bne_iff_ne, ne_eq] at h ⊢
  omega
theorem rn_self {D : Nat} (h : 0 < D) : rn D D = 1 ∧ rd D D = 1 := by
  unfold rn rd; rw [Nat.gcd_self, Nat.div_self h]; exact ⟨rfl, rfl⟩
theorem rn_cmp {S T D : Nat} (hD : 0 < D) (h : S ≤ T) : rn S D * rd T D ≤ rn T D * rd S D := by
  have a1 := rn_mul S D
  have a2 := rd_mul S D
  have b1 := rn_mul T D
  have b2 := rd_mul T D
  have g1 : 0 < Nat.gcd S D := Nat.gcd_pos_of_pos_right S hD
  have g2 : 0 < Nat.gcd T D := Nat.gcd_pos_of_pos_right T hD
  refine Nat.le_of_mul_le_mul_right (c := Nat.gcd S D * Nat.gcd T D) ?_ (Nat.mul_pos g1 g2)
  have e1 : rn S D * rd T D * (Nat.gcd S D * Nat.gcd T D) = S * D := by
    calc rn S D * rd T D * (Nat.gcd S D * Nat.gcd T D) = (rn S D * Nat.gcd S D) * (rd T D * Nat.gcd T D) := by ac_rfl
      _ = S * D := by rw [a1, b2]
  have e2 : rn T D * rd S D * (Nat.gcd S D * Nat.gcd T D) = T * D := by
    calc rn T D * rd S D * (Nat.gcd S D * Nat.gcd T D) = (rn T D * Nat.gcd T D) * (rd S D * Nat.gcd S D) := by ac_rfl
      _ = T * D := by rw [b1, a2]
  rw [e1, e2]
  exact Nat.mul_le_mul_right D h
theorem r_atMostD (va vb : Value) (S T D : Nat) (w : World) (hf : Fq w va (rn S D) (rd S D)) (hg : Fq w vb (rn T D) (rd T D)) (hST : S ≤ T) (hT : T ≤ 70368744177664) (hD0 : 0 < D) (hD : D ≤ 70368744177664) :
    Calls Try.prog 16 #[va, vb] w fun e w' => e = .returned (.bool true) ∧ Ext w w' := by
  have a1 := Nat.le_trans (rn_le S D) (Nat.le_trans hST hT)
  have a2 := Nat.le_trans (rd_le S D) hD
  have a3 := Nat.le_trans (rn_le T D) hT
  have a4 := Nat.le_trans (rd_le T D) hD
  have m1 := mul_small a1 a4
  have m2 := mul_small a3 a2
  exact r_atMost va vb (rn S D) (rd S D) (rn T D) (rd T D) w hf hg (small_of (by omega)) (small_of (by omega)) (small_of (by omega)) (small_of (by omega)) (small_of (by omega)) (small_of (by omega)) (rd_pos hD0) (rd_pos hD0) (rn_cop hD0) (rn_cop hD0) (rn_cmp hD0 hST)
theorem r_fCheckD (va : Value) (S D : Nat) (w : World) (hf : Fq w va (rn S D) (rd S D)) (hS : S ≤ 70368744177664) (hD0 : 0 < D) (hD : D ≤ 70368744177664) :
    Calls Try.prog 15 #[va] w fun e w' => e = .returned (.int .i64 0) ∧ Ext w w' := by
  have a1 := Nat.le_trans (rn_le S D) hS
  have a2 := Nat.le_trans (rd_le S D) hD
  exact r_fCheck va (rn S D) (rd S D) w hf (small_of (by omega)) (small_of (by omega)) (rd_pos hD0) (rn_cop hD0)
theorem Wo.wr {w : World} {B n : Nat} {es : List (Value × Value)} (h : Wo w B (2 * n + 1) n (2 * n + 1) es) : WR w B n := ⟨h.2.2.2.1, fun i hi => h.at hi⟩
theorem info47 : (Try.prog.info? 47).map (fun i => (i.zero, i.size, i.bytes)) = some (some (.int .i8 0), 1, 1) := by kernel_rfl
theorem set_getD (l : List Int) {m j : Nat} {x : Int} (h : m < l.length) : (l.set m x).getD j 0 = if j = m then x else l.getD j 0 := by
  rw [List.getD_eq_getElem?_getD, List.getElem?_set]
  by_cases e : m = j
  · subst e; simp [h]
  · rw [if_neg e, if_neg (fun h => e h.symm), List.getD_eq_getElem?_getD]
theorem ok_set {l : List Int} {m : Nat} {x : Int} (hok : okL l = true) (hm : m < l.length) (hx : 0 ≤ x ∧ x ≤ 3) : okL (l.set m x) = true := by
  obtain ⟨h1, h2, h3⟩ := (ok_iff l).1 hok
  refine (ok_iff _).2 ⟨by rw [List.length_set]; exact h1, by rw [List.length_set]; exact h2, fun i hi => ?_⟩
  rw [List.length_set] at hi
  rw [set_getD l hm]
  by_cases e : i = m
  · rw [if_pos e]; exact hx
  · rw [if_neg e]; exact h3 i hi
/-- A slice of outcomes that the call has made. -/
theorem Oc.own {W : World} {base g cap : Nat} {l : List Int} (h : W.ownsRow base 47 1 (.slice (some ⟨g, 0, none⟩) l.length cap) l.length (l.map (Value.int .i8))) (hl : ∀ i, i < l.length → -128 ≤ l.getD i 0 ∧ l.getD i 0 ≤ 127) : Oc W (.slice (some ⟨g, 0, none⟩) l.length cap) l := by
  have hlt := h.lt g rfl
  have hk : l.length ≤ cap ∧ cap ≤ 9223372036854775807 := by
    rcases h.2 with ⟨e, _⟩ | ⟨g', cap', cur, e, _, _, hn, hm, _⟩
    · cases e
    · simp only [Value.slice.injEq] at e
      obtain ⟨_, _, rfl⟩ := e
      exact ⟨hn, by unfold maxLen at hm; omega⟩
  refine ⟨_, g, 0, cap, rfl, fun _ => rfl, hk.1, hk.2, fun _ => hlt.2, fun i hi => ?_, hl⟩
  rw [Nat.zero_add, World.ownsRow.cellAt h i (by omega), List.getElem?_map, List.getElem?_eq_getElem hi, List.getD_eq_getElem?_getD, List.getElem?_eq_getElem hi]
  rfl
end Go.Proofs.Ytcalonhphknbbaa
