/- What a region keeps, with any set of cells that it may write. -/
import Derived.Test.YtomgcjeahkmhiaaPtr
set_option linter.unusedSimpArgs false
set_option linter.unusedVariables false
namespace Go.Proofs.Ytomgcjeahkmhiaa
open Go.RowKit

theorem hew0 {w W : World} {P k : Nat} {wr : Nat → Nat → Prop} {dw : ∀ b o, Decidable (wr b o)} (hw : ExtP w P k W) :
    (∀ b o, b < W.heap.size → (W.drew).cell? ⟨b, o, none⟩ = if wr b o then (W.cell? ⟨b, o, none⟩).map (obx (W.drew) b o) else W.cell? ⟨b, o, none⟩) ∧ (∀ b o, b < W.heap.size → (W.drew).frozen? ⟨b, o, none⟩ = W.frozen? ⟨b, o, none⟩) ∧ W.heap.size ≤ (W.drew).heap.size ∧ ExtP w P k (W.drew) := by
  refine ⟨fun b o _ => ?_, fun _ _ _ => rfl, Nat.le_refl _, hw.ext ((Ext.refl _).drew)⟩
  show W.cell? ⟨b, o, none⟩ = _
  split
  · cases h : W.cell? ⟨b, o, none⟩ with
    | none => rfl
    | some x => simp [obx, show W.drew.cell? ⟨b, o, none⟩ = W.cell? ⟨b, o, none⟩ from rfl, h]
  · rfl
theorem hew1 {w W w' w1 : World} {P k : Nat} {wr : Nat → Nat → Prop} {dw : ∀ b o, Decidable (wr b o)} (h : (∀ b o, b < W.heap.size → (w').cell? ⟨b, o, none⟩ = if wr b o then (W.cell? ⟨b, o, none⟩).map (obx (w') b o) else W.cell? ⟨b, o, none⟩) ∧ (∀ b o, b < W.heap.size → (w').frozen? ⟨b, o, none⟩ = W.frozen? ⟨b, o, none⟩) ∧ W.heap.size ≤ (w').heap.size ∧ ExtP w P k (w'))
    (hb : Ext w' w1) : (∀ b o, b < W.heap.size → (w1).cell? ⟨b, o, none⟩ = if wr b o then (W.cell? ⟨b, o, none⟩).map (obx (w1) b o) else W.cell? ⟨b, o, none⟩) ∧ (∀ b o, b < W.heap.size → (w1).frozen? ⟨b, o, none⟩ = W.frozen? ⟨b, o, none⟩) ∧ W.heap.size ≤ (w1).heap.size ∧ ExtP w P k (w1) := by
  obtain ⟨h1, h2, h3, h4⟩ := h
  refine ⟨fun b o hc => ?_, fun b o hc => ?_, Nat.le_trans h3 hb.size, h4.ext hb⟩
  · have e : w1.cell? ⟨b, o, none⟩ = w'.cell? ⟨b, o, none⟩ := Below.cell hb (p := ⟨b, o, none⟩) (Nat.lt_of_lt_of_le hc h3)
    rw [e, h1 b o hc]
    split
    · congr 1
      funext x
      simp only [obx, e]
    · rfl
  · rw [Below.frozen hb (p := ⟨b, o, none⟩) (Nat.lt_of_lt_of_le hc h3), h2 b o hc]
theorem hew2a {W w' : World} {wr : Nat → Nat → Prop} {dw : ∀ b o, Decidable (wr b o)} {p : Addr} {v : Value}
    (h : (∀ b o, b < W.heap.size → (w').cell? ⟨b, o, none⟩ = if wr b o then (W.cell? ⟨b, o, none⟩).map (obx (w') b o) else W.cell? ⟨b, o, none⟩) ∧ (∀ b o, b < W.heap.size → (w').frozen? ⟨b, o, none⟩ = W.frozen? ⟨b, o, none⟩) ∧ W.heap.size ≤ (w').heap.size)
    (hp : wr p.block p.off ∨ W.heap.size ≤ p.block) :
    (∀ b o, b < W.heap.size → (w'.setCell p v).cell? ⟨b, o, none⟩ = if wr b o then (W.cell? ⟨b, o, none⟩).map (obx (w'.setCell p v) b o) else W.cell? ⟨b, o, none⟩) ∧ (∀ b o, b < W.heap.size → (w'.setCell p v).frozen? ⟨b, o, none⟩ = W.frozen? ⟨b, o, none⟩) ∧ W.heap.size ≤ (w'.setCell p v).heap.size := by
  obtain ⟨h1, h2, h3⟩ := h
  refine ⟨fun b o hc => ?_, fun b o hc => ?_, by simpa using h3⟩
  · have h1' := h1 b o hc
    by_cases he : (⟨b, o, none⟩ : Addr) = p
    · have hr : wr b o := by
        rcases hp with hp | hp
        · rw [← he] at hp; exact hp
        · rw [← he] at hp; exact absurd hc (Nat.not_lt.2 hp)
      rw [if_pos hr] at h1' ⊢
      cases hx : W.cell? ⟨b, o, none⟩ with
      | none =>
        rw [hx] at h1'
        simp only [Option.map_none] at h1' ⊢
        rw [cell_sc, if_pos he, ← he, h1']; rfl
      | some x =>
        rw [hx] at h1'
        simp only [Option.map_some] at h1' ⊢
        have hs : (w'.setCell p v).cell? ⟨b, o, none⟩ = some v := by
          rw [cell_sc, if_pos he, ← he, h1']; rfl
        simp only [obx, hs, Option.getD_some]
    · have e : (w'.setCell p v).cell? ⟨b, o, none⟩ = w'.cell? ⟨b, o, none⟩ := by rw [cell_sc, if_neg he]
      rw [e, h1']
      split
      · congr 1
        funext x
        simp only [obx, e]
      · rfl
  · rw [World.frozen?_setCell, h2 b o hc]
theorem hew2 {w W w' : World} {P k : Nat} {wr : Nat → Nat → Prop} {dw : ∀ b o, Decidable (wr b o)} {p : Addr} {v : Value}
    (h : (∀ b o, b < W.heap.size → (w').cell? ⟨b, o, none⟩ = if wr b o then (W.cell? ⟨b, o, none⟩).map (obx (w') b o) else W.cell? ⟨b, o, none⟩) ∧ (∀ b o, b < W.heap.size → (w').frozen? ⟨b, o, none⟩ = W.frozen? ⟨b, o, none⟩) ∧ W.heap.size ≤ (w').heap.size ∧ ExtP w P k (w'))
    (hp : wr p.block p.off ∨ W.heap.size ≤ p.block) (hw : w.heap.size ≤ p.block) :
    (∀ b o, b < W.heap.size → (w'.setCell p v).cell? ⟨b, o, none⟩ = if wr b o then (W.cell? ⟨b, o, none⟩).map (obx (w'.setCell p v) b o) else W.cell? ⟨b, o, none⟩) ∧ (∀ b o, b < W.heap.size → (w'.setCell p v).frozen? ⟨b, o, none⟩ = W.frozen? ⟨b, o, none⟩) ∧ W.heap.size ≤ (w'.setCell p v).heap.size ∧ ExtP w P k (w'.setCell p v) := by
  obtain ⟨h1, h2, h3, h4⟩ := h
  have g := hew2a (v := v) ⟨h1, h2, h3⟩ hp
  exact ⟨g.1, g.2.1, g.2.2, h4.store hw⟩
theorem hew2p {w W w' : World} {P k : Nat} {wr : Nat → Nat → Prop} {dw : ∀ b o, Decidable (wr b o)} {v : Value}
    (h : (∀ b o, b < W.heap.size → (w').cell? ⟨b, o, none⟩ = if wr b o then (W.cell? ⟨b, o, none⟩).map (obx (w') b o) else W.cell? ⟨b, o, none⟩) ∧ (∀ b o, b < W.heap.size → (w').frozen? ⟨b, o, none⟩ = W.frozen? ⟨b, o, none⟩) ∧ W.heap.size ≤ (w').heap.size ∧ ExtP w P k (w')) (hpk : wr P k) :
    (∀ b o, b < W.heap.size → (w'.setCell ⟨P, k, none⟩ v).cell? ⟨b, o, none⟩ = if wr b o then (W.cell? ⟨b, o, none⟩).map (obx (w'.setCell ⟨P, k, none⟩ v) b o) else W.cell? ⟨b, o, none⟩) ∧ (∀ b o, b < W.heap.size → (w'.setCell ⟨P, k, none⟩ v).frozen? ⟨b, o, none⟩ = W.frozen? ⟨b, o, none⟩) ∧ W.heap.size ≤ (w'.setCell ⟨P, k, none⟩ v).heap.size ∧ ExtP w P k (w'.setCell ⟨P, k, none⟩ v) := by
  obtain ⟨h1, h2, h3, h4⟩ := h
  have g := hew2a (p := ⟨P, k, none⟩) (v := v) ⟨h1, h2, h3⟩ (Or.inl hpk)
  exact ⟨g.1, g.2.1, g.2.2, h4.set⟩
theorem hew1p {w W w' w1 : World} {P k : Nat} {wr : Nat → Nat → Prop} {dw : ∀ b o, Decidable (wr b o)} {v : Value} (h : (∀ b o, b < W.heap.size → (w').cell? ⟨b, o, none⟩ = if wr b o then (W.cell? ⟨b, o, none⟩).map (obx (w') b o) else W.cell? ⟨b, o, none⟩) ∧ (∀ b o, b < W.heap.size → (w').frozen? ⟨b, o, none⟩ = W.frozen? ⟨b, o, none⟩) ∧ W.heap.size ≤ (w').heap.size ∧ ExtP w P k (w'))
    (hpk : wr P k) (hb : Ext (w'.setCell ⟨P, k, none⟩ v) w1) : (∀ b o, b < W.heap.size → (w1).cell? ⟨b, o, none⟩ = if wr b o then (W.cell? ⟨b, o, none⟩).map (obx (w1) b o) else W.cell? ⟨b, o, none⟩) ∧ (∀ b o, b < W.heap.size → (w1).frozen? ⟨b, o, none⟩ = W.frozen? ⟨b, o, none⟩) ∧ W.heap.size ≤ (w1).heap.size ∧ ExtP w P k (w1) := hew1 (hew2p h hpk) hb
theorem hew3 {w W w' : World} {P k : Nat} {wr : Nat → Nat → Prop} {dw : ∀ b o, Decidable (wr b o)} {ob : Obj} (h : (∀ b o, b < W.heap.size → (w').cell? ⟨b, o, none⟩ = if wr b o then (W.cell? ⟨b, o, none⟩).map (obx (w') b o) else W.cell? ⟨b, o, none⟩) ∧ (∀ b o, b < W.heap.size → (w').frozen? ⟨b, o, none⟩ = W.frozen? ⟨b, o, none⟩) ∧ W.heap.size ≤ (w').heap.size ∧ ExtP w P k (w')) :
    (∀ b o, b < W.heap.size → (w'.alloc ob).cell? ⟨b, o, none⟩ = if wr b o then (W.cell? ⟨b, o, none⟩).map (obx (w'.alloc ob) b o) else W.cell? ⟨b, o, none⟩) ∧ (∀ b o, b < W.heap.size → (w'.alloc ob).frozen? ⟨b, o, none⟩ = W.frozen? ⟨b, o, none⟩) ∧ W.heap.size ≤ (w'.alloc ob).heap.size ∧ ExtP w P k (w'.alloc ob) := hew1 h ((Ext.refl _).alloc _)
theorem hew3d {w W w' : World} {P k : Nat} {wr : Nat → Nat → Prop} {dw : ∀ b o, Decidable (wr b o)} {ob : Obj} (h : (∀ b o, b < W.heap.size → (w'.drew).cell? ⟨b, o, none⟩ = if wr b o then (W.cell? ⟨b, o, none⟩).map (obx (w'.drew) b o) else W.cell? ⟨b, o, none⟩) ∧ (∀ b o, b < W.heap.size → (w'.drew).frozen? ⟨b, o, none⟩ = W.frozen? ⟨b, o, none⟩) ∧ W.heap.size ≤ (w'.drew).heap.size ∧ ExtP w P k (w'.drew)) :
    (∀ b o, b < W.heap.size → ((w'.alloc ob).drew).cell? ⟨b, o, none⟩ = if wr b o then (W.cell? ⟨b, o, none⟩).map (obx ((w'.alloc ob).drew) b o) else W.cell? ⟨b, o, none⟩) ∧ (∀ b o, b < W.heap.size → ((w'.alloc ob).drew).frozen? ⟨b, o, none⟩ = W.frozen? ⟨b, o, none⟩) ∧ W.heap.size ≤ ((w'.alloc ob).drew).heap.size ∧ ExtP w P k ((w'.alloc ob).drew) := hew3 (w' := w'.drew) h
theorem hewBack {W w' : World} {wr : Nat → Nat → Prop} {dw : ∀ b o, Decidable (wr b o)} {p : Addr} {v : Value}
    (h : (∀ b o, b < W.heap.size → (w'.setCell p v).cell? ⟨b, o, none⟩ = if wr b o then (W.cell? ⟨b, o, none⟩).map (obx (w'.setCell p v) b o) else W.cell? ⟨b, o, none⟩) ∧ (∀ b o, b < W.heap.size → (w'.setCell p v).frozen? ⟨b, o, none⟩ = W.frozen? ⟨b, o, none⟩) ∧ W.heap.size ≤ (w'.setCell p v).heap.size)
    (hp : wr p.block p.off ∨ W.heap.size ≤ p.block) :
    (∀ b o, b < W.heap.size → (w').cell? ⟨b, o, none⟩ = if wr b o then (W.cell? ⟨b, o, none⟩).map (obx (w') b o) else W.cell? ⟨b, o, none⟩) ∧ (∀ b o, b < W.heap.size → (w').frozen? ⟨b, o, none⟩ = W.frozen? ⟨b, o, none⟩) ∧ W.heap.size ≤ (w').heap.size := by
  obtain ⟨h1, h2, h3⟩ := h
  refine ⟨fun b o hc => ?_, fun b o hc => ?_, by simpa using h3⟩
  · have h1' := h1 b o hc
    rw [cell_sc] at h1'
    split at h1'
    · rename_i he
      have hr : wr b o := by
        rcases hp with hp | hp
        · rw [← he] at hp; exact hp
        · rw [← he] at hp; exact absurd hc (Nat.not_lt.2 hp)
      rw [if_pos hr] at h1' ⊢
      rw [← he] at h1'
      cases hx : W.cell? ⟨b, o, none⟩ with
      | none => rw [hx] at h1'; simpa using h1'
      | some x =>
        rw [hx] at h1'
        cases hy : w'.cell? ⟨b, o, none⟩ with
        | none => rw [hy] at h1'; simp at h1'
        | some y => simp [obx, hy]
    · rename_i he
      have e : (w'.setCell p v).cell? ⟨b, o, none⟩ = w'.cell? ⟨b, o, none⟩ := by rw [cell_sc, if_neg he]
      rw [h1']
      split
      · congr 1
        funext x
        simp only [obx, e]
      · rfl
  · have h2' := h2 b o hc
    rw [World.frozen?_setCell] at h2'
    exact h2'
theorem hewBackA {W w' : World} {wr : Nat → Nat → Prop} {dw : ∀ b o, Decidable (wr b o)} {ob : Obj}
    (h : (∀ b o, b < W.heap.size → (w'.alloc ob).cell? ⟨b, o, none⟩ = if wr b o then (W.cell? ⟨b, o, none⟩).map (obx (w'.alloc ob) b o) else W.cell? ⟨b, o, none⟩) ∧ (∀ b o, b < W.heap.size → (w'.alloc ob).frozen? ⟨b, o, none⟩ = W.frozen? ⟨b, o, none⟩) ∧ W.heap.size ≤ (w'.alloc ob).heap.size)
    (hz : W.heap.size ≤ w'.heap.size) :
    (∀ b o, b < W.heap.size → (w').cell? ⟨b, o, none⟩ = if wr b o then (W.cell? ⟨b, o, none⟩).map (obx (w') b o) else W.cell? ⟨b, o, none⟩) ∧ (∀ b o, b < W.heap.size → (w').frozen? ⟨b, o, none⟩ = W.frozen? ⟨b, o, none⟩) ∧ W.heap.size ≤ (w').heap.size := by
  obtain ⟨h1, h2, h3⟩ := h
  refine ⟨fun b o hc => ?_, fun b o hc => ?_, hz⟩
  · have e : (w'.alloc ob).cell? ⟨b, o, none⟩ = w'.cell? ⟨b, o, none⟩ := Below.cell ((Ext.refl w').alloc ob) (p := ⟨b, o, none⟩) (Nat.lt_of_lt_of_le hc hz)
    rw [← e, h1 b o hc]
    split
    · congr 1
      funext x
      simp only [obx, e]
    · rfl
  · have e : (w'.alloc ob).frozen? ⟨b, o, none⟩ = w'.frozen? ⟨b, o, none⟩ := Below.frozen ((Ext.refl w').alloc ob) (p := ⟨b, o, none⟩) (Nat.lt_of_lt_of_le hc hz)
    rw [← e, h2 b o hc]
theorem hew4 {w W w' : World} {P k : Nat} {wr : Nat → Nat → Prop} {dw : ∀ b o, Decidable (wr b o)} {ob ob' : Obj} (h : (∀ b o, b < W.heap.size → (w'.alloc ob).cell? ⟨b, o, none⟩ = if wr b o then (W.cell? ⟨b, o, none⟩).map (obx (w'.alloc ob) b o) else W.cell? ⟨b, o, none⟩) ∧ (∀ b o, b < W.heap.size → (w'.alloc ob).frozen? ⟨b, o, none⟩ = W.frozen? ⟨b, o, none⟩) ∧ W.heap.size ≤ (w'.alloc ob).heap.size ∧ ExtP w P k (w'.alloc ob)) (hz : W.heap.size ≤ w'.heap.size) (hz2 : w.heap.size ≤ w'.heap.size) :
    (∀ b o, b < W.heap.size → (w'.alloc ob').cell? ⟨b, o, none⟩ = if wr b o then (W.cell? ⟨b, o, none⟩).map (obx (w'.alloc ob') b o) else W.cell? ⟨b, o, none⟩) ∧ (∀ b o, b < W.heap.size → (w'.alloc ob').frozen? ⟨b, o, none⟩ = W.frozen? ⟨b, o, none⟩) ∧ W.heap.size ≤ (w'.alloc ob').heap.size ∧ ExtP w P k (w'.alloc ob') := by
  have h3 := hewBackA ⟨h.1, h.2.1, h.2.2.1⟩ hz
  obtain ⟨v, hE⟩ := h.2.2.2
  have hE' : Ext (w.setCell ⟨P, k, none⟩ v) w' := ⟨hE.os, hE.tape, hE.output, by simpa using hz2, fun j hj => by
    have hj' : j < w'.heap.size := Nat.lt_of_lt_of_le (by simpa using hj) hz2
    rw [← hE.block j hj]; exact (Below.heap_alloc w' ob j hj').symm⟩
  exact hew3 ⟨h3.1, h3.2.1, h3.2.2, ⟨v, hE'⟩⟩
theorem hewEnd {W w' : World} {wr : Nat → Nat → Prop} {dw : ∀ b o, Decidable (wr b o)}
    (h : (∀ b o, b < W.heap.size → (w').cell? ⟨b, o, none⟩ = if wr b o then (W.cell? ⟨b, o, none⟩).map (obx (w') b o) else W.cell? ⟨b, o, none⟩) ∧ (∀ b o, b < W.heap.size → (w').frozen? ⟨b, o, none⟩ = W.frozen? ⟨b, o, none⟩) ∧ W.heap.size ≤ (w').heap.size) :
    (∀ b o, w'.cell? ⟨b, o, none⟩ = if b < W.heap.size then (if wr b o then (W.cell? ⟨b, o, none⟩).map (obx w' b o) else W.cell? ⟨b, o, none⟩) else oc w' b o) ∧ (∀ b o, w'.frozen? ⟨b, o, none⟩ = if b < W.heap.size then W.frozen? ⟨b, o, none⟩ else ofz w' b o) ∧ W.heap.size ≤ w'.heap.size :=
  ⟨fun b o => by
    split
    · exact h.1 b o ‹_›
    · rfl, fun b o => by
    split
    · exact h.2.1 b o ‹_›
    · rfl, h.2.2⟩

theorem hew2d {w W w' : World} {P k : Nat} {wr : Nat → Nat → Prop} {dw : ∀ b o, Decidable (wr b o)} {p : Addr} {v : Value}
    (h : (∀ b o, b < W.heap.size → (w'.drew).cell? ⟨b, o, none⟩ = if wr b o then (W.cell? ⟨b, o, none⟩).map (obx (w'.drew) b o) else W.cell? ⟨b, o, none⟩) ∧ (∀ b o, b < W.heap.size → (w'.drew).frozen? ⟨b, o, none⟩ = W.frozen? ⟨b, o, none⟩) ∧ W.heap.size ≤ (w'.drew).heap.size ∧ ExtP w P k (w'.drew)) (hp : wr p.block p.off ∨ W.heap.size ≤ p.block) (hw : w.heap.size ≤ p.block) :
    (∀ b o, b < W.heap.size → ((w'.setCell p v).drew).cell? ⟨b, o, none⟩ = if wr b o then (W.cell? ⟨b, o, none⟩).map (obx ((w'.setCell p v).drew) b o) else W.cell? ⟨b, o, none⟩) ∧ (∀ b o, b < W.heap.size → ((w'.setCell p v).drew).frozen? ⟨b, o, none⟩ = W.frozen? ⟨b, o, none⟩) ∧ W.heap.size ≤ ((w'.setCell p v).drew).heap.size ∧ ExtP w P k ((w'.setCell p v).drew) := hew2 (w' := w'.drew) h hp hw
theorem hewBackd {W w' : World} {wr : Nat → Nat → Prop} {dw : ∀ b o, Decidable (wr b o)} {p : Addr} {v : Value}
    (h : (∀ b o, b < W.heap.size → ((w'.setCell p v).drew).cell? ⟨b, o, none⟩ = if wr b o then (W.cell? ⟨b, o, none⟩).map (obx ((w'.setCell p v).drew) b o) else W.cell? ⟨b, o, none⟩) ∧ (∀ b o, b < W.heap.size → ((w'.setCell p v).drew).frozen? ⟨b, o, none⟩ = W.frozen? ⟨b, o, none⟩) ∧ W.heap.size ≤ ((w'.setCell p v).drew).heap.size) (hp : wr p.block p.off ∨ W.heap.size ≤ p.block) : (∀ b o, b < W.heap.size → (w'.drew).cell? ⟨b, o, none⟩ = if wr b o then (W.cell? ⟨b, o, none⟩).map (obx (w'.drew) b o) else W.cell? ⟨b, o, none⟩) ∧ (∀ b o, b < W.heap.size → (w'.drew).frozen? ⟨b, o, none⟩ = W.frozen? ⟨b, o, none⟩) ∧ W.heap.size ≤ (w'.drew).heap.size := hewBack (w' := w'.drew) h hp
theorem hewNm {W w' : World} {wr : Nat → Nat → Prop} {dw : ∀ b o, Decidable (wr b o)}
    (_h : (∀ b o, b < W.heap.size → w'.cell? ⟨b, o, none⟩ = if wr b o then (W.cell? ⟨b, o, none⟩).map (obx w' b o) else W.cell? ⟨b, o, none⟩) ∧ (∀ b o, b < W.heap.size → w'.frozen? ⟨b, o, none⟩ = W.frozen? ⟨b, o, none⟩) ∧ W.heap.size ≤ w'.heap.size) : ∃ X, w' = X := ⟨_, rfl⟩
/-- A store of what is there. -/
theorem hew2s {w W w' : World} {P k : Nat} {wr : Nat → Nat → Prop} {dw : ∀ b o, Decidable (wr b o)} {c q : Nat} {v : Value} (h : (∀ b o, b < W.heap.size → (w').cell? ⟨b, o, none⟩ = if wr b o then (W.cell? ⟨b, o, none⟩).map (obx (w') b o) else W.cell? ⟨b, o, none⟩) ∧ (∀ b o, b < W.heap.size → (w').frozen? ⟨b, o, none⟩ = W.frozen? ⟨b, o, none⟩) ∧ W.heap.size ≤ (w').heap.size ∧ ExtP w P k (w'))
    (hlt : c < W.heap.size) (hn : ¬ wr c q) (hv : W.cell? ⟨c, q, none⟩ = some v) :
    (∀ b o, b < W.heap.size → (w'.setCell ⟨c, q, none⟩ v).cell? ⟨b, o, none⟩ = if wr b o then (W.cell? ⟨b, o, none⟩).map (obx (w'.setCell ⟨c, q, none⟩ v) b o) else W.cell? ⟨b, o, none⟩) ∧ (∀ b o, b < W.heap.size → (w'.setCell ⟨c, q, none⟩ v).frozen? ⟨b, o, none⟩ = W.frozen? ⟨b, o, none⟩) ∧ W.heap.size ≤ (w'.setCell ⟨c, q, none⟩ v).heap.size ∧ ExtP w P k (w'.setCell ⟨c, q, none⟩ v) := by
  have e : w'.cell? ⟨c, q, none⟩ = some v := (h.1 c q hlt).trans ((if_neg hn).trans hv)
  rw [setCell_self w' c q v e]; exact h
end Go.Proofs.Ytomgcjeahkmhiaa
