/- What a region keeps, with any set of cells that it may write. -/
import Derived.Test.YtbkgakgdbmjmjaaGreatJ05
set_option linter.unusedSimpArgs false
set_option linter.unusedVariables false
set_option maxRecDepth 100000
set_option maxHeartbeats 4000000
namespace Go.Proofs.YtbkgakgdbmjmjaaGreat
open Go.RowKit
theorem hew0 {w W : World} {P k : Nat} {wr : Nat → Nat → Prop} {dw : ∀ b o, Decidable (wr b o)} (hw : ExtP w P k W) :
    (∀ b o, b < W.heap.size → (W.drew).cell? ⟨b, o, none⟩ = if wr b o then (W.cell? ⟨b, o, none⟩).map (obx (W.drew) b o) else W.cell? ⟨b, o, none⟩) ∧ (∀ b o, b < W.heap.size → (W.drew).frozen? ⟨b, o, none⟩ = W.frozen? ⟨b, o, none⟩) ∧ W.heap.size ≤ (W.drew).heap.size ∧ ExtP w P k (W.drew) := by
 refine ⟨fun b o _ => ?_, fun _ _ _ => rfl, Nat.le_refl _, hw.ext ((Ext.refl _).drew)⟩
 show W.cell? ⟨b, o, none⟩ = _
 split
 ·cases h : W.cell? ⟨b, o, none⟩ with
  | none => rfl
  | some x => simp [obx, show W.drew.cell? ⟨b, o, none⟩ = W.cell? ⟨b, o, none⟩ from rfl, h]
 ·rfl
theorem hew1 {w W w' w1 : World} {P k : Nat} {wr : Nat → Nat → Prop} {dw : ∀ b o, Decidable (wr b o)} (h : (∀ b o, b < W.heap.size → (w').cell? ⟨b, o, none⟩ = if wr b o then (W.cell? ⟨b, o, none⟩).map (obx (w') b o) else W.cell? ⟨b, o, none⟩) ∧ (∀ b o, b < W.heap.size → (w').frozen? ⟨b, o, none⟩ = W.frozen? ⟨b, o, none⟩) ∧ W.heap.size ≤ (w').heap.size ∧ ExtP w P k (w'))
    (hb : Ext w' w1) : (∀ b o, b < W.heap.size → (w1).cell? ⟨b, o, none⟩ = if wr b o then (W.cell? ⟨b, o, none⟩).map (obx (w1) b o) else W.cell? ⟨b, o, none⟩) ∧ (∀ b o, b < W.heap.size → (w1).frozen? ⟨b, o, none⟩ = W.frozen? ⟨b, o, none⟩) ∧ W.heap.size ≤ (w1).heap.size ∧ ExtP w P k (w1) := by
 obtain ⟨h1, h2, h3, h4⟩ := h
 refine ⟨fun b o hc => ?_, fun b o hc => ?_, Nat.le_trans h3 hb.size, h4.ext hb⟩
 ·have e : w1.cell? ⟨b, o, none⟩ = w'.cell? ⟨b, o, none⟩ := Below.cell hb (p := ⟨b, o, none⟩) (Nat.lt_of_lt_of_le hc h3)
  rw [e, h1 b o hc]
  split
  ·congr 1
   funext x
   simp only [obx, e]
  ·rfl
 ·exact b_0
theorem hew2a {W w' : World} {wr : Nat → Nat → Prop} {dw : ∀ b o, Decidable (wr b o)} {p : Addr} {v : Value}
    (h : (∀ b o, b < W.heap.size → (w').cell? ⟨b, o, none⟩ = if wr b o then (W.cell? ⟨b, o, none⟩).map (obx (w') b o) else W.cell? ⟨b, o, none⟩) ∧ (∀ b o, b < W.heap.size → (w').frozen? ⟨b, o, none⟩ = W.frozen? ⟨b, o, none⟩) ∧ W.heap.size ≤ (w').heap.size)
    (hp : wr p.block p.off ∨ W.heap.size ≤ p.block) :
    (∀ b o, b < W.heap.size → (w'.setCell p v).cell? ⟨b, o, none⟩ = if wr b o then (W.cell? ⟨b, o, none⟩).map (obx (w'.setCell p v) b o) else W.cell? ⟨b, o, none⟩) ∧ (∀ b o, b < W.heap.size → (w'.setCell p v).frozen? ⟨b, o, none⟩ = W.frozen? ⟨b, o, none⟩) ∧ W.heap.size ≤ (w'.setCell p v).heap.size := by
 obtain ⟨h1, h2, h3⟩ := h
 refine ⟨fun b o hc => ?_, fun b o hc => ?_, by simpa using h3⟩
 ·have h1' := h1 b o hc
  by_cases he : (⟨b, o, none⟩ : Addr) = p
  ·have hr : wr b o := by
    rcases hp with hp | hp
    ·rw [← he] at hp; exact hp
    ·exact b_1
   rw [if_pos hr] at h1' ⊢
   cases hx : W.cell? ⟨b, o, none⟩ with
   | none =>
    rw [hx] at h1'
    simp only [Option.map_none] at h1' ⊢
    rw [cell_sc, if_pos he, ← he, h1']; rfl
   | some x =>
    rw [hx] at h1'
    simp only [Option.map_some] at h1' ⊢
    have hs : (w'.setCell p v).cell? ⟨b, o, none⟩ = some v := by
     rw [cell_sc, if_pos he, ← he, h1']; rfl
    simp only [obx, hs, Option.getD_some]
  ·have e : (w'.setCell p v).cell? ⟨b, o, none⟩ = w'.cell? ⟨b, o, none⟩ := by rw [cell_sc, if_neg he]
   rw [e, h1']
   split
   ·congr 1
    funext x
    simp only [obx, e]
   ·rfl
 ·rw [World.frozen?_setCell, h2 b o hc]
theorem hew2 {w W w' : World} {P k : Nat} {wr : Nat → Nat → Prop} {dw : ∀ b o, Decidable (wr b o)} {p : Addr} {v : Value}
    (h : (∀ b o, b < W.heap.size → (w').cell? ⟨b, o, none⟩ = if wr b o then (W.cell? ⟨b, o, none⟩).map (obx (w') b o) else W.cell? ⟨b, o, none⟩) ∧ (∀ b o, b < W.heap.size → (w').frozen? ⟨b, o, none⟩ = W.frozen? ⟨b, o, none⟩) ∧ W.heap.size ≤ (w').heap.size ∧ ExtP w P k (w'))
    (hp : wr p.block p.off ∨ W.heap.size ≤ p.block) (hw : w.heap.size ≤ p.block) :
    (∀ b o, b < W.heap.size → (w'.setCell p v).cell? ⟨b, o, none⟩ = if wr b o then (W.cell? ⟨b, o, none⟩).map (obx (w'.setCell p v) b o) else W.cell? ⟨b, o, none⟩) ∧ (∀ b o, b < W.heap.size → (w'.setCell p v).frozen? ⟨b, o, none⟩ = W.frozen? ⟨b, o, none⟩) ∧ W.heap.size ≤ (w'.setCell p v).heap.size ∧ ExtP w P k (w'.setCell p v) := by
 obtain ⟨h1, h2, h3, h4⟩ := h
 have g := hew2a (v := v) ⟨h1, h2, h3⟩ hp
 exact ⟨g.1, g.2.1, g.2.2, h4.store hw⟩
theorem hew2p {w W w' : World} {P k : Nat} {wr : Nat → Nat → Prop} {dw : ∀ b o, Decidable (wr b o)} {v : Value}
    (h : (∀ b o, b < W.heap.size → (w').cell? ⟨b, o, none⟩ = if wr b o then (W.cell? ⟨b, o, none⟩).map (obx (w') b o) else W.cell? ⟨b, o, none⟩) ∧ (∀ b o, b < W.heap.size → (w').frozen? ⟨b, o, none⟩ = W.frozen? ⟨b, o, none⟩) ∧ W.heap.size ≤ (w').heap.size ∧ ExtP w P k (w')) (hpk : wr P k) :
    (∀ b o, b < W.heap.size → (w'.setCell ⟨P, k, none⟩ v).cell? ⟨b, o, none⟩ = if wr b o then (W.cell? ⟨b, o, none⟩).map (obx (w'.setCell ⟨P, k, none⟩ v) b o) else W.cell? ⟨b, o, none⟩) ∧ (∀ b o, b < W.heap.size → (w'.setCell ⟨P, k, none⟩ v).frozen? ⟨b, o, none⟩ = W.frozen? ⟨b, o, none⟩) ∧ W.heap.size ≤ (w'.setCell ⟨P, k, none⟩ v).heap.size ∧ ExtP w P k (w'.setCell ⟨P, k, none⟩ v) := by
 obtain ⟨h1, h2, h3, h4⟩ := h
 have g := hew2a (p := ⟨P, k, none⟩) (v := v) ⟨h1, h2, h3⟩ (Or.inl hpk)
 exact ⟨g.1, g.2.1, g.2.2, h4.set⟩
theorem hew1p {w W w' w1 : World} {P k : Nat} {wr : Nat → Nat → Prop} {dw : ∀ b o, Decidable (wr b o)} {v : Value} (h : (∀ b o, b < W.heap.size → (w').cell? ⟨b, o, none⟩ = if wr b o then (W.cell? ⟨b, o, none⟩).map (obx (w') b o) else W.cell? ⟨b, o, none⟩) ∧ (∀ b o, b < W.heap.size → (w').frozen? ⟨b, o, none⟩ = W.frozen? ⟨b, o, none⟩) ∧ W.heap.size ≤ (w').heap.size ∧ ExtP w P k (w'))
    (hpk : wr P k) (hb : Ext (w'.setCell ⟨P, k, none⟩ v) w1) : (∀ b o, b < W.heap.size → (w1).cell? ⟨b, o, none⟩ = if wr b o then (W.cell? ⟨b, o, none⟩).map (obx (w1) b o) else W.cell? ⟨b, o, none⟩) ∧ (∀ b o, b < W.heap.size → (w1).frozen? ⟨b, o, none⟩ = W.frozen? ⟨b, o, none⟩) ∧ W.heap.size ≤ (w1).heap.size ∧ ExtP w P k (w1) := hew1 (hew2p h hpk) hb
theorem hew3 {w W w' : World} {P k : Nat} {wr : Nat → Nat → Prop} {dw : ∀ b o, Decidable (wr b o)} {ob : Obj} (h : (∀ b o, b < W.heap.size → (w').cell? ⟨b, o, none⟩ = if wr b o then (W.cell? ⟨b, o, none⟩).map (obx (w') b o) else W.cell? ⟨b, o, none⟩) ∧ (∀ b o, b < W.heap.size → (w').frozen? ⟨b, o, none⟩ = W.frozen? ⟨b, o, none⟩) ∧ W.heap.size ≤ (w').heap.size ∧ ExtP w P k (w')) :
    (∀ b o, b < W.heap.size → (w'.alloc ob).cell? ⟨b, o, none⟩ = if wr b o then (W.cell? ⟨b, o, none⟩).map (obx (w'.alloc ob) b o) else W.cell? ⟨b, o, none⟩) ∧ (∀ b o, b < W.heap.size → (w'.alloc ob).frozen? ⟨b, o, none⟩ = W.frozen? ⟨b, o, none⟩) ∧ W.heap.size ≤ (w'.alloc ob).heap.size ∧ ExtP w P k (w'.alloc ob) := hew1 h ((Ext.refl _).alloc _)
theorem hew3d {w W w' : World} {P k : Nat} {wr : Nat → Nat → Prop} {dw : ∀ b o, Decidable (wr b o)} {ob : Obj} (h : (∀ b o, b < W.heap.size → (w'.drew).cell? ⟨b, o, none⟩ = if wr b o then (W.cell? ⟨b, o, none⟩).map (obx (w'.drew) b o) else W.cell? ⟨b, o, none⟩) ∧ (∀ b o, b < W.heap.size → (w'.drew).frozen? ⟨b, o, none⟩ = W.frozen? ⟨b, o, none⟩) ∧ W.heap.size ≤ (w'.drew).heap.size ∧ ExtP w P k (w'.drew)) :
    (∀ b o, b < W.heap.size → ((w'.alloc ob).drew).cell? ⟨b, o, none⟩ = if wr b o then (W.cell? ⟨b, o, none⟩).map (obx ((w'.alloc ob).drew) b o) else W.cell? ⟨b, o, none⟩) ∧ (∀ b o, b < W.heap.size → ((w'.alloc ob).drew).frozen? ⟨b, o, none⟩ = W.frozen? ⟨b, o, none⟩) ∧ W.heap.size ≤ ((w'.alloc ob).drew).heap.size ∧ ExtP w P k ((w'.alloc ob).drew) := hew3 (w' := w'.drew) h
theorem hewBack {W w' : World} {wr : Nat → Nat → Prop} {dw : ∀ b o, Decidable (wr b o)} {p : Addr} {v : Value}
    (h : (∀ b o, b < W.heap.size → (w'.setCell p v).cell? ⟨b, o, none⟩ = if wr b o then (W.cell? ⟨b, o, none⟩).map (obx (w'.setCell p v) b o) else W.cell? ⟨b, o, none⟩) ∧ (∀ b o, b < W.heap.size → (w'.setCell p v).frozen? ⟨b, o, none⟩ = W.frozen? ⟨b, o, none⟩) ∧ W.heap.size ≤ (w'.setCell p v).heap.size)
    (hp : wr p.block p.off ∨ W.heap.size ≤ p.block) :
    (∀ b o, b < W.heap.size → (w').cell? ⟨b, o, none⟩ = if wr b o then (W.cell? ⟨b, o, none⟩).map (obx (w') b o) else W.cell? ⟨b, o, none⟩) ∧ (∀ b o, b < W.heap.size → (w').frozen? ⟨b, o, none⟩ = W.frozen? ⟨b, o, none⟩) ∧ W.heap.size ≤ (w').heap.size := by
 obtain ⟨h1, h2, h3⟩ := h
 refine ⟨fun b o hc => ?_, fun b o hc => ?_, by simpa using h3⟩
 ·have h1' := h1 b o hc
  rw [cell_sc] at h1'
  split at h1'
  ·rename_i he
   have hr : wr b o := by
    rcases hp with hp | hp
    ·rw [← he] at hp; exact hp
    ·exact b_1
   rw [if_pos hr] at h1' ⊢
   rw [← he] at h1'
   cases hx : W.cell? ⟨b, o, none⟩ with
   | none => rw [hx] at h1'; simpa using h1'
   | some x =>
    rw [hx] at h1'
    cases hy : w'.cell? ⟨b, o, none⟩ with
    | none => rw [hy] at h1'; simp at h1'
    | some y => simp [obx, hy]
  ·rename_i he
   have e : (w'.setCell p v).cell? ⟨b, o, none⟩ = w'.cell? ⟨b, o, none⟩ := by rw [cell_sc, if_neg he]
   rw [h1']
   split
   ·congr 1
    funext x
    simp only [obx, e]
   ·rfl
 ·have h2' := h2 b o hc
  rw [World.frozen?_setCell] at h2'
  exact h2'
theorem hewBackA {W w' : World} {wr : Nat → Nat → Prop} {dw : ∀ b o, Decidable (wr b o)} {ob : Obj}
    (h : (∀ b o, b < W.heap.size → (w'.alloc ob).cell? ⟨b, o, none⟩ = if wr b o then (W.cell? ⟨b, o, none⟩).map (obx (w'.alloc ob) b o) else W.cell? ⟨b, o, none⟩) ∧ (∀ b o, b < W.heap.size → (w'.alloc ob).frozen? ⟨b, o, none⟩ = W.frozen? ⟨b, o, none⟩) ∧ W.heap.size ≤ (w'.alloc ob).heap.size)
    (hz : W.heap.size ≤ w'.heap.size) :
    (∀ b o, b < W.heap.size → (w').cell? ⟨b, o, none⟩ = if wr b o then (W.cell? ⟨b, o, none⟩).map (obx (w') b o) else W.cell? ⟨b, o, none⟩) ∧ (∀ b o, b < W.heap.size → (w').frozen? ⟨b, o, none⟩ = W.frozen? ⟨b, o, none⟩) ∧ W.heap.size ≤ (w').heap.size := by
 obtain ⟨h1, h2, h3⟩ := h
 refine ⟨fun b o hc => ?_, fun b o hc => ?_, hz⟩
 ·have e : (w'.alloc ob).cell? ⟨b, o, none⟩ = w'.cell? ⟨b, o, none⟩ := Below.cell ((Ext.refl w').alloc ob) (p := ⟨b, o, none⟩) (Nat.lt_of_lt_of_le hc hz)
  rw [← e, h1 b o hc]
  split
  ·congr 1
   funext x
   simp only [obx, e]
  ·rfl
 ·have e : (w'.alloc ob).frozen? ⟨b, o, none⟩ = w'.frozen? ⟨b, o, none⟩ := Below.frozen ((Ext.refl w').alloc ob) (p := ⟨b, o, none⟩) (Nat.lt_of_lt_of_le hc hz)
  rw [← e, h2 b o hc]
theorem hew4 {w W w' : World} {P k : Nat} {wr : Nat → Nat → Prop} {dw : ∀ b o, Decidable (wr b o)} {ob ob' : Obj} (h : (∀ b o, b < W.heap.size → (w'.alloc ob).cell? ⟨b, o, none⟩ = if wr b o then (W.cell? ⟨b, o, none⟩).map (obx (w'.alloc ob) b o) else W.cell? ⟨b, o, none⟩) ∧ (∀ b o, b < W.heap.size → (w'.alloc ob).frozen? ⟨b, o, none⟩ = W.frozen? ⟨b, o, none⟩) ∧ W.heap.size ≤ (w'.alloc ob).heap.size ∧ ExtP w P k (w'.alloc ob)) (hz : W.heap.size ≤ w'.heap.size) (hz2 : w.heap.size ≤ w'.heap.size) :
    (∀ b o, b < W.heap.size → (w'.alloc ob').cell? ⟨b, o, none⟩ = if wr b o then (W.cell? ⟨b, o, none⟩).map (obx (w'.alloc ob') b o) else W.cell? ⟨b, o, none⟩) ∧ (∀ b o, b < W.heap.size → (w'.alloc ob').frozen? ⟨b, o, none⟩ = W.frozen? ⟨b, o, none⟩) ∧ W.heap.size ≤ (w'.alloc ob').heap.size ∧ ExtP w P k (w'.alloc ob') := by
 have h3 := hewBackA ⟨h.1, h.2.1, h.2.2.1⟩ hz
 obtain ⟨v, hE⟩ := h.2.2.2
 have hE' : Ext (w.setCell ⟨P, k, none⟩ v) w' := ⟨hE.os, hE.tape, hE.output, by simpa using hz2, fun j hj => by
  have hj' : j < w'.heap.size := Nat.lt_of_lt_of_le (by simpa using hj) hz2
  rw [← hE.block j hj]; exact (Below.heap_alloc w' ob j hj').symm⟩
 exact hew3 ⟨h3.1, h3.2.1, h3.2.2, ⟨v, hE'⟩⟩
theorem hewEnd {W w' : World} {wr : Nat → Nat → Prop} {dw : ∀ b o, Decidable (wr b o)}
    (h : (∀ b o, b < W.heap.size → (w').cell? ⟨b, o, none⟩ = if wr b o then (W.cell? ⟨b, o, none⟩).map (obx (w') b o) else W.cell? ⟨b, o, none⟩) ∧ (∀ b o, b < W.heap.size → (w').frozen? ⟨b, o, none⟩ = W.frozen? ⟨b, o, none⟩) ∧ W.heap.size ≤ (w').heap.size) :
    (∀ b o, w'.cell? ⟨b, o, none⟩ = if b < W.heap.size then (if wr b o then (W.cell? ⟨b, o, none⟩).map (obx w' b o) else W.cell? ⟨b, o, none⟩) else oc w' b o) ∧ (∀ b o, w'.frozen? ⟨b, o, none⟩ = if b < W.heap.size then W.frozen? ⟨b, o, none⟩ else ofz w' b o) ∧ W.heap.size ≤ w'.heap.size :=
  ⟨fun b o => by
    split
    · exact h.1 b o ‹_›
    · rfl, fun b o => by
    split
    · exact h.2.1 b o ‹_›
    · rfl, h.2.2⟩
theorem hew2d {w W w' : World} {P k : Nat} {wr : Nat → Nat → Prop} {dw : ∀ b o, Decidable (wr b o)} {p : Addr} {v : Value}
    (h : (∀ b o, b < W.heap.size → (w'.drew).cell? ⟨b, o, none⟩ = if wr b o then (W.cell? ⟨b, o, none⟩).map (obx (w'.drew) b o) else W.cell? ⟨b, o, none⟩) ∧ (∀ b o, b < W.heap.size → (w'.drew).frozen? ⟨b, o, none⟩ = W.frozen? ⟨b, o, none⟩) ∧ W.heap.size ≤ (w'.drew).heap.size ∧ ExtP w P k (w'.drew)) (hp : wr p.block p.off ∨ W.heap.size ≤ p.block) (hw : w.heap.size ≤ p.block) :
    (∀ b o, b < W.heap.size → ((w'.setCell p v).drew).cell? ⟨b, o, none⟩ = if wr b o then (W.cell? ⟨b, o, none⟩).map (obx ((w'.setCell p v).drew) b o) else W.cell? ⟨b, o, none⟩) ∧ (∀ b o, b < W.heap.size → ((w'.setCell p v).drew).frozen? ⟨b, o, none⟩ = W.frozen? ⟨b, o, none⟩) ∧ W.heap.size ≤ ((w'.setCell p v).drew).heap.size ∧ ExtP w P k ((w'.setCell p v).drew) := hew2 (w' := w'.drew) h hp hw
theorem hewBackd {W w' : World} {wr : Nat → Nat → Prop} {dw : ∀ b o, Decidable (wr b o)} {p : Addr} {v : Value}
    (h : (∀ b o, b < W.heap.size → ((w'.setCell p v).drew).cell? ⟨b, o, none⟩ = if wr b o then (W.cell? ⟨b, o, none⟩).map (obx ((w'.setCell p v).drew) b o) else W.cell? ⟨b, o, none⟩) ∧ (∀ b o, b < W.heap.size → ((w'.setCell p v).drew).frozen? ⟨b, o, none⟩ = W.frozen? ⟨b, o, none⟩) ∧ W.heap.size ≤ ((w'.setCell p v).drew).heap.size) (hp : wr p.block p.off ∨ W.heap.size ≤ p.block) : (∀ b o, b < W.heap.size → (w'.drew).cell? ⟨b, o, none⟩ = if wr b o then (W.cell? ⟨b, o, none⟩).map (obx (w'.drew) b o) else W.cell? ⟨b, o, none⟩) ∧ (∀ b o, b < W.heap.size → (w'.drew).frozen? ⟨b, o, none⟩ = W.frozen? ⟨b, o, none⟩) ∧ W.heap.size ≤ (w'.drew).heap.size := hewBack (w' := w'.drew) h hp
theorem hewNm {W w' : World} {wr : Nat → Nat → Prop} {dw : ∀ b o, Decidable (wr b o)}
    (_h : (∀ b o, b < W.heap.size → w'.cell? ⟨b, o, none⟩ = if wr b o then (W.cell? ⟨b, o, none⟩).map (obx w' b o) else W.cell? ⟨b, o, none⟩) ∧ (∀ b o, b < W.heap.size → w'.frozen? ⟨b, o, none⟩ = W.frozen? ⟨b, o, none⟩) ∧ W.heap.size ≤ w'.heap.size) : ∃ X, w' = X := ⟨_, rfl⟩
theorem hew2s {w W w' : World} {P k : Nat} {wr : Nat → Nat → Prop} {dw : ∀ b o, Decidable (wr b o)} {c q : Nat} {v : Value} (h : (∀ b o, b < W.heap.size → (w').cell? ⟨b, o, none⟩ = if wr b o then (W.cell? ⟨b, o, none⟩).map (obx (w') b o) else W.cell? ⟨b, o, none⟩) ∧ (∀ b o, b < W.heap.size → (w').frozen? ⟨b, o, none⟩ = W.frozen? ⟨b, o, none⟩) ∧ W.heap.size ≤ (w').heap.size ∧ ExtP w P k (w'))
    (hlt : c < W.heap.size) (hn : ¬ wr c q) (hv : W.cell? ⟨c, q, none⟩ = some v) :
    (∀ b o, b < W.heap.size → (w'.setCell ⟨c, q, none⟩ v).cell? ⟨b, o, none⟩ = if wr b o then (W.cell? ⟨b, o, none⟩).map (obx (w'.setCell ⟨c, q, none⟩ v) b o) else W.cell? ⟨b, o, none⟩) ∧ (∀ b o, b < W.heap.size → (w'.setCell ⟨c, q, none⟩ v).frozen? ⟨b, o, none⟩ = W.frozen? ⟨b, o, none⟩) ∧ W.heap.size ≤ (w'.setCell ⟨c, q, none⟩ v).heap.size ∧ ExtP w P k (w'.setCell ⟨c, q, none⟩ v) := by
 have e : w'.cell? ⟨c, q, none⟩ = some v := (h.1 c q hlt).trans ((if_neg hn).trans hv)
 rw [setCell_self w' c q v e]; exact h
theorem nrmV_Z (a : V3) : (nrmV a).Z := ifZ (nrmI_Z 0 a)
theorem nrmI_W (E : Int) (a : V3) : (nrmI E a).W := doI_W (addI_W _ _ _ _)
theorem nrmV_W (a : V3) : (nrmV a).W := ifW (nrmI_W 0 a)
theorem sqrtI_Z (a b : Int) : (sqrtI a b).Z := by
 unfold sqrtI; split
 ·intro _; exact ⟨rfl, rfl⟩
 ·split
  ·intro _; exact ⟨rfl, rfl⟩
  ·intro h; exact absurd rfl h
theorem sqrtI_W (a b : Int) : (sqrtI a b).W := by
 unfold sqrtI; split
 ·exact ⟨I64_0, I64_0⟩
 ·split
  ·exact ⟨I64_0, I64_0⟩
  ·rename_i h1 h2
   obtain ⟨k1, k2, k3⟩ := ckI_ok (Decidable.not_not.1 h1)
   have ha := root_le (x := a) (by omega) (by omega)
   have hb := root_le (x := b) (by omega) (by omega)
   refine ⟨?_, ?_⟩
   ·unfold I64; dsimp only; omega
   ·unfold I64; dsimp only; split <;> omega
theorem W2 {r : R3} (h : r.W) : I64 r.lo ∧ I64 r.hi := h
noncomputable def sz1 (q : R3) : R3 := doI q.e (sqrtI q.lo q.hi)
noncomputable def sz2 (q : R3) : R3 := doI (sz1 q).e (mulI q.lo q.hi (sz1 q).lo (sz1 q).hi)
theorem f_keepr (p : Nat) (E : Int) (r : R3) (w : World) (hc : w.cell? ⟨p, 0, none⟩ = some (.bool (nz (E)))) (hf : w.frozen? ⟨p, 0, none⟩ = false) (hZ : r.Z) :
    Calls Tryz.prog 89 #[.pointer (some ⟨p, 0, none⟩), .agg #[.int .i64 r.lo, .int .i64 r.hi], .int .i64 r.e] w fun e w' => e = .returned (.agg #[.int .i64 (doI E r).lo, .int .i64 (doI E r).hi]) ∧ Ext (w.setCell ⟨p, 0, none⟩ (.bool (nz ((doI E r).e)))) w' := by
 have hp : p < w.heap.size := World.block_lt_of_cell? w _ hc
 rw [← kp_do hZ]; exact f_keep p E r.lo r.hi r.e w hc hf
theorem f_size (p : Nat) (E : Int) (d : V3) (w : World) (hc : w.cell? ⟨p, 0, none⟩ = some (.bool (nz (E)))) (hf : w.frozen? ⟨p, 0, none⟩ = false) (kd : d.I) :
    Calls Tryz.prog 88 #[.pointer (some ⟨p, 0, none⟩), .agg #[.int .i64 d.a, .int .i64 d.b, .int .i64 d.c, .int .i64 d.d, .int .i64 d.e, .int .i64 d.f]] w fun e w' => e = .returned (.tuple #[.agg #[.int .i64 (doI E (nrmV d)).lo, .int .i64 (doI E (nrmV d)).hi], .agg #[.int .i64 (sz2 (doI E (nrmV d))).lo, .int .i64 (sz2 (doI E (nrmV d))).hi]]) ∧ Ext (w.setCell ⟨p, 0, none⟩ (.bool (nz ((sz2 (doI E (nrmV d))).e)))) w' := by
 have hp : p < w.heap.size := World.block_lt_of_cell? w _ hc
 go_enter Tryz.func88, Tryz.ntmps88
 go_wp2_with (first | (go_at_call 135; (with_reducible refine (p_nrm d _ kd).mono ?_); rintro e w1 ⟨rfl, hb⟩; obtain ⟨_, _, ⟨hc, hf⟩, hz⟩ := hb.c3; (try simp only [wsz] at hz hc hf); (try have zz := q_7 w.heap.size w1.heap.size); (try have zz := q_7 (w.heap.size + 1) w1.heap.size); (try have zz := q_7 (w.heap.size + 1 + 1) w1.heap.size); (try have zz := q_7 p w1.heap.size)) | (go_at_call 89; (with_reducible refine (f_keepr p E (nrmV d) _ c_23 c_23 (nrmV_Z d)).mono ?_); (generalize hr0 : doI E (nrmV d) = r0); rintro e w1 ⟨rfl, hb⟩; obtain ⟨_, _, ⟨hc, hf⟩, hz⟩ := hb.c3; (try simp only [wsz] at hz hc hf); (try have zz := q_7 w.heap.size w1.heap.size); (try have zz := q_7 (w.heap.size + 1) w1.heap.size); (try have zz := q_7 (w.heap.size + 1 + 1) w1.heap.size); (try have zz := q_7 p w1.heap.size)))
 refine wp_name fun W hW => ?_
 obtain ⟨hWc, hWf, hWz⟩ := hW.cells
 have hWe : ExtP w p 0 W := ExtP.same hW c_20
 (try simp only [wsz] at hWz)
 replace hWz := And.intro (Nat.le_of_eq hWz) (Nat.le_of_eq hWz.symm)
 have hlt := q_0 w.heap.size W.heap.size (w.heap.size + 1) (w.heap.size + 1 + 1) p
 have hd := q_17 w.heap.size (w.heap.size + 1) (w.heap.size + 1 + 1) p
 have hcv0 : W.cell? ⟨w.heap.size + 1, 0, none⟩ = some (.int .i64 r0.lo) := by rw [hWc]; simp [go_sem, ↓IntWalk.iteOmega, *]
 have hcv1 : W.cell? ⟨w.heap.size + 1, 1, none⟩ = some (.int .i64 r0.hi) := by rw [hWc]; simp [go_sem, ↓IntWalk.iteOmega, *]
 go_region_held3 (fun w' => (∀ b o, b < W.heap.size → w'.cell? ⟨b, o, none⟩ = if b = w.heap.size + 1 + 1 ∧ 0 ≤ o ∧ o < 2 ∨ b = p ∧ o = 0 then (W.cell? ⟨b, o, none⟩).map (obx w' b o) else W.cell? ⟨b, o, none⟩) ∧ (∀ b o, b < W.heap.size → w'.frozen? ⟨b, o, none⟩ = W.frozen? ⟨b, o, none⟩) ∧ W.heap.size ≤ w'.heap.size ∧ ExtP w p 0 w') (exact k_5) ((first | (go_at_call 136; (with_reducible refine (span_sqrt r0.lo r0.hi _).mono ?_); rintro e w9 ⟨rfl, hb7⟩; have hz7 := hb7.size; (try simp only [size_drew, World.size_setCell] at hz7); have hg7 := (hb7.cells.1 p 0 c_41).trans (show _ = some (.bool (nz (r0.e))) from c_0); have hh7 := (hb7.cells.2 p 0 c_41).trans (show _ = false from c_0)) | (go_at_call 89; (with_reducible refine (f_keepr p r0.e (sqrtI r0.lo r0.hi) _ c_0 c_0 (sqrtI_Z _ _)).mono ?_); (generalize hr1 : doI r0.e (sqrtI r0.lo r0.hi) = r1); rintro e w2 ⟨rfl, hb0⟩; have hz0 := hb0.size; (try simp only [size_drew, World.size_setCell] at hz0); obtain ⟨hg0, hh0⟩ := hb0.got (u := .bool (nz (r0.e))) c_0; have hob0 := obx_of hg0; (try simp only [frozen_drew] at hh0)) | (go_at_call 92; (with_reducible refine (f_mul p r1.e r0.lo r0.hi r1.lo r1.hi _ c_0 c_0 (W2 (hr0 ▸ doI_W (nrmV_W d))) (W2 (hr1 ▸ doI_W (sqrtI_W _ _)))).mono ?_); (generalize hr2 : doI r1.e (mulI r0.lo r0.hi r1.lo r1.hi) = r2); rintro e w3 ⟨rfl, hb1⟩; have hz1 := hb1.size; (try simp only [size_drew, World.size_setCell] at hz1); obtain ⟨hg1, hh1⟩ := hb1.got (u := .bool (nz (r1.e))) c_0; have hob1 := obx_of hg1; (try simp only [frozen_drew] at hh1))))
 rename_i hOld
 have hE := hOld.2.2.2
 have hO := And.intro hOld.1 (And.intro hOld.2.1 hOld.2.2.1)
 clear hOld
 replace hO := hewBack hO c_9
 replace hO := hewBack hO c_9
 obtain ⟨X, hX⟩ := hewNm hO
 rw [hX] at hO hE ⊢
 have hgX := obx_of (show X.cell? ⟨p, 0, none⟩ = some (.bool (nz (r2.e))) from by rw [← hX]; (repeat rw [cell_sc, if_neg (by intro e; injection e; omega)]); exact hg1)
 obtain ⟨hOc, hOf, hOz⟩ := hewEnd hO
 clear hO
 have hlu := q_0 w.heap.size X.heap.size (w.heap.size + 1) (w.heap.size + 1 + 1) p
 have q1 : sz1 r0 = r1 := hr1
 have q2 : sz2 r0 = r2 := by unfold sz2; rw [q1]; exact hr2
 go_wp2_with fail
 all_goals
  (try simp only [nz_true, nz_false] at *)
  refine bodyPost_ret (v := .tuple #[.agg #[.int .i64 (doI E (nrmV d)).lo, .int .i64 (doI E (nrmV d)).hi], .agg #[.int .i64 (sz2 (doI E (nrmV d))).lo, .int .i64 (sz2 (doI E (nrmV d))).hi]]) ?_ rfl ⟨rfl, ?_⟩
  ·(try simp only [bn_, bm_] at *)
   simp [results, Tryz.results88, go_sem, ↓IntWalk.iteOmega, nz, *]
  ·refine ExtP.fin ?_ ?_ hp
   ·exact b_10
   ·(try simp only [bn_, bm_] at *)
    simp [go_sem, ↓IntWalk.iteOmega, nz, *]
theorem span_neg (a b : Int) (w : World) :
    Calls Tryz.prog 90 #[.agg #[.int .i64 a, .int .i64 b]] w fun e w' => e = .returned (.tuple #[.agg #[.int .i64 (negI a b).lo, .int .i64 (negI a b).hi], .int .i64 (negI a b).e]) ∧ Ext w w' := by
 go_enter Tryz.func90, Tryz.ntmps90
 go_wp2_with (first | (go_at_call 66; (with_reducible refine (check_1 _ _ _ _ c_47).mono ?_); rintro e w1 ⟨rfl, hb⟩; obtain ⟨_, _, ⟨hc, hf⟩, hz⟩ := hb.c3; (try simp only [World.size_alloc] at hz hc hf)))
 all_goals
  refine bodyPost_ret (v := .tuple #[.agg #[.int .i64 (negI a b).lo, .int .i64 (negI a b).hi], .int .i64 (negI a b).e]) ?_ rfl ⟨rfl, ?_⟩
  ·(try simp only [bn_] at *)
   simp [results, Tryz.results90, go_sem, negI, *]
  ·exact b_4
def pxI (E x y a b : Int) : R3 := doI E (mulI x y a b)
def pyI (c : R3) (E x y a b : Int) : R3 := doI (pxI E x y a b).e (divI (pxI E x y a b).lo (pxI E x y a b).hi c.lo c.hi)
def pzI (c : R3) (E x y a b : Int) : R3 := doI (pyI c E x y a b).e (negI (pyI c E x y a b).lo (pyI c E x y a b).hi)
def pl0 (c : R3) (x y : Int) (d : V3) : R3 := pzI c c.e x y d.a d.b
def pl1 (c : R3) (x y : Int) (d : V3) : R3 := pzI c (pl0 c x y d).e x y d.c d.d
def pl2 (c : R3) (x y : Int) (d : V3) : R3 := pzI c (pl1 c x y d).e x y d.e d.f
def plV (c : R3) (x y : Int) (d : V3) : V3 := v3 (pl0 c x y d) (pl1 c x y d) (pl2 c x y d)
theorem f_pull (p : Nat) (E x y : Int) (d : V3) (w : World) (hc : w.cell? ⟨p, 0, none⟩ = some (.bool (nz (E)))) (hf : w.frozen? ⟨p, 0, none⟩ = false) (hx : I64 x ∧ I64 y) (kd : d.I) :
    Calls Tryz.prog 45 #[.pointer (some ⟨p, 0, none⟩), .agg #[.int .i64 x, .int .i64 y], .agg #[.int .i64 d.a, .int .i64 d.b, .int .i64 d.c, .int .i64 d.d, .int .i64 d.e, .int .i64 d.f]] w fun e w' => e = .returned (.agg #[.int .i64 (plV (sz2 (doI E (nrmV d))) x y d).a, .int .i64 (plV (sz2 (doI E (nrmV d))) x y d).b, .int .i64 (plV (sz2 (doI E (nrmV d))) x y d).c, .int .i64 (plV (sz2 (doI E (nrmV d))) x y d).d, .int .i64 (plV (sz2 (doI E (nrmV d))) x y d).e, .int .i64 (plV (sz2 (doI E (nrmV d))) x y d).f]) ∧ Ext (w.setCell ⟨p, 0, none⟩ (.bool (nz ((pl2 (sz2 (doI E (nrmV d))) x y d).e)))) w' := by
 have hp : p < w.heap.size := World.block_lt_of_cell? w _ hc
 obtain ⟨hd0, hd1, hd2⟩ := id kd
 have ix0 : ∀ w, (Instr.index 28 (.agg #[.int .i64 d.a, .int .i64 d.b, .int .i64 d.c, .int .i64 d.d, .int .i64 d.e, .int .i64 d.f]) (.int .i64 0)).run Tryz.prog w = .ok (.agg #[.int .i64 d.a, .int .i64 d.b]) w := fun _ => by kernel_rfl
 have ix1 : ∀ w, (Instr.index 28 (.agg #[.int .i64 d.a, .int .i64 d.b, .int .i64 d.c, .int .i64 d.d, .int .i64 d.e, .int .i64 d.f]) (.int .i64 1)).run Tryz.prog w = .ok (.agg #[.int .i64 d.c, .int .i64 d.d]) w := fun _ => by kernel_rfl
 have ix2 : ∀ w, (Instr.index 28 (.agg #[.int .i64 d.a, .int .i64 d.b, .int .i64 d.c, .int .i64 d.d, .int .i64 d.e, .int .i64 d.f]) (.int .i64 2)).run Tryz.prog w = .ok (.agg #[.int .i64 d.e, .int .i64 d.f]) w := fun _ => by kernel_rfl
 have l0 : IntKind.i64.wrap 0 = 0 := rfl
 have l1 : IntKind.i64.wrap 1 = 1 := rfl
 have l2 : IntKind.i64.wrap 2 = 2 := rfl
 have l3 : IntKind.i64.wrap 3 = 3 := rfl
 go_enter Tryz.func45, Tryz.ntmps45
 go_wp2_with (first | (go_at_call 88; (with_reducible refine (f_size p E d _ c_23 c_23 kd).mono ?_); (generalize hq : doI E (nrmV d) = q at *); (generalize hcu : sz2 q = c at *); rintro e w1 ⟨rfl, hb⟩; obtain ⟨_, _, ⟨hc, hf⟩, hz⟩ := hb.c3; (try simp only [wsz] at hz hc hf); (try have zz := q_7 w.heap.size w1.heap.size); (try have zz := q_7 (w.heap.size + 1) w1.heap.size); (try have zz := q_7 (w.heap.size + 1 + 1) w1.heap.size); (try have zz := q_7 p w1.heap.size)))
 refine wp_loop_rounds 4 ?_
 rw [rounds_succ]
 go_wp2_with fail
 refine wp_name fun W hW => ?_
 obtain ⟨hWc, hWf, hWz⟩ := hW.cells
 have hWe : ExtP w p 0 W := ExtP.same hW c_20
 (try simp only [wsz] at hWz)
 replace hWz := And.intro (Nat.le_of_eq hWz) (Nat.le_of_eq hWz.symm)
 have hlt := q_2 w.heap.size W.heap.size (w.heap.size + 1) (w.heap.size + 1 + 1) p w1.heap.size (w1.heap.size + 1) (w1.heap.size + 1 + 1)
 have hd := q_15 w.heap.size (w.heap.size + 1) (w.heap.size + 1 + 1) p w1.heap.size (w1.heap.size + 1) (w1.heap.size + 1 + 1)
 go_region_held3 (fun w' => (∀ b o, b < W.heap.size → w'.cell? ⟨b, o, none⟩ = if b = w.heap.size + 1 + 1 ∧ 0 ≤ o ∧ o < 2 ∨ b = p ∧ o = 0 then (W.cell? ⟨b, o, none⟩).map (obx w' b o) else W.cell? ⟨b, o, none⟩) ∧ (∀ b o, b < W.heap.size → w'.frozen? ⟨b, o, none⟩ = W.frozen? ⟨b, o, none⟩) ∧ W.heap.size ≤ w'.heap.size ∧ ExtP w p 0 w') (exact k_5) ((first | (go_at_call 92; (with_reducible refine (f_mul p (c.e) x y d.a d.b _ c_0 c_0 hx hd0).mono ?_); (generalize hr0 : doI (c.e) (mulI x y d.a d.b) = r0); rintro e w2 ⟨rfl, hb0⟩; have hz0 := hb0.size; (try simp only [size_drew, World.size_setCell] at hz0); obtain ⟨hg0, hh0⟩ := hb0.got (u := .bool (nz (c.e))) c_0; have hob0 := obx_of hg0; (try simp only [frozen_drew] at hh0)) | (go_at_call 91; (with_reducible refine (f_div p r0.e r0.lo r0.hi c.lo c.hi _ c_0 c_0).mono ?_); (generalize hr1 : doI r0.e (divI r0.lo r0.hi c.lo c.hi) = r1); rintro e w3 ⟨rfl, hb1⟩; have hz1 := hb1.size; (try simp only [size_drew, World.size_setCell] at hz1); obtain ⟨hg1, hh1⟩ := hb1.got (u := .bool (nz (r0.e))) c_0; have hob1 := obx_of hg1; (try simp only [frozen_drew] at hh1)) | (go_at_call 90; (with_reducible refine (span_neg r1.lo r1.hi _).mono ?_); rintro e w52 ⟨rfl, hb50⟩; have hz50 := hb50.size; (try simp only [size_drew, World.size_setCell] at hz50); have hg50 := (hb50.cells.1 p 0 c_41).trans (show _ = some (.bool (nz (r1.e))) from c_0); have hh50 := (hb50.cells.2 p 0 c_41).trans (show _ = false from c_0)) | (go_at_call 89; (with_reducible refine (f_keepr p r1.e (negI r1.lo r1.hi) _ c_0 c_0 (negI_Z _ _)).mono ?_); (generalize hr2 : doI r1.e (negI r1.lo r1.hi) = r2); rintro e w4 ⟨rfl, hb2⟩; have hz2 := hb2.size; (try simp only [size_drew, World.size_setCell] at hz2); obtain ⟨hg2, hh2⟩ := hb2.got (u := .bool (nz (r1.e))) c_0; have hob2 := obx_of hg2; (try simp only [frozen_drew] at hh2))))
 rename_i hOld
 have hE := hOld.2.2.2
 have hO := And.intro hOld.1 (And.intro hOld.2.1 hOld.2.2.1)
 clear hOld
 replace hO := hewBack hO c_9
 replace hO := hewBack hO c_9
 obtain ⟨hOc, hOf, hOz⟩ := hewEnd hO
 clear hO
 have hlu := q_2 w.heap.size w4.heap.size (w.heap.size + 1) (w.heap.size + 1 + 1) p w1.heap.size (w1.heap.size + 1) (w1.heap.size + 1 + 1)
 go_wp2_with fail
 rw [rounds_succ]
 go_wp2_with fail
 refine wp_name fun W hW => ?_
 obtain ⟨hWc, hWf, hWz⟩ := hW.cells
 have hWe : ExtP w p 0 W := ExtP.same hW c_20
 (try simp only [wsz] at hWz)
 replace hWz := And.intro (Nat.le_of_eq hWz) (Nat.le_of_eq hWz.symm)
 have hlt := q_2 w.heap.size W.heap.size (w.heap.size + 1) (w.heap.size + 1 + 1) p w1.heap.size (w1.heap.size + 1) w4.heap.size
 have hd := q_15 w.heap.size (w.heap.size + 1) (w.heap.size + 1 + 1) p w1.heap.size (w1.heap.size + 1) w4.heap.size
 go_region_held3 (fun w' => (∀ b o, b < W.heap.size → w'.cell? ⟨b, o, none⟩ = if b = w.heap.size + 1 + 1 ∧ 2 ≤ o ∧ o < 4 ∨ b = p ∧ o = 0 then (W.cell? ⟨b, o, none⟩).map (obx w' b o) else W.cell? ⟨b, o, none⟩) ∧ (∀ b o, b < W.heap.size → w'.frozen? ⟨b, o, none⟩ = W.frozen? ⟨b, o, none⟩) ∧ W.heap.size ≤ w'.heap.size ∧ ExtP w p 0 w') (exact k_5) ((first | (go_at_call 92; (with_reducible refine (f_mul p (r2.e) x y d.c d.d _ c_0 c_0 hx hd1).mono ?_); (generalize hr3 : doI (r2.e) (mulI x y d.c d.d) = r3); rintro e w5 ⟨rfl, hb3⟩; have hz3 := hb3.size; (try simp only [size_drew, World.size_setCell] at hz3); obtain ⟨hg3, hh3⟩ := hb3.got (u := .bool (nz (r2.e))) c_0; have hob3 := obx_of hg3; (try simp only [frozen_drew] at hh3)) | (go_at_call 91; (with_reducible refine (f_div p r3.e r3.lo r3.hi c.lo c.hi _ c_0 c_0).mono ?_); (generalize hr4 : doI r3.e (divI r3.lo r3.hi c.lo c.hi) = r4); rintro e w6 ⟨rfl, hb4⟩; have hz4 := hb4.size; (try simp only [size_drew, World.size_setCell] at hz4); obtain ⟨hg4, hh4⟩ := hb4.got (u := .bool (nz (r3.e))) c_0; have hob4 := obx_of hg4; (try simp only [frozen_drew] at hh4)) | (go_at_call 90; (with_reducible refine (span_neg r4.lo r4.hi _).mono ?_); rintro e w53 ⟨rfl, hb51⟩; have hz51 := hb51.size; (try simp only [size_drew, World.size_setCell] at hz51); have hg51 := (hb51.cells.1 p 0 c_41).trans (show _ = some (.bool (nz (r4.e))) from c_0); have hh51 := (hb51.cells.2 p 0 c_41).trans (show _ = false from c_0)) | (go_at_call 89; (with_reducible refine (f_keepr p r4.e (negI r4.lo r4.hi) _ c_0 c_0 (negI_Z _ _)).mono ?_); (generalize hr5 : doI r4.e (negI r4.lo r4.hi) = r5); rintro e w7 ⟨rfl, hb5⟩; have hz5 := hb5.size; (try simp only [size_drew, World.size_setCell] at hz5); obtain ⟨hg5, hh5⟩ := hb5.got (u := .bool (nz (r4.e))) c_0; have hob5 := obx_of hg5; (try simp only [frozen_drew] at hh5))))
 rename_i hOld
 have hE := hOld.2.2.2
 have hO := And.intro hOld.1 (And.intro hOld.2.1 hOld.2.2.1)
 clear hOld
 replace hO := hewBack hO c_9
 replace hO := hewBack hO c_9
 obtain ⟨hOc, hOf, hOz⟩ := hewEnd hO
 clear hO
 have hlu := q_2 w.heap.size w7.heap.size (w.heap.size + 1) (w.heap.size + 1 + 1) p w1.heap.size (w1.heap.size + 1) w4.heap.size
 go_wp2_with fail
 rw [rounds_succ]
 go_wp2_with fail
 refine wp_name fun W hW => ?_
 obtain ⟨hWc, hWf, hWz⟩ := hW.cells
 have hWe : ExtP w p 0 W := ExtP.same hW c_20
 (try simp only [wsz] at hWz)
 replace hWz := And.intro (Nat.le_of_eq hWz) (Nat.le_of_eq hWz.symm)
 have hlt := q_2 w.heap.size W.heap.size (w.heap.size + 1) (w.heap.size + 1 + 1) p w1.heap.size (w1.heap.size + 1) w7.heap.size
 have hd := q_15 w.heap.size (w.heap.size + 1) (w.heap.size + 1 + 1) p w1.heap.size (w1.heap.size + 1) w7.heap.size
 go_region_held3 (fun w' => (∀ b o, b < W.heap.size → w'.cell? ⟨b, o, none⟩ = if b = w.heap.size + 1 + 1 ∧ 4 ≤ o ∧ o < 6 ∨ b = p ∧ o = 0 then (W.cell? ⟨b, o, none⟩).map (obx w' b o) else W.cell? ⟨b, o, none⟩) ∧ (∀ b o, b < W.heap.size → w'.frozen? ⟨b, o, none⟩ = W.frozen? ⟨b, o, none⟩) ∧ W.heap.size ≤ w'.heap.size ∧ ExtP w p 0 w') (exact k_5) ((first | (go_at_call 92; (with_reducible refine (f_mul p (r5.e) x y d.e d.f _ c_0 c_0 hx hd2).mono ?_); (generalize hr6 : doI (r5.e) (mulI x y d.e d.f) = r6); rintro e w8 ⟨rfl, hb6⟩; have hz6 := hb6.size; (try simp only [size_drew, World.size_setCell] at hz6); obtain ⟨hg6, hh6⟩ := hb6.got (u := .bool (nz (r5.e))) c_0; have hob6 := obx_of hg6; (try simp only [frozen_drew] at hh6)) | (go_at_call 91; (with_reducible refine (f_div p r6.e r6.lo r6.hi c.lo c.hi _ c_0 c_0).mono ?_); (generalize hr7 : doI r6.e (divI r6.lo r6.hi c.lo c.hi) = r7); rintro e w9 ⟨rfl, hb7⟩; have hz7 := hb7.size; (try simp only [size_drew, World.size_setCell] at hz7); obtain ⟨hg7, hh7⟩ := hb7.got (u := .bool (nz (r6.e))) c_0; have hob7 := obx_of hg7; (try simp only [frozen_drew] at hh7)) | (go_at_call 90; (with_reducible refine (span_neg r7.lo r7.hi _).mono ?_); rintro e w54 ⟨rfl, hb52⟩; have hz52 := hb52.size; (try simp only [size_drew, World.size_setCell] at hz52); have hg52 := (hb52.cells.1 p 0 c_41).trans (show _ = some (.bool (nz (r7.e))) from c_0); have hh52 := (hb52.cells.2 p 0 c_41).trans (show _ = false from c_0)) | (go_at_call 89; (with_reducible refine (f_keepr p r7.e (negI r7.lo r7.hi) _ c_0 c_0 (negI_Z _ _)).mono ?_); (generalize hr8 : doI r7.e (negI r7.lo r7.hi) = r8); rintro e w10 ⟨rfl, hb8⟩; have hz8 := hb8.size; (try simp only [size_drew, World.size_setCell] at hz8); obtain ⟨hg8, hh8⟩ := hb8.got (u := .bool (nz (r7.e))) c_0; have hob8 := obx_of hg8; (try simp only [frozen_drew] at hh8))))
 rename_i hOld
 have hE := hOld.2.2.2
 have hO := And.intro hOld.1 (And.intro hOld.2.1 hOld.2.2.1)
 clear hOld
 replace hO := hewBack hO c_9
 replace hO := hewBack hO c_9
 obtain ⟨hOc, hOf, hOz⟩ := hewEnd hO
 clear hO
 have hlu := q_2 w.heap.size w10.heap.size (w.heap.size + 1) (w.heap.size + 1 + 1) p w1.heap.size (w1.heap.size + 1) w7.heap.size
 go_wp2_with fail
 rw [rounds_succ]
 go_wp2_with fail
 have q0 : pl0 c x y d = r2 := by unfold pl0 pzI pyI pxI; rw [hr0, hr1, hr2]
 have q1 : pl1 c x y d = r5 := by unfold pl1 pzI pyI pxI; rw [q0, hr3, hr4, hr5]
 have q2 : pl2 c x y d = r8 := by unfold pl2 pzI pyI pxI; rw [q1, hr6, hr7, hr8]
 all_goals
  (try simp only [nz_true, nz_false] at *)
  refine bodyPost_ret (v := .agg #[.int .i64 (plV (sz2 (doI E (nrmV d))) x y d).a, .int .i64 (plV (sz2 (doI E (nrmV d))) x y d).b, .int .i64 (plV (sz2 (doI E (nrmV d))) x y d).c, .int .i64 (plV (sz2 (doI E (nrmV d))) x y d).d, .int .i64 (plV (sz2 (doI E (nrmV d))) x y d).e, .int .i64 (plV (sz2 (doI E (nrmV d))) x y d).f]) ?_ rfl ⟨rfl, ?_⟩
  ·(try simp only [bn_, bm_] at *)
   simp [results, Tryz.results45, go_sem, ↓IntWalk.iteOmega, plV, v3, *]
  ·refine ExtP.fin ?_ ?_ hp
   ·exact b_10
   ·(try simp only [bn_, bm_] at *)
    simp [go_sem, ↓IntWalk.iteOmega, plV, v3, *]
def nmR (r : Nat) : Bool := (decide (r < 97) || decide (122 < r)) && (decide (r < 48) || decide (57 < r)) && !decide (r = 45)
theorem nmR_f {r : Nat} (h : nmR r = false) : r < 128 := by
 unfold nmR at h
 refine Nat.not_le.1 fun hl => ?_
 have a : decide (r < 97) = false := decide_eq_false (by omega)
 have b : decide (122 < r) = true := decide_eq_true (by omega)
 have c : decide (57 < r) = true := decide_eq_true (by omega)
 have d : decide (r = 45) = false := decide_eq_false (by omega)
 rw [a, b, c, d] at h
 simp at h
theorem nmR_big {r : Nat} (h : 128 ≤ r) : nmR r = true := by
 cases e : nmR r with
 | true => rfl
 | false => have := nmR_f e; omega
def bt (s : ByteArray) (k : Nat) : Nat := (s.get! k).toNat
def nmAny (s : ByteArray) : Nat → Bool
 | 0 => false
 | k + 1 => nmAny s k || nmR (bt s k)
theorem nmAny_iff (s : ByteArray) : ∀ n, nmAny s n = true ↔ ∃ k, k < n ∧ nmR (bt s k) = true
 | 0 => by simp [nmAny]
 | n + 1 => by
  simp only [nmAny, Bool.or_eq_true, nmAny_iff s n]
  constructor
  ·rintro (⟨k, hk, h⟩ | h)
   ·exact ⟨k, by omega, h⟩
   ·exact ⟨n, by omega, h⟩
  ·rintro ⟨k, hk, h⟩
   by_cases e : k = n
   ·subst e; exact .inr h
   ·exact .inl ⟨k, by omega, h⟩
theorem dec_small (n b0 b1 b2 b3 : Nat) (h : b0 < 128) : Lib.decodeN n b0 b1 b2 b3 = (b0, 1) := by unfold Lib.decodeN; rw [if_pos h]
theorem dec_big (n b0 b1 b2 b3 : Nat) (h : 128 ≤ b0) : 128 ≤ (Lib.decodeN n b0 b1 b2 b3).1 := by
 unfold Lib.decodeN
 rw [if_neg (by omega)]
 repeat' split
 all_goals (dsimp only; omega)
theorem nm_from (s : ByteArray) : ∀ f pos, s.size ≤ pos + f → (0 ≤ Lib.idxFuncFrom nmR true s f pos ↔ ∃ k, pos ≤ k ∧ k < s.size ∧ nmR (bt s k) = true)
 | 0, pos, h => by
  simp only [Lib.idxFuncFrom]
  constructor
  ·intro h; omega
  ·rintro ⟨k, h1, h2, _⟩; omega
 | f + 1, pos, h => by
  by_cases hp : pos < s.size
  ·cases hb : nmR (bt s pos) with
   | false =>
    have hd : Utf8.decode s pos = (bt s pos, 1) := by rw [Lib.decode_at]; exact dec_small _ _ _ _ _ (nmR_f hb)
    simp only [Lib.idxFuncFrom, hp, if_true, hd, hb, Bool.false_eq_true, if_false]
    rw [nm_from s f (pos + 1) (by omega)]
    constructor
    ·rintro ⟨k, h1, h2, h3⟩; exact ⟨k, by omega, h2, h3⟩
    ·rintro ⟨k, h1, h2, h3⟩
     refine ⟨k, ?_, h2, h3⟩
     refine Nat.lt_of_le_of_ne h1 fun e => ?_
     subst e; rw [hb] at h3; cases h3
   | true =>
    have hd : nmR (Utf8.decode s pos).1 = true := by
     rw [Lib.decode_at]
     by_cases hl : bt s pos < 128
     ·rw [show (s.get! pos).toNat = bt s pos from rfl, dec_small _ _ _ _ _ hl]; exact hb
     ·exact nmR_big (dec_big _ _ _ _ _ (by unfold bt at hl; omega))
    simp only [Lib.idxFuncFrom, hp, if_true, hd]
    exact ⟨fun _ => ⟨pos, Nat.le_refl _, hp, hb⟩, fun _ => by omega⟩
  ·rw [Lib.idxFuncFrom_end _ _ _ _ _ hp]
   constructor
   ·intro h; omega
   ·rintro ⟨k, h1, h2, _⟩; omega
theorem nm_idx (s : ByteArray) : decide (0 ≤ Lib.idxFunc nmR true s) = nmAny s s.size := by
 rw [Bool.eq_iff_iff, decide_eq_true_iff, nmAny_iff]
 unfold Lib.idxFunc
 rw [nm_from s s.size 0 (by omega)]
 constructor
 ·rintro ⟨k, _, h2, h3⟩; exact ⟨k, h2, h3⟩
 ·rintro ⟨k, h2, h3⟩; exact ⟨k, by omega, h2, h3⟩
def NmOk (s : ByteArray) : Prop := 1 ≤ s.size ∧ s.size ≤ 24 ∧ nmAny s s.size = false ∧ 97 ≤ bt s 0 ∧ bt s 0 ≤ 122
def nmL (k b : Nat) : Bool := (decide (97 ≤ b) && decide (b ≤ 122)) || (!decide (k = 0) && (decide (b = 45) || (decide (48 ≤ b) && decide (b ≤ 57))))
structure SegD where
 fr : Int
 ti : Int
 c0 : List Int
 c1 : List Int
 c2 : List Int
structure BodyD where
 name : ByteArray
 gm : Int
 rad : Int
 segs : List SegD
def SegD.c (s : SegD) : Nat → List Int
 | 0 => s.c0
 | 1 => s.c1
 | _ => s.c2
def Xs (w : World) (v : Value) (l : List Int) : Prop :=
 ∃ ao b o cap, v = .slice ao l.length cap ∧ (0 < l.length → ao = some ⟨b, o, none⟩) ∧ l.length ≤ cap ∧ cap ≤ 9223372036854775807 ∧ (0 < l.length → b < w.heap.size) ∧ (∀ i, i < l.length → w.cell? ⟨b, o + i, none⟩ = some (.int .i64 (l.getD i 0))) ∧ ∀ i, i < l.length → I64 (l.getD i 0)
theorem Xs.ext {a w : World} {v : Value} {l : List Int} (h : Xs a v l) (k : Ext a w) : Xs w v l := by
 obtain ⟨ao, b, o, cap, e, h1, h2, h3, h4, h5, h6⟩ := h
 exact ⟨ao, b, o, cap, e, h1, h2, h3, fun h => Nat.lt_of_lt_of_le (h4 h) k.size, fun i hi => (k.cells.1 b _ (h4 (by omega))).trans (h5 i hi), h6⟩
def Sg (w : World) (v : Value) (s : SegD) : Prop := ∃ v0 v1 v2, v = .agg #[.int .i64 s.fr, .int .i64 s.ti, v0, v1, v2] ∧ I64 s.fr ∧ I64 s.ti ∧ Xs w v0 s.c0 ∧ Xs w v1 s.c1 ∧ Xs w v2 s.c2
theorem Sg.ext {a w : World} {v : Value} {s : SegD} (h : Sg a v s) (k : Ext a w) : Sg w v s := by
 obtain ⟨v0, v1, v2, e, h1, h2, h3, h4, h5⟩ := h
 exact ⟨v0, v1, v2, e, h1, h2, h3.ext k, h4.ext k, h5.ext k⟩
def seg0 : SegD := ⟨0, 0, [], [], []⟩
def body0 : BodyD := ⟨ByteArray.empty, 0, 0, []⟩
def Sgs (w : World) (v : Value) (l : List SegD) : Prop :=
 ∃ ao b o cap, v = .slice ao l.length cap ∧ (0 < l.length → ao = some ⟨b, o, none⟩) ∧ l.length ≤ cap ∧ cap ≤ 9223372036854775807 ∧ (0 < l.length → b < w.heap.size) ∧
  ∀ i, i < l.length → ∃ v0 v1 v2, (w.cell? ⟨b, o + i * 5, none⟩ = some (.int .i64 (l.getD i seg0).fr) ∧ w.cell? ⟨b, o + i * 5 + 1, none⟩ = some (.int .i64 (l.getD i seg0).ti) ∧ w.cell? ⟨b, o + i * 5 + 2, none⟩ = some v0 ∧ w.cell? ⟨b, o + i * 5 + 3, none⟩ = some v1 ∧ w.cell? ⟨b, o + i * 5 + 4, none⟩ = some v2) ∧
   I64 (l.getD i seg0).fr ∧ I64 (l.getD i seg0).ti ∧ Xs w v0 (l.getD i seg0).c0 ∧ Xs w v1 (l.getD i seg0).c1 ∧ Xs w v2 (l.getD i seg0).c2
theorem Sgs.ext {a w : World} {v : Value} {l : List SegD} (h : Sgs a v l) (k : Ext a w) : Sgs w v l := by
 obtain ⟨ao, b, o, cap, e, h1, h2, h3, h4, h5⟩ := h
 refine ⟨ao, b, o, cap, e, h1, h2, h3, fun h => Nat.lt_of_lt_of_le (h4 h) k.size, fun i hi => ?_⟩
 obtain ⟨v0, v1, v2, ⟨c0, c1, c2, c3, c4⟩, f1, f2, f3, f4, f5⟩ := h5 i hi
 have hb := h4 (by omega)
 exact ⟨v0, v1, v2, ⟨(k.cells.1 b _ hb).trans c0, (k.cells.1 b _ hb).trans c1, (k.cells.1 b _ hb).trans c2, (k.cells.1 b _ hb).trans c3, (k.cells.1 b _ hb).trans c4⟩, f1, f2, f3.ext k, f4.ext k, f5.ext k⟩
def Bd (w : World) (v : Value) (b : BodyD) : Prop := ∃ vs, v = .agg #[.string b.name, .int .i64 b.gm, .int .i64 b.rad, vs] ∧ b.name.size ≤ 9223372036854775807 ∧ I64 b.gm ∧ I64 b.rad ∧ Sgs w vs b.segs
theorem Bd.ext {a w : World} {v : Value} {b : BodyD} (h : Bd a v b) (k : Ext a w) : Bd w v b := by
 obtain ⟨vs, e, h0, h1, h2, h3⟩ := h
 exact ⟨vs, e, h0, h1, h2, h3.ext k⟩
def Bds (w : World) (v : Value) (l : List BodyD) : Prop :=
 ∃ ao b o cap, v = .slice ao l.length cap ∧ (0 < l.length → ao = some ⟨b, o, none⟩) ∧ l.length ≤ cap ∧ cap ≤ 9223372036854775807 ∧ (0 < l.length → b < w.heap.size) ∧
  ∀ i, i < l.length → ∃ vs, (w.cell? ⟨b, o + i * 4, none⟩ = some (.string (l.getD i body0).name) ∧ w.cell? ⟨b, o + i * 4 + 1, none⟩ = some (.int .i64 (l.getD i body0).gm) ∧ w.cell? ⟨b, o + i * 4 + 2, none⟩ = some (.int .i64 (l.getD i body0).rad) ∧ w.cell? ⟨b, o + i * 4 + 3, none⟩ = some vs) ∧
   (l.getD i body0).name.size ≤ 9223372036854775807 ∧ I64 (l.getD i body0).gm ∧ I64 (l.getD i body0).rad ∧ Sgs w vs (l.getD i body0).segs
theorem Bds.ext {a w : World} {v : Value} {l : List BodyD} (h : Bds a v l) (k : Ext a w) : Bds w v l := by
 obtain ⟨ao, b, o, cap, e, h1, h2, h3, h4, h5⟩ := h
 refine ⟨ao, b, o, cap, e, h1, h2, h3, fun h => Nat.lt_of_lt_of_le (h4 h) k.size, fun i hi => ?_⟩
 obtain ⟨vs, ⟨c0, c1, c2, c3⟩, f0, f1, f2, f3⟩ := h5 i hi
 have hb := h4 (by omega)
 exact ⟨vs, ⟨(k.cells.1 b _ hb).trans c0, (k.cells.1 b _ hb).trans c1, (k.cells.1 b _ hb).trans c2, (k.cells.1 b _ hb).trans c3⟩, f0, f1, f2, f3.ext k⟩
end Go.Proofs.YtbkgakgdbmjmjaaGreat
