/- A cell behind a pointer. -/
import Derived.Test.YtbkgakgdbmjmjaaGreatP03
set_option linter.unusedSimpArgs false
set_option linter.unusedVariables false
set_option maxRecDepth 100000
set_option maxHeartbeats 4000000
namespace Go.Proofs.YtbkgakgdbmjmjaaGreat
open Go.RowKit
theorem setCell_self (w : World) (b o : Nat) (v : Value) (h : w.cell? ⟨b, o, none⟩ = some v) : w.setCell ⟨b, o, none⟩ v = w := by
 simp only [World.cell?] at h
 have hh : (w.setCell ⟨b, o, none⟩ v).heap = w.heap := by
  apply Array.ext_getElem?
  intro k
  simp only [World.setCell, Array.getElem?_modify]
  split
  ·subst k
   cases hx : w.heap[b]? with
   | none => rfl
   | some x =>
    rw [hx] at h
    cases x with
    | cells c e f =>
     obtain ⟨f1, f2⟩ := f
     simp only [Option.isSome_none, Bool.false_eq_true, if_false] at h
     have hc : c.setIfInBounds o v = c := by
      apply Array.ext_getElem?
      intro j
      rw [Array.getElem?_setIfInBounds]
      split
      ·subst j
       split
       ·exact h.symm
       ·rename_i hn
        exact (Array.getElem?_eq_none (by omega)).symm
      ·rfl
     simp only [Option.map_some, Option.isSome_none, Bool.false_eq_true, if_false, hc]
    | _ => simp at h
  ·rfl
 cases w
 simp only [World.setCell] at hh ⊢
 rw [World.mk.injEq]
 exact ⟨hh, rfl, rfl, rfl, rfl⟩
theorem Ext.reset {w w' : World} {b o : Nat} {v v' : Value} (h : Ext (w.setCell ⟨b, o, none⟩ v) w') (_hb : b < w.heap.size) : Ext (w.setCell ⟨b, o, none⟩ v') (w'.setCell ⟨b, o, none⟩ v') := by
 have hz : w.heap.size ≤ w'.heap.size := by have := h.size; simpa using this
 refine ⟨h.os, h.tape, h.output, by simpa using hz, fun k hk => ?_⟩
 have hk' : k < w.heap.size := by simpa using hk
 have e := h.block k (by simpa using hk')
 by_cases c : b = k
 ·subst c
  simp only [World.setCell, Array.getElem?_modify, if_true] at e ⊢
  rw [e]
  cases hx : w.heap[b]? with
  | none => rfl
  | some x =>
   cases x with
   | cells c t f => simp
   | _ => rfl
 ·simp only [World.setCell, Array.getElem?_modify, if_neg c] at e ⊢
  exact e
theorem Ext.keep {w w' : World} {b o : Nat} {v : Value} (h : Ext w w') (hc : w.cell? ⟨b, o, none⟩ = some v) : Ext (w.setCell ⟨b, o, none⟩ v) w' := by
 rw [setCell_self w b o v hc]; exact h
theorem cell_drew (w : World) (p : Addr) : w.drew.cell? p = w.cell? p := rfl
theorem frozen_drew (w : World) (p : Addr) : w.drew.frozen? p = w.frozen? p := rfl
theorem setCell_some (w : World) (b o : Nat) : ∃ v, w.setCell ⟨b, o, none⟩ v = w := by
 cases h : w.cell? ⟨b, o, none⟩ with
 | some v => exact ⟨v, setCell_self w b o v h⟩
 | none =>
  refine ⟨.bool false, ?_⟩
  simp only [World.cell?] at h
  have hh : (w.setCell ⟨b, o, none⟩ (.bool false)).heap = w.heap := by
   apply Array.ext_getElem?
   intro k
   simp only [World.setCell, Array.getElem?_modify]
   split
   ·subst k
    cases hx : w.heap[b]? with
    | none => rfl
    | some x =>
     rw [hx] at h
     cases x with
     | cells c e f =>
      obtain ⟨f1, f2⟩ := f
      simp only [Option.isSome_none, Bool.false_eq_true, if_false] at h
      have hc : c.setIfInBounds o (.bool false) = c := by
       apply Array.ext_getElem?
       intro j
       rw [Array.getElem?_setIfInBounds]
       split
       ·subst j
        split
        ·rename_i hn
         have := Array.getElem?_eq_none_iff.1 h
         omega
        ·rename_i hn
         exact (Array.getElem?_eq_none (by omega)).symm
       ·rfl
      simp only [Option.map_some, Option.isSome_none, Bool.false_eq_true, if_false, hc]
     | _ => rfl
   ·rfl
  cases w
  simp only [World.setCell] at hh ⊢
  rw [World.mk.injEq]
  exact ⟨hh, rfl, rfl, rfl, rfl⟩
def ExtP (w : World) (p k : Nat) (w' : World) : Prop := ∃ v, Ext (w.setCell ⟨p, k, none⟩ v) w'
theorem ExtP.of {w w' : World} (p k : Nat) (h : Ext w w') : ExtP w p k w' := by
 obtain ⟨v, hv⟩ := setCell_some w p k
 exact ⟨v, by rw [hv]; exact h⟩
theorem ExtP.ext {w w' w1 : World} {p k : Nat} (h : ExtP w p k w') (hb : Ext w' w1) : ExtP w p k w1 := by
 obtain ⟨v, hv⟩ := h; exact ⟨v, hv.trans hb⟩
theorem setCell_out (w : World) (b o : Nat) (v : Value) (h : w.heap.size ≤ b) : w.setCell ⟨b, o, none⟩ v = w := by
 have hh : (w.setCell ⟨b, o, none⟩ v).heap = w.heap := by
  apply Array.ext_getElem?
  intro k
  simp only [World.setCell, Array.getElem?_modify]
  split
  ·subst k
   rw [Array.getElem?_eq_none (by omega)]; rfl
  ·rfl
 cases w
 simp only [World.setCell] at hh ⊢
 rw [World.mk.injEq]
 exact ⟨hh, rfl, rfl, rfl, rfl⟩
theorem ExtP.out {w w' : World} {p k : Nat} (h : ExtP w p k w') (hp : w.heap.size ≤ p) : Ext w w' := by
 obtain ⟨v, hv⟩ := h
 rw [setCell_out w p k v hp] at hv; exact hv
theorem ExtP.set {w w' : World} {p k : Nat} {v' : Value} (h : ExtP w p k w') : ExtP w p k (w'.setCell ⟨p, k, none⟩ v') := by
 by_cases hp : p < w.heap.size
 ·obtain ⟨v, hv⟩ := h
  exact ⟨v', hv.reset hp⟩
 ·exact ExtP.of _ _ ((h.out (by omega)).setCell (by show w.heap.size ≤ p; omega) _)
theorem ExtP.store {w w' : World} {p k : Nat} {q : Addr} {v' : Value} (h : ExtP w p k w') (hq : w.heap.size ≤ q.block) : ExtP w p k (w'.setCell q v') := by
 obtain ⟨v, hv⟩ := h
 exact ⟨v, hv.setCell (by simpa using hq) _⟩
theorem ExtP.same {w w' W : World} {p k : Nat} (h : Same W w') (k1 : ExtP w p k w') : ExtP w p k W := by cases (h : W = w'); exact k1
theorem ExtP.fin {w w' : World} {p k : Nat} {v' : Value} (h : ExtP w p k w') (c : w'.cell? ⟨p, k, none⟩ = some v') (hp : p < w.heap.size) : Ext (w.setCell ⟨p, k, none⟩ v') w' := by
 obtain ⟨v, hv⟩ := h
 have e : w'.cell? ⟨p, k, none⟩ = (w.setCell ⟨p, k, none⟩ v).cell? ⟨p, k, none⟩ := Below.cell hv (p := ⟨p, k, none⟩) (by simpa using hp)
 rw [cell_sc, if_pos rfl, c] at e
 cases hx : w.cell? ⟨p, k, none⟩ with
 | none => rw [hx] at e; cases e
 | some x =>
  rw [hx] at e
  have e2 : v' = v := by simpa using e
  rw [e2]; exact hv
theorem Ext.got {w w' : World} {p k : Nat} {v u : Value} (h : Ext (w.setCell ⟨p, k, none⟩ v) w') (c : w.cell? ⟨p, k, none⟩ = some u) : w'.cell? ⟨p, k, none⟩ = some v ∧ w'.frozen? ⟨p, k, none⟩ = w.frozen? ⟨p, k, none⟩ := by
 have hb := World.block_lt_of_cell? w _ c
 have e : w'.cell? ⟨p, k, none⟩ = (w.setCell ⟨p, k, none⟩ v).cell? ⟨p, k, none⟩ := Below.cell h (p := ⟨p, k, none⟩) (by simpa using hb)
 have f : w'.frozen? ⟨p, k, none⟩ = (w.setCell ⟨p, k, none⟩ v).frozen? ⟨p, k, none⟩ := Below.frozen h (p := ⟨p, k, none⟩) (by simpa using hb)
 rw [World.frozen?_setCell] at f
 rw [cell_sc, if_pos rfl, c] at e
 exact ⟨e, f⟩
theorem ExtP.trans {a b c : World} {p k : Nat} (h : ExtP a p k b) (h2 : ExtP b p k c) : ExtP a p k c := by
 obtain ⟨v, hv⟩ := h2
 exact (h.set (v' := v)).ext hv
theorem ExtP.cells2 {V x : World} {p k : Nat} {v : Value} (h : ExtP V p k x) (hc : x.cell? ⟨p, k, none⟩ = some v) :
    (∀ b o, x.cell? ⟨b, o, none⟩ = if b < V.heap.size then (if b = p ∧ o = k then some v else V.cell? ⟨b, o, none⟩) else oc x b o) ∧
    (∀ b o, x.frozen? ⟨b, o, none⟩ = if b < V.heap.size then V.frozen? ⟨b, o, none⟩ else ofz x b o) ∧ V.heap.size ≤ x.heap.size := by
 obtain ⟨u, hu⟩ := h
 have hz : V.heap.size ≤ x.heap.size := by have := hu.size; simpa using this
 refine ⟨fun b o => ?_, fun b o => ?_, hz⟩
 ·split
  ·split
   ·rename_i hb; obtain ⟨rfl, rfl⟩ := hb; exact hc
   ·rename_i h1 h2
    have e : x.cell? ⟨b, o, none⟩ = (V.setCell ⟨p, k, none⟩ u).cell? ⟨b, o, none⟩ := Below.cell hu (p := ⟨b, o, none⟩) (by simpa using h1)
    rw [e, cell_sc, if_neg (by intro e; injection e; exact h2 ⟨‹_›, ‹_›⟩)]
  ·rfl
 ·split
  ·rename_i h1
   have e : x.frozen? ⟨b, o, none⟩ = (V.setCell ⟨p, k, none⟩ u).frozen? ⟨b, o, none⟩ := Below.frozen hu (p := ⟨b, o, none⟩) (by simpa using h1)
   rw [e, World.frozen?_setCell]
  ·rfl
theorem obx_of {w : World} {b o : Nat} {v : Value} (h : w.cell? ⟨b, o, none⟩ = some v) (x : Value) : obx w b o x = v := by simp [obx, h]
theorem hel0 {w W : World} {RB lo hi P k : Nat} (hw : ExtP w P k W) :
    (∀ b o, b < W.heap.size → (W.drew).cell? ⟨b, o, none⟩ = if (b = RB ∧ lo ≤ o ∧ o < hi ∨ b = P ∧ o = k) then (W.cell? ⟨b, o, none⟩).map (obx (W.drew) b o) else W.cell? ⟨b, o, none⟩) ∧ (∀ b o, b < W.heap.size → (W.drew).frozen? ⟨b, o, none⟩ = W.frozen? ⟨b, o, none⟩) ∧ W.heap.size ≤ (W.drew).heap.size ∧ ExtP w P k (W.drew) := by
 refine ⟨fun b o _ => ?_, fun _ _ _ => rfl, Nat.le_refl _, hw.ext ((Ext.refl _).drew)⟩
 show W.cell? ⟨b, o, none⟩ = _
 split
 ·cases h : W.cell? ⟨b, o, none⟩ with
  | none => rfl
  | some x => simp [obx, show W.drew.cell? ⟨b, o, none⟩ = W.cell? ⟨b, o, none⟩ from rfl, h]
 ·rfl
theorem hel1 {w W w' w1 : World} {RB lo hi P k : Nat} (h : (∀ b o, b < W.heap.size → (w').cell? ⟨b, o, none⟩ = if (b = RB ∧ lo ≤ o ∧ o < hi ∨ b = P ∧ o = k) then (W.cell? ⟨b, o, none⟩).map (obx (w') b o) else W.cell? ⟨b, o, none⟩) ∧ (∀ b o, b < W.heap.size → (w').frozen? ⟨b, o, none⟩ = W.frozen? ⟨b, o, none⟩) ∧ W.heap.size ≤ (w').heap.size ∧ ExtP w P k (w'))
    (hb : Ext w' w1) : (∀ b o, b < W.heap.size → (w1).cell? ⟨b, o, none⟩ = if (b = RB ∧ lo ≤ o ∧ o < hi ∨ b = P ∧ o = k) then (W.cell? ⟨b, o, none⟩).map (obx (w1) b o) else W.cell? ⟨b, o, none⟩) ∧ (∀ b o, b < W.heap.size → (w1).frozen? ⟨b, o, none⟩ = W.frozen? ⟨b, o, none⟩) ∧ W.heap.size ≤ (w1).heap.size ∧ ExtP w P k (w1) := by
 obtain ⟨h1, h2, h3, h4⟩ := h
 refine ⟨fun b o hc => ?_, fun b o hc => ?_, Nat.le_trans h3 hb.size, h4.ext hb⟩
 ·have e : w1.cell? ⟨b, o, none⟩ = w'.cell? ⟨b, o, none⟩ := Below.cell hb (p := ⟨b, o, none⟩) (Nat.lt_of_lt_of_le hc h3)
  rw [e, h1 b o hc]
  split
  ·congr 1
   funext x
   simp only [obx, e]
  ·rfl
 ·exact b_0
theorem hel2a {W w' : World} {RB lo hi P k : Nat} {p : Addr} {v : Value}
    (h : (∀ b o, b < W.heap.size → (w').cell? ⟨b, o, none⟩ = if (b = RB ∧ lo ≤ o ∧ o < hi ∨ b = P ∧ o = k) then (W.cell? ⟨b, o, none⟩).map (obx (w') b o) else W.cell? ⟨b, o, none⟩) ∧ (∀ b o, b < W.heap.size → (w').frozen? ⟨b, o, none⟩ = W.frozen? ⟨b, o, none⟩) ∧ W.heap.size ≤ (w').heap.size)
    (hp : (p.block = RB ∧ lo ≤ p.off ∧ p.off < hi) ∨ (p.block = P ∧ p.off = k) ∨ W.heap.size ≤ p.block) :
    (∀ b o, b < W.heap.size → (w'.setCell p v).cell? ⟨b, o, none⟩ = if (b = RB ∧ lo ≤ o ∧ o < hi ∨ b = P ∧ o = k) then (W.cell? ⟨b, o, none⟩).map (obx (w'.setCell p v) b o) else W.cell? ⟨b, o, none⟩) ∧ (∀ b o, b < W.heap.size → (w'.setCell p v).frozen? ⟨b, o, none⟩ = W.frozen? ⟨b, o, none⟩) ∧ W.heap.size ≤ (w'.setCell p v).heap.size := by
 obtain ⟨h1, h2, h3⟩ := h
 refine ⟨fun b o hc => ?_, fun b o hc => ?_, by simpa using h3⟩
 ·have h1' := h1 b o hc
  by_cases he : (⟨b, o, none⟩ : Addr) = p
  ·have hr : (b = RB ∧ lo ≤ o ∧ o < hi ∨ b = P ∧ o = k) := by
    rcases hp with hp | hp | hp
    ·rw [← he] at hp; exact Or.inl hp
    ·rw [← he] at hp; exact Or.inr hp
    ·exact b_1
   rw [if_pos hr] at h1' ⊢
   cases hx : W.cell? ⟨b, o, none⟩ with
   | none =>
    rw [hx] at h1'
    simp only [Option.map_none] at h1' ⊢
    rw [cell_sc, if_pos he, ← he, h1']; rfl
   | some x =>
    rw [hx] at h1'
    simp only [Option.map_some] at h1' ⊢
    have hs : (w'.setCell p v).cell? ⟨b, o, none⟩ = some v := by
     rw [cell_sc, if_pos he, ← he, h1']; rfl
    simp only [obx, hs, Option.getD_some]
  ·have e : (w'.setCell p v).cell? ⟨b, o, none⟩ = w'.cell? ⟨b, o, none⟩ := by rw [cell_sc, if_neg he]
   rw [e, h1']
   split
   ·congr 1
    funext x
    simp only [obx, e]
   ·rfl
 ·rw [World.frozen?_setCell, h2 b o hc]
theorem hel2 {w W w' : World} {RB lo hi P k : Nat} {p : Addr} {v : Value}
    (h : (∀ b o, b < W.heap.size → (w').cell? ⟨b, o, none⟩ = if (b = RB ∧ lo ≤ o ∧ o < hi ∨ b = P ∧ o = k) then (W.cell? ⟨b, o, none⟩).map (obx (w') b o) else W.cell? ⟨b, o, none⟩) ∧ (∀ b o, b < W.heap.size → (w').frozen? ⟨b, o, none⟩ = W.frozen? ⟨b, o, none⟩) ∧ W.heap.size ≤ (w').heap.size ∧ ExtP w P k (w'))
    (hp : (p.block = RB ∧ lo ≤ p.off ∧ p.off < hi) ∨ (p.block = P ∧ p.off = k) ∨ W.heap.size ≤ p.block) (hw : w.heap.size ≤ p.block) :
    (∀ b o, b < W.heap.size → (w'.setCell p v).cell? ⟨b, o, none⟩ = if (b = RB ∧ lo ≤ o ∧ o < hi ∨ b = P ∧ o = k) then (W.cell? ⟨b, o, none⟩).map (obx (w'.setCell p v) b o) else W.cell? ⟨b, o, none⟩) ∧ (∀ b o, b < W.heap.size → (w'.setCell p v).frozen? ⟨b, o, none⟩ = W.frozen? ⟨b, o, none⟩) ∧ W.heap.size ≤ (w'.setCell p v).heap.size ∧ ExtP w P k (w'.setCell p v) := by
 obtain ⟨h1, h2, h3, h4⟩ := h
 have g := hel2a (v := v) ⟨h1, h2, h3⟩ hp
 exact ⟨g.1, g.2.1, g.2.2, h4.store hw⟩
theorem hel2p {w W w' : World} {RB lo hi P k : Nat} {v : Value}
    (h : (∀ b o, b < W.heap.size → (w').cell? ⟨b, o, none⟩ = if (b = RB ∧ lo ≤ o ∧ o < hi ∨ b = P ∧ o = k) then (W.cell? ⟨b, o, none⟩).map (obx (w') b o) else W.cell? ⟨b, o, none⟩) ∧ (∀ b o, b < W.heap.size → (w').frozen? ⟨b, o, none⟩ = W.frozen? ⟨b, o, none⟩) ∧ W.heap.size ≤ (w').heap.size ∧ ExtP w P k (w')) :
    (∀ b o, b < W.heap.size → (w'.setCell ⟨P, k, none⟩ v).cell? ⟨b, o, none⟩ = if (b = RB ∧ lo ≤ o ∧ o < hi ∨ b = P ∧ o = k) then (W.cell? ⟨b, o, none⟩).map (obx (w'.setCell ⟨P, k, none⟩ v) b o) else W.cell? ⟨b, o, none⟩) ∧ (∀ b o, b < W.heap.size → (w'.setCell ⟨P, k, none⟩ v).frozen? ⟨b, o, none⟩ = W.frozen? ⟨b, o, none⟩) ∧ W.heap.size ≤ (w'.setCell ⟨P, k, none⟩ v).heap.size ∧ ExtP w P k (w'.setCell ⟨P, k, none⟩ v) := by
 obtain ⟨h1, h2, h3, h4⟩ := h
 have g := hel2a (p := ⟨P, k, none⟩) (v := v) ⟨h1, h2, h3⟩ (Or.inr (Or.inl ⟨rfl, rfl⟩))
 exact ⟨g.1, g.2.1, g.2.2, h4.set⟩
theorem hel1p {w W w' w1 : World} {RB lo hi P k : Nat} {v : Value} (h : (∀ b o, b < W.heap.size → (w').cell? ⟨b, o, none⟩ = if (b = RB ∧ lo ≤ o ∧ o < hi ∨ b = P ∧ o = k) then (W.cell? ⟨b, o, none⟩).map (obx (w') b o) else W.cell? ⟨b, o, none⟩) ∧ (∀ b o, b < W.heap.size → (w').frozen? ⟨b, o, none⟩ = W.frozen? ⟨b, o, none⟩) ∧ W.heap.size ≤ (w').heap.size ∧ ExtP w P k (w'))
    (hb : Ext (w'.setCell ⟨P, k, none⟩ v) w1) : (∀ b o, b < W.heap.size → (w1).cell? ⟨b, o, none⟩ = if (b = RB ∧ lo ≤ o ∧ o < hi ∨ b = P ∧ o = k) then (W.cell? ⟨b, o, none⟩).map (obx (w1) b o) else W.cell? ⟨b, o, none⟩) ∧ (∀ b o, b < W.heap.size → (w1).frozen? ⟨b, o, none⟩ = W.frozen? ⟨b, o, none⟩) ∧ W.heap.size ≤ (w1).heap.size ∧ ExtP w P k (w1) := hel1 (hel2p h) hb
theorem hel3 {w W w' : World} {RB lo hi P k : Nat} {ob : Obj} (h : (∀ b o, b < W.heap.size → (w').cell? ⟨b, o, none⟩ = if (b = RB ∧ lo ≤ o ∧ o < hi ∨ b = P ∧ o = k) then (W.cell? ⟨b, o, none⟩).map (obx (w') b o) else W.cell? ⟨b, o, none⟩) ∧ (∀ b o, b < W.heap.size → (w').frozen? ⟨b, o, none⟩ = W.frozen? ⟨b, o, none⟩) ∧ W.heap.size ≤ (w').heap.size ∧ ExtP w P k (w')) :
    (∀ b o, b < W.heap.size → (w'.alloc ob).cell? ⟨b, o, none⟩ = if (b = RB ∧ lo ≤ o ∧ o < hi ∨ b = P ∧ o = k) then (W.cell? ⟨b, o, none⟩).map (obx (w'.alloc ob) b o) else W.cell? ⟨b, o, none⟩) ∧ (∀ b o, b < W.heap.size → (w'.alloc ob).frozen? ⟨b, o, none⟩ = W.frozen? ⟨b, o, none⟩) ∧ W.heap.size ≤ (w'.alloc ob).heap.size ∧ ExtP w P k (w'.alloc ob) := hel1 h ((Ext.refl _).alloc _)
theorem hel3d {w W w' : World} {RB lo hi P k : Nat} {ob : Obj} (h : (∀ b o, b < W.heap.size → (w'.drew).cell? ⟨b, o, none⟩ = if (b = RB ∧ lo ≤ o ∧ o < hi ∨ b = P ∧ o = k) then (W.cell? ⟨b, o, none⟩).map (obx (w'.drew) b o) else W.cell? ⟨b, o, none⟩) ∧ (∀ b o, b < W.heap.size → (w'.drew).frozen? ⟨b, o, none⟩ = W.frozen? ⟨b, o, none⟩) ∧ W.heap.size ≤ (w'.drew).heap.size ∧ ExtP w P k (w'.drew)) :
    (∀ b o, b < W.heap.size → ((w'.alloc ob).drew).cell? ⟨b, o, none⟩ = if (b = RB ∧ lo ≤ o ∧ o < hi ∨ b = P ∧ o = k) then (W.cell? ⟨b, o, none⟩).map (obx ((w'.alloc ob).drew) b o) else W.cell? ⟨b, o, none⟩) ∧ (∀ b o, b < W.heap.size → ((w'.alloc ob).drew).frozen? ⟨b, o, none⟩ = W.frozen? ⟨b, o, none⟩) ∧ W.heap.size ≤ ((w'.alloc ob).drew).heap.size ∧ ExtP w P k ((w'.alloc ob).drew) := hel3 (w' := w'.drew) h
theorem helBack {W w' : World} {RB lo hi P k : Nat} {p : Addr} {v : Value}
    (h : (∀ b o, b < W.heap.size → (w'.setCell p v).cell? ⟨b, o, none⟩ = if (b = RB ∧ lo ≤ o ∧ o < hi ∨ b = P ∧ o = k) then (W.cell? ⟨b, o, none⟩).map (obx (w'.setCell p v) b o) else W.cell? ⟨b, o, none⟩) ∧ (∀ b o, b < W.heap.size → (w'.setCell p v).frozen? ⟨b, o, none⟩ = W.frozen? ⟨b, o, none⟩) ∧ W.heap.size ≤ (w'.setCell p v).heap.size)
    (hp : (p.block = RB ∧ lo ≤ p.off ∧ p.off < hi) ∨ (p.block = P ∧ p.off = k) ∨ W.heap.size ≤ p.block) :
    (∀ b o, b < W.heap.size → (w').cell? ⟨b, o, none⟩ = if (b = RB ∧ lo ≤ o ∧ o < hi ∨ b = P ∧ o = k) then (W.cell? ⟨b, o, none⟩).map (obx (w') b o) else W.cell? ⟨b, o, none⟩) ∧ (∀ b o, b < W.heap.size → (w').frozen? ⟨b, o, none⟩ = W.frozen? ⟨b, o, none⟩) ∧ W.heap.size ≤ (w').heap.size := by
 obtain ⟨h1, h2, h3⟩ := h
 refine ⟨fun b o hc => ?_, fun b o hc => ?_, by simpa using h3⟩
 ·have h1' := h1 b o hc
  rw [cell_sc] at h1'
  split at h1'
  ·rename_i he
   have hr : (b = RB ∧ lo ≤ o ∧ o < hi ∨ b = P ∧ o = k) := by
    rcases hp with hp | hp | hp
    ·rw [← he] at hp; exact Or.inl hp
    ·rw [← he] at hp; exact Or.inr hp
    ·exact b_1
   rw [if_pos hr] at h1' ⊢
   rw [← he] at h1'
   cases hx : W.cell? ⟨b, o, none⟩ with
   | none => rw [hx] at h1'; simpa using h1'
   | some x =>
    rw [hx] at h1'
    cases hy : w'.cell? ⟨b, o, none⟩ with
    | none => rw [hy] at h1'; simp at h1'
    | some y => simp [obx, hy]
  ·rename_i he
   have e : (w'.setCell p v).cell? ⟨b, o, none⟩ = w'.cell? ⟨b, o, none⟩ := by rw [cell_sc, if_neg he]
   rw [h1']
   split
   ·congr 1
    funext x
    simp only [obx, e]
   ·rfl
 ·have h2' := h2 b o hc
  rw [World.frozen?_setCell] at h2'
  exact h2'
theorem helBackA {W w' : World} {RB lo hi P k : Nat} {ob : Obj}
    (h : (∀ b o, b < W.heap.size → (w'.alloc ob).cell? ⟨b, o, none⟩ = if (b = RB ∧ lo ≤ o ∧ o < hi ∨ b = P ∧ o = k) then (W.cell? ⟨b, o, none⟩).map (obx (w'.alloc ob) b o) else W.cell? ⟨b, o, none⟩) ∧ (∀ b o, b < W.heap.size → (w'.alloc ob).frozen? ⟨b, o, none⟩ = W.frozen? ⟨b, o, none⟩) ∧ W.heap.size ≤ (w'.alloc ob).heap.size)
    (hz : W.heap.size ≤ w'.heap.size) :
    (∀ b o, b < W.heap.size → (w').cell? ⟨b, o, none⟩ = if (b = RB ∧ lo ≤ o ∧ o < hi ∨ b = P ∧ o = k) then (W.cell? ⟨b, o, none⟩).map (obx (w') b o) else W.cell? ⟨b, o, none⟩) ∧ (∀ b o, b < W.heap.size → (w').frozen? ⟨b, o, none⟩ = W.frozen? ⟨b, o, none⟩) ∧ W.heap.size ≤ (w').heap.size := by
 obtain ⟨h1, h2, h3⟩ := h
 refine ⟨fun b o hc => ?_, fun b o hc => ?_, hz⟩
 ·have e : (w'.alloc ob).cell? ⟨b, o, none⟩ = w'.cell? ⟨b, o, none⟩ := Below.cell ((Ext.refl w').alloc ob) (p := ⟨b, o, none⟩) (Nat.lt_of_lt_of_le hc hz)
  rw [← e, h1 b o hc]
  split
  ·congr 1
   funext x
   simp only [obx, e]
  ·rfl
 ·have e : (w'.alloc ob).frozen? ⟨b, o, none⟩ = w'.frozen? ⟨b, o, none⟩ := Below.frozen ((Ext.refl w').alloc ob) (p := ⟨b, o, none⟩) (Nat.lt_of_lt_of_le hc hz)
  rw [← e, h2 b o hc]
theorem hel4 {w W w' : World} {RB lo hi P k : Nat} {ob ob' : Obj} (h : (∀ b o, b < W.heap.size → (w'.alloc ob).cell? ⟨b, o, none⟩ = if (b = RB ∧ lo ≤ o ∧ o < hi ∨ b = P ∧ o = k) then (W.cell? ⟨b, o, none⟩).map (obx (w'.alloc ob) b o) else W.cell? ⟨b, o, none⟩) ∧ (∀ b o, b < W.heap.size → (w'.alloc ob).frozen? ⟨b, o, none⟩ = W.frozen? ⟨b, o, none⟩) ∧ W.heap.size ≤ (w'.alloc ob).heap.size ∧ ExtP w P k (w'.alloc ob)) (hz : W.heap.size ≤ w'.heap.size) (hz2 : w.heap.size ≤ w'.heap.size) :
    (∀ b o, b < W.heap.size → (w'.alloc ob').cell? ⟨b, o, none⟩ = if (b = RB ∧ lo ≤ o ∧ o < hi ∨ b = P ∧ o = k) then (W.cell? ⟨b, o, none⟩).map (obx (w'.alloc ob') b o) else W.cell? ⟨b, o, none⟩) ∧ (∀ b o, b < W.heap.size → (w'.alloc ob').frozen? ⟨b, o, none⟩ = W.frozen? ⟨b, o, none⟩) ∧ W.heap.size ≤ (w'.alloc ob').heap.size ∧ ExtP w P k (w'.alloc ob') := by
 have h3 := helBackA ⟨h.1, h.2.1, h.2.2.1⟩ hz
 obtain ⟨v, hE⟩ := h.2.2.2
 have hE' : Ext (w.setCell ⟨P, k, none⟩ v) w' := ⟨hE.os, hE.tape, hE.output, by simpa using hz2, fun j hj => by
  have hj' : j < w'.heap.size := Nat.lt_of_lt_of_le (by simpa using hj) hz2
  rw [← hE.block j hj]; exact (Below.heap_alloc w' ob j hj').symm⟩
 exact hel3 ⟨h3.1, h3.2.1, h3.2.2, ⟨v, hE'⟩⟩
theorem helEnd {W w' : World} {RB lo hi P k : Nat}
    (h : (∀ b o, b < W.heap.size → (w').cell? ⟨b, o, none⟩ = if (b = RB ∧ lo ≤ o ∧ o < hi ∨ b = P ∧ o = k) then (W.cell? ⟨b, o, none⟩).map (obx (w') b o) else W.cell? ⟨b, o, none⟩) ∧ (∀ b o, b < W.heap.size → (w').frozen? ⟨b, o, none⟩ = W.frozen? ⟨b, o, none⟩) ∧ W.heap.size ≤ (w').heap.size) :
    (∀ b o, w'.cell? ⟨b, o, none⟩ = if b < W.heap.size then (if (b = RB ∧ lo ≤ o ∧ o < hi ∨ b = P ∧ o = k) then (W.cell? ⟨b, o, none⟩).map (obx w' b o) else W.cell? ⟨b, o, none⟩) else oc w' b o) ∧ (∀ b o, w'.frozen? ⟨b, o, none⟩ = if b < W.heap.size then W.frozen? ⟨b, o, none⟩ else ofz w' b o) ∧ W.heap.size ≤ w'.heap.size :=
  ⟨fun b o => by
    split
    · exact h.1 b o ‹_›
    · rfl, fun b o => by
    split
    · exact h.2.1 b o ‹_›
    · rfl, h.2.2⟩
theorem heldDrop {w W w' : World} {RB lo hi : Nat} {ob : Obj} (h : (∀ b o, b < W.heap.size → (w'.alloc ob).cell? ⟨b, o, none⟩ = if b = RB ∧ lo ≤ o ∧ o < hi then (W.cell? ⟨b, o, none⟩).map (obx (w'.alloc ob) b o) else W.cell? ⟨b, o, none⟩) ∧ (∀ b o, b < W.heap.size → (w'.alloc ob).frozen? ⟨b, o, none⟩ = W.frozen? ⟨b, o, none⟩) ∧ W.heap.size ≤ (w'.alloc ob).heap.size ∧ Ext w (w'.alloc ob)) (hz : W.heap.size ≤ w'.heap.size) (hz2 : w.heap.size ≤ w'.heap.size) :
    (∀ b o, b < W.heap.size → (w').cell? ⟨b, o, none⟩ = if b = RB ∧ lo ≤ o ∧ o < hi then (W.cell? ⟨b, o, none⟩).map (obx (w') b o) else W.cell? ⟨b, o, none⟩) ∧ (∀ b o, b < W.heap.size → (w').frozen? ⟨b, o, none⟩ = W.frozen? ⟨b, o, none⟩) ∧ W.heap.size ≤ (w').heap.size ∧ Ext w (w') := by
 have hE := h.2.2.2
 have h3 := heldBackA ⟨h.1, h.2.1, h.2.2.1⟩ hz
 have hE' : Ext w w' := ⟨hE.os, hE.tape, hE.output, hz2, fun k hk => by
  rw [← hE.block k hk]; exact (Below.heap_alloc w' ob k (Nat.lt_of_lt_of_le hk hz2)).symm⟩
 exact ⟨h3.1, h3.2.1, h3.2.2, hE'⟩
theorem held5 {w W w' : World} {RB lo hi : Nat} {o1 o1' o2 : Obj} (h : (∀ b o, b < W.heap.size → ((w'.alloc o1).alloc o2).cell? ⟨b, o, none⟩ = if b = RB ∧ lo ≤ o ∧ o < hi then (W.cell? ⟨b, o, none⟩).map (obx ((w'.alloc o1).alloc o2) b o) else W.cell? ⟨b, o, none⟩) ∧ (∀ b o, b < W.heap.size → ((w'.alloc o1).alloc o2).frozen? ⟨b, o, none⟩ = W.frozen? ⟨b, o, none⟩) ∧ W.heap.size ≤ ((w'.alloc o1).alloc o2).heap.size ∧ Ext w ((w'.alloc o1).alloc o2)) (hz : W.heap.size ≤ w'.heap.size) (hz2 : w.heap.size ≤ w'.heap.size) :
    (∀ b o, b < W.heap.size → ((w'.alloc o1').alloc o2).cell? ⟨b, o, none⟩ = if b = RB ∧ lo ≤ o ∧ o < hi then (W.cell? ⟨b, o, none⟩).map (obx ((w'.alloc o1').alloc o2) b o) else W.cell? ⟨b, o, none⟩) ∧ (∀ b o, b < W.heap.size → ((w'.alloc o1').alloc o2).frozen? ⟨b, o, none⟩ = W.frozen? ⟨b, o, none⟩) ∧ W.heap.size ≤ ((w'.alloc o1').alloc o2).heap.size ∧ Ext w ((w'.alloc o1').alloc o2) :=
  held3 (held4 (heldDrop h (by simp only [World.size_alloc]; omega) (by simp only [World.size_alloc]; omega)) hz hz2)
theorem sdiv_p (a b c d : Int) (w : World) (hk : ck2 a b c d = 0) (h0 : 0 < c) :
    Calls Tryz.prog 114 #[.agg #[.int .i64 a, .int .i64 b], .agg #[.int .i64 c, .int .i64 d]] w fun e w' => e = .returned (.tuple #[.agg #[.int .i64 (divP a b c d).lo, .int .i64 (divP a b c d).hi], .int .i64 (divP a b c d).e]) ∧ Ext w w' := by
 obtain ⟨hk1, hk2⟩ := ck2_ok hk
 obtain ⟨ka1, ka2, ka3⟩ := ckI_ok hk1
 obtain ⟨kc1, kc2, kc3⟩ := ckI_ok hk2
 have hM : I64 1099511627776 := by unfold I64; omega
 have hA : I64 a := by unfold I64; omega
 have hB : I64 b := by unfold I64; omega
 have ec : IntKind.u64.wrap c = c := by rw [IntKind.wrap_u64]; omega
 have ed : IntKind.u64.wrap d = d := by rw [IntKind.wrap_u64]; omega
 have eV := divP_prog (a := a) (b := b) h0 kc1
 go_enter Tryz.func114, Tryz.ntmps114
 go_upto_region 9 with (first | (go_at_call 66; (with_reducible refine (check_2 _ _ _ _ _ _ c_53).mono ?_); rintro e w1 ⟨rfl, hb⟩; obtain ⟨_, _, ⟨hc, hf⟩, hz⟩ := hb.c3; (try simp only [wsz] at hz hc hf)))
 refine wp_name fun V hV => ?_
 obtain ⟨hVc, hVf, hVz⟩ := hV.cells
 have hVe : Ext w V := Ext.same hV ex_
 (try simp only [wsz] at hVz)
 replace hVz := And.intro (Nat.le_of_eq hVz) (Nat.le_of_eq hVz.symm)
 have hlv : w.heap.size < V.heap.size ∧ w.heap.size + 1 < V.heap.size ∧ w.heap.size + 1 + 1 < V.heap.size := (by refine ⟨?_, ?_, ?_⟩ <;> omega)
 have hd := q_18 w.heap.size (w.heap.size + 1) (w.heap.size + 1 + 1)
 have hnv : ¬ w.heap.size = V.heap.size ∧ ¬ w.heap.size + 1 = V.heap.size ∧ ¬ w.heap.size + 1 + 1 = V.heap.size := (by omega)
 go_cut [7, 8] (fun sx0 sx1 wx => ∃ g h : Nat, sx0 = .pointer (some ⟨g, 0, none⟩) ∧ sx1 = .pointer (some ⟨h, 0, none⟩) ∧ Ext V wx ∧ V.heap.size ≤ g ∧ g < wx.heap.size ∧ (∀ o, wx.frozen? ⟨g, o, none⟩ = false) ∧ V.heap.size ≤ h ∧ h < wx.heap.size ∧ (∀ o, wx.frozen? ⟨h, o, none⟩ = false) ∧ g ≠ h ∧ wx.cell? ⟨g, 0, none⟩ = some (.int .i64 ((a * 1099511627776) / 18446744073709551616)) ∧ wx.cell? ⟨g, 1, none⟩ = some (.int .u64 ((a * 1099511627776) % 18446744073709551616)) ∧ wx.cell? ⟨h, 0, none⟩ = some (.int .i64 ((b * 1099511627776) / 18446744073709551616)) ∧ wx.cell? ⟨h, 1, none⟩ = some (.int .u64 ((b * 1099511627776) % 18446744073709551616)))
 case first =>
  have hWe : Ext V V := Ext.refl V
  go_region_held3 (fun w' => (∀ b o, b < V.heap.size → w'.cell? ⟨b, o, none⟩ = if b = V.heap.size ∧ 0 ≤ o ∧ o < 0 then (V.cell? ⟨b, o, none⟩).map (obx w' b o) else V.cell? ⟨b, o, none⟩) ∧ (∀ b o, b < V.heap.size → w'.frozen? ⟨b, o, none⟩ = V.frozen? ⟨b, o, none⟩) ∧ V.heap.size ≤ w'.heap.size ∧ Ext V w') (exact k_2) ((first | (go_at_call 163; (with_reducible refine (times_any (a) 1099511627776 _ hA hM).mono ?_); rintro e w2 ⟨rfl, hb0⟩; obtain ⟨hq0, hr0⟩ := hb0.cells; have hz0 := hb0.size; (try simp only [wsd] at hz0 hq0 hr0); (try have hly0 : V.heap.size < w2.heap.size := by omega); (try have hly1 : V.heap.size + 1 < w2.heap.size := by omega)) | (go_at_call 163; (with_reducible refine (times_any (b) 1099511627776 _ hB hM).mono ?_); rintro e w3 ⟨rfl, hb1⟩; obtain ⟨hq1, hr1⟩ := hb1.cells; have hz1 := hb1.size; (try simp only [wsd] at hz1 hq1 hr1); (try have hly0 : V.heap.size < w3.heap.size := by omega); (try have hly1 : V.heap.size + 1 < w3.heap.size := by omega); (try have hly2 : w2.heap.size < w3.heap.size := by omega); (try have hly3 : w2.heap.size + 1 < w3.heap.size := by omega))))
  all_goals
   rename_i hOld
   clear hOld
   go_wp2_with fail
   go_meet
   refine ⟨_, _, rfl, rfl, ?_, ?_, ?_, ?_, ?_, ?_, ?_, ?_, ?_, ?_, ?_, ?_⟩
   ·exact b_5
   all_goals first | ((try simp only [wsz]); omega) | (intro o; simp [go_sem, ↓IntWalk.iteOmega, *]; done) | (simp [go_sem, ↓IntWalk.iteOmega, *]; done)
 case rest =>
  obtain ⟨g, h, rfl, rfl, hx, hg01, hg02, hgf0, hg11, hg12, hgf1, hgh, hv00, hv01, hv10, hv11⟩ := hcut
  obtain ⟨_, _, hcc, hcf⟩ := hx.cells2
  have hcz := hx.size
  replace hVe := hVe.trans hx
  have hlv2 : w.heap.size < wc.heap.size ∧ w.heap.size + 1 < wc.heap.size ∧ w.heap.size + 1 + 1 < wc.heap.size := (by omega)
  have hlg := q_11 w.heap.size g h (w.heap.size + 1) (w.heap.size + 1 + 1)
  clear hx
  go_wp2_with fail
  refine wp_name fun W hW => ?_
  obtain ⟨hWc, hWf, hWz⟩ := hW.cells
  have hlw : w.heap.size < wc.heap.size ∧ w.heap.size + 1 < wc.heap.size ∧ w.heap.size + 1 + 1 < wc.heap.size ∧ g < wc.heap.size ∧ h < wc.heap.size := (by omega)
  have hWe : Ext w W := Ext.same hW ex_
  (try simp only [wsz] at hWz)
  go_region_held3 (fun w' => (∀ b o, b < W.heap.size → w'.cell? ⟨b, o, none⟩ = if b = w.heap.size ∧ 0 ≤ o ∧ o < 0 then (W.cell? ⟨b, o, none⟩).map (obx w' b o) else W.cell? ⟨b, o, none⟩) ∧ (∀ b o, b < W.heap.size → w'.frozen? ⟨b, o, none⟩ = W.frozen? ⟨b, o, none⟩) ∧ W.heap.size ≤ w'.heap.size ∧ Ext w w') (exact k_3) (fail)
  rename_i hOld
  have hE := hOld.2.2.2
  have hO := And.intro hOld.1 (And.intro hOld.2.1 hOld.2.2.1)
  clear hOld
  obtain ⟨hOc, hOf, hOz⟩ := heldEnd hO
  clear hO
  go_wp2_with fail
  refine wp_name fun W hW => ?_
  obtain ⟨hWc, hWf, hWz⟩ := hW.cells
  have hlw : w.heap.size < wc.heap.size ∧ w.heap.size + 1 < wc.heap.size ∧ w.heap.size + 1 + 1 < wc.heap.size := (by omega)
  have hWe : Ext w W := Ext.same hW ex_
  (try simp only [wsz] at hWz)
  go_region_held3 (fun w' => (∀ b o, b < W.heap.size → w'.cell? ⟨b, o, none⟩ = if b = w.heap.size + 1 + 1 ∧ 0 ≤ o ∧ o < 2 then (W.cell? ⟨b, o, none⟩).map (obx w' b o) else W.cell? ⟨b, o, none⟩) ∧ (∀ b o, b < W.heap.size → w'.frozen? ⟨b, o, none⟩ = W.frozen? ⟨b, o, none⟩) ∧ W.heap.size ≤ w'.heap.size ∧ Ext w w') (exact k_3) ((first | (go_at_call 166; (with_reducible refine (down_any _ _ _ (abs_mul_bound hA hM).1 (abs_mul_bound hA hM).2 (by omega) (by omega)).mono ?_); rintro e w2 ⟨rfl, hb2⟩; have hz2 := hb2.size; (try rw [size_drew] at hz2)) | (go_at_call 168; (with_reducible refine (up_any _ _ _ (abs_mul_bound hB hM).1 (abs_mul_bound hB hM).2 (by omega) (by omega)).mono ?_); rintro e w2 ⟨rfl, hb2⟩; have hz2 := hb2.size; (try rw [size_drew] at hz2)) | (go_at_call 112; (with_reducible refine (span_made _ _ _).mono ?_); rintro e w2 ⟨rfl, hb2⟩; have hz2 := hb2.size; (try rw [size_drew] at hz2))))
  all_goals
   rename_i hOld
   have hE := hOld.2.2.2
   have hO := And.intro hOld.1 (And.intro hOld.2.1 hOld.2.2.1)
   clear hOld
   replace hO := heldBack hO c_18
   replace hO := heldBack hO c_18
   obtain ⟨hOc, hOf, hOz⟩ := heldEnd hO
   clear hO
   go_wp2_with fail
   refine bodyPost_ret (v := .tuple #[.agg #[.int .i64 (divP a b c d).lo, .int .i64 (divP a b c d).hi], .int .i64 (divP a b c d).e]) ?_ rfl ⟨rfl, ?_⟩
   ·(try simp only [bn_, bm_] at *)
    simp [results, Tryz.results114, go_sem, ↓IntWalk.iteOmega, eV, *]
   ·exact b_6
theorem sdiv_n (a b c d : Int) (w : World) (hk : ck2 a b c d = 0) (h0 : d < 0) :
    Calls Tryz.prog 114 #[.agg #[.int .i64 a, .int .i64 b], .agg #[.int .i64 c, .int .i64 d]] w fun e w' => e = .returned (.tuple #[.agg #[.int .i64 (divP (-b) (-a) (-d) (-c)).lo, .int .i64 (divP (-b) (-a) (-d) (-c)).hi], .int .i64 (divP (-b) (-a) (-d) (-c)).e]) ∧ Ext w w' := by
 obtain ⟨hk1, hk2⟩ := ck2_ok hk
 obtain ⟨ka1, ka2, ka3⟩ := ckI_ok hk1
 obtain ⟨kc1, kc2, kc3⟩ := ckI_ok hk2
 have hM : I64 1099511627776 := by unfold I64; omega
 have hA : I64 (-b) := by unfold I64; omega
 have hB : I64 (-a) := by unfold I64; omega
 have n1 : IntKind.i64.wrap (-b) = -b := by rw [IntKind.wrap_i64]; omega
 have n2 : IntKind.i64.wrap (-a) = -a := by rw [IntKind.wrap_i64]; omega
 have n3 : IntKind.i64.wrap (-d) = -d := by rw [IntKind.wrap_i64]; omega
 have n4 : IntKind.i64.wrap (-c) = -c := by rw [IntKind.wrap_i64]; omega
 have ec : IntKind.u64.wrap (-d) = -d := by rw [IntKind.wrap_u64]; omega
 have ed : IntKind.u64.wrap (-c) = -c := by rw [IntKind.wrap_u64]; omega
 have eV := divP_prog (a := -b) (b := -a) (c := -d) (d := -c) (by omega) (by omega)
 go_enter Tryz.func114, Tryz.ntmps114
 go_upto_region 9 with (first | (go_at_call 66; (with_reducible refine (check_2 _ _ _ _ _ _ c_53).mono ?_); rintro e w1 ⟨rfl, hb⟩; obtain ⟨_, _, ⟨hc, hf⟩, hz⟩ := hb.c3; (try simp only [wsz] at hz hc hf)))
 refine wp_name fun V hV => ?_
 obtain ⟨hVc, hVf, hVz⟩ := hV.cells
 have hVe : Ext w V := Ext.same hV ex_
 (try simp only [wsz] at hVz)
 replace hVz := And.intro (Nat.le_of_eq hVz) (Nat.le_of_eq hVz.symm)
 have hlv : w.heap.size < V.heap.size ∧ w.heap.size + 1 < V.heap.size ∧ w.heap.size + 1 + 1 < V.heap.size := (by refine ⟨?_, ?_, ?_⟩ <;> omega)
 have hd := q_18 w.heap.size (w.heap.size + 1) (w.heap.size + 1 + 1)
 have hnv : ¬ w.heap.size = V.heap.size ∧ ¬ w.heap.size + 1 = V.heap.size ∧ ¬ w.heap.size + 1 + 1 = V.heap.size := (by omega)
 go_cut [7, 8] (fun sx0 sx1 wx => ∃ g h : Nat, sx0 = .pointer (some ⟨g, 0, none⟩) ∧ sx1 = .pointer (some ⟨h, 0, none⟩) ∧ Ext V wx ∧ V.heap.size ≤ g ∧ g < wx.heap.size ∧ (∀ o, wx.frozen? ⟨g, o, none⟩ = false) ∧ V.heap.size ≤ h ∧ h < wx.heap.size ∧ (∀ o, wx.frozen? ⟨h, o, none⟩ = false) ∧ g ≠ h ∧ wx.cell? ⟨g, 0, none⟩ = some (.int .i64 ((-b * 1099511627776) / 18446744073709551616)) ∧ wx.cell? ⟨g, 1, none⟩ = some (.int .u64 ((-b * 1099511627776) % 18446744073709551616)) ∧ wx.cell? ⟨h, 0, none⟩ = some (.int .i64 ((-a * 1099511627776) / 18446744073709551616)) ∧ wx.cell? ⟨h, 1, none⟩ = some (.int .u64 ((-a * 1099511627776) % 18446744073709551616)))
 case first =>
  have hWe : Ext V V := Ext.refl V
  go_region_held3 (fun w' => (∀ b o, b < V.heap.size → w'.cell? ⟨b, o, none⟩ = if b = V.heap.size ∧ 0 ≤ o ∧ o < 0 then (V.cell? ⟨b, o, none⟩).map (obx w' b o) else V.cell? ⟨b, o, none⟩) ∧ (∀ b o, b < V.heap.size → w'.frozen? ⟨b, o, none⟩ = V.frozen? ⟨b, o, none⟩) ∧ V.heap.size ≤ w'.heap.size ∧ Ext V w') (exact k_2) ((first | (go_at_call 163; (with_reducible refine (times_any (-b) 1099511627776 _ hA hM).mono ?_); rintro e w2 ⟨rfl, hb0⟩; obtain ⟨hq0, hr0⟩ := hb0.cells; have hz0 := hb0.size; (try simp only [wsd] at hz0 hq0 hr0); (try have hly0 : V.heap.size < w2.heap.size := by omega); (try have hly1 : V.heap.size + 1 < w2.heap.size := by omega)) | (go_at_call 163; (with_reducible refine (times_any (-a) 1099511627776 _ hB hM).mono ?_); rintro e w3 ⟨rfl, hb1⟩; obtain ⟨hq1, hr1⟩ := hb1.cells; have hz1 := hb1.size; (try simp only [wsd] at hz1 hq1 hr1); (try have hly0 : V.heap.size < w3.heap.size := by omega); (try have hly1 : V.heap.size + 1 < w3.heap.size := by omega); (try have hly2 : w2.heap.size < w3.heap.size := by omega); (try have hly3 : w2.heap.size + 1 < w3.heap.size := by omega))))
  all_goals
   rename_i hOld
   clear hOld
   go_wp2_with fail
   go_meet
   refine ⟨_, _, rfl, rfl, ?_, ?_, ?_, ?_, ?_, ?_, ?_, ?_, ?_, ?_, ?_, ?_⟩
   ·exact b_5
   all_goals first | ((try simp only [wsz]); omega) | (intro o; simp [go_sem, ↓IntWalk.iteOmega, *]; done) | (simp [go_sem, ↓IntWalk.iteOmega, *]; done)
 case rest =>
  obtain ⟨g, h, rfl, rfl, hx, hg01, hg02, hgf0, hg11, hg12, hgf1, hgh, hv00, hv01, hv10, hv11⟩ := hcut
  obtain ⟨_, _, hcc, hcf⟩ := hx.cells2
  have hcz := hx.size
  replace hVe := hVe.trans hx
  have hlv2 : w.heap.size < wc.heap.size ∧ w.heap.size + 1 < wc.heap.size ∧ w.heap.size + 1 + 1 < wc.heap.size := (by omega)
  have hlg := q_11 w.heap.size g h (w.heap.size + 1) (w.heap.size + 1 + 1)
  clear hx
  go_wp2_with fail
  refine wp_name fun W hW => ?_
  obtain ⟨hWc, hWf, hWz⟩ := hW.cells
  have hlw : w.heap.size < wc.heap.size ∧ w.heap.size + 1 < wc.heap.size ∧ w.heap.size + 1 + 1 < wc.heap.size ∧ g < wc.heap.size ∧ h < wc.heap.size := (by omega)
  have hWe : Ext w W := Ext.same hW ex_
  (try simp only [wsz] at hWz)
  go_region_held3 (fun w' => (∀ b o, b < W.heap.size → w'.cell? ⟨b, o, none⟩ = if b = w.heap.size ∧ 0 ≤ o ∧ o < 0 then (W.cell? ⟨b, o, none⟩).map (obx w' b o) else W.cell? ⟨b, o, none⟩) ∧ (∀ b o, b < W.heap.size → w'.frozen? ⟨b, o, none⟩ = W.frozen? ⟨b, o, none⟩) ∧ W.heap.size ≤ w'.heap.size ∧ Ext w w') (exact k_3) (fail)
  rename_i hOld
  have hE := hOld.2.2.2
  have hO := And.intro hOld.1 (And.intro hOld.2.1 hOld.2.2.1)
  clear hOld
  obtain ⟨hOc, hOf, hOz⟩ := heldEnd hO
  clear hO
  go_wp2_with fail
  refine wp_name fun W hW => ?_
  obtain ⟨hWc, hWf, hWz⟩ := hW.cells
  have hlw : w.heap.size < wc.heap.size ∧ w.heap.size + 1 < wc.heap.size ∧ w.heap.size + 1 + 1 < wc.heap.size := (by omega)
  have hWe : Ext w W := Ext.same hW ex_
  (try simp only [wsz] at hWz)
  go_region_held3 (fun w' => (∀ b o, b < W.heap.size → w'.cell? ⟨b, o, none⟩ = if b = w.heap.size + 1 + 1 ∧ 0 ≤ o ∧ o < 2 then (W.cell? ⟨b, o, none⟩).map (obx w' b o) else W.cell? ⟨b, o, none⟩) ∧ (∀ b o, b < W.heap.size → w'.frozen? ⟨b, o, none⟩ = W.frozen? ⟨b, o, none⟩) ∧ W.heap.size ≤ w'.heap.size ∧ Ext w w') (exact k_3) ((first | (go_at_call 166; (with_reducible refine (down_any _ _ _ (abs_mul_bound hA hM).1 (abs_mul_bound hA hM).2 (by omega) (by omega)).mono ?_); rintro e w2 ⟨rfl, hb2⟩; have hz2 := hb2.size; (try rw [size_drew] at hz2)) | (go_at_call 168; (with_reducible refine (up_any _ _ _ (abs_mul_bound hB hM).1 (abs_mul_bound hB hM).2 (by omega) (by omega)).mono ?_); rintro e w2 ⟨rfl, hb2⟩; have hz2 := hb2.size; (try rw [size_drew] at hz2)) | (go_at_call 112; (with_reducible refine (span_made _ _ _).mono ?_); rintro e w2 ⟨rfl, hb2⟩; have hz2 := hb2.size; (try rw [size_drew] at hz2))))
  all_goals
   rename_i hOld
   have hE := hOld.2.2.2
   have hO := And.intro hOld.1 (And.intro hOld.2.1 hOld.2.2.1)
   clear hOld
   replace hO := heldBack hO c_18
   replace hO := heldBack hO c_18
   obtain ⟨hOc, hOf, hOz⟩ := heldEnd hO
   clear hO
   go_wp2_with fail
   refine bodyPost_ret (v := .tuple #[.agg #[.int .i64 (divP (-b) (-a) (-d) (-c)).lo, .int .i64 (divP (-b) (-a) (-d) (-c)).hi], .int .i64 (divP (-b) (-a) (-d) (-c)).e]) ?_ rfl ⟨rfl, ?_⟩
   ·(try simp only [bn_, bm_] at *)
    simp [results, Tryz.results114, go_sem, ↓IntWalk.iteOmega, eV, *]
   ·exact b_6
theorem sdiv_e (a b c d : Int) (w : World) (hk : ¬ ck2 a b c d = 0) :
    Calls Tryz.prog 114 #[.agg #[.int .i64 a, .int .i64 b], .agg #[.int .i64 c, .int .i64 d]] w fun e w' => e = .returned (.tuple #[.agg #[.int .i64 (R3.mk 0 0 (ck2 a b c d)).lo, .int .i64 (R3.mk 0 0 (ck2 a b c d)).hi], .int .i64 (R3.mk 0 0 (ck2 a b c d)).e]) ∧ Ext w w' := by
 go_enter Tryz.func114, Tryz.ntmps114
 go_wp2_with (first | (go_at_call 66; (with_reducible refine (check_2 _ _ _ _ _ _ c_53).mono ?_); rintro e w1 ⟨rfl, hb⟩; obtain ⟨_, _, ⟨hc, hf⟩, hz⟩ := hb.c3; (try simp only [wsz] at hz hc hf)))
 all_goals
  refine bodyPost_ret (v := .tuple #[.agg #[.int .i64 (R3.mk 0 0 (ck2 a b c d)).lo, .int .i64 (R3.mk 0 0 (ck2 a b c d)).hi], .int .i64 (R3.mk 0 0 (ck2 a b c d)).e]) ?_ rfl ⟨rfl, ?_⟩
  ·(try simp only [bn_, bm_] at *)
   simp [results, Tryz.results114, go_sem, ↓IntWalk.iteOmega, ne_eq, *]
  ·exact b_6
theorem sdiv_z (a b c d : Int) (w : World) (hk : ck2 a b c d = 0) (h0 : c ≤ 0) (h1 : 0 ≤ d) :
    Calls Tryz.prog 114 #[.agg #[.int .i64 a, .int .i64 b], .agg #[.int .i64 c, .int .i64 d]] w fun e w' => e = .returned (.tuple #[.agg #[.int .i64 (R3.mk 0 0 18).lo, .int .i64 (R3.mk 0 0 18).hi], .int .i64 (R3.mk 0 0 18).e]) ∧ Ext w w' := by
 go_enter Tryz.func114, Tryz.ntmps114
 go_wp2_with (first | (go_at_call 66; (with_reducible refine (check_2 _ _ _ _ _ _ c_53).mono ?_); rintro e w1 ⟨rfl, hb⟩; obtain ⟨_, _, ⟨hc, hf⟩, hz⟩ := hb.c3; (try simp only [wsz] at hz hc hf)))
 all_goals
  refine bodyPost_ret (v := .tuple #[.agg #[.int .i64 (R3.mk 0 0 18).lo, .int .i64 (R3.mk 0 0 18).hi], .int .i64 (R3.mk 0 0 18).e]) ?_ rfl ⟨rfl, ?_⟩
  ·(try simp only [bn_, bm_] at *)
   simp [results, Tryz.results114, go_sem, ↓IntWalk.iteOmega, ne_eq, *]
  ·exact b_6
theorem span_div (a b c d : Int) (w : World) :
    Calls Tryz.prog 114 #[.agg #[.int .i64 a, .int .i64 b], .agg #[.int .i64 c, .int .i64 d]] w fun e w' => e = .returned (.tuple #[.agg #[.int .i64 (divI a b c d).lo, .int .i64 (divI a b c d).hi], .int .i64 (divI a b c d).e]) ∧ Ext w w' := by
 by_cases hk : ck2 a b c d = 0
 ·by_cases h0 : c ≤ 0 ∧ 0 ≤ d
  ·have e : divI a b c d = ⟨0, 0, 18⟩ := by unfold divI; rw [if_neg c_68, if_pos h0]
   rw [e]; exact sdiv_z a b c d w hk h0.1 h0.2
  ·have hc := (ckI_ok (ck2_ok hk).2).1
   by_cases h1 : d < 0
   ·have e : divI a b c d = divP (-b) (-a) (-d) (-c) := by unfold divI; rw [if_neg c_68, if_neg h0, if_pos h1]
    rw [e]; exact sdiv_n a b c d w hk h1
   ·have e : divI a b c d = divP a b c d := by unfold divI; rw [if_neg c_68, if_neg h0, if_neg h1]
    rw [e]; exact sdiv_p a b c d w hk (by omega)
 ·have e : divI a b c d = ⟨0, 0, ck2 a b c d⟩ := by unfold divI; rw [if_pos c_68]
  rw [e]; exact sdiv_e a b c d w hk
end Go.Proofs.YtbkgakgdbmjmjaaGreat
