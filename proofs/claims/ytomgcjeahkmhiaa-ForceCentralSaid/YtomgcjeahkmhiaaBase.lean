/- Base lemmas: a world that has only grown. -/
import Derived.Test.YtomgcjeahkmhiaaProg
import Derived.WalkKit
import Derived.WalkSpells
import Derived.WalkLawsBesides
import Derived.Outline
import Derived.Lib.Hide
import Derived.RegionTactic
import Derived.ChangeAlike
import Derived.OwnWalk
import Derived.Deep.RegionHeld3
import Derived.BigQuiet
import Derived.Deep.QuietTactic
namespace Go.Proofs.Ytomgcjeahkmhiaa
open Go.RowKit

/-- w' has w's blocks as they were, and perhaps new ones. -/
def Ext (w w' : World) : Prop := Below w.heap.size w w'

theorem Ext.refl (w : World) : Ext w w := Below.refl _ _
theorem Ext.trans {a b c : World} (h : Ext a b) (k : Ext b c) : Ext a c := Below.trans h (Below.mono k (Below.size h))
theorem Ext.alloc {a w : World} (h : Ext a w) (o : Obj) : Ext a (w.alloc o) := Below.alloc h (Below.size h) o
theorem Ext.setCell {a w : World} (h : Ext a w) {p : Addr} (hp : a.heap.size ≤ p.block) (u : Value) : Ext a (w.setCell p u) := Below.setCell h hp u
theorem Ext.drew {a w : World} (h : Ext a w) : Ext a w.drew := Below.drew h
theorem Ext.drewN {a w : World} (h : Ext a w) (n : Nat) : Ext a (w.drewN n) := ⟨h.os, h.tape, h.output, h.size, h.block⟩
theorem Ext.size {a w : World} (h : Ext a w) : a.heap.size ≤ w.heap.size := Below.size h
theorem Ext.cells {W w1 : World} (hb : Ext W w1) : (∀ b o, b < W.heap.size → w1.cell? ⟨b, o, none⟩ = W.cell? ⟨b, o, none⟩) ∧ (∀ b o, b < W.heap.size → w1.frozen? ⟨b, o, none⟩ = W.frozen? ⟨b, o, none⟩) :=
  ⟨fun b o h => Below.cell hb (p := ⟨b, o, none⟩) h, fun b o h => Below.frozen hb (p := ⟨b, o, none⟩) h⟩

/-- W is w: under a name that no tactic looks into. -/
def Same (W w : World) : Prop := W = w
theorem wp_name {P : Program} {c : Code} {Q : Exit → Act → World → Prop} {a : Act} {w : World} (h : ∀ W, Same W w → c.wp P Q a W) : c.wp P Q a w := h w rfl
theorem Same.cells {W w : World} (h : Same W w) : (∀ p, W.cell? p = w.cell? p) ∧ (∀ p, W.frozen? p = w.frozen? p) ∧ W.heap.size = w.heap.size := by
  cases (h : W = w); exact ⟨fun _ => rfl, fun _ => rfl, rfl⟩
theorem Ext.same {a W w : World} (h : Same W w) (k : Ext a w) : Ext a W := by cases (h : W = w); exact k

/-- A cell of which nothing is said. -/
def oc (w : World) (b o : Nat) : Option Value := w.cell? ⟨b, o, none⟩
def ofz (w : World) (b o : Nat) : Bool := w.frozen? ⟨b, o, none⟩
def obx (w : World) (b o : Nat) (x : Value) : Value := (w.cell? ⟨b, o, none⟩).getD x

@[go_sem] theorem cell_al (W : World) (c : Array Value) (t : TypeId) (b o : Nat) : (W.alloc (.cells c t)).cell? ⟨b, o, none⟩ = if b = W.heap.size then c[o]? else W.cell? ⟨b, o, none⟩ := by
  split
  · subst b; exact World.cell?_alloc_new W c t o
  · exact World.cell?_alloc_old _ _ _ ‹_›
@[go_sem] theorem frozen_al (W : World) (c : Array Value) (t : TypeId) (b o : Nat) : (W.alloc (.cells c t)).frozen? ⟨b, o, none⟩ = if b = W.heap.size then false else W.frozen? ⟨b, o, none⟩ := by
  split
  · exact World.frozen?_alloc_at (w := W) c t b o ‹_›
  · show (match (W.heap.push (.cells c t))[b]? with | some (.cells _ _ (lo, hi)) => decide (lo ≤ o) && decide (o < hi) | _ => false) = _
    rw [Array.getElem?_push, if_neg ‹_›]
    rfl
@[go_sem] theorem cell_sc (W : World) (p q : Addr) (v : Value) : (W.setCell p v).cell? q = if q = p then (W.cell? p).map (fun _ => v) else W.cell? q := by
  split
  · subst q
    cases h : W.cell? p with
    | some u => exact World.cell?_setCell_same _ _ _ h
    | none =>
      simp only [Option.map_none]
      simp only [World.cell?, World.setCell, Array.getElem?_modify] at h ⊢
      cases hh : W.heap[p.block]? with
      | none => simp
      | some ob =>
        rw [hh] at h
        cases ob <;> simp_all
  · exact World.cell?_setCell_other _ _ _ _ (fun e => ‹¬ q = p› e.symm)

theorem size_drew (w : World) : w.drew.heap.size = w.heap.size := rfl
/-- What a region that draws its order keeps: from W on, all old cells but some of one block, RB (from lo to before hi), which stay cells; w: where the function began. -/
theorem held0 {w W : World} {RB lo hi : Nat} (hw : Ext w W) :
    (∀ b o, b < W.heap.size → W.drew.cell? ⟨b, o, none⟩ = if b = RB ∧ lo ≤ o ∧ o < hi then (W.cell? ⟨b, o, none⟩).map (obx W.drew b o) else W.cell? ⟨b, o, none⟩) ∧ (∀ b o, b < W.heap.size → W.drew.frozen? ⟨b, o, none⟩ = W.frozen? ⟨b, o, none⟩) ∧ W.heap.size ≤ W.drew.heap.size ∧ Ext w W.drew := by
  refine ⟨fun b o _ => ?_, fun _ _ _ => rfl, Nat.le_refl _, hw.drew⟩
  show W.cell? ⟨b, o, none⟩ = _
  split
  · cases h : W.cell? ⟨b, o, none⟩ with
    | none => rfl
    | some x => simp [obx, show W.drew.cell? ⟨b, o, none⟩ = W.cell? ⟨b, o, none⟩ from rfl, h]
  · rfl
theorem held1 {w W w' w1 : World} {RB lo hi : Nat}
    (h : (∀ b o, b < W.heap.size → w'.cell? ⟨b, o, none⟩ = if b = RB ∧ lo ≤ o ∧ o < hi then (W.cell? ⟨b, o, none⟩).map (obx w' b o) else W.cell? ⟨b, o, none⟩) ∧ (∀ b o, b < W.heap.size → w'.frozen? ⟨b, o, none⟩ = W.frozen? ⟨b, o, none⟩) ∧ W.heap.size ≤ w'.heap.size ∧ Ext w w')
    (hb : Ext w' w1) :
    (∀ b o, b < W.heap.size → w1.cell? ⟨b, o, none⟩ = if b = RB ∧ lo ≤ o ∧ o < hi then (W.cell? ⟨b, o, none⟩).map (obx w1 b o) else W.cell? ⟨b, o, none⟩) ∧ (∀ b o, b < W.heap.size → w1.frozen? ⟨b, o, none⟩ = W.frozen? ⟨b, o, none⟩) ∧ W.heap.size ≤ w1.heap.size ∧ Ext w w1 := by
  obtain ⟨h1, h2, h3, h4⟩ := h
  refine ⟨fun b o hc => ?_, fun b o hc => ?_, Nat.le_trans h3 hb.size, h4.trans hb⟩
  · have e : w1.cell? ⟨b, o, none⟩ = w'.cell? ⟨b, o, none⟩ := Below.cell hb (p := ⟨b, o, none⟩) (Nat.lt_of_lt_of_le hc h3)
    rw [e, h1 b o hc]
    split
    · congr 1
      funext x
      simp only [obx, e]
    · rfl
  · rw [Below.frozen hb (p := ⟨b, o, none⟩) (Nat.lt_of_lt_of_le hc h3), h2 b o hc]
theorem held2 {w W w' : World} {RB lo hi : Nat} {p : Addr} {v : Value}
    (h : (∀ b o, b < W.heap.size → w'.cell? ⟨b, o, none⟩ = if b = RB ∧ lo ≤ o ∧ o < hi then (W.cell? ⟨b, o, none⟩).map (obx w' b o) else W.cell? ⟨b, o, none⟩) ∧ (∀ b o, b < W.heap.size → w'.frozen? ⟨b, o, none⟩ = W.frozen? ⟨b, o, none⟩) ∧ W.heap.size ≤ w'.heap.size ∧ Ext w w')
    (hp : (p.block = RB ∧ lo ≤ p.off ∧ p.off < hi) ∨ W.heap.size ≤ p.block) (hw : w.heap.size ≤ p.block) :
    (∀ b o, b < W.heap.size → (w'.setCell p v).cell? ⟨b, o, none⟩ = if b = RB ∧ lo ≤ o ∧ o < hi then (W.cell? ⟨b, o, none⟩).map (obx (w'.setCell p v) b o) else W.cell? ⟨b, o, none⟩) ∧ (∀ b o, b < W.heap.size → (w'.setCell p v).frozen? ⟨b, o, none⟩ = W.frozen? ⟨b, o, none⟩) ∧ W.heap.size ≤ (w'.setCell p v).heap.size ∧ Ext w (w'.setCell p v) := by
  obtain ⟨h1, h2, h3, h4⟩ := h
  refine ⟨fun b o hc => ?_, fun b o hc => ?_, by simpa using h3, h4.setCell (by omega) _⟩
  · have h1' := h1 b o hc
    by_cases he : (⟨b, o, none⟩ : Addr) = p
    · have hr : b = RB ∧ lo ≤ o ∧ o < hi := by
        rcases hp with hp | hp
        · rw [← he] at hp; exact hp
        · rw [← he] at hp; exact absurd hc (Nat.not_lt.2 hp)
      rw [if_pos hr] at h1' ⊢
      cases hx : W.cell? ⟨b, o, none⟩ with
      | none =>
        rw [hx] at h1'
        simp only [Option.map_none] at h1' ⊢
        rw [cell_sc, if_pos he, ← he, h1']; rfl
      | some x =>
        rw [hx] at h1'
        simp only [Option.map_some] at h1' ⊢
        have hs : (w'.setCell p v).cell? ⟨b, o, none⟩ = some v := by
          rw [cell_sc, if_pos he, ← he, h1']; rfl
        simp only [obx, hs, Option.getD_some]
    · have e : (w'.setCell p v).cell? ⟨b, o, none⟩ = w'.cell? ⟨b, o, none⟩ := by rw [cell_sc, if_neg he]
      rw [e, h1']
      split
      · congr 1
        funext x
        simp only [obx, e]
      · rfl
  · rw [World.frozen?_setCell, h2 b o hc]
theorem held3 {w W w' : World} {RB lo hi : Nat} {ob : Obj}
    (h : (∀ b o, b < W.heap.size → w'.cell? ⟨b, o, none⟩ = if b = RB ∧ lo ≤ o ∧ o < hi then (W.cell? ⟨b, o, none⟩).map (obx w' b o) else W.cell? ⟨b, o, none⟩) ∧ (∀ b o, b < W.heap.size → w'.frozen? ⟨b, o, none⟩ = W.frozen? ⟨b, o, none⟩) ∧ W.heap.size ≤ w'.heap.size ∧ Ext w w') :
    (∀ b o, b < W.heap.size → (w'.alloc ob).cell? ⟨b, o, none⟩ = if b = RB ∧ lo ≤ o ∧ o < hi then (W.cell? ⟨b, o, none⟩).map (obx (w'.alloc ob) b o) else W.cell? ⟨b, o, none⟩) ∧ (∀ b o, b < W.heap.size → (w'.alloc ob).frozen? ⟨b, o, none⟩ = W.frozen? ⟨b, o, none⟩) ∧ W.heap.size ≤ (w'.alloc ob).heap.size ∧ Ext w (w'.alloc ob) :=
  held1 h ((Ext.refl _).alloc _)
/-- Back over a store, and over a new block. -/
theorem heldBack {W w' : World} {RB lo hi : Nat} {p : Addr} {v : Value}
    (h : (∀ b o, b < W.heap.size → (w'.setCell p v).cell? ⟨b, o, none⟩ = if b = RB ∧ lo ≤ o ∧ o < hi then (W.cell? ⟨b, o, none⟩).map (obx (w'.setCell p v) b o) else W.cell? ⟨b, o, none⟩) ∧ (∀ b o, b < W.heap.size → (w'.setCell p v).frozen? ⟨b, o, none⟩ = W.frozen? ⟨b, o, none⟩) ∧ W.heap.size ≤ (w'.setCell p v).heap.size)
    (hp : (p.block = RB ∧ lo ≤ p.off ∧ p.off < hi) ∨ W.heap.size ≤ p.block) :
    (∀ b o, b < W.heap.size → w'.cell? ⟨b, o, none⟩ = if b = RB ∧ lo ≤ o ∧ o < hi then (W.cell? ⟨b, o, none⟩).map (obx w' b o) else W.cell? ⟨b, o, none⟩) ∧ (∀ b o, b < W.heap.size → w'.frozen? ⟨b, o, none⟩ = W.frozen? ⟨b, o, none⟩) ∧ W.heap.size ≤ w'.heap.size := by
  obtain ⟨h1, h2, h3⟩ := h
  refine ⟨fun b o hc => ?_, fun b o hc => ?_, by simpa using h3⟩
  · have h1' := h1 b o hc
    rw [cell_sc] at h1'
    split at h1'
    · rename_i he
      have hr : b = RB ∧ lo ≤ o ∧ o < hi := by
        rcases hp with hp | hp
        · rw [← he] at hp; exact hp
        · rw [← he] at hp; exact absurd hc (Nat.not_lt.2 hp)
      rw [if_pos hr] at h1' ⊢
      rw [← he] at h1'
      cases hx : W.cell? ⟨b, o, none⟩ with
      | none => rw [hx] at h1'; simpa using h1'
      | some x =>
        rw [hx] at h1'
        cases hy : w'.cell? ⟨b, o, none⟩ with
        | none => rw [hy] at h1'; simp at h1'
        | some y => simp [obx, hy]
    · rename_i he
      have e : (w'.setCell p v).cell? ⟨b, o, none⟩ = w'.cell? ⟨b, o, none⟩ := by rw [cell_sc, if_neg he]
      rw [h1']
      split
      · congr 1
        funext x
        simp only [obx, e]
      · rfl
  · have h2' := h2 b o hc
    rw [World.frozen?_setCell] at h2'
    exact h2'
theorem heldBackA {W w' : World} {RB lo hi : Nat} {ob : Obj}
    (h : (∀ b o, b < W.heap.size → (w'.alloc ob).cell? ⟨b, o, none⟩ = if b = RB ∧ lo ≤ o ∧ o < hi then (W.cell? ⟨b, o, none⟩).map (obx (w'.alloc ob) b o) else W.cell? ⟨b, o, none⟩) ∧ (∀ b o, b < W.heap.size → (w'.alloc ob).frozen? ⟨b, o, none⟩ = W.frozen? ⟨b, o, none⟩) ∧ W.heap.size ≤ (w'.alloc ob).heap.size)
    (hz : W.heap.size ≤ w'.heap.size) :
    (∀ b o, b < W.heap.size → w'.cell? ⟨b, o, none⟩ = if b = RB ∧ lo ≤ o ∧ o < hi then (W.cell? ⟨b, o, none⟩).map (obx w' b o) else W.cell? ⟨b, o, none⟩) ∧ (∀ b o, b < W.heap.size → w'.frozen? ⟨b, o, none⟩ = W.frozen? ⟨b, o, none⟩) ∧ W.heap.size ≤ w'.heap.size := by
  obtain ⟨h1, h2, h3⟩ := h
  refine ⟨fun b o hc => ?_, fun b o hc => ?_, hz⟩
  · have e : (w'.alloc ob).cell? ⟨b, o, none⟩ = w'.cell? ⟨b, o, none⟩ := Below.cell ((Ext.refl w').alloc ob) (p := ⟨b, o, none⟩) (Nat.lt_of_lt_of_le hc hz)
    rw [← e, h1 b o hc]
    split
    · congr 1
      funext x
      simp only [obx, e]
    · rfl
  · have e : (w'.alloc ob).frozen? ⟨b, o, none⟩ = w'.frozen? ⟨b, o, none⟩ := Below.frozen ((Ext.refl w').alloc ob) (p := ⟨b, o, none⟩) (Nat.lt_of_lt_of_le hc hz)
    rw [← e, h2 b o hc]
theorem held4 {w W w' : World} {RB lo hi : Nat} {ob ob' : Obj}
    (h : (∀ b o, b < W.heap.size → (w'.alloc ob).cell? ⟨b, o, none⟩ = if b = RB ∧ lo ≤ o ∧ o < hi then (W.cell? ⟨b, o, none⟩).map (obx (w'.alloc ob) b o) else W.cell? ⟨b, o, none⟩) ∧ (∀ b o, b < W.heap.size → (w'.alloc ob).frozen? ⟨b, o, none⟩ = W.frozen? ⟨b, o, none⟩) ∧ W.heap.size ≤ (w'.alloc ob).heap.size ∧ Ext w (w'.alloc ob))
    (hz : W.heap.size ≤ w'.heap.size) (hz2 : w.heap.size ≤ w'.heap.size) :
    (∀ b o, b < W.heap.size → (w'.alloc ob').cell? ⟨b, o, none⟩ = if b = RB ∧ lo ≤ o ∧ o < hi then (W.cell? ⟨b, o, none⟩).map (obx (w'.alloc ob') b o) else W.cell? ⟨b, o, none⟩) ∧ (∀ b o, b < W.heap.size → (w'.alloc ob').frozen? ⟨b, o, none⟩ = W.frozen? ⟨b, o, none⟩) ∧ W.heap.size ≤ (w'.alloc ob').heap.size ∧ Ext w (w'.alloc ob') := by
  have hE := h.2.2.2
  have h3 := heldBackA ⟨h.1, h.2.1, h.2.2.1⟩ hz
  have hE' : Ext w w' := ⟨hE.os, hE.tape, hE.output, hz2, fun k hk => by
    rw [← hE.block k hk]; exact (Below.heap_alloc w' ob k (Nat.lt_of_lt_of_le hk hz2)).symm⟩
  exact held3 ⟨h3.1, h3.2.1, h3.2.2, hE'⟩
theorem heldEnd {W w' : World} {RB lo hi : Nat}
    (h : (∀ b o, b < W.heap.size → w'.cell? ⟨b, o, none⟩ = if b = RB ∧ lo ≤ o ∧ o < hi then (W.cell? ⟨b, o, none⟩).map (obx w' b o) else W.cell? ⟨b, o, none⟩) ∧ (∀ b o, b < W.heap.size → w'.frozen? ⟨b, o, none⟩ = W.frozen? ⟨b, o, none⟩) ∧ W.heap.size ≤ w'.heap.size) :
    (∀ b o, w'.cell? ⟨b, o, none⟩ = if b < W.heap.size then (if b = RB ∧ lo ≤ o ∧ o < hi then (W.cell? ⟨b, o, none⟩).map (obx w' b o) else W.cell? ⟨b, o, none⟩) else oc w' b o) ∧ (∀ b o, w'.frozen? ⟨b, o, none⟩ = if b < W.heap.size then W.frozen? ⟨b, o, none⟩ else ofz w' b o) ∧ W.heap.size ≤ w'.heap.size :=
  ⟨fun b o => by
    split
    · exact h.1 b o ‹_›
    · rfl, fun b o => by
    split
    · exact h.2.1 b o ‹_›
    · rfl, h.2.2⟩

/-- What a call that only makes memory leaves of the cells: said without a side condition. -/
theorem Ext.cells2 {W w1 : World} (hb : Ext W w1) : ∃ (f : Nat → Nat → Option Value) (g : Nat → Nat → Bool),
    (∀ b o, w1.cell? ⟨b, o, none⟩ = if b < W.heap.size then W.cell? ⟨b, o, none⟩ else f b o) ∧
    (∀ b o, w1.frozen? ⟨b, o, none⟩ = if b < W.heap.size then W.frozen? ⟨b, o, none⟩ else g b o) := by
  refine ⟨fun b o => w1.cell? ⟨b, o, none⟩, fun b o => w1.frozen? ⟨b, o, none⟩, fun b o => ?_, fun b o => ?_⟩
  · split
    · exact Below.cell hb (p := ⟨b, o, none⟩) ‹_›
    · rfl
  · split
    · exact Below.frozen hb (p := ⟨b, o, none⟩) ‹_›
    · rfl

end Go.Proofs.Ytomgcjeahkmhiaa
