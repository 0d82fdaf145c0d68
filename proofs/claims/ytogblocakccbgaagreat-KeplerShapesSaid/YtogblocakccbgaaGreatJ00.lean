/- Short names for phrases that the other texts use often. -/
import Derived.OrdersHeld
import Derived.OrdersIn
import Derived.Deep.RegionHeld
import Derived.BigQuiet
import Derived.ChangeAlike
import Derived.Deep.QuietTactic
import Derived.Deep.RegionHeld3
import Derived.Lib.Hide
import Derived.Outline
import Derived.OwnWalk
import Derived.RegionTactic
import Derived.WalkKit
import Derived.WalkLawsBesides
import Derived.WalkSpells
import Derived.Test.YtogblocakccbgaaGreatProg

namespace Go.Proofs.YtogblocakccbgaaGreat
open Go Go.RowKit
theorem sx_ : (∀ (a : Act) (d : Tmp) (v : Value), a.put (some d) v = { a with tmps := a.tmps.setIfInBounds d v }) ∧ (∀ (a : Act) (v : Value), a.put none v = a) ∧ (∀ {α : Type} (l : List α) (i : Nat) (v : α), l.toArray.setIfInBounds i v = (l.set i v).toArray) ∧ (∀ {α : Type} (a b : α) (l : List α), (a :: l).set 0 b = b :: l) ∧ (∀ {α : Type} (a b : α) (l : List α) (n : Nat), (a :: l).set (n + 1) b = a :: l.set n b) ∧ (∀ {α : Type} (l : List α) (i : Nat) (h : i < l.toArray.size), l.toArray[i] = l[i]'(by simpa using h)) ∧ (∀ {α : Type} (a : α) (l : List α) (i : Nat) (h : i + 1 < (a :: l).length), (a :: l)[i + 1] = l[i]'(by simpa using h)) ∧ (∀ {α : Type} (a : α) (l : List α) (h : 0 < (a :: l).length), (a :: l)[0] = a) := ⟨fun _ _ _ => rfl, fun _ _ => rfl, fun _ _ _ => List.setIfInBounds_toArray .., fun _ _ _ => rfl, fun _ _ _ _ => rfl, fun _ _ _ => rfl, fun _ _ _ _ => rfl, fun _ _ _ => rfl⟩
theorem tk {P : Program} {ops : Array Oper} {Q : Exit → Act → World → Prop} {md : Region.Mode} {S : World → Prop} (i : Nat) {oi : Oper} {v : Value} {fuel : Nat} {listed : Array Bool} {a : Act} {w : World} (hi : ops[i]? = some oi) (hy : ∀ w, S w → (execOp a.eval oi).run P w = .ok (.value v) w) (h : wpAnyH P md ops Q S fuel (listed.setIfInBounds i true) (a.put oi.dst v) w)
    (hs : Region.noSelect ops = true := by kernel_rfl) (hf : Region.free md ops listed i = true := by kernel_rfl) (hr : (Region.ready md ops listed).contains i = true := by kernel_rfl) (hQ : ∀ c a w, Q (.panic c) (a.put oi.dst v) w → Q (.panic c) a w := by exact fun _ _ _ h => h) (hg : Region.wanted oi (yielded ops a.tmps) = true := by rfl) (hS : S w := by assumption) : wpAnyH P md ops Q S (fuel + 1) listed a w := wpAnyH_take hi hs hf hr hQ (Or.inl ⟨hg, hy⟩) hS h
theorem ti {P : Program} {F : Fence} {n : Nat} {ops : Array Oper} {Q : Exit → Act → World → Prop} {md : Region.Mode} (i : Nat) {oi : Oper} {v : Value} {fuel : Nat} {listed : Array Bool} {a : Act} {w : World} (hi : ops[i]? = some oi) (hy : ∀ w, (execOp a.eval oi).run P w = .ok (.value v) w) (h : wpAnyIn F n P md ops Q fuel (listed.setIfInBounds i true) (a.put oi.dst v) w) (hro : F.round = none := by exact rfl)
    (hs : Region.noSelect ops = true := by kernel_rfl) (hf : Region.free md ops listed i = true := by kernel_rfl) (hr : (Region.ready md ops listed).contains i = true := by kernel_rfl) (hQ : ∀ c a w, Q (.panic c) (a.put oi.dst v) w → Q (.panic c) a w := by exact fun _ _ _ h => h) (hg : Region.wanted oi (yielded ops a.tmps) = true := by rfl) (hab : ∀ w, oi.about P w a.eval = none := by exact fun _ => rfl) : wpAnyIn F n P md ops Q (fuel + 1) listed a w := wpAnyIn_take hro hi hs hf hr hQ ⟨Or.inl ⟨hg, hy⟩, hab⟩ h
theorem rd1 {P : Program} {ops : Array Oper} {Q : Exit → Act → World → Prop} {md : Region.Mode} {S : World → Prop} {fuel : Nat} {listed : Array Bool} {a : Act} {w : World} {i : Nat} {o : Oper} (ho : ops[i]? = some o) (h : (∀ K' : Act → World → Prop, Shut (∀ a w, S w → (S w → wpAnyH P md ops Q S fuel (listed.setIfInBounds i true) a w) → K' a w) → if Region.wanted o (yielded ops a.tmps) = true then Oper.wp P o a w K' Q else K' (a.put o.dst undef) w)) : AllReadyH P md ops Q S fuel listed a w [i] := AllReadyH.cons ho h AllReadyH.nil
theorem rd2 {P : Program} {ops : Array Oper} {Q : Exit → Act → World → Prop} {md : Region.Mode} {S : World → Prop} {fuel : Nat} {listed : Array Bool} {a : Act} {w : World} {i j : Nat} {o u : Oper} (ho : ops[i]? = some o) (hu : ops[j]? = some u) (h : (∀ K' : Act → World → Prop, Shut (∀ a w, S w → (S w → wpAnyH P md ops Q S fuel (listed.setIfInBounds i true) a w) → K' a w) → if Region.wanted o (yielded ops a.tmps) = true then Oper.wp P o a w K' Q else K' (a.put o.dst undef) w)) (k : (∀ K' : Act → World → Prop, Shut (∀ a w, S w → (S w → wpAnyH P md ops Q S fuel (listed.setIfInBounds j true) a w) → K' a w) → if Region.wanted u (yielded ops a.tmps) = true then Oper.wp P u a w K' Q else K' (a.put u.dst undef) w)) : AllReadyH P md ops Q S fuel listed a w [i, j] := AllReadyH.cons ho h (AllReadyH.cons hu k AllReadyH.nil)
theorem wsz : (∀ (w : World) (o : Obj), (w.alloc o).heap.size = w.heap.size + 1) ∧ (∀ (w : World) (a : Addr) (v : Value), (w.setCell a v).heap.size = w.heap.size) := ⟨fun w o => World.size_alloc w o, fun w a v => World.size_setCell w a v⟩
theorem c_55 {p : Prop} (h : p := by refine ⟨?_, ?_, ?_, ?_, ?_⟩ <;> omega) : p := h
theorem c_54 {p : Prop} (h : p := by dsimp only; omega) : p := h
theorem c_53 {p : Prop} (h : p := by simp only [sg, if_true]; simp; omega) : p := h
theorem c_52 {p : Prop} (h : p := by refine ⟨?_, ?_⟩ <;> omega) : p := h
theorem c_51 {p : Prop} (h : p := by refine ⟨?_, ?_, ?_⟩ <;> omega) : p := h
theorem c_50 {p : Prop} (h : p := by intro o ho; have h1 : o = 0 := (by omega); subst h1; rfl) : p := h
theorem c_49 {p : Prop} (h : p := by intro o ho; have h2 : o = 0 ∨ o = 1 := (by omega); rcases h2 with rfl | rfl <;> rfl) : p := h
theorem c_48 {p : Prop} (h : p := by first | rfl | simp) : p := h
theorem c_47 {p : Prop} (h : p := by simp [go_sem]) : p := h
theorem c_46 {p : Prop} (h : p := by simpa using hk) : p := h
theorem c_45 {p : Prop} (h : p := by rintro e w' ⟨⟨h, _⟩ | ⟨_, h⟩, k⟩; exact absurd h h0; exact ⟨h, k⟩) : p := h
theorem c_44 {p : Prop} (h : p := by (try simp only [cell_drew, frozen_drew]); first | with_reducible assumption | simp [go_sem, *]) : p := h
theorem c_43 {p : Prop} (h : p := by refine ⟨?_, ?_, ?_, ?_⟩ <;> omega) : p := h
theorem c_42 {p : Prop} (h : p := by refine ⟨?_, ?_, ?_, ?_, ?_, ?_, ?_, ?_, ?_, ?_, ?_, ?_, ?_, ?_, ?_, ?_, ?_, ?_, ?_, ?_⟩ <;> omega) : p := h
theorem c_41 {p : Prop} (h : p := by refine Ext.trans HE.out ?_; repeat (first | with_reducible exact Ext.refl _ | with_reducible assumption | with_reducible refine Ext.alloc ?_ _ | with_reducible refine Ext.setCell ?_ c_14 _ | with_reducible refine Ext.drewN ?_ _ | with_reducible refine Ext.drew ?_ | with_reducible refine Ext.trans ?_ c_1)) : p := h
theorem c_40 {p : Prop} (h : p := by simp only [World.size_alloc]; omega) : p := h
theorem c_39 {p : Prop} (h : p := by have := congrArg Addr.block h; simpa using this) : p := h
theorem c_38 {p : Prop} (h : p := by rw [hz2]; omega) : p := h
theorem c_37 {p : Prop} (h : p := by first | exact hsz | (simp only [World.size_alloc]; omega)) : p := h
theorem c_36 {p : Prop} (h : p := by refine ⟨?_, ?_, ?_, ?_, ?_, ?_, ?_, ?_, ?_, ?_, ?_, ?_⟩ <;> omega) : p := h
theorem c_35 {p : Prop} (h : p := by simp [go_sem, *]) : p := h
theorem c_34 {p : Prop} (h : p := by (try simp only [size_drew, World.size_setCell]); omega) : p := h
theorem c_33 {p : Prop} (h : p := by rintro e w' ⟨⟨_, h⟩ | ⟨h, _⟩, k⟩; exact ⟨h, k⟩; exact absurd rfl h) : p := h
theorem c_32 {p : Prop} (h : p := by assumption) : p := h
theorem c_31 {p : Prop} (h : p := by refine ⟨?_, ?_, ?_, ?_, ?_, ?_, ?_, ?_, ?_, ?_, ?_, ?_, ?_, ?_, ?_, ?_, ?_, ?_, ?_, ?_, ?_, ?_, ?_, ?_, ?_, ?_, ?_, ?_, ?_, ?_⟩ <;> omega) : p := h
theorem c_30 {p : Prop} (h : p := by intro u hu; simp at hu; subst hu; rfl) : p := h
theorem c_29 {p : Prop} (h : p := by simp; omega) : p := h
theorem c_28 {p : Prop} (h : p := by (try simp only [frozen_drew]); first | with_reducible assumption | simp [go_sem, *]) : p := h
theorem c_27 {p : Prop} (h : p := by simp [go_sem, ↓IntWalk.iteOmega, *]) : p := h
theorem c_26 {p : Prop} (h : p := by refine ⟨?_, ?_, ?_, ?_, ?_, ?_⟩ <;> omega) : p := h
theorem c_25 {p : Prop} (h : p := by (repeat (first | with_reducible exact Ext.refl _ | with_reducible assumption | with_reducible refine Ext.alloc ?_ _ | with_reducible refine Ext.setCell ?_ c_19 _ | with_reducible refine Ext.drewN ?_ _ | with_reducible refine Ext.drew ?_ | with_reducible refine Ext.trans ?_ c_1))) : p := h
theorem c_24 {p : Prop} (h : p := by (repeat (first | with_reducible exact Ext.refl _ | with_reducible assumption | with_reducible refine Ext.alloc ?_ _ | with_reducible refine Ext.setCell ?_ c_14 _ | with_reducible refine Ext.drewN ?_ _ | with_reducible refine Ext.drew ?_ | with_reducible refine Ext.trans ?_ c_1))) : p := h
theorem c_23 {p : Prop} (h : p := by repeat (first | exact Ext.refl _ | with_reducible assumption | refine Ext.alloc ?_ _ | refine Ext.setCell ?_ c_14 _ | refine Ext.drewN ?_ _ | refine Ext.drew ?_ | refine Ext.trans ?_ c_1)) : p := h
theorem c_22 {p : Prop} (h : p := by (try dsimp only); omega) : p := h
theorem c_21 {p : Prop} (h : p := by unfold maxLen; omega) : p := h
theorem c_20 {p : Prop} (h : p := by simp [go_sem, ↓IntWalk.iteOmega]) : p := h
theorem c_19 {p : Prop} (h : p := by (try simp only []); omega) : p := h
theorem c_18 {p : Prop} (h : p := by (repeat (first | with_reducible refine ExtP.set ?_ | (with_reducible refine ExtP.store ?_ ?_; rotate_left; (focus ((try simp only []); omega))) | with_reducible refine ExtP.ext ?_ ((Ext.refl _).alloc _) | with_reducible refine ExtP.ext ?_ ((Ext.refl _).drew) | with_reducible assumption | with_reducible exact ExtP.of _ _ (Ext.refl w) | with_reducible refine ExtP.ext ?_ c_1))) : p := h
theorem c_17 {p : Prop} (h : p := by (try simp only [cell_drew, frozen_drew]); first | with_reducible assumption | simp [go_sem, ↓IntWalk.iteOmega, *]) : p := h
theorem c_16 {p : Prop} (h : p := by (try simp only [cell_drew]); first | with_reducible assumption | simp [go_sem, *]) : p := h
theorem c_15 {p : Prop} (h : p := by have := hge; (try simp only [size_drew, World.size_alloc] at this ⊢); first | exact this | omega) : p := h
theorem c_14 {p : Prop} (h : p := by (try simp only [wsz]); omega) : p := h
theorem c_13 {p : Prop} (h : p := by (try simp only [frozen_drew]); first | with_reducible assumption | (rw [cell_al, if_neg (by (try simp only [size_drew]); omega)]; (try simp only [cell_drew]); with_reducible assumption) | simp [go_sem, *]) : p := h
theorem c_12 {p : Prop} (h : p := by (try simp only [cell_drew, frozen_drew]); first | with_reducible assumption | (rw [cell_al, if_neg (by (try simp only [size_drew]); omega)]; (try simp only [cell_drew]); with_reducible assumption) | simp [go_sem, *]) : p := h
theorem c_11 {p : Prop} (h : p := by intro w1; go_simp; try with_reducible rfl) : p := h
theorem c_10 {p : Prop} (h : p := by (try dsimp only); (try simp only [wsz]); omega) : p := h
theorem c_9 {p : Prop} (h : p := by first | exact Or.inl (by refine ⟨?_, ?_, ?_⟩ <;> (first | rfl | (dsimp only; omega))) | exact Or.inr (by (try simp only [wsz]); omega)) : p := h
theorem c_8 {p : Prop} (h : p := by (try simp only [cell_drew]); first | with_reducible assumption | (rw [cell_al, if_neg (by (try simp only [size_drew]); omega)]; (try simp only [cell_drew]); with_reducible assumption) | simp [go_sem, *]) : p := h
theorem c_7 {p : Prop} (h : p := by (repeat (first | with_reducible refine ExtP.set ?_ | (with_reducible refine ExtP.store ?_ ?_; rotate_left; (focus ((try simp only [wsz]); omega))) | with_reducible refine ExtP.ext ?_ ((Ext.refl _).alloc _) | with_reducible refine ExtP.ext ?_ ((Ext.refl _).drew) | with_reducible assumption | with_reducible exact ExtP.of _ _ (Ext.refl w) | with_reducible refine ExtP.ext ?_ c_1))) : p := h
theorem c_6 {p : Prop} (h : p := by refine ⟨?_, fun j => ?_, ?_, fun j => ?_, ?_, fun j => ?_⟩ <;> omega) : p := h
theorem c_5 {p : Prop} (h : p := by (try simp only [cell_drew, frozen_drew]); first | with_reducible assumption | (rw [cell_al, if_neg (by (try simp only [size_drew]); omega)]; (try simp only [cell_drew]); with_reducible assumption) | simp [go_sem, ↓IntWalk.iteOmega, *]) : p := h
theorem c_4 {p : Prop} (h : p := by kernel_rfl) : p := h
theorem c_3 {p : Prop} (h : p := by first | (refine Or.inl ⟨?_, ?_, ?_⟩ <;> (first | rfl | (dsimp only; omega))) | (refine Or.inr (Or.inl ⟨?_, ?_⟩) <;> (first | rfl | (dsimp only; omega))) | (refine Or.inr (Or.inr ?_); (try dsimp only); (try simp only [wsz]); omega)) : p := h
theorem c_2 {p : Prop} (h : p := by first | (refine Or.inl ⟨?_, ?_, ?_⟩ <;> (first | rfl | (dsimp only; omega))) | (refine Or.inr ?_; (try dsimp only); (try simp only [wsz]); omega)) : p := h
theorem c_1 {p : Prop} (h : p := by with_reducible assumption) : p := h
theorem c_0 {p : Prop} (h : p := by intro w0 hSw; go_simp; try with_reducible rfl) : p := h
theorem ex_ {p : Prop} (h : p := by repeat (first | with_reducible exact Ext.refl _ | with_reducible assumption | with_reducible refine Ext.alloc ?_ _ | with_reducible refine Ext.setCell ?_ (by (try simp only [wsz]); omega) _ | with_reducible refine Ext.drewN ?_ _ | with_reducible refine Ext.drew ?_ | with_reducible refine Ext.trans ?_ (by with_reducible assumption))) : p := h
end Go.Proofs.YtogblocakccbgaaGreat
