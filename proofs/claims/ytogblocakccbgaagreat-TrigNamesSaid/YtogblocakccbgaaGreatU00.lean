/- Short names for phrases that the other texts use often. -/
import Derived.OrdersHeld
import Derived.OrdersIn
import Derived.Deep.RegionHeld
import Derived.BigQuiet
import Derived.ChangeAlike
import Derived.Deep.QuietTactic
import Derived.Deep.RegionHeld3
import Derived.Lib.Hide
import Derived.Outline
import Derived.OwnWalk
import Derived.RegionTactic
import Derived.WalkKit
import Derived.WalkLawsBesides
import Derived.WalkSpells
import Derived.Test.YtogblocakccbgaaGreatProg

namespace Go.Proofs.YtogblocakccbgaaGreat
open Go Go.RowKit
theorem sx_ : (∀ (a : Act) (d : Tmp) (v : Value), a.put (some d) v = { a with tmps := a.tmps.setIfInBounds d v }) ∧ (∀ (a : Act) (v : Value), a.put none v = a) ∧ (∀ {α : Type} (l : List α) (i : Nat) (v : α), l.toArray.setIfInBounds i v = (l.set i v).toArray) ∧ (∀ {α : Type} (a b : α) (l : List α), (a :: l).set 0 b = b :: l) ∧ (∀ {α : Type} (a b : α) (l : List α) (n : Nat), (a :: l).set (n + 1) b = a :: l.set n b) ∧ (∀ {α : Type} (l : List α) (i : Nat) (h : i < l.toArray.size), l.toArray[i] = l[i]'(by simpa using h)) ∧ (∀ {α : Type} (a : α) (l : List α) (i : Nat) (h : i + 1 < (a :: l).length), (a :: l)[i + 1] = l[i]'(by simpa using h)) ∧ (∀ {α : Type} (a : α) (l : List α) (h : 0 < (a :: l).length), (a :: l)[0] = a) := ⟨fun _ _ _ => rfl, fun _ _ => rfl, fun _ _ _ => List.setIfInBounds_toArray .., fun _ _ _ => rfl, fun _ _ _ _ => rfl, fun _ _ _ => rfl, fun _ _ _ _ => rfl, fun _ _ _ => rfl⟩
theorem tk {P : Program} {ops : Array Oper} {Q : Exit → Act → World → Prop} {md : Region.Mode} {S : World → Prop} (i : Nat) {oi : Oper} {v : Value} {fuel : Nat} {listed : Array Bool} {a : Act} {w : World} (hi : ops[i]? = some oi) (hy : ∀ w, S w → (execOp a.eval oi).run P w = .ok (.value v) w) (h : wpAnyH P md ops Q S fuel (listed.setIfInBounds i true) (a.put oi.dst v) w)
    (hs : Region.noSelect ops = true := by kernel_rfl) (hf : Region.free md ops listed i = true := by kernel_rfl) (hr : (Region.ready md ops listed).contains i = true := by kernel_rfl) (hQ : ∀ c a w, Q (.panic c) (a.put oi.dst v) w → Q (.panic c) a w := by exact fun _ _ _ h => h) (hg : Region.wanted oi (yielded ops a.tmps) = true := by rfl) (hS : S w := by assumption) : wpAnyH P md ops Q S (fuel + 1) listed a w := wpAnyH_take hi hs hf hr hQ (Or.inl ⟨hg, hy⟩) hS h
theorem ti {P : Program} {F : Fence} {n : Nat} {ops : Array Oper} {Q : Exit → Act → World → Prop} {md : Region.Mode} (i : Nat) {oi : Oper} {v : Value} {fuel : Nat} {listed : Array Bool} {a : Act} {w : World} (hi : ops[i]? = some oi) (hy : ∀ w, (execOp a.eval oi).run P w = .ok (.value v) w) (h : wpAnyIn F n P md ops Q fuel (listed.setIfInBounds i true) (a.put oi.dst v) w) (hro : F.round = none := by exact rfl)
    (hs : Region.noSelect ops = true := by kernel_rfl) (hf : Region.free md ops listed i = true := by kernel_rfl) (hr : (Region.ready md ops listed).contains i = true := by kernel_rfl) (hQ : ∀ c a w, Q (.panic c) (a.put oi.dst v) w → Q (.panic c) a w := by exact fun _ _ _ h => h) (hg : Region.wanted oi (yielded ops a.tmps) = true := by rfl) (hab : ∀ w, oi.about P w a.eval = none := by exact fun _ => rfl) : wpAnyIn F n P md ops Q (fuel + 1) listed a w := wpAnyIn_take hro hi hs hf hr hQ ⟨Or.inl ⟨hg, hy⟩, hab⟩ h
theorem sK {P : Program} {ops : Array Oper} {Q : Exit → Act → World → Prop} {md : Region.Mode} {S : World → Prop} (i : Nat) {oi : Oper} {v : Value} {fuel : Nat} {listed l' : Array Bool} {a a' : Act} {w : World} (h : wpAnyH P md ops Q S fuel l' a' w) (hi : ops[i]? = some oi := by rfl) (hy : ∀ w, S w → (execOp a.eval oi).run P w = .ok (.value v) w := by intro w0 hSw; go_simp; try with_reducible rfl) (hs : Region.noSelect ops = true := by kernel_rfl) (hf : Region.free md ops listed i = true := by kernel_rfl) (hr : (Region.ready md ops listed).contains i = true := by kernel_rfl) (hQ : ∀ c a w, Q (.panic c) (a.put oi.dst v) w → Q (.panic c) a w := by exact fun _ _ _ h => h) (hg : Region.wanted oi (yielded ops a.tmps) = true := by rfl) (hS : S w := by assumption) (hl : listed.setIfInBounds i true = l' := by (try simp only [sx_]); exact rfl) (ha : a.put oi.dst v = a' := by (try simp only [sx_]); exact rfl) : wpAnyH P md ops Q S (fuel + 1) listed a w := by subst hl ha; exact tk i hi hy h hs hf hr hQ hg hS
theorem sKx {P : Program} {ops : Array Oper} {Q : Exit → Act → World → Prop} {md : Region.Mode} {S : World → Prop} (i : Nat) {oi : Oper} {v : Value} {fuel : Nat} {listed l' : Array Bool} {a a' : Act} {w : World} (hy : ∀ w, S w → (execOp a.eval oi).run P w = .ok (.value v) w) (h : wpAnyH P md ops Q S fuel l' a' w) (hi : ops[i]? = some oi := by rfl) (hs : Region.noSelect ops = true := by kernel_rfl) (hf : Region.free md ops listed i = true := by kernel_rfl) (hr : (Region.ready md ops listed).contains i = true := by kernel_rfl) (hQ : ∀ c a w, Q (.panic c) (a.put oi.dst v) w → Q (.panic c) a w := by exact fun _ _ _ h => h) (hg : Region.wanted oi (yielded ops a.tmps) = true := by rfl) (hS : S w := by assumption) (hl : listed.setIfInBounds i true = l' := by (try simp only [sx_]); exact rfl) (ha : a.put oi.dst v = a' := by (try simp only [sx_]); exact rfl) : wpAnyH P md ops Q S (fuel + 1) listed a w := by subst hl ha; exact tk i hi hy h hs hf hr hQ hg hS
theorem sI {P : Program} {F : Fence} {n : Nat} {ops : Array Oper} {Q : Exit → Act → World → Prop} {md : Region.Mode} (i : Nat) {oi : Oper} {v : Value} {fuel : Nat} {listed l' : Array Bool} {a a' : Act} {w : World} (h : wpAnyIn F n P md ops Q fuel l' a' w) (hi : ops[i]? = some oi := by rfl) (hy : ∀ w, (execOp a.eval oi).run P w = .ok (.value v) w := by intro w1; go_simp; try with_reducible rfl) (hs : Region.noSelect ops = true := by kernel_rfl) (hf : Region.free md ops listed i = true := by kernel_rfl) (hr : (Region.ready md ops listed).contains i = true := by kernel_rfl) (hro : F.round = none := by exact rfl) (hQ : ∀ c a w, Q (.panic c) (a.put oi.dst v) w → Q (.panic c) a w := by exact fun _ _ _ h => h) (hg : Region.wanted oi (yielded ops a.tmps) = true := by rfl) (hab : ∀ w, oi.about P w a.eval = none := by exact fun _ => rfl) (hl : listed.setIfInBounds i true = l' := by (try simp only [sx_]); exact rfl) (ha : a.put oi.dst v = a' := by (try simp only [sx_]); exact rfl) : wpAnyIn F n P md ops Q (fuel + 1) listed a w := by subst hl ha; exact ti i hi hy h hro hs hf hr hQ hg hab
theorem sIx {P : Program} {F : Fence} {n : Nat} {ops : Array Oper} {Q : Exit → Act → World → Prop} {md : Region.Mode} (i : Nat) {oi : Oper} {v : Value} {fuel : Nat} {listed l' : Array Bool} {a a' : Act} {w : World} (hy : ∀ w, (execOp a.eval oi).run P w = .ok (.value v) w) (h : wpAnyIn F n P md ops Q fuel l' a' w) (hi : ops[i]? = some oi := by rfl) (hs : Region.noSelect ops = true := by kernel_rfl) (hf : Region.free md ops listed i = true := by kernel_rfl) (hr : (Region.ready md ops listed).contains i = true := by kernel_rfl) (hro : F.round = none := by exact rfl) (hQ : ∀ c a w, Q (.panic c) (a.put oi.dst v) w → Q (.panic c) a w := by exact fun _ _ _ h => h) (hg : Region.wanted oi (yielded ops a.tmps) = true := by rfl) (hab : ∀ w, oi.about P w a.eval = none := by exact fun _ => rfl) (hl : listed.setIfInBounds i true = l' := by (try simp only [sx_]); exact rfl) (ha : a.put oi.dst v = a' := by (try simp only [sx_]); exact rfl) : wpAnyIn F n P md ops Q (fuel + 1) listed a w := by subst hl ha; exact ti i hi hy h hro hs hf hr hQ hg hab
theorem rd1 {P : Program} {ops : Array Oper} {Q : Exit → Act → World → Prop} {md : Region.Mode} {S : World → Prop} {fuel : Nat} {listed : Array Bool} {a : Act} {w : World} {i : Nat} {o : Oper} (ho : ops[i]? = some o) (h : (∀ K' : Act → World → Prop, Shut (∀ a w, S w → (S w → wpAnyH P md ops Q S fuel (listed.setIfInBounds i true) a w) → K' a w) → if Region.wanted o (yielded ops a.tmps) = true then Oper.wp P o a w K' Q else K' (a.put o.dst undef) w)) : AllReadyH P md ops Q S fuel listed a w [i] := AllReadyH.cons ho h AllReadyH.nil
theorem rd2 {P : Program} {ops : Array Oper} {Q : Exit → Act → World → Prop} {md : Region.Mode} {S : World → Prop} {fuel : Nat} {listed : Array Bool} {a : Act} {w : World} {i j : Nat} {o u : Oper} (ho : ops[i]? = some o) (hu : ops[j]? = some u) (h : (∀ K' : Act → World → Prop, Shut (∀ a w, S w → (S w → wpAnyH P md ops Q S fuel (listed.setIfInBounds i true) a w) → K' a w) → if Region.wanted o (yielded ops a.tmps) = true then Oper.wp P o a w K' Q else K' (a.put o.dst undef) w)) (k : (∀ K' : Act → World → Prop, Shut (∀ a w, S w → (S w → wpAnyH P md ops Q S fuel (listed.setIfInBounds j true) a w) → K' a w) → if Region.wanted u (yielded ops a.tmps) = true then Oper.wp P u a w K' Q else K' (a.put u.dst undef) w)) : AllReadyH P md ops Q S fuel listed a w [i, j] := AllReadyH.cons ho h (AllReadyH.cons hu k AllReadyH.nil)
theorem wsz : (∀ (w : World) (o : Obj), (w.alloc o).heap.size = w.heap.size + 1) ∧ (∀ (w : World) (a : Addr) (v : Value), (w.setCell a v).heap.size = w.heap.size) := ⟨fun w o => World.size_alloc w o, fun w a v => World.size_setCell w a v⟩
theorem bn_ : (∀ {α : Type} [BEq α] [LawfulBEq α] {a b : α}, (a != b) = true ↔ a ≠ b) ∧ (∀ {α : Type} (a b : α), (a ≠ b) = ¬ a = b) ∧ (∀ {α : Type} [BEq α] [LawfulBEq α] {a b : α}, (a != b) = false ↔ a = b) := ⟨bne_iff_ne, ne_eq, bne_eq_false_iff_eq⟩
theorem bm_ : (∀ {α : Type} [BEq α] [LawfulBEq α] {a b : α}, (a == b) = true ↔ a = b) ∧ (∀ {α : Type} [BEq α] [LawfulBEq α] {a b : α}, (a == b) = false ↔ a ≠ b) := ⟨beq_iff_eq, beq_eq_false_iff_ne⟩
theorem wsd : (∀ w : World, w.drew.heap.size = w.heap.size) ∧ (∀ (w : World) (o : Obj), (w.alloc o).heap.size = w.heap.size + 1) ∧ (∀ (w : World) (a : Addr) (v : Value), (w.setCell a v).heap.size = w.heap.size) := ⟨fun _ => rfl, wsz⟩
theorem rh {P : Program} {ops : Array Oper} {Q : Exit → Act → World → Prop} {md : Region.Mode} {S : World → Prop} {fuel : Nat} {listed : Array Bool} {a : Act} {w : World} (i : Nat) (h : AllReadyH P md ops Q S fuel listed a w [i]) (hr : Region.ready md ops listed = [i] := by kernel_rfl) : wpAnyH P md ops Q S (fuel + 1) listed a w := wpAnyH_ready hr (by simp) h
theorem rh1 {P : Program} {ops : Array Oper} {Q : Exit → Act → World → Prop} {md : Region.Mode} {S : World → Prop} {fuel : Nat} {listed : Array Bool} {a : Act} {w : World} (i : Nat) {o : Oper} (ho : ops[i]? = some o) (h : (∀ K' : Act → World → Prop, Shut (∀ a w, S w → (S w → wpAnyH P md ops Q S fuel (listed.setIfInBounds i true) a w) → K' a w) → if Region.wanted o (yielded ops a.tmps) = true then Oper.wp P o a w K' Q else K' (a.put o.dst undef) w)) (hr : Region.ready md ops listed = [i] := by kernel_rfl) : wpAnyH P md ops Q S (fuel + 1) listed a w := wpAnyH_ready hr (by simp) (AllReadyH.cons ho h AllReadyH.nil)
theorem rh2 {P : Program} {ops : Array Oper} {Q : Exit → Act → World → Prop} {md : Region.Mode} {S : World → Prop} {fuel : Nat} {listed : Array Bool} {a : Act} {w : World} (i j : Nat) {o u : Oper} (ho : ops[i]? = some o) (hu : ops[j]? = some u) (h : (∀ K' : Act → World → Prop, Shut (∀ a w, S w → (S w → wpAnyH P md ops Q S fuel (listed.setIfInBounds i true) a w) → K' a w) → if Region.wanted o (yielded ops a.tmps) = true then Oper.wp P o a w K' Q else K' (a.put o.dst undef) w)) (k : (∀ K' : Act → World → Prop, Shut (∀ a w, S w → (S w → wpAnyH P md ops Q S fuel (listed.setIfInBounds j true) a w) → K' a w) → if Region.wanted u (yielded ops a.tmps) = true then Oper.wp P u a w K' Q else K' (a.put u.dst undef) w)) (hr : Region.ready md ops listed = [i, j] := by kernel_rfl) : wpAnyH P md ops Q S (fuel + 1) listed a w := wpAnyH_ready hr (by simp) (AllReadyH.cons ho h (AllReadyH.cons hu k AllReadyH.nil))
theorem ri1 {P : Program} {F : Fence} {n : Nat} {ops : Array Oper} {Q : Exit → Act → World → Prop} {md : Region.Mode} {fuel : Nat} {listed : Array Bool} {a : Act} {w : World} (i : Nat) {o : Oper} (ho : ops[i]? = some o) (h : ∀ K' : Act → World → Prop, (∀ a w, wpAnyIn F n P md ops Q fuel (listed.setIfInBounds i true) a w → K' a w) → if Region.wanted o (yielded ops a.tmps) = true then Oper.wpIn F n P o a w K' Q else (∀ f, o.about P w a.eval = some f → F.fn f) ∧ K' (a.put o.dst undef) w) (hr : Region.ready md ops listed = [i] := by kernel_rfl) : wpAnyIn F n P md ops Q (fuel + 1) listed a w := wpAnyIn_ready hr (by simp) (AllReadyIn.cons ho h AllReadyIn.nil)

theorem c_19 {p : Prop} (h : p := by unfold U32; omega) : p := h
theorem c_18 {p : Prop} (h : p := by with_reducible assumption) : p := h
theorem c_17 {p : Prop} (h : p := by (try simp only [wsz]); omega) : p := h
theorem c_16 {p : Prop} (h : p := by simp only [sg, if_true]; simp; omega) : p := h
theorem c_15 {p : Prop} (h : p := by intro w0 hSw; have q0 := BX.get hSw 0 rfl; have q1 := BX.get hSw 1 rfl; go_simp; try with_reducible rfl) : p := h
theorem c_14 {p : Prop} (h : p := by intro w0 hSw; have q0 := (GB.cell (o := 0) hSw hbl (by omega)).trans b0; have q1 := (GB.cell (o := 1) hSw hbl (by omega)).trans b1; go_simp; try with_reducible rfl) : p := h
theorem c_13 {p : Prop} (h : p := by have := congrArg Addr.block h; simpa using this) : p := h
theorem c_12 {p : Prop} (h : p := by intro w0 hSw; have q0 := (GB.cell (o := 0) hSw hbl1 (by omega)).trans b0'; have q1 := (GB.cell (o := 1) hSw hbl1 (by omega)).trans b1'; go_simp; try with_reducible rfl) : p := h
theorem c_11 {p : Prop} (h : p := by rw [hz2]; omega) : p := h
theorem c_10 {p : Prop} (h : p := by refine Ext.trans HE.out ?_; repeat (first | with_reducible exact Ext.refl _ | with_reducible assumption | with_reducible refine Ext.alloc ?_ _ | with_reducible refine Ext.setCell ?_ (by (try simp only [wsz]); omega) _ | with_reducible refine Ext.drewN ?_ _ | with_reducible refine Ext.drew ?_ | with_reducible refine Ext.trans ?_ (by with_reducible assumption))) : p := h
theorem c_9 {p : Prop} (h : p := by intro w0 hSw; have q0 := (Ext.cells hSw).1 _ 0 (World.block_lt_of_cell? _ _ a0); rw [a0] at q0; have q1 := (Ext.cells hSw).1 _ 1 (World.block_lt_of_cell? _ _ a1); rw [a1] at q1; have q2 := (Ext.cells hSw).1 _ 0 (World.block_lt_of_cell? _ _ b0); rw [b0] at q2; have q3 := (Ext.cells hSw).1 _ 1 (World.block_lt_of_cell? _ _ b1); rw [b1] at q3; go_simp; try with_reducible rfl) : p := h
theorem c_8 {p : Prop} (h : p := by simp [go_sem, ↓IntWalk.iteOmega]) : p := h
theorem c_7 {p : Prop} (h : p := by intro u hu; simp at hu; subst hu; rfl) : p := h
theorem c_6 {p : Prop} (h : p := by simp; omega) : p := h
theorem c_5 {p : Prop} (h : p := by have := hge; (try simp only [size_drew, World.size_alloc] at this ⊢); first | exact this | omega) : p := h
theorem c_4 {p : Prop} (h : p := by unfold maxLen; omega) : p := h
theorem c_3 {p : Prop} (h : p := by intro w0 hSw; have q0 := (GB.cell (o := 0) hSw hg4 (by omega)).trans d0; have q1 := (GB.cell (o := 1) hSw hg4 (by omega)).trans d1; have q2 := (GB.cell (o := 0) hSw hg5 (by omega)).trans e0; have q3 := (GB.cell (o := 1) hSw hg5 (by omega)).trans e1; go_simp; try with_reducible rfl) : p := h
theorem c_2 {p : Prop} (h : p := by kernel_rfl) : p := h
theorem c_1 {p : Prop} (h : p := by intro w0 hSw; have q0 := (GB.cell (o := 0) hSw hgl ng).trans d0; have q1 := (GB.cell (o := 1) hSw hgl ng).trans d1; have q2 := (GB.cell (o := 0) hSw lc2 nc).trans cU0; have q3 := (GB.cell (o := 1) hSw lc2 nc).trans cU1; have q4 := (GB.cell (o := 2) hSw la2 na).trans aU; have q5 := (GB.cell (o := 2) hSw lb2 nb).trans bU; have q6 := (GB.cell (o := 2) hSw lc2 nc).trans cU2; go_simp; try with_reducible rfl) : p := h
theorem c_0 {p : Prop} (h : p := by intro w0 hSw; have q0 := BX.get hSw 0 rfl; have q1 := BX.get hSw 1 rfl; have q2 := BX.get hSw 2 rfl; have q3 := BX.get hSw 3 rfl; go_simp; try with_reducible rfl) : p := h
theorem ex_ {p : Prop} (h : p := by repeat (first | with_reducible exact Ext.refl _ | with_reducible assumption | with_reducible refine Ext.alloc ?_ _ | with_reducible refine Ext.setCell ?_ (by (try simp only [wsz]); omega) _ | with_reducible refine Ext.drewN ?_ _ | with_reducible refine Ext.drew ?_ | with_reducible refine Ext.trans ?_ (by with_reducible assumption))) : p := h
theorem b_0 {p : Prop} (h : p := by repeat (first | with_reducible exact Ext.refl _ | with_reducible assumption | with_reducible refine Ext.alloc ?_ _ | with_reducible refine Ext.setCell ?_ c_17 _ | with_reducible refine Ext.drewN ?_ _ | with_reducible refine Ext.drew ?_ | with_reducible refine Ext.trans ?_ c_18)) : p := h
theorem b_1 {p : Prop} (h : p := by exact ⟨.bool false, by simp [go_sem, ↓IntWalk.iteOmega]⟩) : p := h
theorem b_2 {p : Prop} (h : p := by exact ⟨.slice none 0 0, by simp [go_sem, ↓IntWalk.iteOmega]⟩) : p := h
theorem b_3 {p : Prop} (h : p := by intro o; simp [go_sem, ↓IntWalk.iteOmega]) : p := h
theorem b_4 {p : Prop} (h : p := by (try dsimp only); exact hH.ext hx3) : p := h
theorem b_5 {p : Prop} (h : p := by (try dsimp only); exact hH.ext hx2) : p := h
theorem b_6 {p : Prop} (h : p := by exact Lim.box (Lim.box hx hnu) (NoU.set hnu (fun z e => by cases e))) : p := h
theorem b_7 {p : Prop} (h : p := by repeat (first | with_reducible exact hx | with_reducible refine Lim.box ?_ ?_ | with_reducible refine NoU.set ?_ (fun z e => by cases e) | with_reducible exact hnu | with_reducible refine NoU.alloc ?_ (by first | exact hsz | (simp only [World.size_alloc]; omega)) _ _ | with_reducible refine Lim.alloc ?_ _)) : p := h
theorem b_8 {p : Prop} (h : p := by (try dsimp only); exact (hH.set (by omega) hLn (fun z e => by cases e)).set (by omega) hLn (fun z e => by cases e)) : p := h
theorem b_9 {p : Prop} (h : p := by exact Lim.box (Lim.box hu hB) (NoU.set hB (fun z e => by cases e))) : p := h
theorem b_10 {p : Prop} (h : p := by (try dsimp only); exact Ext.trans hH hx) : p := h
theorem b_11 {p : Prop} (h : p := by (try dsimp only); exact Ext.setCell (Ext.setCell hH c_5 _) c_5 _) : p := h
theorem b_12 {p : Prop} (h : p := by (try dsimp only); exact GB.trans hH (GB.ext hx)) : p := h
theorem b_13 {p : Prop} (h : p := by (try dsimp only); exact (GB.set hH _).set _) : p := h
theorem b_14 {p : Prop} (h : p := by (try dsimp only); exact Ext.alloc hH _) : p := h
theorem b_15 {p : Prop} (h : p := by exact ob_allocW (n := 2) rfl hc rfl rfl rfl) : p := h
theorem b_16 {p : Prop} (h : p := by exact ob_e1 (x := .tmp 2) (a := .pointer (some ⟨w.heap.size, 0, none⟩)) (u := .pointer (some ⟨w.heap.size, 0, none⟩)) none hc) : p := h
theorem b_17 {p : Prop} (h : p := by exact ob_allocW (n := 5) rfl hc rfl rfl rfl) : p := h
theorem b_18 {p : Prop} (h : p := by exact ob_e1 (x := .tmp 1) (a := .pointer (some ⟨w.heap.size, 0, none⟩)) (u := .pointer (some ⟨w.heap.size, 0, none⟩)) none hc) : p := h
theorem b_19 {p : Prop} (h : p := by exact ob_call (fun v => [v 0]) hc rfl fun vs gs w1 c => hpi _ _ (c.v 0)) : p := h
theorem b_20 {p : Prop} (h : p := by exact ob_new (n := 2) [.bool false, .slice none 0 0, .int .i64 0] 57 rfl hc rfl rfl rfl) : p := h
theorem b_21 {p : Prop} (h : p := by exact ob_new (n := 4) [.bool false, .slice none 0 0, .int .i64 0] 57 rfl hc rfl rfl rfl) : p := h
theorem b_22 {p : Prop} (h : p := by exact ob_call (fun v => [v 0]) hc rfl fun vs gs w1 c => hnn _ _ (c.v 0)) : p := h
theorem b_23 {p : Prop} (h : p := by exact ob_e2 (x := .tmp 29) (y := .const (.int .i64 40)) (a := (.int .i64 (130))) (b := .int .i64 40) (u := .int .i64 (90)) (some 2) none hc (hs := by intro ρ w1 h k; go_simp; first | done | (simp only [IntKind.wrap_i64]; omega))) : p := h
theorem b_24 {p : Prop} (h : p := by exact ob_call (fun v => [v 1, v 3]) hc rfl fun vs gs w1 c => hxs _ _ _ (c.v 1) (c.v 3)) : p := h
theorem b_25 {p : Prop} (h : p := by exact ob_getW gx (x) hc rfl fun vs gs w1 c => c.b0 1) : p := h
theorem b_26 {p : Prop} (h : p := by exact ob_call (fun v => [v 0, .int .i64 1]) hc rfl fun vs gs w1 c => hx2 _ _ (c.v 0)) : p := h
theorem b_27 {p : Prop} (h : p := by exact ob_getN gp P.v P.r (some 2) hc rfl fun vs gs w1 c => c.b0 2) : p := h
theorem b_28 {p : Prop} (h : p := by exact ob_call (fun v => [v 1, v 3]) hc rfl fun vs gs w1 c => hqd _ _ _ (c.v 1) (c.v 3)) : p := h
theorem b_29 {p : Prop} (h : p := by exact ob_allocW (n := 3) rfl hc rfl rfl rfl) : p := h
theorem b_30 {p : Prop} (h : p := by exact ob_getW gq (q) hc rfl fun vs gs w1 c => c.b0 3) : p := h
theorem b_31 {p : Prop} (h : p := by exact ob_call (fun v => [v 0]) hc rfl fun vs gs w1 c => hqi _ _ (c.v 0)) : p := h
theorem b_32 {p : Prop} (h : p := by exact ob_e1 (x := .tmp 39) (a := (.tuple #[.int .i64 q, .int .i64 0])) (u := .int .i64 (q)) (some 2) hc) : p := h
theorem b_33 {p : Prop} (h : p := by exact ob_e1 (x := .tmp 39) (a := (.tuple #[.int .i64 q, .int .i64 0])) (u := .int .i64 (0)) (some 2) hc) : p := h
theorem b_34 {p : Prop} (h : p := by exact ob_call (fun v => [v 1, v 3]) hc rfl fun vs gs w1 c => hqp _ _ _ (c.v 1) (c.v 3)) : p := h
theorem b_35 {p : Prop} (h : p := by exact ob_call (fun v => [v 4, .int .i64 (-1)]) hc rfl fun vs gs w1 c => hhf _ _ (c.v 4)) : p := h
theorem b_36 {p : Prop} (h : p := by exact ob_call (fun v => [v 0, v 5]) hc rfl fun vs gs w1 c => hbs _ _ _ (c.v 0) (c.v 5)) : p := h
theorem b_37 {p : Prop} (h : p := by exact ob_e1 (x := .tmp 8) (a := .pointer (some ⟨gp, 0, none⟩)) (u := .pointer (some ⟨gp, 2, none⟩)) none hc) : p := h
theorem b_38 {p : Prop} (h : p := by exact ob_ld (x := .tmp 51) (g := gp) (f := 2) (u := .int .i64 (P.r)) (some 7) hc fun vs gs w1 c => BatP.r (c.b0 2)) : p := h
theorem b_39 {p : Prop} (h : p := by exact ob_call (fun v => [v 1, .int .i64 (-1)]) hc rfl fun vs gs w1 c => hph _ _ (c.v 1)) : p := h
theorem b_40 {p : Prop} (h : p := by exact ob_call (fun v => [v 2, v 4]) hc rfl fun vs gs w1 c => hos _ _ _ (c.v 2) (c.v 4)) : p := h
theorem b_41 {p : Prop} (h : p := by exact ob_ld (x := .tmp 65) (g := gb) (f := 2) (u := .int .i64 (b.r)) (some 2) hc fun vs gs w1 c => BatP.r (c.b0 4)) : p := h
theorem b_42 {p : Prop} (h : p := by exact ob_call (fun v => [v 3]) hc rfl fun vs gs w1 c => hbr _ _ (c.v 3)) : p := h
theorem b_43 {p : Prop} (h : p := by exact ob_call (fun v => [v 1, v 4]) hc rfl fun vs gs w1 c => hc1 _ _ _ (c.v 1) (c.v 4)) : p := h
theorem b_44 {p : Prop} (h : p := by exact ob_e1 (x := .tmp 62) (a := (.tuple #[.int .i64 1, .int .i64 0])) (u := .int .i64 (1)) (some 6) hc) : p := h
theorem b_45 {p : Prop} (h : p := by exact ob_e1 (x := .tmp 62) (a := (.tuple #[.int .i64 1, .int .i64 0])) (u := .int .i64 (0)) (some 6) hc) : p := h
theorem b_46 {p : Prop} (h : p := by exact ob_ld (x := .tmp 77) (g := gb) (f := 2) (u := .int .i64 (b.r)) (some 1) hc fun vs gs w1 c => BatP.r (c.b0 4)) : p := h
theorem b_47 {p : Prop} (h : p := by exact ob_call (fun v => [v 3]) hc rfl fun vs gs w1 c => hb2 _ _ (c.v 3)) : p := h
theorem b_48 {p : Prop} (h : p := by exact ob_call (fun v => [v 0, v 4]) hc rfl fun vs gs w1 c => hc2 _ _ _ (c.v 0) (c.v 4)) : p := h
theorem b_49 {p : Prop} (h : p := by exact ob_e1 (x := .tmp 75) (a := (.tuple #[.int .i64 1, .int .i64 0])) (u := .int .i64 (1)) (some 6) hc) : p := h
theorem b_50 {p : Prop} (h : p := by exact ob_e1 (x := .tmp 75) (a := (.tuple #[.int .i64 1, .int .i64 0])) (u := .int .i64 (0)) (some 6) hc) : p := h
theorem b_51 {p : Prop} (h : p := by exact ob_call (fun v => [v 5, v 6, v 7]) hc rfl fun vs gs w1 c => htu _ _ _ _ (c.v 5) (c.v 6) (c.v 7)) : p := h
theorem b_52 {p : Prop} (h : p := by exact ob_call (fun v => [v 8, v 9]) hc rfl fun vs gs w1 c => hun _ _ _ (c.v 8) (c.v 9)) : p := h
theorem b_53 {p : Prop} (h : p := by exact ob_e1 (x := .tmp 88) (a := (.tuple #[.agg #[.int .i64 f, .int .i64 (f + 1)], .bool true])) (u := .agg #[.int .i64 f, .int .i64 (f + 1)]) (some 11) hc) : p := h
theorem b_54 {p : Prop} (h : p := by exact ob_e1 (x := .tmp 88) (a := (.tuple #[.agg #[.int .i64 f, .int .i64 (f + 1)], .bool true])) (u := .bool true) (some 11) hc) : p := h
theorem b_55 {p : Prop} (h : p := by exact ob_new (n := 6) [.int .i64 0, .int .i64 0] 31 rfl hc rfl rfl rfl) : p := h
theorem b_56 {p : Prop} (h : p := by exact ob_ld (x := .tmp 27) (g := w.heap.size) (f := 1) (u := .slice ay ly cy) (some 0) hc fun vs gs w1 c => c.own 0 1) : p := h
theorem b_57 {p : Prop} (h : p := by exact ob_e1 (x := .tmp 28) (a := (.slice ay ly cy)) (u := .int .i64 (ly)) (some 1) hc) : p := h
theorem b_58 {p : Prop} (h : p := by exact ob_e1 (x := .tmp 31) (a := (.slice ax lx cx)) (u := .int .i64 (lx)) (some 4) hc) : p := h
theorem b_59 {p : Prop} (h : p := by exact ob_e2 (x := .tmp 33) (y := .const (.int .i64 16)) (a := (.int .i64 (M))) (b := .int .i64 16) (u := .bool false) (some 6) none hc (hs := by intro ρ w1 h k; go_simp; first | done | omega | (simp; omega))) : p := h
theorem b_60 {p : Prop} (h : p := by exact ob_getW (w.heap.size + 1) (x') hc rfl fun vs gs w1 c => c.b0 1) : p := h
theorem b_61 {p : Prop} (h : p := by exact ob_getW w.heap.size (y') hc rfl fun vs gs w1 c => c.b0 0) : p := h
theorem b_62 {p : Prop} (h : p := by simp [results, Tryz.results59, go_sem, ↓IntWalk.iteOmega, *]) : p := h
theorem b_63 {p : Prop} (h : p := by exact Lim.box (Lim.box hz3 hnu) (NoU.set hnu (fun z e => by cases e))) : p := h
theorem b_64 {p : Prop} (h : p := by (try dsimp only); exact hH.grown (g := gm) hgrowa (by omega) (by omega) hLm) : p := h
theorem b_65 {p : Prop} (h : p := by (try dsimp only); exact hH.ext hxm) : p := h
theorem b_66 {p : Prop} (h : p := by (try dsimp only); exact hH.ext ((Ext.refl _).alloc _)) : p := h
theorem b_67 {p : Prop} (h : p := by exact ob_getW w.heap.size ((x : Int)) hc rfl fun vs gs w1 c => c.b0 0) : p := h
theorem b_68 {p : Prop} (h : p := by exact ob_getW g8 ((t : Int)) hc rfl fun vs gs w1 c => c.b0 3) : p := h
end Go.Proofs.YtogblocakccbgaaGreat
