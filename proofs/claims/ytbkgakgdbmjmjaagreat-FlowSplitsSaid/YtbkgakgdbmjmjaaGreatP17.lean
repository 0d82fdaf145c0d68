/- Loads of a region that draws its order are taken first where all that  -/
import Derived.Test.YtbkgakgdbmjmjaaGreatP16
import Derived.Test.YtbkgakgdbmjmjaaGreatP04
set_option linter.unusedSimpArgs false
set_option linter.unusedVariables false
set_option maxRecDepth 100000
set_option maxHeartbeats 4000000
namespace Go.Proofs.YtbkgakgdbmjmjaaGreat
section
variable {P : Program} {ops : Array Oper} {Q : Exit → Act → World → Prop} {md : Region.Mode} {S : World → Prop} {T : Nat → Bool}
def wpAnyB (P : Program) (md : Region.Mode) (ops : Array Oper) (Q : Exit → Act → World → Prop) (S : World → Prop) (T : Nat → Bool) : Nat → Array Bool → Act → World → Prop
 | 0, listed, a, w => Region.ready md ops listed = [] ∧ Q .normal a w
 | fuel + 1, listed, a, w =>
  (Region.ready md ops listed = [] → Q .normal a w) ∧
  ∀ i ∈ Region.ready md ops listed, wpOp P ops Q i (fun a' w' => (T i = true → wpAny P md ops Q fuel (listed.setIfInBounds i true) a' w') ∧ (T i = false → S w' ∧ wpAnyB P md ops Q S T fuel (listed.setIfInBounds i true) a' w')) a w
theorem wpAny_of_b : ∀ (fuel : Nat) (listed : Array Bool) (a : Act) (w : World), wpAnyB P md ops Q S T fuel listed a w → wpAny P md ops Q fuel listed a w
  | 0, _, _, _, h => h
  | fuel + 1, _, _, _, h => ⟨h.1, fun i hi => wpOp_mono (fun a' w' h' => by
      cases ht : T i with
      | true => exact h'.1 ht
      | false => exact wpAny_of_b fuel _ a' w' (h'.2 ht).2) (h.2 i hi)⟩
def tillB (md : Region.Mode) (ops : Array Oper) (T : Nat → Bool) (i : Nat) : Bool :=
 (List.range ops.size).all fun j => !T j || (match ops[j]? with | some o => o.after.any fun e => Region.binds md e && e.on == i | none => true)
theorem tillB_spec {i j : Nat} {o : Oper} (h : tillB md ops T i = true) (ho : ops[j]? = some o) (ht : T j = true) : ∃ e ∈ o.after, Region.binds md e = true ∧ e.on = i := by
 unfold tillB at h
 rw [List.all_eq_true] at h
 have hj : j < ops.size := by
  rcases Nat.lt_or_ge j ops.size with h1 | h1
  ·exact h1
  ·rw [Array.getElem?_eq_none h1] at ho; cases ho
 have := h j (List.mem_range.2 hj)
 rw [ht, ho] at this
 simp only [Bool.not_true, Bool.false_or, Array.any_eq_true] at this
 obtain ⟨k, hk, he⟩ := this
 rw [Bool.and_eq_true, beq_iff_eq] at he
 exact ⟨o.after[k], Array.getElem_mem hk, he.1, he.2⟩
theorem wpAnyB_first {i : Nat} {oi : Oper} {v : Value} (hi : ops[i]? = some oi) (hsel : ∀ (j : Nat) (o : Oper) cs b, ops[j]? = some o → o.op ≠ .select cs b)
    (hQ : ∀ c a w, Q (.panic c) (a.put oi.dst v) w → Q (.panic c) a w) (hti : T i = false) (htill : tillB md ops T i = true) :
    ∀ (fuel : Nat) (listed : Array Bool) (a : Act) (w : World),
      (∀ j oj, ops[j]? = some oj → j ≠ i → listed.getD j true = false → (∀ e ∈ oj.after, Region.binds md e = true → e.on ≠ i) → oi.apart ops oj = true) →
      i ∈ Region.ready md ops listed → YieldsIf P ops S oi v a → S w →
      wpAnyB P md ops Q S T fuel (listed.setIfInBounds i true) (a.put oi.dst v) w → wpAnyB P md ops Q S T (fuel + 1) listed a w := by
  intro fuel
  induction fuel with
  | zero =>
    intro listed a w _ hr hy hS H
    refine ⟨fun h => c_63, fun j hj => ?_⟩
    by_cases hji : j = i
    · subst hji; exact hy.wpOp hi hS ⟨fun h => absurd (hti.symm.trans h) (by decide), fun _ => ⟨hS, H⟩⟩
    · have := ready_mono hj hji
      rw [H.1] at this
      cases this
  | succ fuel ih =>
    intro listed a w hfree hr hy hS H
    refine ⟨fun h => c_63, fun j hj => ?_⟩
    by_cases hji : j = i
    · subst hji; exact hy.wpOp hi hS ⟨fun h => absurd (hti.symm.trans h) (by decide), fun _ => ⟨hS, H⟩⟩
    · have h1 := H.2 j (ready_mono hj hji)
      obtain ⟨hjun, oj, hoj, hall⟩ := mem_ready.1 hj
      have hnot : ∀ e ∈ oj.after, Region.binds md e = true → e.on ≠ i := fun e he hb heq => by
        have h1 := hall e he hb
        have h0 := (mem_ready.1 hr).1
        rw [heq] at h1
        rcases Nat.lt_or_ge i listed.size with h' | h'
        · simp [h'] at h0 h1; rw [h0] at h1; cases h1
        · simp [Array.getElem?_eq_none h'] at h1
      have htj : T j = false := by
        cases ht : T j with
        | false => rfl
        | true =>
          obtain ⟨e, he, hb, heq⟩ := tillB_spec htill hoj ht
          exact absurd heq (hnot e he hb)
      have h2 := wpOp_putIf hoj (hfree j oj hoj hji hjun hnot) (fun cs b => hsel i oi cs b hi) (fun cs b => hsel j oj cs b hoj) hQ hy h1
      have hfree' : ∀ k ok, ops[k]? = some ok → k ≠ i → (listed.setIfInBounds j true).getD k true = false →
          (∀ e ∈ ok.after, Region.binds md e = true → e.on ≠ i) → oi.apart ops ok = true := fun k ok hk hki hun hno => by
        refine hfree k ok hk hki ?_ hno
        by_cases hjk : j = k
        · subst hjk; exact hjun
        · rw [getD_set_ne true hjk] at hun; exact hun
      refine wpOp_mono (fun a' w' h3 => ⟨fun h => absurd (htj.symm.trans h) (by decide), fun _ => ?_⟩) h2
      obtain ⟨h4, h5⟩ := h3.2.2 htj
      refine ⟨h4, ih (listed.setIfInBounds j true) a' w' hfree' (ready_mono hr (Ne.symm hji)) h3.1 h4 ?_⟩
      rw [Array.setIfInBounds_comm _ _ hji]
      exact h5
theorem wpAnyB_take {i : Nat} {oi : Oper} {v : Value} {fuel : Nat} {listed : Array Bool} {a : Act} {w : World} (hi : ops[i]? = some oi)
    (hs : Region.noSelect ops = true) (hf : Region.free md ops listed i = true) (hr : (Region.ready md ops listed).contains i = true) (hT : (T i == false && tillB md ops T i) = true)
    (hQ : ∀ c a w, Q (.panic c) (a.put oi.dst v) w → Q (.panic c) a w) (hy : YieldsIf P ops S oi v a) (hS : S w)
    (h : wpAnyB P md ops Q S T fuel (listed.setIfInBounds i true) (a.put oi.dst v) w) : wpAnyB P md ops Q S T (fuel + 1) listed a w := by
 rw [Bool.and_eq_true, beq_iff_eq] at hT
 exact wpAnyB_first hi (Region.noSelect_spec hs) hQ hT.1 hT.2 fuel listed a w (Region.free_spec hi hf) (by simpa using hr) hy hS h
theorem held_of_any : ∀ (fuel : Nat) (listed : Array Bool) (a : Act) (w : World), wpAny P md ops Q fuel listed a w → wpAnyH P md ops Q (fun _ => True) fuel listed a w
 | 0, _, _, _, h => h
 | fuel + 1, _, _, _, h => ⟨h.1, fun i hi => wpOp_mono (fun a' w' h' => ⟨trivial, held_of_any fuel _ a' w' h'⟩) (h.2 i hi)⟩
theorem wpAnyB_pure1 {i : Nat} {oi : Oper} {v : Value} (hi : ops[i]? = some oi) (hsel : ∀ (j : Nat) (o : Oper) cs b, ops[j]? = some o → o.op ≠ .select cs b)
    (hQ : ∀ c a w, Q (.panic c) (a.put oi.dst v) w → Q (.panic c) a w) (hti : T i = false) :
    ∀ (fuel : Nat) (listed : Array Bool) (a : Act) (w : World),
      (∀ j oj, ops[j]? = some oj → j ≠ i → listed.getD j true = false → (∀ e ∈ oj.after, Region.binds md e = true → e.on ≠ i) → oi.apart ops oj = true) →
      i ∈ Region.ready md ops listed → YieldsIf P ops (fun _ => True) oi v a → S w →
      wpAnyB P md ops Q S T fuel (listed.setIfInBounds i true) (a.put oi.dst v) w → wpAnyB P md ops Q S T (fuel + 1) listed a w := by
  intro fuel
  induction fuel with
  | zero =>
    intro listed a w _ hr hy hS H
    refine ⟨fun h => c_63, fun j hj => ?_⟩
    by_cases hji : j = i
    · subst hji; exact hy.wpOp hi trivial ⟨fun h => absurd (hti.symm.trans h) (by decide), fun _ => ⟨hS, H⟩⟩
    · have := ready_mono hj hji
      rw [H.1] at this
      cases this
  | succ fuel ih =>
    intro listed a w hfree hr hy hS H
    refine ⟨fun h => c_63, fun j hj => ?_⟩
    by_cases hji : j = i
    · subst hji; exact hy.wpOp hi trivial ⟨fun h => absurd (hti.symm.trans h) (by decide), fun _ => ⟨hS, H⟩⟩
    · have h1 := H.2 j (ready_mono hj hji)
      obtain ⟨hjun, oj, hoj, hall⟩ := mem_ready.1 hj
      have hnot : ∀ e ∈ oj.after, Region.binds md e = true → e.on ≠ i := fun e he hb heq => by
        have h1 := hall e he hb
        have h0 := (mem_ready.1 hr).1
        rw [heq] at h1
        rcases Nat.lt_or_ge i listed.size with h' | h'
        · simp [h'] at h0 h1; rw [h0] at h1; cases h1
        · simp [Array.getElem?_eq_none h'] at h1
      have h2 := wpOp_putIf hoj (hfree j oj hoj hji hjun hnot) (fun cs b => hsel i oi cs b hi) (fun cs b => hsel j oj cs b hoj) hQ hy h1
      have hfree' : ∀ k ok, ops[k]? = some ok → k ≠ i → (listed.setIfInBounds j true).getD k true = false →
          (∀ e ∈ ok.after, Region.binds md e = true → e.on ≠ i) → oi.apart ops ok = true := fun k ok hk hki hun hno => by
        refine hfree k ok hk hki ?_ hno
        by_cases hjk : j = k
        · subst hjk; exact hjun
        · rw [getD_set_ne true hjk] at hun; exact hun
      refine wpOp_mono (fun a' w' h3 => ⟨fun ht => ?_, fun ht => ?_⟩) h2
      · have h5 := h3.2.1 ht
        rw [Array.setIfInBounds_comm _ _ (Ne.symm hji)] at h5
        refine wpAny_of_held (S := fun _ => True) _ _ _ _ (wpAnyH_first hi hsel hQ fuel (listed.setIfInBounds j true) a' w' hfree' (ready_mono hr (Ne.symm hji)) h3.1 trivial (held_of_any _ _ _ _ h5))
      · obtain ⟨h4, h5⟩ := h3.2.2 ht
        refine ⟨h4, ih (listed.setIfInBounds j true) a' w' hfree' (ready_mono hr (Ne.symm hji)) h3.1 h4 ?_⟩
        rw [Array.setIfInBounds_comm _ _ hji]
        exact h5
theorem wpAnyB_pure {i : Nat} {oi : Oper} {v : Value} {fuel : Nat} {listed : Array Bool} {a : Act} {w : World} (hi : ops[i]? = some oi)
    (hs : Region.noSelect ops = true) (hf : Region.free md ops listed i = true) (hr : (Region.ready md ops listed).contains i = true) (hT : (T i == false) = true)
    (hQ : ∀ c a w, Q (.panic c) (a.put oi.dst v) w → Q (.panic c) a w) (hy : YieldsIf P ops (fun _ => True) oi v a) (hS : S w)
    (h : wpAnyB P md ops Q S T fuel (listed.setIfInBounds i true) (a.put oi.dst v) w) : wpAnyB P md ops Q S T (fuel + 1) listed a w := by
 rw [beq_iff_eq] at hT
 exact wpAnyB_pure1 hi (Region.noSelect_spec hs) hQ hT fuel listed a w (Region.free_spec hi hf) (by simpa using hr) hy hS h
def AllReadyB (P : Program) (md : Region.Mode) (ops : Array Oper) (Q : Exit → Act → World → Prop) (S : World → Prop) (T : Nat → Bool) (fuel : Nat) (listed : Array Bool) (a : Act) (w : World) (rs : List Nat) : Prop :=
 ∀ i ∈ rs, wpOp P ops Q i (fun a' w' => (T i = true → wpAny P md ops Q fuel (listed.setIfInBounds i true) a' w') ∧ (T i = false → S w' ∧ wpAnyB P md ops Q S T fuel (listed.setIfInBounds i true) a' w')) a w
theorem AllReadyB.nil {fuel : Nat} {listed : Array Bool} {a : Act} {w : World} : AllReadyB P md ops Q S T fuel listed a w [] := fun _ h => by cases h
theorem AllReadyB.cons {fuel : Nat} {listed : Array Bool} {a : Act} {w : World} {i : Nat} {o : Oper} {rs : List Nat} (ho : ops[i]? = some o) (hT : T i = false)
    (h : ∀ K' : Act → World → Prop, Shut (∀ a w, S w → (S w → wpAnyB P md ops Q S T fuel (listed.setIfInBounds i true) a w) → K' a w) → if Region.wanted o (yielded ops a.tmps) = true then Oper.wp P o a w K' Q else K' (a.put o.dst undef) w)
    (hs : AllReadyB P md ops Q S T fuel listed a w rs) : AllReadyB P md ops Q S T fuel listed a w (i :: rs) := fun j hj => by
  rcases List.mem_cons.1 hj with rfl | hj
  · exact wpOp_step ho (fun K' hK => h K' (fun a w hS hW => hK a w ⟨fun h => absurd (hT.symm.trans h) (by decide), fun _ => ⟨hS, hW hS⟩⟩))
  · exact hs j hj
theorem AllReadyB.last {fuel : Nat} {listed : Array Bool} {a : Act} {w : World} {i : Nat} {o : Oper} {rs : List Nat} (ho : ops[i]? = some o) (hT : T i = true)
    (h : ∀ K' : Act → World → Prop, Shut (∀ a w, True → (True → wpAnyH P md ops Q (fun _ => True) fuel (listed.setIfInBounds i true) a w) → K' a w) → if Region.wanted o (yielded ops a.tmps) = true then Oper.wp P o a w K' Q else K' (a.put o.dst undef) w)
    (hs : AllReadyB P md ops Q S T fuel listed a w rs) : AllReadyB P md ops Q S T fuel listed a w (i :: rs) := fun j hj => by
  rcases List.mem_cons.1 hj with rfl | hj
  · exact wpOp_step ho (fun K' hK => h K' (fun a w _ hW => hK a w ⟨fun _ => wpAny_of_held _ _ _ _ (hW trivial), fun h => absurd (hT.symm.trans h) (by decide)⟩))
  · exact hs j hj
theorem wpAnyB_ready {rs : List Nat} {fuel : Nat} {listed : Array Bool} {a : Act} {w : World} (hr : Region.ready md ops listed = rs) (hne : rs ≠ [])
    (h : AllReadyB P md ops Q S T fuel listed a w rs) : wpAnyB P md ops Q S T (fuel + 1) listed a w := ⟨fun h0 => absurd (hr ▸ h0) hne, hr ▸ h⟩
theorem wpAnyB_done {listed : Array Bool} {a : Act} {w : World} (hr : Region.ready md ops listed = []) (h : Q .normal a w) :
    ∀ fuel, wpAnyB P md ops Q S T fuel listed a w
  | 0 => ⟨hr, h⟩
  | _ + 1 => ⟨fun _ => h, by rw [hr]; simp⟩
theorem tp (i : Nat) {oi : Oper} {v : Value} {fuel : Nat} {listed : Array Bool} {a : Act} {w : World} (hi : ops[i]? = some oi) (hy : ∀ w, True → (execOp a.eval oi).run P w = .ok (.value v) w) (h : wpAnyB P md ops Q S T fuel (listed.setIfInBounds i true) (a.put oi.dst v) w)
    (hs : Region.noSelect ops = true := by kernel_rfl) (hf : Region.free md ops listed i = true := by kernel_rfl) (hr : (Region.ready md ops listed).contains i = true := by kernel_rfl) (hT : (T i == false) = true := by kernel_rfl) (hQ : ∀ c a w, Q (.panic c) (a.put oi.dst v) w → Q (.panic c) a w := by exact fun _ _ _ h => h) (hg : Region.wanted oi (yielded ops a.tmps) = true := by rfl) (hS : S w := by assumption) : wpAnyB P md ops Q S T (fuel + 1) listed a w := wpAnyB_pure hi hs hf hr hT hQ (Or.inl ⟨hg, hy⟩) hS h
theorem tb (i : Nat) {oi : Oper} {v : Value} {fuel : Nat} {listed : Array Bool} {a : Act} {w : World} (hi : ops[i]? = some oi) (hy : ∀ w, S w → (execOp a.eval oi).run P w = .ok (.value v) w) (h : wpAnyB P md ops Q S T fuel (listed.setIfInBounds i true) (a.put oi.dst v) w)
    (hs : Region.noSelect ops = true := by kernel_rfl) (hf : Region.free md ops listed i = true := by kernel_rfl) (hr : (Region.ready md ops listed).contains i = true := by kernel_rfl) (hT : (T i == false && tillB md ops T i) = true := by kernel_rfl) (hQ : ∀ c a w, Q (.panic c) (a.put oi.dst v) w → Q (.panic c) a w := by exact fun _ _ _ h => h) (hg : Region.wanted oi (yielded ops a.tmps) = true := by rfl) (hS : S w := by assumption) : wpAnyB P md ops Q S T (fuel + 1) listed a w := wpAnyB_take hi hs hf hr hT hQ (Or.inl ⟨hg, hy⟩) hS h
theorem rb {fuel : Nat} {listed : Array Bool} {a : Act} {w : World} {i : Nat} {o : Oper} (ho : ops[i]? = some o) (h : ∀ K' : Act → World → Prop, Shut (∀ a w, S w → (S w → wpAnyB P md ops Q S T fuel (listed.setIfInBounds i true) a w) → K' a w) → if Region.wanted o (yielded ops a.tmps) = true then Oper.wp P o a w K' Q else K' (a.put o.dst undef) w)
    (hr : Region.ready md ops listed = [i] := by kernel_rfl) (hT : T i = false := by rfl) : wpAnyB P md ops Q S T (fuel + 1) listed a w := wpAnyB_ready hr (by simp) (AllReadyB.cons ho hT h AllReadyB.nil)
theorem rl {fuel : Nat} {listed : Array Bool} {a : Act} {w : World} {i : Nat} {o : Oper} (ho : ops[i]? = some o) (h : ∀ K' : Act → World → Prop, Shut (∀ a w, True → (True → wpAnyH P md ops Q (fun _ => True) fuel (listed.setIfInBounds i true) a w) → K' a w) → if Region.wanted o (yielded ops a.tmps) = true then Oper.wp P o a w K' Q else K' (a.put o.dst undef) w)
    (hr : Region.ready md ops listed = [i] := by kernel_rfl) (hT : T i = true := by rfl) : wpAnyB P md ops Q S T (fuel + 1) listed a w := wpAnyB_ready hr (by simp) (AllReadyB.last ho hT h AllReadyB.nil)
theorem wpAnyH_nm {fuel : Nat} {listed : Array Bool} {a : Act} {X : World} (h : ∀ Y, X = Y → wpAnyH P md ops Q S fuel listed a Y) : wpAnyH P md ops Q S fuel listed a X := h X rfl
theorem wpAnyB_nm {fuel : Nat} {listed : Array Bool} {a : Act} {X : World} (h : ∀ Y, X = Y → wpAnyB P md ops Q S T fuel listed a Y) : wpAnyB P md ops Q S T fuel listed a X := h X rfl
theorem wp_region_till {id : Nat} {a : Act} {w : World} (T : Nat → Bool) (hm : P.follows .mixedOrders = true) (hS : S w.drew)
    (h : S w.drew → wpAnyB P .any ops Q S T ops.size (Array.replicate ops.size false) a w.drew) : (Code.region id ops true).wp P Q a w := by
 exact wp_region_any hm (wpAny_of_b _ _ _ _ (h hS))
end
end Go.Proofs.YtbkgakgdbmjmjaaGreat
namespace Go.Proofs.YtbkgakgdbmjmjaaGreat
open Go.RowKit
def FAt (w : World) (g : Nat) (x : Rat) : Prop := ∃ s ao l cap bo l2 cap2, w.cell? ⟨g, 0, none⟩ = some (.bool s) ∧ w.cell? ⟨g, 1, none⟩ = some (.slice ao l cap) ∧ w.cell? ⟨g, 2, none⟩ = some (.bool false) ∧ w.cell? ⟨g, 3, none⟩ = some (.slice bo l2 cap2) ∧
 Fr w (.agg #[.bool s, .slice ao l cap, .bool false, .slice bo l2 cap2]) x ∧ (∀ o, w.frozen? ⟨g, o, none⟩ = false) ∧ NoU w g ∧ g < w.heap.size
def F4 (w : World) (g : Nat) : Prop := (∃ a, w.cell? ⟨g, 0, none⟩ = some a) ∧ (∃ a, w.cell? ⟨g, 1, none⟩ = some a) ∧ (∃ a, w.cell? ⟨g, 2, none⟩ = some a) ∧ (∃ a, w.cell? ⟨g, 3, none⟩ = some a) ∧ (∀ o, w.frozen? ⟨g, o, none⟩ = false) ∧ NoU w g ∧ g < w.heap.size
theorem Fs.grown {T : Nat} {a b : World} {v : Value} {sa : Bool} {p q : Nat} (h : Fs a v sa p q) (hT : NoU a T) (k : GB T a b) : Fs b v sa p q := by
 obtain ⟨u, s, e, hu, hs⟩ := h; exact ⟨u, s, e, hu.grown hT k, hs.grown hT k⟩
theorem Fr.grown {T : Nat} {a b : World} {v : Value} {x : Rat} (h : Fr a v x) (hT : NoU a T) (k : GB T a b) : Fr b v x := Fs.grown h hT k
theorem FAt.ext {g : Nat} {a b : World} {x : Rat} (h : FAt a g x) (k : Ext a b) : FAt b g x := by
 obtain ⟨s, ao, l, cap, bo, l2, cap2, h0, h1, h2, h3, h4, h5, h6, h7⟩ := h
 exact ⟨s, ao, l, cap, bo, l2, cap2, (k.cells.1 g 0 h7).trans h0, (k.cells.1 g 1 h7).trans h1, (k.cells.1 g 2 h7).trans h2, (k.cells.1 g 3 h7).trans h3, h4.ext k, fun o => (k.cells.2 g o h7).trans (h5 o), h6.ext h7 k, Nat.lt_of_lt_of_le h7 k.size⟩
theorem FAt.grown {T g : Nat} {a b : World} {x : Rat} (h : FAt a g x) (hT : NoU a T) (k : GB T a b) (hne : g ≠ T) : FAt b g x := by
 obtain ⟨s, ao, l, cap, bo, l2, cap2, h0, h1, h2, h3, h4, h5, h6, h7⟩ := h
 exact ⟨s, ao, l, cap, bo, l2, cap2, (k.cell h7 hne).trans h0, (k.cell h7 hne).trans h1, (k.cell h7 hne).trans h2, (k.cell h7 hne).trans h3, h4.grown hT k, fun o => (k.frozen h7 hne).trans (h5 o), h6.grown k h7 hne, Nat.lt_of_lt_of_le h7 k.size⟩
theorem FAt.other {w : World} {g B j : Nat} {x : Rat} {v : Value} (h : FAt w g x) (hne : g ≠ B) (hB : NoU w B) : FAt (w.setCell ⟨B, j, none⟩ v) g x :=
 h.grown hB ((GB.refl B w).set v) hne
theorem FAt.box {w : World} {g : Nat} {x : Rat} (h : FAt w g x) : F4 w g := by
 obtain ⟨s, ao, l, cap, bo, l2, cap2, h0, h1, h2, h3, h4, h5, h6, h7⟩ := h; exact ⟨⟨_, h0⟩, ⟨_, h1⟩, ⟨_, h2⟩, ⟨_, h3⟩, h5, h6, h7⟩
theorem FAt.lt {w : World} {g : Nat} {x : Rat} (h : FAt w g x) : g < w.heap.size := h.box.2.2.2.2.2.2
theorem FAt.noU {w : World} {g : Nat} {x : Rat} (h : FAt w g x) : NoU w g := h.box.2.2.2.2.2.1
theorem F4.ext {g : Nat} {a b : World} (h : F4 a g) (k : Ext a b) : F4 b g := by
 obtain ⟨⟨x, h0⟩, ⟨y, h1⟩, ⟨z, h2⟩, ⟨u, h3⟩, h5, h6, h7⟩ := h
 exact ⟨⟨x, (k.cells.1 g 0 h7).trans h0⟩, ⟨y, (k.cells.1 g 1 h7).trans h1⟩, ⟨z, (k.cells.1 g 2 h7).trans h2⟩, ⟨u, (k.cells.1 g 3 h7).trans h3⟩, fun o => (k.cells.2 g o h7).trans (h5 o), h6.ext h7 k, Nat.lt_of_lt_of_le h7 k.size⟩
theorem F4.grown {T g : Nat} {a b : World} (h : F4 a g) (k : GB T a b) (hne : g ≠ T) : F4 b g := by
 obtain ⟨⟨x, h0⟩, ⟨y, h1⟩, ⟨z, h2⟩, ⟨u, h3⟩, h5, h6, h7⟩ := h
 exact ⟨⟨x, (k.cell h7 hne).trans h0⟩, ⟨y, (k.cell h7 hne).trans h1⟩, ⟨z, (k.cell h7 hne).trans h2⟩, ⟨u, (k.cell h7 hne).trans h3⟩, fun o => (k.frozen h7 hne).trans (h5 o), h6.grown k h7 hne, Nat.lt_of_lt_of_le h7 k.size⟩
theorem F4.other {w : World} {g B j : Nat} {v : Value} (h : F4 w g) (hne : g ≠ B) : F4 (w.setCell ⟨B, j, none⟩ v) g :=
 h.grown ((GB.refl B w).set v) hne
theorem F4.fresh (w : World) : F4 (w.alloc (.cells #[.bool false, .slice none 0 0, .bool false, .slice none 0 0] 161)) w.heap.size := by
 refine ⟨⟨.bool false, by simp [go_sem, ↓IntWalk.iteOmega]⟩, ⟨.slice none 0 0, by simp [go_sem, ↓IntWalk.iteOmega]⟩, ⟨.bool false, by simp [go_sem, ↓IntWalk.iteOmega]⟩, ⟨.slice none 0 0, by simp [go_sem, ↓IntWalk.iteOmega]⟩, fun o => by simp [go_sem, ↓IntWalk.iteOmega], NoU.new w _ _ (noU4 (by simp) (by simp) (by simp) (by simp)), by simp⟩
theorem F4.store {w : World} {g : Nat} {s : Bool} {ao bo : Option Addr} {l cap l2 cap2 : Nat} {x : Rat} (h : F4 w g) (hw : Fr w (.agg #[.bool s, .slice ao l cap, .bool false, .slice bo l2 cap2]) x) :
    FAt ((((w.setCell ⟨g, 0, none⟩ (.bool s)).setCell ⟨g, 1, none⟩ (.slice ao l cap)).setCell ⟨g, 2, none⟩ (.bool false)).setCell ⟨g, 3, none⟩ (.slice bo l2 cap2)) g x := by
 obtain ⟨⟨a, h0⟩, ⟨b, h1⟩, ⟨c, h2⟩, ⟨d, h3⟩, h5, h6, h7⟩ := h
 have n1 : NoU (w.setCell ⟨g, 0, none⟩ (.bool s)) g := h6.set (fun z e => by cases e)
 have n2 : NoU ((w.setCell ⟨g, 0, none⟩ (.bool s)).setCell ⟨g, 1, none⟩ (.slice ao l cap)) g := n1.set (fun z e => by cases e)
 have n3 : NoU (((w.setCell ⟨g, 0, none⟩ (.bool s)).setCell ⟨g, 1, none⟩ (.slice ao l cap)).setCell ⟨g, 2, none⟩ (.bool false)) g := n2.set (fun z e => by cases e)
 refine ⟨s, ao, l, cap, bo, l2, cap2, ?_, ?_, ?_, ?_, (((hw.box h6).box n1).box n2).box n3, fun o => by simp only [World.frozen?_setCell]; exact h5 o, n3.set (fun z e => by cases e), by simpa using h7⟩ <;>
  simp [go_sem, ↓IntWalk.iteOmega, h0, h1, h2, h3]
theorem FAt.lit {w : World} {s : Bool} {ao bo : Option Addr} {l cap l2 cap2 : Nat} {x : Rat} (h : Fr w (.agg #[.bool s, .slice ao l cap, .bool false, .slice bo l2 cap2]) x) : FAt (w.alloc (.cells #[.bool s, .slice ao l cap, .bool false, .slice bo l2 cap2] 161)) w.heap.size x :=
 ⟨s, ao, l, cap, bo, l2, cap2, by simp [go_sem, ↓IntWalk.iteOmega], by simp [go_sem, ↓IntWalk.iteOmega], by simp [go_sem, ↓IntWalk.iteOmega], by simp [go_sem, ↓IntWalk.iteOmega], h.ext ((Ext.refl w).alloc _), fun o => by simp [go_sem, ↓IntWalk.iteOmega], NoU.new w _ _ (noU4 (fun z e => by cases e) (fun z e => by cases e) (fun z e => by cases e) (fun z e => by cases e)), by simp⟩
theorem Ext.set4 {a w : World} (h : Ext a w) {g : Nat} (hg : a.heap.size ≤ g) (x y z u : Value) : Ext a ((((w.setCell ⟨g, 0, none⟩ x).setCell ⟨g, 1, none⟩ y).setCell ⟨g, 2, none⟩ z).setCell ⟨g, 3, none⟩ u) :=
 (((h.setCell hg x).setCell hg y).setCell hg z).setCell hg u
theorem FAt.other4 {w : World} {g B : Nat} {x : Rat} {s t : Bool} {ao bo : Option Addr} {l cap l2 cap2 : Nat} (h : FAt w g x) (hne : g ≠ B) (hB : NoU w B) :
    FAt ((((w.setCell ⟨B, 0, none⟩ (.bool s)).setCell ⟨B, 1, none⟩ (.slice ao l cap)).setCell ⟨B, 2, none⟩ (.bool t)).setCell ⟨B, 3, none⟩ (.slice bo l2 cap2)) g x :=
  have n1 : NoU (w.setCell ⟨B, 0, none⟩ (.bool s)) B := hB.set (fun z e => by cases e)
  have n2 := n1.set (B' := B) (j := 1) (x := .slice ao l cap) (fun z e => by cases e)
  have n3 := n2.set (B' := B) (j := 2) (x := .bool t) (fun z e => by cases e)
  (((h.other hne hB).other hne n1).other hne n2).other hne n3
theorem F4.other4 {w : World} {g B : Nat} {x y z u : Value} (h : F4 w g) (hne : g ≠ B) :
    F4 ((((w.setCell ⟨B, 0, none⟩ x).setCell ⟨B, 1, none⟩ y).setCell ⟨B, 2, none⟩ z).setCell ⟨B, 3, none⟩ u) g :=
  (((h.other hne).other hne).other hne).other hne
theorem Fr.set4 {w : World} {B : Nat} {v : Value} {y : Rat} {s t : Bool} {ao bo : Option Addr} {l cap l2 cap2 : Nat} (h : Fr w v y) (hB : NoU w B) :
    Fr ((((w.setCell ⟨B, 0, none⟩ (.bool s)).setCell ⟨B, 1, none⟩ (.slice ao l cap)).setCell ⟨B, 2, none⟩ (.bool t)).setCell ⟨B, 3, none⟩ (.slice bo l2 cap2)) v y :=
  have n1 : NoU (w.setCell ⟨B, 0, none⟩ (.bool s)) B := hB.set (fun z e => by cases e)
  have n2 := n1.set (B' := B) (j := 1) (x := .slice ao l cap) (fun z e => by cases e)
  have n3 := n2.set (B' := B) (j := 2) (x := .bool t) (fun z e => by cases e)
  (((h.box hB).box n1).box n2).box n3
theorem two_store {w : World} {g1 g2 : Nat} {s t : Bool} {ao bo co eo : Option Addr} {l cap l2 cap2 m cb m2 cb2 : Nat} {x y : Rat} (h1 : F4 w g1) (h2 : F4 w g2) (hne : g1 ≠ g2)
    (hx : Fr w (.agg #[.bool s, .slice ao l cap, .bool false, .slice bo l2 cap2]) x) (hy : Fr w (.agg #[.bool t, .slice co m cb, .bool false, .slice eo m2 cb2]) y) :
    FAt ((((((((w.setCell ⟨g1, 0, none⟩ (.bool s)).setCell ⟨g1, 1, none⟩ (.slice ao l cap)).setCell ⟨g1, 2, none⟩ (.bool false)).setCell ⟨g1, 3, none⟩ (.slice bo l2 cap2)).setCell ⟨g2, 0, none⟩ (.bool t)).setCell ⟨g2, 1, none⟩ (.slice co m cb)).setCell ⟨g2, 2, none⟩ (.bool false)).setCell ⟨g2, 3, none⟩ (.slice eo m2 cb2)) g1 x ∧
    FAt ((((((((w.setCell ⟨g1, 0, none⟩ (.bool s)).setCell ⟨g1, 1, none⟩ (.slice ao l cap)).setCell ⟨g1, 2, none⟩ (.bool false)).setCell ⟨g1, 3, none⟩ (.slice bo l2 cap2)).setCell ⟨g2, 0, none⟩ (.bool t)).setCell ⟨g2, 1, none⟩ (.slice co m cb)).setCell ⟨g2, 2, none⟩ (.bool false)).setCell ⟨g2, 3, none⟩ (.slice eo m2 cb2)) g2 y :=
  have a := h1.store hx
  have b := h2.other4 (x := .bool s) (y := .slice ao l cap) (z := .bool false) (u := .slice bo l2 cap2) (fun e => hne e.symm)
  ⟨a.other4 hne b.2.2.2.2.2.1, b.store (hy.set4 h1.2.2.2.2.2.1)⟩
theorem FAt.opened {w : World} {g : Nat} {x : Rat} (h : FAt w g x) : ∃ s ao l cap bo l2 cap2, w.cell? ⟨g, 0, none⟩ = some (.bool s) ∧ w.cell? ⟨g, 1, none⟩ = some (.slice ao l cap) ∧ w.cell? ⟨g, 2, none⟩ = some (.bool false) ∧ w.cell? ⟨g, 3, none⟩ = some (.slice bo l2 cap2) ∧
    Fr w (.agg #[.bool s, .slice ao l cap, .bool false, .slice bo l2 cap2]) x ∧ (∀ o, w.frozen? ⟨g, o, none⟩ = false) ∧ (((w.setCell ⟨g, 0, none⟩ (.bool s)).setCell ⟨g, 1, none⟩ (.slice ao l cap)).setCell ⟨g, 2, none⟩ (.bool false)).setCell ⟨g, 3, none⟩ (.slice bo l2 cap2) = w := by
 obtain ⟨s, ao, l, cap, bo, l2, cap2, h0, h1, h2, h3, h4, h5, h6, h7⟩ := h
 exact ⟨s, ao, l, cap, bo, l2, cap2, h0, h1, h2, h3, h4, h5, by rw [setCell_self _ _ _ _ h0, setCell_self _ _ _ _ h1, setCell_self _ _ _ _ h2, setCell_self _ _ _ _ h3]⟩
theorem z_eWhole (n : Int) (w : World) (hn : -9223372036854775808 ≤ n) (hn2 : n ≤ 9223372036854775807) :
    Calls Tryz.prog 228 #[.int .i64 n] w fun e w' => ∃ u, e = .returned u ∧ Fr w' u (n : Rat) ∧ Ext w w' := by
 have hk1 : ∀ w1, Calls Tryz.prog 93 #[.int .i64 n, .int .i64 1] w1 fun e w' => ∃ u, e = .returned (.tuple #[u, .int .i64 0]) ∧ Fr w' u (mkRat n 1) ∧ Ext w1 w' := fun w1 => z_Of n 1 w1 hn hn2 (by decide) (by decide)
 rw [show mkRat n 1 = (n : Rat) from Rat.mkRat_one ..] at hk1
 generalize ((n : Int) : Rat) = X at *
 go_enter Tryz.func228, Tryz.ntmps228
 go_wp2_with (go_at_call 93; (with_reducible refine (hk1 _).mono ?_); rintro e w4 ⟨y4, rfl, hn4, hb4⟩; obtain ⟨s8, ao8, l8, cap8, bo8, l9, cap9, rfl⟩ := hn4.shape; obtain ⟨_, _, ⟨hc4, hf4⟩, hz4⟩ := hb4.c3; (try simp only [wsz] at hz4 hc4 hf4))
 have hA0 : Ext (w.alloc (.cells #[.bool false, .slice none 0 0, .bool false, .slice none 0 0] 161)) w4 := ex_
 have hnu : NoU w4 w.heap.size := by
  have := (NoU.new w #[.bool false, .slice none 0 0, .bool false, .slice none 0 0] 161 (noU4 (by simp) (by simp) (by simp) (by simp))).ext (by simp) hA0
  simpa using this
 refine bodyPost_ret (v := .agg #[.bool s8, .slice ao8 l8 cap8, .bool false, .slice bo8 l9 cap9]) ?_ rfl ⟨_, rfl, ?_, ?_⟩
 ·simp [results, Tryz.results228, go_sem, ↓IntWalk.iteOmega, *]
 ·have hnv := fun w5 (k : Ext w4 w5) => hnu.ext (by omega) k
  refine Fr.box (Fr.box (Fr.box (Fr.box (Fr.ext hn4 ?_) ?_) ?_) ?_) ?_
  ·exact b_6
  all_goals ((repeat (with_reducible refine NoU.set ?_ (fun z e => by cases e))); exact hnv _ ex_)
 ·exact b_6
theorem T_ZEA_2 {p : Prop} (h : p := by
 have := (NoU.new ((w.alloc (.cells #[.bool s1, .slice ao l1 cap1, .bool false, .slice bo l2 cap2] 161)).alloc (.cells #[.bool s2, .slice co l3 cap3, .bool false, .slice eo l4 cap4] 161)) #[.bool false, .slice none 0 0, .bool false, .slice none 0 0] 161 (noU4 (by simp) (by simp) (by simp) (by simp))).ext (by simp) hA0
 simpa using this) : p := h
theorem T_ZEA_1 {p : Prop} (h : p := by
 have hnv := fun w5 (k : Ext w4 w5) => hnu.ext (by omega) k
 refine Fr.box (Fr.box (Fr.box (Fr.box (Fr.ext hn4 ?_) ?_) ?_) ?_) ?_ 
 ·exact b_6
 all_goals ((repeat (with_reducible refine NoU.set ?_ (fun z e => by cases e))); exact hnv _ ex_)) : p := h
theorem z_eMul (va vb : Value) (x y : Rat) (a b : Nat) (w : World) (hf : Fr w va x) (hg : Fr w vb y) (hx : Fb x a) (hy : Fb y b) (hab : a + b ≤ 130000) :
    Calls Tryz.prog 225 #[va, vb] w fun e w' => ∃ u, e = .returned u ∧ Fr w' u (x * y) ∧ Ext w w' := by
 obtain ⟨s1, ao, l1, cap1, bo, l2, cap2, rfl⟩ := hf.shape
 obtain ⟨s2, co, l3, cap3, eo, l4, cap4, rfl⟩ := hg.shape
 have hk1 := fun w1 (k1 : Ext w w1) => z_fMul _ _ x y a b w1 (hf.ext k1) (hg.ext k1) hx hy hab
 generalize x * y = X at *
 clear hx hy hab hf hg
 go_enter Tryz.func225, Tryz.ntmps225
 go_wp2_with (go_at_call 254; (with_reducible refine (hk1 _ ex_).mono ?_); rintro e w4 ⟨y4, rfl, hn4, hb4⟩; obtain ⟨s8, ao8, l8, cap8, bo8, l9, cap9, rfl⟩ := hn4.shape; obtain ⟨_, _, ⟨hc4, hf4⟩, hz4⟩ := hb4.c3; (try simp only [wsz] at hz4 hc4 hf4))
 have hA0 : Ext (((w.alloc (.cells #[.bool s1, .slice ao l1 cap1, .bool false, .slice bo l2 cap2] 161)).alloc (.cells #[.bool s2, .slice co l3 cap3, .bool false, .slice eo l4 cap4] 161)).alloc (.cells #[.bool false, .slice none 0 0, .bool false, .slice none 0 0] 161)) w4 := ex_
 have hnu : NoU w4 (w.heap.size + 1 + 1) := by
  exact T_ZEA_2
 refine bodyPost_ret (v := .agg #[.bool s8, .slice ao8 l8 cap8, .bool false, .slice bo8 l9 cap9]) ?_ rfl ⟨_, rfl, ?_, ?_⟩
 ·simp [results, Tryz.results225, go_sem, ↓IntWalk.iteOmega, *]
 ·exact T_ZEA_1
 ·exact b_6
theorem z_eAdd (va vb : Value) (x y : Rat) (a b : Nat) (w : World) (hf : Fr w va x) (hg : Fr w vb y) (hx : Fb x a) (hy : Fb y b) (hab : a + b ≤ 130000) :
    Calls Tryz.prog 229 #[va, vb] w fun e w' => ∃ u, e = .returned u ∧ Fr w' u (x + y) ∧ Ext w w' := by
 obtain ⟨s1, ao, l1, cap1, bo, l2, cap2, rfl⟩ := hf.shape
 obtain ⟨s2, co, l3, cap3, eo, l4, cap4, rfl⟩ := hg.shape
 have hk1 := fun w1 (k1 : Ext w w1) => z_fAdd _ _ x y a b w1 (hf.ext k1) (hg.ext k1) hx hy hab
 generalize x + y = X at *
 clear hx hy hab hf hg
 go_enter Tryz.func229, Tryz.ntmps229
 go_wp2_with (go_at_call 255; (with_reducible refine (hk1 _ ex_).mono ?_); rintro e w4 ⟨y4, rfl, hn4, hb4⟩; obtain ⟨s8, ao8, l8, cap8, bo8, l9, cap9, rfl⟩ := hn4.shape; obtain ⟨_, _, ⟨hc4, hf4⟩, hz4⟩ := hb4.c3; (try simp only [wsz] at hz4 hc4 hf4))
 have hA0 : Ext (((w.alloc (.cells #[.bool s1, .slice ao l1 cap1, .bool false, .slice bo l2 cap2] 161)).alloc (.cells #[.bool s2, .slice co l3 cap3, .bool false, .slice eo l4 cap4] 161)).alloc (.cells #[.bool false, .slice none 0 0, .bool false, .slice none 0 0] 161)) w4 := ex_
 have hnu : NoU w4 (w.heap.size + 1 + 1) := by
  exact T_ZEA_2
 refine bodyPost_ret (v := .agg #[.bool s8, .slice ao8 l8 cap8, .bool false, .slice bo8 l9 cap9]) ?_ rfl ⟨_, rfl, ?_, ?_⟩
 ·simp [results, Tryz.results229, go_sem, ↓IntWalk.iteOmega, *]
 ·exact T_ZEA_1
 ·exact b_6
theorem z_eSub (va vb : Value) (x y : Rat) (a b : Nat) (w : World) (hf : Fr w va x) (hg : Fr w vb y) (hx : Fb x a) (hy : Fb y b) (hab : a + b ≤ 130000) :
    Calls Tryz.prog 230 #[va, vb] w fun e w' => ∃ u, e = .returned u ∧ Fr w' u (x - y) ∧ Ext w w' := by
 obtain ⟨s1, ao, l1, cap1, bo, l2, cap2, rfl⟩ := hf.shape
 obtain ⟨s2, co, l3, cap3, eo, l4, cap4, rfl⟩ := hg.shape
 have hk1 := fun w1 (k1 : Ext w w1) => z_fSub _ _ x y a b w1 (hf.ext k1) (hg.ext k1) hx hy hab
 generalize x - y = X at *
 clear hx hy hab hf hg
 go_enter Tryz.func230, Tryz.ntmps230
 go_wp2_with (go_at_call 256; (with_reducible refine (hk1 _ ex_).mono ?_); rintro e w4 ⟨y4, rfl, hn4, hb4⟩; obtain ⟨s8, ao8, l8, cap8, bo8, l9, cap9, rfl⟩ := hn4.shape; obtain ⟨_, _, ⟨hc4, hf4⟩, hz4⟩ := hb4.c3; (try simp only [wsz] at hz4 hc4 hf4))
 have hA0 : Ext (((w.alloc (.cells #[.bool s1, .slice ao l1 cap1, .bool false, .slice bo l2 cap2] 161)).alloc (.cells #[.bool s2, .slice co l3 cap3, .bool false, .slice eo l4 cap4] 161)).alloc (.cells #[.bool false, .slice none 0 0, .bool false, .slice none 0 0] 161)) w4 := ex_
 have hnu : NoU w4 (w.heap.size + 1 + 1) := by
  exact T_ZEA_2
 refine bodyPost_ret (v := .agg #[.bool s8, .slice ao8 l8 cap8, .bool false, .slice bo8 l9 cap9]) ?_ rfl ⟨_, rfl, ?_, ?_⟩
 ·simp [results, Tryz.results230, go_sem, ↓IntWalk.iteOmega, *]
 ·exact T_ZEA_1
 ·exact b_6
theorem z_eCo (B k : Nat) (v : Value) (l : List Int) (w : World) (hB : w.cell? ⟨B, 0, none⟩ = some v) (hX : Xs w v l) (hk : k < l.length) :
    Calls Tryz.prog 227 #[.int .i64 (k : Int), .pointer (some ⟨B, 0, none⟩)] w fun e w' => ∃ u, e = .returned u ∧ Fr w' u (cN l k : Rat) ∧ Ext w w' := by
 obtain ⟨ao, b, o, cap, rfl, h1, h2, h3, h4, h5, h6⟩ := hX
 obtain rfl := h1 (by omega)
 have hb := h4 (by omega)
 have hc := h5 k hk
 have hi := h6 k hk
 have hl : B < w.heap.size := World.block_lt_of_cell? w _ hB
 have hk1 := fun w1 => z_eWhole (l.getD k 0) w1 hi.1 (by have := hi.2; omega)
 unfold cN
 generalize ((l.getD k 0 : Int) : Rat) = X at *
 generalize l.getD k 0 = c at *
 clear h1 h4 h5 h6 hi
 go_enter Tryz.func227, Tryz.ntmps227
 go_wp2_with (go_at_call 228; (with_reducible refine (hk1 _).mono ?_); rintro e w4 ⟨y4, rfl, hn4, hb4⟩; obtain ⟨s8, ao8, l8, cap8, bo8, l9, cap9, rfl⟩ := hn4.shape; obtain ⟨_, _, ⟨hc4, hf4⟩, hz4⟩ := hb4.c3; (try simp only [wsz] at hz4 hc4 hf4))
 have hA0 : Ext (w.alloc (.cells #[.bool false, .slice none 0 0, .bool false, .slice none 0 0] 161)) w4 := ex_
 have hF := (F4.fresh w).ext hA0
 refine bodyPost_ret (v := .agg #[.bool s8, .slice ao8 l8 cap8, .bool false, .slice bo8 l9 cap9]) ?_ rfl ⟨_, rfl, ?_, ?_⟩
 ·simp [results, Tryz.results227, go_sem, ↓IntWalk.iteOmega, *]
 ·exact Fr.set4 hn4 hF.2.2.2.2.2.1
 ·exact b_6
def ClI (W1 : World) (g1 g2 N : Nat) (c : Nat → Int) (x : Rat) (i : Value) (wr : World) : Prop := ∃ j : Nat, j ≤ N ∧ i = .int .i64 ((N - j : Nat) : Int) ∧ Ext W1 wr ∧ FAt wr g1 (clB c x N j).1 ∧ FAt wr g2 (clB c x N j).2
theorem clB_fb {c : Nat → Int} {x : Rat} {b n : Nat} (hx : Fb (x + x) b) (hc : ∀ k, (c k).natAbs < 2 ^ 64) : ∀ j, Fb (clB c x n j).1 ((67 + b) * 3 ^ j) ∧ Fb (clB c x n j).2 ((67 + b) * 3 ^ j)
 | 0 => by
  have : Fb (0 : Rat) 1 := by constructor <;> decide
  exact ⟨this.le (by omega), this.le (by omega)⟩
 | j + 1 => by
  obtain ⟨h1, h2⟩ := clB_fb (n := n) hx hc j
  have hp : 1 ≤ 3 ^ j := Nat.one_le_pow _ _ (by decide)
  have hk : 67 + b ≤ (67 + b) * 3 ^ j := Nat.le_mul_of_pos_right _ (by omega)
  have e : (67 + b) * 3 ^ (j + 1) = 3 * ((67 + b) * 3 ^ j) := by rw [Nat.pow_succ]; grind
  generalize (67 + b) * 3 ^ j = K at *
  rw [e]
  refine ⟨?_, h1.le (by omega)⟩
  exact (((fb_int (hc _) (by decide)).add (hx.mul h1)).sub h2).le (by omega)
theorem pow3_le {j : Nat} (h : j ≤ 5) : 3 ^ j ≤ 243 := Nat.le_trans (Nat.pow_le_pow_right (by decide) h) (by decide)
theorem z_clen (B N : Nat) (v : Value) (l : List Int) (vx : Value) (x : Rat) (w : World) (hB : w.cell? ⟨B, 0, none⟩ = some v) (hX : Xs w v l) (hl : l.length = N + 1) (hN : N ≤ 5) (hf : Fr w vx (x + x)) (hx : Fb (x + x) 113) :
    Calls Tryz.prog 226 #[.int .i64 (l.length : Int), .func (.func 227) #[] #[.pointer (some ⟨B, 0, none⟩)], vx] w fun e w' => ∃ u t, e = .returned (.tuple #[u, t]) ∧ Fr w' u (clB (cN l) x N N).1 ∧ Fr w' t (clB (cN l) x N N).2 ∧ Ext w w' := by
 obtain ⟨s1, ao, l1, cap1, bo, l2, cap2, rfl⟩ := hf.shape
 have hBl : B < w.heap.size := World.block_lt_of_cell? w _ hB
 have hcb : ∀ k, (cN l k).natAbs < 2 ^ 64 := fun k => by
  obtain ⟨_, _, _, _, _, _, _, _, _, _, h6⟩ := hX
  by_cases hk : k < l.length
  ·have h := h6 k hk
   unfold cN
   have h1 := h.1; have h2 := h.2
   have : (l.getD k 0).natAbs ≤ 9223372036854775808 := by omega
   exact Nat.lt_of_le_of_lt this (by decide)
  ·unfold cN
   rw [List.getD_eq_getElem?_getD, List.getElem?_eq_none (by omega)]
   decide
 have hz0 : ∀ w1, Calls Tryz.prog 228 #[.int .i64 0] w1 fun e w' => ∃ u, e = .returned u ∧ Fr w' u 0 ∧ Ext w1 w' := fun w1 => z_eWhole 0 w1 (by decide) (by decide)
 rw [hl]
 have hbit : ∀ j, j ≤ N → Fb (clB (cN l) x N j).1 43740 ∧ Fb (clB (cN l) x N j).2 43740 := fun j hj => by
  obtain ⟨h1, h2⟩ := clB_fb (n := N) hx hcb j
  have := pow3_le (j := j) (by omega)
  exact ⟨h1.le (by omega), h2.le (by omega)⟩
 have hz1 := hz0
 go_enter Tryz.func226, Tryz.ntmps226
 go_upto_region 2 with (first
  | (go_at_call 228; (with_reducible refine (hz0 _).mono ?_); clear hz0; rintro e w4 ⟨y4, rfl, hn4, hb4⟩; obtain ⟨s4, ao4, l4, cap4, bo4, lb4, cb4, rfl⟩ := hn4.shape; obtain ⟨_, _, ⟨hc4, hf4⟩, hz4⟩ := hb4.c3; (try simp only [wsz] at hz4 hc4 hf4))
  | (go_at_call 228; (with_reducible refine (hz1 _).mono ?_); clear hz1; rintro e w5 ⟨y5, rfl, hn5, hb5⟩; obtain ⟨s5, ao5, l5, cap5, bo5, lb5, cb5, rfl⟩ := hn5.shape; obtain ⟨_, _, ⟨hc5, hf5⟩, hz5⟩ := hb5.c3; (try simp only [wsz] at hz5 hc5 hf5)))
 have hF1 := (F4.fresh (w.alloc (.cells #[.bool s1, .slice ao l1 cap1, .bool false, .slice bo l2 cap2] 161))).ext (b := w5) ex_
 have hF2 := (F4.fresh ((w.alloc (.cells #[.bool s1, .slice ao l1 cap1, .bool false, .slice bo l2 cap2] 161)).alloc (.cells #[.bool false, .slice none 0 0, .bool false, .slice none 0 0] 161))).ext (b := w5) ex_
 simp only [World.size_alloc] at hF1 hF2
 have hE5 : Ext (w.alloc (.cells #[.bool s1, .slice ao l1 cap1, .bool false, .slice bo l2 cap2] 161)) w5 := ex_
 have hS5 := two_store hF1 hF2 (by omega) (hn4.ext hb5) hn5
 have hE6 := (hE5.set4 (g := w.heap.size + 1) (by simp) (.bool s4) (.slice ao4 l4 cap4) (.bool false) (.slice bo4 lb4 cb4)).set4 (g := w.heap.size + 1 + 1) (by simp) (.bool s5) (.slice ao5 l5 cap5) (.bool false) (.slice bo5 lb5 cb5)
 refine wp_name fun W hW => ?_
 have hGA : FAt W (w.heap.size + 1) 0 := by have e : W = _ := hW; rw [e]; exact hS5.1
 have hGB : FAt W (w.heap.size + 1 + 1) 0 := by have e : W = _ := hW; rw [e]; exact hS5.2
 have hEW : Ext (w.alloc (.cells #[.bool s1, .slice ao l1 cap1, .bool false, .slice bo l2 cap2] 161)) W := Ext.same hW hE6
 clear hS5 hE6 hE5 hF1 hF2 hn4 hn5 hc4 hf4 hc5 hf5 hb4 hb5 hz4 hz5 hW
 have hcf : ∀ wr, Ext (w.alloc (.cells #[.bool s1, .slice ao l1 cap1, .bool false, .slice bo l2 cap2] 161)) wr → ∀ k, k < N + 1 → ∀ w1, Ext wr w1 → Calls Tryz.prog 227 #[.int .i64 (k : Int), .pointer (some ⟨B, 0, none⟩)] w1 fun e w' => ∃ u, e = .returned u ∧ Fr w' u (cN l k : Rat) ∧ Ext w1 w' := fun wr h1 k hk w1 h2 => by
  have h3 : Ext w w1 := ((Ext.refl w).alloc _).trans (h1.trans h2)
  exact z_eCo B k v l w1 ((h3.cells.1 B 0 hBl).trans hB) (hX.ext h3) (by omega)
 clear hX hB hl
 go_wp2_with fail
 go_loopw [8] (fun i wr => ClI (w.alloc (.cells #[.bool s1, .slice ao l1 cap1, .bool false, .slice bo l2 cap2] 161)) (w.heap.size + 1) (w.heap.size + 1 + 1) N (cN l) x i wr) (fun i _ => (intOf i).toNat)
 case atStart => exact ⟨0, Nat.zero_le _, rfl, hEW, hGA, hGB⟩
 case round =>
  obtain ⟨j, hj, hi, hE, hA, hB2⟩ := hrel
  subst hi
  clear hGA hGB hEW
  by_cases hjN : j = N
  ·subst hjN
   have ez : ((j - j : Nat) : Int) = 0 := by omega
   rw [ez]
   go_upto_region 6 with fail
   obtain ⟨sA, aoA, lA, capA, boA, mA, cpA, A0, A1, A2, A3, fA, zA, eA⟩ := hA.opened
   obtain ⟨sB, aoB, lB, capB, boB, mB, cpB, B0, B1, B2, B3, fB, zB, eB⟩ := hB2.opened
   refine wp_region_held_drew (S := (fun w0 => w0 = wr.drew)) c_16 ?_ (fun hHeld => ?_)
   ·exact rfl
   try simp only [sx_]
   refine tk 0 rfl (by intro w0 hSw; subst hSw; go_simp; try with_reducible rfl) ?_
   try simp only [sx_]
   refine tk 1 rfl (by intro w0 hSw; subst hSw; go_simp; try with_reducible rfl) ?_
   try simp only [sx_]
   refine rh1 2 rfl fun K hK => ?_
   go_simp
   refine hK.out _ _ ?_ fun _ => ?_
   ·(try dsimp only); all_goals exact congrArg World.drew eA
   clear hK K hHeld
   rename_i hHeld
   try simp only [sx_]
   (try simp only [hHeld])
   clear hHeld
   have hHeld : wr.drew = wr.drew := rfl
   refine rh1 3 rfl fun K hK => ?_
   go_simp
   refine hK.out _ _ ?_ fun _ => ?_
   ·(try dsimp only); all_goals exact congrArg World.drew eB
   clear hK K hHeld
   rename_i hHeld
   try simp only [sx_]
   (try simp only [hHeld])
   clear hHeld
   have hHeld : wr.drew = wr.drew := rfl
   refine wpAnyH_done c_16 ?_ _
   go_wp2_with fail
   refine bodyPost_ret (v := .tuple #[.agg #[.bool sA, .slice aoA lA capA, .bool false, .slice boA mA cpA], .agg #[.bool sB, .slice aoB lB capB, .bool false, .slice boB mB cpB]]) ?_ rfl ⟨_, _, rfl, fA.ext (Ext.refl _).drew, fB.ext (Ext.refl _).drew, ?_⟩
   ·simp [results, Tryz.results226, go_sem, ↓IntWalk.iteOmega, A0, A1, A2, A3, B0, B1, B2, B3]
   ·exact ((Ext.refl w).alloc _).trans hE.drew
  ·obtain ⟨k, hk⟩ : ∃ k : Nat, N - j = k + 1 := ⟨N - j - 1, by omega⟩
   have ek : ((N - j : Nat) : Int) = (k : Int) + 1 := by omega
   rw [ek]
   have e1 : ((N : Int) - ((j : Int))) = (k : Int) + 1 := by omega
   have hNk : N - j = k + 1 := hk
   obtain ⟨sA, aoA, lA, capA, boA, mA, cpA, f0, f1, f2, f3, fA, zA, eA⟩ := id hA.opened
   obtain ⟨sB, aoB, lB, capB, boB, mB, cpB, g0, g1, g2, g3, fB, zB, eB⟩ := id hB2.opened
   clear eA eB
   have hl1 := hA.lt
   have hl2 := hB2.lt
   have hl0 : w.heap.size < wr.heap.size := by omega
   have a0 : wr.cell? ⟨w.heap.size, 0, none⟩ = some (.bool s1) := (hE.cells.1 w.heap.size 0 (by simp)).trans c_47
   have a1 : wr.cell? ⟨w.heap.size, 1, none⟩ = some (.slice ao l1 cap1) := (hE.cells.1 w.heap.size 1 (by simp)).trans c_47
   have a2 : wr.cell? ⟨w.heap.size, 2, none⟩ = some (.bool false) := (hE.cells.1 w.heap.size 2 (by simp)).trans c_47
   have a3 : wr.cell? ⟨w.heap.size, 3, none⟩ = some (.slice bo l2 cap2) := (hE.cells.1 w.heap.size 3 (by simp)).trans c_47
   have hEw : Ext w wr := ((Ext.refl w).alloc _).trans hE
   obtain ⟨b1, b2⟩ := hbit j (by omega)
   have hci : Fb ((cN l (k + 1) : Int) : Rat) 64 := fb_int (hcb _) (by decide)
   have hc := hcf wr hE (k + 1) (by omega)
   rw [show ((k + 1 : Nat) : Int) = (k : Int) + 1 from by omega] at hc
   have hm := fun w1 (h1 : Ext wr w1) => z_eMul _ _ (x + x) (clB (cN l) x N j).1 113 43740 w1 (hf.ext (hEw.trans h1)) (fA.ext h1) hx b1 (by omega)
   have hd := fun w1 va vb (ha : Fr w1 va ((cN l (k + 1) : Int) : Rat)) (hb : Fr w1 vb ((x + x) * (clB (cN l) x N j).1)) => z_eAdd va vb _ _ 64 43853 w1 ha hb hci ((hx.mul b1).le (by omega)) (by omega)
   have hs := fun w1 va (ha : Fr w1 va (((cN l (k + 1) : Int) : Rat) + (x + x) * (clB (cN l) x N j).1)) (h1 : Ext wr w1) => z_eSub va _ _ (clB (cN l) x N j).2 43918 43740 w1 ha (fB.ext h1) ((hci.add (hx.mul b1)).le (by omega)) b2 (by omega)
   have hst : clB (cN l) x N (j + 1) = (((cN l (k + 1) : Int) : Rat) + (x + x) * (clB (cN l) x N j).1 - (clB (cN l) x N j).2, (clB (cN l) x N j).1) := by
    show (_, _) = _
    rw [hNk]
   have hA1 := hA
   clear hcf hbit hci b1 b2
   generalize ((cN l (k + 1) : Int) : Rat) = C at *
   generalize (clB (cN l) x N j).1 = P at *
   generalize (clB (cN l) x N j).2 = R at *
   go_upto_region 5 with fail
   refine wp_region_till (S := (fun w0 => Ext wr w0)) (fun i => decide (i = 10) || decide (i = 11)) c_16 ?_ (fun hHeld => ?_)
   ·exact (Ext.refl _).drew
   try simp only [sx_]
   refine tb 0 rfl c_3 ?_
   try simp only [sx_]
   refine tb 1 rfl c_3 ?_
   try simp only [sx_]
   refine tb 3 rfl c_10 ?_
   try simp only [sx_]
   refine tb 4 rfl c_10 ?_
   try simp only [sx_]
   refine tb 7 rfl c_10 ?_
   try simp only [sx_]
   refine tb 9 rfl c_10 ?_
   try simp only [sx_]
   refine rb (i := 2) rfl fun K hK => ?_
   go_simp
   (go_at_call 227; (with_reducible refine (hc _ hHeld).mono ?_); rintro e t1 ⟨z1, rfl, hn1, hx1⟩)
   refine hK.out _ _ ?_ fun _ => ?_
   ·exact b_15
   clear hK K hHeld
   rename_i hHeld
   try simp only [sx_]
   refine rb (i := 5) rfl fun K hK => ?_
   go_simp
   (go_at_call 225; (with_reducible refine (hm _ hHeld).mono ?_); rintro e t2 ⟨z2, rfl, hn2, hx2⟩; replace hn1 := hn1.ext hx2)
   refine hK.out _ _ ?_ fun _ => ?_
   ·exact b_16
   clear hK K hHeld
   rename_i hHeld
   try simp only [sx_]
   refine rb (i := 6) rfl fun K hK => ?_
   go_simp
   (go_at_call 229; (with_reducible refine (hd _ _ _ hn1 hn2).mono ?_); rintro e t3 ⟨z3, rfl, hn3, hx3⟩)
   refine hK.out _ _ ?_ fun _ => ?_
   ·(try dsimp only); exact Ext.trans hHeld hx3
   clear hK K hHeld
   rename_i hHeld
   try simp only [sx_]
   refine rb (i := 8) rfl fun K hK => ?_
   go_simp
   (go_at_call 230; (with_reducible refine (hs _ _ hn3 hHeld).mono ?_); rintro e t4 ⟨z4, rfl, hn4, hx4⟩; obtain ⟨s5, ao5, l5, cap5, bo5, lb5, cb5, rfl⟩ := hn4.shape)
   refine hK.out _ _ ?_ fun _ => ?_
   ·(try dsimp only); exact Ext.trans hHeld hx4
   clear hK K hHeld
   rename_i hHeld
   try simp only [sx_]
   refine rl (i := 10) rfl fun K hK => ?_
   have hW := hHeld
   have hF1 := hA1.box.ext hHeld
   have hF2 := hB2.box.ext hHeld
   have hV1 := fA.ext hHeld
   obtain ⟨⟨x0, p0⟩, ⟨x1, p1⟩, ⟨x2, p2⟩, ⟨x3, p3⟩, p4, p5, p6⟩ := id hF1
   go_simp
   refine hK.out _ _ trivial (fun _ => ?_)
   clear hK K
   try simp only [sx_]
   refine rh1 11 rfl fun K hK => ?_
   obtain ⟨⟨y0, r0⟩, ⟨y1, r1⟩, ⟨y2, r2⟩, ⟨y3, r3⟩, r4, r5, r6⟩ := id hF2
   go_simp
   refine hK.out _ _ trivial (fun _ => ?_)
   clear hK K
   try simp only [sx_]
   refine wpAnyH_done c_16 ?_ _
   go_wp2_with fail
   go_roundw
   case rel =>
    refine ⟨j + 1, by omega, (by congr 1; omega), (by have := hE.trans hW; exact (this.set4 (by (try simp only [World.size_alloc]); omega) _ _ _ _).set4 (by (try simp only [World.size_alloc]); omega) _ _ _ _), ?_, ?_⟩
    ·rw [hst]; exact (two_store hF1 hF2 (by omega) hn4 hV1).1
    ·rw [hst]; exact (two_store hF1 hF2 (by omega) hn4 hV1).2
   case measure => first | (simp [intOf]; done) | (simp [intOf]; omega)
end Go.Proofs.YtbkgakgdbmjmjaaGreat
