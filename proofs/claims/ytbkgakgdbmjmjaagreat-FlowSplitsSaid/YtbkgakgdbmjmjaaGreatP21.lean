/- As TILL, inside a fence. -/
import Derived.Test.YtbkgakgdbmjmjaaGreatP20
set_option linter.unusedSimpArgs false
set_option linter.unusedVariables false
set_option maxRecDepth 100000
set_option maxHeartbeats 4000000
namespace Go.Proofs.YtbkgakgdbmjmjaaGreat
section
variable {F : Fence} {n : Nat} {P : Program} {ops : Array Oper} {Q : Exit → Act → World → Prop} {md : Region.Mode} {S : World → Prop} {T : Nat → Bool}
def YieldsIfF (P : Program) (ops : Array Oper) (S : World → Prop) (o : Oper) (v : Value) (a : Act) : Prop := YieldsIf P ops S o v a ∧ ∀ w, S w → o.about P w a.eval = none
theorem YieldsIfF.wpOpIn {i : Nat} {o : Oper} {v : Value} {a : Act} (hro : F.round = none) (hi : ops[i]? = some o) (hy : YieldsIfF P ops S o v a)
    {K : Act → World → Prop} {w : World} (hS : S w) (h : K (a.put o.dst v) w) : wpOpIn F n P ops Q i K a w := by
 unfold Go.wpOpIn
 simp only [hi]
 have hab : ∀ f, o.about P w a.eval = some f → F.fn f := fun f hf => by rw [hy.2 w hS] at hf; cases hf
 rcases hy.1 with ⟨hw, hv⟩ | ⟨hw, rfl⟩
 ·simp only [hw, if_true, Oper.wpIn, hro, Oper.semAt_none, hv w hS, Oper.uponIn]; exact ⟨hab, h⟩
 ·simp only [hw, Bool.false_eq_true, if_false]; exact ⟨hab, h⟩
theorem YieldsIfF.of_same {o : Oper} {v : Value} {a a' : Act} (hy : YieldsIfF P ops S o v a) (he : execOp a'.eval o = execOp a.eval o)
    (hw : Region.wanted o (yielded ops a'.tmps) = Region.wanted o (yielded ops a.tmps)) (hb : ∀ w, o.about P w a'.eval = o.about P w a.eval) : YieldsIfF P ops S o v a' :=
  ⟨hy.1.of_same he hw, fun w hS => by rw [hb w]; exact hy.2 w hS⟩
theorem wpOpIn_putIf {j : Nat} {oi oj : Oper} {v : Value} (hro : F.round = none) (hj : ops[j]? = some oj) (hap : oi.apart ops oj = true)
    (hsi : ∀ cs b, oi.op ≠ .select cs b) (hsj : ∀ cs b, oj.op ≠ .select cs b)
    (hQ : ∀ c a w, Q (.panic c) (a.put oi.dst v) w → Q (.panic c) a w) {K : Act → World → Prop} {a : Act} {w : World}
    (hy : YieldsIfF P ops S oi v a) (h : wpOpIn F n P ops Q j K (a.put oi.dst v) w) :
    wpOpIn F n P ops Q j (fun a' w' => YieldsIfF P ops S oi v a' ∧ K (a'.put oi.dst v) w') a w := by
 obtain ⟨h1, h2, h3⟩ := Oper.apart_spec hap
 have keep : ∀ (a : Act), YieldsIfF P ops S oi v a → ∀ u, YieldsIfF P ops S oi v (a.put oj.dst u) := fun a hy u =>
  hy.of_same (execOp_put oi hsi a oj.dst u h3) (wanted_put oi a oj.dst u h3) (fun w => about_put oi w a oj.dst u h3)
 have keepD : ∀ d, YieldsIfF P ops S oi v { a with defers := d :: a.defers } := fun d => hy.of_same rfl rfl (fun _ => rfl)
 unfold wpOpIn at *
 simp only [hj] at *
 rw [wanted_put oj a oi.dst v h1, about_put oj w a oi.dst v h1] at h
 split
 ·rename_i hw
  simp only [hw, if_true] at h
  unfold Oper.wpIn at *
  rw [about_put oj w a oi.dst v h1] at h
  refine ⟨h.1, ?_⟩
  have h := h.2
  rw [hro, Oper.semAt_none, execOp_put oj hsj a oi.dst v h1] at h
  rw [hro, Oper.semAt_none]
  generalize (execOp a.eval oj).run P w = r at *
  cases r with
  | ok x w' =>
   cases x <;> simp only [Oper.uponIn] at h ⊢
   case value u => exact ⟨keep a hy u, by rw [← Act.put_comm a v u h2]; exact h⟩
   case skip => exact ⟨keep a hy _, by rw [← Act.put_comm a v undef h2]; exact h⟩
   case defer d =>
    refine ⟨keep _ (keepD d) _, ?_⟩
    rw [← Act.put_comm _ v undef h2, ← Act.put_defers]
    exact h
   case enter f args =>
    refine ⟨h.1, CallsIn.mono h.2 fun e w'' he => ?_⟩
    cases e with
    | returned u => exact ⟨keep a hy u, by rw [← Act.put_comm a v u h2]; exact he⟩
    | panicked c => exact hQ _ _ _ he
    | outgrown => exact he
   case row row args => exact ⟨h.1, RowsIn.mono h.2 fun u w'' he => ⟨keep a hy u, by rw [← Act.put_comm a v u h2]; exact he⟩⟩
   case round l f tmps assign body =>
    refine ⟨h.1, RoundIn.mono h.2 fun e w'' he => ?_⟩
    cases e with
    | returned u => exact ⟨keep a hy u, by rw [← Act.put_comm a v u h2]; exact he⟩
    | panicked c => exact hQ _ _ _ he
    | outgrown => exact he
  | halt x w' =>
   cases x <;> simp only [Oper.uponIn] at h ⊢
   case panic u => exact hQ _ _ _ h
 ·rename_i hw
  simp only [hw] at h
  exact ⟨h.1, keep a hy _, by rw [← Act.put_comm a v undef h2]; exact h.2⟩
def wpAnyInB (F : Fence) (n : Nat) (P : Program) (md : Region.Mode) (ops : Array Oper) (Q : Exit → Act → World → Prop) (S : World → Prop) (T : Nat → Bool) : Nat → Array Bool → Act → World → Prop
 | 0, listed, a, w => Region.ready md ops listed = [] ∧ Q .normal a w
 | fuel + 1, listed, a, w =>
  (Region.ready md ops listed = [] → Q .normal a w) ∧
  ∀ i ∈ Region.ready md ops listed, wpOpIn F n P ops Q i (fun a' w' => (T i = true → wpAnyIn F n P md ops Q fuel (listed.setIfInBounds i true) a' w') ∧ (T i = false → S w' ∧ wpAnyInB F n P md ops Q S T fuel (listed.setIfInBounds i true) a' w')) a w
theorem wpAnyIn_of_b : ∀ (fuel : Nat) (listed : Array Bool) (a : Act) (w : World), wpAnyInB F n P md ops Q S T fuel listed a w → wpAnyIn F n P md ops Q fuel listed a w
  | 0, _, _, _, h => h
  | fuel + 1, _, _, _, h => ⟨h.1, fun i hi => wpOpIn_mono (fun a' w' h' => by
      cases ht : T i with
      | true => exact h'.1 ht
      | false => exact wpAnyIn_of_b fuel _ a' w' (h'.2 ht).2) (h.2 i hi)⟩
theorem wpAnyInB_first {i : Nat} {oi : Oper} {v : Value} (hro : F.round = none) (hi : ops[i]? = some oi) (hsel : ∀ (j : Nat) (o : Oper) cs b, ops[j]? = some o → o.op ≠ .select cs b)
    (hQ : ∀ c a w, Q (.panic c) (a.put oi.dst v) w → Q (.panic c) a w) (hti : T i = false) (htill : tillB md ops T i = true) :
    ∀ (fuel : Nat) (listed : Array Bool) (a : Act) (w : World),
      (∀ j oj, ops[j]? = some oj → j ≠ i → listed.getD j true = false → (∀ e ∈ oj.after, Region.binds md e = true → e.on ≠ i) → oi.apart ops oj = true) →
      i ∈ Region.ready md ops listed → YieldsIfF P ops S oi v a → S w →
      wpAnyInB F n P md ops Q S T fuel (listed.setIfInBounds i true) (a.put oi.dst v) w → wpAnyInB F n P md ops Q S T (fuel + 1) listed a w := by
  intro fuel
  induction fuel with
  | zero =>
    intro listed a w _ hr hy hS H
    refine ⟨fun h => c_63, fun j hj => ?_⟩
    by_cases hji : j = i
    · subst hji; exact hy.wpOpIn hro hi hS ⟨fun h => absurd (hti.symm.trans h) (by decide), fun _ => ⟨hS, H⟩⟩
    · have := ready_mono hj hji
      rw [H.1] at this
      cases this
  | succ fuel ih =>
    intro listed a w hfree hr hy hS H
    refine ⟨fun h => c_63, fun j hj => ?_⟩
    by_cases hji : j = i
    · subst hji; exact hy.wpOpIn hro hi hS ⟨fun h => absurd (hti.symm.trans h) (by decide), fun _ => ⟨hS, H⟩⟩
    · have h1 := H.2 j (ready_mono hj hji)
      obtain ⟨hjun, oj, hoj, hall⟩ := mem_ready.1 hj
      have hnot : ∀ e ∈ oj.after, Region.binds md e = true → e.on ≠ i := fun e he hb heq => by
        have h1 := hall e he hb
        have h0 := (mem_ready.1 hr).1
        rw [heq] at h1
        rcases Nat.lt_or_ge i listed.size with h' | h'
        · simp [h'] at h0 h1; rw [h0] at h1; cases h1
        · simp [Array.getElem?_eq_none h'] at h1
      have htj : T j = false := by
        cases ht : T j with
        | false => rfl
        | true =>
          obtain ⟨e, he, hb, heq⟩ := tillB_spec htill hoj ht
          exact absurd heq (hnot e he hb)
      have h2 := wpOpIn_putIf hro hoj (hfree j oj hoj hji hjun hnot) (fun cs b => hsel i oi cs b hi) (fun cs b => hsel j oj cs b hoj) hQ hy h1
      have hfree' : ∀ k ok, ops[k]? = some ok → k ≠ i → (listed.setIfInBounds j true).getD k true = false →
          (∀ e ∈ ok.after, Region.binds md e = true → e.on ≠ i) → oi.apart ops ok = true := fun k ok hk hki hun hno => by
        refine hfree k ok hk hki ?_ hno
        by_cases hjk : j = k
        · subst hjk; exact hjun
        · rw [getD_set_ne true hjk] at hun; exact hun
      refine wpOpIn_mono (fun a' w' h3 => ⟨fun h => absurd (htj.symm.trans h) (by decide), fun _ => ?_⟩) h2
      obtain ⟨h4, h5⟩ := h3.2.2 htj
      refine ⟨h4, ih (listed.setIfInBounds j true) a' w' hfree' (ready_mono hr (Ne.symm hji)) h3.1 h4 ?_⟩
      rw [Array.setIfInBounds_comm _ _ hji]
      exact h5
theorem wpAnyInB_take {i : Nat} {oi : Oper} {v : Value} {fuel : Nat} {listed : Array Bool} {a : Act} {w : World} (hro : F.round = none) (hi : ops[i]? = some oi)
    (hs : Region.noSelect ops = true) (hf : Region.free md ops listed i = true) (hr : (Region.ready md ops listed).contains i = true) (hT : (T i == false && tillB md ops T i) = true)
    (hQ : ∀ c a w, Q (.panic c) (a.put oi.dst v) w → Q (.panic c) a w) (hy : YieldsIfF P ops S oi v a) (hS : S w)
    (h : wpAnyInB F n P md ops Q S T fuel (listed.setIfInBounds i true) (a.put oi.dst v) w) : wpAnyInB F n P md ops Q S T (fuel + 1) listed a w := by
 rw [Bool.and_eq_true, beq_iff_eq] at hT
 exact wpAnyInB_first hro hi (Region.noSelect_spec hs) hQ hT.1 hT.2 fuel listed a w (Region.free_spec hi hf) (by simpa using hr) hy hS h
def AllReadyInB (F : Fence) (n : Nat) (P : Program) (md : Region.Mode) (ops : Array Oper) (Q : Exit → Act → World → Prop) (S : World → Prop) (T : Nat → Bool) (fuel : Nat) (listed : Array Bool) (a : Act) (w : World) (rs : List Nat) : Prop :=
 ∀ i ∈ rs, wpOpIn F n P ops Q i (fun a' w' => (T i = true → wpAnyIn F n P md ops Q fuel (listed.setIfInBounds i true) a' w') ∧ (T i = false → S w' ∧ wpAnyInB F n P md ops Q S T fuel (listed.setIfInBounds i true) a' w')) a w
theorem AllReadyInB.nil {fuel : Nat} {listed : Array Bool} {a : Act} {w : World} : AllReadyInB F n P md ops Q S T fuel listed a w [] := fun _ h => by cases h
theorem AllReadyInB.cons {fuel : Nat} {listed : Array Bool} {a : Act} {w : World} {i : Nat} {o : Oper} {rs : List Nat} (ho : ops[i]? = some o) (hT : T i = false)
    (h : ∀ K' : Act → World → Prop, Shut (∀ a w, S w → (S w → wpAnyInB F n P md ops Q S T fuel (listed.setIfInBounds i true) a w) → K' a w) → if Region.wanted o (yielded ops a.tmps) = true then Oper.wpIn F n P o a w K' Q else (∀ f, o.about P w a.eval = some f → F.fn f) ∧ K' (a.put o.dst undef) w)
    (hs : AllReadyInB F n P md ops Q S T fuel listed a w rs) : AllReadyInB F n P md ops Q S T fuel listed a w (i :: rs) := fun j hj => by
  rcases List.mem_cons.1 hj with rfl | hj
  · exact wpOpIn_step ho (fun K' hK => h K' (fun a w hS hW => hK a w ⟨fun h => absurd (hT.symm.trans h) (by decide), fun _ => ⟨hS, hW hS⟩⟩))
  · exact hs j hj
theorem AllReadyInB.last {fuel : Nat} {listed : Array Bool} {a : Act} {w : World} {i : Nat} {o : Oper} {rs : List Nat} (ho : ops[i]? = some o) (hT : T i = true)
    (h : ∀ K' : Act → World → Prop, Shut (∀ a w, True → (True → wpAnyIn F n P md ops Q fuel (listed.setIfInBounds i true) a w) → K' a w) → if Region.wanted o (yielded ops a.tmps) = true then Oper.wpIn F n P o a w K' Q else (∀ f, o.about P w a.eval = some f → F.fn f) ∧ K' (a.put o.dst undef) w)
    (hs : AllReadyInB F n P md ops Q S T fuel listed a w rs) : AllReadyInB F n P md ops Q S T fuel listed a w (i :: rs) := fun j hj => by
  rcases List.mem_cons.1 hj with rfl | hj
  · exact wpOpIn_step ho (fun K' hK => h K' (fun a w _ hW => hK a w ⟨fun _ => hW trivial, fun h => absurd (hT.symm.trans h) (by decide)⟩))
  · exact hs j hj
theorem wpAnyInB_ready {rs : List Nat} {fuel : Nat} {listed : Array Bool} {a : Act} {w : World} (hr : Region.ready md ops listed = rs) (hne : rs ≠ [])
    (h : AllReadyInB F n P md ops Q S T fuel listed a w rs) : wpAnyInB F n P md ops Q S T (fuel + 1) listed a w := ⟨fun h0 => absurd (hr ▸ h0) hne, hr ▸ h⟩
theorem regionB_inRound {l id : Nat} {a : Act} {w : World} (T : Nat → Bool) (hm : P.follows .mixedOrders = true) (hd : ∀ (i : Nat) (o : Oper), ops[i]? = some o → ∀ c, o.op ≠ .defer c)
    (h : wpAnyInB Fence.wide n P .any ops Q S T ops.size (Array.replicate ops.size false) a w.drew) : (Code.region id ops true).wpIn (Fence.wide.inRound l) n P Q a w :=
  region_inRound hm hd (wpAnyIn_of_b _ _ _ _ h)
end
end Go.Proofs.YtbkgakgdbmjmjaaGreat
namespace Go.Proofs.YtbkgakgdbmjmjaaGreat
open Go.RowKit Go.Shelf
attribute [local go_sem] Oper.semAt_some
def KC (n₁ : Nat) (p q r : Addr) (A B : World) : Prop := Below n₁ A B ∧ B.cell? p = A.cell? p ∧ B.cell? q = A.cell? q ∧ B.cell? r = A.cell? r
theorem KC.refl (n₁ : Nat) (p q r : Addr) (A : World) : KC n₁ p q r A A := ⟨Below.refl _ _, rfl, rfl, rfl⟩
theorem KC.trans {n₁ : Nat} {p q r : Addr} {A B C : World} (h : KC n₁ p q r A B) (k : KC n₁ p q r B C) : KC n₁ p q r A C := ⟨h.1.trans k.1, k.2.1.trans h.2.1, k.2.2.1.trans h.2.2.1, k.2.2.2.trans h.2.2.2⟩
theorem Below.kc {n n₁ : Nat} {p q r : Addr} {A B : World} (h : Below n A B) (h1 : n₁ ≤ n) (hp : p.block < n) (hq : q.block < n) (hr : r.block < n) : KC n₁ p q r A B := ⟨h.mono h1, h.cell hp, h.cell hq, h.cell hr⟩
theorem kc_b {n₁ : Nat} {p q r : Addr} {w : World} (hn : n₁ ≤ w.heap.size) (hp : p.block < w.heap.size) (hq : q.block < w.heap.size) (hr : r.block < w.heap.size) (W : World) (l : Nat) (o o' : Obj) (hl : w.heap.size ≤ l) (h : W.heap[l]? = some o) (h1 : o.isCells = false) (h2 : o.isWalk = false) : KC n₁ p q r W (W.putObj l o') :=
 Below.kc (belowK_b (w := w) (Nat.le_refl _) W l o o' hl h h1 h2) hn hp hq hr
abbrev DU (d : BodyD) (fr ti : Int) := { j : Nat // j < d.segs.length ∧ inS (sgA d j) fr ti = true }
def selU (d : BodyD) (fr ti : Int) : Nat → List (DU d fr ti)
 | 0 => []
 | k + 1 => if h : k < d.segs.length ∧ inS (sgA d k) fr ti = true then selU d fr ti k ++ [⟨k, h⟩] else selU d fr ti k
theorem selU_len (d : BodyD) (fr ti : Int) : ∀ k, (selU d fr ti k).length ≤ k
 | 0 => Nat.le_refl _
 | k + 1 => by
  unfold selU
  split
  ·have := selU_len d fr ti k; simp; omega
  ·have := selU_len d fr ti k; omega
def vsg (d : BodyD) (V : Nat → Value × Value × Value) (j : Nat) : Value := .agg #[.int .i64 (sgA d j).fr, .int .i64 (sgA d j).ti, (V j).1, (V j).2.1, (V j).2.2]
def vpr (d : BodyD) (fr ti : Int) (j : Nat) : Value := .agg #[.int .i64 (oeX (sgA d j) fr), .int .i64 (oeY (sgA d j) ti)]
def SgL (W : World) (sb so : Nat) (d : BodyD) (V : Nat → Value × Value × Value) : Prop := sb < W.heap.size ∧ ∀ j, j < d.segs.length → W.cell? ⟨sb, so + j * 5, none⟩ = some (.int .i64 (sgA d j).fr) ∧ W.cell? ⟨sb, so + j * 5 + 1, none⟩ = some (.int .i64 (sgA d j).ti) ∧ W.cell? ⟨sb, so + j * 5 + 2, none⟩ = some (V j).1 ∧ W.cell? ⟨sb, so + j * 5 + 3, none⟩ = some (V j).2.1 ∧ W.cell? ⟨sb, so + j * 5 + 4, none⟩ = some (V j).2.2 ∧ Sg W (vsg d V j) (sgA d j) ∧ ((∃ a n c, (V j).1 = .slice a n c) ∧ (∃ a n c, (V j).2.1 = .slice a n c) ∧ ∃ a n c, (V j).2.2 = .slice a n c)
theorem SgL.ext {a w : World} {sb so : Nat} {d : BodyD} {V : Nat → Value × Value × Value} (h : SgL a sb so d V) (k : Ext a w) : SgL w sb so d V := by
 refine ⟨Nat.lt_of_lt_of_le h.1 k.size, fun j hj => ?_⟩
 obtain ⟨c0, c1, c2, c3, c4, hs, hv⟩ := h.2 j hj
 exact ⟨(k.cells.1 sb _ h.1).trans c0, (k.cells.1 sb _ h.1).trans c1, (k.cells.1 sb _ h.1).trans c2, (k.cells.1 sb _ h.1).trans c3, (k.cells.1 sb _ h.1).trans c4, hs.ext k, hv⟩
theorem Sgs.lay {w : World} {sb so cap n : Nat} {d : BodyD} (h : Sgs w (.slice (some ⟨sb, so, none⟩) n cap) d.segs) (h0 : 0 < d.segs.length) : ∃ V, SgL w sb so d V := by
 have key : ∀ j, ∃ t : Value × Value × Value, j < d.segs.length → w.cell? ⟨sb, so + j * 5, none⟩ = some (.int .i64 (sgA d j).fr) ∧ w.cell? ⟨sb, so + j * 5 + 1, none⟩ = some (.int .i64 (sgA d j).ti) ∧ w.cell? ⟨sb, so + j * 5 + 2, none⟩ = some t.1 ∧ w.cell? ⟨sb, so + j * 5 + 3, none⟩ = some t.2.1 ∧ w.cell? ⟨sb, so + j * 5 + 4, none⟩ = some t.2.2 ∧ Sg w (.agg #[.int .i64 (sgA d j).fr, .int .i64 (sgA d j).ti, t.1, t.2.1, t.2.2]) (sgA d j) ∧ ((∃ a n c, t.1 = .slice a n c) ∧ (∃ a n c, t.2.1 = .slice a n c) ∧ ∃ a n c, t.2.2 = .slice a n c) := fun j => by
  by_cases hj : j < d.segs.length
  ·obtain ⟨hsb1, a0, d0, o0, p0, a1, d1, o1, p1, a2, d2, o2, p2, ⟨g0, g1, g2, g3, g4⟩, hsg, -⟩ := h.at (i := j) hj
   exact ⟨(_, _, _), fun _ => ⟨g0, g1, g2, g3, g4, hsg, ⟨_, _, _, rfl⟩, ⟨_, _, _, rfl⟩, ⟨_, _, _, rfl⟩⟩⟩
  ·exact ⟨(undef, undef, undef), fun h => absurd h hj⟩
 obtain ⟨V, hV⟩ := Classical.axiomOfChoice key
 exact ⟨V, (h.at (i := 0) h0).1, fun j hj => hV j hj⟩
theorem dur1_in (F : Fence) (n : Nat) (h7 : F.fn 177) (hro : F.round = none) (hn : 1 ≤ n) (l B0 B1 B2 n₁ sb so scap : Nat) (d : BodyD) (fr ti : Int) (V : Nat → Value × Value × Value) (w0 : World) (hw0 : w0.heap.size = n₁) (hS : SgL w0 sb so d V) (hlc : d.segs.length ≤ scap) (hcap : scap ≤ 9223372036854775807)
    (J Jx : List (DU d fr ti) → World → Prop) (W : World) (hJ : AbidesFrom W.heap.size J)
    (hY : ∀ pre x W1, J pre W1 → pre.length < d.segs.length → YieldAt F (n - 1) Tryz.prog l #[vsg d V x.1, vpr d fr ti x.1] W1 fun e W' =>
      (e = .returned (.bool true) ∧ J (pre ++ [x]) W' ∧ KC n₁ ⟨B0, 3, none⟩ ⟨B1, 0, none⟩ ⟨B2, 0, none⟩ W1 W') ∨ (e = .returned (.bool false) ∧ Jx (pre ++ [x]) W'))
    (hE : Ext w0 W) (c0 : W.cell? ⟨B0, 3, none⟩ = some (.slice (some ⟨sb, so, none⟩) d.segs.length scap)) (c1 : W.cell? ⟨B1, 0, none⟩ = some (.int .i64 ti)) (c2 : W.cell? ⟨B2, 0, none⟩ = some (.int .i64 fr)) (h0 : J [] W) :
    CallsIn F n Tryz.prog 177 #[.func (.yield l) #[] #[], .pointer (some ⟨B0, 0, none⟩), .pointer (some ⟨B1, 0, none⟩), .pointer (some ⟨B2, 0, none⟩)] W fun e W' => (∃ v, e = .returned v) ∧
      ((∃ ys, ys = selU d fr ti d.segs.length ∧ J ys W') ∨ (∃ pre, True ∧ Jx pre W')) := by
 have q0 : B0 < W.heap.size := World.block_lt_of_cell? W _ c0
 have q1 : B1 < W.heap.size := World.block_lt_of_cell? W _ c1
 have q2 : B2 < W.heap.size := World.block_lt_of_cell? W _ c2
 refine callsIn_of_wp Tryz.func177 rfl h7 ?_ hro
 simp only [Tryz.ntmps177, List.size_toArray, List.length_cons, List.length_nil, Nat.reduceAdd, Nat.reduceSub, Array.replicate_succ, Array.replicate_zero, List.push_toArray, List.append_toArray, List.nil_append, List.cons_append]
 gi_wp2
 gi_loopw [10] (fun i wr => ∃ k : Nat, k ≤ d.segs.length ∧ i = .int .i64 (k : Int) ∧ J (selU d fr ti k) wr ∧ KC n₁ ⟨B0, 3, none⟩ ⟨B1, 0, none⟩ ⟨B2, 0, none⟩ W wr ∧ W.heap.size ≤ wr.heap.size)
  (fun i _ => d.segs.length - (intOf i).toNat)
 case atStart => exact ⟨0, Nat.zero_le _, rfl, h0, KC.refl _ _ _ _ _, Nat.le_refl _⟩
 case round =>
  obtain ⟨k, hk, hi, hJs, hX, hsz⟩ := hrel
  have hi2 : _ = Value.int .i64 (k : Int) := hi
  clear hi
  subst hi2
  by_cases hkl : k = d.segs.length
  ·subst hkl
   gi_wp2
   go_end0
   exact ⟨⟨_, rfl⟩, .inl ⟨_, rfl, hJs⟩⟩
  ·have hkn : k < d.segs.length := by omega
   have hEr : Ext w0 wr := Below.trans hE (by rw [hw0]; exact hX.1)
   obtain ⟨hsb, hcs⟩ := hS.ext hEr
   obtain ⟨g0, g1, g2, g3, g4, -, ⟨v0a, v0n, v0c, e0⟩, ⟨v1a, v1n, v1c, e1⟩, v2a, v2n, v2c, e2⟩ := hcs k hkn
   have k0 := hX.2.1.trans c0
   have k1 := hX.2.2.1.trans c1
   have k2 := hX.2.2.2.trans c2
   have hKA : ∀ o, KC n₁ ⟨B0, 3, none⟩ ⟨B1, 0, none⟩ ⟨B2, 0, none⟩ wr (wr.alloc o) := fun o => Below.kc ((Below.refl wr.heap.size wr).alloc (Nat.le_refl _) o) (by rw [← hw0]; exact hEr.size) c_45 c_45 c_45
   have hsel1 : selU d fr ti (k + 1) = if h : k < d.segs.length ∧ inS (sgA d k) fr ti = true then selU d fr ti k ++ [⟨k, h⟩] else selU d fr ti k := rfl
   cases hin : inS (sgA d k) fr ti with
   | false =>
    rw [dif_neg (fun h => by rw [hin] at h; exact absurd h.2 (by decide))] at hsel1
    have hJn := fun o => hJ _ _ _ none hJs (World.grownBy_alloc wr o none) (fun r e => by cases e)
    unfold inS at hin
    rw [e0] at g2
    rw [e1] at g3
    rw [e2] at g4
    obtain ⟨sf, hsf⟩ : ∃ z, (sgA d k).fr = z := ⟨_, rfl⟩
    obtain ⟨st, hst⟩ : ∃ z, (sgA d k).ti = z := ⟨_, rfl⟩
    rw [hsf, hst] at hin
    rw [hsf] at g0
    rw [hst] at g1
    clear hcs hsf hst
    by_cases h1 : sf ≤ ti
    ·have h2 : ¬ fr ≤ st := fun h => by simp [h1, h] at hin
     clear hin hY
     gi_wp2
     refine ⟨fun _ h => (by cases h), ?_⟩
     gi_wp2
     go_roundw
     case rel => exact ⟨k + 1, by omega, (by congr 1), (by rw [hsel1]; exact hJn _), hX.trans (hKA _), c_46⟩
     case measure => first | (simp [intOf]; done) | (simp [intOf]; omega)
    ·clear hin hY
     gi_wp2
     refine ⟨fun _ h => (by cases h), ?_⟩
     gi_wp2
     go_roundw
     case rel => exact ⟨k + 1, by omega, (by congr 1), (by rw [hsel1]; exact hJn _), hX.trans (hKA _), c_46⟩
     case measure => first | (simp [intOf]; done) | (simp [intOf]; omega)
   | true =>
    rw [dif_pos ⟨hkn, hin⟩] at hsel1
    have hJn := hJ _ _ _ none hJs (World.grownBy_alloc wr (.cells #[.int .i64 (sgA d k).fr, .int .i64 (sgA d k).ti, (V k).1, (V k).2.1, (V k).2.2] 47) none) (fun r e => by cases e)
    obtain ⟨fn, tmps, assign, body, hy, hR⟩ := hY _ ⟨k, hkn, hin⟩ _ hJn (by have := selU_len d fr ti k; omega)
    dsimp only [vsg, vpr, oeX, oeY] at hy
    have hKn := hKA (.cells #[.int .i64 (sgA d k).fr, .int .i64 (sgA d k).ti, (V k).1, (V k).2.1, (V k).2.2] 47)
    rw [e0, e1, e2] at hy hR hKn
    rw [e0] at g2
    rw [e1] at g3
    rw [e2] at g4
    obtain ⟨h1, h2⟩ : (sgA d k).fr ≤ ti ∧ fr ≤ (sgA d k).ti := by simpa [inS] using hin
    obtain ⟨sf, hsf⟩ : ∃ z, (sgA d k).fr = z := ⟨_, rfl⟩
    obtain ⟨st, hst⟩ : ∃ z, (sgA d k).ti = z := ⟨_, rfl⟩
    rw [hsf] at h1 g0 hy hKn
    rw [hst] at h2 g1 hy hKn
    rw [hsf, hst] at hR
    clear hY hcs
    gi_wp2
    refine hR.mono ?_
    rintro e W3 (⟨rfl, hJ3, hk3⟩ | ⟨rfl, hJx3⟩)
    ·gi_wp2
     go_roundw
     case rel => exact ⟨k + 1, by omega, (by congr 1), (by rw [hsel1]; exact hJ3), (hX.trans hKn).trans hk3, ((hX.trans hKn).trans hk3).1.size⟩
     case measure => first | (simp [intOf]; done) | (simp [intOf]; omega)
    ·gi_wp2
     refine bodyPost_ret (results_none rfl _ _ _) rfl ?_
     exact ⟨⟨_, rfl⟩, .inr ⟨_, trivial, hJx3⟩⟩
end Go.Proofs.YtbkgakgdbmjmjaaGreat
namespace Go.Proofs.YtbkgakgdbmjmjaaGreat
open Go.RowKit
theorem z_eUnits (va : Value) (x : Rat) (b : Nat) (w : World) (hf : Fr w va x) (hx : Fb x b) (hb : b ≤ 120000) (hn1 : -2097152 ≤ (x * mkRat 1 1099511627776).num / ((x * mkRat 1 1099511627776).den : Int)) (hn2 : (x * mkRat 1 1099511627776).num / ((x * mkRat 1 1099511627776).den : Int) ≤ 2097151) :
    Calls Tryz.prog 178 #[va] w fun e w' => e = .returned (.tuple #[.agg #[.int .i64 (ofLo (x * mkRat 1 1099511627776)), .int .i64 (ofHi (x * mkRat 1 1099511627776))], .int .i64 0]) ∧ Ext w w' := by
 obtain ⟨s1, ao, l1, cap1, bo, l2, cap2, rfl⟩ := hf.shape
 have hk1 : ∀ w1, Calls Tryz.prog 93 #[.int .i64 1, .int .i64 1099511627776] w1 fun e w' => ∃ u, e = .returned (.tuple #[u, .int .i64 0]) ∧ Fr w' u (mkRat 1 1099511627776) ∧ Ext w1 w' := fun w1 => z_Of 1 1099511627776 w1 (by decide) (by decide) (by decide) (by decide)
 have hU : Fb (mkRat 1 1099511627776) 41 := by constructor <;> decide
 have hk2 := fun w1 v (k1 : Ext w w1) (hv : Fr w1 v (mkRat 1 1099511627776)) => z_eMul _ v x _ b 41 w1 (hf.ext k1) hv hx hU (by omega)
 have hk3 := fun w1 v (hv : Fr w1 v (x * mkRat 1 1099511627776)) => z_SOf v _ (b + 41) w1 hv (hx.mul hU) (by omega) hn1 hn2
 generalize x * mkRat 1 1099511627776 = X at *
 generalize mkRat 1 1099511627776 = U at *
 clear hU hn1 hn2 hx hf
 go_enter Tryz.func178, Tryz.ntmps178
 go_wp2_with (first
  | (go_at_call 93; (with_reducible refine (hk1 _).mono ?_); rintro e w4 ⟨y4, rfl, hn4, hb4⟩; obtain ⟨s8, ao8, l8, cap8, bo8, l9, cap9, rfl⟩ := hn4.shape; obtain ⟨_, _, ⟨hc4, hf4⟩, hz4⟩ := hb4.c3; (try simp only [wsz] at hz4 hc4 hf4))
  | (go_at_call 225; (with_reducible refine (hk2 _ _ ex_ (hn4.ext ex_)).mono ?_); rintro e w5 ⟨y5, rfl, hn5, hb5⟩; obtain ⟨_, _, ⟨hc5, hf5⟩, hz5⟩ := hb5.c3; (try simp only [wsz] at hz5 hc5 hf5))
  | (go_at_call 94; (with_reducible refine (hk3 _ _ hn5).mono ?_); rintro e w6 ⟨rfl, hb6⟩; obtain ⟨_, _, ⟨hc6, hf6⟩, hz6⟩ := hb6.c3; (try simp only [wsz] at hz6 hc6 hf6)))
 refine bodyPost_ret (v := .tuple #[.agg #[.int .i64 (ofLo X), .int .i64 (ofHi X)], .int .i64 0]) ?_ rfl ⟨rfl, ?_⟩
 ·simp [results, Tryz.results178, go_sem, ↓IntWalk.iteOmega, *]
 ·exact b_6
theorem noUl {c : Array Value} (h : ∀ v ∈ c, ∀ z, v ≠ .int .u32 z) (o : Nat) (z : Int) : c[o]? ≠ some (.int .u32 z) := fun e => h _ (Array.mem_of_getElem? e) z rfl
theorem plX_fb {l : List Int} {x : Rat} (hl : l.length ≤ 6) (hx : Fb x 56) (hc : ∀ k, (cN l k).natAbs < 2 ^ 64) : Fb (plX l x) 100000 := by
 unfold plX
 match hN : l.length with
 | 0 => exact Fb.le (x := (0 : Rat)) (a := 1) (by constructor <;> decide) (by omega)
 | N + 1 =>
  rw [cl_sum]
  obtain ⟨h1, h2⟩ := clB_fb (n := N) (c := cN l) (b := 113) ((hx.add hx).le (by omega)) hc N
  have := pow3_le (j := N) (by omega)
  have c0 : Fb ((cN l 0 : Int) : Rat) 64 := fb_int (hc 0) (by decide)
  have a1 := h1.le (b := 43740) (by omega)
  have a2 := h2.le (b := 43740) (by omega)
  exact ((c0.add (hx.mul a1)).sub a2).le (by omega)
theorem z_ePlace (v : Value) (s : SegD) (t : Int) (w : World) (hS : Sg w v s) (ok : SOk s) (h1 : s.fr ≤ t) (h2 : t ≤ s.ti) :
    Calls Tryz.prog 133 #[v, .int .i64 t] w fun e w' => e = .returned (.agg #[.int .i64 (ofLo (plU s.c0 (sgX s t))), .int .i64 (ofHi (plU s.c0 (sgX s t))), .int .i64 (ofLo (plU s.c1 (sgX s t))), .int .i64 (ofHi (plU s.c1 (sgX s t))), .int .i64 (ofLo (plU s.c2 (sgX s t))), .int .i64 (ofHi (plU s.c2 (sgX s t)))]) ∧ Ext w w' := by
 obtain ⟨v0, v1, v2, rfl, i1, i2, x0, x1, x2⟩ := hS
 obtain ⟨o1, o2, o3, k0, k1, k2⟩ := ok
 have hx1 := sgX_le o1 h1 h2
 have hd : (((s.ti - s.fr).toNat : Nat) : Int) = s.ti - s.fr := by omega
 have hOf := fun w1 => z_Of (2 * t - s.fr - s.ti) (s.ti - s.fr).toNat w1 (by omega) (by omega) (by omega) (by omega)
 have eX : mkRat (2 * t - s.fr - s.ti) (s.ti - s.fr).toNat = sgX s t := rfl
 rw [hd, eX] at hOf
 have hfx : Fb (sgX s t) 56 := fb_mk (by omega) (by omega) (by omega)
 have hv0 := fun w1 vx (h1 : Ext w w1) (hx : Fr w1 vx (sgX s t)) => z_eVal v0 s.c0 vx (sgX s t) w1 (x0.ext h1) k0.1 k0.2.1 hx hfx
 have hu0 := fun w1 vx (hx : Fr w1 vx (plX s.c0 (sgX s t))) => z_eUnits vx (plX s.c0 (sgX s t)) 100000 w1 hx (plX_fb k0.2.1 hfx (Xs.bits x0)) (by omega) (by have := (plU_le k0 hx1.1 hx1.2).1; unfold plU at this; omega) (by have := (plU_le k0 hx1.1 hx1.2).2; unfold plU at this; omega)
 rw [show plX s.c0 (sgX s t) * mkRat 1 1099511627776 = plU s.c0 (sgX s t) from rfl] at hu0
 obtain ⟨ao0, b0, q0, cap0, rfl, -⟩ := x0.len
 have hv1 := fun w1 vx (h1 : Ext w w1) (hx : Fr w1 vx (sgX s t)) => z_eVal v1 s.c1 vx (sgX s t) w1 (x1.ext h1) k1.1 k1.2.1 hx hfx
 have hu1 := fun w1 vx (hx : Fr w1 vx (plX s.c1 (sgX s t))) => z_eUnits vx (plX s.c1 (sgX s t)) 100000 w1 hx (plX_fb k1.2.1 hfx (Xs.bits x1)) (by omega) (by have := (plU_le k1 hx1.1 hx1.2).1; unfold plU at this; omega) (by have := (plU_le k1 hx1.1 hx1.2).2; unfold plU at this; omega)
 rw [show plX s.c1 (sgX s t) * mkRat 1 1099511627776 = plU s.c1 (sgX s t) from rfl] at hu1
 obtain ⟨ao1, b1, q1, cap1, rfl, -⟩ := x1.len
 have hv2 := fun w1 vx (h1 : Ext w w1) (hx : Fr w1 vx (sgX s t)) => z_eVal v2 s.c2 vx (sgX s t) w1 (x2.ext h1) k2.1 k2.2.1 hx hfx
 have hu2 := fun w1 vx (hx : Fr w1 vx (plX s.c2 (sgX s t))) => z_eUnits vx (plX s.c2 (sgX s t)) 100000 w1 hx (plX_fb k2.2.1 hfx (Xs.bits x2)) (by omega) (by have := (plU_le k2 hx1.1 hx1.2).1; unfold plU at this; omega) (by have := (plU_le k2 hx1.1 hx1.2).2; unfold plU at this; omega)
 rw [show plX s.c2 (sgX s t) * mkRat 1 1099511627776 = plU s.c2 (sgX s t) from rfl] at hu2
 obtain ⟨ao2, b2, q2, cap2, rfl, -⟩ := x2.len
 generalize ofLo (plU s.c0 (sgX s t)) = L0 at *
 generalize ofHi (plU s.c0 (sgX s t)) = H0 at *
 generalize ofLo (plU s.c1 (sgX s t)) = L1 at *
 generalize ofHi (plU s.c1 (sgX s t)) = H1 at *
 generalize ofLo (plU s.c2 (sgX s t)) = L2 at *
 generalize ofHi (plU s.c2 (sgX s t)) = H2 at *
 clear hx1 hfx k0 k1 k2 x0 x1 x2 eX hd
 have ix0 : ∀ w, (Instr.index 45 (.agg #[.slice ao0 s.c0.length cap0, .slice ao1 s.c1.length cap1, .slice ao2 s.c2.length cap2]) (.int .i64 0)).run Tryz.prog w = .ok (.slice ao0 s.c0.length cap0) w := fun _ => by kernel_rfl
 have ix1 : ∀ w, (Instr.index 45 (.agg #[.slice ao0 s.c0.length cap0, .slice ao1 s.c1.length cap1, .slice ao2 s.c2.length cap2]) (.int .i64 1)).run Tryz.prog w = .ok (.slice ao1 s.c1.length cap1) w := fun _ => by kernel_rfl
 have ix2 : ∀ w, (Instr.index 45 (.agg #[.slice ao0 s.c0.length cap0, .slice ao1 s.c1.length cap1, .slice ao2 s.c2.length cap2]) (.int .i64 2)).run Tryz.prog w = .ok (.slice ao2 s.c2.length cap2) w := fun _ => by kernel_rfl
 go_enter Tryz.func133, Tryz.ntmps133
 go_wp2_with (first
  | (go_at_call 93; (with_reducible refine (hOf _).mono ?_); rintro e w4 ⟨y4, rfl, hn4, hb4⟩; obtain ⟨s4, ao4, l4, cap4, bo4, lb4, cb4, rfl⟩ := hn4.shape; obtain ⟨_, _, ⟨hc4, hf4⟩, hz4⟩ := hb4.c3; (try simp only [wsz] at hz4 hc4 hf4))
  | (go_at_call 179; (with_reducible refine (hv0 _ _ ex_ c_7).mono ?_); clear hv0; rintro e w5 ⟨y5, rfl, hn5, hb5⟩; obtain ⟨s5, ao5, l5, cap5, bo5, lb5, cb5, rfl⟩ := hn5.shape; obtain ⟨_, _, ⟨hc5, hf5⟩, hz5⟩ := hb5.c3; (try simp only [wsz] at hz5 hc5 hf5); replace hn4 := Fr.ext (v := .agg #[.bool s4, .slice ao4 l4 cap4, .bool false, .slice bo4 lb4 cb4]) (x := sgX s t) c_7 hb5; replace hnu := NoU.ext (B := w.heap.size + 1) c_2 c_19 hb5)
  | (go_at_call 178; (with_reducible refine (hu0 _ _ hn5).mono ?_); clear hu0; rintro e w6 ⟨rfl, hb6⟩; obtain ⟨_, _, ⟨hc6, hf6⟩, hz6⟩ := hb6.c3; (try simp only [wsz] at hz6 hc6 hf6); replace hn4 := hn4.ext hb6; replace hnu := hnu.ext (by omega) hb6)
  | (go_at_call 179; (with_reducible refine (hv1 _ _ ex_ c_7).mono ?_); clear hv1; rintro e w7 ⟨y7, rfl, hn7, hb7⟩; obtain ⟨s7, ao7, l7, cap7, bo7, lb7, cb7, rfl⟩ := hn7.shape; obtain ⟨_, _, ⟨hc7, hf7⟩, hz7⟩ := hb7.c3; (try simp only [wsz] at hz7 hc7 hf7); replace hn4 := Fr.ext (v := .agg #[.bool s4, .slice ao4 l4 cap4, .bool false, .slice bo4 lb4 cb4]) (x := sgX s t) c_7 hb7; replace hnu := NoU.ext (B := w.heap.size + 1) c_2 c_19 hb7)
  | (go_at_call 178; (with_reducible refine (hu1 _ _ hn7).mono ?_); clear hu1; rintro e w8 ⟨rfl, hb8⟩; obtain ⟨_, _, ⟨hc8, hf8⟩, hz8⟩ := hb8.c3; (try simp only [wsz] at hz8 hc8 hf8); replace hn4 := hn4.ext hb8; replace hnu := hnu.ext (by omega) hb8)
  | (go_at_call 179; (with_reducible refine (hv2 _ _ ex_ c_7).mono ?_); clear hv2; rintro e w9 ⟨y9, rfl, hn9, hb9⟩; obtain ⟨s9, ao9, l9, cap9, bo9, lb9, cb9, rfl⟩ := hn9.shape; obtain ⟨_, _, ⟨hc9, hf9⟩, hz9⟩ := hb9.c3; (try simp only [wsz] at hz9 hc9 hf9); replace hn4 := Fr.ext (v := .agg #[.bool s4, .slice ao4 l4 cap4, .bool false, .slice bo4 lb4 cb4]) (x := sgX s t) c_7 hb9; replace hnu := NoU.ext (B := w.heap.size + 1) c_2 c_19 hb9)
  | (go_at_call 178; (with_reducible refine (hu2 _ _ hn9).mono ?_); clear hu2; rintro e w10 ⟨rfl, hb10⟩; obtain ⟨_, _, ⟨hc10, hf10⟩, hz10⟩ := hb10.c3; (try simp only [wsz] at hz10 hc10 hf10); replace hn4 := hn4.ext hb10; replace hnu := hnu.ext (by omega) hb10))
 have hnu : NoU w4 (w.heap.size + 1) := by
  have := (NoU.new (w.alloc (.cells #[.int .i64 s.fr, .int .i64 s.ti, .slice ao0 s.c0.length cap0, .slice ao1 s.c1.length cap1, .slice ao2 s.c2.length cap2] 47)) #[.int .i64 0, .int .i64 0, .int .i64 0, .int .i64 0, .int .i64 0, .int .i64 0] 28 (noUl (by simp))).ext (by simp) (w := w4) ex_
  simpa using this
 refine wp_loop_rounds 4 ?_
 rw [rounds_succ]
 go_wp2_with (first
  | (go_at_call 93; (with_reducible refine (hOf _).mono ?_); rintro e w4 ⟨y4, rfl, hn4, hb4⟩; obtain ⟨s4, ao4, l4, cap4, bo4, lb4, cb4, rfl⟩ := hn4.shape; obtain ⟨_, _, ⟨hc4, hf4⟩, hz4⟩ := hb4.c3; (try simp only [wsz] at hz4 hc4 hf4))
  | (go_at_call 179; (with_reducible refine (hv0 _ _ ex_ c_7).mono ?_); clear hv0; rintro e w5 ⟨y5, rfl, hn5, hb5⟩; obtain ⟨s5, ao5, l5, cap5, bo5, lb5, cb5, rfl⟩ := hn5.shape; obtain ⟨_, _, ⟨hc5, hf5⟩, hz5⟩ := hb5.c3; (try simp only [wsz] at hz5 hc5 hf5); replace hn4 := Fr.ext (v := .agg #[.bool s4, .slice ao4 l4 cap4, .bool false, .slice bo4 lb4 cb4]) (x := sgX s t) c_7 hb5; replace hnu := NoU.ext (B := w.heap.size + 1) c_2 c_19 hb5)
  | (go_at_call 178; (with_reducible refine (hu0 _ _ hn5).mono ?_); clear hu0; rintro e w6 ⟨rfl, hb6⟩; obtain ⟨_, _, ⟨hc6, hf6⟩, hz6⟩ := hb6.c3; (try simp only [wsz] at hz6 hc6 hf6); replace hn4 := hn4.ext hb6; replace hnu := hnu.ext (by omega) hb6)
  | (go_at_call 179; (with_reducible refine (hv1 _ _ ex_ c_7).mono ?_); clear hv1; rintro e w7 ⟨y7, rfl, hn7, hb7⟩; obtain ⟨s7, ao7, l7, cap7, bo7, lb7, cb7, rfl⟩ := hn7.shape; obtain ⟨_, _, ⟨hc7, hf7⟩, hz7⟩ := hb7.c3; (try simp only [wsz] at hz7 hc7 hf7); replace hn4 := Fr.ext (v := .agg #[.bool s4, .slice ao4 l4 cap4, .bool false, .slice bo4 lb4 cb4]) (x := sgX s t) c_7 hb7; replace hnu := NoU.ext (B := w.heap.size + 1) c_2 c_19 hb7)
  | (go_at_call 178; (with_reducible refine (hu1 _ _ hn7).mono ?_); clear hu1; rintro e w8 ⟨rfl, hb8⟩; obtain ⟨_, _, ⟨hc8, hf8⟩, hz8⟩ := hb8.c3; (try simp only [wsz] at hz8 hc8 hf8); replace hn4 := hn4.ext hb8; replace hnu := hnu.ext (by omega) hb8)
  | (go_at_call 179; (with_reducible refine (hv2 _ _ ex_ c_7).mono ?_); clear hv2; rintro e w9 ⟨y9, rfl, hn9, hb9⟩; obtain ⟨s9, ao9, l9, cap9, bo9, lb9, cb9, rfl⟩ := hn9.shape; obtain ⟨_, _, ⟨hc9, hf9⟩, hz9⟩ := hb9.c3; (try simp only [wsz] at hz9 hc9 hf9); replace hn4 := Fr.ext (v := .agg #[.bool s4, .slice ao4 l4 cap4, .bool false, .slice bo4 lb4 cb4]) (x := sgX s t) c_7 hb9; replace hnu := NoU.ext (B := w.heap.size + 1) c_2 c_19 hb9)
  | (go_at_call 178; (with_reducible refine (hu2 _ _ hn9).mono ?_); clear hu2; rintro e w10 ⟨rfl, hb10⟩; obtain ⟨_, _, ⟨hc10, hf10⟩, hz10⟩ := hb10.c3; (try simp only [wsz] at hz10 hc10 hf10); replace hn4 := hn4.ext hb10; replace hnu := hnu.ext (by omega) hb10))
 rw [rounds_succ]
 go_wp2_with (first
  | (go_at_call 93; (with_reducible refine (hOf _).mono ?_); rintro e w4 ⟨y4, rfl, hn4, hb4⟩; obtain ⟨s4, ao4, l4, cap4, bo4, lb4, cb4, rfl⟩ := hn4.shape; obtain ⟨_, _, ⟨hc4, hf4⟩, hz4⟩ := hb4.c3; (try simp only [wsz] at hz4 hc4 hf4))
  | (go_at_call 179; (with_reducible refine (hv0 _ _ ex_ c_7).mono ?_); clear hv0; rintro e w5 ⟨y5, rfl, hn5, hb5⟩; obtain ⟨s5, ao5, l5, cap5, bo5, lb5, cb5, rfl⟩ := hn5.shape; obtain ⟨_, _, ⟨hc5, hf5⟩, hz5⟩ := hb5.c3; (try simp only [wsz] at hz5 hc5 hf5); replace hn4 := Fr.ext (v := .agg #[.bool s4, .slice ao4 l4 cap4, .bool false, .slice bo4 lb4 cb4]) (x := sgX s t) c_7 hb5; replace hnu := NoU.ext (B := w.heap.size + 1) c_2 c_19 hb5)
  | (go_at_call 178; (with_reducible refine (hu0 _ _ hn5).mono ?_); clear hu0; rintro e w6 ⟨rfl, hb6⟩; obtain ⟨_, _, ⟨hc6, hf6⟩, hz6⟩ := hb6.c3; (try simp only [wsz] at hz6 hc6 hf6); replace hn4 := hn4.ext hb6; replace hnu := hnu.ext (by omega) hb6)
  | (go_at_call 179; (with_reducible refine (hv1 _ _ ex_ c_7).mono ?_); clear hv1; rintro e w7 ⟨y7, rfl, hn7, hb7⟩; obtain ⟨s7, ao7, l7, cap7, bo7, lb7, cb7, rfl⟩ := hn7.shape; obtain ⟨_, _, ⟨hc7, hf7⟩, hz7⟩ := hb7.c3; (try simp only [wsz] at hz7 hc7 hf7); replace hn4 := Fr.ext (v := .agg #[.bool s4, .slice ao4 l4 cap4, .bool false, .slice bo4 lb4 cb4]) (x := sgX s t) c_7 hb7; replace hnu := NoU.ext (B := w.heap.size + 1) c_2 c_19 hb7)
  | (go_at_call 178; (with_reducible refine (hu1 _ _ hn7).mono ?_); clear hu1; rintro e w8 ⟨rfl, hb8⟩; obtain ⟨_, _, ⟨hc8, hf8⟩, hz8⟩ := hb8.c3; (try simp only [wsz] at hz8 hc8 hf8); replace hn4 := hn4.ext hb8; replace hnu := hnu.ext (by omega) hb8)
  | (go_at_call 179; (with_reducible refine (hv2 _ _ ex_ c_7).mono ?_); clear hv2; rintro e w9 ⟨y9, rfl, hn9, hb9⟩; obtain ⟨s9, ao9, l9, cap9, bo9, lb9, cb9, rfl⟩ := hn9.shape; obtain ⟨_, _, ⟨hc9, hf9⟩, hz9⟩ := hb9.c3; (try simp only [wsz] at hz9 hc9 hf9); replace hn4 := Fr.ext (v := .agg #[.bool s4, .slice ao4 l4 cap4, .bool false, .slice bo4 lb4 cb4]) (x := sgX s t) c_7 hb9; replace hnu := NoU.ext (B := w.heap.size + 1) c_2 c_19 hb9)
  | (go_at_call 178; (with_reducible refine (hu2 _ _ hn9).mono ?_); clear hu2; rintro e w10 ⟨rfl, hb10⟩; obtain ⟨_, _, ⟨hc10, hf10⟩, hz10⟩ := hb10.c3; (try simp only [wsz] at hz10 hc10 hf10); replace hn4 := hn4.ext hb10; replace hnu := hnu.ext (by omega) hb10))
 rw [rounds_succ]
 go_wp2_with (first
  | (go_at_call 93; (with_reducible refine (hOf _).mono ?_); rintro e w4 ⟨y4, rfl, hn4, hb4⟩; obtain ⟨s4, ao4, l4, cap4, bo4, lb4, cb4, rfl⟩ := hn4.shape; obtain ⟨_, _, ⟨hc4, hf4⟩, hz4⟩ := hb4.c3; (try simp only [wsz] at hz4 hc4 hf4))
  | (go_at_call 179; (with_reducible refine (hv0 _ _ ex_ c_7).mono ?_); clear hv0; rintro e w5 ⟨y5, rfl, hn5, hb5⟩; obtain ⟨s5, ao5, l5, cap5, bo5, lb5, cb5, rfl⟩ := hn5.shape; obtain ⟨_, _, ⟨hc5, hf5⟩, hz5⟩ := hb5.c3; (try simp only [wsz] at hz5 hc5 hf5); replace hn4 := Fr.ext (v := .agg #[.bool s4, .slice ao4 l4 cap4, .bool false, .slice bo4 lb4 cb4]) (x := sgX s t) c_7 hb5; replace hnu := NoU.ext (B := w.heap.size + 1) c_2 c_19 hb5)
  | (go_at_call 178; (with_reducible refine (hu0 _ _ hn5).mono ?_); clear hu0; rintro e w6 ⟨rfl, hb6⟩; obtain ⟨_, _, ⟨hc6, hf6⟩, hz6⟩ := hb6.c3; (try simp only [wsz] at hz6 hc6 hf6); replace hn4 := hn4.ext hb6; replace hnu := hnu.ext (by omega) hb6)
  | (go_at_call 179; (with_reducible refine (hv1 _ _ ex_ c_7).mono ?_); clear hv1; rintro e w7 ⟨y7, rfl, hn7, hb7⟩; obtain ⟨s7, ao7, l7, cap7, bo7, lb7, cb7, rfl⟩ := hn7.shape; obtain ⟨_, _, ⟨hc7, hf7⟩, hz7⟩ := hb7.c3; (try simp only [wsz] at hz7 hc7 hf7); replace hn4 := Fr.ext (v := .agg #[.bool s4, .slice ao4 l4 cap4, .bool false, .slice bo4 lb4 cb4]) (x := sgX s t) c_7 hb7; replace hnu := NoU.ext (B := w.heap.size + 1) c_2 c_19 hb7)
  | (go_at_call 178; (with_reducible refine (hu1 _ _ hn7).mono ?_); clear hu1; rintro e w8 ⟨rfl, hb8⟩; obtain ⟨_, _, ⟨hc8, hf8⟩, hz8⟩ := hb8.c3; (try simp only [wsz] at hz8 hc8 hf8); replace hn4 := hn4.ext hb8; replace hnu := hnu.ext (by omega) hb8)
  | (go_at_call 179; (with_reducible refine (hv2 _ _ ex_ c_7).mono ?_); clear hv2; rintro e w9 ⟨y9, rfl, hn9, hb9⟩; obtain ⟨s9, ao9, l9, cap9, bo9, lb9, cb9, rfl⟩ := hn9.shape; obtain ⟨_, _, ⟨hc9, hf9⟩, hz9⟩ := hb9.c3; (try simp only [wsz] at hz9 hc9 hf9); replace hn4 := Fr.ext (v := .agg #[.bool s4, .slice ao4 l4 cap4, .bool false, .slice bo4 lb4 cb4]) (x := sgX s t) c_7 hb9; replace hnu := NoU.ext (B := w.heap.size + 1) c_2 c_19 hb9)
  | (go_at_call 178; (with_reducible refine (hu2 _ _ hn9).mono ?_); clear hu2; rintro e w10 ⟨rfl, hb10⟩; obtain ⟨_, _, ⟨hc10, hf10⟩, hz10⟩ := hb10.c3; (try simp only [wsz] at hz10 hc10 hf10); replace hn4 := hn4.ext hb10; replace hnu := hnu.ext (by omega) hb10))
 rw [rounds_succ]
 go_wp2_with fail
 trace_state
 refine bodyPost_ret (v := .agg #[.int .i64 L0, .int .i64 H0, .int .i64 L1, .int .i64 H1, .int .i64 L2, .int .i64 H2]) ?_ rfl ⟨rfl, ?_⟩
 ·simp [results, Tryz.results133, go_sem, ↓IntWalk.iteOmega, *]
 ·exact b_6
end Go.Proofs.YtbkgakgdbmjmjaaGreat
