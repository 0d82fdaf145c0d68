/- Groups of outcomes. -/
import Derived.Test.YtcalonhphknbbaaJ33
import Derived.Test.YtcalonhphknbbaaJ28
set_option linter.unusedSimpArgs false
set_option linter.unusedVariables false
namespace Go.Proofs.Ytcalonhphknbbaa
open Go.RowKit

abbrev Gp := Nat × Nat × Bool
def gcells (g : Gp) : List Value := [.int .i64 (g.1 : Nat), .int .i64 (g.2.1 : Nat), .bool g.2.2]
/-- What is known of the groups of the first k outcomes. -/
structure GOk (l : List Int) (k : Nat) (gs : List Gp) : Prop where
  apart : gs.Pairwise (fun g h => g.2.1 + 1 < h.1)
  ends : ∀ g ∈ gs, g.1 ≤ g.2.1 ∧ g.2.1 < k
  sure : ∀ g ∈ gs, g.2.2 = true ↔ ∃ j, g.1 ≤ j ∧ j ≤ g.2.1 ∧ l.getD j 0 = 2
  all : ∀ j, j < k → (l.getD j 0 ≠ 0 ↔ ∃ g ∈ gs, g.1 ≤ j ∧ j ≤ g.2.1)
def lastAt (l : List Int) : Nat → Int
  | 0 => 0
  | k + 1 => l.getD k 0
def gFin (gs : List Gp) (k : Nat) (x : Int) : List Gp := match gs.getLast? with
  | none => gs
  | some g => gs.dropLast ++ [(g.1, k, g.2.2 || x == 2)]
/-- The groups of the first k outcomes. -/
def gAt (l : List Int) : Nat → List Gp
  | 0 => []
  | k + 1 => if l.getD k 0 = 0 then gAt l k else if lastAt l k = 0 then gAt l k ++ [(k, k, l.getD k 0 == 2)] else gFin (gAt l k) k (l.getD k 0)
structure GI (l : List Int) (k : Nat) (gs : List Gp) (last : Int) : Prop where
  ok : GOk l k gs
  len : gs.length ≤ k
  open_ : last ≠ 0 → ∃ init a b s, gs = init ++ [(a, b, s)] ∧ b + 1 = k
  shut : last = 0 → ∀ g ∈ gs, g.2.1 + 1 < k
  eqg : gs = gAt l k
  eql : last = lastAt l k
theorem GI.zero (l : List Int) : GI l 0 [] 0 := ⟨⟨List.Pairwise.nil, by simp, by simp, fun j hj => absurd hj (by omega)⟩, Nat.le_refl _, fun h => absurd rfl h, by simp, rfl, rfl⟩
theorem GI.dead {l : List Int} {k : Nat} {gs : List Gp} {last : Int} (h : GI l k gs last) (hx : l.getD k 0 = 0) : GI l (k + 1) gs 0 := by
  refine ⟨⟨h.ok.apart, fun g hg => ⟨(h.ok.ends g hg).1, Nat.lt_succ_of_lt (h.ok.ends g hg).2⟩, h.ok.sure, fun j hj => ?_⟩, Nat.le_succ_of_le h.len, fun e => absurd rfl e, fun _ g hg => by have := (h.ok.ends g hg).2; omega, by rw [h.eqg, gAt, if_pos hx], hx.symm⟩
  rcases Nat.lt_or_ge j k with c | c
  · exact h.ok.all j c
  · have : j = k := by omega
    subst this
    exact ⟨fun e => absurd hx e, fun ⟨g, hg, _, h2⟩ => absurd (h.ok.ends g hg).2 (by omega)⟩
theorem GI.fresh {l : List Int} {k : Nat} {gs : List Gp} (h : GI l k gs 0) {x : Int} (ex : l.getD k 0 = x) (hx : x ≠ 0) : GI l (k + 1) (gs ++ [(k, k, x == 2)]) x := by
  refine ⟨⟨?_, fun g hg => ?_, fun g hg => ?_, fun j hj => ?_⟩, by rw [List.length_append]; have := h.len; simp; exact this, fun _ => ⟨gs, k, k, x == 2, rfl, rfl⟩, fun e => absurd e hx, by rw [gAt, ex, if_neg hx, ← h.eql, if_pos rfl, ← h.eqg], ex.symm⟩
  · refine List.pairwise_append.2 ⟨h.ok.apart, List.pairwise_singleton _ _, fun g hg c hc => ?_⟩
    have := List.mem_singleton.1 hc
    subst this
    exact h.shut rfl g hg
  · rcases List.mem_append.1 hg with c | c
    · exact ⟨(h.ok.ends g c).1, Nat.lt_succ_of_lt (h.ok.ends g c).2⟩
    · have := List.mem_singleton.1 c
      subst this
      exact ⟨Nat.le_refl _, Nat.lt_succ_self _⟩
  · rcases List.mem_append.1 hg with c | c
    · exact h.ok.sure g c
    · have := List.mem_singleton.1 c
      subst this
      refine ⟨fun e => ⟨k, Nat.le_refl _, Nat.le_refl _, by rw [ex]; simpa using e⟩, fun ⟨j, h1, h2, h3⟩ => ?_⟩
      have : j = k := Nat.le_antisymm h2 h1
      subst this
      rw [ex] at h3
      simpa using h3
  · rcases Nat.lt_or_ge j k with c | c
    · rw [h.ok.all j c]
      refine ⟨fun ⟨g, hg, h2⟩ => ⟨g, List.mem_append.2 (.inl hg), h2⟩, fun ⟨g, hg, h2⟩ => ?_⟩
      rcases List.mem_append.1 hg with d | d
      · exact ⟨g, d, h2⟩
      · have := List.mem_singleton.1 d
        subst this
        exact absurd h2.1 (by show ¬ k ≤ j; omega)
    · have : j = k := by omega
      subst this
      exact ⟨fun _ => ⟨(j, j, x == 2), List.mem_append.2 (.inr (List.mem_singleton.2 rfl)), Nat.le_refl _, Nat.le_refl _⟩, fun _ => by rw [ex]; exact hx⟩
theorem GI.more {l : List Int} {k a b : Nat} {s : Bool} {init : List Gp} {last : Int} (h : GI l k (init ++ [(a, b, s)]) last) (hl0 : last ≠ 0) (hb : b + 1 = k) {x : Int} (ex : l.getD k 0 = x) (hx : x ≠ 0) : GI l (k + 1) (init ++ [(a, k, s || x == 2)]) x := by
  have hm : (a, b, s) ∈ init ++ [(a, b, s)] := List.mem_append.2 (.inr (List.mem_singleton.2 rfl))
  have hab := (h.ok.ends _ hm).1
  have hsb := h.ok.sure _ hm
  have hin : ∀ g ∈ init, g ∈ init ++ [(a, b, s)] := fun g hg => List.mem_append.2 (.inl hg)
  dsimp only at hab hsb
  refine ⟨⟨?_, fun g hg => ?_, fun g hg => ?_, fun j hj => ?_⟩, by have := h.len; rw [List.length_append] at this ⊢; exact Nat.le_succ_of_le this, fun _ => ⟨init, a, k, _, rfl, rfl⟩, fun e => absurd e hx, by rw [gAt, ex, if_neg hx, ← h.eql, if_neg hl0, ← h.eqg, gFin, List.getLast?_concat, List.dropLast_concat], ex.symm⟩
  · obtain ⟨p1, p2, p3⟩ := List.pairwise_append.1 h.ok.apart
    refine List.pairwise_append.2 ⟨p1, List.pairwise_singleton _ _, fun g hg c hc => ?_⟩
    have := List.mem_singleton.1 hc
    subst this
    exact p3 g hg (a, b, s) (List.mem_singleton.2 rfl)
  · rcases List.mem_append.1 hg with c | c
    · exact ⟨(h.ok.ends g (hin g c)).1, Nat.lt_succ_of_lt (h.ok.ends g (hin g c)).2⟩
    · have := List.mem_singleton.1 c
      subst this
      exact ⟨by dsimp only; omega, Nat.lt_succ_self _⟩
  · rcases List.mem_append.1 hg with c | c
    · exact h.ok.sure g (hin g c)
    · have := List.mem_singleton.1 c
      subst this
      dsimp only
      rw [Bool.or_eq_true, hsb]
      refine ⟨fun e => ?_, fun ⟨j, h1, h2, h3⟩ => ?_⟩
      · rcases e with ⟨j, h1, h2, h3⟩ | e
        · exact ⟨j, h1, by omega, h3⟩
        · exact ⟨k, by omega, Nat.le_refl _, by rw [ex]; simpa using e⟩
      · rcases Nat.lt_or_ge j k with c | c
        · exact .inl ⟨j, h1, by omega, h3⟩
        · have : j = k := by omega
          subst this
          rw [ex] at h3
          exact .inr (by simpa using h3)
  · rcases Nat.lt_or_ge j k with c | c
    · rw [h.ok.all j c]
      refine ⟨fun ⟨g, hg, h2⟩ => ?_, fun ⟨g, hg, h2⟩ => ?_⟩
      · rcases List.mem_append.1 hg with d | d
        · exact ⟨g, List.mem_append.2 (.inl d), h2⟩
        · have := List.mem_singleton.1 d
          subst this
          exact ⟨_, List.mem_append.2 (.inr (List.mem_singleton.2 rfl)), h2.1, by show j ≤ k; omega⟩
      · rcases List.mem_append.1 hg with d | d
        · exact ⟨g, List.mem_append.2 (.inl d), h2⟩
        · have := List.mem_singleton.1 d
          subst this
          exact ⟨_, hm, h2.1, by show j ≤ b; omega⟩
    · have : j = k := by omega
      subst this
      exact ⟨fun _ => ⟨(a, j, s || x == 2), List.mem_append.2 (.inr (List.mem_singleton.2 rfl)), by show a ≤ j; omega, Nat.le_refl _⟩, fun _ => by rw [ex]; exact hx⟩
theorem gi_at (l : List Int) : ∀ k, GI l k (gAt l k) (lastAt l k)
  | 0 => GI.zero l
  | k + 1 => by
    have h := gi_at l k
    have key : ∀ gs last, GI l (k + 1) gs last → GI l (k + 1) (gAt l (k + 1)) (lastAt l (k + 1)) := fun gs last h => by rw [← h.eqg, ← h.eql]; exact h
    by_cases hx : l.getD k 0 = 0
    · exact key _ _ (h.dead hx)
    · by_cases hl : lastAt l k = 0
      · rw [hl] at h
        exact key _ _ (h.fresh rfl hx)
      · obtain ⟨init, a, b, s, e, hb⟩ := h.open_ hl
        rw [e] at h
        exact key _ _ (h.more hl hb rfl hx)
theorem gflat_len (gs : List Gp) : (gs.flatMap gcells).length = gs.length * 3 := by
  induction gs with
  | nil => rfl
  | cons e es ih => rw [List.flatMap_cons, List.length_append, ih, List.length_cons]; show 3 + _ = _; omega
theorem gflat_get : ∀ (gs : List Gp) (i k : Nat) (g : Gp), gs[i]? = some g → k < 3 → (gs.flatMap gcells)[i * 3 + k]? = (gcells g)[k]?
  | [], i, k, e, h, _ => by simp at h
  | x :: es, 0, k, e, h, hk => by
    simp only [List.getElem?_cons_zero, Option.some.injEq] at h
    subst h
    rw [List.flatMap_cons, List.getElem?_append_left (show 0 * 3 + k < (gcells x).length from by show 0 * 3 + k < 3; omega), Nat.zero_mul, Nat.zero_add]
  | x :: es, i + 1, k, e, h, hk => by
    rw [List.getElem?_cons_succ] at h
    rw [List.flatMap_cons, List.getElem?_append_right (show (gcells x).length ≤ (i + 1) * 3 + k from by show 3 ≤ _; omega), show (i + 1) * 3 + k - (gcells x).length = i * 3 + k from by show (i + 1) * 3 + k - 3 = _; omega]
    exact gflat_get es i k e h hk
theorem gflat_last (init : List Gp) (a b c : Nat) (s t : Bool) : (((init ++ [(a, b, s)]).flatMap gcells).set (init.length * 3 + 1) (.int .i64 (c : Nat))).set (init.length * 3 + 2) (.bool t) = (init ++ [(a, c, t)]).flatMap gcells := by
  rw [List.flatMap_append, List.flatMap_append, ← gflat_len, List.set_append_right _ _ (by omega), List.set_append_right _ _ (by omega)]
  congr 1
  rw [Nat.add_sub_cancel_left, Nat.add_sub_cancel_left]
  rfl
/-- The slice v holds the groups gs. -/
def Gr (w : World) (v : Value) (gs : List Gp) : Prop := ∃ ao b cap, v = .slice ao gs.length cap ∧ (0 < gs.length → ao = some ⟨b, 0, none⟩ ∧ b < w.heap.size) ∧ gs.length ≤ cap ∧ cap ≤ 9223372036854775807 ∧ ∀ i g, gs[i]? = some g → w.cell? ⟨b, i * 3, none⟩ = some (.int .i64 (g.1 : Nat)) ∧ w.cell? ⟨b, i * 3 + 1, none⟩ = some (.int .i64 (g.2.1 : Nat)) ∧ w.cell? ⟨b, i * 3 + 2, none⟩ = some (.bool g.2.2)
theorem Gr.ext {a w : World} {v : Value} {gs : List Gp} (h : Gr a v gs) (k : Ext a w) : Gr w v gs := by
  obtain ⟨ao, b, cap, e, h1, h2, h3, h4⟩ := h
  refine ⟨ao, b, cap, e, fun p => ⟨(h1 p).1, Nat.lt_of_lt_of_le (h1 p).2 k.size⟩, h2, h3, fun i g hg => ?_⟩
  have hb : b < a.heap.size := (h1 (by have := (List.getElem?_eq_some_iff.1 hg).1; omega)).2
  obtain ⟨c1, c2, c3⟩ := h4 i g hg
  exact ⟨(k.cells.1 _ _ hb).trans c1, (k.cells.1 _ _ hb).trans c2, (k.cells.1 _ _ hb).trans c3⟩
theorem Gr.of {w : World} {base : Nat} {v : Value} {gs : List Gp} (h : w.ownsRow base 53 3 v gs.length (gs.flatMap gcells)) : Gr w v gs := by
  have h' := h
  rcases h.2 with ⟨rfl, e⟩ | ⟨g, cap, cur, rfl, _, hg, hnc, hcm, _, _⟩
  · have : gs = [] := List.eq_nil_of_length_eq_zero e
    subst this
    exact ⟨none, 0, 0, rfl, fun p => absurd p (by simp), Nat.le_refl _, by omega, fun i g hg => by simp at hg⟩
  · have hl := h'.lt g rfl
    have k1 : gs.length ≤ cap := hnc
    have k2 : cap ≤ maxLen := hcm
    refine ⟨_, g, cap, rfl, fun _ => ⟨rfl, hl.2⟩, k1, by unfold maxLen at k2; omega, fun i x hx => ?_⟩
    have hi := (List.getElem?_eq_some_iff.1 hx).1
    have hc : ∀ k, k < 3 → w.cell? ⟨g, i * 3 + k, none⟩ = (gcells x)[k]? := fun k hk => by
      rw [World.ownsRow.cellAt h (i * 3 + k) (by omega)]; exact gflat_get gs i k x hx hk
    exact ⟨hc 0 (by decide), hc 1 (by decide), hc 2 (by decide)⟩
theorem info53 : (Try.prog.info? 53).map (fun i => (i.zero, i.size, i.bytes)) = some (some (.agg #[.int .i64 0, .int .i64 0, .bool false]), 3, 24) := by kernel_rfl
theorem g_one (g : Gp) : ∀ u ∈ gcells g, u.oneCell' = true := by
  intro u hu; simp [gcells] at hu; rcases hu with rfl | rfl | rfl <;> rfl
theorem own_last {W : World} {base g gc m a b : Nat} {s : Bool} {init : List Gp} (hm : init.length = m) (h : W.ownsRow base 53 3 (.slice (some ⟨g, 0, none⟩) (m + 1) gc) (m + 1) ((init ++ [(a, b, s)]).flatMap gcells)) :
    W.cell? ⟨g, m * 3 + 1, none⟩ = some (.int .i64 (b : Nat)) ∧ W.cell? ⟨g, m * 3 + 2, none⟩ = some (.bool s) ∧ W.frozen? ⟨g, m * 3 + 1, none⟩ = false ∧ W.frozen? ⟨g, m * 3 + 2, none⟩ = false ∧ base ≤ g ∧ g < W.heap.size ∧ ∀ (c : Nat) (t : Bool), ((W.setCell ⟨g, m * 3 + 1, none⟩ (.int .i64 (c : Nat))).setCell ⟨g, m * 3 + 2, none⟩ (.bool t)).ownsRow base 53 3 (.slice (some ⟨g, 0, none⟩) (m + 1) gc) (m + 1) ((init ++ [(a, c, t)]).flatMap gcells) := by
  subst hm
  have hcap := h.lt g rfl
  have c1 := World.ownsRow.cellAt h (init.length * 3 + 1) (by omega)
  have c2 := World.ownsRow.cellAt h (init.length * 3 + 2) (by omega)
  rw [gflat_get _ init.length 1 (a, b, s) (by simp) (by decide)] at c1
  rw [gflat_get _ init.length 2 (a, b, s) (by simp) (by decide)] at c2
  refine ⟨c1, c2, World.ownsRow.frozenAt h _, World.ownsRow.frozenAt h _, hcap.1, hcap.2, fun c t => ?_⟩
  have h2 := ((h.stored (init.length * 3 + 1) (.int .i64 (c : Nat))).1.stored (init.length * 3 + 2) (.bool t)).1
  rw [gflat_last] at h2
  exact h2
theorem own_form3 {W : World} {base m : Nat} {v : Value} {xs : List Value} (h : W.ownsRow base 53 3 v (m + 1) xs) : ∃ g gc, v = .slice (some ⟨g, 0, none⟩) (m + 1) gc := by
  rcases h.2 with ⟨_, e⟩ | ⟨g, gc, _, e, _⟩
  · simp at e
  · exact ⟨g, gc, e⟩
theorem snoc_flat (gs : List Gp) (g : Gp) : gs.flatMap gcells ++ gcells g = (gs ++ [g]).flatMap gcells := by simp
theorem own_ext3 {a w w' : World} {v : Value} {n : Nat} {xs : List Value} (h : Ext a w) (ho : w.ownsRow a.heap.size 53 3 v n xs) (k : w.grownBy w' v.ownBlock) : Ext a w' :=
  Below.grown h k h.size (fun g e => by
    rcases ho.2 with ⟨e1, _⟩ | ⟨g', cap, cur, e1, hb, _⟩
    · subst e1; cases e
    · subst e1; simp only [Value.ownBlock] at e; cases e; exact hb)
def GrR (w : World) (l : List Int) (ov lv kv : Value) (wr : World) : Prop := ∃ (k : Nat) (gs : List Gp) (last : Int) (v : Value), v = ov ∧ k ≤ l.length ∧ lv = .int .i8 last ∧ kv = .int .i64 k ∧ Hid (-128 ≤ last ∧ last ≤ 127) ∧ Hid (GI l k gs last) ∧ Hid (wr.ownsRow w.heap.size 53 3 v gs.length (gs.flatMap gcells)) ∧ Hid (Ext w wr)
end Go.Proofs.Ytcalonhphknbbaa

/- The law of the groups: marks. -/
namespace Go.Proofs.Ytcalonhphknbbaa
open Go.RowKit

def marks (gs : List Gp) (i m : Nat) : Bool := (gs.take i).any fun g => decide (g.1 ≤ m) && decide (m ≤ g.2.1)
def sureTo (l : List Int) (a : Nat) : Nat → Bool
  | 0 => false
  | d + 1 => sureTo l a d || l.getD (a + d) 0 == 2
theorem sureTo_iff (l : List Int) (a : Nat) : ∀ d, sureTo l a d = true ↔ ∃ j, a ≤ j ∧ j < a + d ∧ l.getD j 0 = 2
  | 0 => by simp [sureTo]; omega
  | d + 1 => by
    rw [sureTo, Bool.or_eq_true, sureTo_iff l a d]
    constructor
    · rintro (⟨j, h1, h2, h3⟩ | h)
      · exact ⟨j, h1, by omega, h3⟩
      · exact ⟨a + d, by omega, by omega, by simpa using h⟩
    · rintro ⟨j, h1, h2, h3⟩
      rcases Nat.lt_or_ge j (a + d) with c | c
      · exact .inl ⟨j, h1, c, h3⟩
      · have : j = a + d := by omega
        subst this
        exact .inr (by simpa using h3)
theorem sure_eq {l : List Int} {k : Nat} {gs : List Gp} (h : GOk l k gs) {g : Gp} (hg : g ∈ gs) : sureTo l g.1 (g.2.1 + 1 - g.1) = g.2.2 := by
  have h1 := (h.ends g hg).1
  rw [Bool.eq_iff_iff, sureTo_iff, h.sure g hg]
  constructor
  · rintro ⟨j, a, b, c⟩; exact ⟨j, a, by omega, c⟩
  · rintro ⟨j, a, b, c⟩; exact ⟨j, a, by omega, c⟩
theorem marks_all {l : List Int} {gs : List Gp} (h : GOk l l.length gs) {m : Nat} (hm : m < l.length) : marks gs gs.length m = (l.getD m 0 != 0) := by
  have := h.all m hm
  rw [Bool.eq_iff_iff]
  unfold marks
  rw [List.take_length, List.any_eq_true]
  simp only [Bool.and_eq_true, decide_eq_true_eq, bne_iff_ne, ne_eq]
  rw [show (¬ l.getD m 0 = 0) = (l.getD m 0 ≠ 0) from rfl, this]
theorem marks_succ {gs : List Gp} {i : Nat} {g : Gp} (hg : gs[i]? = some g) (m : Nat) : marks gs (i + 1) m = (marks gs i m || (decide (g.1 ≤ m) && decide (m ≤ g.2.1))) := by
  unfold marks
  rw [List.take_add_one, hg, List.any_append]
  simp
/-- The marks in block B. -/
def Mk (w wr : World) (B n : Nat) (f : Nat → Bool) : Prop := (∀ m, m < n → wr.cell? ⟨B, m, none⟩ = some (.bool (f m))) ∧ (∀ m, wr.frozen? ⟨B, m, none⟩ = false) ∧ Ext w wr ∧ w.heap.size ≤ B ∧ B < wr.heap.size
theorem Mk.step {w wr : World} {B n k : Nat} {f f' : Nat → Bool} (h : Mk w wr B n f) (hk : k < n) (he : ∀ m, f' m = if m = k then true else f m) : Mk w (wr.setCell ⟨B, k, none⟩ (.bool true)) B n f' := by
  obtain ⟨h1, h2, h3, h4, h5⟩ := h
  refine ⟨fun m hm => ?_, fun m => by rw [World.frozen?_setCell]; exact h2 m, h3.setCell (p := ⟨B, k, none⟩) h4 _, h4, by simpa using h5⟩
  rw [cell_sc, he m]
  by_cases hm2 : m = k
  · subst hm2; rw [if_pos rfl, if_pos rfl, h1 m hm]; rfl
  · rw [if_neg hm2, if_neg (fun e => hm2 (by have := congrArg Addr.off e; simpa using this)), h1 m hm]
theorem Mk.drawn {w wr : World} {B n : Nat} {f : Nat → Bool} (h : Mk w wr B n f) (k : Nat) : Mk w (wr.drewN k) B n f := ⟨h.1, h.2.1, h.2.2.1.drewN k, h.2.2.2⟩
/-- Inside a group: up to a + d. -/
def inG (gs : List Gp) (i a d m : Nat) : Bool := marks gs i m || (decide (a ≤ m) && decide (m < a + d))
theorem inG_zero (gs : List Gp) (i a m : Nat) : inG gs i a 0 m = marks gs i m := by
  unfold inG
  by_cases h1 : a ≤ m
  · have : decide (m < a + 0) = false := decide_eq_false (by omega)
    rw [this]; simp
  · simp [h1]
theorem inG_succ (gs : List Gp) (i a d m : Nat) : inG gs i a (d + 1) m = if m = a + d then true else inG gs i a d m := by
  unfold inG
  by_cases h : m = a + d
  · subst h
    simp
  · rw [if_neg h]
    congr 2
    rw [Bool.eq_iff_iff]
    simp only [decide_eq_true_eq]
    omega
theorem inG_end {gs : List Gp} {i : Nat} {g : Gp} (hg : gs[i]? = some g) (h : g.1 ≤ g.2.1) (m : Nat) : inG gs i g.1 (g.2.1 + 1 - g.1) m = marks gs (i + 1) m := by
  rw [marks_succ hg]
  unfold inG
  congr 2
  rw [Bool.eq_iff_iff]
  simp only [decide_eq_true_eq]
  omega
theorem prev_lt {l : List Int} {k i : Nat} {gs : List Gp} (h : GOk l k gs) {g g' : Gp} (h1 : gs[i]? = some g) (h2 : gs[i + 1]? = some g') : g.2.1 + 1 < g'.1 := by
  obtain ⟨l1, e1⟩ := List.getElem?_eq_some_iff.1 h1
  obtain ⟨l2, e2⟩ := List.getElem?_eq_some_iff.1 h2
  have := List.pairwise_iff_getElem.1 h.apart i (i + 1) l1 l2 (Nat.lt_succ_self i)
  rw [e1, e2] at this
  exact this
end Go.Proofs.Ytcalonhphknbbaa

/- The example of the law: parts. -/
namespace Go.Proofs.Ytcalonhphknbbaa
open Go.RowKit

theorem l021 : okL [0, 2, 1] = true := by decide
theorem b021 : rn (wsum isSure [0, 2, 1] 1 (2 * 1 + 1)) (4 ^ 1) = 1 ∧ rd (wsum isSure [0, 2, 1] 1 (2 * 1 + 1)) (4 ^ 1) = 2 ∧ rn (wsum isAny [0, 2, 1] 1 (2 * 1 + 1)) (4 ^ 1) = 3 ∧ rd (wsum isAny [0, 2, 1] 1 (2 * 1 + 1)) (4 ^ 1) = 4 := by decide +kernel
theorem g021 : gAt [0, 2, 1] 3 = [(1, 2, true)] := by decide
set_option maxRecDepth 100000 in
set_option maxHeartbeats 4000000 in
theorem r_part (n d : Nat) (w : World) (hn : n < 9223372036854775808) (hd : d < 9223372036854775808) (h0 : 0 < d) (hg : Nat.gcd n d = 1) :
    Calls Try.prog 17 #[.int .i64 n, .int .i64 d] w fun e w' => ∃ u, e = .returned u ∧ Fq w' u n d ∧ Ext w w' := by
  have h1 := fun w1 => r_Of n d w1 hn hd h0
  rw [hg, Nat.div_one, Nat.div_one] at h1
  go_enter Try.func17, Try.ntmps17
  go_wp2_with (go_at_call 29; (with_reducible refine (h1 _).mono ?_); rintro e w3 ⟨y3, rfl, ⟨y4, y5, rfl, hx, hy⟩, hb3⟩; obtain ⟨ao5, b5, o5, cap5, rfl, -⟩ := hx.view; obtain ⟨ao7, b7, o7, cap7, rfl, -⟩ := hy.view; obtain ⟨_, _, hc3, hf3⟩ := hb3.cells2; have hz3 := hb3.size; (try simp only [World.size_alloc, World.size_setCell] at hz3 hc3 hf3))
  have hnu : NoU (w3.alloc (.cells #[.bool false, .slice ao5 (dig n).length cap5, .bool false, .slice ao7 (dig d).length cap7] 27)) w.heap.size := (NoU.new w _ _ (noU4 (by simp) (by simp) (by simp) (by simp))).ext (by simp) ((by repeat (first | with_reducible exact Ext.refl _ | with_reducible assumption | with_reducible refine Ext.alloc ?_ _ | with_reducible refine Ext.setCell ?_ (by (try simp only [World.size_alloc, World.size_setCell]); omega) _ | with_reducible refine Ext.drewN ?_ _ | with_reducible refine Ext.drew ?_ | with_reducible refine Ext.trans ?_ (by with_reducible assumption))) : Ext (w.alloc (.cells #[.bool false, .slice none 0 0, .bool false, .slice none 0 0] 27)) (w3.alloc (.cells #[.bool false, .slice ao5 (dig n).length cap5, .bool false, .slice ao7 (dig d).length cap7] 27)))
  have hx2 := hx.ext ((Ext.refl w3).alloc (.cells #[.bool false, .slice ao5 (dig n).length cap5, .bool false, .slice ao7 (dig d).length cap7] 27))
  have hy2 := hy.ext ((Ext.refl w3).alloc (.cells #[.bool false, .slice ao5 (dig n).length cap5, .bool false, .slice ao7 (dig d).length cap7] 27))
  refine bodyPost_ret (v := .agg #[.bool false, .slice ao5 (dig n).length cap5, .bool false, .slice ao7 (dig d).length cap7]) ?_ rfl ⟨_, rfl, ⟨_, _, rfl, ?_, ?_⟩, ?_⟩
  · simp [results, Try.results17, go_sem, ↓IntWalk.iteOmega, *]
  · refine Lim.box (Lim.box (Lim.box (Lim.box hx2 ?_) ?_) ?_) ?_ <;> (repeat (first | with_reducible exact hnu | with_reducible refine NoU.set ?_ (fun z e => by cases e)))
  · refine Lim.box (Lim.box (Lim.box (Lim.box hy2 ?_) ?_) ?_) ?_ <;> (repeat (first | with_reducible exact hnu | with_reducible refine NoU.set ?_ (fun z e => by cases e)))
  · repeat (first | with_reducible exact Ext.refl _ | with_reducible assumption | with_reducible refine Ext.alloc ?_ _ | with_reducible refine Ext.setCell ?_ (by (try simp only [World.size_alloc, World.size_setCell]); omega) _ | with_reducible refine Ext.drewN ?_ _ | with_reducible refine Ext.drew ?_ | with_reducible refine Ext.trans ?_ (by with_reducible assumption))

end Go.Proofs.Ytcalonhphknbbaa
