/- Limbs divided: by one limb, or by more. -/
import Derived.Test.YtcalonhphknbbaaJ05
import Derived.Test.YtcalonhphknbbaaJ09
import Derived.Test.YtcalonhphknbbaaJ03
set_option linter.unusedSimpArgs false
set_option linter.unusedVariables false
namespace Go.Proofs.Ytcalonhphknbbaa
open Go.RowKit

theorem w_short (va : Value) (X : List Int) (d : Int) (w : World) (ha : Lim w va X) (hd : 0 < d) (hd2 : d < 4294967296) (hx : X.length ≤ 100000) :
    Calls Try.prog 85 #[va, .int .u32 d] w fun e w' => ∃ u qs r, e = .returned (.tuple #[u, .int .u32 r]) ∧ Lim w' u (trimL qs) ∧ val qs * d + r = val X ∧ 0 ≤ r ∧ r < d ∧ Ext w w' :=
  (callsIn_wide (n := 6)).1 (short_in va X d w ha hd hd2 hx)
theorem lim_one (w : World) (r : Int) (h : U32 r) : Lim (w.alloc (.cells #[.int .u32 r] 81)) (.slice (some ⟨w.heap.size, 0, none⟩) 1 1) [r] :=
  ⟨Lb.cons h Lb.nil, Or.inr ⟨_, 0, 1, rfl, Nat.le_refl _, ⟨by decide, by simp⟩, by simp, fun i hi => by
    rw [cell_al, if_pos rfl]
    match i, hi with
    | 0, _ => rfl
    | i + 1, hi => exact absurd hi (by simp)⟩⟩
/-- What a division leaves. -/
def DivPost (X Y : List Int) (w : World) : Ending → World → Prop := fun e w' => ∃ u v qs rs, e = .returned (.tuple #[u, v]) ∧ Lim w' u qs ∧ Lim w' v rs ∧ Nz qs ∧ Nz rs ∧ val qs * val Y + val rs = val X ∧ val rs < val Y ∧ Ext w w'
set_option maxRecDepth 100000 in
set_option maxHeartbeats 4000000 in
theorem w_divide (va vb : Value) (X Y : List Int) (w : World) (ha : Lim w va X) (hb0 : Lim w vb Y) (hX : Nz X) (hY : Nz Y) (hx : X.length ≤ 100000) (h1 : val X < val Y ∨ Y.length = 1) :
    Calls Try.prog 80 #[va, vb] w (DivPost X Y w) := by
  have hcm := w_compare va vb X Y w ha hb0 hX hY
  by_cases hlt : val X < val Y
  · rw [cmp_lt hlt] at hcm
    have hcl := fun w1 (k : Ext w w1) => w_Clone va X w1 (ha.ext k) hx
    go_enter Try.func80, Try.ntmps80
    go_wp2_with (first
      | (go_at_call 74; (with_reducible refine hcm.mono ?_); rintro e w1 ⟨rfl, hb⟩)
      | (go_at_call 79; (with_reducible refine (hcl _ hb).mono ?_); rintro e w2 ⟨u, rfl, hu, hb2⟩))
    go_ret2
    exact ⟨_, _, [], X, rfl, Lim.nil _, hu, Nz.nil, hX, by simp [val], hlt, hb.trans hb2⟩
  · have hn : Y.length = 1 := h1.resolve_left hlt
    obtain ⟨d, rfl⟩ : ∃ d, Y = [d] := List.length_eq_one_iff.1 hn
    have hd0 : d ≠ 0 := hY d rfl
    have hdU := hb0.lb.head
    have hvd : val [d] = d := by simp [val]
    have hc0 : decide (cmpI (val X) (val [d]) < 0) = false := decide_eq_false (by unfold cmpI; rw [if_neg hlt]; split <;> omega)
    obtain ⟨c, ec⟩ : ∃ c, cmpI (val X) (val [d]) = c := ⟨_, rfl⟩
    rw [ec] at hcm hc0
    obtain ⟨bo, b2, o2, cap2, rfl, y1, y2, y3, y4, y5, y6⟩ := hb0.view
    have e := y1 (by simp)
    subst e
    have hcell := y5 0 (by simp)
    simp only [List.getD_cons_zero, Nat.add_zero] at hcell
    have hbl := y4 (by simp)
    simp only [List.length_cons, List.length_nil, Nat.zero_add] at hcm ⊢
    have hsh := fun w1 (k : Ext w w1) => w_short va X d w1 (ha.ext k) (by omega) hdU.2 hx
    clear ec y5 y4 y1
    go_enter Try.func80, Try.ntmps80
    go_upto_region 6 with (first
      | (go_at_call 74; (with_reducible refine hcm.mono ?_); rintro e w1 ⟨rfl, hb⟩; have hc1 := (hb.cells.1 b2 o2 hbl).trans hcell)
      | (go_at_call 85; (with_reducible refine (hsh _ hb).mono ?_); rintro e w2 ⟨u, qs, r, rfl, hu, hval, r0, r1, hb2⟩))
    have hL1 := lim_one w2 r ⟨r0, by unfold BB at hdU; omega⟩
    go_wp2_with (go_at_call 71; (with_reducible refine (w_trim _ [r] _ hL1).mono ?_); rintro e w3 ⟨v, rfl, hv, hb3⟩)
    go_ret2
    refine ⟨_, _, trimL qs, trimL [r], rfl, hu.ext (((Ext.refl _).alloc _).trans hb3), hv, trim_nz _, trim_nz _, ?_, ?_, hb.trans (hb2.trans (((Ext.refl _).alloc _).trans hb3))⟩
    · rw [val_trim, val_trim, hvd]; simpa [val] using hval
    · rw [val_trim, hvd]; simpa [val] using r1

end Go.Proofs.Ytcalonhphknbbaa

/- The common divisor: what its rounds do; limbs read as a number. -/
namespace Go.Proofs.Ytcalonhphknbbaa
open Go.RowKit

def cellZ (w : World) (b o : Nat) : Int := match w.cell? ⟨b, o, none⟩ with
  | some (.int _ z) => z
  | _ => 0
/-- What the limbs of a slice are worth, as a measure. -/
def lmeas (w : World) (v : Value) : Nat := match v with
  | .slice (some a) n _ => (val ((List.range n).map fun i => cellZ w a.block (a.off + i))).toNat
  | _ => 0
theorem Lim.meas {w : World} {v : Value} {m : Nat} (h : Lim w v (dig m)) : lmeas w v = m := by
  rcases h.2 with ⟨rfl, e⟩ | ⟨b, o, cap, rfl, h1, h2, h3, h4⟩
  · rw [dig_nil] at e; subst e; rfl
  · show (val ((List.range (dig m).length).map fun i => cellZ w b (o + i))).toNat = m
    have : (List.range (dig m).length).map (fun i => cellZ w b (o + i)) = dig m := by
      apply List.ext_getElem
      · simp
      · intro i hi1 hi2
        rw [List.getElem_map, List.getElem_range]
        unfold cellZ
        rw [h4 i hi2, List.getD_eq_getElem?_getD, List.getElem?_eq_getElem hi2]
        rfl
    rw [this, dig_val]; simp
theorem dig_len1 {m : Nat} (h : m < 4294967296) (h0 : 0 < m) : (dig m).length = 1 := by
  have h1 := dig_pos.2 h0
  rcases Nat.lt_or_ge 1 (dig m).length with h2 | h2
  · have h3 := val_pos (dig_lb m) (dig_nz m) (by intro e; rw [e] at h1; simp at h1)
    have h4 := bb_mono (show 1 ≤ (dig m).length - 1 from by omega)
    rw [dig_val] at h3
    have h5 : BB ^ 1 = 4294967296 := by decide
    omega
  · omega
theorem dig_mono {a b : Nat} (h : a ≤ b) : (dig a).length ≤ (dig b).length := by
  rcases Nat.lt_or_ge (dig b).length (dig a).length with h1 | h1
  · have := val_lt_of_len (dig_lb b) (dig_lb a) (dig_nz a) h1
    rw [dig_val, dig_val] at this
    omega
  · exact h1
theorem dig_short {m : Nat} (h : m < 4294967296) : (dig m).length ≤ 100000 := by
  have := dig_len2 (m := m) (by omega)
  omega
/-- Quotient and rest are known by what they are worth. -/
theorem div_dig {a b : Nat} {qs rs : List Int} (lq : Lb qs) (lr : Lb rs) (nq : Nz qs) (nr : Nz rs) (h : val qs * val (dig b) + val rs = val (dig a)) (h2 : val rs < val (dig b)) : qs = dig (a / b) ∧ rs = dig (a % b) := by
  rw [dig_val, dig_val] at h
  rw [dig_val] at h2
  have r0 := val_nonneg lr
  have hb : (0 : Int) < b := by omega
  have e1 : ((a : Int) / b) = val qs := by
    rw [← h]
    rw [Int.add_comm, Int.add_mul_ediv_right _ _ (by omega), Int.ediv_eq_zero_of_lt r0 h2, Int.zero_add]
  have e2 : ((a : Int) % b) = val rs := by
    rw [← h, Int.add_comm, Int.add_mul_emod_self_right, Int.emod_eq_of_lt r0 h2]
  exact ⟨eq_dig lq nq (by rw [← e1]; exact (Int.natCast_ediv a b).symm), eq_dig lr nr (by rw [← e2]; exact (Int.natCast_emod a b).symm)⟩
end Go.Proofs.Ytcalonhphknbbaa

/- Rows of limbs with room behind them, that the call itself has made. -/
namespace Go.Proofs.Ytcalonhphknbbaa
open Go.RowKit

/-- The slice (block g, from its start, n limbs, room for cap) has the limbs xs; the block is the call's own. -/
def O32 (w : World) (base g n cap : Nat) (xs : List Int) : Prop := w.ownsRow base 81 1 (.slice (some ⟨g, 0, none⟩) n cap) n (xs.map (.int .u32))
theorem R32.own {w : World} {base g n : Nat} {xs : List Int} (h : R32 w base g n xs) : O32 w base g n n xs := h
theorem O32.len {w : World} {base g n cap : Nat} {xs : List Int} (h : O32 w base g n cap xs) : xs.length = n := by have := h.1; simpa using this
theorem O32.parts {w : World} {base g n cap : Nat} {xs : List Int} (h : O32 w base g n cap xs) : g < w.heap.size ∧ base ≤ g ∧ n ≤ cap ∧ cap ≤ 9223372036854775807 := by
  rcases h.2 with ⟨e, _⟩ | ⟨g', cap', cur, hv, hb, hg, hnc, hcm, _⟩
  · cases e
  · cases hv; exact ⟨(Array.getElem?_eq_some_iff.1 hg).1, hb, hnc, hcm⟩
theorem O32.cell {w : World} {base g n cap : Nat} {xs : List Int} (h : O32 w base g n cap xs) {k : Nat} (hk : k < n) : w.cell? ⟨g, k, none⟩ = some (.int .u32 (xs.getD k 0)) := by
  have hl := h.len
  rw [World.ownsRow.cellAt h k (by omega)]
  simp [List.getElem?_map, List.getD_eq_getElem?_getD, List.getElem?_eq_getElem (show k < xs.length by omega)]
theorem O32.frozen {w : World} {base g n cap : Nat} {xs : List Int} (h : O32 w base g n cap xs) (k : Nat) : w.frozen? ⟨g, k, none⟩ = false := World.ownsRow.frozenAt h k
theorem O32.set {w : World} {base g n cap : Nat} {xs : List Int} (h : O32 w base g n cap xs) (k : Nat) (z : Int) : O32 (w.setCell ⟨g, k, none⟩ (.int .u32 z)) base g n cap (xs.set k z) := by
  have := (World.ownsRow.stored h k (.int .u32 z)).1
  unfold O32
  rw [List.map_set]; exact this
theorem O32.alloc {w : World} {base g n cap : Nat} {xs : List Int} (h : O32 w base g n cap xs) (o : Obj) : O32 (w.alloc o) base g n cap xs := World.ownsRow.alloc h o
theorem O32.ext {a w : World} {base g n cap : Nat} {xs : List Int} (h : O32 a base g n cap xs) (k : Ext a w) : O32 w base g n cap xs :=
  World.ownsRow.kept (row := none) h ⟨k.os, k.tape, k.output, k.size, fun i hi _ => k.block i hi⟩ (Or.inr (by simp [Value.ownBlock]))
theorem O32.lim {w : World} {base g n cap : Nat} {xs : List Int} (h : O32 w base g n cap xs) (hl : Lb xs) (hn : n ≤ 1099511627776) : Lim w (.slice (some ⟨g, 0, none⟩) n cap) xs := Lim.own h hl hn
theorem O32.take {w : World} {base g n cap : Nat} {xs : List Int} (h : O32 w base g n cap xs) (k : Nat) (hk : k ≤ n) : O32 w base g k cap (xs.take k) := by
  have hl := h.len
  refine ⟨by simp [List.length_take]; omega, ?_⟩
  rcases h.2 with ⟨e, _⟩ | ⟨g', cap', cur, hv, hb, hg, hnc, hcm, hcs, ht⟩
  · cases e
  · cases hv
    refine Or.inr ⟨g, cap, cur, rfl, hb, hg, by omega, hcm, hcs, ?_⟩
    rw [List.map_take, ← ht, List.take_take, Nat.mul_one, Nat.min_eq_left (by omega)]
/-- A store into another block. -/
theorem O32.other {w : World} {base g n cap : Nat} {xs : List Int} (h : O32 w base g n cap xs) {B j : Nat} (x : Value) (hB : B ≠ g) : O32 (w.setCell ⟨B, j, none⟩ x) base g n cap xs := by
  refine ⟨h.1, ?_⟩
  rcases h.2 with ⟨e, _⟩ | ⟨g', cap', cur, hv, hb, hg, hnc, hcm, hcs, ht⟩
  · cases e
  · cases hv
    refine Or.inr ⟨g, cap, cur, rfl, hb, ?_, hnc, hcm, hcs, ht⟩
    simp only [World.setCell]
    rw [Array.getElem?_modify, if_neg hB]; exact hg
theorem O32.base {w : World} {base base' g n cap : Nat} {xs : List Int} (h : O32 w base g n cap xs) (hb : base' ≤ g) : O32 w base' g n cap xs := by
  refine ⟨h.1, ?_⟩
  rcases h.2 with ⟨e, _⟩ | ⟨g', cap', cur, hv, _, hg, hnc, hcm, hcs, ht⟩
  · cases e
  · cases hv
    exact Or.inr ⟨g, cap, cur, rfl, hb, hg, hnc, hcm, hcs, ht⟩
/-- Old blocks are kept where one of the call's own blocks changes. -/
theorem Ext.grownAt {a w w' : World} {g : Nat} (h : Ext a w) (k : w.grownBy w' (some g)) (hg : a.heap.size ≤ g) : Ext a w' := Below.grown h k h.size (fun _ e => by cases e; exact hg)
theorem O32.grownAt {w w' : World} {base g n cap g2 : Nat} {xs : List Int} (h : O32 w base g n cap xs) (k : w.grownBy w' (some g2)) (hg : g2 ≠ g) : O32 w' base g n cap xs :=
  World.ownsRow.kept h k (Or.inr (by simpa [Value.ownBlock] using fun e => hg e.symm))
/-- 'make' with a length and a capacity. -/
theorem wpList_make_lc {P : Program} (w : World) {ops : Array Oper} {rest : List Oper} {o : Oper} {a : Act} {Q : Exit → Act → World → Prop}
    (hg : o.guard = none) (l c : Operand) (t : TypeId) (hop : o.op = Op.makeSlice t l c)
    (base : Nat) (e : TypeId) (i : TypeInfo) (z : Value) (size : Nat) (h1 : P.underlying t = some (.slice e)) (h2 : P.info? e = some i) (h3 : i.zero = some z) (h4 : i.size = size)
    (kl kc : IntKind) (L C : Int) (n m : Nat) (hl : a.eval l = .int kl L) (hc : a.eval c = .int kc C) (hL : L = (n : Int)) (hC : C = (m : Int)) (hnm : n ≤ m) (b2 : i.bytes * m ≤ 281474976710656) (b3 : m ≤ maxLen) (b4 : base ≤ w.heap.size)
    (hK : ∀ w', w'.ownsRow base e size (.slice (some ⟨w.heap.size, 0, none⟩) n m) n ((madeCells z.cells (m * size)).toList.take (n * size)) → w.grownBy w' none → wpList P ops Q rest (a.put o.dst (.slice (some ⟨w.heap.size, 0, none⟩) n m)) w') :
    wpList P ops Q (o :: rest) a w := by
  subst h4
  have h63 : (m : Int) ≤ 9223372036854775807 := by have h := b3; simp [maxLen] at h; omega
  have hb' : (i.bytes : Int) * (m : Int) ≤ 281474976710656 := by
    have h : ((i.bytes * m : Nat) : Int) ≤ 281474976710656 := by omega
    rwa [Int.natCast_mul] at h
  have hr := run_make (P := P) w t e i z h1 h2 h3 kl kc n m (by omega) (by omega) hb' h63
  simp only [Int.toNat_natCast] at hr
  subst hL
  subst hC
  refine wpList_plain hg fun K hK' => ?_
  unfold Oper.wp
  simp [execOp, hop, hl, hc, hr, Result.andThen]
  refine hK' _ _ (hK _ ?_ (World.grownBy_alloc w _ none))
  refine ⟨?_, Or.inr ⟨w.heap.size, m, _, rfl, b4, heap_alloc_new w _, hnm, b3, size_madeCells _ _, rfl⟩⟩
  rw [List.length_take, Array.length_toList, size_madeCells]
  exact Nat.min_eq_left (Nat.mul_le_mul_right _ hnm)
theorem O32.made {w : World} {base g n m : Nat} (hnm : n ≤ m) (h : w.ownsRow base 81 1 (.slice (some ⟨g, 0, none⟩) n m) n ((madeCells (Value.int .u32 0).cells (m * 1)).toList.take (n * 1))) : O32 w base g n m (List.replicate n 0) := by
  unfold O32
  have e : (madeCells (Value.int .u32 0).cells (m * 1)).toList.take (n * 1) = (List.replicate n (0 : Int)).map (Value.int .u32) := by
    rw [Nat.mul_one, Nat.mul_one, List.map_replicate, show (madeCells (Value.int .u32 0).cells m).toList = List.replicate m (Value.int .u32 0) from toList_madeCells_one _ _, List.take_replicate, Nat.min_eq_left hnm]
  rw [← e]; exact h
theorem O32.appended {w : World} {base g n cap : Nat} {xs : List Int} {z : Int} (h : w.ownsRow base 81 1 (.slice (some ⟨g, 0, none⟩) (n + 1) cap) (n + 1) (xs.map (.int .u32) ++ [.int .u32 z])) : O32 w base g (n + 1) cap (xs ++ [z]) := by
  unfold O32; rw [List.map_append]; exact h
end Go.Proofs.Ytcalonhphknbbaa
