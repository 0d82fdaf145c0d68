/- Slices of limbs in memory. -/
import Derived.Test.YtcalonhphknbbaaJ01
import Derived.OwnWalk
import Derived.Deep.QuietTactic
import Derived.Laws.BitsAllLaws
set_option linter.unusedSimpArgs false
set_option linter.unusedVariables false
namespace Go.Proofs.Ytcalonhphknbbaa
open Go.RowKit

/-- The slice value v has the limbs xs. -/
def Lim (w : World) (v : Value) (xs : List Int) : Prop :=
  Lb xs ∧ ((v = .slice none 0 0 ∧ xs = []) ∨
    ∃ b o cap, v = .slice (some ⟨b, o, none⟩) xs.length cap ∧ xs.length ≤ cap ∧ (cap ≤ 9223372036854775807 ∧ xs.length ≤ 1099511627776) ∧ b < w.heap.size ∧ ∀ i, i < xs.length → w.cell? ⟨b, o + i, none⟩ = some (.int .u32 (xs.getD i 0)))
theorem Lim.lb {w : World} {v : Value} {xs : List Int} (h : Lim w v xs) : Lb xs := h.1
theorem Lim.ext {a w : World} {v : Value} {xs : List Int} (h : Lim a v xs) (k : Ext a w) : Lim w v xs := by
  refine ⟨h.1, ?_⟩
  rcases h.2 with h | ⟨b, o, cap, hv, h1, h2, h3, h4⟩
  · exact Or.inl h
  · exact Or.inr ⟨b, o, cap, hv, h1, h2, Nat.lt_of_lt_of_le h3 k.size, fun i hi => (k.cells.1 b (o + i) h3).trans (h4 i hi)⟩
theorem Lim.nil (w : World) : Lim w (.slice none 0 0) [] := ⟨Lb.nil, Or.inl ⟨rfl, rfl⟩⟩
/-- One view of both: an address that is asked only where there is a limb. -/
theorem Lim.view {w : World} {v : Value} {xs : List Int} (h : Lim w v xs) : ∃ (ao : Option Addr) (b o cap : Nat), v = .slice ao xs.length cap ∧ (0 < xs.length → ao = some ⟨b, o, none⟩) ∧ xs.length ≤ cap ∧ cap ≤ 9223372036854775807 ∧ (0 < xs.length → b < w.heap.size) ∧
    (∀ i, i < xs.length → w.cell? ⟨b, o + i, none⟩ = some (.int .u32 (xs.getD i 0))) ∧ xs.length ≤ 1099511627776 := by
  rcases h.2 with ⟨rfl, rfl⟩ | ⟨b, o, cap, hv, h1, h2, h3, h4⟩
  · exact ⟨none, 0, 0, 0, rfl, fun h => absurd h (by simp), Nat.le_refl _, by omega, fun h => absurd h (by simp), fun i h => absurd h (by simp), by simp⟩
  · exact ⟨some ⟨b, o, none⟩, b, o, cap, hv, fun _ => rfl, h1, h2.1, fun _ => h3, h4, h2.2⟩
theorem take_getD {xs : List Int} {k i : Nat} (h : i < k) : (xs.take k).getD i 0 = xs.getD i 0 := by
  simp [List.getD_eq_getElem?_getD, List.getElem?_take, h]
theorem Lim.take {w : World} {xs : List Int} {b o cap : Nat} (h : Lim w (.slice (some ⟨b, o, none⟩) xs.length cap) xs) (k : Nat) (hk : k ≤ xs.length) : Lim w (.slice (some ⟨b, o, none⟩) k cap) (xs.take k) := by
  refine ⟨h.1.take k, ?_⟩
  rcases h.2 with ⟨e, _⟩ | ⟨b', o', cap', hv, h1, h2, h3, h4⟩
  · cases e
  · cases hv
    refine Or.inr ⟨b, o, cap, by rw [List.length_take, Nat.min_eq_left hk], by rw [List.length_take]; omega, ⟨h2.1, by rw [List.length_take]; omega⟩, h3, fun i hi => ?_⟩
    have hi' : i < k := by rw [List.length_take] at hi; omega
    rw [take_getD hi']; exact h4 i (by omega)
theorem take_succ_getD {xs : List Int} {k : Nat} (h : k < xs.length) : xs.take (k + 1) = xs.take k ++ [xs.getD k 0] := by
  rw [List.take_add_one, List.getD_eq_getElem?_getD, List.getElem?_eq_getElem h]; simp
theorem trim_step {xs : List Int} {k : Nat} (h : k < xs.length) (h0 : xs.getD k 0 = 0) : trimL (xs.take (k + 1)) = trimL (xs.take k) := by
  rw [take_succ_getD h, h0, trim_snoc]
theorem trim_stop {xs : List Int} {k : Nat} (h : k < xs.length) (h0 : ¬ xs.getD k 0 = 0) : trimL (xs.take (k + 1)) = xs.take (k + 1) := by
  rw [take_succ_getD h, trim_snoc_ne _ h0]
/-- A row that the call owns, as limbs. -/
theorem Lim.own {w : World} {base e g n cap : Nat} {xs : List Int} (h : w.ownsRow base e 1 (.slice (some ⟨g, 0, none⟩) n cap) n (xs.map (.int .u32))) (hl : Lb xs) (hc : n ≤ 1099511627776) : Lim w (.slice (some ⟨g, 0, none⟩) n cap) xs := by
  have hn : xs.length = n := by have := h.1; simpa using this
  have h2 := h.2
  rcases h2 with ⟨e, _⟩ | ⟨g', cap', cur, hv, hb, hg, hnc, hcm, hcs, ht⟩
  · cases e
  · cases hv
    subst hn
    refine ⟨hl, Or.inr ⟨g, 0, cap, rfl, hnc, ⟨hcm, hc⟩, (Array.getElem?_eq_some_iff.1 hg).1, fun i hi => ?_⟩⟩
    rw [Nat.zero_add, h.cellAt i (by omega)]
    simp [List.getElem?_map, List.getD_eq_getElem?_getD, List.getElem?_eq_getElem hi]
theorem Lim.own' {w : World} {base e n : Nat} {v : Value} {xs : List Int} (h : w.ownsRow base e 1 v n (xs.map (.int .u32))) (hl : Lb xs) (hc : n ≤ 1099511627776) : Lim w v xs := by
  rcases h.2 with ⟨e1, e2⟩ | ⟨g', cap', cur, hv, _⟩
  · have hx : xs = [] := by have := h.1; rw [e2] at this; simpa using this
    subst hx; subst e1; exact Lim.nil w
  · subst hv; exact Lim.own h hl hc
/-- A number with its sign. -/
def sg (neg : Bool) (m : Nat) : Int := if neg then -(m : Int) else m
/-- The value v is the whole number n. -/
def Wid (w : World) (v : Value) (n : Int) : Prop := ∃ u, v = .agg #[.bool (decide (n < 0)), u] ∧ Lim w u (dig n.natAbs)
theorem Wid.ext {a w : World} {v : Value} {n : Int} (h : Wid a v n) (k : Ext a w) : Wid w v n := by
  obtain ⟨u, e, hu⟩ := h; exact ⟨u, e, hu.ext k⟩
theorem dig_nil {m : Nat} : dig m = [] ↔ m = 0 := by
  constructor
  · intro h; have := dig_val m; rw [h] at this; simp only [val] at this; omega
  · rintro rfl; rfl
theorem dig_pos {m : Nat} : 0 < (dig m).length ↔ 0 < m := by
  have := dig_nil (m := m)
  constructor
  · intro h; rcases Nat.eq_zero_or_pos m with e | e
    · rw [this.2 e] at h; simp at h
    · exact e
  · intro h; rcases Nat.eq_zero_or_pos (dig m).length with e | e
    · have := this.1 (List.length_eq_zero_iff.1 e); omega
    · exact e
theorem sg_neg (neg : Bool) (m : Nat) : decide (sg neg m < 0) = (neg && decide (0 < (dig m).length)) := by
  have := dig_pos (m := m)
  cases neg <;> simp [sg, this] <;> omega
theorem sg_abs (neg : Bool) (m : Nat) : (sg neg m).natAbs = m := by cases neg <;> simp [sg]
theorem Wid.mk {w : World} {u : Value} {neg : Bool} {m : Nat} (h : Lim w u (dig m)) : Wid w (.agg #[.bool (neg && decide (0 < (dig m).length)), u]) (sg neg m) :=
  ⟨u, by rw [sg_neg], by rw [sg_abs]; exact h⟩
theorem Wid.mk' {w : World} {u : Value} {b neg : Bool} {m : Nat} (h : Lim w u (dig m)) (hb : b = (neg && decide (0 < (dig m).length))) : Wid w (.agg #[.bool b, u]) (sg neg m) := hb ▸ Wid.mk h
theorem results_cell_tmp {P : Program} {fn : Func} {tmps : Array Value} {w : World} {t s : Tmp} {ty : TypeId} {v u : Value} {a : Addr} (h : fn.results = #[.cell t ty, .tmp s])
    (hp : tmps[t]?.getD undef = .pointer (some a)) (hu : tmps[s]?.getD undef = u) (hl : (loadVar ty a).run P w = .ok v w) : (results fn tmps).run P w = .ok (.tuple #[v, u]) w := by
  unfold results
  rw [h]
  generalize hm : loadVar ty a = m at hl
  simp [hp, hu, asAddr]
  rw [hm, hl]; rfl
theorem results_cell {P : Program} {fn : Func} {tmps : Array Value} {w : World} {t : Tmp} {ty : TypeId} {v : Value} {a : Addr} (h : fn.results = #[.cell t ty])
    (hp : tmps[t]?.getD undef = .pointer (some a)) (hl : (loadVar ty a).run P w = .ok v w) : (results fn tmps).run P w = .ok v w := by
  unfold results
  rw [h]
  generalize hm : loadVar ty a = m at hl
  simp [hp, asAddr, hl]
  rw [hm, hl]
/-- A block that has no limb. -/
def NoU (w : World) (B : Nat) : Prop := ∀ o z, w.cell? ⟨B, o, none⟩ ≠ some (.int .u32 z)
theorem NoU.ext {a w : World} {B : Nat} (h : NoU a B) (hB : B < a.heap.size) (k : Ext a w) : NoU w B := fun o z e => h o z ((k.cells.1 B o hB).symm.trans e)
theorem NoU.set {w : World} {B B' j : Nat} {x : Value} (h : NoU w B) (hx : ∀ z, x ≠ .int .u32 z) : NoU (w.setCell ⟨B', j, none⟩ x) B := fun o z e => by
  rw [cell_sc] at e
  split at e
  · cases hc : w.cell? ⟨B', j, none⟩ with
    | none => rw [hc] at e; cases e
    | some y => rw [hc] at e; exact hx z (by simpa using e)
  · exact h o z e
theorem NoU.alloc {w : World} {B : Nat} (h : NoU w B) (hB : B < w.heap.size) (c : Array Value) (t : TypeId) : NoU (w.alloc (.cells c t)) B := fun o z e => by
  rw [cell_al, if_neg (by omega)] at e; exact h o z e
theorem NoU.new (w : World) (c : Array Value) (t : TypeId) (hc : ∀ (o : Nat) z, c[o]? ≠ some (.int .u32 z)) : NoU (w.alloc (.cells c t)) w.heap.size := fun o z e => by
  rw [cell_al, if_pos rfl] at e; exact hc o z e
theorem noU1 {a : Value} (ha : ∀ z, a ≠ .int .u32 z) (o : Nat) (z : Int) : (#[a] : Array Value)[o]? ≠ some (.int .u32 z) := by
  match o with
  | 0 => simpa using ha z
  | o + 1 => simp
theorem noU2 {a b : Value} (ha : ∀ z, a ≠ .int .u32 z) (hb : ∀ z, b ≠ .int .u32 z) (o : Nat) (z : Int) : (#[a, b] : Array Value)[o]? ≠ some (.int .u32 z) := by
  match o with
  | 0 => simpa using ha z
  | 1 => simpa using hb z
  | o + 2 => simp
theorem noU4 {a b c d : Value} (ha : ∀ z, a ≠ .int .u32 z) (hb : ∀ z, b ≠ .int .u32 z) (hc : ∀ z, c ≠ .int .u32 z) (hd : ∀ z, d ≠ .int .u32 z) (o : Nat) (z : Int) : (#[a, b, c, d] : Array Value)[o]? ≠ some (.int .u32 z) := by
  match o with
  | 0 => simpa using ha z
  | 1 => simpa using hb z
  | 2 => simpa using hc z
  | 3 => simpa using hd z
  | o + 4 => simp
/-- A store into a block that has no limb. -/
theorem Lim.box {w : World} {v : Value} {xs : List Int} {B j : Nat} {x : Value} (h : Lim w v xs) (hB : NoU w B) : Lim (w.setCell ⟨B, j, none⟩ x) v xs := by
  refine ⟨h.1, ?_⟩
  rcases h.2 with h | ⟨b, o, cap, hv, h1, h2, h3, h4⟩
  · exact Or.inl h
  · refine Or.inr ⟨b, o, cap, hv, h1, h2, by simpa using h3, fun i hi => ?_⟩
    rw [cell_sc, if_neg]
    · exact h4 i hi
    · intro e
      have hc := h4 i hi
      have : b = B := by have := congrArg Addr.block e; simpa using this
      rw [this] at hc
      exact hB _ _ hc
theorem Lim.alloc {w : World} {v : Value} {xs : List Int} (h : Lim w v xs) (o : Obj) : Lim (w.alloc o) v xs := h.ext ((Ext.refl w).alloc o)
theorem Wid.box {w : World} {v : Value} {n : Int} {B j : Nat} {x : Value} (h : Wid w v n) (hB : NoU w B) : Wid (w.setCell ⟨B, j, none⟩ x) v n := by
  obtain ⟨u, e, hu⟩ := h; exact ⟨u, e, hu.box hB⟩
/-- The value v is the natural number m. -/
def Nn (w : World) (v : Value) (m : Nat) : Prop := ∃ u, v = .agg #[.bool false, u] ∧ Lim w u (dig m)
theorem Nn.ext {a w : World} {v : Value} {m : Nat} (h : Nn a v m) (k : Ext a w) : Nn w v m := by
  obtain ⟨u, e, hu⟩ := h; exact ⟨u, e, hu.ext k⟩
theorem Nn.box {w : World} {v : Value} {m : Nat} {B j : Nat} {x : Value} (h : Nn w v m) (hB : NoU w B) : Nn (w.setCell ⟨B, j, none⟩ x) v m := by
  obtain ⟨u, e, hu⟩ := h; exact ⟨u, e, hu.box hB⟩
end Go.Proofs.Ytcalonhphknbbaa

/- Limbs: without the zeros at the end; made numbers. -/
namespace Go.Proofs.Ytcalonhphknbbaa
open Go.RowKit

set_option maxRecDepth 100000 in
set_option maxHeartbeats 1000000 in
theorem w_trim (v : Value) (xs : List Int) (w : World) (h : Lim w v xs) :
    Calls Try.prog 71 #[v] w fun e w' => ∃ u, e = .returned u ∧ Lim w' u (trimL xs) ∧ Ext w w' := by
  have hlb := h.lb
  rcases h.2 with ⟨rfl, rfl⟩ | ⟨b, o, cap, rfl, h1, h2, h3, h4⟩
  · go_enter Try.func71, Try.ntmps71
    go_wp2
    refine wp_loop_rounds 1 ?_
    rw [rounds_succ]
    go_wp2
    go_ret
    exact ⟨_, rfl, Lim.nil w, Ext.refl w⟩
  · go_enter Try.func71, Try.ntmps71
    go_wp2
    go_loop [3] (fun i => ∃ k : Nat, k ≤ xs.length ∧ i = .int .i64 k ∧ trimL (xs.take k) = trimL xs) (fun i => (intOf i).toNat)
    case atStart => exact ⟨xs.length, Nat.le_refl _, rfl, by rw [List.take_length]⟩
    case round =>
      obtain ⟨k, hk, rfl, ht⟩ := hrel
      cases k with
      | zero =>
        go_wp2
        go_ret
        have e : trimL xs = [] := by rw [← ht]; rfl
        rw [e]
        exact ⟨_, rfl, ⟨Lb.nil, Or.inr ⟨b, o, cap, rfl, Nat.zero_le _, ⟨h2.1, Nat.zero_le _⟩, h3, fun i hi => absurd hi (by simp)⟩⟩, Ext.refl w⟩
      | succ k =>
        have hck := h4 k (by omega)
        by_cases h0 : xs.getD k 0 = 0
        · rw [h0] at hck
          go_wp2
          go_round
          case rel => exact ⟨k, by omega, by go_num, by rw [← ht]; exact (trim_step (by omega) h0).symm⟩
          case measure => simp [intOf]
        · have e : trimL xs = xs.take (k + 1) := ht.symm.trans (trim_stop (by omega) h0)
          have L := h.take (k + 1) hk
          obtain ⟨z, hz⟩ : ∃ z, xs.getD k 0 = z := ⟨_, rfl⟩
          rw [hz] at hck h0
          go_wp2
          go_ret

          exact ⟨_, rfl, L, Ext.refl w⟩

set_option maxRecDepth 100000 in
set_option maxHeartbeats 1000000 in
theorem w_made (neg : Bool) (v : Value) (xs : List Int) (m : Nat) (w : World) (h : Lim w v xs) (hm : val xs = m) (hl : (dig m).length ≤ 4096) :
    Calls Try.prog 55 #[.bool neg, v] w fun e w' => ∃ u, e = .returned (.tuple #[u, .int .i64 0]) ∧ Wid w' u (sg neg m) ∧ Ext w w' := by
  have ht := trim_dig h.lb hm
  have hk := w_trim v xs
  rw [ht] at hk
  clear ht hm
  generalize hd : dig m = ds at hk hl
  cases neg with
  | false =>
    go_enter Try.func55, Try.ntmps55
    go_wp2_with (go_at_call 71; (with_reducible refine (hk _ (h.ext (by repeat (first | with_reducible exact Ext.refl _ | with_reducible assumption | with_reducible refine Ext.alloc ?_ _ | with_reducible refine Ext.setCell ?_ (by (try simp only [World.size_alloc, World.size_setCell]); omega) _ | with_reducible refine Ext.drewN ?_ _ | with_reducible refine Ext.drew ?_ | with_reducible refine Ext.trans ?_ (by with_reducible assumption))))).mono ?_); rintro e w1 ⟨u, rfl, hu, hb⟩; obtain ⟨ao, b1, o1, cap1, rfl, v1, v2, v3, v4, v5, v6⟩ := hu.view; obtain ⟨_, _, hc, hf⟩ := hb.cells2; have hz := hb.size; (try simp only [World.size_alloc, World.size_setCell] at hz hc hf))
    have hB : NoU w1 w.heap.size := (NoU.new w _ _ (noU2 (by simp) (by simp))).ext (by simp) hb
    refine bodyPost_ret (v := .tuple #[.agg #[.bool (false && decide (0 < ds.length)), .slice ao ds.length cap1], .int .i64 0]) ?_ rfl ⟨_, rfl, ?_, ?_⟩
    · simp [results, Try.results55, go_sem, ↓IntWalk.iteOmega, *]
    · refine Wid.mk' ?_ (by rw [hd])
      rw [hd]
      exact Lim.box (Lim.box hu hB) (NoU.set hB (fun z e => by cases e))
    · repeat (first | with_reducible exact Ext.refl _ | with_reducible assumption | with_reducible refine Ext.alloc ?_ _ | with_reducible refine Ext.setCell ?_ (by (try simp only [World.size_alloc, World.size_setCell]); omega) _ | with_reducible refine Ext.drewN ?_ _ | with_reducible refine Ext.drew ?_ | with_reducible refine Ext.trans ?_ (by with_reducible assumption))
  | true =>
    go_enter Try.func55, Try.ntmps55
    go_wp2_with (go_at_call 71; (with_reducible refine (hk _ (h.ext (by repeat (first | with_reducible exact Ext.refl _ | with_reducible assumption | with_reducible refine Ext.alloc ?_ _ | with_reducible refine Ext.setCell ?_ (by (try simp only [World.size_alloc, World.size_setCell]); omega) _ | with_reducible refine Ext.drewN ?_ _ | with_reducible refine Ext.drew ?_ | with_reducible refine Ext.trans ?_ (by with_reducible assumption))))).mono ?_); rintro e w1 ⟨u, rfl, hu, hb⟩; obtain ⟨ao, b1, o1, cap1, rfl, v1, v2, v3, v4, v5, v6⟩ := hu.view; obtain ⟨_, _, hc, hf⟩ := hb.cells2; have hz := hb.size; (try simp only [World.size_alloc, World.size_setCell] at hz hc hf))
    have hB : NoU w1 w.heap.size := (NoU.new w _ _ (noU2 (by simp) (by simp))).ext (by simp) hb
    refine bodyPost_ret (v := .tuple #[.agg #[.bool (true && decide (0 < ds.length)), .slice ao ds.length cap1], .int .i64 0]) ?_ rfl ⟨_, rfl, ?_, ?_⟩
    · simp [results, Try.results55, go_sem, ↓IntWalk.iteOmega, *]
    · refine Wid.mk' ?_ (by rw [hd])
      rw [hd]
      exact Lim.box (Lim.box hu hB) (NoU.set hB (fun z e => by cases e))
    · repeat (first | with_reducible exact Ext.refl _ | with_reducible assumption | with_reducible refine Ext.alloc ?_ _ | with_reducible refine Ext.setCell ?_ (by (try simp only [World.size_alloc, World.size_setCell]); omega) _ | with_reducible refine Ext.drewN ?_ _ | with_reducible refine Ext.drew ?_ | with_reducible refine Ext.trans ?_ (by with_reducible assumption))

theorem w_madeN (v : Value) (xs : List Int) (m : Nat) (w : World) (h : Lim w v xs) (hm : val xs = m) (hl : (dig m).length ≤ 4096) :
    Calls Try.prog 55 #[.bool false, v] w fun e w' => ∃ u, e = .returned (.tuple #[.agg #[.bool false, u], .int .i64 0]) ∧ Lim w' u (dig m) ∧ Ext w w' := by
  refine (w_made false v xs m w h hm hl).mono ?_
  rintro e w1 ⟨u, rfl, ⟨s, rfl, hs⟩, hb⟩
  rw [sg_abs] at hs
  exact ⟨s, by rw [sg_neg]; rfl, hs, hb⟩

end Go.Proofs.Ytcalonhphknbbaa

/- Limbs: math/bits. -/
namespace Go.Proofs.Ytcalonhphknbbaa
open Go.RowKit

def U32 (x : Int) : Prop := 0 ≤ x ∧ x < 4294967296
theorem or_hl (h l : Int) (h0 : 0 ≤ h) (h1 : h < 4294967296) (hl : U32 l) : bits .or .u64 (h * 4294967296) l = h * 4294967296 + l := by
  unfold U32 at hl
  obtain ⟨a, rfl⟩ := Int.eq_ofNat_of_zero_le h0
  obtain ⟨b, rfl⟩ := Int.eq_ofNat_of_zero_le hl.1
  have hb : b < 2 ^ 32 := by have := hl.2; omega
  have e := Nat.two_pow_add_eq_or_of_lt hb a
  rw [show ((a : Int) * 4294967296 : Int) = ((2 ^ 32 * a : Nat) : Int) from by omega, u64_or_nat _ _ (by omega) (by omega), ← e]
  omega
theorem u64_small {x : Int} (h0 : 0 ≤ x) (h1 : x < 18446744073709551616) : IntKind.u64.wrap x = x := by
  rw [IntKind.wrap_u64]; exact Int.emod_eq_of_lt h0 h1
theorem div_small {x d : Int} (h0 : 0 ≤ x) (hd : 0 < d) (h1 : x < d * 4294967296) : 0 ≤ x / d ∧ x / d < 4294967296 :=
  ⟨Int.ediv_nonneg h0 (by omega), Int.ediv_lt_of_lt_mul hd (by rw [Int.mul_comm]; exact h1)⟩
theorem w_add32 (x y c : Int) (w : World) (hx : U32 x) (hy : U32 y) (hc : 0 ≤ c ∧ c ≤ 1) :
    Calls Try.prog 83 #[.int .u32 x, .int .u32 y, .int .u32 c] w fun e w' => e = .returned (.tuple #[.int .u32 ((x + y + c) % 4294967296), .int .u32 ((x + y + c) / 4294967296)]) ∧ w' = w := by
  unfold U32 at hx hy
  go_enter Try.func83, Try.ntmps83
  go_wp2
  go_ret2
  exact ⟨rfl, rfl⟩
theorem w_div32 (h l d : Int) (w : World) (hh : 0 ≤ h) (hd : h < d) (hl : U32 l) (hb : d < 4294967296) :
    Calls Try.prog 92 #[.int .u32 h, .int .u32 l, .int .u32 d] w fun e w' => e = .returned (.tuple #[.int .u32 ((h * 4294967296 + l) / d), .int .u32 ((h * 4294967296 + l) % d)]) ∧ ∃ m, w' = w.drewN m := by
  have ho := or_hl h l hh (by omega) hl
  unfold U32 at hl
  obtain ⟨X, hX⟩ : ∃ X, h * 4294967296 + l = X := ⟨_, rfl⟩
  have X0 : 0 ≤ X := by omega
  have X1 : X < d * 4294967296 := by omega
  obtain ⟨q0, q1⟩ := div_small X0 (by omega) X1
  have r0 := Int.emod_nonneg X (show d ≠ 0 by omega)
  have r1 := Int.emod_lt_of_pos X (show 0 < d by omega)
  have e1 : IntKind.u64.wrap (X.tdiv d) % 4294967296 = X / d := by
    rw [Int.tdiv_eq_ediv_of_nonneg X0, u64_small q0 (by omega)]; exact Int.emod_eq_of_lt q0 q1
  have e2 : X.tmod d % 4294967296 = X % d := by
    rw [Int.tmod_eq_emod_of_nonneg X0]; exact Int.emod_eq_of_lt r0 (by omega)
  rw [hX] at ho ⊢
  clear X0 X1 q0 q1 r0 r1
  go_enter Try.func92, Try.ntmps92
  go_wp2
  go_quiet (fail)
  go_wp2
  go_ret2
  exact ⟨rfl, _, rfl⟩

theorem lim_two (w : World) (a b : Int) (ha : U32 a) (hb : U32 b) : Lim (w.alloc (.cells #[.int .u32 a, .int .u32 b] 81)) (.slice (some ⟨w.heap.size, 0, none⟩) 2 2) [a, b] :=
  ⟨Lb.cons ha (Lb.cons hb Lb.nil), Or.inr ⟨_, 0, 2, rfl, Nat.le_refl _, ⟨by decide, by simp⟩, by simp, fun i hi => by
    rw [cell_al, if_pos rfl]
    match i, hi with
    | 0, _ => rfl
    | 1, _ => rfl
    | i + 2, hi => exact absurd hi (by simp)⟩⟩
theorem dig_len2 {m : Nat} (h : m < 9223372036854775808) : (dig m).length ≤ 4096 := by
  rcases Nat.lt_or_ge 4096 (dig m).length with h1 | h1
  · have h2 := val_pos (dig_lb m) (dig_nz m) (by intro e; rw [e] at h1; simp at h1)
    have h3 := bb_mono (show 2 ≤ (dig m).length - 1 from by omega)
    rw [dig_val] at h2
    have h4 : BB ^ 2 = 18446744073709551616 := by decide
    omega
  · exact h1
set_option maxRecDepth 100000 in
theorem w_From (n : Nat) (w : World) (hn : n < 9223372036854775808) :
    Calls Try.prog 32 #[.int .i64 n] w fun e w' => ∃ u, e = .returned u ∧ Nn w' u n ∧ Ext w w' := by
  have hlt : ¬ ((n : Int) < 0) := by omega
  have hd : decide ((n : Int) < 0) = false := decide_eq_false hlt
  have hL := lim_two (w.alloc (.cells #[.bool false, .slice none 0 0] 25)) ((n : Int) % 4294967296) ((n : Int) / 4294967296) (by unfold U32; omega) (by unfold U32; omega)
  rw [World.size_alloc] at hL
  have hv : val [(n : Int) % 4294967296, (n : Int) / 4294967296] = n := by simp only [val]; unfold BB; omega
  go_enter Try.func32, Try.ntmps32
  go_wp2_with (go_at_call 55; (with_reducible refine (w_madeN _ _ n _ hL hv (dig_len2 hn)).mono ?_); rintro e w1 ⟨s, rfl, hs, hb⟩; obtain ⟨ao, b1, o1, cap1, rfl, v1, v2, v3, v4, v5, v6⟩ := hs.view; obtain ⟨_, _, hc, hf⟩ := hb.cells2; have hz := hb.size; (try simp only [World.size_alloc, World.size_setCell] at hz hc hf))
  have hB : NoU w1 w.heap.size := ((NoU.new w _ _ (noU2 (by simp) (by simp))).alloc (by simp) _ _).ext (by simp; omega) hb
  refine bodyPost_ret (v := .agg #[.bool false, .slice ao (dig n).length cap1]) ?_ rfl ⟨_, rfl, ⟨_, rfl, ?_⟩, ?_⟩
  · simp [results, Try.results32, go_sem, ↓IntWalk.iteOmega, *]
  · have hB3 := hB.alloc (c := #[.bool false, .slice ao (dig n).length cap1]) (t := 25) (by omega)
    exact Lim.box (Lim.box (hs.alloc _) hB3) (NoU.set hB3 (fun z e => by cases e))
  · repeat (first | with_reducible exact Ext.refl _ | with_reducible assumption | with_reducible refine Ext.alloc ?_ _ | with_reducible refine Ext.setCell ?_ (by (try simp only [World.size_alloc, World.size_setCell]); omega) _ | with_reducible refine Ext.drewN ?_ _ | with_reducible refine Ext.drew ?_ | with_reducible refine Ext.trans ?_ (by with_reducible assumption))

end Go.Proofs.Ytcalonhphknbbaa
