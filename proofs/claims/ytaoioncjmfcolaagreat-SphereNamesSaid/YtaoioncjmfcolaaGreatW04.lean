/- Limbs divided: by one limb, or by more. -/
import Derived.Test.YtaoioncjmfcolaaGreatW03
import Derived.Shelf.Small.Bits
import Derived.Shelf.Bits.Mul64
import Derived.Shelf.SlicesE.Clone
set_option linter.unusedSimpArgs false
set_option linter.unusedVariables false
set_option maxRecDepth 100000
set_option maxHeartbeats 4000000
namespace Go.Proofs.YtaoioncjmfcolaaGreat
open Go.RowKit
theorem w_short (va : Value) (X : List Int) (d : Int) (w : World) (ha : Lim w va X) (hd : 0 < d) (hd2 : d < 4294967296) (hx : X.length ≤ 100000) :
    Calls Tryz.prog 138 #[va, .int .u32 d] w fun e w' => ∃ u qs r, e = .returned (.tuple #[u, .int .u32 r]) ∧ Lim w' u (trimL qs) ∧ val qs * d + r = val X ∧ 0 ≤ r ∧ r < d ∧ Ext w w' :=
  (callsIn_wide (n := 6)).1 (short_in va X d w ha hd hd2 hx)
theorem lim_one (w : World) (r : Int) (h : U32 r) : Lim (w.alloc (.cells #[.int .u32 r] 54)) (.slice (some ⟨w.heap.size, 0, none⟩) 1 1) [r] :=
 ⟨Lb.cons h Lb.nil, Or.inr ⟨_, 0, 1, rfl, Nat.le_refl _, ⟨by decide, by simp⟩, by simp, fun i hi => by
  rw [cell_al, if_pos rfl]
  match i, hi with
  | 0, _ => rfl
  | i + 1, hi => exact absurd hi (by simp)⟩⟩
def DivPost (X Y : List Int) (w : World) : Ending → World → Prop := fun e w' => ∃ u v qs rs, e = .returned (.tuple #[u, v]) ∧ Lim w' u qs ∧ Lim w' v rs ∧ Nz qs ∧ Nz rs ∧ val qs * val Y + val rs = val X ∧ val rs < val Y ∧ Ext w w'
theorem w_divide (va vb : Value) (X Y : List Int) (w : World) (ha : Lim w va X) (hb0 : Lim w vb Y) (hX : Nz X) (hY : Nz Y) (hx : X.length ≤ 100000) (h1 : val X < val Y ∨ Y.length = 1) :
    Calls Tryz.prog 83 #[va, vb] w (DivPost X Y w) := by
 have hcm := w_compare va vb X Y w ha hb0 hX hY
 by_cases hlt : val X < val Y
 ·rw [cmp_lt hlt] at hcm
  have hcl := fun w1 (k : Ext w w1) => w_Clone va X w1 (ha.ext k) hx
  go_enter Tryz.func83, Tryz.ntmps83
  go_wp2_with (first
   | (go_at_call 86; (with_reducible refine hcm.mono ?_); rintro e w1 ⟨rfl, hb⟩)
   | (go_at_call 130; (with_reducible refine (hcl _ hb).mono ?_); rintro e w2 ⟨u, rfl, hu, hb2⟩))
  go_ret2
  exact ⟨_, _, [], X, rfl, Lim.nil _, hu, Nz.nil, hX, by simp [val], hlt, hb.trans hb2⟩
 ·have hn : Y.length = 1 := h1.resolve_left hlt
  obtain ⟨d, rfl⟩ : ∃ d, Y = [d] := List.length_eq_one_iff.1 hn
  have hd0 : d ≠ 0 := hY d rfl
  have hdU := hb0.lb.head
  have hvd : val [d] = d := by simp [val]
  have hc0 : decide (cmpI (val X) (val [d]) < 0) = false := decide_eq_false (by unfold cmpI; rw [if_neg hlt]; split <;> omega)
  obtain ⟨c, ec⟩ : ∃ c, cmpI (val X) (val [d]) = c := ⟨_, rfl⟩
  rw [ec] at hcm hc0
  obtain ⟨bo, b2, o2, cap2, rfl, y1, y2, y3, y4, y5, y6⟩ := hb0.view
  have e := y1 (by simp)
  subst e
  have hcell := y5 0 (by simp)
  simp only [List.getD_cons_zero, Nat.add_zero] at hcell
  have hbl := y4 (by simp)
  simp only [List.length_cons, List.length_nil, Nat.zero_add] at hcm ⊢
  have hsh := fun w1 (k : Ext w w1) => w_short va X d w1 (ha.ext k) (by omega) hdU.2 hx
  clear ec y5 y4 y1
  go_enter Tryz.func83, Tryz.ntmps83
  go_upto_region 6 with (first
   | (go_at_call 86; (with_reducible refine hcm.mono ?_); rintro e w1 ⟨rfl, hb⟩; have hc1 := (hb.cells.1 b2 o2 hbl).trans hcell)
   | (go_at_call 138; (with_reducible refine (hsh _ hb).mono ?_); rintro e w2 ⟨u, qs, r, rfl, hu, hval, r0, r1, hb2⟩))
  have hL1 := lim_one w2 r ⟨r0, by unfold BB at hdU; omega⟩
  go_wp2_with (go_at_call 81; (with_reducible refine (w_trim _ [r] _ hL1).mono ?_); rintro e w3 ⟨v, rfl, hv, hb3⟩)
  go_ret2
  refine ⟨_, _, trimL qs, trimL [r], rfl, hu.ext (((Ext.refl _).alloc _).trans hb3), hv, trim_nz _, trim_nz _, ?_, ?_, hb.trans (hb2.trans (((Ext.refl _).alloc _).trans hb3))⟩
  ·rw [val_trim, val_trim, hvd]; simpa [val] using hval
  ·rw [val_trim, hvd]; simpa [val] using r1
def cellZ (w : World) (b o : Nat) : Int := match w.cell? ⟨b, o, none⟩ with
 | some (.int _ z) => z
 | _ => 0
def lmeas (w : World) (v : Value) : Nat := match v with
 | .slice (some a) n _ => (val ((List.range n).map fun i => cellZ w a.block (a.off + i))).toNat
 | _ => 0
theorem Lim.meas {w : World} {v : Value} {m : Nat} (h : Lim w v (dig m)) : lmeas w v = m := by
 rcases h.2 with ⟨rfl, e⟩ | ⟨b, o, cap, rfl, h1, h2, h3, h4⟩
 ·rw [dig_nil] at e; subst e; rfl
 ·show (val ((List.range (dig m).length).map fun i => cellZ w b (o + i))).toNat = m
  have : (List.range (dig m).length).map (fun i => cellZ w b (o + i)) = dig m := by
   apply List.ext_getElem
   ·simp
   ·intro i hi1 hi2
    rw [List.getElem_map, List.getElem_range]
    unfold cellZ
    rw [h4 i hi2, List.getD_eq_getElem?_getD, List.getElem?_eq_getElem hi2]
    rfl
  rw [this, dig_val]; simp
theorem dig_mono {a b : Nat} (h : a ≤ b) : (dig a).length ≤ (dig b).length := by
 rcases Nat.lt_or_ge (dig b).length (dig a).length with h1 | h1
 ·have := val_lt_of_len (dig_lb b) (dig_lb a) (dig_nz a) h1
  rw [dig_val, dig_val] at this
  omega
 ·exact h1
theorem div_dig {a b : Nat} {qs rs : List Int} (lq : Lb qs) (lr : Lb rs) (nq : Nz qs) (nr : Nz rs) (h : val qs * val (dig b) + val rs = val (dig a)) (h2 : val rs < val (dig b)) : qs = dig (a / b) ∧ rs = dig (a % b) := by
 rw [dig_val, dig_val] at h
 rw [dig_val] at h2
 have r0 := val_nonneg lr
 have hb : (0 : Int) < b := by omega
 have e1 : ((a : Int) / b) = val qs := by
  rw [← h]
  rw [Int.add_comm, Int.add_mul_ediv_right _ _ (by omega), Int.ediv_eq_zero_of_lt r0 h2, Int.zero_add]
 have e2 : ((a : Int) % b) = val rs := by
  rw [← h, Int.add_comm, Int.add_mul_emod_self_right, Int.emod_eq_of_lt r0 h2]
 exact ⟨eq_dig lq nq (by rw [← e1]; exact (Int.natCast_ediv a b).symm), eq_dig lr nr (by rw [← e2]; exact (Int.natCast_emod a b).symm)⟩
theorem T_ZI_1 {p : Prop} (h : p := by
 go_wp2_with fail
 go_roundw
 case rel => exact ⟨k + 1, hkn, by go_num, (c_21 : Ext _ _)⟩
 case measure => simp [intOf]; omega) : p := h
def Sm (w : World) (v : Value) (s : Bool) (m : Nat) : Prop := ∃ u, v = .agg #[.bool s, u] ∧ Lim w u (dig m)
theorem Sm.ext {a w : World} {v : Value} {s : Bool} {m : Nat} (h : Sm a v s m) (k : Ext a w) : Sm w v s m := by
 obtain ⟨u, e, hu⟩ := h; exact ⟨u, e, hu.ext k⟩
theorem Nn.wid {w : World} {v : Value} {m : Nat} (h : Nn w v m) : Wid w v (m : Int) := by
 obtain ⟨u, e, hu⟩ := h
 exact ⟨u, by rw [e, decide_eq_false (by omega)], by rw [Int.natAbs_natCast]; exact hu⟩
theorem Wid.nn {w : World} {v : Value} {n : Int} (h : Wid w v n) (h0 : 0 ≤ n) : Nn w v n.natAbs := by
 obtain ⟨u, e, hu⟩ := h
 exact ⟨u, by rw [e, decide_eq_false (by omega)], hu⟩
def NzAt (w : World) (b o : Nat) (s : Bool) (m : Nat) : Prop := ∃ u, w.cell? ⟨b, o, none⟩ = some (.bool s) ∧ w.cell? ⟨b, o + 1, none⟩ = some u ∧ Lim w u (dig m)
theorem z_checks (b n cap : Nat) (ss : Nat → Bool) (ms : Nat → Nat) (w : World) (hn : n ≤ 1000) (hb : b < w.heap.size) (h : ∀ i, i < n → NzAt w b (i * 2) (ss i) (ms i)) (hs : ∀ i, i < n → Small (ms i)) (hz : ∀ i, i < n → ms i = 0 → ss i = false) :
    Calls Tryz.prog 77 #[.slice (some ⟨b, 0, none⟩) n cap] w fun e w' => e = .returned (.int .i64 0) ∧ Ext w w' := by
 go_enter Tryz.func77, Tryz.ntmps77
 go_wp2_with fail
 go_loopw [8] (fun i wr => ∃ k : Nat, k ≤ n ∧ i = .int .i64 k ∧ Hid (Ext w wr)) (fun i _ => n - (intOf i).toNat)
 case atStart => exact ⟨0, Nat.zero_le _, rfl, Ext.refl w⟩
 case round =>
  obtain ⟨k, hk, rfl, HE⟩ := hrel
  by_cases hkn : k < n
  ·obtain ⟨u, h1, h2, h3⟩ := h k hkn
   obtain ⟨ao, b1, o1, cap1, rfl, v1, v2, v3, v4, v5, v6⟩ := h3.view
   have hsm := hs k hkn
   unfold Small at hsm
   replace h1 := (HE.out.cells.1 b (k * 2) hb).trans h1
   replace h2 := (HE.out.cells.1 b (k * 2 + 1) hb).trans h2
   have hln := last_ne (m := ms k)
   have hwz := HE.out.size
   have hsz : (dig (ms k)).length = 0 → ss k = false := fun e => hz k hkn (dig_nil.1 (List.length_eq_zero_iff.1 e))
   generalize ss k = sk at *
   generalize dig (ms k) = ds at *
   rcases Nat.eq_zero_or_pos ds.length with h0 | h0
   ·rw [h0] at h2
    rw [hsz h0] at h1
    clear h hs hsz hz
    exact T_ZI_1
   ·have e := v1 h0
    subst e
    have hlw := v4 h0
    obtain ⟨q, eq⟩ : ∃ q, ds.length = q + 1 := ⟨ds.length - 1, by omega⟩
    have hl := v5 q (by omega)
    replace hln := hln h0
    rw [eq, Nat.add_sub_cancel] at hln
    obtain ⟨z, ez⟩ : ∃ z, ds.getD q 0 = z := ⟨_, rfl⟩
    rw [ez] at hl hln
    replace hl := (HE.out.cells.1 b1 (o1 + q) hlw).trans hl
    rw [eq] at h2 hsm
    have z1 : (z == 0) = false := by simpa using hln
    have z2 : decide ((4096 : Int) < (q : Int) + 1) = false := decide_eq_false (by omega)
    have z3 : ((q : Int) + 1 == 0) = false := by simp; omega
    clear h hs v5 v6 v4 v1 h3 v2 hsz hz
    exact T_ZI_1
  ·clear h hs hz
   go_wp2_with fail
   go_ret
   exact ⟨rfl, HE.out⟩
theorem nzAt1 (w : World) (u : Value) (s : Bool) (m : Nat) (h : Lim w u (dig m)) : NzAt (w.alloc (.cells #[.bool s, u] 24)) w.heap.size 0 s m :=
 ⟨u, by rw [cell_al, if_pos rfl]; rfl, by rw [cell_al, if_pos rfl]; rfl, h.alloc _⟩
theorem nzAt2 (w : World) (u v : Value) (s t : Bool) (m k : Nat) (h : Lim w u (dig m)) (h2 : Lim w v (dig k)) : NzAt (w.alloc (.cells #[.bool s, u, .bool t, v] 24)) w.heap.size 0 s m ∧ NzAt (w.alloc (.cells #[.bool s, u, .bool t, v] 24)) w.heap.size 2 t k :=
 ⟨⟨u, by rw [cell_al, if_pos rfl]; rfl, by rw [cell_al, if_pos rfl]; rfl, h.alloc _⟩, ⟨v, by rw [cell_al, if_pos rfl]; rfl, by rw [cell_al, if_pos rfl]; rfl, h2.alloc _⟩⟩
theorem z_check_one (w : World) (u : Value) (s : Bool) (m : Nat) (h : Lim w u (dig m)) (hs : Small m) (hz : m = 0 → s = false) :
    Calls Tryz.prog 77 #[.slice (some ⟨w.heap.size, 0, none⟩) 1 1] (w.alloc (.cells #[.bool s, u] 24)) fun e w' => e = .returned (.int .i64 0) ∧ Ext (w.alloc (.cells #[.bool s, u] 24)) w' :=
  z_checks w.heap.size 1 1 (fun _ => s) (fun _ => m) _ (by decide) (by simp) (fun i hi => by
    have : i = 0 := by omega
    subst this; exact nzAt1 w u s m h) (fun _ _ => hs) (fun _ _ => hz)
theorem z_check_two (w : World) (u v : Value) (s t : Bool) (m k : Nat) (h : Lim w u (dig m)) (h2 : Lim w v (dig k)) (hs : Small m) (hs2 : Small k) (hz : m = 0 → s = false) (hz2 : k = 0 → t = false) :
    Calls Tryz.prog 77 #[.slice (some ⟨w.heap.size, 0, none⟩) 2 2] (w.alloc (.cells #[.bool s, u, .bool t, v] 24)) fun e w' => e = .returned (.int .i64 0) ∧ Ext (w.alloc (.cells #[.bool s, u, .bool t, v] 24)) w' :=
  z_checks w.heap.size 2 2 (fun i => if i = 0 then s else t) (fun i => if i = 0 then m else k) _ (by decide) (by simp) (fun i hi => by
    rcases (show i = 0 ∨ i = 1 by omega) with rfl | rfl
    · exact (nzAt2 w u v s t m k h h2).1
    · exact (nzAt2 w u v s t m k h h2).2) (fun i _ => by split <;> assumption) (fun i _ => by split <;> assumption)
theorem w_madeS (neg : Bool) (v : Value) (xs : List Int) (m : Nat) (w : World) (h : Lim w v xs) (hm : val xs = m) (hl : (dig m).length ≤ 4096) :
    Calls Tryz.prog 76 #[.bool neg, v] w fun e w' => ∃ u bo, e = .returned (.tuple #[.agg #[.bool bo, u], .int .i64 0]) ∧ Lim w' u (dig m) ∧ bo = (neg && decide (0 < (dig m).length)) ∧ Ext w w' := by
 refine (w_made neg v xs m w h hm hl).mono ?_
 rintro e w1 ⟨u, rfl, ⟨s, rfl, hs⟩, hb⟩
 rw [sg_abs] at hs
 exact ⟨s, _, rfl, hs, sg_neg neg m, hb⟩
theorem wid_s {n : Int} (s : Bool) (hs : s = decide (n < 0)) : n.natAbs = 0 → s = false := by
 intro h; rw [hs]; exact decide_eq_false (by omega)
theorem sg_wid {n : Int} : sg (decide (n < 0)) n.natAbs = n := by
 unfold sg
 by_cases h : n < 0
 ·rw [decide_eq_true h, if_pos rfl]; omega
 ·rw [decide_eq_false h, if_neg (by decide)]; omega
def Sz (n : Int) : Prop := Small n.natAbs
theorem dig_bits {m k L : Nat} (h : m < 2 ^ k) (hk : k ≤ 32 * L) : (dig m).length ≤ L := by
 rcases Nat.lt_or_ge L (dig m).length with h1 | h1
 ·exfalso
  have h2 := val_pos (dig_lb m) (dig_nz m) (by intro e; rw [e] at h1; simp at h1)
  rw [dig_val] at h2
  have h3 := bb_mono (show L ≤ (dig m).length - 1 from by omega)
  have h4 : BB ^ L = ((2 ^ (32 * L) : Nat) : Int) := by
   have : BB = ((2 ^ 32 : Nat) : Int) := rfl
   rw [this, ← Int.natCast_pow, ← Nat.pow_mul]
  have h5 : 2 ^ k ≤ 2 ^ (32 * L) := Nat.pow_le_pow_right (by decide) hk
  have h6 : (m : Int) < ((2 ^ (32 * L) : Nat) : Int) := Int.ofNat_lt.2 (Nat.lt_of_lt_of_le h h5)
  rw [h4] at h3
  exact absurd h6 (Int.not_lt.2 (Int.le_trans h3 h2))
 ·exact h1
theorem small_bits {m k : Nat} (h : m < 2 ^ k) (hk : k ≤ 131072) : Small m := dig_bits h (L := 4096) hk
def O32 (w : World) (base g n cap : Nat) (xs : List Int) : Prop := w.ownsRow base 54 1 (.slice (some ⟨g, 0, none⟩) n cap) n (xs.map (.int .u32))
theorem R32.own {w : World} {base g n : Nat} {xs : List Int} (h : R32 w base g n xs) : O32 w base g n n xs := h
theorem O32.len {w : World} {base g n cap : Nat} {xs : List Int} (h : O32 w base g n cap xs) : xs.length = n := by have := h.1; simpa using this
theorem O32.parts {w : World} {base g n cap : Nat} {xs : List Int} (h : O32 w base g n cap xs) : g < w.heap.size ∧ base ≤ g ∧ n ≤ cap ∧ cap ≤ 9223372036854775807 := by
 rcases h.2 with ⟨e, _⟩ | ⟨g', cap', cur, hv, hb, hg, hnc, hcm, _⟩
 ·cases e
 ·cases hv; exact ⟨(Array.getElem?_eq_some_iff.1 hg).1, hb, hnc, hcm⟩
theorem O32.cell {w : World} {base g n cap : Nat} {xs : List Int} (h : O32 w base g n cap xs) {k : Nat} (hk : k < n) : w.cell? ⟨g, k, none⟩ = some (.int .u32 (xs.getD k 0)) := by
 have hl := h.len
 rw [World.ownsRow.cellAt h k (by omega)]
 simp [List.getElem?_map, List.getD_eq_getElem?_getD, List.getElem?_eq_getElem (show k < xs.length by omega)]
theorem O32.frozen {w : World} {base g n cap : Nat} {xs : List Int} (h : O32 w base g n cap xs) (k : Nat) : w.frozen? ⟨g, k, none⟩ = false := World.ownsRow.frozenAt h k
theorem O32.set {w : World} {base g n cap : Nat} {xs : List Int} (h : O32 w base g n cap xs) (k : Nat) (z : Int) : O32 (w.setCell ⟨g, k, none⟩ (.int .u32 z)) base g n cap (xs.set k z) := by
 have := (World.ownsRow.stored h k (.int .u32 z)).1
 unfold O32
 rw [List.map_set]; exact this
theorem O32.alloc {w : World} {base g n cap : Nat} {xs : List Int} (h : O32 w base g n cap xs) (o : Obj) : O32 (w.alloc o) base g n cap xs := World.ownsRow.alloc h o
theorem O32.ext {a w : World} {base g n cap : Nat} {xs : List Int} (h : O32 a base g n cap xs) (k : Ext a w) : O32 w base g n cap xs :=
 World.ownsRow.kept (row := none) h ⟨k.os, k.tape, k.output, k.size, fun i hi _ => k.block i hi⟩ (Or.inr (by simp [Value.ownBlock]))
theorem O32.lim {w : World} {base g n cap : Nat} {xs : List Int} (h : O32 w base g n cap xs) (hl : Lb xs) (hn : n ≤ 1099511627776) : Lim w (.slice (some ⟨g, 0, none⟩) n cap) xs := Lim.own h hl hn
theorem O32.take {w : World} {base g n cap : Nat} {xs : List Int} (h : O32 w base g n cap xs) (k : Nat) (hk : k ≤ n) : O32 w base g k cap (xs.take k) := by
 have hl := h.len
 refine ⟨by simp [List.length_take]; omega, ?_⟩
 rcases h.2 with ⟨e, _⟩ | ⟨g', cap', cur, hv, hb, hg, hnc, hcm, hcs, ht⟩
 ·cases e
 ·cases hv
  refine Or.inr ⟨g, cap, cur, rfl, hb, hg, by omega, hcm, hcs, ?_⟩
  rw [List.map_take, ← ht, List.take_take, Nat.mul_one, Nat.min_eq_left (by omega)]
theorem O32.other {w : World} {base g n cap : Nat} {xs : List Int} (h : O32 w base g n cap xs) {B j : Nat} (x : Value) (hB : B ≠ g) : O32 (w.setCell ⟨B, j, none⟩ x) base g n cap xs := by
 refine ⟨h.1, ?_⟩
 rcases h.2 with ⟨e, _⟩ | ⟨g', cap', cur, hv, hb, hg, hnc, hcm, hcs, ht⟩
 ·cases e
 ·cases hv
  refine Or.inr ⟨g, cap, cur, rfl, hb, ?_, hnc, hcm, hcs, ht⟩
  simp only [World.setCell]
  rw [Array.getElem?_modify, if_neg hB]; exact hg
theorem O32.base {w : World} {base base' g n cap : Nat} {xs : List Int} (h : O32 w base g n cap xs) (hb : base' ≤ g) : O32 w base' g n cap xs := by
 refine ⟨h.1, ?_⟩
 rcases h.2 with ⟨e, _⟩ | ⟨g', cap', cur, hv, _, hg, hnc, hcm, hcs, ht⟩
 ·cases e
 ·cases hv
  exact Or.inr ⟨g, cap, cur, rfl, hb, hg, hnc, hcm, hcs, ht⟩
theorem Ext.grownAt {a w w' : World} {g : Nat} (h : Ext a w) (k : w.grownBy w' (some g)) (hg : a.heap.size ≤ g) : Ext a w' := Below.grown h k h.size (fun _ e => by cases e; exact hg)
theorem O32.grownAt {w w' : World} {base g n cap g2 : Nat} {xs : List Int} (h : O32 w base g n cap xs) (k : w.grownBy w' (some g2)) (hg : g2 ≠ g) : O32 w' base g n cap xs :=
 World.ownsRow.kept h k (Or.inr (by simpa [Value.ownBlock] using fun e => hg e.symm))
theorem wpList_make_lc {P : Program} (w : World) {ops : Array Oper} {rest : List Oper} {o : Oper} {a : Act} {Q : Exit → Act → World → Prop}
    (hg : o.guard = none) (l c : Operand) (t : TypeId) (hop : o.op = Op.makeSlice t l c)
    (base : Nat) (e : TypeId) (i : TypeInfo) (z : Value) (size : Nat) (h1 : P.underlying t = some (.slice e)) (h2 : P.info? e = some i) (h3 : i.zero = some z) (h4 : i.size = size)
    (kl kc : IntKind) (L C : Int) (n m : Nat) (hl : a.eval l = .int kl L) (hc : a.eval c = .int kc C) (hL : L = (n : Int)) (hC : C = (m : Int)) (hnm : n ≤ m) (b2 : i.bytes * m ≤ 281474976710656) (b3 : m ≤ maxLen) (b4 : base ≤ w.heap.size)
    (hK : ∀ w', w'.ownsRow base e size (.slice (some ⟨w.heap.size, 0, none⟩) n m) n ((madeCells z.cells (m * size)).toList.take (n * size)) → w.grownBy w' none → wpList P ops Q rest (a.put o.dst (.slice (some ⟨w.heap.size, 0, none⟩) n m)) w') :
    wpList P ops Q (o :: rest) a w := by
 subst h4
 have h63 : (m : Int) ≤ 9223372036854775807 := by have h := b3; simp [maxLen] at h; omega
 have hb' : (i.bytes : Int) * (m : Int) ≤ 281474976710656 := by
  have h : ((i.bytes * m : Nat) : Int) ≤ 281474976710656 := by omega
  rwa [Int.natCast_mul] at h
 have hr := run_make (P := P) w t e i z h1 h2 h3 kl kc n m (by omega) (by omega) hb' h63
 simp only [Int.toNat_natCast] at hr
 subst hL
 subst hC
 refine wpList_plain hg fun K hK' => ?_
 unfold Oper.wp
 simp [execOp, hop, hl, hc, hr, Result.andThen]
 refine hK' _ _ (hK _ ?_ (World.grownBy_alloc w _ none))
 refine ⟨?_, Or.inr ⟨w.heap.size, m, _, rfl, b4, heap_alloc_new w _, hnm, b3, size_madeCells _ _, rfl⟩⟩
 rw [List.length_take, Array.length_toList, size_madeCells]
 exact Nat.min_eq_left (Nat.mul_le_mul_right _ hnm)
theorem O32.made {w : World} {base g n m : Nat} (hnm : n ≤ m) (h : w.ownsRow base 54 1 (.slice (some ⟨g, 0, none⟩) n m) n ((madeCells (Value.int .u32 0).cells (m * 1)).toList.take (n * 1))) : O32 w base g n m (List.replicate n 0) := by
 unfold O32
 have e : (madeCells (Value.int .u32 0).cells (m * 1)).toList.take (n * 1) = (List.replicate n (0 : Int)).map (Value.int .u32) := by
  rw [Nat.mul_one, Nat.mul_one, List.map_replicate, show (madeCells (Value.int .u32 0).cells m).toList = List.replicate m (Value.int .u32 0) from toList_madeCells_one _ _, List.take_replicate, Nat.min_eq_left hnm]
 rw [← e]; exact h
theorem O32.appended {w : World} {base g n cap : Nat} {xs : List Int} {z : Int} (h : w.ownsRow base 54 1 (.slice (some ⟨g, 0, none⟩) (n + 1) cap) (n + 1) (xs.map (.int .u32) ++ [.int .u32 z])) : O32 w base g (n + 1) cap (xs ++ [z]) := by
 unfold O32; rw [List.map_append]; exact h
end Go.Proofs.YtaoioncjmfcolaaGreat
namespace Go.Proofs
open Go.Shelf
def Tryz.lays128_ren : Go.Shelf.Ren := ⟨fun | 128 => 137 | n => n, fun | 51 => 54 | 3 => 3 | 4 => 4 | 46 => 117 | 5 => 5 | 9 => 9 | n => n, fun | n => n⟩
theorem Tryz.lays128 : Go.Proofs.Lays.n128 Tryz.prog Tryz.lays128_ren := {
  mixed := by kernel_rfl
  f128 := Tryz.func137.trans (congrArg some (by kernel_rfl))
  t3 := Tryz.underlying3
  a3 := Tryz.isAgg3
  z3 := Tryz.sizeOf3
  v3 := Tryz.zeroValue3
  t4 := Tryz.underlying4
  a4 := Tryz.isAgg4
  z4 := Tryz.sizeOf4
  v4 := Tryz.zeroValue4
  t5 := Tryz.underlying5
  a5 := Tryz.isAgg5
  z5 := Tryz.sizeOf5
  v5 := Tryz.zeroValue5
  t9 := Tryz.underlying9
  a9 := Tryz.isAgg9
  z9 := Tryz.sizeOf9
  v9 := Tryz.zeroValue9
  t46 := Tryz.underlying117
  a46 := Tryz.isAgg117
  z46 := Tryz.sizeOf117
  v46 := Tryz.zeroValue117
  t51 := Tryz.underlying54
  a51 := Tryz.isAgg54
  z51 := Tryz.sizeOf54
  v51 := Tryz.zeroValue54 }
theorem Tryz.bits_Len32 (x : Int) (w : World) (h0 : 0 ≤ x) (h1 : x ≤ 4294967295) :
    Calls Tryz.prog 137 #[.int .u32 x] w fun e w' => e = .returned (.int .i64 (Lib.bitLen x.toNat)) ∧ w' = w := Any.bits_Len32 Tryz.lays128 x w h0 h1
def Tryz.lays133_ren : Go.Shelf.Ren := ⟨fun | 133 => 139 | 128 => 137 | n => n, fun | 51 => 54 | 3 => 3 | 4 => 4 | 46 => 117 | 5 => 5 | 9 => 9 | n => n, fun | n => n⟩
theorem Tryz.lays133 : Go.Proofs.Lays.n133 Tryz.prog Tryz.lays133_ren := {
  mixed := by kernel_rfl
  f128 := Tryz.func137.trans (congrArg some (by kernel_rfl))
  f133 := Tryz.func139.trans (congrArg some (by kernel_rfl))
  t3 := Tryz.underlying3
  a3 := Tryz.isAgg3
  z3 := Tryz.sizeOf3
  v3 := Tryz.zeroValue3
  t4 := Tryz.underlying4
  a4 := Tryz.isAgg4
  z4 := Tryz.sizeOf4
  v4 := Tryz.zeroValue4
  t5 := Tryz.underlying5
  a5 := Tryz.isAgg5
  z5 := Tryz.sizeOf5
  v5 := Tryz.zeroValue5
  t9 := Tryz.underlying9
  a9 := Tryz.isAgg9
  z9 := Tryz.sizeOf9
  v9 := Tryz.zeroValue9
  t46 := Tryz.underlying117
  a46 := Tryz.isAgg117
  z46 := Tryz.sizeOf117
  v46 := Tryz.zeroValue117
  t51 := Tryz.underlying54
  a51 := Tryz.isAgg54
  z51 := Tryz.sizeOf54
  v51 := Tryz.zeroValue54 }
theorem Tryz.bits_LeadingZeros32 (x : Int) (w : World) (h0 : 0 ≤ x) (h1 : x ≤ 4294967295) :
    Calls Tryz.prog 139 #[.int .u32 x] w fun e w' => e = .returned (.int .i64 (32 - (Lib.bitLen x.toNat : Int))) ∧ w' = w := Any.bits_LeadingZeros32 Tryz.lays133 x w h0 h1
def Tryz.lays134_ren : Go.Shelf.Ren := ⟨fun | 134 => 171 | 129 => 185 | n => n, fun | 53 => 114 | 3 => 3 | 4 => 4 | 46 => 117 | 5 => 5 | 9 => 9 | n => n, fun | n => n⟩
theorem Tryz.lays134 : Go.Proofs.Lays.n134 Tryz.prog Tryz.lays134_ren := {
  mixed := by kernel_rfl
  f129 := Tryz.func185.trans (congrArg some (by kernel_rfl))
  f134 := Tryz.func171.trans (congrArg some (by kernel_rfl))
  t3 := Tryz.underlying3
  a3 := Tryz.isAgg3
  z3 := Tryz.sizeOf3
  v3 := Tryz.zeroValue3
  t4 := Tryz.underlying4
  a4 := Tryz.isAgg4
  z4 := Tryz.sizeOf4
  v4 := Tryz.zeroValue4
  t5 := Tryz.underlying5
  a5 := Tryz.isAgg5
  z5 := Tryz.sizeOf5
  v5 := Tryz.zeroValue5
  t9 := Tryz.underlying9
  a9 := Tryz.isAgg9
  z9 := Tryz.sizeOf9
  v9 := Tryz.zeroValue9
  t46 := Tryz.underlying117
  a46 := Tryz.isAgg117
  z46 := Tryz.sizeOf117
  v46 := Tryz.zeroValue117
  t53 := Tryz.underlying114
  a53 := Tryz.isAgg114
  z53 := Tryz.sizeOf114
  v53 := Tryz.zeroValue114 }
theorem Tryz.bits_LeadingZeros64 (x : Int) (w : World) (h0 : 0 ≤ x) (h1 : x ≤ 18446744073709551615) :
    Calls Tryz.prog 171 #[.int .u64 x] w fun e w' => e = .returned (.int .i64 (64 - (Lib.bitLen x.toNat : Int))) ∧ w' = w := Any.bits_LeadingZeros64 Tryz.lays134 x w h0 h1
def Tryz.lays129_ren : Go.Shelf.Ren := ⟨fun | 129 => 185 | n => n, fun | 53 => 114 | 3 => 3 | 4 => 4 | 46 => 117 | 5 => 5 | 9 => 9 | n => n, fun | n => n⟩
theorem Tryz.lays129 : Go.Proofs.Lays.n129 Tryz.prog Tryz.lays129_ren := {
  mixed := by kernel_rfl
  f129 := Tryz.func185.trans (congrArg some (by kernel_rfl))
  t3 := Tryz.underlying3
  a3 := Tryz.isAgg3
  z3 := Tryz.sizeOf3
  v3 := Tryz.zeroValue3
  t4 := Tryz.underlying4
  a4 := Tryz.isAgg4
  z4 := Tryz.sizeOf4
  v4 := Tryz.zeroValue4
  t5 := Tryz.underlying5
  a5 := Tryz.isAgg5
  z5 := Tryz.sizeOf5
  v5 := Tryz.zeroValue5
  t9 := Tryz.underlying9
  a9 := Tryz.isAgg9
  z9 := Tryz.sizeOf9
  v9 := Tryz.zeroValue9
  t46 := Tryz.underlying117
  a46 := Tryz.isAgg117
  z46 := Tryz.sizeOf117
  v46 := Tryz.zeroValue117
  t53 := Tryz.underlying114
  a53 := Tryz.isAgg114
  z53 := Tryz.sizeOf114
  v53 := Tryz.zeroValue114 }
theorem Tryz.bits_Len64 (x : Int) (w : World) (h0 : 0 ≤ x) (h1 : x ≤ 18446744073709551615) :
    Calls Tryz.prog 185 #[.int .u64 x] w fun e w' => e = .returned (.int .i64 (Lib.bitLen x.toNat)) ∧ w' = w := Any.bits_Len64 Tryz.lays129 x w h0 h1
def Tryz.lays264_ren : Go.Shelf.Ren := ⟨fun | 264 => 148 | n => n, fun | 53 => 114 | 46 => 117 | n => n, fun | n => n⟩
theorem Tryz.lays264 : Go.Proofs.Lays.n264 Tryz.prog Tryz.lays264_ren := {
  mixed := by kernel_rfl
  f264 := Tryz.func148.trans (congrArg some (by kernel_rfl))
  t46 := Tryz.underlying117
  a46 := Tryz.isAgg117
  z46 := Tryz.sizeOf117
  v46 := Tryz.zeroValue117
  t53 := Tryz.underlying114
  a53 := Tryz.isAgg114
  z53 := Tryz.sizeOf114
  v53 := Tryz.zeroValue114 }
open Go.RowKit Go.Lib in
theorem Tryz.bits_Mul64 (x y : Nat) (hx : x < 18446744073709551616) (hy : y < 18446744073709551616) (w : World) :
    Calls Tryz.prog 148 #[.int .u64 x, .int .u64 y] w fun e w' => e = .returned (.tuple #[.int .u64 ((x * y / 18446744073709551616 : Nat) : Int), .int .u64 ((x * y % 18446744073709551616 : Nat) : Int)]) ∧ w' = w := Any.bits_Mul64 Tryz.lays264 x y hx hy w
def Tryz.laysSlE041_f130_ren : Go.Shelf.Ren := ⟨fun | 41 => 130 | n => n, fun | 22 => 22 | 23 => 54 | 4 => 4 | n => n, fun | n => n⟩
theorem Tryz.laysSlE041_f130 : Go.Proofs.SlLaysE0.n41 Tryz.prog Tryz.laysSlE041_f130_ren := {
  mixed := by kernel_rfl
  f41 := ⟨Tryz.f130.name, by decide, Tryz.func130.trans (congrArg some (by kernel_rfl))⟩
  t4 := Tryz.underlying4
  a4 := Tryz.isAgg4
  z4 := Tryz.sizeOf4
  v4 := Tryz.zeroValue4
  t22 := Tryz.underlying22
  a22 := Tryz.isAgg22
  z22 := Tryz.sizeOf22
  v22 := Tryz.zeroValue22 }
open Go.RowKit Go.Lib in
theorem Tryz.slices_Clone (i0 : TypeInfo) (z : Value) (size bytes : Nat) (hi : Tryz.prog.info? 54 = some i0) (hz0 : i0.zero = some z) (hz1 : i0.size = size) (hz2 : i0.bytes = bytes) (hzs : z.cells.size = size) (hsz : 0 < size) (z23 : ∀ w, (Go.sizeOf 54).run Tryz.prog w = .ok size w) (b off n c : Nat) (news : List Value) (w : World) (hl : news.length = n * size) (hn : n ≤ maxLen) (hbig : n * bytes ≤ 140737488355328) (hc : ∀ j u, news[j]? = some u → w.cell? ⟨b, off + j, none⟩ = some u) (h1 : ∀ u ∈ news, u.oneCell' = true) :
    Calls Tryz.prog 130 #[.slice (some ⟨b, off, none⟩) n c] w fun e w' => ∃ v', e = .returned v' ∧ w'.ownsRow w.heap.size 54 size v' n news ∧ v' ≠ .slice none 0 0 ∧ Below w.heap.size w w' := AnyE.slices_Clone Tryz.laysSlE041_f130 i0 z size bytes hi hz0 hz1 hz2 hzs hsz z23 b off n c news w hl hn hbig hc h1
open Go.RowKit Go.Lib in
theorem Tryz.slices_Clone_nil (n c : Nat) (w : World) :
    Calls Tryz.prog 130 #[.slice none n c] w fun e w' => e = .returned (.slice none 0 0) ∧ w' = w := AnyE.slices_Clone_nil Tryz.laysSlE041_f130 n c w
end Go.Proofs
namespace Go.Proofs.YtaoioncjmfcolaaGreat
open Go.RowKit
theorem sub_bits (a b c d : Nat) (ha : a < 4294967296) (hb : b < 4294967296) (hc : c ≤ 1) (hd : d < 4294967296) (h : (d : Int) = ((a : Int) - b - c) % 4294967296) :
    ((((4294967295 ^^^ a) &&& b ||| (4294967295 ^^^ (a ^^^ b)) &&& d) / 2147483648 : Nat) : Int) = -(((a : Int) - b - c) / 4294967296) := by
 have e : ((4294967295 ^^^ a) &&& b ||| (4294967295 ^^^ (a ^^^ b)) &&& d) / 2 ^ 31 = (1 ^^^ (a / 2 ^ 31)) &&& (b / 2 ^ 31) ||| (1 ^^^ ((a / 2 ^ 31) ^^^ (b / 2 ^ 31))) &&& (d / 2 ^ 31) := by
  rw [Nat.or_div_two_pow, Nat.and_div_two_pow, Nat.and_div_two_pow, Nat.xor_div_two_pow, Nat.xor_div_two_pow, Nat.xor_div_two_pow]
 rw [show (2147483648 : Nat) = 2 ^ 31 from rfl, e]
 have hA : a / 2 ^ 31 = 0 ∨ a / 2 ^ 31 = 1 := by omega
 have hB : b / 2 ^ 31 = 0 ∨ b / 2 ^ 31 = 1 := by omega
 have hD : d / 2 ^ 31 = 0 ∨ d / 2 ^ 31 = 1 := by omega
 rcases hA with hA | hA <;> rcases hB with hB | hB <;> rcases hD with hD | hD <;> rw [hA, hB, hD] <;> simp <;> omega
theorem sub_bitsI (x y c : Int) (hx : U32 x) (hy : U32 y) (hc : 0 ≤ c ∧ c ≤ 1) :
    bits .or .u32 (bits .and .u32 (bits .xor .u32 IntKind.u32.max x) y) (bits .and .u32 (bits .xor .u32 IntKind.u32.max (bits .xor .u32 x y)) ((x - y - c) % 4294967296)) / 2147483648 = -((x - y - c) / 4294967296) := by
 unfold U32 at hx hy
 obtain ⟨a, rfl⟩ := Int.eq_ofNat_of_zero_le hx.1
 obtain ⟨b, rfl⟩ := Int.eq_ofNat_of_zero_le hy.1
 obtain ⟨c, rfl⟩ := Int.eq_ofNat_of_zero_le hc.1
 obtain ⟨d, hd⟩ := Int.eq_ofNat_of_zero_le (Int.emod_nonneg ((a : Int) - b - c) (show (4294967296 : Int) ≠ 0 by decide))
 have hd1 := Int.emod_lt_of_pos ((a : Int) - b - c) (show (0 : Int) < 4294967296 by decide)
 rw [hd] at hd1 ⊢
 have xl : a ^^^ b < 2 ^ 32 := Nat.xor_lt_two_pow (by omega) (by omega)
 have x1 : 4294967295 ^^^ a < 2 ^ 32 := Nat.xor_lt_two_pow (by decide) (by omega)
 have x2 : 4294967295 ^^^ (a ^^^ b) < 2 ^ 32 := Nat.xor_lt_two_pow (by decide) xl
 have a1 : (4294967295 ^^^ a) &&& b < 2 ^ 32 := Nat.and_lt_two_pow _ (by omega)
 have a2 : (4294967295 ^^^ (a ^^^ b)) &&& d < 2 ^ 32 := Nat.and_lt_two_pow _ (by omega)
 rw [show IntKind.u32.max = ((4294967295 : Nat) : Int) from rfl, u32_xor_nat _ a (by omega) (by omega), u32_xor_nat a b (by omega) (by omega), u32_and_nat _ _ (by omega) (by omega),
  u32_xor_nat _ _ (by decide) (by omega), u32_and_nat _ _ (by omega) (by omega), u32_or_nat _ _ (by omega) (by omega)]
 exact sub_bits a b c d (by omega) (by omega) (by omega) (by omega) hd.symm
theorem w_sub32 (x y c : Int) (w : World) (hx : U32 x) (hy : U32 y) (hc : 0 ≤ c ∧ c ≤ 1) :
    Calls Tryz.prog 164 #[.int .u32 x, .int .u32 y, .int .u32 c] w fun e w' => e = .returned (.tuple #[.int .u32 ((x - y - c) % 4294967296), .int .u32 (-((x - y - c) / 4294967296))]) ∧ w' = w := by
 rw [← sub_bitsI x y c hx hy hc]
 unfold U32 at hx hy
 go_enter Tryz.func164, Tryz.ntmps164
 go_wp2
 go_ret2
 exact ⟨rfl, rfl⟩
theorem bitLen_spec : ∀ (k n : Nat), n < 2 ^ k → k ≤ 64 → n ≠ 0 → 0 < Lib.bitLen n ∧ n < 2 ^ Lib.bitLen n ∧ 2 ^ (Lib.bitLen n - 1) ≤ n
 | 0, n, h, _, h0 => absurd h (by omega)
 | k + 1, n, h, hk, h0 => by
  have h64 : n < 2 ^ 64 := Nat.lt_of_lt_of_le h (Nat.pow_le_pow_right (by decide) hk)
  rw [Lib.bitLen_half n h0 h64]
  by_cases h2 : n / 2 = 0
  ·have : n = 1 := by omega
   subst this
   decide
  ·obtain ⟨a, b, c⟩ := bitLen_spec k (n / 2) (by rw [Nat.pow_succ] at h; omega) (by omega) h2
   refine ⟨by omega, ?_, ?_⟩
   ·rw [Nat.pow_add]; omega
   ·rw [Nat.add_sub_cancel_left, show Lib.bitLen (n / 2) = (Lib.bitLen (n / 2) - 1) + 1 from by omega, Nat.pow_succ]
    omega
theorem w_lead (x : Int) (w : World) (hx : U32 x) (h0 : x ≠ 0) :
    Calls Tryz.prog 139 #[.int .u32 x] w fun e w' => ∃ s : Nat, e = .returned (.int .i64 s) ∧ s < 32 ∧ x * 2 ^ s < 4294967296 ∧ 2147483648 ≤ x * 2 ^ s ∧ w' = w := by
 unfold U32 at hx
 refine (Tryz.bits_LeadingZeros32 x w hx.1 (by omega)).mono ?_
 rintro e w' ⟨rfl, rfl⟩
 obtain ⟨n, rfl⟩ := Int.eq_ofNat_of_zero_le hx.1
 have b1 := Lib.bitLen_le n 32 (by omega) (by omega)
 obtain ⟨b0, b2, b3⟩ := bitLen_spec 32 n (by omega) (by decide) (by omega)
 rw [Int.toNat_natCast]
 generalize Lib.bitLen n = L at *
 have e1 : (2 : Nat) ^ L * 2 ^ (32 - L) = 4294967296 := by rw [← Nat.pow_add, Nat.add_sub_cancel' b1]
 have e2 : (2 : Nat) ^ (L - 1) * 2 ^ (32 - L) = 2147483648 := by rw [← Nat.pow_add, show L - 1 + (32 - L) = 31 from by omega]
 have e3 : (n : Int) * 2 ^ (32 - L) = ((n * 2 ^ (32 - L) : Nat) : Int) := by rw [Int.natCast_mul, Int.natCast_pow]; rfl
 refine ⟨32 - L, by rw [Int.ofNat_sub b1]; rfl, by omega, ?_, ?_, rfl⟩
 ·have := Nat.mul_lt_mul_of_pos_right b2 (Nat.two_pow_pos (32 - L))
  rw [e1] at this; rw [e3]; exact Int.ofNat_lt.2 this
 ·have := Nat.mul_le_mul_right (2 ^ (32 - L)) b3
  rw [e2] at this; rw [e3]; exact Int.ofNat_le.2 this
theorem or_low (s : Nat) (hs : s < 32) (hi lo : Int) (h0 : 0 ≤ hi) (l0 : 0 ≤ lo) (l1 : lo < 2 ^ s) (h1 : hi < 4294967296) : bits .or .u64 lo (hi * 2 ^ s) = lo + hi * 2 ^ s ∧ lo + hi * 2 ^ s < 2 ^ s * 4294967296 ∧ 0 ≤ lo + hi * 2 ^ s ∧ hi * 2 ^ s < 18446744073709551616 ∧ lo + hi * 2 ^ s < 18446744073709551616 ∧ 0 ≤ hi * 2 ^ s := by
 obtain ⟨a, rfl⟩ := Int.eq_ofNat_of_zero_le h0
 obtain ⟨b, rfl⟩ := Int.eq_ofNat_of_zero_le l0
 have e3 : (a : Int) * 2 ^ s = ((2 ^ s * a : Nat) : Int) := by rw [Int.natCast_mul, Int.natCast_pow, Int.mul_comm]; rfl
 have e4 : (2 : Int) ^ s * 4294967296 = ((2 ^ s * 4294967296 : Nat) : Int) := by rw [Int.natCast_mul, Int.natCast_pow]; rfl
 have hb : b < 2 ^ s := by
  have : ((b : Nat) : Int) < ((2 ^ s : Nat) : Int) := by rw [Int.natCast_pow]; exact l1
  omega
 have hp : 2 ^ s ≤ 2 ^ 31 := Nat.pow_le_pow_right (by decide) (by omega)
 rw [e3, e4]
 have m1 : 2 ^ s * (a + 1) ≤ 2 ^ s * 4294967296 := Nat.mul_le_mul_left _ (by omega)
 rw [Nat.mul_add] at m1
 have e := Nat.two_pow_add_eq_or_of_lt hb a
 rw [u64_or_nat _ _ (by omega) (by omega), Nat.or_comm, ← e]
 omega
theorem left_step {X zs : List Int} {j s : Nat} {z x : Int} {D : Nat} (hv : val zs + BB ^ (D + j) * z = BB ^ D * (val (X.take j) * 2 ^ s)) (hl : zs.length = D + j) (hx : X.getD j 0 = x) :
    val (zs ++ [(z + x * 2 ^ s) % 4294967296]) + BB ^ (D + (j + 1)) * ((z + x * 2 ^ s) / 4294967296) = BB ^ D * (val (X.take (j + 1)) * 2 ^ s) := by
 rw [val_take_succ', hx, val_append, hl]
 simp only [val]
 have hm := lim_mod (z + x * 2 ^ s)
 have h4 : BB = 4294967296 := rfl
 rw [h4] at hm hv ⊢
 generalize (z + x * 2 ^ s) % 4294967296 = r at hm ⊢
 generalize (z + x * 2 ^ s) / 4294967296 = q at hm ⊢
 rw [show D + (j + 1) = (D + j) + 1 from rfl, Int.pow_succ, show (4294967296 : Int) ^ (D + j) = 4294967296 ^ D * 4294967296 ^ j from Int.pow_add .. ] at *
 generalize (4294967296 : Int) ^ D = A at *
 generalize (4294967296 : Int) ^ j = C at *
 generalize (2 : Int) ^ s = S at *
 generalize val (X.take j) = V at *
 generalize val zs = U at *
 have h2 : A * C * z = A * (V * S) - U := by omega
 have : A * C * (r + 4294967296 * q) = A * C * (z + x * S) := by rw [hm]
 grind
theorem left_end {zs : List Int} {z : Int} (n : Nat) (hl : zs.length = n) : val (zs ++ [z]) = val zs + BB ^ n * z := by
 rw [val_append, hl]; simp [val]
theorem bb_two (D s : Nat) (v : Int) : BB ^ D * (v * 2 ^ s) = v * 2 ^ (32 * D + s) := by
 have : BB ^ D = 2 ^ (32 * D) := by
  rw [Int.pow_mul]; rfl
 rw [this, Int.pow_add]
 grind
theorem two_pow_le {s t : Nat} (h : s ≤ t) : (2 : Int) ^ s ≤ 2 ^ t := by
 have := Nat.pow_le_pow_right (n := 2) (by decide) h
 have e := fun n : Nat => Int.natCast_pow 2 n
 rw [show ((2 : Nat) : Int) = 2 from rfl] at e
 rw [← e, ← e]
 exact Int.ofNat_le.2 this
theorem cell_one_l (w : World) (x : Value) (t : TypeId) : ∀ j u, [x][j]? = some u → (w.alloc (.cells #[x] t)).cell? ((⟨w.heap.size, 0, none⟩ : Addr).add j) = some u := by
 intro j u hj
 match j, hj with
 | 0, hj =>
  simp at hj
  subst hj
  rw [show (⟨w.heap.size, 0, none⟩ : Addr).add 0 = ⟨w.heap.size, 0, none⟩ from by simp [Addr.add], cell_al, if_pos rfl]
  rfl
 | j + 1, hj => simp at hj
theorem w_left (va : Value) (X : List Int) (d s : Nat) (w : World) (ha : Lim w va X) (hx : X.length ≤ 100000) (hs : s < 32) (hk : d ≤ 1000000) :
    Calls Tryz.prog 82 #[va, .int .i64 (32 * d + s)] w fun e w' => ∃ g cap zs, e = .returned (.slice (some ⟨g, 0, none⟩) zs.length cap) ∧ O32 w' w.heap.size g zs.length cap zs ∧ Lb zs ∧ val zs = val X * 2 ^ (32 * d + s) ∧ zs.length = d + X.length + 1 ∧ Ext w w' := by
  obtain ⟨aoA, bA, oA, cA, rfl, a1, a2, a3, a4, a5, a6⟩ := ha.view
  have lA := ha.lb
  obtain ⟨i0, hi, hz0, hz1, hz2⟩ := info_parts info81
  have hq1 : (32 * (d : Int) + s) / 32 = d := by omega
  have hq2 : (32 * (d : Int) + s) % 32 = s := by omega
  go_enter Tryz.func82, Tryz.ntmps82
  go_wp2_with (at_make; refine wpList_make_lc _ rfl _ _ 22 rfl w.heap.size 54 i0 (.int .u32 0) 1 Tryz.underlying22 hi hz0 hz1 .i64 .i64 _ _ d (d + X.length + 1) rfl rfl (by omega) (by omega) (by omega) c_26 c_17 (Nat.le_refl _) ?_; intro w0 hown0 hgrow0)
  have hR0 : O32 w0 w.heap.size w.heap.size d (d + X.length + 1) (List.replicate d 0) := O32.made (by omega) hown0
  have hE0 : Ext w w0 := Ext.grown (Ext.refl w) hgrow0
  clear hown0 hgrow0
  go_loopw [5, 6, 20] (fun v c i wr => ∃ (j : Nat) (z : Int) (zs : List Int), j ≤ X.length ∧ v = .slice (some ⟨w.heap.size, 0, none⟩) (d + j) (d + X.length + 1) ∧ c = .int .u64 z ∧ i = .int .i64 j ∧ 0 ≤ z ∧ z < 2 ^ s ∧ zs.length = d + j ∧ Lb zs ∧ val zs + BB ^ (d + j) * z = BB ^ d * (val (X.take j) * 2 ^ s) ∧
      Hid (O32 wr w.heap.size w.heap.size (d + j) (d + X.length + 1) zs) ∧ Hid (Ext w wr)) (fun _ _ i _ => X.length - (intOf i).toNat)
  case atStart => exact ⟨0, 0, List.replicate d 0, Nat.zero_le _, rfl, rfl, rfl, by decide, Int.pow_pos (by decide), by simp, fun y hy => by rw [List.eq_of_mem_replicate hy]; decide, by simp [val, val_zeros], hR0, hE0⟩
  case round =>
    obtain ⟨j, z, zs, hj, rfl, rfl, rfl, z0, z1, hzl, hzb, hv, HR, HE⟩ := hrel
    by_cases hjx : j < X.length
    · have eA := a1 (by omega)
      subst eA
      have hca := (HE.out.cells.1 _ (oA + j) (a4 (by omega))).trans (a5 j hjx)
      have hxk : U32 (X.getD j 0) := lA.getD j
      obtain ⟨x, ex⟩ : ∃ x, X.getD j 0 = x := ⟨_, rfl⟩
      have hq := left_step hv hzl ex
      rw [ex] at hca hxk
      unfold U32 at hxk
      obtain ⟨o1, o2, o3, o4, o5, o6⟩ := or_low s hs x z hxk.1 z0 z1 hxk.2
      replace hq : Hid _ := hq
      clear ex hv a5
      have hlt := HR.out.parts
      go_wp2_with (at_builtin; refine wpList_append_fits _ rfl _ _ 22 rfl w.heap.size 54 i0 1 Tryz.underlying22 hi hz1 w.heap.size (d + j) (d + X.length + 1) (zs.map (Value.int .u32)) rfl (O32.alloc HR.out _) ⟨wr.heap.size, 0, none⟩ 1 1 [Value.int .u32 ((z + x * 2 ^ s) % 4294967296)] rfl rfl (cell_one_l _ _ _) c_14 (by omega) ?_; intro w1 hown1 hgrow1)
      have hR1 := O32.appended hown1
      have hE1 : Ext w w1 := Ext.grownAt (HE.out.alloc _) hgrow1 (Nat.le_refl _)
      clear hown1 hgrow1
      replace hR1 : Hid _ := hR1
      replace hE1 : Hid _ := hE1
      go_roundw
      case rel => exact ⟨j + 1, _, zs ++ [(z + x * 2 ^ s) % 4294967296], hjx, rfl, rfl, by go_num, Int.ediv_nonneg o3 (by decide), Int.ediv_lt_of_lt_mul (by decide) o2, by simp [hzl]; omega, hzb.snoc (U32.mod _), hq.out, hR1, hE1⟩
      case measure => simp [intOf]; omega
    · have hjl : j = X.length := by omega
      subst hjl
      have hz32 : z < 4294967296 := by
        have : (2 : Int) ^ s ≤ 2 ^ 32 := two_pow_le (by omega)
        omega
      have hlt := HR.out.parts
      go_wp2_with (at_builtin; refine wpList_append_fits _ rfl _ _ 22 rfl w.heap.size 54 i0 1 Tryz.underlying22 hi hz1 w.heap.size (d + X.length) (d + X.length + 1) (zs.map (Value.int .u32)) rfl (O32.alloc HR.out _) ⟨wr.heap.size, 0, none⟩ 1 1 [Value.int .u32 z] rfl rfl (cell_one_l _ _ _) c_14 (by omega) ?_; intro w1 hown1 hgrow1)
      have hR1 := O32.appended hown1
      have hE1 : Ext w w1 := Ext.grownAt (HE.out.alloc _) hgrow1 (Nat.le_refl _)
      have hlen : (zs ++ [z]).length = d + X.length + 1 := by simp [hzl]
      go_ret
      refine ⟨w.heap.size, d + X.length + 1, zs ++ [z], by rw [hlen]; rfl, by rw [hlen]; exact hR1, hzb.snoc ⟨z0, hz32⟩, ?_, hlen, hE1⟩
      rw [left_end _ hzl, hv, List.take_length, bb_two]
end Go.Proofs.YtaoioncjmfcolaaGreat
