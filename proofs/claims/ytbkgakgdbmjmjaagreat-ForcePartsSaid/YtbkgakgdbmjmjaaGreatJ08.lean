/- Limbs: compared. -/
import Derived.Test.YtbkgakgdbmjmjaaGreatJ07
import Derived.Deep.DeepCutAuto
import Derived.Deep.CutBlock
set_option linter.unusedSimpArgs false
set_option linter.unusedVariables false
set_option maxRecDepth 100000
set_option maxHeartbeats 4000000
namespace Go.Proofs.YtbkgakgdbmjmjaaGreat
open Go.RowKit Go.Shelf
attribute [local go_sem] Oper.semAt_some
def CI (s : Nat) (vb : Value) (X Y : List Int) (pre : List (DN X.length)) (W : World) : Prop :=
 (∀ y ∈ pre, X.getD y.1 0 = Y.getD y.1 0) ∧ W.cell? ⟨s, 0, none⟩ = some vb ∧ W.cell? ⟨s + 1, 0, none⟩ = some (.int .i64 0) ∧ W.frozen? ⟨s + 1, 0, none⟩ = false
def CX (s : Nat) (X Y : List Int) (c : Code) (pre : List (DN X.length)) (W : World) : Prop :=
 c = .ret ∧ ∃ q x, pre = q ++ [x] ∧ (∀ y ∈ q, X.getD y.1 0 = Y.getD y.1 0) ∧ ((X.getD x.1 0 < Y.getD x.1 0 ∧ W.cell? ⟨s + 1, 0, none⟩ = some (.int .i64 (-1))) ∨ (Y.getD x.1 0 < X.getD x.1 0 ∧ W.cell? ⟨s + 1, 0, none⟩ = some (.int .i64 1)))
theorem compare_in (F : Fence) (n : Nat) (hC : F.fn 236) (hD : F.fn 257) (hK : F.fn 271) (hro : F.round = none) (hn : 4 ≤ n) (va vb : Value) (X Y : List Int) (w : World) (ha : Lim w va X) (hb : Lim w vb Y) (hl : X.length = Y.length) :
    CallsIn F n Tryz.prog 236 #[va, vb] w fun e w' => e = .returned (.int .i64 (cmpI (val X) (val Y))) ∧ Ext w w' := by
  obtain ⟨aoA, bA, oA, cA, rfl, a1, a2, a3, a4, a5, a6⟩ := ha.view
  obtain ⟨aoB, bB, oB, cB, rfl, b1, b2, b3, b4, b5, b6⟩ := hb.view
  have h1 : 1 ≤ n := by omega
  have lX := ha.lb
  have lY := hb.lb
  have HL : Hid (X.length = Y.length) := hl
  rw [hl] at ha
  refine callsIn_of_wp_marks Tryz.func236 rfl hC ?_ hro
  simp only [Tryz.ntmps236, List.size_toArray, List.length_cons, List.length_nil, Nat.reduceAdd, Nat.reduceSub, Array.replicate_succ, Array.replicate_zero, List.push_toArray, List.append_toArray, List.nil_append, List.cons_append]
  gi_wp2_with (gi_at_call 257; refine (down_in F (n - 1) hD hro _ _ _ _).mono ?_; rintro e w' ⟨rfl, rfl⟩)
  have c0 := cell_new_l w (.slice aoB Y.length cB) 157
  have c1 := cell_new_l (w.alloc (.cells #[.slice aoB Y.length cB] 157)) (.int .i64 0) 3
  have c2 := cell_new_l ((w.alloc (.cells #[.slice aoB Y.length cB] 157)).alloc (.cells #[.int .i64 0] 3)) (.slice aoA Y.length cA) 157
  simp only [World.size_alloc] at c1 c2
  have hB0 : Below w.heap.size w (((w.alloc (.cells #[.slice aoB Y.length cB] 157)).alloc (.cells #[.int .i64 0] 3)).alloc (.cells #[.slice aoA Y.length cA] 157)) := (((Below.refl _ w).alloc (Nat.le_refl _) _).alloc (by simp) _).alloc c_39 _
  refine wpIn_rangeFunc_ownF hro h1 (gf := 271) (lb := #[.pointer (some ⟨w.heap.size + 1 + 1, 0, none⟩)]) rfl hK (enters_of Tryz.func271 c_11 rfl)
    (down_stops F (n - 1) hK hro (by omega) (w.heap.size + 1 + 1) w.heap.size w _ _ X ha rfl hB0 (by simp) c2.1) K2.trans (k2_b c_39 (by simp)) (Below.refl _ _) (fun _ => rfl)
    (fun pre W => CI w.heap.size (.slice aoB Y.length cB) X Y pre W ∧ Below w.heap.size w W) (fun c pre W => CX w.heap.size X Y c pre W ∧ Below w.heap.size w W)
    (OwnFrom.and (Own.from (fun s A B row hs hg hr => ⟨hs.1, cell_kept hs.2.1 hg hr, cell_kept hs.2.2.1 hg hr, (frozen_kept hs.2.2.1 hg hr).trans hs.2.2.2⟩) _) (ownFrom_below (Nat.le_refl _) c_39))
    (fun c => OwnFrom.and (Own.from (fun s A B row hs hg hr => ⟨hs.1, by
        obtain ⟨q, x, e, he, h | h⟩ := hs.2
        · exact ⟨q, x, e, he, .inl ⟨h.1, cell_kept h.2 hg hr⟩⟩
        · exact ⟨q, x, e, he, .inr ⟨h.1, cell_kept h.2 hg hr⟩⟩⟩) _) (ownFrom_below (Nat.le_refl _) c_39))
    ⟨⟨by simp, cell_alloc_l _ (cell_alloc_l _ c0.1), cell_alloc_l _ c1.1, frozen_alloc_l _ c1.1 c1.2⟩, hB0⟩
    (fun x => { tmps := #[.slice aoA Y.length cA, .slice aoB Y.length cB, undef, .pointer (some ⟨w.heap.size, 0, none⟩), .pointer (some ⟨w.heap.size + 1, 0, none⟩), .int .i64 (x.1 : Int), .int .u32 (X.getD x.1 0), .slice aoA Y.length cA, .int .i64 Y.length, .slice aoB Y.length cB, .int .i64 Y.length, .bool false, undef, undef, undef, undef, undef, .slice aoA Y.length cA, .func (.func 271) #[] #[.pointer (some ⟨w.heap.size + 1 + 1, 0, none⟩)], .int .i64 (x.1 : Int), .int .u32 (X.getD x.1 0), undef, undef, undef, undef, undef, undef, undef, undef, undef, undef, undef, undef], defers := [] }) ?assign ?body ?done ?stop
  case assign =>
    intro l x W K hK
    gi_wp2
    exact hK
  case body =>
    rintro l pre x W ⟨⟨hp, hcb, hcr, hfr⟩, hB⟩ hlen
    obtain ⟨j, hj⟩ := x
    have hjl : j < X.length := hj (by omega)
    have hjy : j < Y.length := by have := HL.out; omega
    have eB := b1 (by omega)
    subst eB
    have hcy := (hB.cell (p := ⟨bB, oB + j, none⟩) (b4 (by omega))).trans (b5 j hjy)
    have hex : (fun j => X.getD j 0) j = X.getD j 0 := rfl
    obtain ⟨z, ez⟩ : ∃ z, X.getD j 0 = z := ⟨_, rfl⟩
    obtain ⟨y, ey⟩ : ∃ y, Y.getD j 0 = y := ⟨_, rfl⟩
    dsimp only
    rw [ez]
    rw [ey] at hcy
    clear hl hex b5 a5
    gi_wp2
    · rename_i hz
      exact ⟨KeepsOthers.setCell _ _ _, ⟨rfl, pre, ⟨j, hj⟩, rfl, hp, .inl ⟨by dsimp only; rw [ez, ey]; exact hz, World.cell?_setCell_same' _ _ _ (by rw [hcr]; rfl)⟩⟩, hB.setCell (p := ⟨w.heap.size + 1, 0, none⟩) (by simp) _⟩
    · rename_i hz1 hz
      exact ⟨KeepsOthers.setCell _ _ _, ⟨rfl, pre, ⟨j, hj⟩, rfl, hp, .inr ⟨by dsimp only; rw [ez, ey]; exact hz, World.cell?_setCell_same' _ _ _ (by rw [hcr]; rfl)⟩⟩, hB.setCell (p := ⟨w.heap.size + 1, 0, none⟩) (by simp) _⟩
    · rename_i hz1 hz
      exact ⟨KeepsOthers.refl _, K2.refl _ _ _, ⟨fun u hu => (List.mem_append.1 hu).elim (hp u) (fun e => by have e2 := List.mem_singleton.1 e; subst e2; dsimp only; rw [ez, ey]; omega), hcb, hcr, hfr⟩, hB⟩
  case done =>
    rintro D ys W hD hys ⟨⟨hne, _, hcr, hfr⟩, hB⟩ hK2
    have hv : cmpI (val X) (val Y) = 0 := cmp_eq (by rw [all_eq HL.out hys hne])
    clear hl
    gi_wp2
    have hK' := (KeepsOthers.setCell W ⟨w.heap.size + 1, 0, none⟩ (.int .i64 0)).same D _ hK2 rfl
    refine ⟨by simp, .inl ⟨_, _, rfl, run_takeDeferred hK', ?_⟩⟩
    have hc5 := cell_kept (World.cell?_setCell_same' W ⟨w.heap.size + 1, 0, none⟩ (.int .i64 0) (by rw [hcr]; rfl)) (grownBy_putObj' _ D (.deferred none)) (fun r e => by cases e; exact ⟨_, hK', rfl⟩)
    refine ⟨.int .i64 0, ?_, by rw [hv], (hB.setCell (p := ⟨w.heap.size + 1, 0, none⟩) (by simp) _).trans (belowK_b (w := w) (Nat.le_refl _) _ D _ _ (by simp at hD; omega) hK' rfl rfl)⟩
    simp [results, Tryz.f236, go_sem, hc5]
  case stop =>
    rintro D c pre W hD ⟨k, hk, hpre⟩ ⟨⟨rfl, q, x, rfl, he, h | h⟩, hB⟩ hK2
    · have hv : cmpI (val X) (val Y) = -1 := cmp_lt ((stop_lt HL.out lX lY hk hpre he).1 h.1)
      have hcr := h.2
      clear hl
      gi_wp2
      refine ⟨by simp, .inl ⟨_, _, rfl, run_takeDeferred hK2, ?_⟩⟩
      have hc5 := cell_kept hcr (grownBy_putObj' _ D (.deferred none)) (fun r e => by cases e; exact ⟨_, hK2, rfl⟩)
      refine ⟨.int .i64 (-1), ?_, by rw [hv], hB.trans (belowK_b (w := w) (Nat.le_refl _) W D _ _ (by simp at hD; omega) hK2 rfl rfl)⟩
      simp [results, Tryz.f236, go_sem, hc5]
    · have hv : cmpI (val X) (val Y) = 1 := cmp_gt ((stop_lt HL.out lX lY hk hpre he).2 h.1)
      have hcr := h.2
      clear hl
      gi_wp2
      refine ⟨by simp, .inl ⟨_, _, rfl, run_takeDeferred hK2, ?_⟩⟩
      have hc5 := cell_kept hcr (grownBy_putObj' _ D (.deferred none)) (fun r e => by cases e; exact ⟨_, hK2, rfl⟩)
      refine ⟨.int .i64 1, ?_, by rw [hv], hB.trans (belowK_b (w := w) (Nat.le_refl _) W D _ _ (by simp at hD; omega) hK2 rfl rfl)⟩
      simp [results, Tryz.f236, go_sem, hc5]
end Go.Proofs.YtbkgakgdbmjmjaaGreat
namespace Go.Proofs.YtbkgakgdbmjmjaaGreat
open Go.RowKit
theorem w_compare (va vb : Value) (X Y : List Int) (w : World) (ha : Lim w va X) (hb : Lim w vb Y) (hX : Nz X) (hY : Nz Y) :
    Calls Tryz.prog 236 #[va, vb] w fun e w' => e = .returned (.int .i64 (cmpI (val X) (val Y))) ∧ Ext w w' := by
 by_cases hl : X.length = Y.length
 ·exact (callsIn_wide (n := 6)).1 (compare_in Fence.wide 6 trivial trivial trivial rfl (by omega) va vb X Y w ha hb hl)
 have lX := ha.lb
 have lY := hb.lb
 obtain ⟨aoA, bA, oA, cA, rfl, a1, a2, a3, a4, a5, a6⟩ := ha.view
 obtain ⟨aoB, bB, oB, cB, rfl, b1, b2, b3, b4, b5, b6⟩ := hb.view
 rcases Nat.lt_or_ge X.length Y.length with h | h
 ·have hv : cmpI (val X) (val Y) = -1 := cmp_lt (val_lt_of_len lX lY hY h)
  go_enter Tryz.func236, Tryz.ntmps236
  go_wp2_with fail
  refine bodyPost_ret (v := .int .i64 (-1)) ?_ rfl ⟨by rw [hv], ?_⟩
  ·simp [results, Tryz.results236, go_sem, ↓IntWalk.iteOmega]
  ·exact b_6
 ·have hv : cmpI (val X) (val Y) = 1 := cmp_gt (val_lt_of_len lY lX hX (by omega))
  go_enter Tryz.func236, Tryz.ntmps236
  go_wp2_with fail
  refine bodyPost_ret (v := .int .i64 1) ?_ rfl ⟨by rw [hv], ?_⟩
  ·simp [results, Tryz.results236, go_sem, ↓IntWalk.iteOmega]
  ·exact b_6
theorem w_Clone (va : Value) (X : List Int) (w : World) (ha : Lim w va X) (hx : X.length ≤ 100000) :
    Calls Tryz.prog 235 #[va] w fun e w' => ∃ u, e = .returned u ∧ Lim w' u X ∧ Ext w w' := by
 have lX := ha.lb
 rcases ha.2 with ⟨rfl, rfl⟩ | ⟨b, o, cap, rfl, h1, h2, h3, h4⟩
 ·have hq : ∀ w, (binOp .eql 157 (.slice none 0 0) (.slice none 0 0)).run Tryz.prog w = .ok (.bool true) w := fun _ => rfl
  go_enter Tryz.func235, Tryz.ntmps235
  go_wp2
  go_ret
  exact ⟨_, rfl, Lim.nil w, Ext.refl w⟩
 ·obtain ⟨i0, hi, hz0, hz1, hz2⟩ := info_parts info81
  go_enter Tryz.func235, Tryz.ntmps235
  have hq : ∀ w, (binOp .eql 157 (.slice (some ⟨b, o, none⟩) X.length cap) (.slice none 0 0)).run Tryz.prog w = .ok (.bool false) w := fun _ => rfl
  have hown : (w.alloc (.cells #[] 255)).ownsRow w.heap.size 255 1 (.slice (some ⟨w.heap.size, 0, none⟩) 0 0) 0 [] := World.ownsRow_lit w #[] 0 (Nat.le_refl _) (by decide) rfl
  have hnews : ∀ j u, (X.map (Value.int .u32))[j]? = some u → (w.alloc (.cells #[] 255)).cell? ((⟨b, o, none⟩ : Addr).add j) = some u := fun j u hu => by
   rw [List.getElem?_map] at hu
   cases hj : X[j]? with
   | none => rw [hj] at hu; cases hu
   | some x =>
    rw [hj] at hu
    have hjl : j < X.length := (List.getElem?_eq_some_iff.1 hj).1
    have := h4 j hjl
    rw [List.getD_eq_getElem?_getD, hj] at this
    rw [show (⟨b, o, none⟩ : Addr).add j = ⟨b, o + j, none⟩ from by simp [Addr.add], cell_al, if_neg (by omega), this]
    simpa using hu
  go_wp2_with (at_builtin; refine wpList_append_own _ rfl _ _ 157 rfl w.heap.size 255 i0 (.int .u32 0) 1 4 Tryz.underlying157 hi hz0 hz1 hz2 rfl (by decide) _ _ _ rfl hown ⟨b, o, none⟩ X.length cap (X.map (Value.int .u32)) rfl (by simp) hnews (ints_oneCell .u32 X) c_57 (by omega) (by simp) ?_; intro v' w1 hown' hgrow hnil)
  have hE : Ext w w1 := Below.grown (row := some w.heap.size) ((Ext.refl w).alloc _) hgrow (by simp) (fun k e => by cases e; exact Nat.le_refl _)
  rw [Nat.zero_add, List.nil_append] at hown'
  have hL := Lim.own' hown' lX (by omega)
  go_ret
  exact ⟨_, rfl, hL, hE⟩
theorem T_WI_1 {p : Prop} (h : p := by
 go_wp2_with fail
 go_roundw
 case rel => exact ⟨k + 1, hkn, by go_num, (c_43 : Ext _ _)⟩
 case measure => simp [intOf]; omega) : p := h
def NnAt (w : World) (b o : Nat) (m : Nat) : Prop := ∃ u, w.cell? ⟨b, o, none⟩ = some (.bool false) ∧ w.cell? ⟨b, o + 1, none⟩ = some u ∧ Lim w u (dig m)
def Small (m : Nat) : Prop := (dig m).length ≤ 4096
theorem last_ne {m : Nat} (h : 0 < (dig m).length) : ¬ (dig m).getD ((dig m).length - 1) 0 = 0 := by
 intro e
 refine dig_nz m ((dig m).getD ((dig m).length - 1) 0) ?_ e
 rw [List.getLast?_eq_getElem?, List.getD_eq_getElem?_getD, List.getElem?_eq_getElem (by omega)]; rfl
theorem w_checks (b n cap : Nat) (ms : Nat → Nat) (w : World) (hn : n ≤ 1000) (hb : b < w.heap.size) (h : ∀ i, i < n → NnAt w b (i * 2) (ms i)) (hs : ∀ i, i < n → Small (ms i)) :
    Calls Tryz.prog 193 #[.slice (some ⟨b, 0, none⟩) n cap] w fun e w' => e = .returned (.int .i64 0) ∧ Ext w w' := by
 go_enter Tryz.func193, Tryz.ntmps193
 go_wp2_with fail
 go_loopw [8] (fun i wr => ∃ k : Nat, k ≤ n ∧ i = .int .i64 k ∧ Hid (Ext w wr)) (fun i _ => n - (intOf i).toNat)
 case atStart => exact ⟨0, Nat.zero_le _, rfl, Ext.refl w⟩
 case round =>
  obtain ⟨k, hk, rfl, HE⟩ := hrel
  by_cases hkn : k < n
  ·obtain ⟨u, h1, h2, h3⟩ := h k hkn
   obtain ⟨ao, b1, o1, cap1, rfl, v1, v2, v3, v4, v5, v6⟩ := h3.view
   have hsm := hs k hkn
   unfold Small at hsm
   replace h1 := (HE.out.cells.1 b (k * 2) hb).trans h1
   replace h2 := (HE.out.cells.1 b (k * 2 + 1) hb).trans h2
   have hln := last_ne (m := ms k)
   have hwz := HE.out.size
   generalize dig (ms k) = ds at *
   rcases Nat.eq_zero_or_pos ds.length with h0 | h0
   ·rw [h0] at h2
    clear h hs
    exact T_WI_1
   ·have e := v1 h0
    subst e
    have hlw := v4 h0
    obtain ⟨q, eq⟩ : ∃ q, ds.length = q + 1 := ⟨ds.length - 1, by omega⟩
    have hl := v5 q (by omega)
    replace hln := hln h0
    rw [eq, Nat.add_sub_cancel] at hln
    obtain ⟨z, ez⟩ : ∃ z, ds.getD q 0 = z := ⟨_, rfl⟩
    rw [ez] at hl hln
    replace hl := (HE.out.cells.1 b1 (o1 + q) hlw).trans hl
    rw [eq] at h2 hsm
    have z1 : (z == 0) = false := by simpa using hln
    have z2 : decide ((4096 : Int) < (q : Int) + 1) = false := decide_eq_false (by omega)
    have z3 : ((q : Int) + 1 == 0) = false := by simp; omega
    clear h hs v5 v6 v4 v1 h3 v2
    exact T_WI_1
  ·clear h hs
   go_wp2_with fail
   go_ret
   exact ⟨rfl, HE.out⟩
def BX (w : World) (B : Nat) (L : List (Nat × Nat × Value)) (w0 : World) : Prop :=
 Ext w w0 ∧ (∀ p ∈ L, w0.cell? ⟨p.1, p.2.1, none⟩ = some p.2.2) ∧ (∃ a, w0.cell? ⟨B, 0, none⟩ = some a) ∧ (∃ a, w0.cell? ⟨B, 1, none⟩ = some a) ∧ (∀ o, w0.frozen? ⟨B, o, none⟩ = false) ∧ NoU w0 B ∧ B < w0.heap.size
theorem BX.base {w w0 : World} {B : Nat} {L : List (Nat × Nat × Value)} (h : BX w B L w0) : Ext w w0 := h.1
theorem BX.box {w w0 : World} {B : Nat} {L : List (Nat × Nat × Value)} (h : BX w B L w0) : (∃ a, w0.cell? ⟨B, 0, none⟩ = some a) ∧ (∃ a, w0.cell? ⟨B, 1, none⟩ = some a) ∧ (∀ o, w0.frozen? ⟨B, o, none⟩ = false) ∧ NoU w0 B ∧ B < w0.heap.size := h.2.2
theorem BX.get {w w0 : World} {B : Nat} {L : List (Nat × Nat × Value)} (h : BX w B L w0) (i : Nat) {b o : Nat} {v : Value} (hi : L[i]? = some (b, o, v)) : w0.cell? ⟨b, o, none⟩ = some v := h.2.1 (b, o, v) (List.mem_of_getElem? hi)
theorem BX.ext {w a w0 : World} {B : Nat} {L : List (Nat × Nat × Value)} (h : BX w B L a) (k : Ext a w0) : BX w B L w0 := by
 obtain ⟨h1, h2, ⟨a0, h3⟩, ⟨a1, h4⟩, h5, h6, h7⟩ := h
 have lt : ∀ {b o v}, a.cell? ⟨b, o, none⟩ = some v → b < a.heap.size := fun h => World.block_lt_of_cell? a _ h
 exact ⟨h1.trans k, fun p hp => (k.cells.1 p.1 p.2.1 (lt (h2 p hp))).trans (h2 p hp), ⟨a0, (k.cells.1 B 0 h7).trans h3⟩, ⟨a1, (k.cells.1 B 1 h7).trans h4⟩, fun o => (k.cells.2 B o h7).trans (h5 o), h6.ext h7 k, Nat.lt_of_lt_of_le h7 k.size⟩
theorem BX.drew {w w0 : World} {B : Nat} {L : List (Nat × Nat × Value)} (h : BX w B L w0) : BX w B L w0.drew := h.ext ((Ext.refl w0).drew)
theorem BX.set {w w0 : World} {B j : Nat} {L : List (Nat × Nat × Value)} {x : Value} (h : BX w B L w0) (hB : w.heap.size ≤ B) (hL : ∀ p ∈ L, p.1 ≠ B) (hx : ∀ z, x ≠ .int .u32 z) : BX w B L (w0.setCell ⟨B, j, none⟩ x) := by
 obtain ⟨h1, h2, ⟨a0, h3⟩, ⟨a1, h4⟩, h5, h6, h7⟩ := h
 have some' : ∀ o a, w0.cell? ⟨B, o, none⟩ = some a → ∃ c, (w0.setCell ⟨B, j, none⟩ x).cell? ⟨B, o, none⟩ = some c := fun o a ha => by
  rw [cell_sc]
  split
  ·rename_i e
   have : o = j := by have := congrArg Addr.off e; simpa using this
   subst this
   rw [ha]; exact ⟨x, rfl⟩
  ·exact ⟨a, ha⟩
 refine ⟨h1.setCell (p := ⟨B, j, none⟩) hB x, fun p hp => ?_, some' 0 a0 h3, some' 1 a1 h4, fun o => by rw [World.frozen?_setCell]; exact h5 o, h6.set hx, by simpa using h7⟩
 rw [cell_sc, if_neg]
 ·exact h2 p hp
 ·intro e; exact hL p hp c_60
theorem BX.other {w w0 : World} {B B' j : Nat} {L : List (Nat × Nat × Value)} {x : Value} (h : BX w B L w0) (hB : w.heap.size ≤ B') (hL : ∀ p ∈ L, p.1 ≠ B') (hne : B' ≠ B) (hx : ∀ z, x ≠ .int .u32 z) : BX w B L (w0.setCell ⟨B', j, none⟩ x) := by
 obtain ⟨h1, h2, ⟨a0, h3⟩, ⟨a1, h4⟩, h5, h6, h7⟩ := h
 have same : ∀ b o, b ≠ B' → (w0.setCell ⟨B', j, none⟩ x).cell? ⟨b, o, none⟩ = w0.cell? ⟨b, o, none⟩ := fun b o hb => by
  rw [cell_sc, if_neg (fun e => hb c_60)]
 exact ⟨h1.setCell (p := ⟨B', j, none⟩) hB x, fun p hp => (same _ _ (hL p hp)).trans (h2 p hp), ⟨a0, (same _ _ (Ne.symm hne)).trans h3⟩, ⟨a1, (same _ _ (Ne.symm hne)).trans h4⟩, fun o => by rw [World.frozen?_setCell]; exact h5 o, h6.set hx, by simpa using h7⟩
theorem T_WC_4 {p : Prop} (h : p := by
 rw [val_append, hzl]; simp only [val]
 rw [List.take_length, List.take_of_length_le (by omega)] at hv
 simpa using hv) : p := h
theorem T_WC_3 {p : Prop} (h : p := by
 go_roundw
 case rel => exact ⟨k + 1, _, _, hkx, rfl, by go_num, hnx.1, hnx.2, by simp [hzl], hzb.snoc (U32.mod _), hq.out, hst, hes⟩
 case measure => simp [intOf]; omega) : p := h
theorem T_WC_2 {p : Prop} (h : p := by
 have eB := b1 (by omega)
 subst eB
 have hcb := (HE.out.cells.1 _ (oB + k) (b4 (by omega))).trans (b5 k hky)
 rw [ey] at hcb
 clear ex ey hv a5 b5
 go_wp2_with (go_at_call 242; (with_reducible refine (w_add32 x y z _ hxk hyk ⟨z0, z1⟩).mono ?_); rintro e w2 ⟨rfl, rfl⟩)
 exact T_WC_3) : p := h
theorem T_WC_1 {p : Prop} (h : p := by
 have hy0 : y = 0 := by rw [← ey, List.getD_eq_getElem?_getD, List.getElem?_eq_none (by omega)]; rfl
 subst hy0
 simp only [Int.add_zero] at hst hes hq hnx
 clear ex ey hv a5 b5
 go_wp2_with (go_at_call 242; (with_reducible refine (w_add32 x 0 z _ hxk hyk ⟨z0, z1⟩).mono ?_); rintro e w2 ⟨rfl, rfl⟩)
 exact T_WC_3) : p := h
theorem w_plus (va vb : Value) (xs ys : List Int) (w : World) (ha : Lim w va xs) (hb : Lim w vb ys) (hx : xs.length ≤ 100000 ∧ ys.length ≤ 100000) :
    Calls Tryz.prog 195 #[va, vb] w fun e w' => ∃ u zs, e = .returned u ∧ Lim w' u zs ∧ val zs = val xs + val ys ∧ Ext w w' := by
  rcases Nat.lt_or_ge xs.length ys.length with hlt | hge
  ·
    obtain ⟨aoA, bA, oA, cA, rfl, a1, a2, a3, a4, a5, a6⟩ := hb.view
    obtain ⟨aoB, bB, oB, cB, rfl, b1, b2, b3, b4, b5, b6⟩ := ha.view
    have lA := hb.lb
    have lB := ha.lb
    obtain ⟨i0, hi, hz0, hz1, hz2⟩ := info_parts info81
    go_enter Tryz.func195, Tryz.ntmps195
    go_wp2_with (at_make; refine wpList_make_full _ rfl _ _ 157 rfl w.heap.size 255 i0 (.int .u32 0) 1 Tryz.underlying157 hi hz0 hz1 .i64 .i64 _ _ (ys.length + 1) rfl rfl (by omega) (by omega) c_74 c_57 (Nat.le_refl _) ?_; intro w0 hown0 hgrow0)
    have hR0 : R32 w0 w.heap.size w.heap.size (ys.length + 1) (List.replicate (ys.length + 1) 0) := R32.made hown0
    have hE0 : Ext w w0 := Ext.grown (Ext.refl w) hgrow0
    clear hown0 hgrow0
    go_loopw [6, 23] (fun c i wr => ∃ (k : Nat) (z : Int) (zs : List Int), k ≤ ys.length ∧ c = .int .u32 z ∧ i = .int .i64 k ∧ 0 ≤ z ∧ z ≤ 1 ∧ zs.length = k ∧ Lb zs ∧ val zs + BB ^ k * z = val (ys.take k) + val (xs.take k) ∧
        Hid (R32 wr w.heap.size w.heap.size (ys.length + 1) (zs ++ List.replicate (ys.length + 1 - k) 0)) ∧ Hid (Ext w wr)) (fun _ i _ => ys.length - (intOf i).toNat)
    case atStart => exact ⟨0, 0, [], Nat.zero_le _, rfl, rfl, by decide, by decide, rfl, Lb.nil, by simp [val], hR0, hE0⟩
    case round =>
      obtain ⟨k, z, zs, hk, rfl, rfl, z0, z1, hzl, hzb, hv, HR, HE⟩ := hrel
      have hg := HR.out.zero hzl (by omega)
      have hgf := HR.out.frozen k
      have hglt := HR.out.lt
      by_cases hkx : k < ys.length
      · have eA := a1 (by omega)
        subst eA
        have hca := (HE.out.cells.1 _ (oA + k) (a4 (by omega))).trans (a5 k hkx)
        have hxk : U32 (ys.getD k 0) := lA.getD k
        have hyk : U32 (xs.getD k 0) := lB.getD k
        obtain ⟨x, ex⟩ : ∃ x, ys.getD k 0 = x := ⟨_, rfl⟩
        obtain ⟨y, ey⟩ : ∃ y, xs.getD k 0 = y := ⟨_, rfl⟩
        have hq := plus_step hv hzl ex ey
        rw [ex] at hca hxk
        rw [ey] at hyk
        have hst := HR.out.step hzl (by omega) ((x + y + z) % 4294967296)
        have hes : Ext w (wr.setCell ⟨w.heap.size, k, none⟩ (.int .u32 ((x + y + z) % 4294967296))) := HE.out.setCell (p := ⟨w.heap.size, k, none⟩) (Nat.le_refl _) _
        have hnx : 0 ≤ (x + y + z) / 4294967296 ∧ (x + y + z) / 4294967296 ≤ 1 := by unfold U32 at hxk hyk; omega
        replace hst : Hid _ := hst
        replace hes : Hid _ := hes
        replace hq : Hid _ := hq
        by_cases hky : k < xs.length
        · exact T_WC_2
        · exact T_WC_1
      · have hkl : k = ys.length := by omega
        subst hkl
        have hu : U32 z := by unfold U32; omega
        have hst := HR.out.step hzl (by omega) z
        have hes : Ext w (wr.setCell ⟨w.heap.size, ys.length, none⟩ (.int .u32 z)) := HE.out.setCell (p := ⟨w.heap.size, ys.length, none⟩) (Nat.le_refl _) _
        have hvv : val (zs ++ [z]) = val ys + val xs := by
          exact T_WC_4
        rw [Nat.sub_self, List.replicate_zero, List.append_nil] at hst
        replace hst : Hid _ := hst
        replace hes : Hid _ := hes
        go_wp2_with fail
        go_ret
        exact ⟨_, zs ++ [z], rfl, R32.lim hst.out (hzb.snoc hu) (by omega), by rw [hvv, Int.add_comm], hes.out⟩
  ·
    obtain ⟨aoA, bA, oA, cA, rfl, a1, a2, a3, a4, a5, a6⟩ := ha.view
    obtain ⟨aoB, bB, oB, cB, rfl, b1, b2, b3, b4, b5, b6⟩ := hb.view
    have lA := ha.lb
    have lB := hb.lb
    obtain ⟨i0, hi, hz0, hz1, hz2⟩ := info_parts info81
    go_enter Tryz.func195, Tryz.ntmps195
    go_wp2_with (at_make; refine wpList_make_full _ rfl _ _ 157 rfl w.heap.size 255 i0 (.int .u32 0) 1 Tryz.underlying157 hi hz0 hz1 .i64 .i64 _ _ (xs.length + 1) rfl rfl (by omega) (by omega) c_74 c_57 (Nat.le_refl _) ?_; intro w0 hown0 hgrow0)
    have hR0 : R32 w0 w.heap.size w.heap.size (xs.length + 1) (List.replicate (xs.length + 1) 0) := R32.made hown0
    have hE0 : Ext w w0 := Ext.grown (Ext.refl w) hgrow0
    clear hown0 hgrow0
    go_loopw [6, 23] (fun c i wr => ∃ (k : Nat) (z : Int) (zs : List Int), k ≤ xs.length ∧ c = .int .u32 z ∧ i = .int .i64 k ∧ 0 ≤ z ∧ z ≤ 1 ∧ zs.length = k ∧ Lb zs ∧ val zs + BB ^ k * z = val (xs.take k) + val (ys.take k) ∧
        Hid (R32 wr w.heap.size w.heap.size (xs.length + 1) (zs ++ List.replicate (xs.length + 1 - k) 0)) ∧ Hid (Ext w wr)) (fun _ i _ => xs.length - (intOf i).toNat)
    case atStart => exact ⟨0, 0, [], Nat.zero_le _, rfl, rfl, by decide, by decide, rfl, Lb.nil, by simp [val], hR0, hE0⟩
    case round =>
      obtain ⟨k, z, zs, hk, rfl, rfl, z0, z1, hzl, hzb, hv, HR, HE⟩ := hrel
      have hg := HR.out.zero hzl (by omega)
      have hgf := HR.out.frozen k
      have hglt := HR.out.lt
      by_cases hkx : k < xs.length
      · have eA := a1 (by omega)
        subst eA
        have hca := (HE.out.cells.1 _ (oA + k) (a4 (by omega))).trans (a5 k hkx)
        have hxk : U32 (xs.getD k 0) := lA.getD k
        have hyk : U32 (ys.getD k 0) := lB.getD k
        obtain ⟨x, ex⟩ : ∃ x, xs.getD k 0 = x := ⟨_, rfl⟩
        obtain ⟨y, ey⟩ : ∃ y, ys.getD k 0 = y := ⟨_, rfl⟩
        have hq := plus_step hv hzl ex ey
        rw [ex] at hca hxk
        rw [ey] at hyk
        have hst := HR.out.step hzl (by omega) ((x + y + z) % 4294967296)
        have hes : Ext w (wr.setCell ⟨w.heap.size, k, none⟩ (.int .u32 ((x + y + z) % 4294967296))) := HE.out.setCell (p := ⟨w.heap.size, k, none⟩) (Nat.le_refl _) _
        have hnx : 0 ≤ (x + y + z) / 4294967296 ∧ (x + y + z) / 4294967296 ≤ 1 := by unfold U32 at hxk hyk; omega
        replace hst : Hid _ := hst
        replace hes : Hid _ := hes
        replace hq : Hid _ := hq
        by_cases hky : k < ys.length
        · exact T_WC_2
        · exact T_WC_1
      · have hkl : k = xs.length := by omega
        subst hkl
        have hu : U32 z := by unfold U32; omega
        have hst := HR.out.step hzl (by omega) z
        have hes : Ext w (wr.setCell ⟨w.heap.size, xs.length, none⟩ (.int .u32 z)) := HE.out.setCell (p := ⟨w.heap.size, xs.length, none⟩) (Nat.le_refl _) _
        have hvv : val (zs ++ [z]) = val xs + val ys := by
          exact T_WC_4
        rw [Nat.sub_self, List.replicate_zero, List.append_nil] at hst
        replace hst : Hid _ := hst
        replace hes : Hid _ := hes
        go_wp2_with fail
        go_ret
        exact ⟨_, zs ++ [z], rfl, R32.lim hst.out (hzb.snoc hu) (by omega), hvv, hes.out⟩
theorem w_times (va vb : Value) (X Y : List Int) (w : World) (ha : Lim w va X) (hb : Lim w vb Y) (hx : X.length ≤ 100000 ∧ Y.length ≤ 100000) :
    Calls Tryz.prog 231 #[va, vb] w fun e w' => ∃ u zs, e = .returned u ∧ Lim w' u zs ∧ val zs = val X * val Y ∧ Ext w w' := by
  obtain ⟨aoA, bA, oA, cA, rfl, a1, a2, a3, a4, a5, a6⟩ := ha.view
  obtain ⟨aoB, bB, oB, cB, rfl, b1, b2, b3, b4, b5, b6⟩ := hb.view
  have lA := ha.lb
  have lB := hb.lb
  obtain ⟨i0, hi, hz0, hz1, hz2⟩ := info_parts info81
  go_enter Tryz.func231, Tryz.ntmps231
  go_wp2_with (at_make; refine wpList_make_full _ rfl _ _ 157 rfl w.heap.size 255 i0 (.int .u32 0) 1 Tryz.underlying157 hi hz0 hz1 .i64 .i64 _ _ (X.length + Y.length) rfl rfl (by omega) (by omega) c_74 c_57 (Nat.le_refl _) ?_; intro w0 hown0 hgrow0)
  have hR0 : R32 w0 w.heap.size w.heap.size (X.length + Y.length) (List.replicate (X.length + Y.length) 0) := R32.made hown0
  have hE0 : Ext w w0 := Ext.grown (Ext.refl w) hgrow0
  clear hown0 hgrow0
  have he0 : List.replicate Y.length (0 : Int) ++ List.replicate (X.length - 0) 0 = List.replicate (X.length + Y.length) 0 := by rw [Nat.sub_zero, List.replicate_append_replicate, Nat.add_comm]
  go_loopw [19] (fun j wr => ∃ (i : Nat) (us : List Int), i ≤ X.length ∧ j = .int .i64 i ∧ us.length = i + Y.length ∧ Hid (Lb us) ∧ Hid (val us = val (X.take i) * val Y) ∧
      Hid (R32 wr w.heap.size w.heap.size (X.length + Y.length) (us ++ List.replicate (X.length - i) 0)) ∧ Hid (Ext w wr)) (fun j _ => X.length - (intOf j).toNat)
  case atStart => exact ⟨0, List.replicate Y.length 0, Nat.zero_le _, rfl, by simp, (fun x hx => by rw [List.eq_of_mem_replicate hx]; exact ⟨by decide, by decide⟩ : Lb _), (by rw [val_zeros]; simp [val] : _ = _), (by rw [he0]; exact hR0 : R32 ..), hE0⟩
  case round =>
    obtain ⟨i, us, hil, rfl, hul, HB, HV, HR, HE⟩ := hrel
    by_cases hix : i < X.length
    · have eA := a1 (by omega)
      subst eA
      have hca := (HE.out.cells.1 _ (oA + i) (a4 (by omega))).trans (a5 i hix)
      have hxk : U32 (X.getD i 0) := lA.getD i
      obtain ⟨x, ex⟩ : ∃ x, X.getD i 0 = x := ⟨_, rfl⟩
      rw [ex] at hca hxk
      go_wp2_with fail
      go_loopw [8, 26] (fun q j wi => ∃ (k : Nat) (c : Int) (ps : List Int), k ≤ Y.length ∧ q = .int .u64 c ∧ j = .int .i64 k ∧ 0 ≤ c ∧ c < 4294967296 ∧ ps.length = i + k ∧ Hid (Lb ps) ∧ Hid (val ps + BB ^ (i + k) * c = val (us.take (i + k)) + BB ^ i * (x * val (Y.take k))) ∧
          Hid (R32 wi w.heap.size w.heap.size (X.length + Y.length) (ps ++ (us.drop (i + k) ++ List.replicate (X.length - i) 0))) ∧ Hid (Ext w wi)) (fun _ j _ => Y.length - (intOf j).toNat)
      case atStart => exact ⟨0, 0, us.take i, Nat.zero_le _, rfl, rfl, by decide, by decide, by rw [List.length_take]; omega, HB.out.take _, (by simp [val] : _ = _), (by rw [Nat.add_zero, ← List.append_assoc, List.take_append_drop]; exact HR.out : R32 ..), HE⟩
      case round =>
        obtain ⟨k, c, ps, hky, rfl, rfl, c0, c1, hpl, PB, PV, PR, PE⟩ := hrel
        have hg := PR.out.cell (k := i + k)
        rw [row_get hpl] at hg
        have hgf := PR.out.frozen (i + k)
        have hglt := PR.out.lt
        by_cases hk : k < Y.length
        · have eB := b1 (by omega)
          subst eB
          have hcb := (PE.out.cells.1 _ (oB + k) (b4 (by omega))).trans (b5 k hk)
          have hyk : U32 (Y.getD k 0) := lB.getD k
          have hok : U32 (us.getD (i + k) 0) := HB.out.getD (i + k)
          replace hg := hg (by omega)
          obtain ⟨y, ey⟩ : ∃ y, Y.getD k 0 = y := ⟨_, rfl⟩
          obtain ⟨o, eo⟩ : ∃ o, us.getD (i + k) 0 = o := ⟨_, rfl⟩
          have hs := inner_step PV.out hpl ey eo
          rw [ey] at hcb hyk
          rw [eo] at hg hok
          have hpb := prod_bound hxk hyk
          have hst := PR.out.set (i + k) ((c + (x * y + o)) % 4294967296)
          rw [row_set hpl (by omega)] at hst
          have hes : Ext w (wr.setCell ⟨w.heap.size, i + k, none⟩ (.int .u32 ((c + (x * y + o)) % 4294967296))) := PE.out.setCell (p := ⟨w.heap.size, i + k, none⟩) (Nat.le_refl _) _
          have hnx : 0 ≤ (c + (x * y + o)) / 4294967296 ∧ (c + (x * y + o)) / 4294967296 < 4294967296 := by unfold U32 at hok; omega
          replace hst : Hid _ := hst
          replace hes : Hid _ := hes
          replace hs : Hid _ := hs
          have hw1 : IntKind.u64.wrap x = x := u64_small hxk.1 (by unfold U32 at hxk; omega)
          have hw2 : IntKind.u64.wrap y = y := u64_small hyk.1 (by unfold U32 at hyk; omega)
          have hw3 : IntKind.u64.wrap (x * y) = x * y := u64_small hpb.1 (by omega)
          unfold U32 at hok
          have hw4 : IntKind.u64.wrap (x * y + o) = x * y + o := u64_small (by omega) (by omega)
          have hw5 : IntKind.u64.wrap (c + (x * y + o)) = c + (x * y + o) := u64_small (by omega) (by omega)
          clear ey eo a5 b5
          go_wp2_with fail
          go_roundw
          case rel => exact ⟨k + 1, _, _, hk, rfl, by go_num, hnx.1, hnx.2, by simp [hpl]; omega, (PB.out.snoc (U32.mod _) : Lb _), hs, hst, hes⟩
          case measure => simp [intOf]; omega
        · have hkl : k = Y.length := by omega
          subst hkl
          have hu : U32 c := ⟨c0, c1⟩
          have hv := outer_step PV.out hpl hul HV.out ex
          have hst := PR.out
          rw [List.drop_eq_nil_of_le (by omega), List.nil_append, show X.length - i = X.length + Y.length - (i + Y.length) from by omega] at hst
          replace hst := hst.step hpl (by omega) c
          rw [show X.length + Y.length - (i + Y.length + 1) = X.length - (i + 1) from by omega] at hst
          have hes : Ext w (wr.setCell ⟨w.heap.size, i + Y.length, none⟩ (.int .u32 c)) := PE.out.setCell (p := ⟨w.heap.size, i + Y.length, none⟩) (Nat.le_refl _) _
          replace hg := hg (by omega)
          have hps := PB.out.snoc hu
          replace hst : Hid _ := hst
          replace hes : Hid _ := hes
          replace hv : Hid _ := hv
          replace hps : Hid (Lb _) := hps
          clear a5 b5
          go_wp2_with fail
          go_roundw
          case rel => exact ⟨i + 1, ps ++ [c], hix, by go_num, by simp [hpl]; omega, hps, hv, hst, hes⟩
          case measure => simp [intOf]; omega
    · have hil2 : i = X.length := by omega
      subst hil2
      have hst := HR.out
      rw [Nat.sub_self, List.replicate_zero, List.append_nil] at hst
      have hv := HV.out
      rw [List.take_length] at hv
      replace hst : Hid _ := hst
      replace hv : Hid _ := hv
      go_wp2_with fail
      go_ret
      exact ⟨_, us, rfl, R32.lim hst.out HB.out (by omega), hv.out, HE.out⟩
theorem nnAt1 (w : World) (u : Value) (m : Nat) (h : Lim w u (dig m)) : NnAt (w.alloc (.cells #[.bool false, u] 159)) w.heap.size 0 m :=
 ⟨u, by rw [cell_al, if_pos rfl]; rfl, by rw [cell_al, if_pos rfl]; rfl, h.alloc _⟩
theorem nnAt2 (w : World) (u v : Value) (m k : Nat) (h : Lim w u (dig m)) (h2 : Lim w v (dig k)) : NnAt (w.alloc (.cells #[.bool false, u, .bool false, v] 159)) w.heap.size 0 m ∧ NnAt (w.alloc (.cells #[.bool false, u, .bool false, v] 159)) w.heap.size 2 k :=
 ⟨⟨u, by rw [cell_al, if_pos rfl]; rfl, by rw [cell_al, if_pos rfl]; rfl, h.alloc _⟩, ⟨v, by rw [cell_al, if_pos rfl]; rfl, by rw [cell_al, if_pos rfl]; rfl, h2.alloc _⟩⟩
theorem w_check_one (w : World) (u : Value) (m : Nat) (h : Lim w u (dig m)) (hs : Small m) :
    Calls Tryz.prog 193 #[.slice (some ⟨w.heap.size, 0, none⟩) 1 1] (w.alloc (.cells #[.bool false, u] 159)) fun e w' => e = .returned (.int .i64 0) ∧ Ext (w.alloc (.cells #[.bool false, u] 159)) w' :=
  w_checks w.heap.size 1 1 (fun _ => m) _ (by decide) (by simp) (fun i hi => by
    have : i = 0 := by omega
    subst this; exact nnAt1 w u m h) (fun _ _ => hs)
theorem w_check_two (w : World) (u v : Value) (m k : Nat) (h : Lim w u (dig m)) (h2 : Lim w v (dig k)) (hs : Small m) (hs2 : Small k) :
    Calls Tryz.prog 193 #[.slice (some ⟨w.heap.size, 0, none⟩) 2 2] (w.alloc (.cells #[.bool false, u, .bool false, v] 159)) fun e w' => e = .returned (.int .i64 0) ∧ Ext (w.alloc (.cells #[.bool false, u, .bool false, v] 159)) w' :=
  w_checks w.heap.size 2 2 (fun i => if i = 0 then m else k) _ (by decide) (by simp) (fun i hi => by
    rcases (show i = 0 ∨ i = 1 by omega) with rfl | rfl
    · exact (nnAt2 w u v m k h h2).1
    · exact (nnAt2 w u v m k h h2).2) (fun i _ => by split <;> assumption)
theorem w_Check (v : Value) (m : Nat) (w : World) (h : Nn w v m) (hs : Small m) :
    Calls Tryz.prog 186 #[v] w fun e w' => e = .returned (.int .i64 0) ∧ Ext w w' := by
 obtain ⟨u, rfl, hu⟩ := h
 obtain ⟨ao, b1, o1, cap1, rfl, v1, v2, v3, v4, v5, v6⟩ := hu.view
 have hk := w_check_one (w.alloc (.cells #[.bool false, .slice ao (dig m).length cap1] 159)) _ m (hu.alloc _) hs
 rw [World.size_alloc] at hk
 clear v1 v4 v5 hu
 go_enter Tryz.func186, Tryz.ntmps186
 go_wp2_with (go_at_call 193; (with_reducible refine hk.mono ?_); rintro e w1 ⟨rfl, hb⟩; obtain ⟨_, _, ⟨hc, hf⟩, hz⟩ := hb.c3; (try simp only [wsz] at hz hc hf))
 go_ret
 exact ⟨rfl, ex_⟩
theorem T_WK_2 {p : Prop} (h : p := by
 intro p hp
 simp only [List.mem_cons, List.mem_nil_iff, or_false] at hp
 rcases hp with rfl | rfl | rfl | rfl <;> (dsimp only; omega)) : p := h
theorem T_WK_1 {p : Prop} (h : p := by
 rw [← hW3]
 refine ⟨hW3 ▸ hEW, ?_, ?_, ?_, ?_, ?_, by simp⟩
 ·intro p hp
  simp only [List.mem_cons, List.mem_nil_iff, or_false] at hp
  rcases hp with rfl | rfl | rfl | rfl <;> simp [go_sem, ↓IntWalk.iteOmega]
 ·exact b_11
 ·exact b_12
 ·exact b_13
 ·have := NoU.new ((w.alloc (.cells #[.bool false, .slice ao (dig m).length cap1] 159)).alloc (.cells #[.bool false, .slice bo (dig k).length cap2] 159)) #[.bool false, .slice none 0 0] 159 (noU2 (by simp) (by simp))
  simpa using this) : p := h
theorem w_add (va vb : Value) (m k : Nat) (w : World) (ha : Nn w va m) (hb0 : Nn w vb k) (hs : Small m) (hs2 : Small k) (hs3 : Small (m + k)) :
    Calls Tryz.prog 197 #[va, vb] w fun e w' => ∃ u, e = .returned (.tuple #[u, .int .i64 0]) ∧ Nn w' u (m + k) ∧ Ext w w' := by
 obtain ⟨u, rfl, hu⟩ := ha
 obtain ⟨s, rfl, hv⟩ := hb0
 obtain ⟨ao, b1, o1, cap1, rfl, v1, v2, v3, v4, v5, v6⟩ := hu.view
 obtain ⟨bo, b2, o2, cap2, rfl, y1, y2, y3, y4, y5, y6⟩ := hv.view
 have hlen : (dig m).length ≤ 100000 ∧ (dig k).length ≤ 100000 := by unfold Small at hs hs2; omega
 obtain ⟨W3, hW3⟩ : ∃ W3, ((w.alloc (.cells #[.bool false, .slice ao (dig m).length cap1] 159)).alloc (.cells #[.bool false, .slice bo (dig k).length cap2] 159)).alloc (.cells #[.bool false, .slice none 0 0] 159) = W3 := ⟨_, rfl⟩
 have hWs : W3.heap.size = w.heap.size + 1 + 1 + 1 := by rw [← hW3]; simp
 have hEW : Ext w W3 := by rw [← hW3]; exact (((Ext.refl w).alloc _).alloc _).alloc _
 have hS : BX w (w.heap.size + 1 + 1) [(w.heap.size, 0, .bool false), (w.heap.size, 1, .slice ao (dig m).length cap1), (w.heap.size + 1, 0, .bool false), (w.heap.size + 1, 1, .slice bo (dig k).length cap2)] W3 := by
  exact T_WK_1
 have hLn : ∀ p ∈ ([(w.heap.size, 0, .bool false), (w.heap.size, 1, .slice ao (dig m).length cap1), (w.heap.size + 1, 0, .bool false), (w.heap.size + 1, 1, .slice bo (dig k).length cap2)] : List (Nat × Nat × Value)), p.1 ≠ w.heap.size + 1 + 1 := by
  exact T_WK_2
 have hcm := w_compare _ _ _ _ W3 (hu.ext hEW) (hv.ext hEW) (dig_nz m) (dig_nz k)
 subst hW3
 clear v1 v4 v5 y1 y4 y5 hWs
 go_enter Tryz.func197, Tryz.ntmps197
 have hs4 : (dig (m + k)).length ≤ 4096 := hs3
 go_upto_region 3 with (go_at_call 236; (with_reducible refine hcm.mono ?_); rintro e w1 ⟨rfl, hb⟩; have q0 := BX.get (hS.ext hb) 0 rfl; have q2 := BX.get (hS.ext hb) 2 rfl)
 have hS0 := hS.ext hb
 clear hS hb
 refine wp_region_held_drew (S := (fun w0 => BX w (w.heap.size + 1 + 1) [(w.heap.size, 0, .bool false), (w.heap.size, 1, .slice ao (dig m).length cap1), (w.heap.size + 1, 0, .bool false), (w.heap.size + 1, 1, .slice bo (dig k).length cap2)] w0)) c_11 ?_ (fun hH => ?_)
 ·exact hS0.drew
 try simp only [sx_]
 refine tk 0 rfl c_4 ?_
 try simp only [sx_]
 refine tk 1 rfl c_7 ?_
 try simp only [sx_]
 refine tk 2 rfl c_4 ?_
 try simp only [sx_]
 refine tk 3 rfl c_7 ?_
 try simp only [sx_]
 refine tk 4 rfl c_4 ?_
 try simp only [sx_]
 refine tk 5 rfl c_7 ?_
 try simp only [sx_]
 refine rh1 6 rfl fun K hK => ?_
 go_simp
 (go_at_call 195; (with_reducible refine (w_plus _ _ _ _ _ (hu.ext hH.base) (hv.ext hH.base) hlen).mono ?_); rintro e t2 ⟨s2, zs, rfl, hz2, hval, hx2⟩; obtain ⟨ao2, bb2, oo2, cc2, rfl, _⟩ := hz2.view)
 have hv2 : val zs = (((m + k) : Nat) : Int) := by rw [hval, dig_val, dig_val]; exact (Int.natCast_add m k).symm
 refine hK.out _ _ ?_ fun _ => ?_
 ·exact b_14
 clear hK K hH
 rename_i hH
 try simp only [sx_]
 refine rh1 7 rfl fun K hK => ?_
 go_simp
 (go_at_call 189; (with_reducible refine (w_madeN _ _ (m + k) _ hz2 hv2 hs4).mono ?_); rintro e t3 ⟨s3, rfl, hz3, hx3⟩; obtain ⟨ao3, bb3, oo3, cc3, rfl, _⟩ := hz3.view)
 refine hK.out _ _ ?_ fun _ => ?_
 ·(try dsimp only); exact hH.ext hx3
 clear hK K hH
 rename_i hH
 try simp only [sx_]
 refine tk 8 rfl c_4 ?_
 try simp only [sx_]
 refine tk 9 rfl c_4 ?_
 try simp only [sx_]
 refine rh1 10 rfl fun K hK => ?_
 obtain ⟨⟨xa, h3a⟩, ⟨xb, h3b⟩, h3f, hnu, hsl⟩ := hH.box
 go_simp
 refine hK.out _ _ ?_ fun _ => ?_
 ·(try dsimp only); exact (hH.set (by omega) hLn (fun z e => by cases e)).set (by omega) hLn (fun z e => by cases e)
 clear hK K hH
 rename_i hH
 try simp only [sx_]
 refine tk 11 rfl c_4 ?_
 try simp only [sx_]
 refine wpAnyH_done c_11 ?_ _
 go_wp2_with fail
 refine bodyPost_ret (v := .tuple #[.agg #[.bool false, .slice ao3 (dig (m + k)).length cc3], .int .i64 0]) ?_ rfl ⟨_, rfl, ⟨_, rfl, ?_⟩, ?_⟩
 ·simp [results, Tryz.results197, go_sem, ↓IntWalk.iteOmega, h3a, h3b]
 ·exact Lim.box (Lim.box hz3 hnu) (NoU.set hnu (fun z e => by cases e))
 ·exact hH.base
theorem w_Add (va vb : Value) (m k : Nat) (w : World) (ha : Nn w va m) (hb0 : Nn w vb k) (hs : Small m) (hs2 : Small k) (hs3 : Small (m + k)) :
    Calls Tryz.prog 144 #[va, vb] w fun e w' => ∃ u, e = .returned (.tuple #[u, .int .i64 0]) ∧ Nn w' u (m + k) ∧ Ext w w' := by
 obtain ⟨u, rfl, hu⟩ := ha
 obtain ⟨s, rfl, hv⟩ := hb0
 obtain ⟨ao, b1, o1, cap1, rfl, v1, v2, v3, v4, v5, v6⟩ := hu.view
 obtain ⟨bo, b2, o2, cap2, rfl, y1, y2, y3, y4, y5, y6⟩ := hv.view
 have hlen : (dig m).length ≤ 100000 ∧ (dig k).length ≤ 100000 := by unfold Small at hs hs2; omega
 obtain ⟨W3, hW3⟩ : ∃ W3, ((w.alloc (.cells #[.bool false, .slice ao (dig m).length cap1] 159)).alloc (.cells #[.bool false, .slice bo (dig k).length cap2] 159)).alloc (.cells #[.bool false, .slice none 0 0] 159) = W3 := ⟨_, rfl⟩
 have hWs : W3.heap.size = w.heap.size + 1 + 1 + 1 := by rw [← hW3]; simp
 have hEW : Ext w W3 := by rw [← hW3]; exact (((Ext.refl w).alloc _).alloc _).alloc _
 have hS : BX w (w.heap.size + 1 + 1) [(w.heap.size, 0, .bool false), (w.heap.size, 1, .slice ao (dig m).length cap1), (w.heap.size + 1, 0, .bool false), (w.heap.size + 1, 1, .slice bo (dig k).length cap2)] W3 := by
  exact T_WK_1
 have hLn : ∀ p ∈ ([(w.heap.size, 0, .bool false), (w.heap.size, 1, .slice ao (dig m).length cap1), (w.heap.size + 1, 0, .bool false), (w.heap.size + 1, 1, .slice bo (dig k).length cap2)] : List (Nat × Nat × Value)), p.1 ≠ w.heap.size + 1 + 1 := by
  exact T_WK_2
 have hck := w_check_two W3 _ _ m k (hu.ext hEW) (hv.ext hEW) hs hs2
 rw [hWs] at hck
 subst hW3
 clear v1 v4 v5 y1 y4 y5 hWs hEW
 go_enter Tryz.func144, Tryz.ntmps144
 go_wp2_with (first
  | (go_at_call 193; (with_reducible refine hck.mono ?_); rintro e w1 ⟨rfl, hb⟩; have hS1 := hS.ext (((Ext.refl _).alloc _).trans hb); have q0 := BX.get hS1 0 rfl; have q1 := BX.get hS1 1 rfl; have q2 := BX.get hS1 2 rfl; have q3 := BX.get hS1 3 rfl; have nA : Nn w1 (.agg #[.bool false, .slice ao (dig m).length cap1]) m := ⟨_, rfl, hu.ext hS1.base⟩; have nB : Nn w1 (.agg #[.bool false, .slice bo (dig k).length cap2]) k := ⟨_, rfl, hv.ext hS1.base⟩; clear hS hck hb)
  | (go_at_call 197; (with_reducible refine (w_add _ _ m k _ nA nB hs hs2 hs3).mono ?_); rintro e w2 ⟨v9, rfl, ⟨s3, rfl, hz3⟩, hx3⟩; obtain ⟨ao3, bb3, oo3, cc3, rfl, _⟩ := hz3.view; have hS2 := hS1.ext hx3; obtain ⟨⟨xa, h3a⟩, ⟨xb, h3b⟩, h3f, hnu, hsl⟩ := hS2.box))
 refine bodyPost_ret (v := .tuple #[.agg #[.bool false, .slice ao3 (dig (m + k)).length cc3], .int .i64 0]) ?_ rfl ⟨_, rfl, ⟨_, rfl, ?_⟩, ?_⟩
 ·simp [results, Tryz.results144, go_sem, ↓IntWalk.iteOmega, h3a, h3b]
 ·exact Lim.box (Lim.box hz3 hnu) (NoU.set hnu (fun z e => by cases e))
 ·exact ((hS2.set (by omega) hLn (fun z e => by cases e)).set (by omega) hLn (fun z e => by cases e)).base
def stp (X : List Int) (d : Int) (s : List Int × Int) (j : Nat) : List Int × Int := (s.1.set j ((s.2 * 4294967296 + X.getD j 0) / d), (s.2 * 4294967296 + X.getD j 0) % d)
def stA (X : List Int) (d : Int) (pre : List (DN X.length)) : List Int × Int := (pre.map (·.1)).foldl (stp X d) (List.replicate X.length 0, 0)
theorem stA_snoc (X : List Int) (d : Int) (pre : List (DN X.length)) (x : DN X.length) : stA X d (pre ++ [x]) = stp X d (stA X d pre) x.1 := by simp [stA]
theorem quot_lim {r x d : Int} (h0 : 0 ≤ r) (h1 : r < d) (hx : U32 x) : U32 ((r * 4294967296 + x) / d) ∧ 0 ≤ (r * 4294967296 + x) % d ∧ (r * 4294967296 + x) % d < d := by
 unfold U32 at hx
 obtain ⟨a, b⟩ := div_small (x := r * 4294967296 + x) (d := d) (by omega) (by omega) (by omega)
 exact ⟨⟨a, b⟩, Int.emod_nonneg _ (by omega), Int.emod_lt_of_pos _ (by omega)⟩
theorem Lb.set {a : List Int} (h : Lb a) (j : Nat) {z : Int} (hz : U32 z) : Lb (a.set j z) := fun y hy => by
 rcases List.mem_or_eq_of_mem_set hy with h1 | h1
 ·exact h y h1
 ·exact h1 ▸ hz
theorem foldl_ok {X : List Int} {d : Int} (hX : Lb X) (hd : 0 < d) : ∀ (l : List Nat) (s : List Int × Int), s.1.length = X.length ∧ Lb s.1 ∧ 0 ≤ s.2 ∧ s.2 < d → (l.foldl (stp X d) s).1.length = X.length ∧ Lb (l.foldl (stp X d) s).1 ∧ 0 ≤ (l.foldl (stp X d) s).2 ∧ (l.foldl (stp X d) s).2 < d
  | [], _, h => h
  | j :: l, s, h => foldl_ok hX hd l (stp X d s j) (by
      have q := quot_lim (x := X.getD j 0) h.2.2.1 h.2.2.2 (hX.getD j)
      exact ⟨by simp [stp, h.1], h.2.1.set j q.1, q.2.1, q.2.2⟩)
theorem stA_ok {X : List Int} {d : Int} (hX : Lb X) (hd : 0 < d) (pre : List (DN X.length)) : (stA X d pre).1.length = X.length ∧ Lb (stA X d pre).1 ∧ 0 ≤ (stA X d pre).2 ∧ (stA X d pre).2 < d :=
 foldl_ok hX hd _ _ ⟨by simp, fun x hx => by rw [List.eq_of_mem_replicate hx]; exact ⟨by decide, by decide⟩, Int.le_refl _, hd⟩
theorem short_val {X : List Int} {d : Int} (hX : Lb X) (hd : 0 < d) : ∀ k, k ≤ X.length → val ((stA X d (upto (dn X.length) k)).1.drop (X.length - k)) * d + (stA X d (upto (dn X.length) k)).2 = val (X.drop (X.length - k))
 | 0, _ => by
  show val ((List.replicate X.length 0).drop (X.length - 0)) * d + 0 = _
  rw [Nat.sub_zero, List.drop_eq_nil_of_le (by simp), List.drop_eq_nil_of_le (Nat.le_refl _)]; simp [val]
 | k + 1, hk => by
  have ih := short_val hX hd k (by omega)
  have ok := stA_ok hX hd (upto (dn X.length) k)
  rw [upto_succ, stA_snoc]
  generalize stA X d (upto (dn X.length) k) = s at *
  have hj : (dn X.length k).1 = X.length - (k + 1) := by show X.length - 1 - k = _; omega
  rw [hj]
  obtain ⟨j, ej⟩ : ∃ j, X.length - (k + 1) = j := ⟨_, rfl⟩
  have ej2 : X.length - k = j + 1 := by omega
  rw [ej2] at ih
  rw [ej]
  have hjl : j < s.1.length := by rw [ok.1]; omega
  have hjx : j < X.length := by omega
  unfold stp
  simp only
  rw [List.drop_eq_getElem_cons (by rw [List.length_set]; exact hjl), List.getElem_set_self, List.drop_set_of_lt (by omega), List.drop_eq_getElem_cons hjx]
  have ex : X.getD j 0 = X[j] := by rw [List.getD_eq_getElem?_getD, List.getElem?_eq_getElem hjx]; rfl
  rw [ex]
  simp only [val]
  have e := Int.emod_add_mul_ediv (s.2 * 4294967296 + X[j]) d
  generalize (s.2 * 4294967296 + X[j]) / d = q at *
  generalize (s.2 * 4294967296 + X[j]) % d = r at *
  rw [← ih]
  unfold BB
  grind
theorem short_all {X : List Int} {d : Int} (hX : Lb X) (hd : 0 < d) {ys : List (DN X.length)} (hy : ys = upto (dn X.length) X.length) : val (stA X d ys).1 * d + (stA X d ys).2 = val X := by
 have := short_val hX hd X.length (Nat.le_refl _)
 rw [Nat.sub_self, List.drop_zero, List.drop_zero] at this
 rw [hy]; exact this
theorem R32.kept {A B : World} {base g n : Nat} {xs : List Int} {row : Option Nat} (h : R32 A base g n xs) (hg : A.grownBy B row) (hr : ∀ r, row = some r → ∃ o : Obj, A.heap[r]? = some o ∧ o.isCells = false) : R32 B base g n xs :=
 World.ownsRow.kept (row := row) h hg (Or.inr (by
  intro e
  simp only [Value.ownBlock] at e
  obtain ⟨o, ho, hc⟩ := hr g e.symm
  rcases h.2 with ⟨e1, _⟩ | ⟨g', cap', cur, hv, hb, hgg, _⟩
  ·cases e1
  ·cases hv
   rw [hgg] at ho
   cases ho
   cases hc))
end Go.Proofs.YtbkgakgdbmjmjaaGreat
