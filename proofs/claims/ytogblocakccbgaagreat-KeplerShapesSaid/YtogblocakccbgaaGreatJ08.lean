/- Limbs divided by a power of 2. -/
import Derived.Test.YtogblocakccbgaaGreatJ00
import Derived.Test.YtogblocakccbgaaGreatJ06
import Derived.Test.YtogblocakccbgaaGreatJ04
import Derived.Test.YtogblocakccbgaaGreatJ05
import Derived.Deep.RegionHeld3
import Derived.Deep.QuietTactic
import Derived.BigQuiet
set_option linter.unusedSimpArgs false
set_option linter.unusedVariables false
set_option maxRecDepth 100000
set_option maxHeartbeats 4000000
namespace Go.Proofs.YtogblocakccbgaaGreat
open Go.RowKit Go.Shelf
attribute [local go_sem] Oper.semAt_some
theorem T_DR_6 {p : Prop} (h : p := by
 refine ti 5 rfl c_11 ?_
 try simp only [sx_]
 refine ti 6 rfl c_11 ?_
 try simp only [sx_]
 exact T_DR_1) : p := h
theorem T_DR_5 {p : Prop} (h : p := by
 refine ti 5 rfl c_11 ?_
 try simp only [sx_]
 refine wpAnyIn_ready (rs := [6]) c_4 (by simp) ?_
 refine AllReadyIn.cons rfl (fun K hK => ?_) AllReadyIn.nil
 go_simp
 refine hK _ _ ?_
 clear hK K
 try simp only [sx_]
 refine wpAnyIn_done c_4 ?_ _
 exact hfin.out _ rfl) : p := h
theorem T_DR_4 {p : Prop} (h : p := by
 refine ti 5 rfl c_11 ?_
 try simp only [sx_]
 refine ti 6 rfl c_11 ?_
 try simp only [sx_]
 refine wpAnyIn_ready (rs := [0]) c_4 (by simp) ?_
 refine AllReadyIn.cons rfl (fun K hK => ?_) AllReadyIn.nil
 go_simp
 refine hK _ _ ?_
 clear hK K
 try simp only [sx_]
 exact T_DR_1) : p := h
theorem T_DR_3 {p : Prop} (h : p := by
 refine wpAnyIn_ready (rs := [2]) c_4 (by simp) ?_
 refine AllReadyIn.cons rfl (fun K hK => ?_) AllReadyIn.nil
 go_simp
 refine hK _ _ ?_
 clear hK K
 try simp only [sx_]
 exact T_DR_6) : p := h
theorem T_DR_2 {p : Prop} (h : p := by
 go_simp
 refine hK _ _ ?_
 clear hK K
 try simp only [sx_]
 refine wpAnyIn_ready (rs := [3]) c_4 (by simp) ?_
 refine AllReadyIn.cons rfl (fun K hK => ?_) AllReadyIn.nil
 go_simp
 refine hK _ _ ?_
 clear hK K
 try simp only [sx_]
 refine ti 4 rfl c_11 ?_
 try simp only [sx_]
 exact T_DR_6) : p := h
theorem T_DR_1 {p : Prop} (h : p := by
 refine ti 7 rfl c_11 ?_
 try simp only [sx_]
 refine wpAnyIn_ready (rs := [8]) c_4 (by simp) ?_
 refine AllReadyIn.cons rfl (fun K hK => ?_) AllReadyIn.nil
 go_simp
 refine hK _ _ ?_
 clear hK K
 try simp only [sx_]
 refine wpAnyIn_done c_4 ?_ _
 gi_wp2
 refine region_inRound hmx (noDefer_ok c_4) ?_
 refine wpAnyIn_ready (rs := [0, 1]) c_4 (by simp) ?_
 refine AllReadyIn.cons rfl (fun K hK => ?_) ?_
 ·go_simp
  refine hK _ _ ?_
  clear hK K
  try simp only [sx_]
  refine wpAnyIn_ready (rs := [1]) c_4 (by simp) ?_
  refine AllReadyIn.cons rfl (fun K hK => ?_) AllReadyIn.nil
  go_simp
  refine hK _ _ ?_
  clear hK K
  try simp only [sx_]
  refine ti 2 rfl c_11 ?_
  try simp only [sx_]
  refine ti 3 rfl c_11 ?_
  try simp only [sx_]
  refine ti 4 rfl c_11 ?_
  try simp only [sx_]
  exact T_DR_5
 refine AllReadyIn.cons rfl (fun K hK => ?_) AllReadyIn.nil
 go_simp
 refine hK _ _ ?_
 clear hK K
 try simp only [sx_]
 refine ti 2 rfl c_11 ?_
 try simp only [sx_]
 refine ti 3 rfl c_11 ?_
 try simp only [sx_]
 refine ti 4 rfl c_11 ?_
 try simp only [sx_]
 refine wpAnyIn_ready (rs := [0]) c_4 (by simp) ?_
 refine AllReadyIn.cons rfl (fun K hK => ?_) AllReadyIn.nil
 go_simp
 refine hK _ _ ?_
 clear hK K
 try simp only [sx_]
 exact T_DR_5) : p := h
theorem and_low (s : Nat) (hs : s < 32) (T : Int) (h0 : 0 ≤ T) (h1 : T < 18446744073709551616) : bits .and .u64 T (2 ^ s - 1) = T % 2 ^ s := by
 obtain ⟨n, rfl⟩ := Int.eq_ofNat_of_zero_le h0
 have hp : 2 ^ s ≤ 2 ^ 31 := Nat.pow_le_pow_right (by decide) (by omega)
 have hp0 := Nat.two_pow_pos s
 have e : (2 : Int) ^ s - 1 = ((2 ^ s - 1 : Nat) : Int) := by rw [Int.ofNat_sub hp0, Int.natCast_pow]; rfl
 rw [e, u64_and_nat _ _ (by omega) (by omega), Nat.and_two_pow_sub_one_eq_mod, Int.natCast_emod, Int.natCast_pow]; rfl
theorem w_index0 (a : Option Addr) (c : Nat) (f : Value) (w : World) : Calls Tryz.prog 217 #[.slice a 0 c, f] w fun e w' => e = .returned (.int .i64 (-1)) ∧ w' = w := by
 go_enter Tryz.func217, Tryz.ntmps217
 go_wp2
 refine wp_loop_rounds 1 ?_
 rw [rounds_succ]
 go_wp2
 go_ret
 exact ⟨rfl, rfl⟩
theorem w_contains0 (a : Option Addr) (c : Nat) (f : Value) (w : World) : Calls Tryz.prog 202 #[.slice a 0 c, f] w fun e w' => e = .returned (.bool false) ∧ w' = w := by
 go_enter Tryz.func202, Tryz.ntmps202
 go_wp2_with (go_at_call 217; (with_reducible refine (w_index0 _ _ _ _).mono ?_); rintro e w' ⟨rfl, rfl⟩)
 go_ret
 exact ⟨rfl, rfl⟩
def SR (X : List Int) (sh : Nat) (s p : Nat) (pre : List (DN X.length)) (W : World) : Prop :=
 W.cell? ⟨s, 0, none⟩ = some (.int .i64 sh) ∧ W.cell? ⟨p, 0, none⟩ = some (.slice (some ⟨s + 1, 0, none⟩) X.length X.length) ∧ W.cell? ⟨p + 1, 0, none⟩ = some (.int .u64 (stA X (2 ^ sh) pre).2) ∧ W.frozen? ⟨p + 1, 0, none⟩ = false ∧ R32 W s (s + 1) X.length (stA X (2 ^ sh) pre).1
theorem right_in (va : Value) (X : List Int) (s : Nat) (w : World) (ha : Lim w va X) (hs : s < 32) (hx : X.length ≤ 100000) :
    CallsIn Fence.wide 6 Tryz.prog 174 #[va, .int .i64 s] w fun e w' => ∃ u qs r, e = .returned (.tuple #[u, .bool (decide (0 < r))]) ∧ Lim w' u qs ∧ val qs * 2 ^ s + r = val X ∧ 0 ≤ r ∧ r < 2 ^ s ∧ Ext w w' := by
  have lX := ha.lb
  obtain ⟨i0, hi, hz0, hz1, hz2⟩ := info_parts info81
  have hs0 : (s : Int) / 32 = 0 := by omega
  have hs1 : (s : Int) % 32 = s := by omega
  have hd : (0 : Int) < 2 ^ s := Int.pow_pos (by decide)
  have htm : (s : Int).tmod 32 = s := by rw [Int.tmod_eq_emod_of_nonneg (by omega)]; exact hs1
  have hd2 : (2 : Int) ^ s ≤ 2147483648 := two_pow_le (t := 31) (by omega)
  have hmx : Tryz.prog.follows .mixedOrders = true := by kernel_rfl
  rcases ha.2 with ⟨rfl, rfl⟩ | ⟨bA, oA, cA, rfl, a1, a2, a3, a4⟩
  · have hmin : min (0 : Int) 0 = 0 := rfl
    refine callsIn_of_wp_marks Tryz.func174 rfl trivial ?_ rfl
    simp only [Tryz.ntmps174, List.size_toArray, List.length_cons, List.length_nil, Nat.reduceAdd, Nat.reduceSub, Array.replicate_succ, Array.replicate_zero, List.push_toArray, List.append_toArray, List.nil_append, List.cons_append]
    gi_wp2_with (refine ⟨trivial, ?_⟩; gi_at_call 202; refine (callsIn_wide.2 (w_contains0 _ _ _ _)).mono ?_; rintro e w1 ⟨rfl, rfl⟩)
    obtain ⟨w0, hrun, hown0, hgrow0⟩ := run_make_full (P := Tryz.prog) (w.alloc (.cells #[.int .i64 s] 3)) w.heap.size 22 25 i0 (.int .u32 0) 1 Tryz.underlying22 hi hz0 hz1 .i64 .i64 0 c_38 c_21 (by simp)
    rw [show ((0 : Nat) : Int) = 0 from rfl] at hrun
    rw [hrun]
    have hs0 := hgrow0.size
    simp only [World.size_alloc] at hown0 hs0
    have hR0 : R32 w0 w.heap.size (w.heap.size + 1) 0 (List.replicate 0 0) := R32.made hown0
    have hE0 : Ext w w0 := Ext.grown ((Ext.refl w).alloc _) hgrow0
    have hg1 := hR0.lt
    have c0 := cell_new_l w (.int .i64 s) 3
    have c0' := cell_kept c0.1 hgrow0 (fun r e => by cases e)
    clear hrun hown0 hgrow0
    gi_wp2_with (refine ⟨trivial, ?_⟩; gi_at_call 198; refine (down_in Fence.wide 5 trivial rfl _ _ _ _).mono ?_; rintro e w' ⟨rfl, rfl⟩)
    have c1 := cell_new_l w0 (.slice (some ⟨w.heap.size + 1, 0, none⟩) 0 0) 22
    have c2 := cell_new_l (w0.alloc (.cells #[.slice (some ⟨w.heap.size + 1, 0, none⟩) 0 0] 22)) (.int .u64 0) 97
    have c3 := cell_new_l ((w0.alloc (.cells #[.slice (some ⟨w.heap.size + 1, 0, none⟩) 0 0] 22)).alloc (.cells #[.int .u64 0] 97)) (.slice none 0 0) 22
    simp only [World.size_alloc] at c2 c3
    have hB0 : Below w.heap.size w (((w0.alloc (.cells #[.slice (some ⟨w.heap.size + 1, 0, none⟩) 0 0] 22)).alloc (.cells #[.int .u64 0] 97)).alloc (.cells #[.slice none 0 0] 22)) := ((hE0.alloc _).alloc _).alloc _
    have hI0 : SR ([] : List Int) s w.heap.size w0.heap.size [] (((w0.alloc (.cells #[.slice (some ⟨w.heap.size + 1, 0, none⟩) 0 0] 22)).alloc (.cells #[.int .u64 0] 97)).alloc (.cells #[.slice none 0 0] 22)) :=
      ⟨cell_alloc_l _ (cell_alloc_l _ (cell_alloc_l _ c0')), cell_alloc_l _ (cell_alloc_l _ c1.1), cell_alloc_l _ c2.1, frozen_alloc_l _ c2.1 c2.2, ((hR0.alloc _).alloc _).alloc _⟩
    refine wpIn_rangeFunc_ownF rfl (by omega) (gf := 216) (lb := #[.pointer (some ⟨w0.heap.size + 1 + 1, 0, none⟩)]) rfl trivial (enters_of Tryz.func216 c_4 rfl)
      (down_stops Fence.wide 5 trivial rfl (by omega) (w0.heap.size + 1 + 1) w.heap.size w _ _ ([] : List Int) ha rfl hB0 (by simp) c3.1) K2.trans (k2_b c_29 (by simp)) (Below.refl _ _) (fun _ => rfl)
      (fun pre W => SR ([] : List Int) s w.heap.size w0.heap.size pre W ∧ Below w.heap.size w W) (fun _ _ _ => False)
      (OwnFrom.and (Own.from (fun s A B row hs hg hr => ⟨cell_kept hs.1 hg hr, cell_kept hs.2.1 hg hr, cell_kept hs.2.2.1 hg hr, (frozen_kept hs.2.2.1 hg hr).trans hs.2.2.2.1, R32.kept hs.2.2.2.2 hg hr⟩) _) (ownFrom_below (Nat.le_refl _) c_29))
      (fun _ _ _ _ _ hs _ _ => hs)
      ⟨hI0, hB0⟩
      (fun x => { tmps := #[.slice none 0 0, .int .i64 s, undef, .pointer (some ⟨w.heap.size, 0, none⟩), .slice none 0 0, .bool false, .int .i64 0, .bool false, .pointer (some ⟨w0.heap.size, 0, none⟩), .pointer (some ⟨w0.heap.size + 1, 0, none⟩), .int .i64 (x.1 : Int), .int .u32 (([] : List Int).getD x.1 0), .int .i64 s, .int .i64 0, .slice none 0 0, .int .i64 0, .int .i64 0, .slice none 0 0, .int .i64 0, .slice none 0 0, .bool false, .slice none 0 0, .int .i64 0, .int .i64 0, .int .i64 0, .slice (some ⟨w.heap.size + 1, 0, none⟩) 0 0, .slice none 0 0, .int .i64 0, .slice none 0 0, .func (.func 216) #[] #[.pointer (some ⟨w0.heap.size + 1 + 1, 0, none⟩)], .int .i64 (x.1 : Int), .int .u32 (([] : List Int).getD x.1 0), undef, undef, undef, undef, undef, undef, undef, undef, undef, undef, undef, undef, undef, undef, undef, undef, undef, undef, undef, undef, undef, undef, undef, undef, undef], defers := [] }) ?assign ?body ?done ?stop
    case assign =>
      intro l x W K hK
      gi_wp2
      exact hK
    case body =>
      rintro l pre x W ⟨⟨h1, h2, h3, h4, h5⟩, hB⟩ hlen
      exact absurd hlen (by simp)
    case done =>
      rintro D ys W hD hys ⟨⟨h1, h2, h3, h4, h5⟩, hB⟩ hK2
      obtain ⟨k1, k2, k3, k4⟩ := stA_ok lX hd ys
      have hv := short_all lX hd hys
      generalize stA ([] : List Int) (2 ^ s) ys = st at *
      obtain ⟨qs, r⟩ := st
      have hL : Lim W (.slice (some ⟨w.heap.size + 1, 0, none⟩) 0 0) qs := R32.lim h5 k2 (by first | omega | decide)
      dsimp only at h3 k3 k4 hv
      clear h5 h1 h4 hys
      gi_wp2
      refine wpIn_wide.2 ?_
      refine wp_region_noPanic ?_
      go_quiet (fail)
      refine NoPanic.normal ?_
      gi_wp2
      have hK3 : (W.drewN nq).heap[D]? = some (.deferred (some [])) := hK2
      have hL3 : Lim (W.drewN nq) (.slice (some ⟨w.heap.size + 1, 0, none⟩) 0 0) qs := hL
      have hB3 : Below w.heap.size w (W.drewN nq) := hB.trans ⟨rfl, rfl, rfl, Nat.le_refl _, fun _ _ => rfl⟩
      refine ⟨by simp, .inl ⟨_, _, rfl, run_takeDeferred hK3, ?_⟩⟩
      refine ⟨.tuple #[.slice (some ⟨w.heap.size + 1, 0, none⟩) 0 0, .bool (decide (0 < r))], ?_, _, qs, r, rfl, hL3.kept (grownBy_putObj' _ D (.deferred none)) (fun q e => by cases e; exact ⟨_, hK3, rfl⟩), hv, k3, k4, ?_⟩
      · simp [results, Tryz.f174, go_sem]
      · exact hB3.trans (belowK_b (w := w) (Nat.le_refl _) _ D _ _ (by simp at hD; omega) hK3 rfl rfl)
    case stop =>
      rintro D c pre W _ _ h _
      exact h.elim
  · have hmin : min (0 : Int) X.length = 0 := by omega
    refine callsIn_of_wp_marks Tryz.func174 rfl trivial ?_ rfl
    simp only [Tryz.ntmps174, List.size_toArray, List.length_cons, List.length_nil, Nat.reduceAdd, Nat.reduceSub, Array.replicate_succ, Array.replicate_zero, List.push_toArray, List.append_toArray, List.nil_append, List.cons_append]
    gi_wp2_with (refine ⟨trivial, ?_⟩; gi_at_call 202; refine (callsIn_wide.2 (w_contains0 _ _ _ _)).mono ?_; rintro e w1 ⟨rfl, rfl⟩)
    obtain ⟨w0, hrun, hown0, hgrow0⟩ := run_make_full (P := Tryz.prog) (w.alloc (.cells #[.int .i64 s] 3)) w.heap.size 22 25 i0 (.int .u32 0) 1 Tryz.underlying22 hi hz0 hz1 .i64 .i64 X.length c_38 c_21 (by simp)
    rw [hrun]
    have hs0 := hgrow0.size
    simp only [World.size_alloc] at hown0 hs0
    have hR0 : R32 w0 w.heap.size (w.heap.size + 1) X.length (List.replicate X.length 0) := R32.made hown0
    have hE0 : Ext w w0 := Ext.grown ((Ext.refl w).alloc _) hgrow0
    have hg1 := hR0.lt
    have c0 := cell_new_l w (.int .i64 s) 3
    have c0' := cell_kept c0.1 hgrow0 (fun r e => by cases e)
    clear hrun hown0 hgrow0
    gi_wp2_with (refine ⟨trivial, ?_⟩; gi_at_call 198; refine (down_in Fence.wide 5 trivial rfl _ _ _ _).mono ?_; rintro e w' ⟨rfl, rfl⟩)
    have c1 := cell_new_l w0 (.slice (some ⟨w.heap.size + 1, 0, none⟩) X.length X.length) 22
    have c2 := cell_new_l (w0.alloc (.cells #[.slice (some ⟨w.heap.size + 1, 0, none⟩) X.length X.length] 22)) (.int .u64 0) 97
    have c3 := cell_new_l ((w0.alloc (.cells #[.slice (some ⟨w.heap.size + 1, 0, none⟩) X.length X.length] 22)).alloc (.cells #[.int .u64 0] 97)) (.slice (some ⟨bA, oA, none⟩) X.length cA) 22
    simp only [World.size_alloc] at c2 c3
    have hB0 : Below w.heap.size w (((w0.alloc (.cells #[.slice (some ⟨w.heap.size + 1, 0, none⟩) X.length X.length] 22)).alloc (.cells #[.int .u64 0] 97)).alloc (.cells #[.slice (some ⟨bA, oA, none⟩) X.length cA] 22)) := ((hE0.alloc _).alloc _).alloc _
    have hI0 : SR X s w.heap.size w0.heap.size [] (((w0.alloc (.cells #[.slice (some ⟨w.heap.size + 1, 0, none⟩) X.length X.length] 22)).alloc (.cells #[.int .u64 0] 97)).alloc (.cells #[.slice (some ⟨bA, oA, none⟩) X.length cA] 22)) :=
      ⟨cell_alloc_l _ (cell_alloc_l _ (cell_alloc_l _ c0')), cell_alloc_l _ (cell_alloc_l _ c1.1), cell_alloc_l _ c2.1, frozen_alloc_l _ c2.1 c2.2, ((hR0.alloc _).alloc _).alloc _⟩
    refine wpIn_rangeFunc_ownF rfl (by omega) (gf := 216) (lb := #[.pointer (some ⟨w0.heap.size + 1 + 1, 0, none⟩)]) rfl trivial (enters_of Tryz.func216 c_4 rfl)
      (down_stops Fence.wide 5 trivial rfl (by omega) (w0.heap.size + 1 + 1) w.heap.size w _ _ X ha rfl hB0 (by simp) c3.1) K2.trans (k2_b c_29 (by simp)) (Below.refl _ _) (fun _ => rfl)
      (fun pre W => SR X s w.heap.size w0.heap.size pre W ∧ Below w.heap.size w W) (fun _ _ _ => False)
      (OwnFrom.and (Own.from (fun s A B row hs hg hr => ⟨cell_kept hs.1 hg hr, cell_kept hs.2.1 hg hr, cell_kept hs.2.2.1 hg hr, (frozen_kept hs.2.2.1 hg hr).trans hs.2.2.2.1, R32.kept hs.2.2.2.2 hg hr⟩) _) (ownFrom_below (Nat.le_refl _) c_29))
      (fun _ _ _ _ _ hs _ _ => hs)
      ⟨hI0, hB0⟩
      (fun x => { tmps := #[.slice (some ⟨bA, oA, none⟩) X.length cA, .int .i64 s, undef, .pointer (some ⟨w.heap.size, 0, none⟩), .slice none 0 0, .bool false, .int .i64 0, .bool false, .pointer (some ⟨w0.heap.size, 0, none⟩), .pointer (some ⟨w0.heap.size + 1, 0, none⟩), .int .i64 (x.1 : Int), .int .u32 (X.getD x.1 0), .int .i64 s, .int .i64 0, .slice (some ⟨bA, oA, none⟩) X.length cA, .int .i64 X.length, .int .i64 0, .slice (some ⟨bA, oA, none⟩) X.length cA, .int .i64 0, .slice (some ⟨bA, oA, none⟩) 0 cA, .bool false, .slice (some ⟨bA, oA, none⟩) X.length cA, .int .i64 X.length, .int .i64 0, .int .i64 X.length, .slice (some ⟨w.heap.size + 1, 0, none⟩) X.length X.length, .slice (some ⟨bA, oA, none⟩) X.length cA, .int .i64 0, .slice (some ⟨bA, oA, none⟩) X.length cA, .func (.func 216) #[] #[.pointer (some ⟨w0.heap.size + 1 + 1, 0, none⟩)], .int .i64 (x.1 : Int), .int .u32 (X.getD x.1 0), undef, undef, undef, undef, undef, undef, undef, undef, undef, undef, undef, undef, undef, undef, undef, undef, undef, undef, undef, undef, undef, undef, undef, undef, undef], defers := [] }) ?assign ?body ?done ?stop
    case assign =>
      intro l x W K hK
      gi_wp2
      exact hK
    case body =>
      rintro l pre x W ⟨⟨h1, h2, h3, h4, h5⟩, hB⟩ hlen
      obtain ⟨j, hj⟩ := x
      have hjl : j < X.length := hj (by omega)
      obtain ⟨k1, k2, k3, k4⟩ := stA_ok lX hd pre
      have e5 := h5.cell hjl
      have f5 := h5.frozen j
      have hzU : U32 (X.getD j 0) := lX.getD j
      have hsn := stA_snoc X (2 ^ s) pre ⟨j, hj⟩
      obtain ⟨z, ez⟩ : ∃ z, X.getD j 0 = z := ⟨_, rfl⟩
      obtain ⟨r, er⟩ : ∃ r, (stA X (2 ^ s) pre).2 = r := ⟨_, rfl⟩
      obtain ⟨o, eo⟩ : ∃ o, (stA X (2 ^ s) pre).1.getD j 0 = o := ⟨_, rfl⟩
      have hWl : w0.heap.size + 1 < W.heap.size := World.block_lt_of_cell? W _ h3
      have hstp : stA X (2 ^ s) (pre ++ [⟨j, hj⟩]) = ((stA X (2 ^ s) pre).1.set j ((r * 4294967296 + z) / 2 ^ s), (r * 4294967296 + z) % 2 ^ s) := by rw [hsn]; unfold stp; dsimp only; rw [ez, er]
      have hfin : Hid (∀ W', W' = (((((W.setCell ⟨w0.heap.size + 1, 0, none⟩ (.int .u64 (r * 4294967296 + z))).drew).setCell ⟨w.heap.size + 1, j, none⟩ (.int .u32 ((r * 4294967296 + z) / 2 ^ s))).drew).setCell ⟨w0.heap.size + 1, 0, none⟩ (.int .u64 ((r * 4294967296 + z) % 2 ^ s))) →
          KeepsOthers W W' ∧ K2 w.heap.size (w0.heap.size + 1 + 1) W W' ∧ SR X s w.heap.size w0.heap.size (pre ++ [⟨j, hj⟩]) W' ∧ Below w.heap.size w W') := by
        intro W' e
        have hD : ∀ (A : World) q, A.drew.cell? q = A.cell? q := fun A q => rfl
        have hDf : ∀ (A : World) q, A.drew.frozen? q = A.frozen? q := fun A q => rfl
        have hbel : Below w.heap.size W W' := by
          rw [e]
          exact ((((Below.refl _ W).setCell (p := ⟨w0.heap.size + 1, 0, none⟩) c_54 _).drew.setCell (p := ⟨w.heap.size + 1, j, none⟩) (by simp) _).drew).setCell (p := ⟨w0.heap.size + 1, 0, none⟩) c_54 _
        have hcell : ∀ b, b ≠ w.heap.size + 1 → b ≠ w0.heap.size + 1 → W'.cell? ⟨b, 0, none⟩ = W.cell? ⟨b, 0, none⟩ := fun b hb1 hb2 => by
          rw [e, cell_sc, if_neg (fun h => hb2 c_39), hD, cell_sc, if_neg (fun h => hb1 c_39), hD, cell_sc, if_neg (fun h => hb2 c_39)]
        refine ⟨?_, ⟨hbel, hcell _ (by omega) (by omega)⟩, ?_, hB.trans hbel⟩
        · rw [e]
          exact (((KeepsOthers.setCell _ _ _).trans (KeepsOthers.drewN _ 1)).trans ((KeepsOthers.setCell _ _ _).trans (KeepsOthers.drewN _ 1))).trans (KeepsOthers.setCell _ _ _)
        · unfold SR
          rw [hstp]
          refine ⟨(hcell _ (by omega) (by omega)).trans h1, (hcell _ (by omega) (by omega)).trans h2, ?_, ?_, ?_⟩
          · rw [e, cell_sc, if_pos rfl, hD, cell_sc, if_neg (fun h => by have := congrArg Addr.block h; simp at this; omega), hD, cell_sc, if_pos rfl, h3]; rfl
          · rw [e, World.frozen?_setCell, hDf, World.frozen?_setCell, hDf, World.frozen?_setCell]; exact h4
          · rw [e]
            have h6 : R32 ((W.setCell ⟨w0.heap.size + 1, 0, none⟩ (.int .u64 (r * 4294967296 + z))).drew) w.heap.size (w.heap.size + 1) X.length (stA X (2 ^ s) pre).1 := h5.other (by omega)
            have h7 : R32 (((W.setCell ⟨w0.heap.size + 1, 0, none⟩ (.int .u64 (r * 4294967296 + z))).drew).setCell ⟨w.heap.size + 1, j, none⟩ (.int .u32 ((r * 4294967296 + z) / 2 ^ s))).drew w.heap.size (w.heap.size + 1) X.length ((stA X (2 ^ s) pre).1.set j ((r * 4294967296 + z) / 2 ^ s)) := h6.set j _
            exact h7.other (by omega)
      dsimp only
      rw [ez] at hzU ⊢
      rw [er] at h3 k3 k4
      rw [eo] at e5
      have hor := or_hl r z k3 (by omega) hzU
      unfold U32 at hzU
      obtain ⟨q0, q1⟩ := div_small (x := r * 4294967296 + z) (d := 2 ^ s) (by omega) hd (by omega)
      have hand := and_low s hs (r * 4294967296 + z) (by omega) (by omega)
      have hsh : (2 : Int) ^ s < 18446744073709551616 := by omega
      have hw1 : IntKind.u32.wrap ((r * 4294967296 + z) / 2 ^ s) = (r * 4294967296 + z) / 2 ^ s := by rw [IntKind.wrap_u32]; exact Int.emod_eq_of_lt q0 q1
      have hw2 : IntKind.u64.wrap (2 ^ s) = 2 ^ s := u64_small (by omega) hsh
      have hw3 : IntKind.u64.wrap (2 ^ s - 1) = 2 ^ s - 1 := u64_small (by omega) (by omega)
      gi_wp2
      refine region_inRound hmx (noDefer_ok c_4) ?_
      refine ti 1 rfl c_11 ?_
      try simp only [sx_]
      refine wpAnyIn_ready (rs := [0, 2, 3]) c_4 (by simp) ?_
      refine AllReadyIn.cons rfl (fun K hK => ?_) ?_
      · go_simp
        refine hK _ _ ?_
        clear hK K
        try simp only [sx_]
        refine wpAnyIn_ready (rs := [2, 3]) c_4 (by simp) ?_
        refine AllReadyIn.cons rfl (fun K hK => ?_) ?_
        · exact T_DR_2
        refine AllReadyIn.cons rfl (fun K hK => ?_) AllReadyIn.nil
        go_simp
        refine hK _ _ ?_
        clear hK K
        try simp only [sx_]
        refine ti 4 rfl c_11 ?_
        try simp only [sx_]
        exact T_DR_3
      refine AllReadyIn.cons rfl (fun K hK => ?_) ?_
      · go_simp
        refine hK _ _ ?_
        clear hK K
        try simp only [sx_]
        refine wpAnyIn_ready (rs := [0, 3]) c_4 (by simp) ?_
        refine AllReadyIn.cons rfl (fun K hK => ?_) ?_
        · exact T_DR_2
        refine AllReadyIn.cons rfl (fun K hK => ?_) AllReadyIn.nil
        go_simp
        refine hK _ _ ?_
        clear hK K
        try simp only [sx_]
        refine ti 4 rfl c_11 ?_
        try simp only [sx_]
        exact T_DR_4
      refine AllReadyIn.cons rfl (fun K hK => ?_) AllReadyIn.nil
      go_simp
      refine hK _ _ ?_
      clear hK K
      try simp only [sx_]
      refine ti 4 rfl c_11 ?_
      try simp only [sx_]
      refine wpAnyIn_ready (rs := [0, 2]) c_4 (by simp) ?_
      refine AllReadyIn.cons rfl (fun K hK => ?_) ?_
      · go_simp
        refine hK _ _ ?_
        clear hK K
        try simp only [sx_]
        exact T_DR_3
      refine AllReadyIn.cons rfl (fun K hK => ?_) AllReadyIn.nil
      go_simp
      refine hK _ _ ?_
      clear hK K
      try simp only [sx_]
      exact T_DR_4
    case done =>
      rintro D ys W hD hys ⟨⟨h1, h2, h3, h4, h5⟩, hB⟩ hK2
      obtain ⟨k1, k2, k3, k4⟩ := stA_ok lX hd ys
      have hv := short_all lX hd hys
      generalize stA X (2 ^ s) ys = st at *
      obtain ⟨qs, r⟩ := st
      have hL : Lim W (.slice (some ⟨w.heap.size + 1, 0, none⟩) X.length X.length) qs := R32.lim h5 k2 (by first | omega | decide)
      dsimp only at h3 k3 k4 hv
      clear h5 h1 h4 hys
      gi_wp2
      refine wpIn_wide.2 ?_
      refine wp_region_noPanic ?_
      go_quiet (fail)
      refine NoPanic.normal ?_
      gi_wp2
      have hK3 : (W.drewN nq).heap[D]? = some (.deferred (some [])) := hK2
      have hL3 : Lim (W.drewN nq) (.slice (some ⟨w.heap.size + 1, 0, none⟩) X.length X.length) qs := hL
      have hB3 : Below w.heap.size w (W.drewN nq) := hB.trans ⟨rfl, rfl, rfl, Nat.le_refl _, fun _ _ => rfl⟩
      refine ⟨by simp, .inl ⟨_, _, rfl, run_takeDeferred hK3, ?_⟩⟩
      refine ⟨.tuple #[.slice (some ⟨w.heap.size + 1, 0, none⟩) X.length X.length, .bool (decide (0 < r))], ?_, _, qs, r, rfl, hL3.kept (grownBy_putObj' _ D (.deferred none)) (fun q e => by cases e; exact ⟨_, hK3, rfl⟩), hv, k3, k4, ?_⟩
      · simp [results, Tryz.f174, go_sem]
      · exact hB3.trans (belowK_b (w := w) (Nat.le_refl _) _ D _ _ (by simp at hD; omega) hK3 rfl rfl)
    case stop =>
      rintro D c pre W _ _ h _
      exact h.elim
theorem w_right (va : Value) (X : List Int) (s : Nat) (w : World) (ha : Lim w va X) (hs : s < 32) (hx : X.length ≤ 100000) :
    Calls Tryz.prog 174 #[va, .int .i64 s] w fun e w' => ∃ u qs r, e = .returned (.tuple #[u, .bool (decide (0 < r))]) ∧ Lim w' u qs ∧ val qs * 2 ^ s + r = val X ∧ 0 ≤ r ∧ r < 2 ^ s ∧ Ext w w' :=
  (callsIn_wide (n := 6)).1 (right_in va X s w ha hs hx)
end Go.Proofs.YtogblocakccbgaaGreat
