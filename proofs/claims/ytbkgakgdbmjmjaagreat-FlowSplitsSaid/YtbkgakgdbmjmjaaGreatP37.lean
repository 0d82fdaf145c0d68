/- ref23.Great: whether an ephemeris is larger than the statements consid -/
import Derived.Test.YtbkgakgdbmjmjaaGreatP19
set_option linter.unusedSimpArgs false
set_option linter.unusedVariables false
set_option maxRecDepth 100000
set_option maxHeartbeats 8000000
namespace Go.Proofs.YtbkgakgdbmjmjaaGreat
open Go.RowKit
theorem T_GRT_1 {p : Prop} (h : p := by
 go_enter Tryz.func13, Tryz.ntmps13
 go_wp2_with fail
 refine bodyPost_ret (v := .bool true) ?_ rfl (GrP.t ?_)
 ·exact b_20
 ·repeat (first | with_reducible exact Ext.refl _ | with_reducible assumption | with_reducible refine Ext.alloc ?_ _ | with_reducible refine Ext.setCell ?_ c_19 _ | with_reducible refine Ext.drewN ?_ _ | with_reducible refine Ext.drew ?_ | with_reducible refine Ext.trans ?_ c_9)) : p := h
def SmS (s : SegD) : Prop := s.c0.length ≤ 6 ∧ s.c1.length ≤ 6 ∧ s.c2.length ≤ 6
def SmB (d : BodyD) : Prop := d.segs.length ≤ 4 ∧ ∀ k, k < d.segs.length → SmS (sgA d k)
def SmQ (s : SegD) (q : Nat) : Prop := (0 < q → s.c0.length ≤ 16 → s.c0.length ≤ 6) ∧ (1 < q → s.c1.length ≤ 16 → s.c1.length ≤ 6) ∧ (2 < q → s.c2.length ≤ 16 → s.c2.length ≤ 6)
def GrA (W : World) (l : List BodyD) (i : Value) (wr : World) : Prop := ∃ k : Nat, k ≤ l.length ∧ i = .int .i64 (k : Int) ∧ Ext W wr ∧ Hid (∀ j, j < k → ¬ ManyB (bd l j) → SmB (bd l j))
def GrS (W : World) (d : BodyD) (i : Value) (wr : World) : Prop := ∃ k : Nat, k ≤ d.segs.length ∧ i = .int .i64 (k : Int) ∧ Ext W wr ∧ Hid (∀ j, j < k → ¬ ManyS (sgA d j) → SmS (sgA d j))
def GrQ (W : World) (s : SegD) (i : Value) (wr : World) : Prop := ∃ q : Nat, q ≤ 3 ∧ i = .int .i64 (q : Int) ∧ Ext W wr ∧ Hid (SmQ s q)
def GrP (l : List BodyD) (w : World) (e : Ending) (w' : World) : Prop := ∃ b, e = .returned (.bool b) ∧ Ext w w' ∧ (b = false → ¬ Many l → Sml l)
theorem GrP.t {l : List BodyD} {w w' : World} (h : Ext w w') : GrP l w (.returned (.bool true)) w' := ⟨true, rfl, h, fun h => by cases h⟩
theorem GrP.f {l : List BodyD} {w w' : World} (h : Ext w w') (k : ¬ Many l → Sml l) : GrP l w (.returned (.bool false)) w' := ⟨false, rfl, h, fun _ => k⟩
theorem sml_of {l : List BodyD} (h4 : l.length ≤ 4 ∨ 12 < l.length) (h : ∀ j, j < l.length → ¬ ManyB (bd l j) → SmB (bd l j)) : ¬ Many l → Sml l := by
 intro hM
 have h12 : ¬ 12 < l.length := fun e => hM (Or.inl e)
 refine ⟨by omega, fun i hi => ?_⟩
 exact h i hi (fun e => hM (Or.inr ⟨i, hi, e⟩))
theorem g_Great (v : Value) (l : List BodyD) (w : World) (hB : Bds w v l) :
    Calls Tryz.prog 13 #[.agg #[v]] w fun e w' => GrP l w e w' := by
 obtain ⟨ao, b, o, cap, rfl, ha, hl, hm⟩ := hB.len
 by_cases hbig : 20 < l.length
 ·exact T_GRT_1
 by_cases hbig2 : 4 < l.length ∧ l.length ≤ 12
 ·obtain ⟨h4, h12⟩ := hbig2
  exact T_GRT_1
 have h4 : l.length ≤ 4 ∨ 12 < l.length := by omega
 have hsm := Lib.hid (fun h => sml_of (l := l) h4 h)
 clear hbig2
 rcases h4 with h4 | h4
 all_goals
  go_enter Tryz.func13, Tryz.ntmps13
  go_wp2_with fail
  go_loopw [3] (fun i wr => GrA (w.alloc (.cells #[.slice ao l.length cap] 24)) l i wr) (fun i _ => l.length - (intOf i).toNat)
  case atStart => exact ⟨0, Nat.zero_le _, rfl, Ext.refl _, Lib.hid (fun m hm => absurd hm (by omega))⟩
  case round =>
   obtain ⟨k, hk, hi, hX, hno⟩ := hrel
   subst hi
   have hXw : Ext w wr := ((Ext.refl w).alloc _).trans hX
   have hce : wr.cell? ⟨w.heap.size, 0, none⟩ = some (.slice ao l.length cap) := (hX.cells.1 _ 0 (by simp)).trans (by simp [go_sem])
   by_cases hkl : k = l.length
   ·have hfin := hsm.out (fun j hj => hno.out j (by omega))
    subst hkl
    clear hno
    have hfin2 := Lib.hid hfin
    clear hfin
    go_wp2_with fail
    refine bodyPost_ret (v := .bool false) ?_ rfl (GrP.f ?_ hfin2.out)
    ·exact b_20
    ·exact b_6
   ·obtain rfl := ha (by omega)
    obtain ⟨hb1, vs, ⟨c0, c1, c2, c3⟩, hns, hg1, hr1, hss⟩ := (hB.ext hXw).at (i := k) (by omega)
    obtain ⟨sao, sb, so, scap, rfl, sha, shl, shm⟩ := hss.len
    by_cases hn200 : 200 < (bd l k).name.size
    ·go_wp2_with fail
     refine bodyPost_ret (v := .bool true) ?_ rfl (GrP.t ?_)
     ·exact b_20
     ·exact b_6
    by_cases hm110 : 110 < (bd l k).segs.length
    ·go_wp2_with fail
     refine bodyPost_ret (v := .bool true) ?_ rfl (GrP.t ?_)
     ·exact b_20
     ·exact b_6
    by_cases hm4 : 4 < (bd l k).segs.length ∧ (bd l k).segs.length ≤ 100
    ·obtain ⟨hm41, hm42⟩ := hm4
     go_wp2_with fail
     refine bodyPost_ret (v := .bool true) ?_ rfl (GrP.t ?_)
     ·exact b_20
     ·exact b_6
    have hm : (bd l k).segs.length ≤ 4 ∨ 100 < (bd l k).segs.length := by omega
    have hmb : ∀ m, m = (bd l k).segs.length → Hid (∀ j, j < m → ¬ ManyS (sgA (bd l k) j) → SmS (sgA (bd l k) j)) → Hid (∀ j, j < k + 1 → ¬ ManyB (bd l j) → SmB (bd l j)) := fun m e h => Lib.hid (fun j hj hM => by
     rcases Nat.lt_or_ge j k with q | q
     ·exact hno.out j q hM
     ·obtain rfl : j = k := by omega
      refine ⟨by rcases hm with q | q; exact q; exact absurd (Or.inl q) hM, fun i hi => h.out i (by omega) (fun q => hM (Or.inr ⟨i, hi, q⟩))⟩)
    clear hm4 hno
    obtain ⟨wA, rfl⟩ : ∃ x, x = wr := ⟨_, rfl⟩
    rcases hm with hm | hm
    all_goals
     go_wp2_with fail
     go_loopw [5] (fun i wr => GrS (wA.alloc (.cells #[.string (bd l k).name, .int .i64 (bd l k).gm, .int .i64 (bd l k).rad, .slice sao (bd l k).segs.length scap] 50)) (bd l k) i wr) (fun i _ => (bd l k).segs.length - (intOf i).toNat)
     case atStart => exact ⟨0, Nat.zero_le _, rfl, Ext.refl _, Lib.hid (fun m hm => absurd hm (by omega))⟩
     case round =>
      obtain ⟨j, hj, hi, hY, hn2⟩ := hrel
      subst hi
      have hYA : Ext wA wr := ((Ext.refl wA).alloc _).trans hY
      have hce2 := (hYA.cells.1 w.heap.size 0 (World.block_lt_of_cell? wA _ hce)).trans hce
      have hcb3 : wr.cell? ⟨wA.heap.size, 3, none⟩ = some (.slice sao (bd l k).segs.length scap) := (hY.cells.1 _ 3 (by simp)).trans (by simp [go_sem])
      by_cases hjl : j = (bd l k).segs.length
      ·have hfin := hmb j hjl hn2
       clear hn2 hmb
       subst hjl
       go_wp2_with fail
       go_roundw
       case rel => exact ⟨k + 1, by omega, (by congr 1), hX.trans hYA, hfin⟩
       case measure => first | (simp [intOf]; done) | (simp [intOf]; omega)
      ·obtain rfl := sha (by omega)
       obtain ⟨hsb1, a0, d0, o0, p0, a1, d1, o1, p1, a2, d2, o2, p2, ⟨g0, g1, g2, g3, g4⟩, hsg, -, -, -, hl0, hl1, hl2⟩ := (hss.ext hYA).at (i := j) (by omega)
       have hst : Hid (SmQ (sgA (bd l k) j) 3) → Hid (∀ i, i < j + 1 → ¬ ManyS (sgA (bd l k) i) → SmS (sgA (bd l k) i)) := fun h => Lib.hid (fun i hi hM => by
        rcases Nat.lt_or_ge i j with q | q
        ·exact hn2.out i q hM
        ·obtain rfl : i = j := by omega
         obtain ⟨q0, q1, q2⟩ := h.out
         unfold ManyS at hM
         exact ⟨q0 (by omega) (by omega), q1 (by omega) (by omega), q2 (by omega) (by omega)⟩)
       clear hn2 hmb
       generalize sgA (bd l k) j = s at *
       obtain ⟨wB, rfl⟩ : ∃ x, x = wr := ⟨_, rfl⟩
       go_wp2_with fail
       go_loopw [6] (fun i wr => GrQ wB s i wr) (fun i _ => 3 - (intOf i).toNat)
       case atStart => exact ⟨0, Nat.zero_le _, rfl, ex_, Lib.hid ⟨fun h => absurd h (by omega), fun h => absurd h (by omega), fun h => absurd h (by omega)⟩⟩
       case round =>
        obtain ⟨q, hq, hi, hZ, hn3⟩ := hrel
        subst hi
        have hYB : Ext wA wr := hYA.trans hZ
        have hce3 := (hYB.cells.1 w.heap.size 0 (World.block_lt_of_cell? wA _ hce)).trans hce
        have hcb4 := (hZ.cells.1 wA.heap.size 3 (World.block_lt_of_cell? wB _ hcb3)).trans hcb3
        have k2 := (hZ.cells.1 sb _ hsb1).trans g2
        have k3 := (hZ.cells.1 sb _ hsb1).trans g3
        have k4 := (hZ.cells.1 sb _ hsb1).trans g4
        rcases (show q = 0 ∨ q = 1 ∨ q = 2 ∨ q = 3 by omega) with rfl | rfl | rfl | rfl
        case inr.inr.inr =>
         have hfin := hst hn3
         clear hn3 hst
         go_wp2_with fail
         go_roundw
         case rel => exact ⟨j + 1, by omega, (by congr 1), hY.trans hZ, hfin⟩
         case measure => first | (simp [intOf]; done) | (simp [intOf]; omega)
        case inl =>
         by_cases hb30 : 30 < s.c0.length
         ·go_wp2_with fail
          refine bodyPost_ret (v := .bool true) ?_ rfl (GrP.t ?_)
          ·exact b_20
          ·exact b_6
         by_cases hb6 : 6 < s.c0.length ∧ s.c0.length ≤ 16
         ·obtain ⟨hb61, hb62⟩ := hb6
          go_wp2_with fail
          refine bodyPost_ret (v := .bool true) ?_ rfl (GrP.t ?_)
          ·exact b_20
          ·exact b_6
         have hb7 : s.c0.length ≤ 6 ∨ 16 < s.c0.length := by omega
         have hnx : Hid (SmQ s 1) := Lib.hid ⟨fun _ h => by omega, fun h => absurd h (by omega), fun h => absurd h (by omega)⟩
         clear hb6 hn3 hst
         rcases hb7 with hb7 | hb7
         all_goals
          go_wp2_with fail
          go_roundw
          case rel => exact ⟨1, by omega, (by congr 1), hZ, hnx⟩
          case measure => first | (simp [intOf]; done) | (simp [intOf]; omega)
        case inr.inl =>
         by_cases hb30 : 30 < s.c1.length
         ·go_wp2_with fail
          refine bodyPost_ret (v := .bool true) ?_ rfl (GrP.t ?_)
          ·exact b_20
          ·exact b_6
         by_cases hb6 : 6 < s.c1.length ∧ s.c1.length ≤ 16
         ·obtain ⟨hb61, hb62⟩ := hb6
          go_wp2_with fail
          refine bodyPost_ret (v := .bool true) ?_ rfl (GrP.t ?_)
          ·exact b_20
          ·exact b_6
         have hb7 : s.c1.length ≤ 6 ∨ 16 < s.c1.length := by omega
         have hnx : Hid (SmQ s 2) := Lib.hid ⟨fun _ h => hn3.out.1 (by omega) h, fun _ h => by omega, fun h => absurd h (by omega)⟩
         clear hb6 hn3 hst
         rcases hb7 with hb7 | hb7
         all_goals
          go_wp2_with fail
          go_roundw
          case rel => exact ⟨2, by omega, (by congr 1), hZ, hnx⟩
          case measure => first | (simp [intOf]; done) | (simp [intOf]; omega)
        case inr.inr.inl =>
         by_cases hb30 : 30 < s.c2.length
         ·go_wp2_with fail
          refine bodyPost_ret (v := .bool true) ?_ rfl (GrP.t ?_)
          ·exact b_20
          ·exact b_6
         by_cases hb6 : 6 < s.c2.length ∧ s.c2.length ≤ 16
         ·obtain ⟨hb61, hb62⟩ := hb6
          go_wp2_with fail
          refine bodyPost_ret (v := .bool true) ?_ rfl (GrP.t ?_)
          ·exact b_20
          ·exact b_6
         have hb7 : s.c2.length ≤ 6 ∨ 16 < s.c2.length := by omega
         have hnx : Hid (SmQ s 3) := Lib.hid ⟨fun _ h => hn3.out.1 (by omega) h, fun _ h => hn3.out.2.1 (by omega) h, fun _ h => by omega⟩
         clear hb6 hn3 hst
         rcases hb7 with hb7 | hb7
         all_goals
          go_wp2_with fail
          go_roundw
          case rel => exact ⟨3, by omega, (by congr 1), hZ, hnx⟩
          case measure => first | (simp [intOf]; done) | (simp [intOf]; omega)
end Go.Proofs.YtbkgakgdbmjmjaaGreat
