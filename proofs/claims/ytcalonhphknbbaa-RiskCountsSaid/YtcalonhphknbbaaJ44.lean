/- Groups of outcomes: the reference's walk. -/
import Derived.Test.YtcalonhphknbbaaJ34
import Derived.Test.YtcalonhphknbbaaJ42
import Derived.Test.YtcalonhphknbbaaJ43
import Derived.Test.YtcalonhphknbbaaJ35
set_option linter.unusedSimpArgs false
set_option linter.unusedVariables false
namespace Go.Proofs.Ytcalonhphknbbaa
open Go.RowKit

/-- The outer loop. -/
def GsO (w : World) (l : List Int) (ov iv : Value) (wr : World) : Prop := ∃ (k : Nat) (gs : List Gp) (v : Value), v = ov ∧ iv = .int .i64 k ∧ Hid ((k ≤ l.length ∧ GI l k gs 0) ∨ (k = l.length + 1 ∧ gs = gAt l l.length)) ∧ Hid (gs.length ≤ 41) ∧ Hid (k ≤ 42) ∧ Hid (wr.ownsRow w.heap.size 53 3 v gs.length (gs.flatMap gcells)) ∧ Hid (Ext w wr)
/-- The box of a group. -/
def Gb (wx : World) (B k b : Nat) (t : Bool) : Prop := wx.cell? ⟨B, 0, none⟩ = some (.int .i64 (k : Nat)) ∧ wx.cell? ⟨B, 1, none⟩ = some (.int .i64 (b : Nat)) ∧ wx.cell? ⟨B, 2, none⟩ = some (.bool t) ∧ (∀ o, wx.frozen? ⟨B, o, none⟩ = false) ∧ B < wx.heap.size
theorem Gb.step {wx : World} {B k b m : Nat} {t s : Bool} (h : Gb wx B k b t) : Gb ((wx.setCell ⟨B, 1, none⟩ (.int .i64 (m : Nat))).setCell ⟨B, 2, none⟩ (.bool s)) B k m s := by
  obtain ⟨h1, h2, h3, h4, h5⟩ := h
  refine ⟨?_, ?_, ?_, fun o => ?_, by simpa using h5⟩
  · rw [cell_sc, if_neg (by simp), cell_sc, if_neg (by simp)]; exact h1
  · rw [cell_sc, if_neg (by simp), cell_sc, if_pos rfl, h2]; rfl
  · rw [cell_sc, if_pos rfl, cell_sc, if_neg (by simp), h3]; rfl
  · rw [World.frozen?_setCell, World.frozen?_setCell]; exact h4 o
def GsP (l : List Int) (gs : List Gp) (k m b : Nat) (t : Bool) : Prop := (m = k ∧ b = 0 ∧ t = false ∧ GI l k gs 0) ∨ (k < m ∧ b + 1 = m ∧ ∃ last, last ≠ 0 ∧ GI l m (gs ++ [(k, b, t)]) last)
def GsI (wo : World) (l : List Int) (gs : List Gp) (k : Nat) (iv : Value) (wx : World) : Prop := ∃ (m b : Nat) (t : Bool), iv = .int .i64 m ∧ k ≤ m ∧ m ≤ l.length ∧ Hid (GsP l gs k m b t) ∧ Hid (Gb wx wo.heap.size k b t) ∧ Hid (Ext wo wx)
set_option maxRecDepth 100000 in
set_option maxHeartbeats 4000000 in
theorem r_Groups (v : Value) (l : List Int) (w : World) (h : Oc w v l) (hok : okL l = true) :
    Calls Try.prog 9 #[v] w fun e w' => ∃ u, e = .returned (.tuple #[u, .int .i64 0]) ∧ Gr w' u (gAt l l.length) ∧ Ext w w' := by
  have hva := fun w1 (k1 : Ext w w1) => k_Valid v l w1 (h.ext k1)
  rw [hok] at hva
  obtain ⟨ho1, ho2, ho3⟩ := (ok_iff l).1 hok
  obtain ⟨ao, b, o, cap, rfl, h1, h2, h3, h4, h5, h6⟩ := h
  have e := h1 (by omega)
  subst e
  have hb4 := h4 (by omega)
  clear h1 h4
  obtain ⟨i0, hi, hz0, hz1, hz2⟩ := info_parts info53
  have hOwn : Hid (w.ownsRow w.heap.size 53 3 (.slice none 0 0) 0 []) := World.ownsRow_nil _ _ _ _
  have hG0 : Hid ((0 ≤ l.length ∧ GI l 0 [] 0) ∨ (0 = l.length + 1 ∧ ([] : List Gp) = gAt l l.length)) := Or.inl ⟨Nat.zero_le _, GI.zero l⟩
  go_enter Try.func9, Try.ntmps9
  go_wp2_with (go_at_call 13; (with_reducible refine (hva _ (Ext.refl _)).mono ?_); rintro e w1 ⟨rfl, h9⟩; subst h9)
  go_loopw [4, 5] (fun ov iv wr => GsO w1 l ov iv wr) (fun _ iv _ => 43 - (intOf iv).toNat)
  case atStart => exact ⟨0, [], _, rfl, rfl, hG0, (by decide : (0 : Nat) ≤ 41), (by decide : (0 : Nat) ≤ 42), hOwn, (Ext.refl w1 : Ext w1 w1)⟩
  case round =>
    obtain ⟨k, gs, ov, rfl, rfl, HG, HL, HK, HO, HE⟩ := hrel
    have hk42 := HK.out
    rcases Nat.lt_or_ge k l.length with hk2 | hk2
    · have HG2 : GI l k gs 0 := by
        rcases HG.out with c | c
        · exact c.2
        · exact absurd c.1 (by omega)
      have hx := ho3 k hk2
      have hc := (HE.out.cells.1 b _ hb4).trans (h5 k hk2)
      obtain ⟨x, ex⟩ : ∃ x, l.getD k 0 = x := ⟨_, rfl⟩
      rw [ex] at hx hc
      clear HG HK
      have dk : decide ((k : Int) < (l.length : Int)) = true := decide_eq_true (by omega)
      by_cases hx0 : x = 0
      · subst hx0
        have hn : Hid ((k + 1 ≤ l.length ∧ GI l (k + 1) gs 0) ∨ (k + 1 = l.length + 1 ∧ gs = gAt l l.length)) := Or.inl ⟨hk2, HG2.dead ex⟩
        have hk1 : Hid (k + 1 ≤ 42) := (by omega : k + 1 ≤ 42)
        clear HG2 ex h5
        go_wp2_with fail
        go_roundw
        case rel => exact ⟨k + 1, gs, _, rfl, by go_num, hn, HL, hk1, HO, HE⟩
        case measure => simp [intOf]; omega
      · have hxb : (x == 0) = false := by simp [hx0]
        have hE1 := HE.out
        have hbo : b < wr.heap.size := Nat.lt_of_lt_of_le hb4 hE1.size
        obtain ⟨wo, ewo⟩ : ∃ wo, wo = wr := ⟨_, rfl⟩
        subst ewo
        have hl5 : Hid (∀ i, i < l.length → wo.cell? ⟨b, o + i, none⟩ = some (.int .i8 (l.getD i 0))) := (fun i hi => (hE1.cells.1 _ _ hb4).trans (h5 i hi) : ∀ i, i < l.length → wo.cell? ⟨b, o + i, none⟩ = some (.int .i8 (l.getD i 0)))
        have hI0 : Hid (GsP l gs k k 0 false) := (Or.inl ⟨rfl, rfl, rfl, HG2⟩ : GsP l gs k k 0 false)
        have hglk : Hid (gs.length ≤ k) := HG2.len
        replace ex : Hid (l.getD k 0 = x) := ex
        replace ho3 : Hid _ := ho3
        clear HG2 h5
        go_upto_region 9 with fail
        refine wp_name fun W hW => ?_
        have hB0 : Hid (Gb W wo.heap.size k 0 false) ∧ Hid (Ext wo W) := by
          have e9 : W = _ := hW
          rw [e9]
          exact ⟨(⟨by simp [go_sem, ↓IntWalk.iteOmega], by simp [go_sem, ↓IntWalk.iteOmega], by simp [go_sem, ↓IntWalk.iteOmega], fun o => by simp [go_sem, ↓IntWalk.iteOmega], by simp⟩ : Gb _ _ _ _ _), ((Ext.refl wo).alloc _ : Ext _ _)⟩
        obtain ⟨hB0, hX0⟩ := hB0
        clear hW hc
        go_loopw [5] (fun iv wx => GsI wo l gs k iv wx) (fun iv _ => l.length - (intOf iv).toNat)
        case atStart => exact ⟨k, 0, false, rfl, Nat.le_refl _, by omega, hI0, hB0, hX0⟩
        case round =>
          clear hB0 hX0 hI0
          obtain ⟨m, bb, t, rfl, hm1, hm2, HI, HB, HX⟩ := hrel
          obtain ⟨c0, c1, c2, cf, cs⟩ := HB.out
          have hlast : (m < l.length → l.getD m 0 = 0) → k < m ∧ bb + 1 = m ∧ ∃ last, last ≠ 0 ∧ GI l m (gs ++ [(k, bb, t)]) last := fun hz => by
            rcases HI.out with c | c
            · exact absurd (ex.out.symm.trans (c.1 ▸ hz (by omega))) hx0
            · exact c
          have happ : ∀ (k2 : Nat), ((k2 ≤ l.length ∧ GI l k2 (gs ++ [(k, bb, t)]) 0) ∨ (k2 = l.length + 1 ∧ gs ++ [(k, bb, t)] = gAt l l.length)) → k2 ≤ 42 → (gs ++ [(k, bb, t)]).length ≤ 41 → ∀ wz v', wz.ownsRow w1.heap.size 53 3 v' (gs.length + 1) ((gs ++ [(k, bb, t)]).flatMap gcells) → Ext w1 wz → ∀ iv, iv = .int .i64 (k2 : Nat) → GsO w1 l v' iv wz := fun k2 p1 p2 p3 wz v' p4 p5 iv p6 =>
            ⟨k2, gs ++ [(k, bb, t)], v', rfl, p6, p1, p3, p2, (by rw [List.length_append]; exact p4 : wz.ownsRow w1.heap.size 53 3 v' (gs ++ [(k, bb, t)]).length ((gs ++ [(k, bb, t)]).flatMap gcells)), p5⟩
          have ho1 := own_extG HO.out HX.out
          have hszx := HX.out.size
          have hszo := hE1.size
          have hown := World.ownsRow.alloc ho1 (.cells (gcells (k, bb, t)).toArray 53)
          have hnews := cell_new_c wr (gcells (k, bb, t)) 53
          have hEx : Ext w1 (wr.alloc (.cells (gcells (k, bb, t)).toArray 53)) := (hE1.trans HX.out).alloc _
          have hgl : gs.length ≤ 40 := by have := hglk.out; omega
          have hq1 : Hid (gs.length + 1 ≤ maxLen) := (Nat.le_trans (Nat.succ_le_succ hgl) (by decide) : gs.length + 1 ≤ maxLen)
          have hq2 : Hid ((gs.length + 1) * 24 ≤ 140737488355328) := (Nat.le_trans (Nat.mul_le_mul_right 24 (Nat.succ_le_succ hgl)) (by decide) : (gs.length + 1) * 24 ≤ 140737488355328)
          have hq3 : Hid (w1.heap.size ≤ (wr.alloc (.cells (gcells (k, bb, t)).toArray 53)).heap.size) := (by rw [World.size_alloc]; omega : w1.heap.size ≤ (wr.alloc (.cells (gcells (k, bb, t)).toArray 53)).heap.size)
          have hEg : Hid (∀ w2, (wr.alloc (.cells (gcells (k, bb, t)).toArray 53)).grownBy w2 ov.ownBlock → Ext w1 w2) := fun w2 hg => own_growG hEx hown (Nat.le_refl _) hg
          have hlen3 : Hid ((gs ++ [(k, bb, t)]).length ≤ 41) := (by rw [List.length_append]; simp; omega : (gs ++ [(k, bb, t)]).length ≤ 41)
          replace hnews : Hid _ := hnews
          replace happ : Hid _ := happ
          replace hown : Hid _ := hown
          replace hE1 : Hid _ := hE1
          clear ho1 hEx
          rcases Nat.lt_or_ge m l.length with hm3 | hm3
          · have hy := ho3.out m hm3
            have hcy := (HX.out.cells.1 _ _ hbo).trans (hl5.out m hm3)
            have dm : decide ((m : Int) < (l.length : Int)) = true := decide_eq_true (by omega)
            obtain ⟨y, ey⟩ : ∃ y, l.getD m 0 = y := ⟨_, rfl⟩
            rw [ey] at hy hcy
            by_cases hy0 : y = 0
            · subst hy0
              obtain ⟨j1, j2, last, j3, j4⟩ := hlast (fun _ => ey)
              have hnx : Hid ((m + 1 ≤ l.length ∧ GI l (m + 1) (gs ++ [(k, bb, t)]) 0) ∨ (m + 1 = l.length + 1 ∧ gs ++ [(k, bb, t)] = gAt l l.length)) := Or.inl ⟨hm3, j4.dead ey⟩
              clear hlast j4 ey HI HB HX
              go_wp2_with (at_builtin; go_must (refine wpList_append_own _ rfl _ _ 33 rfl w1.heap.size 53 i0 (.agg #[.int .i64 0, .int .i64 0, .bool false]) 3 24 Try.underlying33 hi hz0 hz1 hz2 rfl (by decide) _ _ _ rfl hown.out ⟨wr.heap.size, 0, none⟩ 1 1 (gcells (k, bb, t)) rfl rfl hnews.out (g_one _) hq1.out hq2.out hq3.out ?_); intro v' w2 hown1 hgrow1 hnil; rw [snoc_flat] at hown1; have hfin := happ.out (m + 1) hnx.out (by omega) hlen3.out w2 v' hown1 (hEg.out w2 hgrow1); replace hfin : Hid _ := hfin; clear hown1 hgrow1 hnil)
              go_roundw
              case rel => exact hfin.out _ (by go_num)
              case measure => simp [intOf]; omega
            · have hyb : (y != 0) = true := by simp [hy0]
              have hI2 : ∀ s, (t || y == 2) = s → Hid (GsP l gs k (m + 1) m s) := fun s hs => by
                refine Or.inr ⟨by omega, rfl, y, hy0, ?_⟩
                rw [← hs]
                rcases HI.out with ⟨rfl, rfl, rfl, hg⟩ | ⟨j1, j2, last, j3, j4⟩
                · rw [Bool.false_or]; exact hg.fresh ey hy0
                · exact j4.more j3 j2 ey hy0
              have hBn : ∀ s, Hid (Gb ((wr.setCell ⟨wo.heap.size, 1, none⟩ (.int .i64 (m : Nat))).setCell ⟨wo.heap.size, 2, none⟩ (.bool s)) wo.heap.size k m s) := fun s => (HB.out.step : Gb _ _ _ _ _)
              have hXn : ∀ s, Hid (Ext wo ((wr.setCell ⟨wo.heap.size, 1, none⟩ (.int .i64 (m : Nat))).setCell ⟨wo.heap.size, 2, none⟩ (.bool s))) := fun s => ((HX.out.setCell (p := ⟨wo.heap.size, 1, none⟩) (Nat.le_refl _) _).setCell (p := ⟨wo.heap.size, 2, none⟩) (Nat.le_refl _) _ : Ext _ _)
              have f1 := cf 1
              have f2 := cf 2
              clear hlast ey HI HB HX happ hown hnews hEg hlen3 hq1 hq2 hq3 cf
              cases t
              · have hI3 := hI2 (y == 2) (Bool.false_or _)
                have hB3 := hBn (y == 2)
                have hX3 := hXn (y == 2)
                clear hI2 hBn hXn
                go_wp2_with fail
                go_roundw
                case rel => exact ⟨m + 1, m, y == 2, by go_num, by omega, by omega, hI3, hB3, hX3⟩
                case measure => simp [intOf]; omega
              · have hI3 := hI2 true (Bool.true_or _)
                have hB3 := hBn true
                have hX3 := hXn true
                clear hI2 hBn hXn
                go_wp2_with fail
                go_roundw
                case rel => exact ⟨m + 1, m, true, by go_num, by omega, by omega, hI3, hB3, hX3⟩
                case measure => simp [intOf]; omega
          · have hml : m = l.length := by omega
            obtain ⟨j1, j2, last, j3, j4⟩ := hlast (fun hq => absurd hq (by omega))
            have dm : decide ((m : Int) < (l.length : Int)) = false := decide_eq_false (by omega)
            have hnx : Hid ((m + 1 ≤ l.length ∧ GI l (m + 1) (gs ++ [(k, bb, t)]) 0) ∨ (m + 1 = l.length + 1 ∧ gs ++ [(k, bb, t)] = gAt l l.length)) := Or.inr ⟨by omega, by rw [← hml]; exact j4.eqg⟩
            have hm42 : m + 1 ≤ 42 := by omega
            clear hlast j4 HI HB HX
            replace hml : Hid _ := hml
            go_wp2_with (at_builtin; go_must (refine wpList_append_own _ rfl _ _ 33 rfl w1.heap.size 53 i0 (.agg #[.int .i64 0, .int .i64 0, .bool false]) 3 24 Try.underlying33 hi hz0 hz1 hz2 rfl (by decide) _ _ _ rfl hown.out ⟨wr.heap.size, 0, none⟩ 1 1 (gcells (k, bb, t)) rfl rfl hnews.out (g_one _) hq1.out hq2.out hq3.out ?_); intro v' w2 hown1 hgrow1 hnil; rw [snoc_flat] at hown1; have hfin := happ.out (m + 1) hnx.out hm42 hlen3.out w2 v' hown1 (hEg.out w2 hgrow1); replace hfin : Hid _ := hfin; clear hown1 hgrow1 hnil)
            go_roundw
            case rel => exact hfin.out _ (by go_num)
            case measure => simp [intOf]; omega
    · have hgs : gs = gAt l l.length := by
        rcases HG.out with c | c
        · have : k = l.length := by omega
          rw [← this]; exact c.2.eqg
        · exact c.2
      have dk : decide ((k : Int) < (l.length : Int)) = false := decide_eq_false (by omega)
      replace hgs : Hid _ := hgs
      go_wp2_with fail
      go_ret2
      exact ⟨_, rfl, hgs.out ▸ Gr.of HO.out, HE.out⟩
end Go.Proofs.Ytcalonhphknbbaa

/- Lists that are not valid; the four functions. -/
namespace Go.Proofs.Ytcalonhphknbbaa
open Go.RowKit

set_option maxRecDepth 100000 in
set_option maxHeartbeats 4000000 in
theorem w_BoundsBad (v : Value) (l : List Int) (w : World) (h : Oc w v l) (hok : okL l = false) :
    Calls Try.prog 6 #[v] w fun e w' => ∃ a b, e = .returned (.tuple #[a, b, .int .i64 8]) ∧ Fq w' a 0 0 ∧ Fq w' b 0 0 ∧ Ext w w' := by
  have hck := fun w1 (k1 : Ext w w1) => k_check v l w1 (h.ext k1)
  rw [hok] at hck
  simp only [Bool.false_eq_true, if_false] at hck
  obtain ⟨ao, b, o, cap, rfl, h1, h2, h3, h4, h5, h6⟩ := h
  go_enter Try.func6, Try.ntmps6
  go_wp2_with (go_at_call 19; (with_reducible refine (hck _ (by repeat (first | with_reducible exact Ext.refl _ | with_reducible assumption | with_reducible refine Ext.alloc ?_ _ | with_reducible refine Ext.setCell ?_ (by (try simp only [World.size_alloc, World.size_setCell]); omega) _ | with_reducible refine Ext.drewN ?_ _ | with_reducible refine Ext.drew ?_ | with_reducible refine Ext.trans ?_ (by with_reducible assumption)))).mono ?_); rintro e w1 ⟨rfl, h9⟩; subst h9)
  refine bodyPost_ret (v := .tuple #[.agg #[.bool false, .slice none 0 0, .bool false, .slice none 0 0], .agg #[.bool false, .slice none 0 0, .bool false, .slice none 0 0], .int .i64 8]) ?_ rfl ⟨_, _, rfl, ⟨_, _, rfl, Lim.nil _, Lim.nil _⟩, ⟨_, _, rfl, Lim.nil _, Lim.nil _⟩, ?_⟩
  · simp [results, Try.results6, go_sem, ↓IntWalk.iteOmega, *]
  · repeat (first | with_reducible exact Ext.refl _ | with_reducible assumption | with_reducible refine Ext.alloc ?_ _ | with_reducible refine Ext.setCell ?_ (by (try simp only [World.size_alloc, World.size_setCell]); omega) _ | with_reducible refine Ext.drewN ?_ _ | with_reducible refine Ext.drew ?_ | with_reducible refine Ext.trans ?_ (by with_reducible assumption))
set_option maxRecDepth 100000 in
set_option maxHeartbeats 4000000 in
theorem r_BoundsBad (v : Value) (l : List Int) (w : World) (h : Oc w v l) (hok : okL l = false) :
    Calls Try.prog 7 #[v] w fun e w' => ∃ a b, e = .returned (.tuple #[a, b, .int .i64 8]) ∧ Fq w' a 0 0 ∧ Fq w' b 0 0 ∧ Ext w w' := by
  have hck := fun w1 (k1 : Ext w w1) => k_Valid v l w1 (h.ext k1)
  rw [hok] at hck
  obtain ⟨ao, b, o, cap, rfl, h1, h2, h3, h4, h5, h6⟩ := h
  go_enter Try.func7, Try.ntmps7
  go_wp2_with (go_at_call 13; (with_reducible refine (hck _ (by repeat (first | with_reducible exact Ext.refl _ | with_reducible assumption | with_reducible refine Ext.alloc ?_ _ | with_reducible refine Ext.setCell ?_ (by (try simp only [World.size_alloc, World.size_setCell]); omega) _ | with_reducible refine Ext.drewN ?_ _ | with_reducible refine Ext.drew ?_ | with_reducible refine Ext.trans ?_ (by with_reducible assumption)))).mono ?_); rintro e w1 ⟨rfl, h9⟩; subst h9)
  refine bodyPost_ret (v := .tuple #[.agg #[.bool false, .slice none 0 0, .bool false, .slice none 0 0], .agg #[.bool false, .slice none 0 0, .bool false, .slice none 0 0], .int .i64 8]) ?_ rfl ⟨_, _, rfl, ⟨_, _, rfl, Lim.nil _, Lim.nil _⟩, ⟨_, _, rfl, Lim.nil _, Lim.nil _⟩, ?_⟩
  · simp [results, Try.results7, go_sem, ↓IntWalk.iteOmega, *]
  · repeat (first | with_reducible exact Ext.refl _ | with_reducible assumption | with_reducible refine Ext.alloc ?_ _ | with_reducible refine Ext.setCell ?_ (by (try simp only [World.size_alloc, World.size_setCell]); omega) _ | with_reducible refine Ext.drewN ?_ _ | with_reducible refine Ext.drew ?_ | with_reducible refine Ext.trans ?_ (by with_reducible assumption))
set_option maxRecDepth 100000 in
set_option maxHeartbeats 4000000 in
theorem w_GroupsBad (v : Value) (l : List Int) (w : World) (h : Oc w v l) (hok : okL l = false) :
    Calls Try.prog 8 #[v] w fun e w' => ∃ u, e = .returned (.tuple #[u, .int .i64 8]) ∧ Gr w' u [] ∧ Ext w w' := by
  have hck := fun w1 (k1 : Ext w w1) => k_check v l w1 (h.ext k1)
  rw [hok] at hck
  simp only [Bool.false_eq_true, if_false] at hck
  obtain ⟨ao, b, o, cap, rfl, h1, h2, h3, h4, h5, h6⟩ := h
  go_enter Try.func8, Try.ntmps8
  go_wp2_with (go_at_call 19; (with_reducible refine (hck _ (by repeat (first | with_reducible exact Ext.refl _ | with_reducible assumption | with_reducible refine Ext.alloc ?_ _ | with_reducible refine Ext.setCell ?_ (by (try simp only [World.size_alloc, World.size_setCell]); omega) _ | with_reducible refine Ext.drewN ?_ _ | with_reducible refine Ext.drew ?_ | with_reducible refine Ext.trans ?_ (by with_reducible assumption)))).mono ?_); rintro e w1 ⟨rfl, h9⟩; subst h9)
  go_ret2
  exact ⟨_, rfl, ⟨none, 0, 0, rfl, fun p => absurd p (by simp), Nat.le_refl _, by omega, fun i g hg => by simp at hg⟩, (by repeat (first | with_reducible exact Ext.refl _ | with_reducible assumption | with_reducible refine Ext.alloc ?_ _ | with_reducible refine Ext.setCell ?_ (by (try simp only [World.size_alloc, World.size_setCell]); omega) _ | with_reducible refine Ext.drewN ?_ _ | with_reducible refine Ext.drew ?_ | with_reducible refine Ext.trans ?_ (by with_reducible assumption)))⟩
set_option maxRecDepth 100000 in
set_option maxHeartbeats 4000000 in
theorem r_GroupsBad (v : Value) (l : List Int) (w : World) (h : Oc w v l) (hok : okL l = false) :
    Calls Try.prog 9 #[v] w fun e w' => ∃ u, e = .returned (.tuple #[u, .int .i64 8]) ∧ Gr w' u [] ∧ Ext w w' := by
  have hck := fun w1 (k1 : Ext w w1) => k_Valid v l w1 (h.ext k1)
  rw [hok] at hck
  obtain ⟨ao, b, o, cap, rfl, h1, h2, h3, h4, h5, h6⟩ := h
  go_enter Try.func9, Try.ntmps9
  go_wp2_with (go_at_call 13; (with_reducible refine (hck _ (by repeat (first | with_reducible exact Ext.refl _ | with_reducible assumption | with_reducible refine Ext.alloc ?_ _ | with_reducible refine Ext.setCell ?_ (by (try simp only [World.size_alloc, World.size_setCell]); omega) _ | with_reducible refine Ext.drewN ?_ _ | with_reducible refine Ext.drew ?_ | with_reducible refine Ext.trans ?_ (by with_reducible assumption)))).mono ?_); rintro e w1 ⟨rfl, h9⟩; subst h9)
  go_ret2
  exact ⟨_, rfl, ⟨none, 0, 0, rfl, fun p => absurd p (by simp), Nat.le_refl _, by omega, fun i g hg => by simp at hg⟩, (by repeat (first | with_reducible exact Ext.refl _ | with_reducible assumption | with_reducible refine Ext.alloc ?_ _ | with_reducible refine Ext.setCell ?_ (by (try simp only [World.size_alloc, World.size_setCell]); omega) _ | with_reducible refine Ext.drewN ?_ _ | with_reducible refine Ext.drew ?_ | with_reducible refine Ext.trans ?_ (by with_reducible assumption)))⟩
/-- What the four functions return: the same. -/
def Same4 (w : World) (v : Value) (E : Int) (p q r s : Nat) (gs : List Gp) : Prop :=
  (E = 0 ∨ E = 8) ∧ gs.length ≤ 41 ∧
  (∀ w1, Ext w w1 → Calls Try.prog 6 #[v] w1 fun e w' => ∃ a b, e = .returned (.tuple #[a, b, .int .i64 E]) ∧ Fq w' a p q ∧ Fq w' b r s ∧ Ext w1 w') ∧
  (∀ w1, Ext w w1 → Calls Try.prog 7 #[v] w1 fun e w' => ∃ a b, e = .returned (.tuple #[a, b, .int .i64 E]) ∧ Fq w' a p q ∧ Fq w' b r s ∧ Ext w1 w') ∧
  (∀ w1, Ext w w1 → Calls Try.prog 8 #[v] w1 fun e w' => ∃ u, e = .returned (.tuple #[u, .int .i64 E]) ∧ Gr w' u gs ∧ Ext w1 w') ∧
  (∀ w1, Ext w w1 → Calls Try.prog 9 #[v] w1 fun e w' => ∃ u, e = .returned (.tuple #[u, .int .i64 E]) ∧ Gr w' u gs ∧ Ext w1 w')
theorem same4 {w : World} {v : Value} {l : List Int} (h : Oc w v l) : ∃ E p q r s gs, Same4 w v E p q r s gs := by
  cases hok : okL l
  · exact ⟨8, 0, 0, 0, 0, [], Or.inr rfl, by simp, fun w1 k => w_BoundsBad v l w1 (h.ext k) hok, fun w1 k => r_BoundsBad v l w1 (h.ext k) hok, fun w1 k => w_GroupsBad v l w1 (h.ext k) hok, fun w1 k => r_GroupsBad v l w1 (h.ext k) hok⟩
  · obtain ⟨ho1, ho2, _⟩ := (ok_iff l).1 hok
    obtain ⟨n, hn⟩ : ∃ n, l.length = 2 * n + 1 := ⟨l.length / 2, by omega⟩
    have hn2 : n ≤ 20 := by omega
    have hlen := (gi_at l l.length).len
    exact ⟨0, _, _, _, _, _, Or.inl rfl, by omega, fun w1 k => w_Bounds v l n w1 (h.ext k) hok hn hn2, fun w1 k => r_Bounds v l n w1 (h.ext k) hok hn hn2, fun w1 k => w_Groups v l w1 (h.ext k) hok, fun w1 k => r_Groups v l w1 (h.ext k) hok⟩

end Go.Proofs.Ytcalonhphknbbaa
