/- Groups of outcomes: the walk. -/
import Derived.Test.YtcalonhphknbbaaJ34
import Derived.BigQuiet
set_option linter.unusedSimpArgs false
set_option linter.unusedVariables false
namespace Go.Proofs.Ytcalonhphknbbaa
open Go.RowKit

set_option maxRecDepth 100000 in
set_option maxHeartbeats 4000000 in
theorem w_Groups (v : Value) (l : List Int) (w : World) (h : Oc w v l) (hok : okL l = true) :
    Calls Try.prog 8 #[v] w fun e w' => ∃ u, e = .returned (.tuple #[u, .int .i64 0]) ∧ Gr w' u (gAt l l.length) ∧ Ext w w' := by
  have hck := fun w1 (k1 : Ext w w1) => k_check v l w1 (h.ext k1)
  rw [hok] at hck
  simp only [if_true] at hck
  obtain ⟨ho1, ho2, ho3⟩ := (ok_iff l).1 hok
  obtain ⟨ao, b, o, cap, rfl, h1, h2, h3, h4, h5, h6⟩ := h
  have e := h1 (by omega)
  subst e
  have hb4 := h4 (by omega)
  clear h1 h4
  obtain ⟨i0, hi, hz0, hz1, hz2⟩ := info_parts info53
  have hOwn : Hid (w.ownsRow w.heap.size 53 3 (.slice none 0 0) 0 []) := World.ownsRow_nil _ _ _ _
  go_enter Try.func8, Try.ntmps8
  go_wp2_with (go_at_call 19; (with_reducible refine (hck _ (Ext.refl _)).mono ?_); rintro e w1 ⟨rfl, h9⟩; subst h9)
  go_loopw [5, 6, 17] (fun ov lv kv wr => GrR w1 l ov lv kv wr) (fun _ _ kv _ => l.length - (intOf kv).toNat)
  case atStart => exact ⟨0, [], 0, _, rfl, Nat.zero_le _, rfl, rfl, (⟨by decide, by decide⟩ : -128 ≤ (0 : Int) ∧ (0 : Int) ≤ 127), GI.zero l, hOwn, Ext.refl _⟩
  case round =>
    obtain ⟨k, gs, last, ov, rfl, hk, rfl, rfl, hlr, HG, HO, HE⟩ := hrel
    rcases Nat.eq_or_lt_of_le hk with rfl | hk2
    · go_wp2_with fail
      go_ret2
      exact ⟨_, rfl, HG.out.eqg ▸ Gr.of HO.out, HE.out⟩
    · have hx := ho3 k hk2
      have hc := (HE.out.cells.1 b _ hb4).trans (h5 k hk2)
      obtain ⟨x, ex⟩ : ∃ x, l.getD k 0 = x := ⟨_, rfl⟩
      rw [ex] at hx hc
      replace ex : Hid _ := ex
      clear h5 h6 ho3 hck
      by_cases hx0 : x = 0
      · subst hx0
        have hn := HG.out.dead ex.out
        replace hn : Hid _ := hn
        go_wp2_with fail
        go_roundw
        case rel => exact ⟨k + 1, gs, 0, ov, rfl, hk2, rfl, by go_num, (⟨by decide, by decide⟩ : -128 ≤ (0 : Int) ∧ (0 : Int) ≤ 127), hn, HO, HE⟩
        case measure => simp [intOf]; omega
      · have hxb : (x != 0) = true := by simp [hx0]
        by_cases hl0 : last = 0
        · subst hl0
          have hn := HG.out.fresh ex.out hx0
          replace hn : Hid _ := hn
          have hgl : gs.length ≤ 41 := by have := HG.out.len; omega
          have hE1 := HE.out
          have hbase : w1.heap.size ≤ wr.heap.size := hE1.size
          have hown := (HO.out).alloc (.cells (gcells (k, 0, false)).toArray 53)
          have hnews := cell_new_c wr (gcells (k, 0, false)) 53
          replace hown : Hid _ := hown
          replace hnews : Hid _ := hnews
          have hln : ((gs.length + 1 : Nat) : Int) = (gs.length : Int) + 1 := by omega
          have hm1 : Hid (gs.length + 1 ≤ maxLen) := (Nat.le_trans (Nat.succ_le_succ hgl) (by decide) : gs.length + 1 ≤ maxLen)
          have hm2 : Hid ((gs.length + 1) * 24 ≤ 140737488355328) := (Nat.le_trans (Nat.mul_le_mul_right 24 (Nat.succ_le_succ hgl)) (by decide) : (gs.length + 1) * 24 ≤ 140737488355328)
          have hm3 : Hid (w1.heap.size ≤ (wr.alloc (.cells (gcells (k, 0, false)).toArray 53)).heap.size) := (by rw [World.size_alloc]; omega : w1.heap.size ≤ (wr.alloc (.cells (gcells (k, 0, false)).toArray 53)).heap.size)
          go_upto_region 11 with fail
          go_upto_region 12 with (at_builtin; refine wpList_append_own _ rfl _ _ 33 rfl w1.heap.size 53 i0 (.agg #[.int .i64 0, .int .i64 0, .bool false]) 3 24 Try.underlying33 hi hz0 hz1 hz2 rfl (by decide) _ _ _ rfl hown.out ⟨wr.heap.size, 0, none⟩ 1 1 (gcells (k, 0, false)) rfl rfl hnews.out (g_one _) hm1.out hm2.out hm3.out ?_; intro v' w2 hown1 hgrow1 hnil; rw [snoc_flat] at hown1; obtain ⟨g, gc, rfl⟩ := own_form3 hown1; obtain ⟨c1, c2, f1, f2, gb1, gb2, hst⟩ := own_last rfl hown1; have hE3 : Hid (Ext w1 w2) := own_ext3 (hE1.alloc _) hown.out hgrow1; replace hst : Hid _ := hst; clear hown1 hgrow1 hnil)
          go_wp2_with fail
          have hE4 : Hid (Ext w1 ((w2.setCell ⟨g, gs.length * 3 + 1, none⟩ (.int .i64 (k : Nat))).setCell ⟨g, gs.length * 3 + 2, none⟩ (.bool (x == 2)))) := (hE3.out.setCell (p := ⟨g, _, none⟩) gb1 _).setCell (p := ⟨g, _, none⟩) gb1 _
          go_roundw
          case rel => exact ⟨k + 1, gs ++ [(k, k, x == 2)], x, _, rfl, hk2, rfl, by go_num, (⟨by omega, by omega⟩ : -128 ≤ x ∧ x ≤ 127), hn, (by rw [List.length_append]; exact hst.out k (x == 2)), hE4⟩
          case measure => simp [intOf]; omega
        · obtain ⟨init, a, bb, s, rfl, hbk⟩ := HG.out.open_ hl0
          have hn := HG.out.more hl0 hbk ex.out hx0
          replace hn : Hid _ := hn
          replace hbk : Hid _ := hbk
          have hlen : (init ++ [(a, bb, s)]).length = init.length + 1 := by simp
          rw [hlen] at HO
          obtain ⟨g, gc, hv⟩ := own_form3 HO.out
          subst hv
          have hil : init.length ≤ 41 := by have := HG.out.len; rw [hlen] at this; omega
          have hlb : (last == 0) = false := by simp [hl0]
          have hln : ((init.length + 1 : Nat) : Int) = (init.length : Int) + 1 := by omega
          obtain ⟨c1, c2, f1, f2, gb1, gb2, hst⟩ := own_last rfl HO.out
          replace hst : Hid _ := hst
          have hE2 : Hid (∀ t, Ext w1 ((wr.setCell ⟨g, init.length * 3 + 1, none⟩ (.int .i64 (k : Nat))).setCell ⟨g, init.length * 3 + 2, none⟩ (.bool t))) := fun t => (HE.out.setCell (p := ⟨g, _, none⟩) gb1 _).setCell (p := ⟨g, _, none⟩) gb1 _
          clear HG HE HO
          cases s
          · rw [Bool.false_or] at hn
            go_wp2_with fail
            go_roundw
            case rel => exact ⟨k + 1, init ++ [(a, k, x == 2)], x, _, rfl, hk2, rfl, by go_num, (⟨by omega, by omega⟩ : -128 ≤ x ∧ x ≤ 127), hn, (by rw [List.length_append]; exact hst.out k (x == 2)), hE2.out (x == 2)⟩
            case measure => simp [intOf]; omega
          · rw [Bool.true_or] at hn
            go_wp2_with fail
            go_roundw
            case rel => exact ⟨k + 1, init ++ [(a, k, true)], x, _, rfl, hk2, rfl, by go_num, (⟨by omega, by omega⟩ : -128 ≤ x ∧ x ≤ 127), hn, (by rw [List.length_append]; exact hst.out k true), hE2.out true⟩
            case measure => simp [intOf]; omega
end Go.Proofs.Ytcalonhphknbbaa

/- The reference compares groups. -/
namespace Go.Proofs.Ytcalonhphknbbaa
open Go.RowKit

set_option maxRecDepth 100000 in
set_option maxHeartbeats 4000000 in
theorem r_SameGroups (va vb : Value) (gs : List Gp) (w : World) (ha : Gr w va gs) (hb : Gr w vb gs) (hl : gs.length ≤ 41) :
    Calls Try.prog 11 #[va, vb] w fun e w' => e = .returned (.bool true) ∧ Ext w w' := by
  obtain ⟨ao, ba, ca, rfl, a1, a2, a3, a4⟩ := ha
  obtain ⟨bo, bb, cb, rfl, b1, b2, b3, b4⟩ := hb
  go_enter Try.func11, Try.ntmps11
  go_wp2_with fail
  go_loopw [5] (fun kv wr => ∃ k : Nat, k ≤ gs.length ∧ kv = .int .i64 k ∧ Hid (Ext w wr)) (fun kv _ => gs.length - (intOf kv).toNat)
  case atStart => exact ⟨0, Nat.zero_le _, rfl, Ext.refl _⟩
  case round =>
    obtain ⟨k, hk, rfl, HE⟩ := hrel
    rcases Nat.eq_or_lt_of_le hk with rfl | hk2
    · go_wp2_with fail
      go_ret
      exact ⟨rfl, HE.out⟩
    · obtain ⟨e1, hba⟩ := a1 (by omega)
      obtain ⟨e2, hbb⟩ := b1 (by omega)
      subst e1
      subst e2
      obtain ⟨g, hg⟩ : ∃ g, gs[k]? = some g := ⟨_, List.getElem?_eq_getElem hk2⟩
      obtain ⟨c1, c2, c3⟩ := a4 k g hg
      obtain ⟨d1, d2, d3⟩ := b4 k g hg
      replace c1 := (HE.out.cells.1 _ _ hba).trans c1
      replace c2 := (HE.out.cells.1 _ _ hba).trans c2
      replace c3 := (HE.out.cells.1 _ _ hba).trans c3
      replace d1 := (HE.out.cells.1 _ _ hbb).trans d1
      replace d2 := (HE.out.cells.1 _ _ hbb).trans d2
      replace d3 := (HE.out.cells.1 _ _ hbb).trans d3
      clear a4 b4 a1 b1 hg
      obtain ⟨x, y, z⟩ := g
      go_upto_region 6 with fail
      go_quiet (fail)
      go_wp2_with fail
      go_roundw
      case rel => exact ⟨k + 1, hk2, by go_num, (HE.out.drewN _ : Ext _ _)⟩
      case measure => simp [intOf]; omega
end Go.Proofs.Ytcalonhphknbbaa
