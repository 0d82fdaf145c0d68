/- The law of the groups. -/
import Derived.Test.YtcalonhphknbbaaJ34
import Derived.Test.YtcalonhphknbbaaJ36
import Derived.BigQuiet
set_option linter.unusedSimpArgs false
set_option linter.unusedVariables false
namespace Go.Proofs.Ytcalonhphknbbaa
open Go.RowKit

theorem info4 : (Try.prog.info? 4).map (fun i => (i.zero, i.size, i.bytes)) = some (some (.bool false), 1, 1) := by kernel_rfl
/-- The loop over the groups. -/
def LgO (w : World) (n B : Nat) (gs : List Gp) (iv : Value) (wr : World) : Prop := ∃ i : Nat, i ≤ gs.length ∧ iv = .int .i64 i ∧ Hid (Mk w wr B n (marks gs i))
/-- The loop over the outcomes of a group. -/
def LgI (w : World) (l : List Int) (n B : Nat) (gs : List Gp) (i a b : Nat) (sv jv : Value) (wr : World) : Prop := ∃ (m : Nat) (t : Bool), a ≤ m ∧ m ≤ b + 1 ∧ Hid (sureTo l a (m - a) = t) ∧ sv = .bool t ∧ jv = .int .i64 m ∧ Hid (Mk w wr B n (inG gs i a (m - a)))
theorem Mk.eqf {w wr : World} {B n : Nat} {f g : Nat → Bool} (h : Mk w wr B n f) (e : ∀ m, f m = g m) : Mk w wr B n g := by
  have : f = g := funext e
  rw [← this]; exact h
theorem sureTo_next (l : List Int) {a m : Nat} (h : a ≤ m) : sureTo l a (m + 1 - a) = (sureTo l a (m - a) || l.getD m 0 == 2) := by
  rw [Nat.succ_sub h, sureTo, Nat.add_sub_of_le h]
theorem inG_next (gs : List Gp) (i : Nat) {a m : Nat} (h : a ≤ m) (q : Nat) : inG gs i a (m + 1 - a) q = if q = m then true else inG gs i a (m - a) q := by
  rw [Nat.succ_sub h, inG_succ, Nat.add_sub_of_le h]
set_option maxRecDepth 100000 in
set_option maxHeartbeats 4000000 in
theorem law_groups (v : Value) (l : List Int) (w : World) (h : Oc w v l) :
    Calls Try.prog 5 #[v] w fun e w' => e = .returned (.bool true) ∧ Ext w w' := by
  have hv := fun w1 (k1 : Ext w w1) => k_Valid v l w1 (h.ext k1)
  have hcut : 100 < l.length ∨ (l.length ≤ 100 ∧ okL l = false) ∨ (l.length ≤ 100 ∧ okL l = true) := by
    rcases Nat.lt_or_ge 100 l.length with c | c
    · exact .inl c
    · cases e : okL l
      · exact .inr (.inl ⟨c, rfl⟩)
      · exact .inr (.inr ⟨c, rfl⟩)
  rcases hcut with c | ⟨c, e⟩ | ⟨c, hok⟩
  · obtain ⟨ao, b, o, cap, rfl, h1, h2, h3, h4, h5, h6⟩ := h
    have d1 : decide ((100 : Int) < (l.length : Int)) = true := decide_eq_true (by omega)
    go_enter Try.func5, Try.ntmps5
    go_wp2_with (go_at_call 12; (with_reducible refine (k_alive _).mono ?_); rintro e w1 ⟨rfl, hb1⟩)
    go_ret
    exact ⟨rfl, hb1⟩
  · rw [e] at hv
    obtain ⟨ao, b, o, cap, rfl, h1, h2, h3, h4, h5, h6⟩ := h
    have d1 : decide ((100 : Int) < (l.length : Int)) = false := decide_eq_false (by omega)
    go_enter Try.func5, Try.ntmps5
    go_wp2_with (first
      | (go_at_call 12; (with_reducible refine (k_alive _).mono ?_); rintro e w1 ⟨rfl, hb1⟩)
      | (go_at_call 13; (with_reducible refine (hv _ hb1).mono ?_); rintro e w2 ⟨rfl, h9⟩; subst h9))
    go_ret
    exact ⟨rfl, hb1⟩
  · rw [hok] at hv
    have hgr := fun w1 (k1 : Ext w w1) => w_Groups v l w1 (h.ext k1) hok
    have hG : Hid (GOk l l.length (gAt l l.length)) := (gi_at l l.length).ok
    have hGl : (gAt l l.length).length ≤ l.length := (gi_at l l.length).len
    obtain ⟨gs, egs⟩ : ∃ gs, gAt l l.length = gs := ⟨_, rfl⟩
    rw [egs] at hgr hG hGl
    clear egs
    obtain ⟨ho1, ho2, ho3⟩ := (ok_iff l).1 hok
    obtain ⟨ao, b, o, cap, rfl, h1, h2, h3, h4, h5, h6⟩ := h
    have e := h1 (by omega)
    subst e
    have hb4 := h4 (by omega)
    clear h1 h4 hok
    have d1 : decide ((100 : Int) < (l.length : Int)) = false := decide_eq_false (by omega)
    obtain ⟨i0, hi, hz0, hz1, hz2⟩ := info_parts info4
    go_enter Try.func5, Try.ntmps5
    go_upto_region 8 with (first
      | (go_at_call 12; (with_reducible refine (k_alive _).mono ?_); rintro e w1 ⟨rfl, hb1⟩)
      | (go_at_call 13; (with_reducible refine (hv _ hb1).mono ?_); rintro e w2 ⟨rfl, h9⟩; subst h9)
      | (go_at_call 8; (with_reducible refine (hgr _ hb1).mono ?_); rintro e w3 ⟨u3, rfl, hGr, hb3⟩; obtain ⟨go, gb, gc, rfl, g1, g2, g3, g4⟩ := hGr)
      | (at_make; refine wpList_make_world _ rfl _ _ 51 rfl 4 i0 (.bool false) Try.underlying51 hi hz0 .i64 .i64 _ _ l.length l.length rfl rfl rfl rfl (by omega) (by rw [hz2]; omega) (by unfold maxLen; omega) ?_))
    refine wp_name fun W hW => ?_
    have hE3 := hb1.trans hb3
    have hl5 : ∀ i, i < l.length → w3.cell? ⟨b, o + i, none⟩ = some (.int .i8 (l.getD i 0)) := fun i hi => (hE3.cells.1 _ _ hb4).trans (h5 i hi)
    have hb5 : b < w3.heap.size := Nat.lt_of_lt_of_le hb4 hE3.size
    have hM0 : Hid (Mk w3 W w3.heap.size l.length (marks gs 0)) := by
      have e9 : W = _ := hW
      rw [e9]
      refine ⟨fun m hm => ?_, fun m => by simp [go_sem], (Ext.refl w3).alloc _, Nat.le_refl _, by simp⟩
      rw [cell_al, if_pos rfl]
      have hn : m < (madeCells #[Value.bool false] l.length).size := by rw [size_madeCells]; exact hm
      obtain ⟨x, hx⟩ : ∃ x, (madeCells #[Value.bool false] l.length)[m]? = some x := ⟨_, Array.getElem?_eq_getElem hn⟩
      have := made_mem (by decide) hx
      simp at this
      subst this
      exact hx
    clear hW hb1 hb3 hv hgr h5 h6
    go_wp2_with fail
    go_loopw [7] (fun iv wr => LgO w3 l.length w3.heap.size gs iv wr) (fun iv _ => gs.length - (intOf iv).toNat)
    case atStart => exact ⟨0, Nat.zero_le _, rfl, hM0⟩
    case round =>
      obtain ⟨i, hi2, rfl, HM⟩ := hrel
      rcases Nat.eq_or_lt_of_le hi2 with rfl | hi3
      · clear hM0
        go_wp2_with fail
        go_loopw [10] (fun kv wx => ∃ k : Nat, k ≤ l.length ∧ kv = .int .i64 k ∧ Hid (Mk w3 wx w3.heap.size l.length (marks gs gs.length))) (fun kv _ => l.length - (intOf kv).toNat)
        case atStart => exact ⟨0, Nat.zero_le _, rfl, HM⟩
        case round =>
          obtain ⟨k, hk, rfl, HM2⟩ := hrel
          rcases Nat.eq_or_lt_of_le hk with rfl | hk2
          · go_wp2_with fail
            go_ret
            exact ⟨rfl, hE3.trans HM2.out.2.2.1⟩
          · have c1 := HM2.out.1 k hk2
            have c2 := (HM2.out.2.2.1.cells.1 _ _ hb5).trans (hl5 k hk2)
            rw [marks_all hG.out hk2] at c1
            obtain ⟨x, ex⟩ : ∃ x, l.getD k 0 = x := ⟨_, rfl⟩
            rw [ex] at c1 c2
            clear ex hl5 g4
            go_upto_region 24 with fail
            go_quiet (fail)
            go_wp2_with fail
            go_roundw
            case rel => exact ⟨k + 1, hk2, by go_num, (HM2.out.drawn _ : Mk _ _ _ _ _)⟩
            case measure => simp [intOf]; omega
      · obtain ⟨⟨a, bb, s⟩, hgi⟩ : ∃ g, gs[i]? = some g := ⟨_, List.getElem?_eq_getElem hi3⟩
        obtain ⟨e1, hgb⟩ := g1 (by omega)
        subst e1
        have hmem : (a, bb, s) ∈ gs := List.mem_of_getElem? hgi
        have hab : a ≤ bb ∧ bb < l.length := hG.out.ends _ hmem
        have hsu : sureTo l a (bb + 1 - a) = s := sure_eq hG.out hmem
        have hend : ∀ m, inG gs i a (bb + 1 - a) m = marks gs (i + 1) m := inG_end hgi hab.1
        have hcell : ∀ wx, Ext w3 wx → wx.cell? ⟨gb, i * 3, none⟩ = some (.int .i64 (a : Nat)) ∧ wx.cell? ⟨gb, i * 3 + 1, none⟩ = some (.int .i64 (bb : Nat)) ∧ wx.cell? ⟨gb, i * 3 + 2, none⟩ = some (.bool s) := fun wx k => by
          obtain ⟨c1, c2, c3⟩ := g4 i _ hgi
          exact ⟨(k.cells.1 _ _ hgb).trans c1, (k.cells.1 _ _ hgb).trans c2, (k.cells.1 _ _ hgb).trans c3⟩
        replace hcell : Hid _ := hcell
        replace hend : Hid _ := hend
        replace hsu : Hid _ := hsu
        obtain ⟨c1, c2, c3⟩ := hcell.out wr HM.out.2.2.1
        have d2 : decide ((a : Int) < 0) = false := decide_eq_false (by omega)
        have d3 : decide ((bb : Int) < (a : Int)) = false := decide_eq_false (by omega)
        have d4 : decide ((l.length : Int) ≤ (bb : Int)) = false := decide_eq_false (by omega)
        go_upto_region 11 with fail
        go_cut [88] from 41 to 88 (fun s88 wx => s88 = .bool false ∧ Hid (Mk w3 wx w3.heap.size l.length (marks gs i)))
        case first =>
          have d3n : decide (bb < a) = false := decide_eq_false (by omega)
          have d4n : decide (l.length ≤ bb) = false := decide_eq_false (by omega)
          rcases Nat.eq_zero_or_pos i with e0 | e0
          · have d5 : decide ((0 : Int) < (i : Int)) = false := decide_eq_false (by omega)
            have d5n : decide (0 < i) = false := decide_eq_false (by omega)
            clear hM0 hG hgi hmem hcell hend hsu hl5 g4 hi hz0 hz1 hz2 ho3 d1 e0 g1
            go_quiet (fail)
            go_wp2_with fail
            go_meet
            case rel => exact ⟨rfl, (HM.out.drawn _ : Mk _ _ _ _ _)⟩
          · obtain ⟨j, hj⟩ : ∃ j, i = j + 1 := ⟨i - 1, by omega⟩
            have hji : j = i - 1 := by omega
            obtain ⟨⟨pa, pb, ps⟩, hgp⟩ : ∃ g, gs[j]? = some g := ⟨_, List.getElem?_eq_getElem (by omega)⟩
            have hlt : pb + 1 < a := prev_lt hG.out hgp (hj ▸ hgi)
            obtain ⟨q1, q2, q3⟩ := g4 j _ hgp
            replace q2 := (HM.out.2.2.1.cells.1 _ _ hgb).trans q2
            have d5 : decide ((0 : Int) < (i : Int)) = true := decide_eq_true (by omega)
            have d5n : decide (0 < i) = true := decide_eq_true (by omega)
            have d6 : decide ((a : Int) ≤ (pb : Int) + 1) = false := decide_eq_false (by omega)
            have d6n : decide (a ≤ pb + 1) = false := decide_eq_false (by omega)
            have hi1 : (1 : Int) ≤ (i : Int) := by omega
            have hi4 : (i : Int) - 1 < (gs.length : Int) := by omega
            dsimp only at q2
            rw [hji] at q2
            clear hM0 hG hgi hgp hmem hcell hend hsu hl5 g4 hi hz0 hz1 hz2 ho3 d1 e0 g1 q1 q3 hj hji
            go_quiet (fail)
            go_wp2_with fail
            go_meet
            case rel => exact ⟨rfl, (HM.out.drawn _ : Mk _ _ _ _ _)⟩
        case rest =>
          obtain ⟨rfl, HM3⟩ := hcut
          clear c1 c2 c3 hM0 HM d1 d2 d3 d4 g1 g4 hgi hmem hi hz0 hz1 hz2 hG
          obtain ⟨c1, c2, c3⟩ := hcell.out wc HM3.out.2.2.1
          have hM4 : Hid (Mk w3 wc w3.heap.size l.length (inG gs i a (a - a))) := (HM3.out.eqf fun m => by rw [Nat.sub_self, inG_zero] : Mk _ _ _ _ _)
          have hs0 : Hid (sureTo l a (a - a) = false) := (by rw [Nat.sub_self]; rfl : sureTo l a (a - a) = false)
          clear HM3
          go_wp2_with fail
          go_loopw [8, 9] (fun sv jv wx => LgI w3 l l.length w3.heap.size gs i a bb sv jv wx) (fun _ jv _ => bb + 1 - (intOf jv).toNat)
          case atStart => exact ⟨a, false, Nat.le_refl _, by omega, hs0, rfl, rfl, hM4⟩
          case round =>
            obtain ⟨m, t, hm1, hm2, ht, rfl, rfl, HX⟩ := hrel
            clear c1 c2 c3 hM4 hs0
            obtain ⟨c1, c2, c3⟩ := hcell.out _ HX.out.2.2.1
            rcases Nat.eq_or_lt_of_le hm2 with e1 | e1
            · subst e1
              have e2 : t = s := ht.out.symm.trans hsu.out
              subst e2
              have hM5 : Hid (Mk w3 wr w3.heap.size l.length (marks gs (i + 1))) := (HX.out.eqf hend.out : Mk _ _ _ _ _)
              clear HX ht hsu hend hcell hl5
              go_wp2_with fail
              go_roundw
              case rel => exact ⟨i + 1, hi3, by go_num, hM5⟩
              case measure => simp [intOf]; omega
            · have hml : m < l.length := by omega
              have cB := HX.out.1 m hml
              have fB := HX.out.2.1 m
              have sB := HX.out.2.2.2.2
              have cl := (HX.out.2.2.1.cells.1 _ _ hb5).trans (hl5 m hml)
              have hsn : ∀ t', (t || l.getD m 0 == 2) = t' → Hid (sureTo l a (m + 1 - a) = t') := fun t' h => (by rw [sureTo_next l hm1, ht.out, h] : sureTo l a (m + 1 - a) = t')
              have hMn : Hid (Mk w3 (wr.setCell ⟨w3.heap.size, m, none⟩ (.bool true)) w3.heap.size l.length (inG gs i a (m + 1 - a))) := (HX.out.step hml (inG_next gs i hm1) : Mk _ _ _ _ _)
              obtain ⟨x, ex⟩ : ∃ x, l.getD m 0 = x := ⟨_, rfl⟩
              rw [ex] at cl hsn
              obtain ⟨q, eq⟩ : ∃ q, inG gs i a (m - a) m = q := ⟨_, rfl⟩
              rw [eq] at cB
              clear ex eq HX ht hl5 hcell hend hsu
              cases t
              · have hsn2 := hsn (x == 2) (Bool.false_or _)
                clear hsn
                go_wp2_with fail
                go_roundw
                case rel => exact ⟨m + 1, x == 2, by omega, by omega, hsn2, rfl, by go_num, hMn⟩
                case measure => simp [intOf]; omega
              · have hsn2 := hsn true (Bool.true_or _)
                clear hsn
                go_wp2_with fail
                go_roundw
                case rel => exact ⟨m + 1, true, by omega, by omega, hsn2, rfl, by go_num, hMn⟩
                case measure => simp [intOf]; omega
end Go.Proofs.Ytcalonhphknbbaa
