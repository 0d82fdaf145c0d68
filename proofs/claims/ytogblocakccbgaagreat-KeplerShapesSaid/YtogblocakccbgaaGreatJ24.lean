/- The reference: limbs divided.; The reference: limbs divided, by any divisor but none.; The reference: the greatest common divisor.; The reference: numbers divided.; The reference: numbers that are the same. -/
import Derived.Test.YtogblocakccbgaaGreatJ00
import Derived.Test.YtogblocakccbgaaGreatJ23
import Derived.Test.YtogblocakccbgaaGreatJ05
import Derived.Test.YtogblocakccbgaaGreatJ22
import Derived.Test.YtogblocakccbgaaGreatJ03
import Derived.Deep.QuietTactic
import Derived.BigQuiet
set_option linter.unusedSimpArgs false
set_option linter.unusedVariables false
set_option maxRecDepth 100000
set_option maxHeartbeats 8000000
namespace Go.Proofs.YtogblocakccbgaaGreat
open Go.RowKit Go.Shelf
def OvJ (R : List Int) (s n1 : Nat) (wo : World) (v i : Value) (wx : World) : Prop := ∃ (j : Nat) (ps : List Int), j ≤ n1 + 2 ∧ i = .int .i64 j ∧ ps.length = j ∧ Lb ps ∧ val ps * 2 ^ s = val (R.take j) - R.getD 0 0 % 2 ^ s + (R.getD j 0 % 2 ^ s) * BB ^ j ∧ Hid (A32 wx wo.heap.size v ps) ∧ Hid (Ext wo wx)
theorem r_overG (va vb : Value) (X Y : List Int) (n1 : Nat) (w : World) (ha : Lim w va X) (hb0 : Lim w vb Y) (hX : Nz X) (hY : Nz Y) (hx : X.length ≤ 49990) (hYl : Y.length = n1 + 2) (hle : val Y ≤ val X) :
    Calls Tryz.prog 180 #[va, vb] w (DivPost X Y w) := by
  have hcm := r_compare va vb X Y w ha hb0 hX hY
  have lX := ha.lb
  have lY := hb0.lb
  have hlen : Y.length ≤ X.length := by
    rcases Nat.lt_or_ge X.length Y.length with h | h
    · have := val_lt_of_len lX lY hY h; omega
    · exact h
  have hc0 : decide (cmpI (val X) (val Y) < 0) = false := decide_eq_false (by unfold cmpI; rw [if_neg (by omega)]; split <;> omega)
  obtain ⟨c, ec⟩ : ∃ c, cmpI (val X) (val Y) = c := ⟨_, rfl⟩
  rw [ec] at hcm hc0
  obtain ⟨bo, b2, o2, cap2, rfl, y1, y2, y3, y4, y5, y6⟩ := hb0.view
  have e := y1 (by omega)
  subst e
  have hbl := y4 (by omega)
  have hcell := y5 (n1 + 1) (by omega)
  have hyU : U32 (Y.getD (n1 + 1) 0) := lY.getD _
  have hy0 : Y.getD (n1 + 1) 0 ≠ 0 := by
    refine hY _ ?_
    rw [List.getLast?_eq_getElem?, hYl, List.getD_eq_getElem?_getD, List.getElem?_eq_getElem (show n1 + 1 < Y.length by omega)]
    simp
  obtain ⟨y, ey⟩ : ∃ y, Y.getD (n1 + 1) 0 = y := ⟨_, rfl⟩
  rw [ey] at hcell hyU hy0
  rw [hYl] at hcm hb0 ⊢
  clear ec y5 y4 y1
  have hyU2 := hyU
  unfold U32 at hyU2
  go_enter Tryz.func180, Tryz.ntmps180
  go_upto_block 0 with (go_at_call 128; (with_reducible refine hcm.mono ?_); rintro e w1 ⟨rfl, hb1⟩)
  go_cut [7] from 33 to 42 (fun s7 wx => ∃ s : Nat, s7 = .int .u64 s ∧ s < 32 ∧ y * 2 ^ s < 4294967296 ∧ Ext w wx)
  case first =>
    go_wp2_with fail
    go_loopw [7] (fun sv wr => ∃ s : Nat, sv = .int .u64 s ∧ s < 32 ∧ y * 2 ^ s < 4294967296 ∧ Hid (Ext w wr)) (fun sv _ => 32 - (intOf sv).toNat)
    case atStart => exact ⟨0, rfl, by decide, by omega, hb1⟩
    case round =>
      obtain ⟨s, rfl, hs, hsl, HE⟩ := hrel
      have hc1 := (HE.out.cells.1 b2 (o2 + (n1 + 1)) hbl).trans hcell
      have hp0 : (0 : Int) < 2 ^ s := Int.pow_pos (by decide)
      have hys : 0 ≤ y * 2 ^ s := Int.mul_nonneg hyU2.1 (Int.le_of_lt hp0)
      have hym : y * 2 ^ s % 4294967296 = y * 2 ^ s := Int.emod_eq_of_lt hys hsl
      have hy1 : 1 ≤ y := by omega
      have hs1 : 1 * 2 ^ s ≤ y * 2 ^ s := Int.mul_le_mul_of_nonneg_right hy1 (Int.le_of_lt hp0)
      by_cases h31 : y * 2 ^ s < 2147483648
      · have hsn : s < 31 := by
          rcases Nat.lt_or_ge s 31 with h | h
          · exact h
          · have := two_pow_le h
            have e31 : (2 : Int) ^ 31 = 2147483648 := by decide
            omega
        have hnx : y * 2 ^ (s + 1) < 4294967296 := by rw [Int.pow_succ, ← Int.mul_assoc]; omega
        go_wp2_with fail
        go_roundw
        case rel => exact ⟨s + 1, by go_num, by omega, hnx, HE⟩
        case measure => simp [intOf]; omega
      · go_wp2_with fail
        go_meet
        exact ⟨s, rfl, hs, hsl, HE.out⟩
  case rest =>
    obtain ⟨s, rfl, hs, hsl, hEc⟩ := hcut
    go_upto_region 11 with (first
      | (go_at_call 179; (with_reducible refine (r_left _ Y s _ (hb0.ext hEc) (by omega) hs).mono ?_); rintro e t1 ⟨gv, cv, Z, rfl, hOv, lZ, vZ, nZ, hx1⟩; have pv := hOv.parts; rw [nZ, hYl] at pv)
      | (go_at_call 179; (with_reducible refine (r_left _ X s _ (ha.ext (hEc.trans hx1)) (by omega) hs).mono ?_); rintro e t2 ⟨gu, cu, U0, rfl, hOu, lU0, vU0, nU0, hx2⟩; have pu := hOu.parts; rw [nU0] at hOu pu))
    have hE2 : Ext w t2 := hEc.trans (hx1.trans hx2)
    have hs1 := hE2.size
    have hsc := hEc.size
    obtain ⟨vV, lenV⟩ := top_fits (n := n1 + 1) hs (by omega) lY lZ (by omega) vZ (by rw [ey]; exact hsl)
    have lV : Lb (Z.take (n1 + 1 + 1)) := lZ.take _
    have hOv2 : O32 t2 0 gv (n1 + 2) cv (Z.take (n1 + 1 + 1)) := ((hOv.ext hx2).base (Nat.zero_le _)).take (n1 + 2) (by omega)
    have hLv : Lim t2 (.slice (some ⟨gv, 0, none⟩) (n1 + 2) cv) (Z.take (n1 + 1 + 1)) := hOv2.lim lV (by omega)
    have hVtop : (Z.take (n1 + 1 + 1)).getD (n1 + 1) 0 ≠ 0 := by
      have hvv : val (Z.take (n1 + 1 + 1)) = val Y * 2 ^ s := vV
      intro h0
      have e := val_take_succ' (Z.take (n1 + 1 + 1)) (n1 + 1)
      rw [List.take_of_length_le (by omega), h0] at e
      have p1 := val_lt (lV.take (n1 + 1))
      rw [List.length_take, lenV, Nat.min_eq_left (by omega)] at p1
      have p2 := val_pos lY hY (by rintro rfl; simp at hYl)
      rw [hYl] at p2
      have p3 : BB ^ (n1 + 1) * 1 ≤ val Y * 2 ^ s := Int.mul_le_mul p2 (Int.pow_pos (by decide)) (by decide) (val_nonneg lY)
      rw [Int.mul_zero, Int.add_zero] at e
      omega
    obtain ⟨V, eV⟩ : ∃ V, Z.take (n1 + 1 + 1) = V := ⟨_, rfl⟩
    rw [eV] at vV lenV lV hLv hVtop
    have hOu2 : O32 t2 0 gu (X.length + 1) cu U0 := hOu.base (Nat.zero_le _)
    have hgv : w.heap.size ≤ gv ∧ gv < t1.heap.size ∧ t1.heap.size ≤ t2.heap.size ∧ t1.heap.size ≤ gu ∧ gu < t2.heap.size := by
      have a1 := hx1.size; have a2 := hx2.size; omega
    obtain ⟨N, hN⟩ : ∃ N, X.length = N + (n1 + 1) := ⟨X.length - (n1 + 1), by omega⟩
    have hU0 : val U0 < BB ^ N * val V := by
      rw [vU0, vV, ← Int.mul_assoc]
      refine Int.mul_lt_mul_of_pos_right ?_ (Int.pow_pos (by decide))
      have q1 := val_lt lX
      have q2 := val_pos lY hY (by rintro rfl; simp at hYl)
      rw [hN, Int.pow_add] at q1
      rw [hYl] at q2
      exact Int.lt_of_lt_of_le q1 (Int.mul_le_mul_of_nonneg_left q2 (Int.pow_nonneg (by decide)))
    have hV2 : Hid (val V = val Y * 2 ^ s) := vV
    have hU2 : Hid (val U0 = val X * 2 ^ s) := vU0
    obtain ⟨i0, hi, hz0, hz1, hz2⟩ := info_parts info81
    clear hOv hOu hOv2 hx1 hx2 hcell vV vU0 vZ eV hsl ey hyU hy0 lZ nZ
    go_wp2_with (at_make; refine wpList_make_full _ rfl _ _ 22 rfl t2.heap.size 25 i0 (.int .u32 0) 1 Tryz.underlying22 hi hz0 hz1 .i64 .i64 _ _ N rfl rfl (by omega) (by omega) c_38 c_21 (Nat.le_refl _) ?_; intro w5 hown5 hgrow5)
    have hR5 : R32 w5 t2.heap.size t2.heap.size N (List.replicate N 0) := R32.made hown5
    have hE5 : Ext t2 w5 := Ext.grown (Ext.refl _) hgrow5
    have hOu5 := hOu2.ext hE5
    have hLv5 := hLv.ext hE5
    have hEw5 := hE2.trans hE5
    clear hown5 hgrow5 hOu2 hLv
    go_loopw [11] (fun i wr => ∃ (k : Nat) (U Q : List Int), k ≤ N ∧ i = .int .i64 ((k : Int) - 1) ∧ Lb U ∧ Lb Q ∧ Hid (∀ i, i < k → Q.getD i 0 = 0) ∧ Hid (val U + val Q * val V = val U0) ∧ val U < BB ^ k * val V ∧
        Hid (O32 wr 0 gu (X.length + 1) cu U) ∧ Hid (Lim wr (.slice (some ⟨gv, 0, none⟩) (n1 + 2) cv) V) ∧ Hid (R32 wr t2.heap.size t2.heap.size N Q) ∧ Hid (Ext w wr)) (fun i _ => (intOf i + 1).toNat)
    case atStart => exact ⟨N, U0, List.replicate N 0, Nat.le_refl _, by go_num, lU0, fun y hy => by rw [List.eq_of_mem_replicate hy]; exact ⟨by decide, by decide⟩, (fun i _ => by simp [List.getD_eq_getElem?_getD, List.getElem?_replicate]; split <;> rfl : ∀ i, i < N → _), (by rw [val_zeros]; simp : val U0 + _ = _), hU0, hOu5, hLv5, hR5, hEw5⟩
    case round =>
      clear hOu5 hLv5 hR5 hEw5
      obtain ⟨k, U, Q, hk, rfl, lU, lQ, hQ0, hval, hUk, HU, HV, HQ, HE⟩ := hrel
      have hpU := HU.out.parts
      have hQl := HQ.out.len
      have hUl := HU.out.len
      have hglt := HQ.out.lt
      cases k with
      | zero =>
        obtain ⟨wo, ewo⟩ : ∃ wo, wo = wr := ⟨_, rfl⟩
        subst ewo
        rw [show ((0 : Nat) : Int) - 1 = -1 from rfl]
        rw [Int.pow_zero, Int.one_mul] at hUk
        have hfin := hval
        have hUn : val (U.take (n1 + 2)) = val U := by
          have q := val_lt lV
          rw [lenV] at q
          exact val_take_all lU (by omega) (Int.lt_trans hUk q)
        have hLr : Lim wo (.slice (some ⟨gu, 0, none⟩) (n1 + 2) cu) (U.take (n1 + 2)) := (HU.out.take (n1 + 2) (by omega)).lim (lU.take _) (by omega)
        have hLq := HQ.out.lim lQ (by omega)
        have lR : Lb (U.take (n1 + 2)) := lU.take _
        have hRl : (U.take (n1 + 2)).length = n1 + 2 := by rw [List.length_take]; omega
        have hRc : Hid (∀ i, i < n1 + 2 → wo.cell? ⟨gu, i, none⟩ = some (.int .u32 ((U.take (n1 + 2)).getD i 0))) := fun i hi => by rw [take_getD hi]; exact HU.out.cell (by omega)
        have hguwr : gu < wo.heap.size := hpU.1
        obtain ⟨R, eR⟩ : ∃ R, U.take (n1 + 2) = R := ⟨_, rfl⟩
        rw [eR] at hUn hLr lR hRl hRc
        have hEwr := HE.out
        clear hval HU HV HQ HE hQ0 hk eR
        have hA0 : A32 wo wo.heap.size (.slice none 0 0) [] := A32.nil _ _
        go_wp2_with fail
        go_loopw [13, 14] (fun v i wx => OvJ R s n1 wo v i wx) (fun _ i _ => n1 + 2 - (intOf i).toNat)
        case atStart => exact ⟨0, [], Nat.zero_le _, rfl, rfl, Lb.nil, by simp [val]; omega, hA0, Ext.refl _⟩
        case round =>
          obtain ⟨j, ps, hj, rfl, hpl, hpb, hv, HR, HE⟩ := hrel
          have hszx := HE.out.size
          rcases Nat.eq_or_lt_of_le hj with rfl | hj2
          · have hR0 : R.getD (n1 + 2) 0 = 0 := by rw [List.getD_eq_getElem?_getD, List.getElem?_eq_none (by omega)]; rfl
            rw [hR0, Int.zero_emod, Int.zero_mul, Int.add_zero, List.take_of_length_le (by omega)] at hv
            have hp0 : (0 : Int) < 2 ^ s := Int.pow_pos (by decide)
            have rr0 := Int.emod_nonneg (R.getD 0 0) (show (2 : Int) ^ s ≠ 0 by omega)
            have rr1 := Int.emod_lt_of_pos (R.getD 0 0) hp0
            have hrv : val ps * 2 ^ s + R.getD 0 0 % 2 ^ s = val R := by omega
            obtain ⟨m1, m2⟩ := div_fin hUn hrv rr0 rr1 hp0 hfin.out hV2.out hU2.out hUk
            have hLq2 := hLq.ext HE.out
            have hLp := HR.out.lim hpb (by omega)
            have hmm1 : Hid _ := m1
            have hmm2 : Hid _ := m2
            clear m1 m2 hrv rr0 rr1 hv hRc hR0 hLq hfin
            go_wp2_with (first
              | (go_at_call 117; (with_reducible refine (r_trim _ Q _ hLq2).mono ?_); rintro e w8 ⟨u8, rfl, hu8, hb8⟩; have hLp8 := hLp.ext hb8; clear hLq2 hLp)
              | (go_at_call 117; (with_reducible refine (r_trim _ ps _ hLp8).mono ?_); rintro e w9 ⟨u9, rfl, hu9, hb9⟩))
            go_ret2
            exact ⟨_, _, trimL Q, trimL ps, rfl, hu8.ext hb9, hu9, trim_nz _, trim_nz _, by rw [val_trim, val_trim]; exact hmm1.out, by rw [val_trim]; exact hmm2.out, hEwr.trans (HE.out.trans (hb8.trans hb9))⟩
          · have hca := (HE.out.cells.1 gu j hguwr).trans (hRc.out j hj2)
            have hrU : U32 (R.getD j 0) := lR.getD j
            have hrU' : U32 (R.getD (j + 1) 0) := lR.getD (j + 1)
            have hcb : j + 1 < n1 + 2 → wr.cell? ⟨gu, j + 1, none⟩ = some (.int .u32 (R.getD (j + 1) 0)) := fun h => (HE.out.cells.1 gu (j + 1) hguwr).trans (hRc.out (j + 1) h)
            have hrz : ¬ j + 1 < n1 + 2 → R.getD (j + 1) 0 = 0 := fun h => by rw [List.getD_eq_getElem?_getD, List.getElem?_eq_none (by omega)]; rfl
            obtain ⟨r, er⟩ : ∃ r, R.getD j 0 = r := ⟨_, rfl⟩
            obtain ⟨r', er'⟩ : ∃ r', R.getD (j + 1) 0 = r' := ⟨_, rfl⟩
            rw [er] at hca hrU hv
            have hqq : Hid _ := back_round hs lR hpl er er' hv
            rw [er'] at hrU' hcb hrz
            unfold U32 at hrU hrU'
            clear hv
            obtain ⟨W, eW⟩ : ∃ W, r + r' * 4294967296 = W := ⟨_, rfl⟩
            rw [eW] at hqq
            have W0 : 0 ≤ W := by omega
            have W1 : W < 18446744073709551616 := by omega
            have hwW : IntKind.u64.wrap W = W := u64_small W0 W1
            have hwr' : IntKind.u64.wrap (r' * 4294967296) = r' * 4294967296 := u64_small (by omega) (by omega)
            have hown : (wr.alloc (.cells #[.int .u32 (W / 2 ^ s % 4294967296)] 25)).ownsRow wo.heap.size 25 1 u13 j (ps.map (Value.int .u32)) := by have := HR.out.alloc (.cells #[.int .u32 (W / 2 ^ s % 4294967296)] 25); unfold A32 at this; rw [hpl] at this; exact this
            have hWd0 : 0 ≤ W / 2 ^ s := Int.ediv_nonneg W0 (Int.le_of_lt (Int.pow_pos (by decide)))
            have hWd1 : W / 2 ^ s ≤ W := Int.ediv_le_self _ W0
            have hdone : ∀ wz v', A32 wz wo.heap.size v' (ps ++ [W / 2 ^ s % 4294967296]) → Hid (Ext wo wz) → OvJ R s n1 wo v' (.int .i64 ((j : Int) + 1)) wz := fun wz v' k1 k2 =>
              ⟨j + 1, ps ++ [W / 2 ^ s % 4294967296], hj2, by go_num, by simp [hpl], hpb.snoc (U32.mod _), by rw [er']; exact hqq.out, k1, k2⟩
            replace hdone : Hid _ := hdone
            clear er er'
            by_cases hjn : j + 1 < n1 + 2
            · have hcb2 := hcb hjn
              clear hcb hrz
              go_wp2_with (at_builtin; refine wpList_append_own _ rfl _ _ 22 rfl wo.heap.size 25 i0 (.int .u32 0) 1 4 Tryz.underlying22 hi hz0 hz1 hz2 rfl (by decide) _ _ _ rfl hown ⟨wr.heap.size, 0, none⟩ 1 1 [Value.int .u32 (W / 2 ^ s % 4294967296)] rfl rfl (cell_one_l _ _ _) c_30 c_21 (by omega) c_29 ?_; intro v' w1 hown1 hgrow1 hnil)
              have hR1 := A32.snoc hown1 hpl
              have hE1 : Hid (Ext wo w1) := (own_ext (HE.out.alloc _) hown hgrow1 : Ext wo w1)
              go_roundw
              case rel => exact hdone.out _ _ hR1 hE1
              case measure => simp [intOf]; omega
            · have hr0 := hrz hjn
              subst hr0
              have eW2 : W = r := by omega
              subst eW2
              have hm : W / 2 ^ s % 4294967296 = W / 2 ^ s := Int.emod_eq_of_lt hWd0 (by omega)
              rw [hm] at hown hdone
              clear hcb hrz eW
              go_wp2_with (at_builtin; refine wpList_append_own _ rfl _ _ 22 rfl wo.heap.size 25 i0 (.int .u32 0) 1 4 Tryz.underlying22 hi hz0 hz1 hz2 rfl (by decide) _ _ _ rfl hown ⟨wr.heap.size, 0, none⟩ 1 1 [Value.int .u32 (W / 2 ^ s)] rfl rfl (cell_one_l _ _ _) c_30 c_21 (by omega) c_29 ?_; intro v' w1 hown1 hgrow1 hnil)
              have hR1 := A32.snoc hown1 hpl
              have hE1 : Hid (Ext wo w1) := (own_ext (HE.out.alloc _) hown hgrow1 : Ext wo w1)
              go_roundw
              case rel => exact hdone.out _ _ hR1 hE1
              case measure => simp [intOf]; omega
      | succ j =>
        obtain ⟨hm, hz⟩ := div_pre lU lV lenV (j := j) (by omega) hUk
        have hgj := HQ.out.cell (k := j) (by omega)
        have hgf := HQ.out.frozen j
        have hlj : j + (n1 + 2) + 1 - j = n1 + 2 + 1 := by omega
        have hst := fun cuj hcuj => r_digit gu j (X.length + 1) cu cuj n1 U V _ wr lenV HU.out (by omega) hcuj HV.out (Off.mk (by omega)) lU (by omega) hVtop hm
        go_wp2_with (go_at_call 205; (with_reducible refine (hst _ (by omega)).mono ?_); rintro e w6 ⟨d, R, rfl, hdU, hO6, lenR, lR, hRv, hRlt, hgr6⟩; have HQ6 : O32 w6 t2.heap.size t2.heap.size N N Q := (HQ.out.own).grownAt hgr6 (by omega); have c6 := HQ6.cell (k := j) (by omega); have f6 := HQ6.frozen j)
        obtain ⟨p1, p2⟩ := div_post lU lR lenR (V := V) (j := j) (n := n1 + 2) (by omega) hz hRv hRlt
        have hsv := set_val (d := d) (show j < Q.length by omega) (hQ0.out j (by omega))
        have HO9 : Hid (O32 (w6.setCell ⟨t2.heap.size, j, none⟩ (.int .u32 d)) 0 gu (X.length + 1) cu (U.take j ++ (R ++ U.drop (j + (n1 + 2 + 1))))) := hO6.other _ (by omega)
        have HL9 : Hid (Lim (w6.setCell ⟨t2.heap.size, j, none⟩ (.int .u32 d)) (.slice (some ⟨gv, 0, none⟩) (n1 + 2) cv) V) := (HV.out.grownAt hgr6 (Off.mk (by omega))).grownAt (grown_set (k := j) (World.grownBy.refl _ (some t2.heap.size)) _) (Off.mk (by omega))
        have HQ9 : Hid (R32 (w6.setCell ⟨t2.heap.size, j, none⟩ (.int .u32 d)) t2.heap.size t2.heap.size N (Q.set j d)) := (HQ6.set j d : O32 _ _ _ _ _ _)
        have HE9 : Hid (Ext w (w6.setCell ⟨t2.heap.size, j, none⟩ (.int .u32 d))) := (ext_in HE.out hgr6 (by omega)).setCell (p := ⟨t2.heap.size, j, none⟩) c_54 _
        have hvv : val (U.take j ++ (R ++ U.drop (j + (n1 + 2 + 1)))) + val (Q.set j d) * val V = val U0 := by
          rw [p1, hsv, ← hval.out]; grind
        go_roundw
        case rel => exact ⟨j, _, Q.set j d, by omega, rfl, (lU.take j).append (lR.append (lU.drop _)), lQ.set j hdU, (fun i hi => by rw [set_low hi]; exact hQ0.out i (by omega) : ∀ i, i < j → _), hvv, p2, HO9, HL9, HQ9, HE9⟩
        case measure => simp [intOf]
end Go.Proofs.YtogblocakccbgaaGreat
namespace Go.Proofs.YtogblocakccbgaaGreat
open Go.RowKit
theorem r_overS (va vb : Value) (X Y : List Int) (w : World) (ha : Lim w va X) (hb0 : Lim w vb Y) (hX : Nz X) (hY : Nz Y) (hx : X.length ≤ 49990) (h1 : val X < val Y ∨ Y.length = 1) :
    Calls Tryz.prog 180 #[va, vb] w (DivPost X Y w) := by
 have hcm := r_compare va vb X Y w ha hb0 hX hY
 by_cases hlt : val X < val Y
 ·rw [cmp_lt hlt] at hcm
  obtain ⟨bo, b2, o2, cap2, rfl, -⟩ := hb0.view
  go_enter Tryz.func180, Tryz.ntmps180
  go_wp2_with (first
   | (go_at_call 128; (with_reducible refine hcm.mono ?_); rintro e w1 ⟨rfl, hb⟩)
   | (go_at_call 117; (with_reducible refine (r_trim _ X _ (ha.ext hb)).mono ?_); rintro e w2 ⟨u, rfl, hu, hb2⟩))
  go_ret2
  rw [trim_of_nz hX] at hu
  exact ⟨_, _, [], X, rfl, Lim.nil _, hu, Nz.nil, hX, by simp [val], hlt, hb.trans hb2⟩
 ·have hn : Y.length = 1 := h1.resolve_left hlt
  obtain ⟨d, rfl⟩ : ∃ d, Y = [d] := List.length_eq_one_iff.1 hn
  have hd0 : d ≠ 0 := hY d rfl
  have hdU := hb0.lb.head
  have hvd : val [d] = d := by simp [val]
  have hc0 : decide (cmpI (val X) (val [d]) < 0) = false := decide_eq_false (by unfold cmpI; rw [if_neg hlt]; split <;> omega)
  obtain ⟨c, ec⟩ : ∃ c, cmpI (val X) (val [d]) = c := ⟨_, rfl⟩
  rw [ec] at hcm hc0
  obtain ⟨bo, b2, o2, cap2, rfl, y1, y2, y3, y4, y5, y6⟩ := hb0.view
  have e := y1 (by simp)
  subst e
  have hcell := y5 0 (by simp)
  simp only [List.getD_cons_zero, Nat.add_zero] at hcell
  have hbl := y4 (by simp)
  simp only [List.length_cons, List.length_nil, Nat.zero_add] at hcm ⊢
  have hsh := fun w1 (k : Ext w w1) => r_short va X d w1 (ha.ext k) (by omega) hdU.2 (by omega)
  clear ec y5 y4 y1
  go_enter Tryz.func180, Tryz.ntmps180
  go_wp2_with (first
   | (go_at_call 128; (with_reducible refine hcm.mono ?_); rintro e w1 ⟨rfl, hb⟩; have hc1 := (hb.cells.1 b2 o2 hbl).trans hcell)
   | (go_at_call 204; (with_reducible refine (hsh _ hb).mono ?_); rintro e w2 ⟨u, v, qs, r, rfl, hu, hv, hval, r0, r1, hb2⟩))
  go_ret2
  refine ⟨_, _, trimL qs, trimL [r], rfl, hu, hv, trim_nz _, trim_nz _, ?_, ?_, hb.trans hb2⟩
  ·rw [val_trim, val_trim, hvd]; simpa [val] using hval
  ·rw [val_trim, hvd]; simpa [val] using r1
theorem r_over (va vb : Value) (X Y : List Int) (w : World) (ha : Lim w va X) (hb0 : Lim w vb Y) (hX : Nz X) (hY : Nz Y) (hx : X.length ≤ 49990) (h0 : 0 < Y.length) :
    Calls Tryz.prog 180 #[va, vb] w (DivPost X Y w) := by
 by_cases h1 : val X < val Y ∨ Y.length = 1
 ·exact r_overS va vb X Y w ha hb0 hX hY hx h1
 ·exact r_overG va vb X Y (Y.length - 2) w ha hb0 hX hY hx (by omega) (by omega)
theorem r_Gcd (va vb : Value) (m k : Nat) (w : World) (ha : Nn w va m) (hb0 : Nn w vb k) (hs : Small m) (hs2 : Small k) :
    Calls Tryz.prog 196 #[va, vb] w fun e w' => ∃ u, e = .returned (.tuple #[u, .int .i64 0]) ∧ Nn w' u (Nat.gcd m k) ∧ Ext w w' := by
 obtain ⟨u, rfl, hu⟩ := ha
 obtain ⟨s, rfl, hv⟩ := hb0
 obtain ⟨ao, b1, o1, cap1, rfl, -⟩ := hu.view
 obtain ⟨bo, b2, o2, cap2, rfl, -⟩ := hv.view
 have hbo := fun w1 (k1 : Ext w w1) => r_both (.agg #[.bool false, .slice ao (dig m).length cap1]) (.agg #[.bool false, .slice bo (dig k).length cap2]) m k w1 ⟨_, rfl, hu.ext k1⟩ ⟨_, rfl, hv.ext k1⟩ hs hs2
 go_enter Tryz.func196, Tryz.ntmps196
 go_upto_region 3 with (go_at_call 183; (with_reducible refine (hbo _ ex_).mono ?_); rintro e w1 ⟨rfl, hb⟩)
 have hEA : Ext w (((w.alloc (.cells #[.bool false, .slice ao (dig m).length cap1] 24)).alloc (.cells #[.bool false, .slice bo (dig k).length cap2] 24)).alloc (.cells #[.bool false, .slice none 0 0] 24)) := ex_
 have hE1 := hEA.trans hb
 have k1 : w1.cell? ⟨w.heap.size, 1, none⟩ = some (.slice ao (dig m).length cap1) := (hb.cells.1 _ 1 c_29).trans c_20
 have k3 : w1.cell? ⟨w.heap.size + 1, 1, none⟩ = some (.slice bo (dig k).length cap2) := (hb.cells.1 _ 1 (by simp)).trans c_20
 have hA4 : w.heap.size + 1 + 1 < w1.heap.size := by have := hb.size; simp only [World.size_alloc] at this; omega
 have c0 : w1.cell? ⟨w.heap.size + 1 + 1, 0, none⟩ = some (.bool false) := (hb.cells.1 _ 0 (by simp)).trans c_20
 have c1 : w1.cell? ⟨w.heap.size + 1 + 1, 1, none⟩ = some (.slice none 0 0) := (hb.cells.1 _ 1 (by simp)).trans c_20
 have f0 : ∀ o, w1.frozen? ⟨w.heap.size + 1 + 1, o, none⟩ = false := fun o => (hb.cells.2 _ o (by simp)).trans c_20
 have hnu : NoU w1 (w.heap.size + 1 + 1) := by
  have := (NoU.new ((w.alloc (.cells #[.bool false, .slice ao (dig m).length cap1] 24)).alloc (.cells #[.bool false, .slice bo (dig k).length cap2] 24)) #[.bool false, .slice none 0 0] 24 (noU2 (by simp) (by simp))).ext (by simp) hb
  simpa using this
 clear hbo hb hEA
 go_quiet (fail)
 go_wp2_with fail
 go_loopw [6, 7] (fun p q wr => ∃ a c : Nat, Small a ∧ Small c ∧ Hid (Nat.gcd a c = Nat.gcd m k) ∧ Hid (Lim wr p (dig a)) ∧ Hid (Lim wr q (dig c)) ∧ Hid (Ext w1 wr)) (fun _ q wr => lmeas wr q)
 case atStart => exact ⟨m, k, hs, hs2, rfl, hu.ext (hE1.trans ((Ext.refl _).drewN _)), hv.ext (hE1.trans ((Ext.refl _).drewN _)), (Ext.refl _).drewN _⟩
 case round =>
  obtain ⟨a, c, a1, cc1, hg, HA, HC, HB⟩ := hrel
  obtain ⟨ao4, b4, o4, cap4, rfl, -⟩ := HA.out.view
  obtain ⟨ao5, b5, o5, cap5, rfl, -⟩ := HC.out.view
  rcases Nat.eq_zero_or_pos c with h0 | h0
  ·subst h0
   have hl0 : (dig 0).length = 0 := rfl
   have hga : Hid (a = Nat.gcd m k) := by show a = _; rw [← hg.out, Nat.gcd_zero_right]
   rw [hl0]
   have hla : (dig a).length ≤ 4096 := a1
   go_wp2_with (go_at_call 59; (with_reducible refine (r_madeN _ (dig a) a _ HA.out (dig_val a) hla).mono ?_); rintro e w5 ⟨y16, rfl, hu6, hb6⟩; obtain ⟨ao7, b7, o7, cap7, rfl, _⟩ := hu6.view; have hEx := HB.out.trans hb6; have d0 := (hEx.cells.1 _ 0 hA4).trans c0; have d1 := (hEx.cells.1 _ 1 hA4).trans c1; have g0 := (hEx.cells.2 _ 0 hA4).trans (f0 0); have g1 := (hEx.cells.2 _ 1 hA4).trans (f0 1); have hnv := hnu.ext hA4 hEx)
   rw [← hga.out]
   refine bodyPost_ret (v := .tuple #[.agg #[.bool false, .slice ao7 (dig a).length cap7], .int .i64 0]) ?_ rfl ⟨_, rfl, ⟨_, rfl, ?_⟩, ?_⟩
   ·simp [results, Tryz.results196, go_sem, ↓IntWalk.iteOmega, d0, d1]
   ·exact Lim.box (Lim.box hu6 hnv) (NoU.set hnv (fun z e => by cases e))
   ·exact ((hE1.trans hEx).setCell (p := ⟨w.heap.size + 1 + 1, 0, none⟩) c_54 _).setCell (p := ⟨w.heap.size + 1 + 1, 1, none⟩) c_54 _
  ·have hl1 : 0 < (dig c).length := dig_pos.2 h0
   have hdv := r_over _ _ (dig a) (dig c) wr HA.out HC.out (dig_nz a) (dig_nz c) (by unfold Small at a1; omega) hl1
   have hmeas : lmeas wr (.slice ao5 (dig c).length cap5) = c := HC.out.meas
   go_wp2_with (go_at_call 180; (with_reducible refine hdv.mono ?_); rintro e w4 ⟨y14, y15, qs, rs, rfl, hq, hr, nq, nr, hval, hlt, hb5⟩)
   obtain ⟨eq, er⟩ := div_dig hq.lb hr.lb nq nr hval hlt
   rw [er] at hr
   have hrc : a % c < c := Nat.mod_lt _ h0
   have hm2 : lmeas w4 y15 = a % c := hr.meas
   go_roundw
   case rel => exact ⟨c, a % c, cc1, Nat.le_trans (dig_mono (Nat.le_of_lt hrc)) cc1, (by rw [Nat.gcd_comm, ← Nat.gcd_rec, Nat.gcd_comm, hg.out] : _ = _), HC.out.ext hb5, hr, HB.out.trans hb5⟩
   case measure => rw [hm2, hmeas]; exact hrc
theorem T_RI_1 {p : Prop} (h : p := by
 go_upto_region 13 with fail
 refine wp_name fun W hW => ?_
 have hWE : Ext w W := Ext.same hW ex_
 have hA0 : Ext ((((w.alloc (.cells #[.bool false, .slice ao (dig m).length cap1] 24)).alloc (.cells #[.bool false, .slice bo (dig k).length cap2] 24)).alloc (.cells #[.bool false, .slice none 0 0] 24)).alloc (.cells #[.bool false, .slice none 0 0] 24)) W := Ext.same hW ex_
 have hE3 : Ext w3 W := Ext.same hW ex_
 have hE4 : Ext w4 W := Ext.same hW ex_
 have e9 : Ext (w3.alloc (.cells #[.bool false, .slice ao7 (dig (m / k)).length cap7] 24)) W := Ext.same hW ex_
 have hz9 := e9.size
 simp only [World.size_alloc] at hz9
 have d0 : W.cell? ⟨w3.heap.size, 0, none⟩ = some (.bool false) := (e9.cells.1 _ 0 (by simp)).trans c_47
 have d1 : W.cell? ⟨w3.heap.size, 1, none⟩ = some (.slice ao7 (dig (m / k)).length cap7) := (e9.cells.1 _ 1 (by simp)).trans c_47
 have d2 : W.cell? ⟨w4.heap.size, 0, none⟩ = some (.bool false) := by rw [hW.cells.1]; simp [go_sem]
 have d3 : W.cell? ⟨w4.heap.size, 1, none⟩ = some (.slice ao8 (dig (m % k)).length cap8) := by rw [hW.cells.1]; simp [go_sem]
 have hzW : W.heap.size = w4.heap.size + 1 := by rw [hW.cells.2.2]; simp
 have hzA := hA0.size
 simp only [World.size_alloc] at hzA
 have hz3 : w.heap.size + 1 + 1 + 1 < w3.heap.size := by have := hAx3.size; simp only [World.size_alloc] at this; omega
 have hz4 : w3.heap.size < w4.heap.size := by have := hb4.size; simp only [World.size_alloc] at this; omega
 have p0 : W.cell? ⟨w.heap.size + 1 + 1, 0, none⟩ = some (.bool false) := (hA0.cells.1 _ 0 (by first | (simp; done) | (simp; omega))).trans c_20
 have p1 : W.cell? ⟨w.heap.size + 1 + 1, 1, none⟩ = some (.slice none 0 0) := (hA0.cells.1 _ 1 (by first | (simp; done) | (simp; omega))).trans c_20
 have p2 : W.cell? ⟨w.heap.size + 1 + 1 + 1, 0, none⟩ = some (.bool false) := (hA0.cells.1 _ 0 (by simp)).trans c_20
 have p3 : W.cell? ⟨w.heap.size + 1 + 1 + 1, 1, none⟩ = some (.slice none 0 0) := (hA0.cells.1 _ 1 (by simp)).trans c_20
 have p4 : W.frozen? ⟨w.heap.size + 1 + 1, 0, none⟩ = false := (hA0.cells.2 _ 0 (by first | (simp; done) | (simp; omega))).trans c_20
 have p5 : W.frozen? ⟨w.heap.size + 1 + 1, 1, none⟩ = false := (hA0.cells.2 _ 1 (by first | (simp; done) | (simp; omega))).trans c_20
 have p6 : W.frozen? ⟨w.heap.size + 1 + 1 + 1, 0, none⟩ = false := (hA0.cells.2 _ 0 (by simp)).trans c_20
 have p7 : W.frozen? ⟨w.heap.size + 1 + 1 + 1, 1, none⟩ = false := (hA0.cells.2 _ 1 (by simp)).trans c_20
 have hnu : NoU W (w.heap.size + 1 + 1) := by
  have := ((NoU.new ((w.alloc (.cells #[.bool false, .slice ao (dig m).length cap1] 24)).alloc (.cells #[.bool false, .slice bo (dig k).length cap2] 24)) #[.bool false, .slice none 0 0] 24 (noU2 (by simp) (by simp))).alloc (by simp) #[.bool false, .slice none 0 0] 24).ext (by simp) hA0
  simpa using this
 have hnv : NoU W (w.heap.size + 1 + 1 + 1) := by
  have := (NoU.new (((w.alloc (.cells #[.bool false, .slice ao (dig m).length cap1] 24)).alloc (.cells #[.bool false, .slice bo (dig k).length cap2] 24)).alloc (.cells #[.bool false, .slice none 0 0] 24)) #[.bool false, .slice none 0 0] 24 (noU2 (by simp) (by simp))).ext (by simp) hA0
  simpa using this
 have hq6 := hq3.ext hE3
 have hr6 := hr4.ext hE4
 clear hW hA0 e9 hE3 hE4 hAx3
 go_region
 all_goals
  go_wp2_with fail
  refine bodyPost_ret (v := .tuple #[.agg #[.bool false, .slice ao7 (dig (m / k)).length cap7], .agg #[.bool false, .slice ao8 (dig (m % k)).length cap8], .int .i64 0]) ?_ rfl ⟨_, _, rfl, ⟨_, rfl, ?_⟩, ⟨_, rfl, ?_⟩, ?_⟩
  ·simp [results, Tryz.results134, go_sem, ↓IntWalk.iteOmega, p0, p1, p2, p3, d0, d1, d2, d3]
  ·refine Lim.ext ?_ ((Ext.refl _).drew)
   refine Lim.box (Lim.box (Lim.box (Lim.box hq6 ?_) ?_) ?_) ?_ <;> (repeat (first | with_reducible exact hnu | with_reducible exact hnv | with_reducible refine NoU.set ?_ (fun z e => by cases e)))
  ·refine Lim.ext ?_ ((Ext.refl _).drew)
   refine Lim.box (Lim.box (Lim.box (Lim.box hr6 ?_) ?_) ?_) ?_ <;> (repeat (first | with_reducible exact hnu | with_reducible exact hnv | with_reducible refine NoU.set ?_ (fun z e => by cases e)))
  ·repeat (first | with_reducible exact Ext.refl _ | with_reducible assumption | with_reducible refine Ext.alloc ?_ _ | with_reducible refine Ext.setCell ?_ c_14 _ | with_reducible refine Ext.drewN ?_ _ | with_reducible refine Ext.drew ?_ | with_reducible refine Ext.trans ?_ c_1)) : p := h
theorem r_DivMod (va vb : Value) (m k : Nat) (w : World) (ha : Nn w va m) (hb0 : Nn w vb k) (hs : Small m) (hk0 : 0 < k) (hs2 : Small k) :
    Calls Tryz.prog 134 #[va, vb] w fun e w' => ∃ u v, e = .returned (.tuple #[u, v, .int .i64 0]) ∧ Nn w' u (m / k) ∧ Nn w' v (m % k) ∧ Ext w w' := by
 obtain ⟨u, rfl, hu⟩ := ha
 obtain ⟨s, rfl, hv⟩ := hb0
 obtain ⟨ao, b1, o1, cap1, rfl, -⟩ := hu.view
 obtain ⟨bo, b2, o2, cap2, rfl, -⟩ := hv.view
 have hbo := fun w1 (k1 : Ext w w1) => r_both (.agg #[.bool false, .slice ao (dig m).length cap1]) (.agg #[.bool false, .slice bo (dig k).length cap2]) m k w1 ⟨_, rfl, hu.ext k1⟩ ⟨_, rfl, hv.ext k1⟩ hs hs2
 have hl1 := dig_pos.2 hk0
 have z0 : (((dig k).length : Int) == 0) = false := by simp; intro e; rw [e] at hl1; simp at hl1
 have hdv := fun w1 (k1 : Ext w w1) => r_over _ _ (dig m) (dig k) w1 (hu.ext k1) (hv.ext k1) (dig_nz m) (dig_nz k) (by unfold Small at hs; omega) hl1
 have hmk : m / k ≤ m := Nat.div_le_self _ _
 have hrk : m % k < k := Nat.mod_lt _ hk0
 have hsq : (dig (m / k)).length ≤ 4096 := Nat.le_trans (dig_mono hmk) hs
 have hsr : (dig (m % k)).length ≤ 4096 := Nat.le_trans (dig_mono (Nat.le_of_lt hrk)) hs2
 clear hl1
 go_enter Tryz.func134, Tryz.ntmps134
 go_upto_region 6 with (first
  | (go_at_call 183; (with_reducible refine (hbo _ ex_).mono ?_); rintro e w1 ⟨rfl, hb1⟩; obtain ⟨_, _, hc1, hf1⟩ := hb1.cells2; have hz1 := hb1.size; (try simp only [wsz] at hz1 hc1 hf1); clear hbo)
  | (go_at_call 180; (with_reducible refine (hdv _ ex_).mono ?_); rintro e w2 ⟨y14, y15, qs, rs, rfl, hq, hr, nq, nr, hval, hlt, hb2⟩; obtain ⟨ao6, b6, o6, cap6, rfl, -⟩ := hr.view; obtain ⟨ao5, b5, o5, cap5, rfl, -⟩ := hq.view; obtain ⟨_, _, hc2, hf2⟩ := hb2.cells2; have hz2 := hb2.size; (try simp only [wsz] at hz2 hc2 hf2); clear hdv))
 obtain ⟨eq, er⟩ := div_dig hq.lb hr.lb nq nr hval hlt
 subst eq
 subst er
 clear hval hlt nq nr
 go_upto_region 8 with (first
  | (go_at_call 59; (with_reducible refine (r_madeN _ (dig (m / k)) (m / k) _ hq (dig_val _) hsq).mono ?_); rintro e w3 ⟨y16, rfl, hq3, hb3⟩; obtain ⟨ao7, b7, o7, cap7, rfl, -⟩ := hq3.view; obtain ⟨_, _, hc3, hf3⟩ := hb3.cells2; have hz3 := hb3.size; (try simp only [wsz] at hz3 hc3 hf3); have hAx3 : Ext ((((w.alloc (.cells #[.bool false, .slice ao (dig m).length cap1] 24)).alloc (.cells #[.bool false, .slice bo (dig k).length cap2] 24)).alloc (.cells #[.bool false, .slice none 0 0] 24)).alloc (.cells #[.bool false, .slice none 0 0] 24)) w3 := ex_; replace hr := hr.ext hb3; clear hq)
  | (go_at_call 59; (with_reducible refine (r_madeN _ (dig (m % k)) (m % k) _ (hr.alloc _) (dig_val _) hsr).mono ?_); rintro e w4 ⟨y17, rfl, hr4, hb4⟩; obtain ⟨ao8, b8, o8, cap8, rfl, -⟩ := hr4.view; obtain ⟨_, _, hc4, hf4⟩ := hb4.cells2; have hz4 := hb4.size; (try simp only [wsz] at hz4 hc4 hf4); clear hr))
 by_cases hr0 : 0 < (dig (m % k)).length
 ·skip
  exact T_RI_1
 ·skip
  exact T_RI_1
theorem cmp_zero (m k : Nat) : (cmpI m k == 0) = decide (m = k) := by
 unfold cmpI
 by_cases h1 : (m : Int) < k
 ·rw [if_pos h1]; simp; omega
 ·rw [if_neg h1]
  by_cases h2 : (k : Int) < m
  ·rw [if_pos h2]; simp; omega
  ·rw [if_neg h2]; simp; omega
theorem r_Same (va vb : Value) (m k : Nat) (w : World) (ha : Nn w va m) (hb0 : Nn w vb k) :
    Calls Tryz.prog 69 #[va, vb] w fun e w' => e = .returned (.bool (decide (m = k))) ∧ Ext w w' := by
 have hq := cmp_zero m k
 generalize decide (m = k) = bb at hq ⊢
 obtain ⟨u, rfl, hu⟩ := ha
 obtain ⟨s, rfl, hv⟩ := hb0
 obtain ⟨ao, b1, o1, cap1, rfl, -⟩ := hu.view
 obtain ⟨bo, b2, o2, cap2, rfl, -⟩ := hv.view
 have hcm := fun w1 (k1 : Ext w w1) => r_compare _ _ (dig m) (dig k) w1 (hu.ext k1) (hv.ext k1) (dig_nz m) (dig_nz k)
 rw [dig_val, dig_val] at hcm
 go_enter Tryz.func69, Tryz.ntmps69
 go_wp2_with (go_at_call 128; (with_reducible refine (hcm _ ex_).mono ?_); rintro e w2 ⟨rfl, hb2⟩)
 go_ret
 exact ⟨rfl, ex_⟩
end Go.Proofs.YtogblocakccbgaaGreat
