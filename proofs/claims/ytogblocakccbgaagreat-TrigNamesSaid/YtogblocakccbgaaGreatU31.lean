/- The reference: limbs divided. -/
import Derived.Test.YtogblocakccbgaaGreatU30
set_option linter.unusedSimpArgs false
set_option linter.unusedVariables false
set_option maxRecDepth 100000
set_option maxHeartbeats 8000000
namespace Go.Proofs.YtogblocakccbgaaGreat
open Go.RowKit Go.Shelf
def OvJ (R : List Int) (s n1 : Nat) (wo : World) (v i : Value) (wx : World) : Prop := ∃ (j : Nat) (ps : List Int), j ≤ n1 + 2 ∧ i = .int .i64 j ∧ ps.length = j ∧ Lb ps ∧ val ps * 2 ^ s = val (R.take j) - R.getD 0 0 % 2 ^ s + (R.getD j 0 % 2 ^ s) * BB ^ j ∧ Hid (A32 wx wo.heap.size v ps) ∧ Hid (Ext wo wx)
theorem r_overG (va vb : Value) (X Y : List Int) (n1 : Nat) (w : World) (ha : Lim w va X) (hb0 : Lim w vb Y) (hX : Nz X) (hY : Nz Y) (hx : X.length ≤ 49990) (hYl : Y.length = n1 + 2) (hle : val Y ≤ val X) :
    Calls Tryz.prog 180 #[va, vb] w (DivPost X Y w) := by
  have hcm := r_compare va vb X Y w ha hb0 hX hY
  have lX := ha.lb
  have lY := hb0.lb
  have hlen : Y.length ≤ X.length := by
    rcases Nat.lt_or_ge X.length Y.length with h | h
    · have := val_lt_of_len lX lY hY h; omega
    · exact h
  have hc0 : decide (cmpI (val X) (val Y) < 0) = false := decide_eq_false (by unfold cmpI; rw [if_neg (by omega)]; split <;> omega)
  obtain ⟨c, ec⟩ : ∃ c, cmpI (val X) (val Y) = c := ⟨_, rfl⟩
  rw [ec] at hcm hc0
  obtain ⟨bo, b2, o2, cap2, rfl, y1, y2, y3, y4, y5, y6⟩ := hb0.view
  have e := y1 (by omega)
  subst e
  have hbl := y4 (by omega)
  have hcell := y5 (n1 + 1) (by omega)
  have hyU : U32 (Y.getD (n1 + 1) 0) := lY.getD _
  have hy0 : Y.getD (n1 + 1) 0 ≠ 0 := by
    refine hY _ ?_
    rw [List.getLast?_eq_getElem?, hYl, List.getD_eq_getElem?_getD, List.getElem?_eq_getElem (show n1 + 1 < Y.length by omega)]
    simp
  obtain ⟨y, ey⟩ : ∃ y, Y.getD (n1 + 1) 0 = y := ⟨_, rfl⟩
  rw [ey] at hcell hyU hy0
  rw [hYl] at hcm hb0 ⊢
  clear ec y5 y4 y1
  have hyU2 := hyU
  unfold U32 at hyU2
  go_enter Tryz.func180, Tryz.ntmps180
  go_upto_block 0 with (go_at_call 128; (with_reducible refine hcm.mono ?_); rintro e w1 ⟨rfl, hb1⟩)
  go_cut [7] from 33 to 42 (fun s7 wx => ∃ s : Nat, s7 = .int .u64 s ∧ s < 32 ∧ y * 2 ^ s < 4294967296 ∧ Ext w wx)
  case first =>
    go_wp2_with fail
    go_loopw [7] (fun sv wr => ∃ s : Nat, sv = .int .u64 s ∧ s < 32 ∧ y * 2 ^ s < 4294967296 ∧ Hid (Ext w wr)) (fun sv _ => 32 - (intOf sv).toNat)
    case atStart => exact ⟨0, rfl, by decide, by omega, hb1⟩
    case round =>
      obtain ⟨s, rfl, hs, hsl, HE⟩ := hrel
      have hc1 := (HE.out.cells.1 b2 (o2 + (n1 + 1)) hbl).trans hcell
      have hp0 : (0 : Int) < 2 ^ s := Int.pow_pos (by decide)
      have hys : 0 ≤ y * 2 ^ s := Int.mul_nonneg hyU2.1 (Int.le_of_lt hp0)
      have hym : y * 2 ^ s % 4294967296 = y * 2 ^ s := Int.emod_eq_of_lt hys hsl
      have hy1 : 1 ≤ y := by omega
      have hs1 : 1 * 2 ^ s ≤ y * 2 ^ s := Int.mul_le_mul_of_nonneg_right hy1 (Int.le_of_lt hp0)
      by_cases h31 : y * 2 ^ s < 2147483648
      · have hsn : s < 31 := by
          rcases Nat.lt_or_ge s 31 with h | h
          · exact h
          · have := two_pow_le h
            have e31 : (2 : Int) ^ 31 = 2147483648 := by decide
            omega
        have hnx : y * 2 ^ (s + 1) < 4294967296 := by rw [Int.pow_succ, ← Int.mul_assoc]; omega
        go_wp2_with fail
        go_roundw
        case rel => exact ⟨s + 1, by go_num, by omega, hnx, HE⟩
        case measure => simp [intOf]; omega
      · go_wp2_with fail
        go_meet
        exact ⟨s, rfl, hs, hsl, HE.out⟩
  case rest =>
    obtain ⟨s, rfl, hs, hsl, hEc⟩ := hcut
    go_upto_region 11 with (first
      | (go_at_call 179; (with_reducible refine (r_left _ Y s _ (hb0.ext hEc) (by omega) hs).mono ?_); rintro e t1 ⟨gv, cv, Z, rfl, hOv, lZ, vZ, nZ, hx1⟩; have pv := hOv.parts; rw [nZ, hYl] at pv)
      | (go_at_call 179; (with_reducible refine (r_left _ X s _ (ha.ext (hEc.trans hx1)) (by omega) hs).mono ?_); rintro e t2 ⟨gu, cu, U0, rfl, hOu, lU0, vU0, nU0, hx2⟩; have pu := hOu.parts; rw [nU0] at hOu pu))
    have hE2 : Ext w t2 := hEc.trans (hx1.trans hx2)
    have hs1 := hE2.size
    have hsc := hEc.size
    obtain ⟨vV, lenV⟩ := top_fits (n := n1 + 1) hs (by omega) lY lZ (by omega) vZ (by rw [ey]; exact hsl)
    have lV : Lb (Z.take (n1 + 1 + 1)) := lZ.take _
    have hOv2 : O32 t2 0 gv (n1 + 2) cv (Z.take (n1 + 1 + 1)) := ((hOv.ext hx2).base (Nat.zero_le _)).take (n1 + 2) (by omega)
    have hLv : Lim t2 (.slice (some ⟨gv, 0, none⟩) (n1 + 2) cv) (Z.take (n1 + 1 + 1)) := hOv2.lim lV (by omega)
    have hVtop : (Z.take (n1 + 1 + 1)).getD (n1 + 1) 0 ≠ 0 := by
      have hvv : val (Z.take (n1 + 1 + 1)) = val Y * 2 ^ s := vV
      intro h0
      have e := val_take_succ' (Z.take (n1 + 1 + 1)) (n1 + 1)
      rw [List.take_of_length_le (by omega), h0] at e
      have p1 := val_lt (lV.take (n1 + 1))
      rw [List.length_take, lenV, Nat.min_eq_left (by omega)] at p1
      have p2 := val_pos lY hY (by rintro rfl; simp at hYl)
      rw [hYl] at p2
      have p3 : BB ^ (n1 + 1) * 1 ≤ val Y * 2 ^ s := Int.mul_le_mul p2 (Int.pow_pos (by decide)) (by decide) (val_nonneg lY)
      rw [Int.mul_zero, Int.add_zero] at e
      omega
    obtain ⟨V, eV⟩ : ∃ V, Z.take (n1 + 1 + 1) = V := ⟨_, rfl⟩
    rw [eV] at vV lenV lV hLv hVtop
    have hOu2 : O32 t2 0 gu (X.length + 1) cu U0 := hOu.base (Nat.zero_le _)
    have hgv : w.heap.size ≤ gv ∧ gv < t1.heap.size ∧ t1.heap.size ≤ t2.heap.size ∧ t1.heap.size ≤ gu ∧ gu < t2.heap.size := by
      have a1 := hx1.size; have a2 := hx2.size; omega
    obtain ⟨N, hN⟩ : ∃ N, X.length = N + (n1 + 1) := ⟨X.length - (n1 + 1), by omega⟩
    have hU0 : val U0 < BB ^ N * val V := by
      rw [vU0, vV, ← Int.mul_assoc]
      refine Int.mul_lt_mul_of_pos_right ?_ (Int.pow_pos (by decide))
      have q1 := val_lt lX
      have q2 := val_pos lY hY (by rintro rfl; simp at hYl)
      rw [hN, Int.pow_add] at q1
      rw [hYl] at q2
      exact Int.lt_of_lt_of_le q1 (Int.mul_le_mul_of_nonneg_left q2 (Int.pow_nonneg (by decide)))
    have hV2 : Hid (val V = val Y * 2 ^ s) := vV
    have hU2 : Hid (val U0 = val X * 2 ^ s) := vU0
    obtain ⟨i0, hi, hz0, hz1, hz2⟩ := info_parts info81
    clear hOv hOu hOv2 hx1 hx2 hcell vV vU0 vZ eV hsl ey hyU hy0 lZ nZ
    go_wp2_with (at_make; refine wpList_make_full _ rfl _ _ 22 rfl t2.heap.size 25 i0 (.int .u32 0) 1 Tryz.underlying22 hi hz0 hz1 .i64 .i64 _ _ N rfl rfl (by omega) (by omega) c_11 c_4 (Nat.le_refl _) ?_; intro w5 hown5 hgrow5)
    have hR5 : R32 w5 t2.heap.size t2.heap.size N (List.replicate N 0) := R32.made hown5
    have hE5 : Ext t2 w5 := Ext.grown (Ext.refl _) hgrow5
    have hOu5 := hOu2.ext hE5
    have hLv5 := hLv.ext hE5
    have hEw5 := hE2.trans hE5
    clear hown5 hgrow5 hOu2 hLv
    go_loopw [11] (fun i wr => ∃ (k : Nat) (U Q : List Int), k ≤ N ∧ i = .int .i64 ((k : Int) - 1) ∧ Lb U ∧ Lb Q ∧ Hid (∀ i, i < k → Q.getD i 0 = 0) ∧ Hid (val U + val Q * val V = val U0) ∧ val U < BB ^ k * val V ∧
        Hid (O32 wr 0 gu (X.length + 1) cu U) ∧ Hid (Lim wr (.slice (some ⟨gv, 0, none⟩) (n1 + 2) cv) V) ∧ Hid (R32 wr t2.heap.size t2.heap.size N Q) ∧ Hid (Ext w wr)) (fun i _ => (intOf i + 1).toNat)
    case atStart => exact ⟨N, U0, List.replicate N 0, Nat.le_refl _, by go_num, lU0, fun y hy => by rw [List.eq_of_mem_replicate hy]; exact ⟨by decide, by decide⟩, (fun i _ => by simp [List.getD_eq_getElem?_getD, List.getElem?_replicate]; split <;> rfl : ∀ i, i < N → _), (by rw [val_zeros]; simp : val U0 + _ = _), hU0, hOu5, hLv5, hR5, hEw5⟩
    case round =>
      clear hOu5 hLv5 hR5 hEw5
      obtain ⟨k, U, Q, hk, rfl, lU, lQ, hQ0, hval, hUk, HU, HV, HQ, HE⟩ := hrel
      have hpU := HU.out.parts
      have hQl := HQ.out.len
      have hUl := HU.out.len
      have hglt := HQ.out.lt
      cases k with
      | zero =>
        obtain ⟨wo, ewo⟩ : ∃ wo, wo = wr := ⟨_, rfl⟩
        subst ewo
        rw [show ((0 : Nat) : Int) - 1 = -1 from rfl]
        rw [Int.pow_zero, Int.one_mul] at hUk
        have hfin := hval
        have hUn : val (U.take (n1 + 2)) = val U := by
          have q := val_lt lV
          rw [lenV] at q
          exact val_take_all lU (by omega) (Int.lt_trans hUk q)
        have hLr : Lim wo (.slice (some ⟨gu, 0, none⟩) (n1 + 2) cu) (U.take (n1 + 2)) := (HU.out.take (n1 + 2) (by omega)).lim (lU.take _) (by omega)
        have hLq := HQ.out.lim lQ (by omega)
        have lR : Lb (U.take (n1 + 2)) := lU.take _
        have hRl : (U.take (n1 + 2)).length = n1 + 2 := by rw [List.length_take]; omega
        have hRc : Hid (∀ i, i < n1 + 2 → wo.cell? ⟨gu, i, none⟩ = some (.int .u32 ((U.take (n1 + 2)).getD i 0))) := fun i hi => by rw [take_getD hi]; exact HU.out.cell (by omega)
        have hguwr : gu < wo.heap.size := hpU.1
        obtain ⟨R, eR⟩ : ∃ R, U.take (n1 + 2) = R := ⟨_, rfl⟩
        rw [eR] at hUn hLr lR hRl hRc
        have hEwr := HE.out
        clear hval HU HV HQ HE hQ0 hk eR
        have hA0 : A32 wo wo.heap.size (.slice none 0 0) [] := A32.nil _ _
        go_wp2_with fail
        go_loopw [13, 14] (fun v i wx => OvJ R s n1 wo v i wx) (fun _ i _ => n1 + 2 - (intOf i).toNat)
        case atStart => exact ⟨0, [], Nat.zero_le _, rfl, rfl, Lb.nil, by simp [val]; omega, hA0, Ext.refl _⟩
        case round =>
          obtain ⟨j, ps, hj, rfl, hpl, hpb, hv, HR, HE⟩ := hrel
          have hszx := HE.out.size
          rcases Nat.eq_or_lt_of_le hj with rfl | hj2
          · have hR0 : R.getD (n1 + 2) 0 = 0 := by rw [List.getD_eq_getElem?_getD, List.getElem?_eq_none (by omega)]; rfl
            rw [hR0, Int.zero_emod, Int.zero_mul, Int.add_zero, List.take_of_length_le (by omega)] at hv
            have hp0 : (0 : Int) < 2 ^ s := Int.pow_pos (by decide)
            have rr0 := Int.emod_nonneg (R.getD 0 0) (show (2 : Int) ^ s ≠ 0 by omega)
            have rr1 := Int.emod_lt_of_pos (R.getD 0 0) hp0
            have hrv : val ps * 2 ^ s + R.getD 0 0 % 2 ^ s = val R := by omega
            obtain ⟨m1, m2⟩ := div_fin hUn hrv rr0 rr1 hp0 hfin.out hV2.out hU2.out hUk
            have hLq2 := hLq.ext HE.out
            have hLp := HR.out.lim hpb (by omega)
            have hmm1 : Hid _ := m1
            have hmm2 : Hid _ := m2
            clear m1 m2 hrv rr0 rr1 hv hRc hR0 hLq hfin
            go_wp2_with (first
              | (go_at_call 117; (with_reducible refine (r_trim _ Q _ hLq2).mono ?_); rintro e w8 ⟨u8, rfl, hu8, hb8⟩; have hLp8 := hLp.ext hb8; clear hLq2 hLp)
              | (go_at_call 117; (with_reducible refine (r_trim _ ps _ hLp8).mono ?_); rintro e w9 ⟨u9, rfl, hu9, hb9⟩))
            go_ret2
            exact ⟨_, _, trimL Q, trimL ps, rfl, hu8.ext hb9, hu9, trim_nz _, trim_nz _, by rw [val_trim, val_trim]; exact hmm1.out, by rw [val_trim]; exact hmm2.out, hEwr.trans (HE.out.trans (hb8.trans hb9))⟩
          · have hca := (HE.out.cells.1 gu j hguwr).trans (hRc.out j hj2)
            have hrU : U32 (R.getD j 0) := lR.getD j
            have hrU' : U32 (R.getD (j + 1) 0) := lR.getD (j + 1)
            have hcb : j + 1 < n1 + 2 → wr.cell? ⟨gu, j + 1, none⟩ = some (.int .u32 (R.getD (j + 1) 0)) := fun h => (HE.out.cells.1 gu (j + 1) hguwr).trans (hRc.out (j + 1) h)
            have hrz : ¬ j + 1 < n1 + 2 → R.getD (j + 1) 0 = 0 := fun h => by rw [List.getD_eq_getElem?_getD, List.getElem?_eq_none (by omega)]; rfl
            obtain ⟨r, er⟩ : ∃ r, R.getD j 0 = r := ⟨_, rfl⟩
            obtain ⟨r', er'⟩ : ∃ r', R.getD (j + 1) 0 = r' := ⟨_, rfl⟩
            rw [er] at hca hrU hv
            have hqq : Hid _ := back_round hs lR hpl er er' hv
            rw [er'] at hrU' hcb hrz
            unfold U32 at hrU hrU'
            clear hv
            obtain ⟨W, eW⟩ : ∃ W, r + r' * 4294967296 = W := ⟨_, rfl⟩
            rw [eW] at hqq
            have W0 : 0 ≤ W := by omega
            have W1 : W < 18446744073709551616 := by omega
            have hwW : IntKind.u64.wrap W = W := u64_small W0 W1
            have hwr' : IntKind.u64.wrap (r' * 4294967296) = r' * 4294967296 := u64_small (by omega) (by omega)
            have hown : (wr.alloc (.cells #[.int .u32 (W / 2 ^ s % 4294967296)] 25)).ownsRow wo.heap.size 25 1 u13 j (ps.map (Value.int .u32)) := by have := HR.out.alloc (.cells #[.int .u32 (W / 2 ^ s % 4294967296)] 25); unfold A32 at this; rw [hpl] at this; exact this
            have hWd0 : 0 ≤ W / 2 ^ s := Int.ediv_nonneg W0 (Int.le_of_lt (Int.pow_pos (by decide)))
            have hWd1 : W / 2 ^ s ≤ W := Int.ediv_le_self _ W0
            have hdone : ∀ wz v', A32 wz wo.heap.size v' (ps ++ [W / 2 ^ s % 4294967296]) → Hid (Ext wo wz) → OvJ R s n1 wo v' (.int .i64 ((j : Int) + 1)) wz := fun wz v' k1 k2 =>
              ⟨j + 1, ps ++ [W / 2 ^ s % 4294967296], hj2, by go_num, by simp [hpl], hpb.snoc (U32.mod _), by rw [er']; exact hqq.out, k1, k2⟩
            replace hdone : Hid _ := hdone
            clear er er'
            by_cases hjn : j + 1 < n1 + 2
            · have hcb2 := hcb hjn
              clear hcb hrz
              go_wp2_with (at_builtin; refine wpList_append_own _ rfl _ _ 22 rfl wo.heap.size 25 i0 (.int .u32 0) 1 4 Tryz.underlying22 hi hz0 hz1 hz2 rfl (by decide) _ _ _ rfl hown ⟨wr.heap.size, 0, none⟩ 1 1 [Value.int .u32 (W / 2 ^ s % 4294967296)] rfl rfl (cell_one_l _ _ _) c_7 c_4 (by omega) c_6 ?_; intro v' w1 hown1 hgrow1 hnil)
              have hR1 := A32.snoc hown1 hpl
              have hE1 : Hid (Ext wo w1) := (own_ext (HE.out.alloc _) hown hgrow1 : Ext wo w1)
              go_roundw
              case rel => exact hdone.out _ _ hR1 hE1
              case measure => simp [intOf]; omega
            · have hr0 := hrz hjn
              subst hr0
              have eW2 : W = r := by omega
              subst eW2
              have hm : W / 2 ^ s % 4294967296 = W / 2 ^ s := Int.emod_eq_of_lt hWd0 (by omega)
              rw [hm] at hown hdone
              clear hcb hrz eW
              go_wp2_with (at_builtin; refine wpList_append_own _ rfl _ _ 22 rfl wo.heap.size 25 i0 (.int .u32 0) 1 4 Tryz.underlying22 hi hz0 hz1 hz2 rfl (by decide) _ _ _ rfl hown ⟨wr.heap.size, 0, none⟩ 1 1 [Value.int .u32 (W / 2 ^ s)] rfl rfl (cell_one_l _ _ _) c_7 c_4 (by omega) c_6 ?_; intro v' w1 hown1 hgrow1 hnil)
              have hR1 := A32.snoc hown1 hpl
              have hE1 : Hid (Ext wo w1) := (own_ext (HE.out.alloc _) hown hgrow1 : Ext wo w1)
              go_roundw
              case rel => exact hdone.out _ _ hR1 hE1
              case measure => simp [intOf]; omega
      | succ j =>
        obtain ⟨hm, hz⟩ := div_pre lU lV lenV (j := j) (by omega) hUk
        have hgj := HQ.out.cell (k := j) (by omega)
        have hgf := HQ.out.frozen j
        have hlj : j + (n1 + 2) + 1 - j = n1 + 2 + 1 := by omega
        have hst := fun cuj hcuj => r_digit gu j (X.length + 1) cu cuj n1 U V _ wr lenV HU.out (by omega) hcuj HV.out (Off.mk (by omega)) lU (by omega) hVtop hm
        go_wp2_with (go_at_call 205; (with_reducible refine (hst _ (by omega)).mono ?_); rintro e w6 ⟨d, R, rfl, hdU, hO6, lenR, lR, hRv, hRlt, hgr6⟩; have HQ6 : O32 w6 t2.heap.size t2.heap.size N N Q := (HQ.out.own).grownAt hgr6 (by omega); have c6 := HQ6.cell (k := j) (by omega); have f6 := HQ6.frozen j)
        obtain ⟨p1, p2⟩ := div_post lU lR lenR (V := V) (j := j) (n := n1 + 2) (by omega) hz hRv hRlt
        have hsv := set_val (d := d) (show j < Q.length by omega) (hQ0.out j (by omega))
        have HO9 : Hid (O32 (w6.setCell ⟨t2.heap.size, j, none⟩ (.int .u32 d)) 0 gu (X.length + 1) cu (U.take j ++ (R ++ U.drop (j + (n1 + 2 + 1))))) := hO6.other _ (by omega)
        have HL9 : Hid (Lim (w6.setCell ⟨t2.heap.size, j, none⟩ (.int .u32 d)) (.slice (some ⟨gv, 0, none⟩) (n1 + 2) cv) V) := (HV.out.grownAt hgr6 (Off.mk (by omega))).grownAt (grown_set (k := j) (World.grownBy.refl _ (some t2.heap.size)) _) (Off.mk (by omega))
        have HQ9 : Hid (R32 (w6.setCell ⟨t2.heap.size, j, none⟩ (.int .u32 d)) t2.heap.size t2.heap.size N (Q.set j d)) := (HQ6.set j d : O32 _ _ _ _ _ _)
        have HE9 : Hid (Ext w (w6.setCell ⟨t2.heap.size, j, none⟩ (.int .u32 d))) := (ext_in HE.out hgr6 (by omega)).setCell (p := ⟨t2.heap.size, j, none⟩) (by dsimp only; omega) _
        have hvv : val (U.take j ++ (R ++ U.drop (j + (n1 + 2 + 1)))) + val (Q.set j d) * val V = val U0 := by
          rw [p1, hsv, ← hval.out]; grind
        go_roundw
        case rel => exact ⟨j, _, Q.set j d, by omega, rfl, (lU.take j).append (lR.append (lU.drop _)), lQ.set j hdU, (fun i hi => by rw [set_low hi]; exact hQ0.out i (by omega) : ∀ i, i < j → _), hvv, p2, HO9, HL9, HQ9, HE9⟩
        case measure => simp [intOf]
end Go.Proofs.YtogblocakccbgaaGreat
namespace Go.Proofs.YtogblocakccbgaaGreat
open Go.RowKit
theorem r_overS (va vb : Value) (X Y : List Int) (w : World) (ha : Lim w va X) (hb0 : Lim w vb Y) (hX : Nz X) (hY : Nz Y) (hx : X.length ≤ 49990) (h1 : val X < val Y ∨ Y.length = 1) :
    Calls Tryz.prog 180 #[va, vb] w (DivPost X Y w) := by
 have hcm := r_compare va vb X Y w ha hb0 hX hY
 by_cases hlt : val X < val Y
 ·rw [cmp_lt hlt] at hcm
  obtain ⟨bo, b2, o2, cap2, rfl, -⟩ := hb0.view
  go_enter Tryz.func180, Tryz.ntmps180
  go_wp2_with (first
   | (go_at_call 128; (with_reducible refine hcm.mono ?_); rintro e w1 ⟨rfl, hb⟩)
   | (go_at_call 117; (with_reducible refine (r_trim _ X _ (ha.ext hb)).mono ?_); rintro e w2 ⟨u, rfl, hu, hb2⟩))
  go_ret2
  rw [trim_of_nz hX] at hu
  exact ⟨_, _, [], X, rfl, Lim.nil _, hu, Nz.nil, hX, by simp [val], hlt, hb.trans hb2⟩
 ·have hn : Y.length = 1 := h1.resolve_left hlt
  obtain ⟨d, rfl⟩ : ∃ d, Y = [d] := List.length_eq_one_iff.1 hn
  have hd0 : d ≠ 0 := hY d rfl
  have hdU := hb0.lb.head
  have hvd : val [d] = d := by simp [val]
  have hc0 : decide (cmpI (val X) (val [d]) < 0) = false := decide_eq_false (by unfold cmpI; rw [if_neg hlt]; split <;> omega)
  obtain ⟨c, ec⟩ : ∃ c, cmpI (val X) (val [d]) = c := ⟨_, rfl⟩
  rw [ec] at hcm hc0
  obtain ⟨bo, b2, o2, cap2, rfl, y1, y2, y3, y4, y5, y6⟩ := hb0.view
  have e := y1 (by simp)
  subst e
  have hcell := y5 0 (by simp)
  simp only [List.getD_cons_zero, Nat.add_zero] at hcell
  have hbl := y4 (by simp)
  simp only [List.length_cons, List.length_nil, Nat.zero_add] at hcm ⊢
  have hsh := fun w1 (k : Ext w w1) => r_short va X d w1 (ha.ext k) (by omega) hdU.2 (by omega)
  clear ec y5 y4 y1
  go_enter Tryz.func180, Tryz.ntmps180
  go_wp2_with (first
   | (go_at_call 128; (with_reducible refine hcm.mono ?_); rintro e w1 ⟨rfl, hb⟩; have hc1 := (hb.cells.1 b2 o2 hbl).trans hcell)
   | (go_at_call 204; (with_reducible refine (hsh _ hb).mono ?_); rintro e w2 ⟨u, v, qs, r, rfl, hu, hv, hval, r0, r1, hb2⟩))
  go_ret2
  refine ⟨_, _, trimL qs, trimL [r], rfl, hu, hv, trim_nz _, trim_nz _, ?_, ?_, hb.trans hb2⟩
  ·rw [val_trim, val_trim, hvd]; simpa [val] using hval
  ·rw [val_trim, hvd]; simpa [val] using r1
theorem r_over (va vb : Value) (X Y : List Int) (w : World) (ha : Lim w va X) (hb0 : Lim w vb Y) (hX : Nz X) (hY : Nz Y) (hx : X.length ≤ 49990) (h0 : 0 < Y.length) :
    Calls Tryz.prog 180 #[va, vb] w (DivPost X Y w) := by
 by_cases h1 : val X < val Y ∨ Y.length = 1
 ·exact r_overS va vb X Y w ha hb0 hX hY hx h1
 ·exact r_overG va vb X Y (Y.length - 2) w ha hb0 hX hY hx (by omega) (by omega)
theorem r_plus (va vb : Value) (X Y : List Int) (w : World) (ha : Lim w va X) (hb : Lim w vb Y) (hx : X.length ≤ 100000 ∧ Y.length ≤ 100000) :
    Calls Tryz.prog 181 #[va, vb] w fun e w' => ∃ u zs, e = .returned u ∧ Lim w' u zs ∧ val zs = val X + val Y ∧ Ext w w' := by
  obtain ⟨aoA, bA, oA, cA, rfl, a1, a2, a3, a4, a5, a6⟩ := ha.view
  obtain ⟨aoB, bB, oB, cB, rfl, b1, b2, b3, b4, b5, b6⟩ := hb.view
  have lA := ha.lb
  have lB := hb.lb
  obtain ⟨i0, hi, hz0, hz1, hz2⟩ := info_parts info81
  have hA0 : A32 w w.heap.size (.slice none 0 0) [] := A32.nil _ _
  clear a6 b6
  go_enter Tryz.func181, Tryz.ntmps181
  go_wp2_with fail
  go_loopw [5, 6, 7] (fun v c i wr => ∃ (k : Nat) (z : Int) (zs : List Int), k ≤ max X.length Y.length ∧ c = .int .u64 z ∧ i = .int .i64 k ∧ 0 ≤ z ∧ z ≤ 1 ∧ zs.length = k ∧ Lb zs ∧ val zs + BB ^ k * z = val (X.take k) + val (Y.take k) ∧
      Hid (A32 wr w.heap.size v zs) ∧ Hid (Ext w wr)) (fun _ _ i _ => max X.length Y.length - (intOf i).toNat)
  case atStart => exact ⟨0, 0, [], Nat.zero_le _, rfl, rfl, by decide, by decide, rfl, Lb.nil, by simp [val], hA0, Ext.refl w⟩
  case round =>
    obtain ⟨k, z, zs, hk, rfl, rfl, z0, z1, hzl, hzb, hv, HR, HE⟩ := hrel
    have hsz := HE.out.size
    have hk1 : k ≤ 100000 := by omega
    have hm1 : Hid (k + 1 ≤ maxLen) := (Nat.le_trans (Nat.succ_le_succ hk1) (by decide) : k + 1 ≤ maxLen)
    have hm2 : Hid ((k + 1) * 4 ≤ 140737488355328) := (Nat.le_trans (Nat.mul_le_mul_right 4 (Nat.succ_le_succ hk1)) (by decide) : (k + 1) * 4 ≤ 140737488355328)
    by_cases hkx : k < X.length
    · by_cases hky : k < Y.length
      · have eA := a1 (by omega)
        subst eA
        have hca := (HE.out.cells.1 _ (oA + k) (a4 (by omega))).trans (a5 k hkx)
        have eB := b1 (by omega)
        subst eB
        have hcb := (HE.out.cells.1 _ (oB + k) (b4 (by omega))).trans (b5 k hky)
        obtain ⟨x, ex⟩ : ∃ x, X.getD k 0 = x := ⟨_, rfl⟩
        obtain ⟨y, ey⟩ : ∃ y, Y.getD k 0 = y := ⟨_, rfl⟩
        have hxk : U32 (X.getD k 0) := lA.getD k
        have hyk : U32 (Y.getD k 0) := lB.getD k
        have hq := plus_step hv hzl ex ey
        rw [ex] at hca
        rw [ey] at hcb
        rw [ex] at hxk
        rw [ey] at hyk
        rw [show x + y + z = z + x + y from by omega] at hq
        unfold U32 at hxk hyk
        have hnx : 0 ≤ (z + x + y) / 4294967296 ∧ (z + x + y) / 4294967296 ≤ 1 := by omega
        have hsum : 0 ≤ z + x + y ∧ z + x + y < 8589934592 := by omega
        have hown : (wr.alloc (.cells #[.int .u32 ((z + x + y) % 4294967296)] 25)).ownsRow w.heap.size 25 1 u5 k (zs.map (Value.int .u32)) := by have := HR.out.alloc (.cells #[.int .u32 ((z + x + y) % 4294967296)] 25); unfold A32 at this; rw [hzl] at this; exact this
        replace hq : Hid _ := hq
        clear ex ey hv a5 b5
        go_wp2_with (at_builtin; refine wpList_append_own _ rfl _ _ 22 rfl w.heap.size 25 i0 (.int .u32 0) 1 4 Tryz.underlying22 hi hz0 hz1 hz2 rfl (by decide) _ _ _ rfl hown ⟨wr.heap.size, 0, none⟩ 1 1 [Value.int .u32 ((z + x + y) % 4294967296)] rfl rfl (cell_one_l _ _ _) c_7 hm1.out hm2.out c_6 ?_; intro v' w1 hown1 hgrow1 hnil)
        have hR1 : Hid (A32 w1 w.heap.size v' (zs ++ [(z + x + y) % 4294967296])) := A32.snoc hown1 hzl
        have hE1 : Hid (Ext w w1) := (own_ext (HE.out.alloc _) hown hgrow1 : Ext w w1)
        go_roundw
        case rel => exact ⟨k + 1, _, zs ++ [(z + x + y) % 4294967296], by omega, rfl, by go_num, hnx.1, hnx.2, by simp [hzl], hzb.snoc (U32.mod _), hq.out, hR1, hE1⟩
        case measure => simp [intOf]; omega
      · have eA := a1 (by omega)
        subst eA
        have hca := (HE.out.cells.1 _ (oA + k) (a4 (by omega))).trans (a5 k hkx)
        obtain ⟨x, ex⟩ : ∃ x, X.getD k 0 = x := ⟨_, rfl⟩
        obtain ⟨y, ey⟩ : ∃ y, Y.getD k 0 = y := ⟨_, rfl⟩
        have hxk : U32 (X.getD k 0) := lA.getD k
        have hyk : U32 (Y.getD k 0) := lB.getD k
        have hq := plus_step hv hzl ex ey
        rw [ex] at hca
        rw [ex] at hxk
        rw [ey] at hyk
        have hy0 : y = 0 := by rw [← ey, List.getD_eq_getElem?_getD, List.getElem?_eq_none (by omega)]; rfl
        subst hy0
        rw [show x + 0 + z = z + x from by omega] at hq
        unfold U32 at hxk hyk
        have hnx : 0 ≤ (z + x) / 4294967296 ∧ (z + x) / 4294967296 ≤ 1 := by omega
        have hsum : 0 ≤ z + x ∧ z + x < 8589934592 := by omega
        have hown : (wr.alloc (.cells #[.int .u32 ((z + x) % 4294967296)] 25)).ownsRow w.heap.size 25 1 u5 k (zs.map (Value.int .u32)) := by have := HR.out.alloc (.cells #[.int .u32 ((z + x) % 4294967296)] 25); unfold A32 at this; rw [hzl] at this; exact this
        replace hq : Hid _ := hq
        clear ex ey hv a5 b5
        go_wp2_with (at_builtin; refine wpList_append_own _ rfl _ _ 22 rfl w.heap.size 25 i0 (.int .u32 0) 1 4 Tryz.underlying22 hi hz0 hz1 hz2 rfl (by decide) _ _ _ rfl hown ⟨wr.heap.size, 0, none⟩ 1 1 [Value.int .u32 ((z + x) % 4294967296)] rfl rfl (cell_one_l _ _ _) c_7 hm1.out hm2.out c_6 ?_; intro v' w1 hown1 hgrow1 hnil)
        have hR1 : Hid (A32 w1 w.heap.size v' (zs ++ [(z + x) % 4294967296])) := A32.snoc hown1 hzl
        have hE1 : Hid (Ext w w1) := (own_ext (HE.out.alloc _) hown hgrow1 : Ext w w1)
        go_roundw
        case rel => exact ⟨k + 1, _, zs ++ [(z + x) % 4294967296], by omega, rfl, by go_num, hnx.1, hnx.2, by simp [hzl], hzb.snoc (U32.mod _), hq.out, hR1, hE1⟩
        case measure => simp [intOf]; omega
    · by_cases hky : k < Y.length
      · have eB := b1 (by omega)
        subst eB
        have hcb := (HE.out.cells.1 _ (oB + k) (b4 (by omega))).trans (b5 k hky)
        obtain ⟨x, ex⟩ : ∃ x, X.getD k 0 = x := ⟨_, rfl⟩
        obtain ⟨y, ey⟩ : ∃ y, Y.getD k 0 = y := ⟨_, rfl⟩
        have hxk : U32 (X.getD k 0) := lA.getD k
        have hyk : U32 (Y.getD k 0) := lB.getD k
        have hq := plus_step hv hzl ex ey
        rw [ey] at hcb
        rw [ex] at hxk
        rw [ey] at hyk
        have hx0 : x = 0 := by rw [← ex, List.getD_eq_getElem?_getD, List.getElem?_eq_none (by omega)]; rfl
        subst hx0
        rw [show 0 + y + z = z + y from by omega] at hq
        unfold U32 at hxk hyk
        have hnx : 0 ≤ (z + y) / 4294967296 ∧ (z + y) / 4294967296 ≤ 1 := by omega
        have hsum : 0 ≤ z + y ∧ z + y < 8589934592 := by omega
        have hown : (wr.alloc (.cells #[.int .u32 ((z + y) % 4294967296)] 25)).ownsRow w.heap.size 25 1 u5 k (zs.map (Value.int .u32)) := by have := HR.out.alloc (.cells #[.int .u32 ((z + y) % 4294967296)] 25); unfold A32 at this; rw [hzl] at this; exact this
        replace hq : Hid _ := hq
        clear ex ey hv a5 b5
        go_wp2_with (at_builtin; refine wpList_append_own _ rfl _ _ 22 rfl w.heap.size 25 i0 (.int .u32 0) 1 4 Tryz.underlying22 hi hz0 hz1 hz2 rfl (by decide) _ _ _ rfl hown ⟨wr.heap.size, 0, none⟩ 1 1 [Value.int .u32 ((z + y) % 4294967296)] rfl rfl (cell_one_l _ _ _) c_7 hm1.out hm2.out c_6 ?_; intro v' w1 hown1 hgrow1 hnil)
        have hR1 : Hid (A32 w1 w.heap.size v' (zs ++ [(z + y) % 4294967296])) := A32.snoc hown1 hzl
        have hE1 : Hid (Ext w w1) := (own_ext (HE.out.alloc _) hown hgrow1 : Ext w w1)
        go_roundw
        case rel => exact ⟨k + 1, _, zs ++ [(z + y) % 4294967296], by omega, rfl, by go_num, hnx.1, hnx.2, by simp [hzl], hzb.snoc (U32.mod _), hq.out, hR1, hE1⟩
        case measure => simp [intOf]; omega
      · have hkm : k = max X.length Y.length := by omega
        have hvv : val (zs ++ [z]) = val X + val Y := by
          rw [val_append, hzl]; simp only [val]
          rw [List.take_of_length_le (by omega), List.take_of_length_le (by omega)] at hv
          simpa using hv
        have hz32 : z % 4294967296 = z := by omega
        have hown : (wr.alloc (.cells #[.int .u32 (z)] 25)).ownsRow w.heap.size 25 1 u5 k (zs.map (Value.int .u32)) := by have := HR.out.alloc (.cells #[.int .u32 (z)] 25); unfold A32 at this; rw [hzl] at this; exact this
        clear hv a5 b5 hz32
        go_wp2_with (at_builtin; refine wpList_append_own _ rfl _ _ 22 rfl w.heap.size 25 i0 (.int .u32 0) 1 4 Tryz.underlying22 hi hz0 hz1 hz2 rfl (by decide) _ _ _ rfl hown ⟨wr.heap.size, 0, none⟩ 1 1 [Value.int .u32 (z)] rfl rfl (cell_one_l _ _ _) c_7 hm1.out hm2.out c_6 ?_; intro v' w1 hown1 hgrow1 hnil)
        have hR1 : A32 w1 w.heap.size v' (zs ++ [z]) := A32.snoc hown1 hzl
        have hE1 : Ext w w1 := own_ext (HE.out.alloc _) hown hgrow1
        go_ret
        exact ⟨_, zs ++ [z], rfl, hR1.lim (hzb.snoc ⟨z0, by omega⟩) c_6, hvv, hE1⟩
end Go.Proofs.YtogblocakccbgaaGreat
