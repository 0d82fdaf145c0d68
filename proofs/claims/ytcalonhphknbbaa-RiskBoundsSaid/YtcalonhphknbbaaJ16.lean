/- Limbs divided. -/
import Derived.Test.YtcalonhphknbbaaJ14
import Derived.Test.YtcalonhphknbbaaJ15
import Derived.Test.YtcalonhphknbbaaJ10
set_option linter.unusedSimpArgs false
set_option linter.unusedVariables false
namespace Go.Proofs.Ytcalonhphknbbaa
open Go.RowKit Go.Shelf

theorem w_left0 (va : Value) (X : List Int) (s : Nat) (w : World) (ha : Lim w va X) (hx : X.length ≤ 100000) (hs : s < 32) :
    Calls Try.prog 87 #[va, .int .i64 s] w fun e w' => ∃ g cap zs, e = .returned (.slice (some ⟨g, 0, none⟩) zs.length cap) ∧ O32 w' w.heap.size g zs.length cap zs ∧ Lb zs ∧ val zs = val X * 2 ^ s ∧ zs.length = X.length + 1 ∧ Ext w w' := by
  have h := w_left va X 0 s w ha hx hs (by decide)
  simp only [Int.natCast_zero, Int.mul_zero, Int.zero_add, Nat.mul_zero, Nat.zero_add, show ((0 : Nat) : Int) = 0 from rfl] at h
  exact h
theorem w_step_n (m : Nat) {V' : List Int} (hm : V'.length = m) (g o n cap cu : Nat) (U Y' : List Int) (vb : Value) (w : World) (hU : O32 w 0 g n cap U) (hon : o + (m + 1) ≤ n) (hcu : m + 1 ≤ cu ∧ cu ≤ 9223372036854775807) (hb : Lim w vb V') (hoff : Off vb g) (hUb : Lb U) (h1 : 1 ≤ m) (hY : m ≤ 50000)
    (hlt : val ((U.drop o).take (m + 1)) < BB * val V') :
    Calls Try.prog 88 #[.slice (some ⟨g, o, none⟩) (m + 1) cu, vb] w fun e w' => ∃ d R, e = .returned (.int .u32 d) ∧ U32 d ∧ O32 w' 0 g n cap (U.take o ++ (R ++ U.drop (o + (m + 1)))) ∧ R.length = m + 1 ∧ Lb R ∧ val R = val ((U.drop o).take (m + 1)) - d * val V' ∧ val R < val V' ∧ w.grownBy w' (some g) := by
  subst hm; exact w_step g o n cap cu U V' vb w hU hon hcu hb hoff hUb h1 hY hlt
set_option maxRecDepth 100000 in
set_option maxHeartbeats 4000000 in
theorem w_divideG (va vb : Value) (X Y : List Int) (n1 : Nat) (w : World) (ha : Lim w va X) (hb0 : Lim w vb Y) (hX : Nz X) (hY : Nz Y) (hx : X.length ≤ 49999) (hYl : Y.length = n1 + 2) (hle : val Y ≤ val X) :
    Calls Try.prog 80 #[va, vb] w (DivPost X Y w) := by
  have hcm := w_compare va vb X Y w ha hb0 hX hY
  have lX := ha.lb
  have lY := hb0.lb
  have hlen : Y.length ≤ X.length := by
    rcases Nat.lt_or_ge X.length Y.length with h | h
    · have := val_lt_of_len lX lY hY h; omega
    · exact h
  have hc0 : decide (cmpI (val X) (val Y) < 0) = false := decide_eq_false (by unfold cmpI; rw [if_neg (by omega)]; split <;> omega)
  obtain ⟨c, ec⟩ : ∃ c, cmpI (val X) (val Y) = c := ⟨_, rfl⟩
  rw [ec] at hcm hc0
  obtain ⟨bo, b2, o2, cap2, rfl, y1, y2, y3, y4, y5, y6⟩ := hb0.view
  have e := y1 (by omega)
  subst e
  have hbl := y4 (by omega)
  have hcell := y5 (n1 + 1) (by omega)
  have hyU : U32 (Y.getD (n1 + 1) 0) := lY.getD _
  have hy0 : Y.getD (n1 + 1) 0 ≠ 0 := by
    refine hY _ ?_
    rw [List.getLast?_eq_getElem?, hYl, List.getD_eq_getElem?_getD, List.getElem?_eq_getElem (show n1 + 1 < Y.length by omega)]
    simp
  obtain ⟨y, ey⟩ : ∃ y, Y.getD (n1 + 1) 0 = y := ⟨_, rfl⟩
  rw [ey] at hcell hyU hy0
  rw [hYl] at hcm hb0 ⊢
  clear ec y5 y4 y1
  go_enter Try.func80, Try.ntmps80
  go_upto_region 8 with (first
    | (go_at_call 74; (with_reducible refine hcm.mono ?_); rintro e w1 ⟨rfl, hb1⟩; have hc1 := (hb1.cells.1 b2 (o2 + (n1 + 1)) hbl).trans hcell)
    | (go_at_call 86; (with_reducible refine (w_lead y _ hyU hy0).mono ?_); rintro e w2 ⟨s, rfl, hs, hsl, hsh, rfl⟩))
  refine wp_region_held_drew (S := (fun w0 => Ext w2 w0)) (by kernel_rfl) ?_ (fun hHeld => ?_)
  · exact (Ext.refl w2).drew
  try simp only [Act.put, List.setIfInBounds_toArray, List.set_cons_zero, List.set_cons_succ, List.getElem_toArray, List.getElem_cons_succ, List.getElem_cons_zero]
  refine wpAnyH_take (i := 0) (oi := _) (v := ?_) rfl (by kernel_rfl) (by kernel_rfl) (by kernel_rfl) (fun _ _ _ h => h) (Or.inl ⟨by rfl, ?_⟩) (by assumption) ?_
  rotate_left
  · intro w0 hSw; go_simp; try with_reducible rfl
  try simp only [Act.put, List.setIfInBounds_toArray, List.set_cons_zero, List.set_cons_succ, List.getElem_toArray, List.getElem_cons_succ, List.getElem_cons_zero]
  refine wpAnyH_take (i := 1) (oi := _) (v := ?_) rfl (by kernel_rfl) (by kernel_rfl) (by kernel_rfl) (fun _ _ _ h => h) (Or.inl ⟨by rfl, ?_⟩) (by assumption) ?_
  rotate_left
  · intro w0 hSw; go_simp; try with_reducible rfl
  try simp only [Act.put, List.setIfInBounds_toArray, List.set_cons_zero, List.set_cons_succ, List.getElem_toArray, List.getElem_cons_succ, List.getElem_cons_zero]
  refine wpAnyH_take (i := 3) (oi := _) (v := ?_) rfl (by kernel_rfl) (by kernel_rfl) (by kernel_rfl) (fun _ _ _ h => h) (Or.inl ⟨by rfl, ?_⟩) (by assumption) ?_
  rotate_left
  · intro w0 hSw; go_simp; try with_reducible rfl
  try simp only [Act.put, List.setIfInBounds_toArray, List.set_cons_zero, List.set_cons_succ, List.getElem_toArray, List.getElem_cons_succ, List.getElem_cons_zero]
  refine wpAnyH_take (i := 5) (oi := _) (v := ?_) rfl (by kernel_rfl) (by kernel_rfl) (by kernel_rfl) (fun _ _ _ h => h) (Or.inl ⟨by rfl, ?_⟩) (by assumption) ?_
  rotate_left
  · intro w0 hSw; go_simp; try with_reducible rfl
  try simp only [Act.put, List.setIfInBounds_toArray, List.set_cons_zero, List.set_cons_succ, List.getElem_toArray, List.getElem_cons_succ, List.getElem_cons_zero]
  refine wpAnyH_take (i := 6) (oi := _) (v := ?_) rfl (by kernel_rfl) (by kernel_rfl) (by kernel_rfl) (fun _ _ _ h => h) (Or.inl ⟨by rfl, ?_⟩) (by assumption) ?_
  rotate_left
  · intro w0 hSw; go_simp; try with_reducible rfl
  try simp only [Act.put, List.setIfInBounds_toArray, List.set_cons_zero, List.set_cons_succ, List.getElem_toArray, List.getElem_cons_succ, List.getElem_cons_zero]
  refine wpAnyH_ready (rs := [2]) (by kernel_rfl) (by simp) ?_
  refine AllReadyH.cons (o := _) rfl (fun K hK => ?_) AllReadyH.nil
  go_simp
  (go_at_call 87; (with_reducible refine (w_left0 _ Y s _ (hb0.ext (hb1.trans hHeld)) (by omega) hs).mono ?_); rintro e t1 ⟨gv, cv, Z, rfl, hOv, lZ, vZ, nZ, hx1⟩; have pv := hOv.parts)
  refine hK.out _ _ ?_ (fun hHeldN => ?_)
  · (try dsimp only); exact hHeld.trans hx1
  clear hK K hHeld
  have hHeld := hHeldN
  clear hHeldN
  try simp only [Act.put, List.setIfInBounds_toArray, List.set_cons_zero, List.set_cons_succ, List.getElem_toArray, List.getElem_cons_succ, List.getElem_cons_zero]
  refine wpAnyH_take (i := 4) (oi := _) (v := ?_) rfl (by kernel_rfl) (by kernel_rfl) (by kernel_rfl) (fun _ _ _ h => h) (Or.inl ⟨by rfl, ?_⟩) (by assumption) ?_
  rotate_left
  · intro w0 hSw; go_simp; rw [if_pos (by omega), show ((n1 : Int) + 2).toNat = n1 + 2 from by omega]; try with_reducible rfl
  try simp only [Act.put, List.setIfInBounds_toArray, List.set_cons_zero, List.set_cons_succ, List.getElem_toArray, List.getElem_cons_succ, List.getElem_cons_zero]
  refine wpAnyH_ready (rs := [7]) (by kernel_rfl) (by simp) ?_
  refine AllReadyH.cons (o := _) rfl (fun K hK => ?_) AllReadyH.nil
  go_simp
  (go_at_call 87; (with_reducible refine (w_left0 _ X s _ (ha.ext (hb1.trans hHeld)) (by omega) hs).mono ?_); rintro e t2 ⟨gu, cu, U0, rfl, hOu, lU0, vU0, nU0, hx2⟩; have pu := hOu.parts; rw [nU0] at hOu pu)
  refine hK.out _ _ ?_ (fun hHeldN => ?_)
  · (try dsimp only); exact hHeld.trans hx2
  clear hK K hHeld
  have hHeld := hHeldN
  clear hHeldN
  try simp only [Act.put, List.setIfInBounds_toArray, List.set_cons_zero, List.set_cons_succ, List.getElem_toArray, List.getElem_cons_succ, List.getElem_cons_zero]
  refine wpAnyH_take (i := 8) (oi := _) (v := ?_) rfl (by kernel_rfl) (by kernel_rfl) (by kernel_rfl) (fun _ _ _ h => h) (Or.inl ⟨by rfl, ?_⟩) (by assumption) ?_
  rotate_left
  · intro w0 hSw; go_simp; try with_reducible rfl
  try simp only [Act.put, List.setIfInBounds_toArray, List.set_cons_zero, List.set_cons_succ, List.getElem_toArray, List.getElem_cons_succ, List.getElem_cons_zero]
  refine wpAnyH_take (i := 9) (oi := _) (v := ?_) rfl (by kernel_rfl) (by kernel_rfl) (by kernel_rfl) (fun _ _ _ h => h) (Or.inl ⟨by rfl, ?_⟩) (by assumption) ?_
  rotate_left
  · intro w0 hSw; go_simp; try with_reducible rfl
  try simp only [Act.put, List.setIfInBounds_toArray, List.set_cons_zero, List.set_cons_succ, List.getElem_toArray, List.getElem_cons_succ, List.getElem_cons_zero]
  refine wpAnyH_done (by kernel_rfl) ?_ _
  have hs1 := hHeld.size
  obtain ⟨vV, lenV⟩ := top_fits (n := n1 + 1) hs (by omega) lY lZ (by omega) vZ (by rw [ey]; exact hsl)
  have lV : Lb (Z.take (n1 + 1 + 1)) := lZ.take _
  have hOv2 : O32 t2 0 gv (n1 + 2) cv (Z.take (n1 + 1 + 1)) := ((hOv.ext hx2).base (Nat.zero_le _)).take (n1 + 2) (by omega)
  have hLv : Lim t2 (.slice (some ⟨gv, 0, none⟩) (n1 + 2) cv) (Z.take (n1 + 1 + 1)) := hOv2.lim lV (by omega)
  obtain ⟨V, eV⟩ : ∃ V, Z.take (n1 + 1 + 1) = V := ⟨_, rfl⟩
  rw [eV] at vV lenV lV hLv
  have hOu2 : O32 t2 0 gu (X.length + 1) cu U0 := hOu.base (Nat.zero_le _)
  have hE2 : Ext w t2 := hb1.trans hHeld
  have hsz1 := hb1.size
  have hgv : w.heap.size ≤ gv ∧ gv < t1.heap.size ∧ t1.heap.size ≤ t2.heap.size ∧ t1.heap.size ≤ gu ∧ gu < t2.heap.size := by
    have a1 := hx1.size; have a2 := hx2.size; have hdz : w2.drew.heap.size = w2.heap.size := rfl; omega
  obtain ⟨N, hN⟩ : ∃ N, X.length = N + (n1 + 1) := ⟨X.length - (n1 + 1), by omega⟩
  have hU0 : val U0 < BB ^ N * val V := by
    rw [vU0, vV, ← Int.mul_assoc]
    refine Int.mul_lt_mul_of_pos_right ?_ (Int.pow_pos (by decide))
    have q1 := val_lt lX
    have q2 := val_pos lY hY (by rintro rfl; simp at hYl)
    rw [hN, Int.pow_add] at q1
    rw [hYl] at q2
    exact Int.lt_of_lt_of_le q1 (Int.mul_le_mul_of_nonneg_left q2 (Int.pow_nonneg (by decide)))
  have hV2 : Hid (val V = val Y * 2 ^ s) := vV
  have hU2 : Hid (val U0 = val X * 2 ^ s) := vU0
  obtain ⟨i0, hi, hz0, hz1, hz2⟩ := info_parts info81
  clear hOv hOu hOv2 hx1 hx2 hHeld hc1 hcell vV vU0 vZ eV hc0 hsl hsh ey hyU hy0 lZ nZ
  go_wp2_with (at_make; refine wpList_make_full _ rfl _ _ 23 rfl t2.heap.size 81 i0 (.int .u32 0) 1 Try.underlying23 hi hz0 hz1 .i64 .i64 _ _ N rfl rfl (by omega) (by omega) (by rw [hz2]; omega) (by unfold maxLen; omega) (Nat.le_refl _) ?_; intro w5 hown5 hgrow5)
  have hR5 : R32 w5 t2.heap.size t2.heap.size N (List.replicate N 0) := R32.made hown5
  have hE5 : Ext t2 w5 := Ext.grown (Ext.refl _) hgrow5
  have hOu5 := hOu2.ext hE5
  have hLv5 := hLv.ext hE5
  have hEw5 := hE2.trans hE5
  clear hown5 hgrow5 hOu2 hLv
  go_loopw [12] (fun i wr => ∃ (k : Nat) (U Q : List Int), k ≤ N ∧ i = .int .i64 ((k : Int) - 1) ∧ Lb U ∧ Lb Q ∧ Hid (∀ i, i < k → Q.getD i 0 = 0) ∧ Hid (val U + val Q * val V = val U0) ∧ val U < BB ^ k * val V ∧
      Hid (O32 wr 0 gu (X.length + 1) cu U) ∧ Hid (Lim wr (.slice (some ⟨gv, 0, none⟩) (n1 + 2) cv) V) ∧ Hid (R32 wr t2.heap.size t2.heap.size N Q) ∧ Hid (Ext w wr)) (fun i _ => (intOf i + 1).toNat)
  case atStart => exact ⟨N, U0, List.replicate N 0, Nat.le_refl _, by go_num, lU0, fun y hy => by rw [List.eq_of_mem_replicate hy]; exact ⟨by decide, by decide⟩, (fun i _ => by simp [List.getD_eq_getElem?_getD, List.getElem?_replicate]; split <;> rfl : ∀ i, i < N → _), (by rw [val_zeros]; simp : val U0 + _ = _), hU0, hOu5, hLv5, hR5, hEw5⟩
  case round =>
    obtain ⟨k, U, Q, hk, rfl, lU, lQ, hQ0, hval, hUk, HU, HV, HQ, HE⟩ := hrel
    have hpU := HU.out.parts
    have hQl := HQ.out.len
    have hUl := HU.out.len
    have hglt := HQ.out.lt
    cases k with
    | zero =>
      have hLu := HU.out.lim lU (by omega)
      rw [hN] at hLu
      have hLq := HQ.out.lim lQ (by omega)
      have hti := trim_le U
      have hfin := hval
      have hp0 : (0 : Int) < 2 ^ s := Int.pow_pos (by decide)
      clear hval
      go_upto_region 15 with (first
        | (go_at_call 71; (with_reducible refine (w_trim _ U _ hLu).mono ?_); rintro e w6 ⟨u6, rfl, hu6, hb6⟩)
        | (go_at_call 89; (with_reducible refine (w_right _ _ s _ hu6 hs (by omega)).mono ?_); rintro e w7 ⟨u7, qs, rr, rfl, hu7, hrv, rr0, rr1, hb7⟩))
      have hLq7 := hLq.ext (hb6.trans hb7)
      clear hLu hLq hu6
      go_wp2_with (first
        | (go_at_call 71; (with_reducible refine (w_trim _ Q _ hLq7).mono ?_); rintro e w8 ⟨u8, rfl, hu8, hb8⟩; have hu7b := hu7.ext hb8; clear hLq7 hu7)
        | (go_at_call 71; (with_reducible refine (w_trim _ qs _ hu7b).mono ?_); rintro e w9 ⟨u9, rfl, hu9, hb9⟩))
      go_ret2
      obtain ⟨m1, m2⟩ := div_fin (val_trim U) hrv rr0 rr1 hp0 hfin.out hV2.out hU2.out (by rw [Int.pow_zero, Int.one_mul] at hUk; exact hUk)
      exact ⟨_, _, trimL Q, trimL qs, rfl, hu8.ext hb9, hu9, trim_nz _, trim_nz _, by rw [val_trim, val_trim]; exact m1, by rw [val_trim]; exact m2, HE.out.trans (hb6.trans (hb7.trans (hb8.trans hb9)))⟩
    | succ j =>
      obtain ⟨hm, hz⟩ := div_pre lU lV lenV (j := j) (by omega) hUk
      have hgj := HQ.out.cell (k := j) (by omega)
      have hgf := HQ.out.frozen j
      have hlj : j + (n1 + 2) + 1 - j = n1 + 2 + 1 := by omega
      have hst := fun cuj hcuj => w_step_n (n1 + 2) lenV gu j (X.length + 1) cu cuj U V _ wr HU.out (by omega) hcuj HV.out (Off.mk (by omega)) lU (by omega) (by omega) hm
      go_wp2_with (go_at_call 88; (with_reducible refine (hst _ (by omega)).mono ?_); rintro e w6 ⟨d, R, rfl, hdU, hO6, lenR, lR, hRv, hRlt, hgr6⟩; have HQ6 : O32 w6 t2.heap.size t2.heap.size N N Q := (HQ.out.own).grownAt hgr6 (by omega); have c6 := HQ6.cell (k := j) (by omega); have f6 := HQ6.frozen j)
      obtain ⟨p1, p2⟩ := div_post lU lR lenR (V := V) (j := j) (n := n1 + 2) (by omega) hz hRv hRlt
      have hsv := set_val (d := d) (show j < Q.length by omega) (hQ0.out j (by omega))
      have HO9 : Hid (O32 (w6.setCell ⟨t2.heap.size, j, none⟩ (.int .u32 d)) 0 gu (X.length + 1) cu (U.take j ++ (R ++ U.drop (j + (n1 + 2 + 1))))) := hO6.other _ (by omega)
      have HL9 : Hid (Lim (w6.setCell ⟨t2.heap.size, j, none⟩ (.int .u32 d)) (.slice (some ⟨gv, 0, none⟩) (n1 + 2) cv) V) := (HV.out.grownAt hgr6 (Off.mk (by omega))).grownAt (grown_set (k := j) (World.grownBy.refl _ (some t2.heap.size)) _) (Off.mk (by omega))
      have HQ9 : Hid (R32 (w6.setCell ⟨t2.heap.size, j, none⟩ (.int .u32 d)) t2.heap.size t2.heap.size N (Q.set j d)) := (HQ6.set j d : O32 _ _ _ _ _ _)
      have HE9 : Hid (Ext w (w6.setCell ⟨t2.heap.size, j, none⟩ (.int .u32 d))) := (ext_in HE.out hgr6 (by omega)).setCell (p := ⟨t2.heap.size, j, none⟩) (by dsimp only; omega) _
      have hvv : val (U.take j ++ (R ++ U.drop (j + (n1 + 2 + 1)))) + val (Q.set j d) * val V = val U0 := by
        rw [p1, hsv, ← hval.out]; grind
      go_roundw
      case rel => exact ⟨j, _, Q.set j d, by omega, rfl, (lU.take j).append (lR.append (lU.drop _)), lQ.set j hdU, (fun i hi => by rw [set_low hi]; exact hQ0.out i (by omega) : ∀ i, i < j → _), hvv, p2, HO9, HL9, HQ9, HE9⟩
      case measure => simp [intOf]


/-- Limbs divided: any that are valid. -/
theorem w_divideA (va vb : Value) (X Y : List Int) (w : World) (ha : Lim w va X) (hb0 : Lim w vb Y) (hX : Nz X) (hY : Nz Y) (hx : X.length ≤ 49999) (h0 : 0 < Y.length) :
    Calls Try.prog 80 #[va, vb] w (DivPost X Y w) := by
  by_cases h1 : val X < val Y ∨ Y.length = 1
  · exact w_divide va vb X Y w ha hb0 hX hY (by omega) h1
  · exact w_divideG va vb X Y (Y.length - 2) w ha hb0 hX hY hx (by omega) (by omega)

end Go.Proofs.Ytcalonhphknbbaa
