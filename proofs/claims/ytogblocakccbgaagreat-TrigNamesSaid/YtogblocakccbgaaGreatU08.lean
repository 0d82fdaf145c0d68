/- Limbs divided. -/
import Derived.Test.YtogblocakccbgaaGreatU07
set_option linter.unusedSimpArgs false
set_option linter.unusedVariables false
set_option maxRecDepth 100000
set_option maxHeartbeats 4000000
namespace Go.Proofs.YtogblocakccbgaaGreat
open Go.RowKit Go.Shelf
theorem w_left0 (va : Value) (X : List Int) (s : Nat) (w : World) (ha : Lim w va X) (hx : X.length ≤ 100000) (hs : s < 32) :
    Calls Tryz.prog 172 #[va, .int .i64 s] w fun e w' => ∃ g cap zs, e = .returned (.slice (some ⟨g, 0, none⟩) zs.length cap) ∧ O32 w' w.heap.size g zs.length cap zs ∧ Lb zs ∧ val zs = val X * 2 ^ s ∧ zs.length = X.length + 1 ∧ Ext w w' := by
 have h := w_left va X 0 s w ha hx hs (by decide)
 simp only [Int.natCast_zero, Int.mul_zero, Int.zero_add, Nat.mul_zero, Nat.zero_add, show ((0 : Nat) : Int) = 0 from rfl] at h
 exact h
theorem w_step_n (m : Nat) {V' : List Int} (hm : V'.length = m) (g o n cap cu : Nat) (U Y' : List Int) (vb : Value) (w : World) (hU : O32 w 0 g n cap U) (hon : o + (m + 1) ≤ n) (hcu : m + 1 ≤ cu ∧ cu ≤ 9223372036854775807) (hb : Lim w vb V') (hoff : Off vb g) (hUb : Lb U) (h1 : 1 ≤ m) (hY : m ≤ 50000)
    (hlt : val ((U.drop o).take (m + 1)) < BB * val V') :
    Calls Tryz.prog 173 #[.slice (some ⟨g, o, none⟩) (m + 1) cu, vb] w fun e w' => ∃ d R, e = .returned (.int .u32 d) ∧ U32 d ∧ O32 w' 0 g n cap (U.take o ++ (R ++ U.drop (o + (m + 1)))) ∧ R.length = m + 1 ∧ Lb R ∧ val R = val ((U.drop o).take (m + 1)) - d * val V' ∧ val R < val V' ∧ w.grownBy w' (some g) := by
 subst hm; exact w_step g o n cap cu U V' vb w hU hon hcu hb hoff hUb h1 hY hlt
theorem w_divideG (va vb : Value) (X Y : List Int) (n1 : Nat) (w : World) (ha : Lim w va X) (hb0 : Lim w vb Y) (hX : Nz X) (hY : Nz Y) (hx : X.length ≤ 49999) (hYl : Y.length = n1 + 2) (hle : val Y ≤ val X) :
    Calls Tryz.prog 122 #[va, vb] w (DivPost X Y w) := by
  have hcm := w_compare va vb X Y w ha hb0 hX hY
  have lX := ha.lb
  have lY := hb0.lb
  have hlen : Y.length ≤ X.length := by
    rcases Nat.lt_or_ge X.length Y.length with h | h
    · have := val_lt_of_len lX lY hY h; omega
    · exact h
  have hc0 : decide (cmpI (val X) (val Y) < 0) = false := decide_eq_false (by unfold cmpI; rw [if_neg (by omega)]; split <;> omega)
  obtain ⟨c, ec⟩ : ∃ c, cmpI (val X) (val Y) = c := ⟨_, rfl⟩
  rw [ec] at hcm hc0
  obtain ⟨bo, b2, o2, cap2, rfl, y1, y2, y3, y4, y5, y6⟩ := hb0.view
  have e := y1 (by omega)
  subst e
  have hbl := y4 (by omega)
  have hcell := y5 (n1 + 1) (by omega)
  have hyU : U32 (Y.getD (n1 + 1) 0) := lY.getD _
  have hy0 : Y.getD (n1 + 1) 0 ≠ 0 := by
    refine hY _ ?_
    rw [List.getLast?_eq_getElem?, hYl, List.getD_eq_getElem?_getD, List.getElem?_eq_getElem (show n1 + 1 < Y.length by omega)]
    simp
  obtain ⟨y, ey⟩ : ∃ y, Y.getD (n1 + 1) 0 = y := ⟨_, rfl⟩
  rw [ey] at hcell hyU hy0
  rw [hYl] at hcm hb0 ⊢
  clear ec y5 y4 y1
  go_enter Tryz.func122, Tryz.ntmps122
  go_upto_region 8 with (first
    | (go_at_call 167; (with_reducible refine hcm.mono ?_); rintro e w1 ⟨rfl, hb1⟩; have hc1 := (hb1.cells.1 b2 (o2 + (n1 + 1)) hbl).trans hcell)
    | (go_at_call 171; (with_reducible refine (w_lead y _ hyU hy0).mono ?_); rintro e w2 ⟨s, rfl, hs, hsl, hsh, rfl⟩))
  refine wp_region_held_drew (S := (fun w0 => Ext w2 w0)) c_2 ?_ (fun hHeld => ?_)
  · exact (Ext.refl w2).drew
  try simp only [sx_]
  refine sK 0 ?_
  refine sK 1 ?_
  refine sK 3 ?_
  refine sK 5 ?_
  refine sK 6 ?_
  refine rh1 2 rfl fun K hK => ?_
  go_simp
  (go_at_call 172; (with_reducible refine (w_left0 _ Y s _ (hb0.ext (hb1.trans hHeld)) (by omega) hs).mono ?_); rintro e t1 ⟨gv, cv, Z, rfl, hOv, lZ, vZ, nZ, hx1⟩; have pv := hOv.parts)
  refine hK.out _ _ ?_ fun _ => ?_
  · (try dsimp only); exact hHeld.trans hx1
  clear hK K hHeld
  rename_i hHeld
  try simp only [sx_]
  refine tk 4 rfl (by intro w0 hSw; go_simp; rw [if_pos (by omega), show ((n1 : Int) + 2).toNat = n1 + 2 from by omega]; try with_reducible rfl) ?_
  try simp only [sx_]
  refine rh1 7 rfl fun K hK => ?_
  go_simp
  (go_at_call 172; (with_reducible refine (w_left0 _ X s _ (ha.ext (hb1.trans hHeld)) (by omega) hs).mono ?_); rintro e t2 ⟨gu, cu, U0, rfl, hOu, lU0, vU0, nU0, hx2⟩; have pu := hOu.parts; rw [nU0] at hOu pu)
  refine hK.out _ _ ?_ fun _ => ?_
  · (try dsimp only); exact hHeld.trans hx2
  clear hK K hHeld
  rename_i hHeld
  try simp only [sx_]
  refine sK 8 ?_
  refine sK 9 ?_
  refine wpAnyH_done c_2 ?_ _
  have hs1 := hHeld.size
  obtain ⟨vV, lenV⟩ := top_fits (n := n1 + 1) hs (by omega) lY lZ (by omega) vZ (by rw [ey]; exact hsl)
  have lV : Lb (Z.take (n1 + 1 + 1)) := lZ.take _
  have hOv2 : O32 t2 0 gv (n1 + 2) cv (Z.take (n1 + 1 + 1)) := ((hOv.ext hx2).base (Nat.zero_le _)).take (n1 + 2) (by omega)
  have hLv : Lim t2 (.slice (some ⟨gv, 0, none⟩) (n1 + 2) cv) (Z.take (n1 + 1 + 1)) := hOv2.lim lV (by omega)
  obtain ⟨V, eV⟩ : ∃ V, Z.take (n1 + 1 + 1) = V := ⟨_, rfl⟩
  rw [eV] at vV lenV lV hLv
  have hOu2 : O32 t2 0 gu (X.length + 1) cu U0 := hOu.base (Nat.zero_le _)
  have hE2 : Ext w t2 := hb1.trans hHeld
  have hsz1 := hb1.size
  have hgv : w.heap.size ≤ gv ∧ gv < t1.heap.size ∧ t1.heap.size ≤ t2.heap.size ∧ t1.heap.size ≤ gu ∧ gu < t2.heap.size := by
    have a1 := hx1.size; have a2 := hx2.size; have hdz : w2.drew.heap.size = w2.heap.size := rfl; omega
  obtain ⟨N, hN⟩ : ∃ N, X.length = N + (n1 + 1) := ⟨X.length - (n1 + 1), by omega⟩
  have hU0 : val U0 < BB ^ N * val V := by
    rw [vU0, vV, ← Int.mul_assoc]
    refine Int.mul_lt_mul_of_pos_right ?_ (Int.pow_pos (by decide))
    have q1 := val_lt lX
    have q2 := val_pos lY hY (by rintro rfl; simp at hYl)
    rw [hN, Int.pow_add] at q1
    rw [hYl] at q2
    exact Int.lt_of_lt_of_le q1 (Int.mul_le_mul_of_nonneg_left q2 (Int.pow_nonneg (by decide)))
  have hV2 : Hid (val V = val Y * 2 ^ s) := vV
  have hU2 : Hid (val U0 = val X * 2 ^ s) := vU0
  obtain ⟨i0, hi, hz0, hz1, hz2⟩ := info_parts info81
  clear hOv hOu hOv2 hx1 hx2 hHeld hc1 hcell vV vU0 vZ eV hc0 hsl hsh ey hyU hy0 lZ nZ
  go_wp2_with (at_make; refine wpList_make_full _ rfl _ _ 22 rfl t2.heap.size 25 i0 (.int .u32 0) 1 Tryz.underlying22 hi hz0 hz1 .i64 .i64 _ _ N rfl rfl (by omega) (by omega) c_11 c_4 (Nat.le_refl _) ?_; intro w5 hown5 hgrow5)
  have hR5 : R32 w5 t2.heap.size t2.heap.size N (List.replicate N 0) := R32.made hown5
  have hE5 : Ext t2 w5 := Ext.grown (Ext.refl _) hgrow5
  have hOu5 := hOu2.ext hE5
  have hLv5 := hLv.ext hE5
  have hEw5 := hE2.trans hE5
  clear hown5 hgrow5 hOu2 hLv
  go_loopw [12] (fun i wr => ∃ (k : Nat) (U Q : List Int), k ≤ N ∧ i = .int .i64 ((k : Int) - 1) ∧ Lb U ∧ Lb Q ∧ Hid (∀ i, i < k → Q.getD i 0 = 0) ∧ Hid (val U + val Q * val V = val U0) ∧ val U < BB ^ k * val V ∧
      Hid (O32 wr 0 gu (X.length + 1) cu U) ∧ Hid (Lim wr (.slice (some ⟨gv, 0, none⟩) (n1 + 2) cv) V) ∧ Hid (R32 wr t2.heap.size t2.heap.size N Q) ∧ Hid (Ext w wr)) (fun i _ => (intOf i + 1).toNat)
  case atStart => exact ⟨N, U0, List.replicate N 0, Nat.le_refl _, by go_num, lU0, fun y hy => by rw [List.eq_of_mem_replicate hy]; exact ⟨by decide, by decide⟩, (fun i _ => by simp [List.getD_eq_getElem?_getD, List.getElem?_replicate]; split <;> rfl : ∀ i, i < N → _), (by rw [val_zeros]; simp : val U0 + _ = _), hU0, hOu5, hLv5, hR5, hEw5⟩
  case round =>
    obtain ⟨k, U, Q, hk, rfl, lU, lQ, hQ0, hval, hUk, HU, HV, HQ, HE⟩ := hrel
    have hpU := HU.out.parts
    have hQl := HQ.out.len
    have hUl := HU.out.len
    have hglt := HQ.out.lt
    cases k with
    | zero =>
      have hLu := HU.out.lim lU (by omega)
      rw [hN] at hLu
      have hLq := HQ.out.lim lQ (by omega)
      have hti := trim_le U
      have hfin := hval
      have hp0 : (0 : Int) < 2 ^ s := Int.pow_pos (by decide)
      clear hval
      go_upto_region 15 with (first
        | (go_at_call 113; (with_reducible refine (w_trim _ U _ hLu).mono ?_); rintro e w6 ⟨u6, rfl, hu6, hb6⟩)
        | (go_at_call 174; (with_reducible refine (w_right _ _ s _ hu6 hs (by omega)).mono ?_); rintro e w7 ⟨u7, qs, rr, rfl, hu7, hrv, rr0, rr1, hb7⟩))
      have hLq7 := hLq.ext (hb6.trans hb7)
      clear hLu hLq hu6
      go_wp2_with (first
        | (go_at_call 113; (with_reducible refine (w_trim _ Q _ hLq7).mono ?_); rintro e w8 ⟨u8, rfl, hu8, hb8⟩; have hu7b := hu7.ext hb8; clear hLq7 hu7)
        | (go_at_call 113; (with_reducible refine (w_trim _ qs _ hu7b).mono ?_); rintro e w9 ⟨u9, rfl, hu9, hb9⟩))
      go_ret2
      obtain ⟨m1, m2⟩ := div_fin (val_trim U) hrv rr0 rr1 hp0 hfin.out hV2.out hU2.out (by rw [Int.pow_zero, Int.one_mul] at hUk; exact hUk)
      exact ⟨_, _, trimL Q, trimL qs, rfl, hu8.ext hb9, hu9, trim_nz _, trim_nz _, by rw [val_trim, val_trim]; exact m1, by rw [val_trim]; exact m2, HE.out.trans (hb6.trans (hb7.trans (hb8.trans hb9)))⟩
    | succ j =>
      obtain ⟨hm, hz⟩ := div_pre lU lV lenV (j := j) (by omega) hUk
      have hgj := HQ.out.cell (k := j) (by omega)
      have hgf := HQ.out.frozen j
      have hlj : j + (n1 + 2) + 1 - j = n1 + 2 + 1 := by omega
      have hst := fun cuj hcuj => w_step_n (n1 + 2) lenV gu j (X.length + 1) cu cuj U V _ wr HU.out (by omega) hcuj HV.out (Off.mk (by omega)) lU (by omega) (by omega) hm
      go_wp2_with (go_at_call 173; (with_reducible refine (hst _ (by omega)).mono ?_); rintro e w6 ⟨d, R, rfl, hdU, hO6, lenR, lR, hRv, hRlt, hgr6⟩; have HQ6 : O32 w6 t2.heap.size t2.heap.size N N Q := (HQ.out.own).grownAt hgr6 (by omega); have c6 := HQ6.cell (k := j) (by omega); have f6 := HQ6.frozen j)
      obtain ⟨p1, p2⟩ := div_post lU lR lenR (V := V) (j := j) (n := n1 + 2) (by omega) hz hRv hRlt
      have hsv := set_val (d := d) (show j < Q.length by omega) (hQ0.out j (by omega))
      have HO9 : Hid (O32 (w6.setCell ⟨t2.heap.size, j, none⟩ (.int .u32 d)) 0 gu (X.length + 1) cu (U.take j ++ (R ++ U.drop (j + (n1 + 2 + 1))))) := hO6.other _ (by omega)
      have HL9 : Hid (Lim (w6.setCell ⟨t2.heap.size, j, none⟩ (.int .u32 d)) (.slice (some ⟨gv, 0, none⟩) (n1 + 2) cv) V) := (HV.out.grownAt hgr6 (Off.mk (by omega))).grownAt (grown_set (k := j) (World.grownBy.refl _ (some t2.heap.size)) _) (Off.mk (by omega))
      have HQ9 : Hid (R32 (w6.setCell ⟨t2.heap.size, j, none⟩ (.int .u32 d)) t2.heap.size t2.heap.size N (Q.set j d)) := (HQ6.set j d : O32 _ _ _ _ _ _)
      have HE9 : Hid (Ext w (w6.setCell ⟨t2.heap.size, j, none⟩ (.int .u32 d))) := (ext_in HE.out hgr6 (by omega)).setCell (p := ⟨t2.heap.size, j, none⟩) (by dsimp only; omega) _
      have hvv : val (U.take j ++ (R ++ U.drop (j + (n1 + 2 + 1)))) + val (Q.set j d) * val V = val U0 := by
        rw [p1, hsv, ← hval.out]; grind
      go_roundw
      case rel => exact ⟨j, _, Q.set j d, by omega, rfl, (lU.take j).append (lR.append (lU.drop _)), lQ.set j hdU, (fun i hi => by rw [set_low hi]; exact hQ0.out i (by omega) : ∀ i, i < j → _), hvv, p2, HO9, HL9, HQ9, HE9⟩
      case measure => simp [intOf]
theorem w_divideA (va vb : Value) (X Y : List Int) (w : World) (ha : Lim w va X) (hb0 : Lim w vb Y) (hX : Nz X) (hY : Nz Y) (hx : X.length ≤ 49999) (h0 : 0 < Y.length) :
    Calls Tryz.prog 122 #[va, vb] w (DivPost X Y w) := by
 by_cases h1 : val X < val Y ∨ Y.length = 1
 ·exact w_divide va vb X Y w ha hb0 hX hY (by omega) h1
 ·exact w_divideG va vb X Y (Y.length - 2) w ha hb0 hX hY hx (by omega) (by omega)
end Go.Proofs.YtogblocakccbgaaGreat
namespace Go.Proofs.YtogblocakccbgaaGreat
open Go.RowKit
theorem T_WN_3 {p : Prop} (h : p := by
 intro p hp
 simp only [List.mem_cons, List.mem_nil_iff, or_false] at hp
 rcases hp with rfl | rfl | rfl | rfl <;> (dsimp only; omega)) : p := h
theorem T_WN_2 {p : Prop} (h : p := by
 intro p hp
 simp only [List.mem_cons, List.mem_nil_iff, or_false] at hp
 rcases hp with rfl | rfl | rfl | rfl <;> simp [go_sem, ↓IntWalk.iteOmega]) : p := h
theorem T_WN_1 {p : Prop} (h : p := by
 go_upto_region 11 with (go_at_call 54; (with_reducible refine (w_madeN _ (dig (m / k)) (m / k) _ hq (dig_val _) hsq).mono ?_); rintro e w5 ⟨y16, rfl, hq5, hb6⟩; obtain ⟨ao7, b7, o7, cap7, rfl, -⟩ := hq5.view; replace hA := hA.ext hb6; replace hB := hB.ext hb6; replace q0 := BX.get hA 0 rfl; replace q1 := BX.get hA 1 rfl; replace q2 := BX.get hA 2 rfl; replace q3 := BX.get hA 3 rfl; obtain ⟨⟨xa, h3a⟩, ⟨xb, h3b⟩, h3f, hnu, hsl⟩ := hA.box; replace hr := hr.ext hb6)
 obtain ⟨Wq, hWq⟩ : ∃ Wq, (w5.setCell ⟨w.heap.size + 1 + 1, 0, none⟩ (.bool false)).setCell ⟨w.heap.size + 1 + 1, 1, none⟩ (.slice ao7 (dig (m / k)).length cap7) = Wq := ⟨_, rfl⟩
 have hAq : BX w (w.heap.size + 1 + 1) [(w.heap.size, 0, .bool false), (w.heap.size, 1, .slice ao (dig m).length cap1), (w.heap.size + 1, 0, .bool false), (w.heap.size + 1, 1, .slice bo (dig k).length cap2)] Wq := hWq ▸ (hA.set (by omega) hL2 (fun z e => by cases e)).set (by omega) hL2 (fun z e => by cases e)
 have hBq : BX w (w.heap.size + 1 + 1 + 1) [(w.heap.size, 0, .bool false), (w.heap.size, 1, .slice ao (dig m).length cap1), (w.heap.size + 1, 0, .bool false), (w.heap.size + 1, 1, .slice bo (dig k).length cap2)] Wq := hWq ▸ (hB.other (by omega) hL2 (by omega) (fun z e => by cases e)).other (by omega) hL2 (by omega) (fun z e => by cases e)
 have hqq : Lim Wq (.slice ao7 (dig (m / k)).length cap7) (dig (m / k)) := hWq ▸ Lim.box (Lim.box hq5 hnu) (NoU.set hnu (fun z e => by cases e))
 have hrq : Lim Wq (.slice ao6 (dig (m % k)).length cap6) (dig (m % k)) := hWq ▸ Lim.box (Lim.box hr hnu) (NoU.set hnu (fun z e => by cases e))
 have c20 : Wq.cell? ⟨w.heap.size + 1 + 1, 0, none⟩ = some (.bool false) := by rw [← hWq]; simp [go_sem, h3a, h3b]
 have c21 : Wq.cell? ⟨w.heap.size + 1 + 1, 1, none⟩ = some (.slice ao7 (dig (m / k)).length cap7) := by rw [← hWq]; simp [go_sem, h3a, h3b]
 rw [hWq]
 replace q0 := BX.get hAq 0 rfl
 replace q1 := BX.get hAq 1 rfl
 replace q2 := BX.get hAq 2 rfl
 replace q3 := BX.get hAq 3 rfl
 clear hWq hA hB hq5 hr h3a h3b h3f hnu hsl
 go_upto_region 14 with (go_at_call 54; (with_reducible refine (w_madeN _ (dig (m % k)) (m % k) _ hrq (dig_val _) hsr).mono ?_); rintro e w6 ⟨y17, rfl, hr6, hb7⟩; obtain ⟨ao8, b8, o8, cap8, rfl, -⟩ := hr6.view; have hA6 := hAq.ext hb7; have hB6 := hBq.ext hb7; obtain ⟨⟨xa, h4a⟩, ⟨xb, h4b⟩, h4f, hnv, hsm⟩ := hB6.box; have hsl := hAq.box.2.2.2.2; have h3f := hA6.box.2.2.1; have d20 := (hb7.cells.1 _ 0 hsl).trans c20; have d21 := (hb7.cells.1 _ 1 hsl).trans c21; clear c20 c21 q0 q1 q2 q3)
 have h4f0 := h4f 0
 have h4f1 := h4f 1
 have h3f0 := h3f 0
 have h3f1 := h3f 1
 go_region
 all_goals
  have hE6 := hA6.base
  have hnu := hA6.box.2.2.2.1
  have hq6 := hqq.ext hb7
  go_wp2_with fail
  refine bodyPost_ret (v := .tuple #[.agg #[.bool false, .slice ao7 (dig (m / k)).length cap7], .agg #[.bool false, .slice ao8 (dig (m % k)).length cap8], .int .i64 0]) ?_ rfl ⟨_, _, rfl, ⟨_, rfl, ?_⟩, ⟨_, rfl, ?_⟩, ?_⟩
  ·simp [results, Tryz.results63, go_sem, ↓IntWalk.iteOmega, h4a, h4b, d20, d21]
  ·refine Lim.ext ?_ ((Ext.refl _).drew)
   refine Lim.box (Lim.box (Lim.box (Lim.box (Lim.box (Lim.box hq6 ?_) ?_) ?_) ?_) ?_) ?_ <;> (repeat (first | with_reducible exact hnu | with_reducible exact hnv | with_reducible refine NoU.set ?_ (fun z e => by cases e)))
  ·refine Lim.ext ?_ ((Ext.refl _).drew)
   refine Lim.box (Lim.box (Lim.box (Lim.box (Lim.box (Lim.box hr6 ?_) ?_) ?_) ?_) ?_) ?_ <;> (repeat (first | with_reducible exact hnu | with_reducible exact hnv | with_reducible refine NoU.set ?_ (fun z e => by cases e)))
  ·repeat (first | with_reducible exact Ext.refl _ | with_reducible assumption | with_reducible refine Ext.alloc ?_ _ | with_reducible refine Ext.setCell ?_ c_17 _ | with_reducible refine Ext.drewN ?_ _ | with_reducible refine Ext.drew ?_ | with_reducible refine Ext.trans ?_ c_18)) : p := h
theorem w_DivMod (va vb : Value) (m k : Nat) (w : World) (ha : Nn w va m) (hb0 : Nn w vb k) (hs : Small m) (hk0 : 0 < k) (hs2 : Small k) :
    Calls Tryz.prog 63 #[va, vb] w fun e w' => ∃ u v, e = .returned (.tuple #[u, v, .int .i64 0]) ∧ Nn w' u (m / k) ∧ Nn w' v (m % k) ∧ Ext w w' := by
 obtain ⟨u, rfl, hu⟩ := ha
 obtain ⟨s, rfl, hv⟩ := hb0
 obtain ⟨ao, b1, o1, cap1, rfl, v1, v2, v3, v4, v5, v6⟩ := hu.view
 obtain ⟨bo, b2, o2, cap2, rfl, y1, y2, y3, y4, y5, y6⟩ := hv.view
 have hlen : (dig m).length ≤ 49999 := by unfold Small at hs; omega
 have hl1 := dig_pos.2 hk0
 obtain ⟨W4, hW4⟩ : ∃ W4, (((w.alloc (.cells #[.bool false, .slice ao (dig m).length cap1] 24)).alloc (.cells #[.bool false, .slice bo (dig k).length cap2] 24)).alloc (.cells #[.bool false, .slice none 0 0] 24)).alloc (.cells #[.bool false, .slice none 0 0] 24) = W4 := ⟨_, rfl⟩
 have hWs : W4.heap.size = w.heap.size + 1 + 1 + 1 + 1 := by rw [← hW4]; simp
 have hEW : Ext w W4 := by rw [← hW4]; exact ((((Ext.refl w).alloc _).alloc _).alloc _).alloc _
 have hA0 : BX w (w.heap.size + 1 + 1) [(w.heap.size, 0, .bool false), (w.heap.size, 1, .slice ao (dig m).length cap1), (w.heap.size + 1, 0, .bool false), (w.heap.size + 1, 1, .slice bo (dig k).length cap2)] W4 := by
  rw [← hW4]
  refine ⟨hW4 ▸ hEW, ?_, ?_, ?_, ?_, ?_, by simp⟩
  ·exact T_WN_2
  ·exact b_1
  ·exact b_2
  ·exact b_3
  ·have := (NoU.new ((w.alloc (.cells #[.bool false, .slice ao (dig m).length cap1] 24)).alloc (.cells #[.bool false, .slice bo (dig k).length cap2] 24)) #[.bool false, .slice none 0 0] 24 (noU2 (by simp) (by simp))).alloc (by simp) #[.bool false, .slice none 0 0] 24
   simpa using this
 have hB0 : BX w (w.heap.size + 1 + 1 + 1) [(w.heap.size, 0, .bool false), (w.heap.size, 1, .slice ao (dig m).length cap1), (w.heap.size + 1, 0, .bool false), (w.heap.size + 1, 1, .slice bo (dig k).length cap2)] W4 := by
  rw [← hW4]
  refine ⟨hW4 ▸ hEW, ?_, ?_, ?_, ?_, ?_, by simp⟩
  ·exact T_WN_2
  ·exact b_1
  ·exact b_2
  ·exact b_3
  ·have := NoU.new (((w.alloc (.cells #[.bool false, .slice ao (dig m).length cap1] 24)).alloc (.cells #[.bool false, .slice bo (dig k).length cap2] 24)).alloc (.cells #[.bool false, .slice none 0 0] 24)) #[.bool false, .slice none 0 0] 24 (noU2 (by simp) (by simp))
   simpa using this
 have hL2 : ∀ p ∈ ([(w.heap.size, 0, .bool false), (w.heap.size, 1, .slice ao (dig m).length cap1), (w.heap.size + 1, 0, .bool false), (w.heap.size + 1, 1, .slice bo (dig k).length cap2)] : List (Nat × Nat × Value)), p.1 ≠ w.heap.size + 1 + 1 := by
  exact T_WN_3
 have hL3 : ∀ p ∈ ([(w.heap.size, 0, .bool false), (w.heap.size, 1, .slice ao (dig m).length cap1), (w.heap.size + 1, 0, .bool false), (w.heap.size + 1, 1, .slice bo (dig k).length cap2)] : List (Nat × Nat × Value)), p.1 ≠ w.heap.size + 1 + 1 + 1 := by
  exact T_WN_3
 have hck := w_check_two W4 _ _ m k (hu.ext hEW) (hv.ext hEW) hs hs2
 rw [hWs] at hck
 subst hW4
 clear v1 v4 v5 y1 y4 y5 hWs hEW
 have z0 : (((dig k).length : Int) == 0) = false := by simp; intro e; rw [e] at hl1; simp at hl1
 have hdv := fun w1 (k1 : Ext w w1) => w_divideA _ _ (dig m) (dig k) w1 (hu.ext k1) (hv.ext k1) (dig_nz m) (dig_nz k) hlen hl1
 clear hl1
 go_enter Tryz.func63, Tryz.ntmps63
 go_upto_region 7 with (first
  | (go_at_call 52; (with_reducible refine hck.mono ?_); rintro e w1 ⟨rfl, hb⟩; have hA := hA0.ext (((Ext.refl _).alloc _).trans hb); have hB := hB0.ext (((Ext.refl _).alloc _).trans hb); have q0 := BX.get hA 0 rfl; have q1 := BX.get hA 1 rfl; have q2 := BX.get hA 2 rfl; have q3 := BX.get hA 3 rfl; clear hA0 hB0 hck hb)
  | (go_at_call 122; (with_reducible refine (hdv _ hA.base).mono ?_); rintro e w2 ⟨y14, y15, qs, rs, rfl, hq, hr, nq, nr, hval, hlt, hb5⟩; obtain ⟨ao6, b6, o6, cap6, rfl, -⟩ := hr.view; obtain ⟨ao5, b5, o5, cap5, rfl, -⟩ := hq.view; replace hA := hA.ext hb5; replace hB := hB.ext hb5; replace q0 := BX.get hA 0 rfl; replace q1 := BX.get hA 1 rfl; replace q2 := BX.get hA 2 rfl; replace q3 := BX.get hA 3 rfl))
 obtain ⟨eq, er⟩ := div_dig hq.lb hr.lb nq nr hval hlt
 subst eq
 subst er
 have hmk : m / k ≤ m := Nat.div_le_self _ _
 have hrk : m % k < k := Nat.mod_lt _ hk0
 have hsq : (dig (m / k)).length ≤ 4096 := Nat.le_trans (dig_mono hmk) hs
 have hsr : (dig (m % k)).length ≤ 4096 := Nat.le_trans (dig_mono (Nat.le_of_lt hrk)) hs2
 clear hdv hval hlt nq nr hb5
 by_cases hr0 : 0 < (dig (m % k)).length
 ·skip
  exact T_WN_1
 ·skip
  exact T_WN_1
theorem T_ZT_3 {p : Prop} (h : p := by
 obtain ⟨u, rfl, hu⟩ := ha
 obtain ⟨s, rfl, hv⟩ := hb0
 obtain ⟨ao, b1, o1, cap1, rfl, -⟩ := hu.view
 obtain ⟨bo, b2, o2, cap2, rfl, -⟩ := hv.view
 go_enter Tryz.func114, Tryz.ntmps114
 go_wp2
 go_ret
 exact T_ZT_1) : p := h
theorem T_ZT_2 {p : Prop} (h : p := by
 rw [dig_val, dig_val] at hcm
 go_enter Tryz.func114, Tryz.ntmps114
 go_wp2_with (go_at_call 167; (with_reducible refine (hcm _ ex_).mono ?_); rintro e w1 ⟨rfl, hb⟩)
 go_ret
 exact T_ZT_1) : p := h
theorem T_ZT_1 {p : Prop} (h : p := by
 exact ⟨rfl, ex_⟩) : p := h
theorem z_toFF (va vb : Value) (m k : Nat) (w : World) (ha : Sm w va false m) (hb0 : Sm w vb false k) :
    Calls Tryz.prog 114 #[va, vb] w fun e w' => e = .returned (.int .i64 (cmpI m k)) ∧ Ext w w' := by
 obtain ⟨u, rfl, hu⟩ := ha
 obtain ⟨s, rfl, hv⟩ := hb0
 obtain ⟨ao, b1, o1, cap1, rfl, -⟩ := hu.view
 obtain ⟨bo, b2, o2, cap2, rfl, -⟩ := hv.view
 have hcm := fun w1 (k1 : Ext w w1) => w_compare _ _ (dig m) (dig k) w1 (hu.ext k1) (hv.ext k1) (dig_nz m) (dig_nz k)
 exact T_ZT_2
theorem z_toTT (va vb : Value) (m k : Nat) (w : World) (ha : Sm w va true m) (hb0 : Sm w vb true k) :
    Calls Tryz.prog 114 #[va, vb] w fun e w' => e = .returned (.int .i64 (cmpI k m)) ∧ Ext w w' := by
 obtain ⟨u, rfl, hu⟩ := ha
 obtain ⟨s, rfl, hv⟩ := hb0
 obtain ⟨ao, b1, o1, cap1, rfl, -⟩ := hu.view
 obtain ⟨bo, b2, o2, cap2, rfl, -⟩ := hv.view
 have hcm := fun w1 (k1 : Ext w w1) => w_compare _ _ (dig k) (dig m) w1 (hv.ext k1) (hu.ext k1) (dig_nz k) (dig_nz m)
 exact T_ZT_2
theorem z_toTF (va vb : Value) (m k : Nat) (w : World) (ha : Sm w va true m) (hb0 : Sm w vb false k) :
    Calls Tryz.prog 114 #[va, vb] w fun e w' => e = .returned (.int .i64 (-1)) ∧ Ext w w' := by
 exact T_ZT_3
theorem z_toFT (va vb : Value) (m k : Nat) (w : World) (ha : Sm w va false m) (hb0 : Sm w vb true k) :
    Calls Tryz.prog 114 #[va, vb] w fun e w' => e = .returned (.int .i64 (1)) ∧ Ext w w' := by
 exact T_ZT_3
theorem z_to (va vb : Value) (m k : Int) (w : World) (ha : Wid w va m) (hb0 : Wid w vb k) :
    Calls Tryz.prog 114 #[va, vb] w fun e w' => e = .returned (.int .i64 (cmpI m k)) ∧ Ext w w' := by
 have ha' : Sm w va (decide (m < 0)) m.natAbs := ha
 have hb' : Sm w vb (decide (k < 0)) k.natAbs := hb0
 by_cases h1 : m < 0 <;> by_cases h2 : k < 0
 ·rw [decide_eq_true h1] at ha'
  rw [decide_eq_true h2] at hb'
  have e : cmpI m k = cmpI (k.natAbs : Int) (m.natAbs : Int) := by
   rw [show (k.natAbs : Int) = -k by omega, show (m.natAbs : Int) = -m by omega]
   unfold cmpI
   split <;> split <;> (try split) <;> (try split) <;> first | rfl | omega
  rw [e]; exact z_toTT va vb _ _ w ha' hb'
 ·rw [decide_eq_true h1] at ha'
  rw [decide_eq_false h2] at hb'
  rw [cmp_lt (show m < k by omega)]; exact z_toTF va vb _ _ w ha' hb'
 ·rw [decide_eq_false h1] at ha'
  rw [decide_eq_true h2] at hb'
  rw [cmp_gt (show k < m by omega)]; exact z_toFT va vb _ _ w ha' hb'
 ·rw [decide_eq_false h1] at ha'
  rw [decide_eq_false h2] at hb'
  have e : cmpI m k = cmpI (m.natAbs : Int) (k.natAbs : Int) := by
   rw [show (k.natAbs : Int) = k by omega, show (m.natAbs : Int) = m by omega]
  rw [e]; exact z_toFF va vb _ _ w ha' hb'
theorem z_Cmp (va vb : Value) (m k : Int) (w : World) (ha : Wid w va m) (hb0 : Wid w vb k) (hs : Sz m) (hs2 : Sz k) :
    Calls Tryz.prog 56 #[va, vb] w fun e w' => e = .returned (.tuple #[.int .i64 (cmpI m k), .int .i64 0]) ∧ Ext w w' := by
 obtain ⟨u, rfl, hu⟩ := ha
 obtain ⟨s, rfl, hv⟩ := hb0
 obtain ⟨ao, b1, o1, cap1, rfl, -⟩ := hu.view
 obtain ⟨bo, b2, o2, cap2, rfl, -⟩ := hv.view
 have hck := fun w1 (k1 : Ext w w1) => z_check_two w1 _ _ (decide (m < 0)) (decide (k < 0)) m.natAbs k.natAbs (hu.ext k1) (hv.ext k1) hs hs2 (wid_s _ rfl) (wid_s _ rfl)
 have hto := fun w1 (k1 : Ext w w1) => z_to (.agg #[.bool (decide (m < 0)), .slice ao (dig m.natAbs).length cap1]) (.agg #[.bool (decide (k < 0)), .slice bo (dig k.natAbs).length cap2]) m k w1 ⟨_, rfl, hu.ext k1⟩ ⟨_, rfl, hv.ext k1⟩
 have hmf : ∀ (fn : Fn) (first cap : Array Value) (w : World), (Instr.makeFunc fn first cap).run Tryz.prog w = .ok (.func fn first cap) w := fun _ _ _ _ => rfl
 generalize cmpI m k = R at hto ⊢
 generalize decide (m < 0) = sa at hck hto ⊢
 generalize decide (k < 0) = sb at hck hto ⊢
 generalize (dig m.natAbs).length = la at hck hto ⊢
 generalize (dig k.natAbs).length = lb at hck hto ⊢
 clear hu hv hs hs2
 have hck3 := hck ((w.alloc (.cells #[.bool sa, .slice ao la cap1] 24)).alloc (.cells #[.bool sb, .slice bo lb cap2] 24)) ex_
 simp only [World.size_alloc] at hck3
 clear hck
 go_enter Tryz.func56, Tryz.ntmps56
 go_wp2_with (first
  | (go_at_call 52; (with_reducible refine hck3.mono ?_); rintro e w1 ⟨rfl, hb⟩; obtain ⟨_, _, ⟨hc, hf⟩, hz⟩ := hb.c3; (try simp only [wsz] at hz hc hf))
  | (go_at_call 114; (with_reducible refine (hto _ ex_).mono ?_); rintro e w2 ⟨rfl, hb2⟩))
 go_ret2
 exact T_ZT_1
theorem sz0 : Sz 0 := by unfold Sz Small; simp [dig_nil.2]
theorem wid0 (w : World) : Wid w (.agg #[.bool false, .slice none 0 0]) 0 := ⟨_, rfl, Lim.nil w⟩
theorem z_Sign (va : Value) (m : Int) (w : World) (ha : Wid w va m) (hs : Sz m) :
    Calls Tryz.prog 53 #[va] w fun e w' => e = .returned (.tuple #[.int .i64 (cmpI m 0), .int .i64 0]) ∧ Ext w w' := by
 obtain ⟨u, rfl, hu⟩ := ha
 obtain ⟨ao, b1, o1, cap1, rfl, -⟩ := hu.view
 have hto := fun w1 (k1 : Ext w w1) => z_Cmp (.agg #[.bool (decide (m < 0)), .slice ao (dig m.natAbs).length cap1]) (.agg #[.bool false, .slice none 0 0]) m 0 w1 ⟨_, rfl, hu.ext k1⟩ (wid0 w1) hs sz0
 generalize cmpI m 0 = R at hto ⊢
 generalize decide (m < 0) = sa at hto ⊢
 generalize (dig m.natAbs).length = la at hto ⊢
 go_enter Tryz.func53, Tryz.ntmps53
 go_wp2_with (go_at_call 56; (with_reducible refine (hto _ ex_).mono ?_); rintro e w2 ⟨rfl, hb2⟩)
 go_ret2
 exact T_ZT_1
theorem z_FromN (n : Nat) (w : World) (h0 : 0 < n) (hn : n ≤ 9223372036854775808) :
    Calls Tryz.prog 65 #[.int .i64 (-(n : Int))] w fun e w' => ∃ u, e = .returned u ∧ Wid w' u (-(n : Int)) ∧ Ext w w' := by
 have hL := lim_two (w.alloc (.cells #[.bool false, .slice none 0 0] 24)) ((n : Int) % 4294967296) ((n : Int) / 4294967296) c_19 c_19
 rw [World.size_alloc] at hL
 have hv : val [(n : Int) % 4294967296, (n : Int) / 4294967296] = n := by simp only [val]; unfold BB; omega
 have hl : (dig n).length ≤ 4096 := dig_bits (k := 64) (L := 4096) (by omega) (by decide)
 have hd : decide (-(n : Int) < 0) = true := decide_eq_true (by omega)
 have hwu : IntKind.u64.wrap (-(IntKind.u64.wrap (-(n : Int)))) = n := by rw [IntKind.wrap_u64, IntKind.wrap_u64]; omega
 have hw2 : (n : Int) / 4294967296 % 4294967296 = (n : Int) / 4294967296 := by omega
 have hlen := dig_pos.2 h0
 have hmd := (w_madeS true _ _ n _ hL hv hl).mono (R' := fun e w' => ∃ u, e = .returned (.tuple #[.agg #[.bool true, u], .int .i64 0]) ∧ Lim w' u (dig n) ∧ Ext ((w.alloc (.cells #[.bool false, .slice none 0 0] 24)).alloc (.cells #[.int .u32 ((n : Int) % 4294967296), .int .u32 ((n : Int) / 4294967296)] 25)) w') (by
  rintro e w1 ⟨s, bo, rfl, hs, hbo, hb⟩
  rw [decide_eq_true hlen] at hbo
  subst hbo
  exact ⟨s, rfl, hs, hb⟩)
 clear hL hv hl
 go_enter Tryz.func65, Tryz.ntmps65
 go_wp2_with (go_at_call 54; (with_reducible refine hmd.mono ?_); rintro e w1 ⟨s, rfl, hs, hb⟩; obtain ⟨ao, b1, o1, cap1, rfl, -⟩ := hs.view; obtain ⟨_, _, ⟨hc, hf⟩, hz⟩ := hb.c3; (try simp only [wsz] at hz hc hf))
 clear hwu hw2 hmd
 have hB : NoU w1 w.heap.size := ((NoU.new w _ _ (noU2 (by simp) (by simp))).alloc (by simp) _ _).ext c_6 hb
 refine bodyPost_ret (v := .agg #[.bool true, .slice ao (dig n).length cap1]) ?_ rfl ⟨_, rfl, ⟨_, by rw [hd], ?_⟩, ?_⟩
 ·simp [results, Tryz.results65, go_sem, ↓IntWalk.iteOmega, *]
 ·rw [Int.natAbs_neg, Int.natAbs_natCast]
  have hB3 := hB.alloc (c := #[.bool true, .slice ao (dig n).length cap1]) (t := 24) (by omega)
  exact Lim.box (Lim.box (hs.alloc _) hB3) (NoU.set hB3 (fun z e => by cases e))
 ·exact b_0
theorem z_From (n : Int) (w : World) (h0 : -9223372036854775808 ≤ n) (h1 : n ≤ 9223372036854775807) :
    Calls Tryz.prog 65 #[.int .i64 n] w fun e w' => ∃ u, e = .returned u ∧ Wid w' u n ∧ Ext w w' := by
 by_cases h : n < 0
 ·obtain ⟨m, hm⟩ : ∃ m : Nat, n = -(m : Int) := ⟨n.natAbs, by omega⟩
  subst hm
  exact z_FromN m w (by omega) (by omega)
 ·obtain ⟨m, hm⟩ : ∃ m : Nat, n = (m : Int) := ⟨n.natAbs, by omega⟩
  subst hm
  refine (w_From m w (by omega)).mono ?_
  rintro e w' ⟨u, rfl, hu, hb⟩
  exact ⟨u, rfl, hu.wid, hb⟩
theorem z_MulS (va vb : Value) (sa sb : Bool) (m k : Nat) (w : World) (ha : Sm w va sa m) (hb0 : Sm w vb sb k) (hs : Small m) (hs2 : Small k) (hs3 : Small (m * k)) (hz : m = 0 → sa = false) (hz2 : k = 0 → sb = false) :
    Calls Tryz.prog 64 #[va, vb] w fun e w' => ∃ u, e = .returned (.tuple #[u, .int .i64 0]) ∧ Wid w' u (sg (!sa == sb) (m * k)) ∧ Ext w w' := by
 obtain ⟨u, rfl, hu⟩ := ha
 obtain ⟨s, rfl, hv⟩ := hb0
 obtain ⟨ao, b1, o1, cap1, rfl, v1, v2, v3, v4, v5, v6⟩ := hu.view
 obtain ⟨bo, b2, o2, cap2, rfl, y1, y2, y3, y4, y5, y6⟩ := hv.view
 have hlen : (dig m).length ≤ 100000 ∧ (dig k).length ≤ 100000 := by unfold Small at hs hs2; omega
 obtain ⟨W3, hW3⟩ : ∃ W3, ((w.alloc (.cells #[.bool sa, .slice ao (dig m).length cap1] 24)).alloc (.cells #[.bool sb, .slice bo (dig k).length cap2] 24)).alloc (.cells #[.bool false, .slice none 0 0] 24) = W3 := ⟨_, rfl⟩
 have hWs : W3.heap.size = w.heap.size + 1 + 1 + 1 := by rw [← hW3]; simp
 have hEW : Ext w W3 := by rw [← hW3]; exact (((Ext.refl w).alloc _).alloc _).alloc _
 have hS : BX w (w.heap.size + 1 + 1) [(w.heap.size, 0, .bool sa), (w.heap.size, 1, .slice ao (dig m).length cap1), (w.heap.size + 1, 0, .bool sb), (w.heap.size + 1, 1, .slice bo (dig k).length cap2)] W3 := by
  rw [← hW3]
  refine ⟨hW3 ▸ hEW, ?_, ?_, ?_, ?_, ?_, by simp⟩
  ·intro p hp
   simp only [List.mem_cons, List.mem_nil_iff, or_false] at hp
   rcases hp with rfl | rfl | rfl | rfl <;> simp [go_sem, ↓IntWalk.iteOmega]
  ·exact b_1
  ·exact b_2
  ·exact b_3
  ·have := NoU.new ((w.alloc (.cells #[.bool sa, .slice ao (dig m).length cap1] 24)).alloc (.cells #[.bool sb, .slice bo (dig k).length cap2] 24)) #[.bool false, .slice none 0 0] 24 (noU2 (by simp) (by simp))
   simpa using this
 have hLn : ∀ p ∈ ([(w.heap.size, 0, .bool sa), (w.heap.size, 1, .slice ao (dig m).length cap1), (w.heap.size + 1, 0, .bool sb), (w.heap.size + 1, 1, .slice bo (dig k).length cap2)] : List (Nat × Nat × Value)), p.1 ≠ w.heap.size + 1 + 1 := by
  intro p hp
  simp only [List.mem_cons, List.mem_nil_iff, or_false] at hp
  rcases hp with rfl | rfl | rfl | rfl <;> (dsimp only; omega)
 have hck := z_check_two W3 _ _ sa sb m k (hu.ext hEW) (hv.ext hEW) hs hs2 hz hz2
 rw [hWs] at hck
 subst hW3
 clear v1 v4 v5 y1 y4 y5 hWs hEW hz hz2
 go_enter Tryz.func64, Tryz.ntmps64
 go_upto_region 4 with (go_at_call 52; (with_reducible refine hck.mono ?_); rintro e w1 ⟨rfl, hb⟩)
 have hs4 : (dig (m * k)).length ≤ 4096 := hs3
 have hS0 := hS.ext (((Ext.refl _).alloc _).trans hb)
 clear hS hck hb
 refine wp_region_held_drew (S := (fun w0 => BX w (w.heap.size + 1 + 1) [(w.heap.size, 0, .bool sa), (w.heap.size, 1, .slice ao (dig m).length cap1), (w.heap.size + 1, 0, .bool sb), (w.heap.size + 1, 1, .slice bo (dig k).length cap2)] w0)) c_2 ?_ (fun hH => ?_)
 ·exact hS0.drew
 try simp only [sx_]
 refine sK 0 ?_
 refine tk 1 rfl c_0 ?_
 try simp only [sx_]
 refine sK 2 ?_
 refine tk 3 rfl c_0 ?_
 try simp only [sx_]
 refine sK 4 ?_
 refine sK 5 ?_
 refine tk 6 rfl c_0 ?_
 try simp only [sx_]
 refine sK 7 ?_
 refine tk 8 rfl c_0 ?_
 try simp only [sx_]
 refine rh1 9 rfl fun K hK => ?_
 go_simp
 (go_at_call 125; (with_reducible refine (w_times _ _ _ _ _ (hu.ext hH.base) (hv.ext hH.base) hlen).mono ?_); rintro e t2 ⟨s2, zs, rfl, hz2, hval, hx2⟩; obtain ⟨ao2, bb2, oo2, cc2, rfl, _⟩ := hz2.view)
 have hv2 : val zs = ((m * k : Nat) : Int) := by rw [hval, dig_val, dig_val]; exact (Int.natCast_mul m k).symm
 refine hK.out _ _ ?_ fun _ => ?_
 ·exact b_5
 clear hK K hH
 rename_i hH
 try simp only [sx_]
 refine rh1 10 rfl fun K hK => ?_
 go_simp
 (go_at_call 54; (with_reducible refine (w_madeS (!sa == sb) _ _ (m * k) _ hz2 hv2 hs4).mono ?_); rintro e t3 ⟨s3, bo3, rfl, hz3, hbo3, hx3⟩; obtain ⟨ao3, bb3, oo3, cc3, rfl, _⟩ := hz3.view)
 refine hK.out _ _ ?_ fun _ => ?_
 ·exact b_4
 clear hK K hH
 rename_i hH
 try simp only [sx_]
 refine sK 11 ?_
 refine sK 12 ?_
 refine rh1 13 rfl fun K hK => ?_
 obtain ⟨⟨xa, h3a⟩, ⟨xb, h3b⟩, h3f, hnu, hsl⟩ := hH.box
 go_simp
 refine hK.out _ _ ?_ fun _ => ?_
 ·exact b_8
 clear hK K hH
 rename_i hH
 try simp only [sx_]
 refine sK 14 ?_
 refine wpAnyH_done c_2 ?_ _
 go_wp2_with fail
 refine bodyPost_ret (v := .tuple #[.agg #[.bool bo3, .slice ao3 (dig (m * k)).length cc3], .int .i64 0]) ?_ rfl ⟨_, rfl, Wid.mk' (Lim.box (Lim.box hz3 hnu) (NoU.set hnu (fun z e => by cases e))) hbo3, ?_⟩
 ·simp [results, Tryz.results64, go_sem, ↓IntWalk.iteOmega, h3a, h3b] <;> first | exact hbo3.symm | simp [hbo3]
 ·exact hH.base
theorem z_Mul (va vb : Value) (m k : Int) (w : World) (ha : Wid w va m) (hb0 : Wid w vb k) (hs : Sz m) (hs2 : Sz k) (hs3 : Sz (m * k)) :
    Calls Tryz.prog 64 #[va, vb] w fun e w' => ∃ u, e = .returned (.tuple #[u, .int .i64 0]) ∧ Wid w' u (m * k) ∧ Ext w w' := by
 unfold Sz at hs3
 rw [Int.natAbs_mul] at hs3
 have h := z_MulS va vb (decide (m < 0)) (decide (k < 0)) m.natAbs k.natAbs w ha hb0 hs hs2 hs3 (wid_s _ rfl) (wid_s _ rfl)
 have e : sg (!decide (m < 0) == decide (k < 0)) (m.natAbs * k.natAbs) = m * k := by
  have h0 : ∀ (s t : Bool) (a b : Nat), sg (!s == t) (a * b) = sg s a * sg t b := by
   intro s t a b; cases s <;> cases t <;> simp [sg, Int.neg_mul, Int.mul_neg]
  rw [h0, sg_wid, sg_wid]
 rw [e] at h
 exact h
end Go.Proofs.YtogblocakccbgaaGreat
