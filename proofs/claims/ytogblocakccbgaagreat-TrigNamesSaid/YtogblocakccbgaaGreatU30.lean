/- The reference: one limb of a quotient. -/
import Derived.Test.YtogblocakccbgaaGreatU29
set_option linter.unusedSimpArgs false
set_option linter.unusedVariables false
set_option maxRecDepth 100000
set_option maxHeartbeats 8000000
namespace Go.Proofs.YtogblocakccbgaaGreat
open Go.RowKit Go.Shelf
theorem T_DG_4 {p : Prop} (h : p := by
 have hP : D % 4294967296 = D := by omega
 have hB : -(D / 4294967296) = 0 := by omega
 rw [hP] at hset hes
 rw [hP, hB] at hrelN
 exact T_DG_2) : p := h
theorem T_DG_3 {p : Prop} (h : p := by
 have hP : D % 4294967296 = D + 4294967296 := by omega
 have hB : -(D / 4294967296) = 1 := by omega
 rw [hP] at hset hes
 rw [hP, hB] at hrelN
 exact T_DG_2) : p := h
theorem T_DG_2 {p : Prop} (h : p := by
 go_wp2_with fail
 go_roundw
 case rel => exact hrelN.out _ hset hes
 case measure => simp [intOf]; omega) : p := h
theorem T_DG_1 {p : Prop} (h : p := by
 go_wp2_with fail
 go_quiet (fail)
 have hT1 : (q - 1) * v + (r + v) = T := by rw [Int.sub_mul, Int.one_mul]; omega
 have hlt2 : val M < (q - 1 + 1) * val Y := by rw [Int.sub_add_cancel]; exact hlt1
 have hq64 : IntKind.u64.wrap (q - 1) = q - 1 := u64_small (by omega) (by omega)
 have hr64 : IntKind.u64.wrap (r + v) = r + v := u64_small (by omega) (by unfold U32 at gv; omega)
 by_cases h2 : 4294967296 ≤ r + v
 ·have h3 : q - 1 < 4294967296 := by
   rcases Int.lt_or_le (q - 1) 4294967296 with h | h
   ·exact h
   ·have m1 : 4294967296 * v ≤ (q - 1) * v := Int.mul_le_mul_of_nonneg_right h (Int.le_of_lt hv0)
    have m2 : a * 4294967296 ≤ v * 4294967296 := Int.mul_le_mul_of_nonneg_right hal (by decide)
    omega
  have d2 : decide ((4294967296 : Int) ≤ r + v) = true := decide_eq_true h2
  have d3 : decide (q - 1 < (4294967296 : Int)) = true := decide_eq_true h3
  go_wp2_with fail
  go_meet
  exact ⟨q - 1, rfl, ⟨by omega, h3⟩, hlt2, HE.out.drewN _⟩
 ·have d2 : decide ((4294967296 : Int) ≤ r + v) = false := decide_eq_false h2
  go_wp2_with fail
  go_roundw
  case rel => exact ⟨q - 1, r + v, rfl, rfl, hT1, by omega, by omega, by omega, by omega, hlt2, (HE.out.drewN _ : Ext _ _)⟩
  case measure => simp [intOf]; omega) : p := h
theorem and32 (T : Int) (h0 : 0 ≤ T) (h1 : T < 18446744073709551616) : bits .and .u64 T 4294967295 = T % 4294967296 := by
 obtain ⟨n, rfl⟩ := Int.eq_ofNat_of_zero_le h0
 rw [show (4294967295 : Int) = ((2 ^ 32 - 1 : Nat) : Int) from rfl, u64_and_nat _ _ (by omega) (by decide), Nat.and_two_pow_sub_one_eq_mod]
 rfl
def DgJ (M Y : List Int) (q : Int) (w : World) (g n cap n1 : Nat) (A C : List Int) (bv : Value) (wx : World) : Prop := ∃ (t : Int) (R : List Int), bv = .int .i64 t ∧ 0 ≤ t ∧ t ≤ 1 ∧ R.length = n1 + 3 ∧ Lb R ∧ val R - BB ^ (n1 + 3) * t = val M - q * val Y ∧ O32 wx 0 g n cap (A ++ (R ++ C)) ∧ w.grownBy wx (some g)
def DgK (M Y : List Int) (q : Int) (w : World) (g n cap n1 : Nat) (A C : List Int) (bv cv iv : Value) (wr : World) : Prop := ∃ (j : Nat) (t z : Int) (ps : List Int), j ≤ n1 + 3 ∧ bv = .int .i64 t ∧ cv = .int .u64 z ∧ iv = .int .i64 j ∧ 0 ≤ t ∧ t ≤ 1 ∧ U32 z ∧ (j = n1 + 3 → z = 0) ∧ ps.length = j ∧ Lb ps ∧ val ps - BB ^ j * (t + z) = val (M.take j) - q * val (Y.take j) ∧ Hid (O32 wr 0 g n cap (A ++ (ps ++ (M.drop j ++ C)))) ∧ Hid (w.grownBy wr (some g))
def DgL (M Y : List Int) (w : World) (g n cap n1 : Nat) (A C : List Int) (qv bv : Value) (wr : World) : Prop := ∃ (q t : Int) (R : List Int), qv = .int .u64 q ∧ U32 q ∧ bv = .int .i64 t ∧ 0 ≤ t ∧ t ≤ 1 ∧ R.length = n1 + 3 ∧ Lb R ∧ val R - BB ^ (n1 + 3) * t = val M - q * val Y ∧ val M < (q + 1) * val Y ∧ Hid (O32 wr 0 g n cap (A ++ (R ++ C))) ∧ Hid (w.grownBy wr (some g))
def DgN (R Y : List Int) (w : World) (g n cap n1 : Nat) (A C : List Int) (cv iv : Value) (wr : World) : Prop := ∃ (j : Nat) (z : Int) (ps : List Int), j ≤ n1 + 3 ∧ cv = .int .u64 z ∧ iv = .int .i64 j ∧ 0 ≤ z ∧ z ≤ 1 ∧ ps.length = j ∧ Lb ps ∧ val ps + BB ^ j * z = val (R.take j) + val (Y.take j) ∧ Hid (O32 wr 0 g n cap (A ++ (ps ++ (R.drop j ++ C)))) ∧ Hid (w.grownBy wr (some g))
def DgI (M Y : List Int) (v T : Int) (w : World) (qv rv : Value) (wr : World) : Prop := ∃ q r : Int, qv = .int .u64 q ∧ rv = .int .u64 r ∧ q * v + r = T ∧ 0 ≤ q ∧ q ≤ T ∧ 0 ≤ r ∧ r < 4294967296 ∧ val M < (q + 1) * val Y ∧ Hid (Ext w wr)
theorem r_digit (g o n cap cu n1 : Nat) (U Y : List Int) (vb : Value) (w : World) (hYl : Y.length = n1 + 2) (hU : O32 w 0 g n cap U) (hon : o + (n1 + 2 + 1) ≤ n) (hcu : n1 + 2 + 1 ≤ cu ∧ cu ≤ 9223372036854775807) (hb : Lim w vb Y) (hoff : Off vb g) (hUb : Lb U) (hY : n1 ≤ 49990)
    (h0 : Y.getD (n1 + 1) 0 ≠ 0) (hlt : val ((U.drop o).take (n1 + 2 + 1)) < BB * val Y) :
    Calls Tryz.prog 205 #[.slice (some ⟨g, o, none⟩) (n1 + 2 + 1) cu, vb] w fun e w' => ∃ d R, e = .returned (.int .u32 d) ∧ U32 d ∧ O32 w' 0 g n cap (U.take o ++ (R ++ U.drop (o + (n1 + 2 + 1)))) ∧ R.length = n1 + 2 + 1 ∧ Lb R ∧ val R = val ((U.drop o).take (n1 + 2 + 1)) - d * val Y ∧ val R < val Y ∧ w.grownBy w' (some g) := by
 have lY := hb.lb
 have hUl := hU.len
 have hM := hU.mid (o := o) (m := n1 + 2 + 1) hUb hon hcu (by omega)
 have hrow := row_mid (U := U) (o := o) (m := n1 + 2 + 1)
 obtain ⟨M, eM⟩ : ∃ M, (U.drop o).take (n1 + 2 + 1) = M := ⟨_, rfl⟩
 have hMl : M.length = n1 + 3 := by rw [← eM]; simp; omega
 have lM := hM.lb
 have ea : M.getD (n1 + 2) 0 = U.getD (o + (n1 + 2)) 0 := by rw [← eM]; exact mid_get (by omega)
 have eb : M.getD (n1 + 1) 0 = U.getD (o + (n1 + 1)) 0 := by rw [← eM]; exact mid_get (by omega)
 have ec : M.getD n1 0 = U.getD (o + n1) 0 := by rw [← eM]; exact mid_get (by omega)
 have ca := hU.cell (k := o + (n1 + 2)) (by omega)
 have cb := hU.cell (k := o + (n1 + 1)) (by omega)
 have cc := hU.cell (k := o + n1) (by omega)
 rw [← ea] at ca
 rw [← eb] at cb
 rw [← ec] at cc
 rw [eM] at hM lM hlt hrow ⊢
 have ga : U32 (M.getD (n1 + 2) 0) := lM.getD _
 have gb : U32 (M.getD (n1 + 1) 0) := lM.getD _
 have gc : U32 (M.getD n1 0) := lM.getD _
 have gv : U32 (Y.getD (n1 + 1) 0) := lY.getD _
 have gv2 : U32 (Y.getD n1 0) := lY.getD _
 obtain ⟨bo, b2, o2, cap2, rfl, y1, y2, y3, y4, y5, y6⟩ := hb.view
 have eB := y1 (by omega)
 subst eB
 have hb2 := y4 (by omega)
 have hgp := hU.parts
 have cv := y5 (n1 + 1) (by omega)
 have cv2 := y5 n1 (by omega)
 have hal := top_le (n := n1 + 1) (by omega) hYl lM lY rfl rfl hlt
 have hgs := guess_ok2 (n := n1 + 1) (by omega) hYl lM lY rfl rfl rfl (show 0 < Y.getD (n1 + 1) 0 by unfold U32 at gv; omega)
 have hgl := fun q r (h1 : q * Y.getD (n1 + 1) 0 + r = M.getD (n1 + 2) 0 * 4294967296 + M.getD (n1 + 1) 0) => guess_less (n := n1) (q := q) (r := r) hMl hYl lM lY rfl rfl rfl rfl rfl h1
 obtain ⟨A, hA⟩ : ∃ A, U.take o = A := ⟨_, rfl⟩
 obtain ⟨C, hC⟩ : ∃ C, U.drop (o + (n1 + 2 + 1)) = C := ⟨_, rfl⟩
 have hAl : A.length = o := by rw [← hA, List.length_take]; omega
 rw [hA, hC] at hrow ⊢
 generalize M.getD (n1 + 2) 0 = a at *
 generalize M.getD (n1 + 1) 0 = b at *
 generalize M.getD n1 0 = c at *
 obtain ⟨v, ev⟩ : ∃ v, Y.getD (n1 + 1) 0 = v := ⟨_, rfl⟩
 obtain ⟨v', ev'⟩ : ∃ v', Y.getD n1 0 = v' := ⟨_, rfl⟩
 rw [ev] at gv cv hal hgs hgl h0
 rw [ev'] at gv2 cv2 hgl
 rw [hYl] at hb hoff
 have cvAll : Hid (∀ i, i < Y.length → w.cell? ⟨b2, o2 + i, none⟩ = some (.int .u32 (Y.getD i 0))) := y5
 have hne : b2 ≠ g := hoff _ _ _ rfl
 clear y1 y5 y4 ea eb ec eM hA hC
 rw [hYl]
 have hge : w.grownBy w (some g) := World.grownBy.refl _ _
 have hEw : Ext w w := Ext.refl w
 obtain ⟨T, eT⟩ : ∃ T, a * 4294967296 + b = T := ⟨_, rfl⟩
 rw [eT] at hgs hgl
 have T0 : 0 ≤ T := by unfold U32 at ga gb; omega
 have T1 : T < 18446744073709551616 := by unfold U32 at ga gb; omega
 have hv0 : 0 < v := by unfold U32 at gv; omega
 have hTq0 : 0 ≤ T / v := Int.ediv_nonneg T0 (by omega)
 have hTr0 := Int.emod_nonneg T h0
 have hTr1 := Int.emod_lt_of_pos T hv0
 have hTd := Int.emod_add_mul_ediv T v
 have hTq1 : T / v ≤ T := Int.ediv_le_self v T0
 have hw1 : IntKind.u64.wrap (T.tdiv v) = T / v := by rw [Int.tdiv_eq_ediv_of_nonneg T0]; exact u64_small hTq0 (by omega)
 have hw2 : T.tmod v = T % v := Int.tmod_eq_emod_of_nonneg T0
 have hw3 : IntKind.u64.wrap (T % v) = T % v := u64_small hTr0 (by unfold U32 at gv; omega)
 have hw4 : IntKind.u64.wrap v = v := u64_small (by omega) (by unfold U32 at gv; omega)
 have ga0 := ga
 have gb0 := gb
 unfold U32 at ga0 gb0
 go_enter Tryz.func205, Tryz.ntmps205
 go_wp2_with fail
 go_quiet (fail)
 go_wp2_with fail
 go_quiet (fail)
 go_upto_block 0 with fail
 go_cut [7, 8] from 45 to 86 (fun s7 s8 wx => ∃ q : Int, s7 = .int .u64 q ∧ U32 q ∧ val M < (q + 1) * val Y ∧ Ext w wx)
 case first =>
  go_wp2_with fail
  have hTs : T / v * v + T % v = T := by rw [Int.mul_comm]; omega
  go_loopw [7, 8] (fun qv rv wr => DgI M Y v T w qv rv wr) (fun qv _ _ => (intOf qv).toNat)
  case atStart => exact ⟨T / v, T % v, rfl, rfl, hTs, hTq0, hTq1, hTr0, by unfold U32 at gv; omega, hgs, ((hEw.drewN _).drewN _ : Ext _ _)⟩
  case round =>
   obtain ⟨q, r, rfl, rfl, hqr, q0, qT, r0, r1, hqM, HE⟩ := hrel
   have hEwr := HE.out
   have ca2 := (hEwr.cells.1 _ (o + n1) hgp.1).trans cc
   have cb2 := (hEwr.cells.1 _ (o2 + n1) hb2).trans cv2
   have cb3 := (hEwr.cells.1 _ (o2 + (n1 + 1)) hb2).trans cv
   by_cases hbig : 4294967296 ≤ q
   ·have hcb : decide ((4294967296 : Int) ≤ q) = true := decide_eq_true hbig
    have hlt1 : val M < q * val Y := by
     have m1 : BB * val Y ≤ q * val Y := Int.mul_le_mul_of_nonneg_right hbig (val_nonneg lY)
     omega
    exact T_DG_1
   ·have hcb : decide ((4294967296 : Int) ≤ q) = false := decide_eq_false hbig
    have hcr : decide (r < (4294967296 : Int)) = true := decide_eq_true r1
    have hqU : U32 q := ⟨q0, by omega⟩
    have hpq := prod_lim hqU gv2
    have hwq : IntKind.u64.wrap (q * v') = q * v' := u64_small hpq.1 hpq.2
    have gc0 := gc
    have gv20 := gv2
    unfold U32 at gc0 gv20
    have hwr : IntKind.u64.wrap (r * 4294967296) = r * 4294967296 := u64_small (by omega) (by omega)
    have hwr2 : IntKind.u64.wrap (r * 4294967296 + c) = r * 4294967296 + c := u64_small (by omega) (by omega)
    have hwc : IntKind.u64.wrap c = c := u64_small (by omega) (by omega)
    have hwv : IntKind.u64.wrap v' = v' := u64_small (by omega) (by omega)
    by_cases h4 : r * 4294967296 + c < q * v'
    ·have hc4 : decide (r * 4294967296 + c < q * v') = true := decide_eq_true h4
     have hlt1 : val M < q * val Y := hgl q r hqr q0 h4
     have hq1 : 1 ≤ q := by
      rcases Int.lt_or_le 0 q with h | h
      ·omega
      ·have : q = 0 := by omega
       subst this; simp only [Int.zero_mul] at h4; omega
     exact T_DG_1
    ·have hc4 : decide (r * 4294967296 + c < q * v') = false := decide_eq_false h4
     go_wp2_with fail
     go_quiet (fail)
     go_wp2_with fail
     go_meet
     exact ⟨q, rfl, hqU, hqM, HE.out.drewN _⟩
 case rest =>
  obtain ⟨q, rfl, hq, hqM, hEc⟩ := hcut
  clear hw1 hw2 hw3 hgs hgl hTd hTq1 hTr0 hTr1 hTq0 hal
  have hgc := grown_ext hge hEc
  have hU1 := hU.ext hEc
  rw [← hrow] at hU1
  go_upto_block 2 with fail
  go_cut [9, 10, 11, 12] from 87 to 125 (fun s9 s10 s11 s12 wx => DgJ M Y q w g n cap n1 A C s9 wx)
  case first =>
   go_wp2_with fail
   go_loopw [9, 10, 11] (fun bv cv iv wr => DgK M Y q w g n cap n1 A C bv cv iv wr) (fun _ _ i _ => n1 + 3 - (intOf i).toNat)
   case atStart => exact ⟨0, 0, 0, [], Nat.zero_le _, rfl, rfl, rfl, by decide, by decide, ⟨by decide, by decide⟩, fun _ => rfl, rfl, Lb.nil, by simp [val], hU1, hgc⟩
   case round =>
    obtain ⟨j, t, z, ps, hj, rfl, rfl, rfl, t0, t1, hz, hz0, hpl, hpb, hv, HR, HE⟩ := hrel
    have hz2 := hz
    unfold U32 at hz2
    rcases Nat.eq_or_lt_of_le hj with rfl | hj2
    ·have hzz := hz0 rfl
     subst hzz
     have hres : DgJ M Y q w g n cap n1 A C (.int .i64 t) wr := by
      refine ⟨t, ps, rfl, t0, t1, hpl, hpb, ?_, ?_, HE.out⟩
      ·rw [List.take_of_length_le (l := M) (by omega), List.take_of_length_le (l := Y) (by omega), Int.add_zero] at hv; exact hv
      ·have hdn : M.drop (n1 + 3) = [] := List.drop_eq_nil_of_le (by omega)
       have := HR.out; rw [hdn, List.nil_append] at this; exact this
     replace hres : Hid _ := hres
     clear hv HR
     go_wp2_with fail
     go_meet
     exact hres.out
    ·have hcu0 := HR.out.cell (k := o + j) (by omega)
     rw [row3_get hAl hpl (by omega)] at hcu0
     have hfu := HR.out.frozen (o + j)
     have hgl := HR.out.parts
     have huU : U32 (M.getD j 0) := lM.getD j
     obtain ⟨u, eu⟩ : ∃ u, M.getD j 0 = u := ⟨_, rfl⟩
     rw [eu] at hcu0 huU
     have hyU : U32 (Y.getD j 0) := lY.getD j
     obtain ⟨y, ey⟩ : ∃ y, Y.getD j 0 = y := ⟨_, rfl⟩
     rw [ey] at hyU
     have hst := sub_step hv hpl eu ey
     obtain ⟨l1, l2, l3, l4, l5, l6⟩ := sub_lim hq hyU hz ⟨t0, t1⟩ huU
     have l7 := prod_lim hq hyU
     have hset := HR.out.set (o + j) ((u - (z + q * y) % 4294967296 - t) % 4294967296)
     rw [row3_set hAl hpl (by omega)] at hset
     have hes := grown_set (k := o + j) HE.out (.int .u32 ((u - (z + q * y) % 4294967296 - t) % 4294967296))
     have hwq : IntKind.u64.wrap q = q := u64_small hq.1 (by unfold U32 at hq; omega)
     have hwy : IntKind.u64.wrap y = y := u64_small hyU.1 (by unfold U32 at hyU; omega)
     have hwqy : IntKind.u64.wrap (q * y) = q * y := u64_small l7.1 l7.2
     have hwz : IntKind.u64.wrap (z + q * y) = z + q * y := u64_small l1 l2
     have hand := and32 (z + q * y) l1 l2
     have hlast : j + 1 = n1 + 3 → (z + q * y) / 4294967296 = 0 := fun h => by
      have : y = 0 := by rw [← ey, List.getD_eq_getElem?_getD, List.getElem?_eq_none (by omega)]; rfl
      subst this; rw [Int.mul_zero, Int.add_zero]; exact Int.ediv_eq_zero_of_lt hz2.1 hz2.2
     obtain ⟨l, el⟩ : ∃ l, (z + q * y) % 4294967296 = l := ⟨_, rfl⟩
     obtain ⟨h, eh⟩ : ∃ h, (z + q * y) / 4294967296 = h := ⟨_, rfl⟩
     rw [el] at hst l3 l5 l6 hset hes hand
     rw [eh] at hst l4 hlast
     have l30 := l3
     have hu0 := huU
     unfold U32 at l30 hu0
     obtain ⟨D, eD⟩ : ∃ D, u - l - t = D := ⟨_, rfl⟩
     rw [eD] at hst l5 l6 hset hes
     obtain ⟨S1, eS⟩ : ∃ S1, z + q * y = S1 := ⟨_, rfl⟩
     rw [eS] at el eh hand hwz
     have hrelN : ∀ wz : World, Hid (O32 wz 0 g n cap (A ++ ((ps ++ [D % 4294967296]) ++ (M.drop (j + 1) ++ C)))) → Hid (w.grownBy wz (some g)) → DgK M Y q w g n cap n1 A C (.int .i64 (-(D / 4294967296))) (.int .u64 h) (.int .i64 ((j : Int) + 1)) wz := fun wz k1 k2 =>
      ⟨j + 1, _, h, ps ++ [D % 4294967296], hj2, rfl, rfl, by go_num, l5, l6, l4, hlast, by simp [hpl], hpb.snoc (U32.mod _), hst, k1, k2⟩
     replace hset : Hid _ := hset
     replace hes : Hid _ := hes
     replace hrelN : Hid _ := hrelN
     have hD0 : -4294967296 ≤ D ∧ D < 4294967296 := by omega
     clear hst hv eu
     by_cases hjn : j < n1 + 2
     ·have hcb := (World.cell?_of_block (a := ⟨b2, o2 + j, none⟩) (HE.out.block b2 hb2 (by simpa using hne))).trans (cvAll.out j (by omega))
      rw [ey] at hcb
      clear ey
      rcases Int.lt_or_le D 0 with hD | hD
      ·exact T_DG_3
      ·exact T_DG_4
     ·have hy0 : y = 0 := by rw [← ey, List.getD_eq_getElem?_getD, List.getElem?_eq_none (by omega)]; rfl
      have hj3 : j = n1 + 2 := by omega
      subst hj3
      have hSz : S1 = z := by rw [← eS, hy0, Int.mul_zero, Int.add_zero]
      rw [hSz] at el eh hand hwz
      have hh0 : h = 0 := hlast rfl
      subst hh0
      clear ey eS
      rcases Int.lt_or_le D 0 with hD | hD
      ·exact T_DG_3
      ·exact T_DG_4
  case rest =>
   obtain ⟨t, R, rfl, t0, t1, hRl, lR, hv, hO, hG⟩ := hcut
   clear hU1 hgc
   go_wp2_with fail
   go_loopw [7, 9] (fun qv bv wr => DgL M Y w g n cap n1 A C qv bv wr) (fun qv _ _ => (intOf qv).toNat)
   case atStart => exact ⟨q, t, R, rfl, hq, rfl, t0, t1, hRl, lR, hv, hqM, hO, hG⟩
   case round =>
    clear hv hO hG hqM hRl lR
    obtain ⟨p, t, R, rfl, hp, rfl, t0, t1, hRl, lR, hv, hpM, HO, HG⟩ := hrel
    have hp2 := hp
    unfold U32 at hp2
    have hRlt := val_lt lR
    rw [hRl] at hRlt
    rcases (show t = 0 ∨ t = 1 by omega) with rfl | rfl
    ·have hvR : val R = val M - p * val Y := by rw [Int.mul_zero, Int.sub_zero] at hv; exact hv
     have hvl : val R < val Y := by rw [hvR]; rw [Int.add_mul, Int.one_mul] at hpM; omega
     have hpm : p % 4294967296 = p := Int.emod_eq_of_lt hp2.1 hp2.2
     replace hvR : Hid _ := hvR
     replace hvl : Hid _ := hvl
     clear hv hpM hRlt
     go_wp2_with fail
     go_ret
     exact ⟨p, R, rfl, hp, HO.out, hRl, lR, hvR.out, hvl.out, HG.out⟩
    ·have hneg : val M < p * val Y := by rw [Int.mul_one] at hv; omega
     have hM0 := val_nonneg lM
     have hp1 : 1 ≤ p := by
      rcases Int.lt_or_le 0 p with h | h
      ·omega
      ·have : p = 0 := by omega
       subst this; simp only [Int.zero_mul] at hneg; omega
     have hpw : IntKind.u64.wrap (p - 1) = p - 1 := u64_small (by omega) (by omega)
     have hp3 : U32 (p - 1) := ⟨by omega, by have := hp.2; omega⟩
     have hneg2 : val M < (p - 1 + 1) * val Y := by rw [Int.sub_add_cancel]; exact hneg
     have hfinish : Hid (∀ (c : Int) (ps : List Int) (wz : World), 0 ≤ c → c ≤ 1 → ps.length = n1 + 3 → Lb ps → val ps + BB ^ (n1 + 3) * c = val (R.take (n1 + 3)) + val (Y.take (n1 + 3)) → O32 wz 0 g n cap (A ++ (ps ++ C)) → w.grownBy wz (some g) → DgL M Y w g n cap n1 A C (.int .u64 (p - 1)) (.int .i64 (1 - c)) wz) := fun c ps wz c0 c1 k1 k2 k3 k4 k5 => by
      refine ⟨p - 1, 1 - c, ps, rfl, hp3, rfl, by omega, by omega, k1, k2, ?_, hneg2, k4, k5⟩
      rw [List.take_of_length_le (l := R) (by omega), List.take_of_length_le (l := Y) (by omega)] at k3
      rw [Int.mul_one] at hv
      rw [Int.mul_sub, Int.mul_one, Int.sub_mul, Int.one_mul]
      omega
     clear hneg hneg2 hv hpM hRlt
     have hR0 : A ++ ([] ++ (R.drop 0 ++ C)) = A ++ (R ++ C) := by simp
     have HO1 := HO.out
     rw [← hR0] at HO1
     go_wp2_with fail
     go_loopw [10, 13] (fun cv iv wr2 => DgN R Y w g n cap n1 A C cv iv wr2) (fun _ i _ => n1 + 3 - (intOf i).toNat)
     case atStart => exact ⟨0, 0, [], Nat.zero_le _, rfl, rfl, by decide, by decide, rfl, Lb.nil, by simp [val], HO1, HG⟩
     case round =>
      obtain ⟨j, z, ps, hj, rfl, rfl, z0, z1, hpl, hpb, hvv, HR, HE⟩ := hrel
      rcases Nat.eq_or_lt_of_le hj with rfl | hj2
      ·have hdn : R.drop (n1 + 3) = [] := List.drop_eq_nil_of_le (by omega)
       have HR2 := HR.out
       rw [hdn, List.nil_append] at HR2
       have hres : Hid _ := hfinish.out z ps wr z0 z1 hpl hpb hvv HR2 HE.out
       clear hvv HR2 hfinish
       go_wp2_with fail
       go_roundw
       case rel => exact hres.out
       case measure => simp [intOf]; omega
      ·have hcu0 := HR.out.cell (k := o + j) (by omega)
       rw [row3_get hAl hpl (by omega)] at hcu0
       have hfu := HR.out.frozen (o + j)
       have hgl := HR.out.parts
       have huU : U32 (R.getD j 0) := lR.getD j
       obtain ⟨u, eu⟩ : ∃ u, R.getD j 0 = u := ⟨_, rfl⟩
       rw [eu] at hcu0 huU
       have hyU : U32 (Y.getD j 0) := lY.getD j
       obtain ⟨y, ey⟩ : ∃ y, Y.getD j 0 = y := ⟨_, rfl⟩
       rw [ey] at hyU
       have hst := back_step hvv hpl eu ey
       have hset := HR.out.set (o + j) ((z + u + y) % 4294967296)
       rw [row3_set hAl hpl (by omega)] at hset
       have hes := grown_set (k := o + j) HE.out (.int .u32 ((z + u + y) % 4294967296))
       unfold U32 at huU hyU
       have hnx : 0 ≤ (z + u + y) / 4294967296 ∧ (z + u + y) / 4294967296 ≤ 1 := by omega
       have hrelN : ∀ wz : World, Hid (O32 wz 0 g n cap (A ++ ((ps ++ [(z + u + y) % 4294967296]) ++ (R.drop (j + 1) ++ C)))) → Hid (w.grownBy wz (some g)) → DgN R Y w g n cap n1 A C (.int .u64 ((z + u + y) / 4294967296)) (.int .i64 ((j : Int) + 1)) wz := fun wz k1 k2 =>
        ⟨j + 1, _, ps ++ [(z + u + y) % 4294967296], hj2, rfl, by go_num, hnx.1, hnx.2, by simp [hpl], hpb.snoc (U32.mod _), hst, k1, k2⟩
       replace hset : Hid _ := hset
       replace hes : Hid _ := hes
       replace hrelN : Hid _ := hrelN
       have hww1 : IntKind.u64.wrap (z + u) = z + u := u64_small (by omega) (by omega)
       have hww2 : IntKind.u64.wrap (z + u + y) = z + u + y := u64_small (by omega) (by omega)
       have hww3 : IntKind.u64.wrap u = u := u64_small (by omega) (by omega)
       have hww4 : IntKind.u64.wrap y = y := u64_small (by omega) (by omega)
       clear hst hvv eu
       by_cases hjn : j < n1 + 2
       ·have hcb := (World.cell?_of_block (a := ⟨b2, o2 + j, none⟩) (HE.out.block b2 hb2 (by simpa using hne))).trans (cvAll.out j (by omega))
        rw [ey] at hcb
        clear ey
        exact T_DG_2
       ·have hy0 : y = 0 := by rw [← ey, List.getD_eq_getElem?_getD, List.getElem?_eq_none (by omega)]; rfl
        have hj3 : j = n1 + 2 := by omega
        subst hj3
        subst hy0
        simp only [Int.add_zero] at hset hes hrelN hww2
        clear ey
        exact T_DG_2
end Go.Proofs.YtogblocakccbgaaGreat
namespace Go.Proofs.YtogblocakccbgaaGreat
open Go.RowKit
theorem back_limb {r r' : Int} {s : Nat} (hs : s < 32) (h0 : 0 ≤ r) (h1 : r < 4294967296) (k0 : 0 ≤ r') :
    ((r + r' * 4294967296) / 2 ^ s % 4294967296) * 2 ^ s = r - r % 2 ^ s + 4294967296 * (r' % 2 ^ s) := by
 have e : (4294967296 : Int) = 2 ^ (32 - s) * 2 ^ s := by
  rw [← Int.pow_add, show 32 - s + s = 32 from by omega]; rfl
 have hS : (0 : Int) < 2 ^ s := Int.pow_pos (by decide)
 have hH : (0 : Int) < 2 ^ (32 - s) := Int.pow_pos (by decide)
 rw [e] at h1 ⊢
 generalize (2 : Int) ^ s = S at *
 generalize (2 : Int) ^ (32 - s) = H at *
 have q1 := Int.emod_add_mul_ediv r S
 have q2 := Int.emod_add_mul_ediv r' S
 have r0 := Int.emod_nonneg r' (show S ≠ 0 by omega)
 have r1 := Int.emod_lt_of_pos r' hS
 have a0 : 0 ≤ r / S := Int.ediv_nonneg h0 (Int.le_of_lt hS)
 have a1 : r / S < H := Int.ediv_lt_of_lt_mul hS h1
 have e1 : (r + r' * (H * S)) / S = r / S + r' * H := by
  rw [show r' * (H * S) = (r' * H) * S from by rw [Int.mul_assoc], Int.add_mul_ediv_right _ _ (by omega)]
 have e2 : (r / S + r' * H) % (H * S) = r / S + (r' % S) * H := by
  have e3 : r / S + r' * H = (r / S + (r' % S) * H) + (H * S) * (r' / S) := by
   have : r' * H = (r' % S + S * (r' / S)) * H := by rw [q2]
   rw [this]; grind
  rw [e3, Int.add_mul_emod_self_left]
  refine Int.emod_eq_of_lt ?_ ?_
  ·have := Int.mul_nonneg r0 (Int.le_of_lt hH); omega
  ·have h2 : (r' % S + 1) * H ≤ S * H := Int.mul_le_mul_of_nonneg_right (by omega) (Int.le_of_lt hH)
   have h3 : (r' % S + 1) * H = (r' % S) * H + H := by rw [Int.add_mul, Int.one_mul]
   have h4 : S * H = H * S := Int.mul_comm ..
   omega
 rw [e1, e2]
 have e5 : (r / S + r' % S * H) * S = S * (r / S) + H * S * (r' % S) := by grind
 rw [e5]; omega
theorem val_take_all {U : List Int} {k : Nat} (lU : Lb U) (hk : k ≤ U.length) (h : val U < BB ^ k) : val (U.take k) = val U := by
 have e : val U = val (U.take k) + BB ^ k * val (U.drop k) := by
  have h2 := val_append (U.take k) (U.drop k)
  rw [List.take_append_drop, List.length_take, Nat.min_eq_left hk] at h2
  exact h2
 have p0 := val_nonneg (lU.take k)
 have p2 := val_nonneg (lU.drop k)
 have hn0 : (0 : Int) < BB ^ k := Int.pow_pos (by decide)
 generalize val (U.drop k) = Z at *
 generalize BB ^ k = C at *
 rcases Int.lt_or_le 0 Z with hz | hz
 ·have : C * 1 ≤ C * Z := Int.mul_le_mul_of_nonneg_left (by omega) (Int.le_of_lt hn0)
  omega
 ·have hz0 : Z = 0 := by omega
  subst hz0; omega
theorem back_round {R ps : List Int} {i s : Nat} {r r' : Int} (hs : s < 32) (lR : Lb R) (hl : ps.length = i) (hr : R.getD i 0 = r) (hr' : R.getD (i + 1) 0 = r')
    (h : val ps * 2 ^ s = val (R.take i) - R.getD 0 0 % 2 ^ s + (r % 2 ^ s) * BB ^ i) :
    val (ps ++ [(r + r' * 4294967296) / 2 ^ s % 4294967296]) * 2 ^ s = val (R.take (i + 1)) - R.getD 0 0 % 2 ^ s + (r' % 2 ^ s) * BB ^ (i + 1) := by
 have b := back_limb hs (r := r) (r' := r') (by rw [← hr]; exact (lR.getD _).1) (by rw [← hr]; exact (lR.getD _).2) (by rw [← hr']; exact (lR.getD _).1)
 rw [val_append, hl, val_take_succ', hr, Int.pow_succ]
 simp only [val]
 have h4 : BB = 4294967296 := rfl
 generalize hC : BB ^ i = C at *
 rw [h4]
 generalize (r + r' * 4294967296) / 2 ^ s % 4294967296 = x at *
 generalize (2 : Int) ^ s = S at *
 generalize r % S = m at *
 generalize r' % S = m' at *
 have e1 : (val ps + C * (x + 4294967296 * 0)) * S = val ps * S + C * (x * S) := by grind
 rw [e1, b, h]
 grind
theorem r_short (va : Value) (X : List Int) (d : Int) (w : World) (ha : Lim w va X) (hd : 0 < d) (hd2 : d < 4294967296) (hx : X.length ≤ 100000) :
    Calls Tryz.prog 204 #[va, .int .u32 d] w fun e w' => ∃ u v qs r, e = .returned (.tuple #[u, v]) ∧ Lim w' u (trimL qs) ∧ Lim w' v (trimL [r]) ∧ val qs * d + r = val X ∧ 0 ≤ r ∧ r < d ∧ Ext w w' := by
 obtain ⟨aoA, bA, oA, cA, rfl, a1, a2, a3, a4, a5, a6⟩ := ha.view
 have lX := ha.lb
 obtain ⟨i0, hi, hz0, hz1, hz2⟩ := info_parts info81
 go_enter Tryz.func204, Tryz.ntmps204
 go_wp2_with (at_make; refine wpList_make_full _ rfl _ _ 22 rfl w.heap.size 25 i0 (.int .u32 0) 1 Tryz.underlying22 hi hz0 hz1 .i64 .i64 _ _ X.length rfl rfl (by omega) (by omega) c_11 c_4 (Nat.le_refl _) ?_; intro w0 hown0 hgrow0)
 have hR0 : R32 w0 w.heap.size w.heap.size X.length (List.replicate X.length 0) := R32.made hown0
 have hE0 : Ext w w0 := Ext.grown (Ext.refl w) hgrow0
 clear hown0 hgrow0
 go_loopw [7, 8] (fun rv j wr => ∃ m : Nat, m ≤ X.length ∧ rv = .int .u64 (stA X d (upto (dn X.length) m)).2 ∧ j = .int .i64 ((X.length : Int) - m - 1) ∧ Hid (R32 wr w.heap.size w.heap.size X.length (stA X d (upto (dn X.length) m)).1) ∧ Hid (Ext w wr)) (fun _ j _ => (intOf j + 1).toNat)
 case atStart => exact ⟨0, Nat.zero_le _, rfl, by go_num, hR0, hE0⟩
 case round =>
  obtain ⟨m, hm, rfl, rfl, HR, HE⟩ := hrel
  obtain ⟨k1, k2, k3, k4⟩ := stA_ok lX hd (upto (dn X.length) m)
  rcases Nat.eq_or_lt_of_le hm with rfl | hlt
  ·have hv := short_all lX hd (ys := upto (dn X.length) X.length) rfl
   generalize stA X d (upto (dn X.length) X.length) = st at *
   obtain ⟨qs, r⟩ := st
   dsimp only at k2 k3 k4 hv HR ⊢
   have hrU : U32 r := ⟨k3, by omega⟩
   have hL := HR.out.lim k2 (by omega)
   have hr32 : r % 4294967296 = r := Int.emod_eq_of_lt k3 (by omega)
   rw [show (X.length : Int) - (X.length : Int) - 1 = -1 from by omega]
   go_wp2_with (first
    | (go_at_call 117; (with_reducible refine (r_trim _ qs _ (hL.ext (Ext.refl _))).mono ?_); rintro e w1 ⟨u1, rfl, hu1, hb1⟩)
    | (go_at_call 117; (with_reducible refine (r_trim _ [r] _ (lim_one w1 r hrU)).mono ?_); rintro e w2 ⟨u2, rfl, hu2, hb2⟩))
   go_ret2
   have hbb := ((Ext.refl w1).alloc (.cells #[.int .u32 r] 25)).trans hb2
   exact ⟨_, _, qs, r, rfl, hu1.ext hbb, hu2, hv, k3, k4, HE.out.trans (hb1.trans hbb)⟩
  ·obtain ⟨j, hj⟩ : ∃ j, X.length = m + 1 + j := ⟨X.length - (m + 1), by omega⟩
   have ej : (X.length : Int) - m - 1 = j := by omega
   have hsn := stA_snoc X d (upto (dn X.length) m) (dn X.length m)
   have hdn : (dn X.length m).1 = j := by show X.length - 1 - m = j; omega
   rw [← upto_succ] at hsn
   have eA := a1 (by omega)
   subst eA
   have hca := (HE.out.cells.1 _ (oA + j) (a4 (by omega))).trans (a5 j (by omega))
   have hxk : U32 (X.getD j 0) := lX.getD j
   have hg := HR.out.cell (k := j) (by omega)
   have hgf := HR.out.frozen j
   have hglt := HR.out.lt
   obtain ⟨z, ez⟩ : ∃ z, X.getD j 0 = z := ⟨_, rfl⟩
   obtain ⟨r, er⟩ : ∃ r, (stA X d (upto (dn X.length) m)).2 = r := ⟨_, rfl⟩
   obtain ⟨o, eo⟩ : ∃ o, (stA X d (upto (dn X.length) m)).1.getD j 0 = o := ⟨_, rfl⟩
   have hst := HR.out.set j ((r * 4294967296 + z) / d)
   have hes : Ext w (wr.setCell ⟨w.heap.size, j, none⟩ (.int .u32 ((r * 4294967296 + z) / d))) := HE.out.setCell (p := ⟨w.heap.size, j, none⟩) (Nat.le_refl _) _
   unfold stp at hsn
   rw [hdn, ez, er] at hsn
   have hnew : Hid ((stA X d (upto (dn X.length) (m + 1))) = ((stA X d (upto (dn X.length) m)).1.set j ((r * 4294967296 + z) / d), (r * 4294967296 + z) % d)) := hsn
   rw [ez] at hca hxk
   rw [er] at k3 k4 ⊢
   rw [eo] at hg
   rw [ej]
   unfold U32 at hxk
   obtain ⟨q0, q1⟩ := div_small (x := r * 4294967296 + z) (d := d) (by omega) hd (by omega)
   have r0 := Int.emod_nonneg (r * 4294967296 + z) (show d ≠ 0 by omega)
   have r1 := Int.emod_lt_of_pos (r * 4294967296 + z) hd
   have hd3 : IntKind.u64.wrap d = d := u64_small (by omega) (by omega)
   have hd4 : d ≠ 0 := by omega
   have hw1 : IntKind.u64.wrap ((r * 4294967296 + z).tdiv d) % 4294967296 = (r * 4294967296 + z) / d := by
    rw [Int.tdiv_eq_ediv_of_nonneg (by omega), u64_small q0 (by omega)]; exact Int.emod_eq_of_lt q0 q1
   have hw2 : (r * 4294967296 + z).tmod d = (r * 4294967296 + z) % d := Int.tmod_eq_emod_of_nonneg (by omega)
   have hw3 : IntKind.u64.wrap ((r * 4294967296 + z) % d) = (r * 4294967296 + z) % d := u64_small r0 (by omega)
   replace hst : Hid _ := hst
   replace hes : Hid _ := hes
   clear hsn er eo ez
   go_wp2_with fail
   go_roundw
   case rel => exact ⟨m + 1, by omega, by rw [hnew.out], by go_num, (by rw [hnew.out]; exact hst.out : R32 _ _ _ _ _), hes⟩
   case measure => simp [intOf]
theorem T_RC_1 {p : Prop} (h : p := by
 rw [hv]
 clear hv
 go_enter Tryz.func128, Tryz.ntmps128
 go_wp2_with fail
 go_ret
 exact ⟨rfl, Ext.refl w⟩) : p := h
theorem ext_from {X Y : List Int} (hl : X.length = Y.length) (h : ∀ j, 0 ≤ j → j < X.length → X.getD j 0 = Y.getD j 0) : X = Y := ext_getD hl fun j hj => h j (Nat.zero_le _) hj
theorem r_compare (va vb : Value) (X Y : List Int) (w : World) (ha : Lim w va X) (hb : Lim w vb Y) (hX : Nz X) (hY : Nz Y) :
    Calls Tryz.prog 128 #[va, vb] w fun e w' => e = .returned (.int .i64 (cmpI (val X) (val Y))) ∧ Ext w w' := by
 have lX := ha.lb
 have lY := hb.lb
 obtain ⟨aoA, bA, oA, cA, rfl, a1, a2, a3, a4, a5, a6⟩ := ha.view
 obtain ⟨aoB, bB, oB, cB, rfl, b1, b2, b3, b4, b5, b6⟩ := hb.view
 by_cases hl : X.length = Y.length
 rotate_left
 ·rcases Nat.lt_or_ge X.length Y.length with h | h
  ·have hv : cmpI (val X) (val Y) = -1 := cmp_lt (val_lt_of_len lX lY hY h)
   exact T_RC_1
  ·have hv : cmpI (val X) (val Y) = 1 := cmp_gt (val_lt_of_len lY lX hX (by omega))
   exact T_RC_1
 ·have HL : Hid (X.length = Y.length) := hl
  generalize hcv : cmpI (val X) (val Y) = cv
  have HV : Hid (cmpI (val X) (val Y) = cv) := hcv
  clear hcv
  rw [hl] at a1 a4 a5 a6 ha ⊢
  clear hl a2 b2
  generalize hN : Y.length = N at *
  have HN : Hid (Y.length = N) := hN
  clear hN
  have hXY : Hid (X.length = Y.length) := HL.out.trans HN.out.symm
  go_enter Tryz.func128, Tryz.ntmps128
  go_wp2_with fail
  go_loopw [5] (fun i wr => ∃ m : Nat, m ≤ N ∧ i = .int .i64 ((m : Int) - 1) ∧ Hid (∀ j, m ≤ j → j < N → X.getD j 0 = Y.getD j 0) ∧ Hid (Ext w wr)) (fun i _ => (intOf i + 1).toNat)
  case atStart => exact ⟨N, Nat.le_refl _, rfl, fun j h1 h2 => absurd h2 (by omega), Ext.refl w⟩
  case round =>
   obtain ⟨m, hm, hi, hall, HE⟩ := hrel
   have hE := HE.out
   cases m with
   | zero =>
    have hi2 : _ = Value.int .i64 (-1) := hi
    clear hi
    subst hi2
    have hv : Hid (cv = 0) := HV.out.symm.trans (cmp_eq (by rw [ext_from hXY.out (fun j h1 h2 => hall.out j h1 (by have := HL.out; omega))]))
    clear a5 b5
    go_wp2_with fail
    go_ret
    exact ⟨by rw [hv.out]; rfl, hE⟩
   | succ m =>
    have hi2 : _ = Value.int .i64 (m : Int) := hi.trans (by congr 1; omega)
    clear hi
    subst hi2
    have eA := a1 (by omega)
    have eB := b1 (by omega)
    subst eA
    subst eB
    have hca := (hE.cells.1 _ (oA + m) (a4 (by omega))).trans (a5 m (by omega))
    have hcb := (hE.cells.1 _ (oB + m) (b4 (by omega))).trans (b5 m (by omega))
    have hXm : m < X.length := by have := HN.out; have := HL.out; omega
    have htop : ∀ j, m < j → j < X.length → X.getD j 0 = Y.getD j 0 := fun j h1 h2 => hall.out j (by omega) (by have := HN.out; have := HL.out; omega)
    have hlt := fun h => HV.out.symm.trans (cmp_lt (top_lt hXY.out hXm lX lY h htop))
    have hgt := fun h => HV.out.symm.trans (cmp_gt (top_lt hXY.out.symm (by have := hXY.out; omega) lY lX h (fun j h1 h2 => (htop j h1 (by have := hXY.out; omega)).symm)))
    have hnx : X.getD m 0 = Y.getD m 0 → ∀ j, m ≤ j → j < N → X.getD j 0 = Y.getD j 0 := fun h j h1 h2 => by
     rcases Nat.eq_or_lt_of_le h1 with e | e
     ·rw [← e]; exact h
     ·exact hall.out j (by omega) h2
    obtain ⟨x, ex⟩ : ∃ x, X.getD m 0 = x := ⟨_, rfl⟩
    obtain ⟨y, ey⟩ : ∃ y, Y.getD m 0 = y := ⟨_, rfl⟩
    rw [ex] at hca hlt hgt hnx
    rw [ey] at hcb hlt hgt hnx
    replace hnx : Hid _ := hnx
    clear a5 b5 htop ex ey
    rcases Int.lt_trichotomy x y with h | h | h
    ·have hv : Hid (cv = -1) := hlt h
     clear hlt hgt
     go_wp2_with fail
     go_quiet (fail)
     go_wp2_with fail
     go_ret
     exact ⟨by rw [hv.out]; rfl, ex_⟩
    ·subst h
     clear hlt hgt
     go_wp2_with fail
     go_quiet (fail)
     go_wp2_with fail
     go_quiet (fail)
     go_wp2_with fail
     go_roundw
     case rel => exact ⟨m, by omega, rfl, hnx.out (by first | rfl | trivial), (ex_ : Ext _ _)⟩
     case measure => first | (simp [intOf]; done) | (simp [intOf]; omega)
    ·have hv : Hid (cv = 1) := hgt h
     clear hlt hgt
     go_wp2_with fail
     go_quiet (fail)
     go_wp2_with fail
     go_quiet (fail)
     go_wp2_with fail
     go_ret
     exact ⟨by rw [hv.out]; rfl, ex_⟩
end Go.Proofs.YtogblocakccbgaaGreat
