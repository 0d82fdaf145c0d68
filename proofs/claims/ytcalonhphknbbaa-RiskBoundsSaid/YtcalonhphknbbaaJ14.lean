/- Limbs divided: one limb of the quotient. -/
import Derived.Test.YtcalonhphknbbaaJ13
import Derived.Test.YtcalonhphknbbaaJ02
import Derived.Deep.QuietTactic
import Derived.BigQuiet
set_option linter.unusedSimpArgs false
set_option linter.unusedVariables false
namespace Go.Proofs.Ytcalonhphknbbaa
open Go.RowKit

/-- The guess is not too small. -/
theorem guess_ok {M Y : List Int} {n : Nat} {a b v : Int} (hM : M.length = n + 2) (hY : Y.length = n + 1) (lM : Lb M) (lY : Lb Y) (ha : M.getD (n + 1) 0 = a) (hb : M.getD n 0 = b) (hv : Y.getD n 0 = v) (h : a < v) :
    val M < ((a * 4294967296 + b) / v + 1) * val Y := by
  have e1 : val M = val (M.take n) + BB ^ n * b + BB ^ n * (BB * a) := by
    have h2 := val_take_succ' M (n + 1)
    rw [List.take_of_length_le (by omega), val_take_succ', ha, hb, Int.pow_succ] at h2
    rw [h2]; grind
  have e2 : val Y = val (Y.take n) + BB ^ n * v := by
    have h2 := val_take_succ' Y n
    rw [List.take_of_length_le (by omega), hv] at h2
    exact h2
  have l1 := val_lt (lM.take n)
  rw [List.length_take, Nat.min_eq_left (by omega)] at l1
  have l2 := val_nonneg (lY.take n)
  have a0 : 0 ≤ a := by rw [← ha]; exact (lM.getD _).1
  have b0 : 0 ≤ b := by rw [← hb]; exact (lM.getD _).1
  have hq := Int.lt_ediv_add_one_mul_self (a * 4294967296 + b) (show 0 < v by omega)
  have hq0 : 0 ≤ (a * 4294967296 + b) / v := Int.ediv_nonneg (by omega) (by omega)
  generalize (a * 4294967296 + b) / v = q at *
  rw [e1, e2]
  have hP : (0 : Int) ≤ BB ^ n := Int.pow_nonneg (by decide)
  generalize val (M.take n) = P at *
  generalize val (Y.take n) = R at *
  have m1 : BB ^ n * (a * 4294967296 + b + 1) ≤ BB ^ n * ((q + 1) * v) := Int.mul_le_mul_of_nonneg_left (by omega) hP
  have m2 : 0 ≤ (q + 1) * R := Int.mul_nonneg (by omega) l2
  have h4 : BB = 4294967296 := rfl
  generalize hC : BB ^ n = C at *
  rw [h4]
  have m3 : C * (a * 4294967296 + b + 1) = C * b + C * (4294967296 * a) + C := by grind
  have m4 : (q + 1) * (R + C * v) = (q + 1) * R + C * ((q + 1) * v) := by grind
  omega
theorem mid_get {U : List Int} {o n i : Nat} (h : i < n) : ((U.drop o).take n).getD i 0 = U.getD (o + i) 0 := by
  rw [take_getD h, List.getD_eq_getElem?_getD, List.getElem?_drop, ← List.getD_eq_getElem?_getD]
/-- A part of a row, as limbs. -/
theorem O32.mid {w : World} {g n cap cu o m : Nat} {U : List Int} (h : O32 w 0 g n cap U) (hU : Lb U) (hm : o + m ≤ n) (hc : m ≤ cu ∧ cu ≤ 9223372036854775807) (hn : m ≤ 1099511627776) : Lim w (.slice (some ⟨g, o, none⟩) m cu) ((U.drop o).take m) := by
  have hl := h.len
  have hlen : ((U.drop o).take m).length = m := by simp; omega
  refine ⟨(show Lb ((U.drop o).take m) from fun y hy => hU y (List.mem_of_mem_drop (List.mem_of_mem_take hy))), Or.inr ⟨g, o, cu, by rw [hlen], by omega, ⟨hc.2, by omega⟩, h.parts.1, fun i hi => ?_⟩⟩
  rw [hlen] at hi
  rw [mid_get hi]
  exact h.cell (by omega)
theorem w_subtract_n (n : Nat) {Y : List Int} (hn : Y.length = n) (g cap : Nat) (U Y' : List Int) (q : Int) (vb : Value) (w : World) (hU : O32 w 0 g (n + 1) cap U) (hb : Lim w vb Y) (ho : Off vb g) (hUb : Lb U) (hq : U32 q) (hY : n ≤ 100000) :
    Calls Try.prog 94 #[.slice (some ⟨g, 0, none⟩) (n + 1) cap, vb, .int .u32 q] w fun e w' => ∃ U', e = .returned (.bool (decide (q * val Y ≤ val U))) ∧ O32 w' 0 g (n + 1) cap U' ∧ Lb U' ∧ (q * val Y ≤ val U → val U' = val U - q * val Y) ∧ w.grownBy w' (some g) := by
  subst hn; exact w_subtract g cap U Y q vb w hU hb ho hUb hq hY
theorem w_CloneO_n (n : Nat) {X : List Int} (hn : X.length = n) (va : Value) (X' : List Int) (w : World) (ha : Lim w va X) (hx : n ≤ 100000) (h0 : 0 < n) :
    Calls Try.prog 79 #[va] w fun e w' => ∃ g cap, e = .returned (.slice (some ⟨g, 0, none⟩) n cap) ∧ O32 w' w.heap.size g n cap X ∧ Ext w w' := by
  subst hn; exact w_CloneO va X w ha hx h0
theorem grown_in {a b c : World} {g g2 : Nat} (h : Ext a b) (k : b.grownBy c (some g2)) (hg : a.heap.size ≤ g2) : a.grownBy c (some g) :=
  ⟨k.os.trans h.os, k.tape.trans h.tape, k.output.trans h.output, Nat.le_trans h.size k.size, fun i hi _ => (k.block i (Nat.lt_of_lt_of_le hi h.size) (fun e => by cases e; omega)).trans (h.block i hi)⟩
theorem ext_in {a b c : World} {g2 : Nat} (h : Ext a b) (k : b.grownBy c (some g2)) (hg : a.heap.size ≤ g2) : Ext a c :=
  ⟨k.os.trans h.os, k.tape.trans h.tape, k.output.trans h.output, Nat.le_trans h.size k.size, fun i hi => (k.block i (Nat.lt_of_lt_of_le hi h.size) (fun e => by cases e; omega)).trans (h.block i hi)⟩
theorem grown_then {a b c : World} {g : Nat} (h : a.grownBy b (some g)) (k : b.grownBy c (some g)) : a.grownBy c (some g) :=
  ⟨k.os.trans h.os, k.tape.trans h.tape, k.output.trans h.output, Nat.le_trans h.size k.size, fun i hi hne => (k.block i (Nat.lt_of_lt_of_le hi h.size) hne).trans (h.block i hi hne)⟩
set_option maxRecDepth 100000 in
set_option maxHeartbeats 4000000 in
theorem w_step (g o n cap cu : Nat) (U Y : List Int) (vb : Value) (w : World) (hU : O32 w 0 g n cap U) (hon : o + (Y.length + 1) ≤ n) (hcu : Y.length + 1 ≤ cu ∧ cu ≤ 9223372036854775807) (hb : Lim w vb Y) (hoff : Off vb g) (hUb : Lb U) (h1 : 1 ≤ Y.length) (hY : Y.length ≤ 50000)
    (hlt : val ((U.drop o).take (Y.length + 1)) < BB * val Y) :
    Calls Try.prog 88 #[.slice (some ⟨g, o, none⟩) (Y.length + 1) cu, vb] w fun e w' => ∃ d R, e = .returned (.int .u32 d) ∧ U32 d ∧ O32 w' 0 g n cap (U.take o ++ (R ++ U.drop (o + (Y.length + 1)))) ∧ R.length = Y.length + 1 ∧ Lb R ∧ val R = val ((U.drop o).take (Y.length + 1)) - d * val Y ∧ val R < val Y ∧ w.grownBy w' (some g) := by
  have lY := hb.lb
  have hUl := hU.len
  have hM := hU.mid (o := o) (m := Y.length + 1) hUb hon hcu (by omega)
  obtain ⟨M, eM⟩ : ∃ M, (U.drop o).take (Y.length + 1) = M := ⟨_, rfl⟩
  have hMl : M.length = Y.length + 1 := by rw [← eM]; simp; omega
  obtain ⟨n1, hn1⟩ : ∃ n1, Y.length = n1 + 1 := ⟨Y.length - 1, by omega⟩
  have lM := hM.lb
  have ea : M.getD (n1 + 1) 0 = U.getD (o + (n1 + 1)) 0 := by rw [← eM]; exact mid_get (by omega)
  have eb : M.getD n1 0 = U.getD (o + n1) 0 := by rw [← eM]; exact mid_get (by omega)
  have ca := hU.cell (k := o + (n1 + 1)) (by omega)
  have cb := hU.cell (k := o + n1) (by omega)
  rw [← ea] at ca
  rw [← eb] at cb
  rw [eM] at hM lM hlt ⊢
  have ga : U32 (M.getD (n1 + 1) 0) := lM.getD _
  have gb : U32 (M.getD n1 0) := lM.getD _
  have gv : U32 (Y.getD n1 0) := lY.getD _
  obtain ⟨bo, b2, o2, cap2, rfl, y1, y2, y3, y4, y5, y6⟩ := hb.view
  have eB := y1 (by omega)
  subst eB
  have cv := y5 n1 (by omega)
  have hb2 := y4 (by omega)
  have hgp := hU.parts
  have hgs := fun h => guess_ok (n := n1) (by omega) hn1 lM lY rfl rfl rfl h
  generalize M.getD (n1 + 1) 0 = x at *
  generalize M.getD n1 0 = y at *
  generalize Y.getD n1 0 = v at *
  rw [hn1] at hon hcu hMl hM hb hY ⊢
  clear y1 y5 y4 ea eb
  have hge : w.grownBy w (some g) := World.grownBy.refl _ _
  go_enter Try.func88, Try.ntmps88
  go_wp2_with fail
  have hEw : Ext w w := Ext.refl w
  by_cases hxv : x < v
  · have hgs2 := hgs hxv
    have q0 : 0 ≤ x * 4294967296 + y := by unfold U32 at ga gb; omega
    have q1 : x * 4294967296 + y < v * 4294967296 := by unfold U32 at ga gb; omega
    obtain ⟨r0, r1⟩ := div_small q0 (show 0 < v by unfold U32 at ga; omega) q1
    go_quiet (fail)
    go_wp2_with fail
    go_quiet ((go_at_call 92; refine (w_div32 x y v _ ga.1 hxv gb gv.2).mono ?_; rintro _ _ ⟨rfl, m, rfl⟩; exact ⟨rfl, _, by rw [World.drewN_drewN, Nat.add_assoc]⟩))
    go_wp2_with fail
    have hG0 : U32 ((x * 4294967296 + y) / v) := ⟨r0, r1⟩
    have hG1 := hgs2
    go_loopw [6] (fun gv wr => ∃ (G : Int), gv = .int .u32 G ∧ U32 G ∧ val M < (G + 1) * val Y ∧ Hid (Ext w wr)) (fun gv _ => (intOf gv).toNat)
    case atStart => exact ⟨_, rfl, hG0, hG1, (((Ext.refl w).drewN _).drewN _ : Ext _ _)⟩
    case round =>
      obtain ⟨G, rfl, hG, hgl, HE⟩ := hrel
      have hcl := w_CloneO_n (n1 + 1 + 1) hMl _ M wr (hM.ext HE.out) (by omega) (by omega)
      have hGw := hG
      by_cases hle : G * val Y ≤ val M
      · have hdt : decide (G * val Y ≤ val M) = true := decide_eq_true hle
        go_wp2_with (first
          | (go_at_call 79; (with_reducible refine hcl.mono ?_); rintro e w1 ⟨g2, c2, rfl, hO1, hb1⟩; have p1 := hO1.parts; have hsz1 := hb1.size; have hsz0 := HE.out.size)
          | (go_at_call 94; (with_reducible refine (w_subtract_n (n1 + 1) hn1 g2 c2 M Y G _ _ (hO1.base (Nat.zero_le _)) (hb.ext (HE.out.trans hb1)) (Off.mk (by omega)) lM hG (by omega)).mono ?_); rintro e w2 ⟨R, rfl, hO2, lR, hRv, hgr2⟩; rw [hdt]; have hU2 := (hU.ext (HE.out.trans hb1)).grownAt hgr2 (by omega))
          | ((with_reducible refine at_copy ?_); refine wpList_copy32 rfl _ _ rfl 0 g o n cap cu (n1 + 1 + 1) c2 ⟨g2, 0, none⟩ U R rfl rfl hU2 hO2.len (fun j hj => by rw [show (⟨g2, 0, none⟩ : Addr).add j = ⟨g2, j, none⟩ from by rw [Addr.add_lit, Nat.zero_add]]; exact hO2.cell hj) (by omega) ?_; intro w3 hO3 hgr3))
        have hgl2 : val R < val Y := by
          rw [hRv hle]
          have e : (G + 1) * val Y = G * val Y + val Y := by rw [Int.add_mul, Int.one_mul]
          omega
        have hgf : w.grownBy w3 (some g) := grown_then (grown_in (HE.out.trans hb1) hgr2 (by omega)) hgr3
        have hR3 := hO2.len
        go_ret
        exact ⟨G, R, rfl, hG, hO3, hR3, lR, hRv hle, hgl2, hgf⟩
      · have hdt : decide (G * val Y ≤ val M) = false := decide_eq_false hle
        have hm0 := val_nonneg lM
        have hG1 : 1 ≤ G := by
          rcases Int.lt_or_le 0 G with h | h
          · omega
          · have : G = 0 := by have := hG.1; omega
            subst this; simp only [Int.zero_mul] at hle; omega
        have hnx : val M < (G - 1 + 1) * val Y := by rw [Int.sub_add_cancel]; omega
        have hGm : U32 (G - 1) := ⟨by omega, by have := hG.2; omega⟩
        unfold U32 at hGw
        go_wp2_with (first
          | (go_at_call 79; (with_reducible refine hcl.mono ?_); rintro e w1 ⟨g2, c2, rfl, hO1, hb1⟩; have p1 := hO1.parts; have hsz1 := hb1.size; have hsz0 := HE.out.size)
          | (go_at_call 94; (with_reducible refine (w_subtract_n (n1 + 1) hn1 g2 c2 M Y G _ _ (hO1.base (Nat.zero_le _)) (hb.ext (HE.out.trans hb1)) (Off.mk (by omega)) lM hG (by omega)).mono ?_); rintro e w2 ⟨R, rfl, hO2, lR, hRv, hgr2⟩; rw [hdt]))
        have hE2 : Hid (Ext w w2) := (ext_in (HE.out.trans hb1) hgr2 (by omega) : Ext w w2)
        go_roundw
        case rel => exact ⟨G - 1, by go_num, hGm, hnx, hE2⟩
        case measure => simp [intOf]; omega
  · go_quiet (fail)
    go_wp2_with fail
    have hG0 : U32 4294967295 := ⟨by decide, by decide⟩
    have hG1 : val M < (4294967295 + 1) * val Y := hlt
    go_loopw [6] (fun gv wr => ∃ (G : Int), gv = .int .u32 G ∧ U32 G ∧ val M < (G + 1) * val Y ∧ Hid (Ext w wr)) (fun gv _ => (intOf gv).toNat)
    case atStart => exact ⟨_, rfl, hG0, hG1, ((Ext.refl w).drewN _ : Ext _ _)⟩
    case round =>
      obtain ⟨G, rfl, hG, hgl, HE⟩ := hrel
      have hcl := w_CloneO_n (n1 + 1 + 1) hMl _ M wr (hM.ext HE.out) (by omega) (by omega)
      have hGw := hG
      by_cases hle : G * val Y ≤ val M
      · have hdt : decide (G * val Y ≤ val M) = true := decide_eq_true hle
        go_wp2_with (first
          | (go_at_call 79; (with_reducible refine hcl.mono ?_); rintro e w1 ⟨g2, c2, rfl, hO1, hb1⟩; have p1 := hO1.parts; have hsz1 := hb1.size; have hsz0 := HE.out.size)
          | (go_at_call 94; (with_reducible refine (w_subtract_n (n1 + 1) hn1 g2 c2 M Y G _ _ (hO1.base (Nat.zero_le _)) (hb.ext (HE.out.trans hb1)) (Off.mk (by omega)) lM hG (by omega)).mono ?_); rintro e w2 ⟨R, rfl, hO2, lR, hRv, hgr2⟩; rw [hdt]; have hU2 := (hU.ext (HE.out.trans hb1)).grownAt hgr2 (by omega))
          | ((with_reducible refine at_copy ?_); refine wpList_copy32 rfl _ _ rfl 0 g o n cap cu (n1 + 1 + 1) c2 ⟨g2, 0, none⟩ U R rfl rfl hU2 hO2.len (fun j hj => by rw [show (⟨g2, 0, none⟩ : Addr).add j = ⟨g2, j, none⟩ from by rw [Addr.add_lit, Nat.zero_add]]; exact hO2.cell hj) (by omega) ?_; intro w3 hO3 hgr3))
        have hgl2 : val R < val Y := by
          rw [hRv hle]
          have e : (G + 1) * val Y = G * val Y + val Y := by rw [Int.add_mul, Int.one_mul]
          omega
        have hgf : w.grownBy w3 (some g) := grown_then (grown_in (HE.out.trans hb1) hgr2 (by omega)) hgr3
        have hR3 := hO2.len
        go_ret
        exact ⟨G, R, rfl, hG, hO3, hR3, lR, hRv hle, hgl2, hgf⟩
      · have hdt : decide (G * val Y ≤ val M) = false := decide_eq_false hle
        have hm0 := val_nonneg lM
        have hG1 : 1 ≤ G := by
          rcases Int.lt_or_le 0 G with h | h
          · omega
          · have : G = 0 := by have := hG.1; omega
            subst this; simp only [Int.zero_mul] at hle; omega
        have hnx : val M < (G - 1 + 1) * val Y := by rw [Int.sub_add_cancel]; omega
        have hGm : U32 (G - 1) := ⟨by omega, by have := hG.2; omega⟩
        unfold U32 at hGw
        go_wp2_with (first
          | (go_at_call 79; (with_reducible refine hcl.mono ?_); rintro e w1 ⟨g2, c2, rfl, hO1, hb1⟩; have p1 := hO1.parts; have hsz1 := hb1.size; have hsz0 := HE.out.size)
          | (go_at_call 94; (with_reducible refine (w_subtract_n (n1 + 1) hn1 g2 c2 M Y G _ _ (hO1.base (Nat.zero_le _)) (hb.ext (HE.out.trans hb1)) (Off.mk (by omega)) lM hG (by omega)).mono ?_); rintro e w2 ⟨R, rfl, hO2, lR, hRv, hgr2⟩; rw [hdt]))
        have hE2 : Hid (Ext w w2) := (ext_in (HE.out.trans hb1) hgr2 (by omega) : Ext w w2)
        go_roundw
        case rel => exact ⟨G - 1, by go_num, hGm, hnx, hE2⟩
        case measure => simp [intOf]; omega
end Go.Proofs.Ytcalonhphknbbaa

/- The long division of limbs: what a round does. -/
namespace Go.Proofs.Ytcalonhphknbbaa
open Go.RowKit

theorem val_mid {U : List Int} {j m : Nat} (h : j + m ≤ U.length) : val U = val (U.take j) + BB ^ j * (val ((U.drop j).take m) + BB ^ m * val (U.drop (j + m))) := by
  have e : U = U.take j ++ ((U.drop j).take m ++ U.drop (j + m)) := by
    rw [← List.drop_drop, List.take_append_drop, List.take_append_drop]
  have l1 : (U.take j).length = j := by rw [List.length_take]; omega
  have l2 : ((U.drop j).take m).length = m := by rw [List.length_take, List.length_drop]; omega
  conv => lhs; rw [e]
  rw [val_append, val_append, l1, l2]
theorem Lb.drop {a : List Int} (h : Lb a) (n : Nat) : Lb (a.drop n) := fun y hy => h y (List.mem_of_mem_drop hy)
theorem div_pre {U V : List Int} {j n : Nat} (lU : Lb U) (lV : Lb V) (hn : V.length = n) (hj : j + (n + 1) ≤ U.length) (h : val U < BB ^ (j + 1) * val V) : val ((U.drop j).take (n + 1)) < BB * val V ∧ val (U.drop (j + (n + 1))) = 0 := by
  have e := val_mid hj
  have p0 := val_nonneg (lU.take j)
  have p1 := val_nonneg ((lU.drop j).take (n + 1))
  have p2 := val_nonneg (lU.drop (j + (n + 1)))
  have q := val_lt lV
  rw [hn] at q
  have hj0 : (0 : Int) < BB ^ j := Int.pow_pos (by decide)
  have hn0 : (0 : Int) < BB ^ (n + 1) := Int.pow_pos (by decide)
  rw [Int.pow_succ] at h
  generalize val (U.take j) = A at *
  generalize val ((U.drop j).take (n + 1)) = M at *
  generalize val (U.drop (j + (n + 1))) = Z at *
  generalize val V = v at *
  have hlt : M + BB ^ (n + 1) * Z < BB * v := by
    have : BB ^ j * (M + BB ^ (n + 1) * Z) < BB ^ j * (BB * v) := by
      have e2 : BB ^ j * BB * v = BB ^ j * (BB * v) := Int.mul_assoc ..
      omega
    exact Int.lt_of_mul_lt_mul_left this (Int.le_of_lt hj0)
  have hZ : 0 ≤ BB ^ (n + 1) * Z := Int.mul_nonneg (Int.le_of_lt hn0) p2
  refine ⟨by omega, ?_⟩
  have hbv : BB * v < BB ^ (n + 1) := by
    rw [Int.pow_succ, Int.mul_comm]
    exact Int.mul_lt_mul_of_pos_right q (by decide)
  rcases Int.lt_or_le 0 Z with hz | hz
  · have : BB ^ (n + 1) * 1 ≤ BB ^ (n + 1) * Z := Int.mul_le_mul_of_nonneg_left (by omega) (Int.le_of_lt hn0)
    omega
  · omega
theorem div_post {U V R : List Int} {j n : Nat} {d : Int} (lU : Lb U) (lR : Lb R) (hR : R.length = n + 1) (hj : j + (n + 1) ≤ U.length) (h0 : val (U.drop (j + (n + 1))) = 0)
    (hv : val R = val ((U.drop j).take (n + 1)) - d * val V) (hlt : val R < val V) :
    val (U.take j ++ (R ++ U.drop (j + (n + 1)))) = val U - BB ^ j * (d * val V) ∧ val (U.take j ++ (R ++ U.drop (j + (n + 1)))) < BB ^ j * val V := by
  have e := val_mid hj
  have l1 : (U.take j).length = j := by rw [List.length_take]; omega
  have p1 := val_lt (lU.take j)
  rw [l1] at p1
  rw [val_append, val_append, l1, hR, h0]
  rw [h0] at e
  have hj0 : (0 : Int) < BB ^ j := Int.pow_pos (by decide)
  generalize val (U.take j) = A at *
  generalize val ((U.drop j).take (n + 1)) = M at *
  generalize val V = v at *
  generalize val R = r at *
  generalize val U = u at *
  generalize BB ^ (n + 1) = N at *
  generalize BB ^ j = J at *
  have m1 : J * (r + 1) ≤ J * v := Int.mul_le_mul_of_nonneg_left (by omega) (Int.le_of_lt hj0)
  subst hv
  refine ⟨?_, ?_⟩
  · rw [e]; grind
  · have : J * (M - d * v + N * 0) = J * (M - d * v) := by grind
    have e3 : J * (M - d * v + 1) = J * (M - d * v) + J := by grind
    omega
theorem set_val {Q : List Int} {j : Nat} {d : Int} (hj : j < Q.length) (h0 : Q.getD j 0 = 0) : val (Q.set j d) = val Q + BB ^ j * d := by
  have e := val_split hj
  have hj2 : j < (Q.set j d).length := by rw [List.length_set]; exact hj
  have e2 := val_split hj2
  rw [e2, e, h0, List.take_set_of_le (Nat.le_refl _), List.drop_set_of_lt (by omega), List.getD_eq_getElem?_getD, List.getElem?_set_self hj]
  simp only [Option.getD_some]
  grind
theorem set_low {Q : List Int} {j i : Nat} {d : Int} (h : i < j) : (Q.set j d).getD i 0 = Q.getD i 0 := by
  rw [List.getD_eq_getElem?_getD, List.getElem?_set_ne (by omega), ← List.getD_eq_getElem?_getD]
theorem div_fin {t u q r S Q V Y X U0 : Int} (ht : t = u) (hr : q * S + r = t) (r0 : 0 ≤ r) (r1 : r < S) (hS : 0 < S) (h : u + Q * V = U0) (hV : V = Y * S) (hU : U0 = X * S) (hu : u < V) : Q * Y + q = X ∧ q < Y := by
  subst ht; subst hV; subst hU
  have e : (X - Q * Y - q) * S = r := by
    have e1 : (X - Q * Y - q) * S = X * S - Q * (Y * S) - q * S := by grind
    omega
  have hz : X - Q * Y - q = 0 := by
    rcases Int.lt_trichotomy (X - Q * Y - q) 0 with h1 | h1 | h1
    · have : (X - Q * Y - q) * S < 0 := Int.mul_neg_of_neg_of_pos h1 hS
      omega
    · exact h1
    · have : 1 * S ≤ (X - Q * Y - q) * S := Int.mul_le_mul_of_nonneg_right (by omega) (Int.le_of_lt hS)
      omega
  refine ⟨by omega, ?_⟩
  have : q * S < Y * S := by omega
  exact Int.lt_of_mul_lt_mul_right this (Int.le_of_lt hS)
theorem two_room {y : Int} {s : Nat} (hs : s < 32) (h : y * 2 ^ s < 4294967296) : y * 2 ^ s + 2 ^ s ≤ 4294967296 := by
  have e : (4294967296 : Int) = 2 ^ (32 - s) * 2 ^ s := by
    rw [← Int.pow_add, show 32 - s + s = 32 from by omega]; rfl
  have hp : (0 : Int) < 2 ^ s := Int.pow_pos (by decide)
  have h1 : y * 2 ^ s < 2 ^ (32 - s) * 2 ^ s := by rw [← e]; exact h
  have h2 : y < 2 ^ (32 - s) := Int.lt_of_mul_lt_mul_right h1 (Int.le_of_lt hp)
  have h3 : (y + 1) * 2 ^ s ≤ 2 ^ (32 - s) * 2 ^ s := Int.mul_le_mul_of_nonneg_right (by omega) (Int.le_of_lt hp)
  rw [← e, Int.add_mul, Int.one_mul] at h3
  exact h3
theorem room_alg {a y N S B : Int} (ha : a < N) (hS : 0 < S) (hN : 0 < N) (h : y * S + S ≤ B) : (a + N * y) * S < N * B := by
  have m1 : (a + 1) * S ≤ N * S := Int.mul_le_mul_of_nonneg_right (by omega) (Int.le_of_lt hS)
  have m2 : N * (y * S + S) ≤ N * B := Int.mul_le_mul_of_nonneg_left h (Int.le_of_lt hN)
  have e1 : (a + 1) * S = a * S + S := by rw [Int.add_mul, Int.one_mul]
  have e2 : N * (y * S + S) = N * y * S + N * S := by rw [Int.mul_add, Int.mul_assoc]
  have e3 : (a + N * y) * S = a * S + N * y * S := Int.add_mul ..
  omega
/-- The shifted divisor needs no limb more. -/
theorem top_fits {Y Z : List Int} {s n : Nat} (hs : s < 32) (hY : Y.length = n + 1) (lY : Lb Y) (lZ : Lb Z) (hZ : Z.length = n + 2) (hv : val Z = val Y * 2 ^ s) (ht : Y.getD n 0 * 2 ^ s < 4294967296) : val (Z.take (n + 1)) = val Y * 2 ^ s ∧ (Z.take (n + 1)).length = n + 1 := by
  have e := val_take_succ' Z (n + 1)
  rw [List.take_of_length_le (by omega)] at e
  have eY := val_take_succ' Y n
  rw [List.take_of_length_le (by omega)] at eY
  have p := val_lt (lY.take n)
  rw [List.length_take, Nat.min_eq_left (by omega)] at p
  have z0 : 0 ≤ Z.getD (n + 1) 0 := (lZ.getD (n + 1)).1
  have pz := val_nonneg (lZ.take (n + 1))
  have hp : (0 : Int) < 2 ^ s := Int.pow_pos (by decide)
  have hn0 : (0 : Int) < BB ^ n := Int.pow_pos (by decide)
  have hn1 : (0 : Int) < BB ^ (n + 1) := Int.pow_pos (by decide)
  have hb : val Y * 2 ^ s < BB ^ (n + 1) := by
    rw [eY, Int.pow_succ]
    exact room_alg p hp hn0 (two_room hs ht)
  rw [← hv] at hb
  refine ⟨?_, by rw [List.length_take]; omega⟩
  rw [← hv]
  generalize Z.getD (n + 1) 0 = z at *
  generalize val (Z.take (n + 1)) = A at *
  generalize val Z = T at *
  generalize BB ^ (n + 1) = N at *
  rcases Int.lt_or_le 0 z with h | h
  · have : N * 1 ≤ N * z := Int.mul_le_mul_of_nonneg_left (by omega) (Int.le_of_lt hn1)
    omega
  · have : z = 0 := by omega
    subst this
    omega
end Go.Proofs.Ytcalonhphknbbaa
