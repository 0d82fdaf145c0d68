/- The weights of a line. -/
import Derived.Test.YtcalonhphknbbaaJ29
import Derived.Test.YtcalonhphknbbaaJ12
import Derived.RegionTactic
set_option linter.unusedSimpArgs false
set_option linter.unusedVariables false
namespace Go.Proofs.Ytcalonhphknbbaa
open Go.RowKit

/-- Row of int64 numbers in block B. -/
def Ro (w wr : World) (B : Nat) (f : Nat → Nat) : Prop := (∀ m, m < 41 → wr.cell? ⟨B, m, none⟩ = some (.int .i64 (f m : Nat))) ∧ (∀ m, wr.frozen? ⟨B, m, none⟩ = false) ∧ Ext w wr ∧ w.heap.size ≤ B ∧ B < wr.heap.size
theorem Ro.step {w wr : World} {B k : Nat} {f f' : Nat → Nat} {x : Nat} (h : Ro w wr B f) (hk : k < 41) (he : ∀ m, f' m = if m = k then x else f m) : Ro w (wr.setCell ⟨B, k, none⟩ (.int .i64 (x : Nat))).drew B f' := by
  obtain ⟨h1, h2, h3, h4, h5⟩ := h
  refine ⟨fun m hm => ?_, fun m => ?_, (h3.setCell (p := ⟨B, k, none⟩) h4 _).drew, h4, by show _ < (wr.setCell _ _).heap.size; simpa using h5⟩
  · show (wr.setCell ⟨B, k, none⟩ (.int .i64 (x : Nat))).cell? ⟨B, m, none⟩ = _
    rw [cell_sc, he m]
    by_cases hm2 : m = k
    · subst hm2; rw [if_pos rfl, if_pos rfl, h1 m hm]; rfl
    · rw [if_neg hm2, if_neg (fun e => hm2 (by have := congrArg Addr.off e; simpa using this)), h1 m hm]
  · show (wr.setCell _ _).frozen? _ = _
    rw [World.frozen?_setCell]; exact h2 m
theorem pas_start (i m : Nat) (hi : 1 ≤ i) : pas i i m = bin (i - 1) m := by
  unfold pas; split
  · rename_i h; rw [bin_gt i m h, bin_gt (i - 1) m (by omega)]
  · rfl
theorem pas_end (i m : Nat) (hi : 1 ≤ i) : pas i 0 m = bin i m := by
  unfold pas; split
  · rfl
  · have : m = 0 := by omega
    subst this; rw [bin_zero, bin_zero]
theorem pas_step (i k m : Nat) (hi : 1 ≤ i) : pas i k m = if m = k + 1 then pas i (k + 1) (k + 1) + pas i (k + 1) k else pas i (k + 1) m := by
  unfold pas
  by_cases h : m = k + 1
  · subst h
    rw [if_pos rfl, if_pos (by omega), if_neg (by omega), if_neg (by omega)]
    obtain ⟨j, rfl⟩ : ∃ j, i = j + 1 := ⟨i - 1, by omega⟩
    rw [Nat.add_sub_cancel]
    show bin j k + bin j (k + 1) = _
    omega
  · rw [if_neg h]
    by_cases h2 : k < m
    · rw [if_pos h2, if_pos (by omega)]
    · rw [if_neg h2, if_neg (by omega)]
theorem pas_le (i k m : Nat) (hi : i ≤ 40) : pas i k m ≤ 1099511627776 := by
  have h2 : 2 ^ i ≤ 2 ^ 40 := Nat.pow_le_pow_right (by decide) hi
  have h3 : 2 ^ (i - 1) ≤ 2 ^ 40 := Nat.pow_le_pow_right (by decide) (by omega)
  unfold pas; split
  · have := bin_le i m; omega
  · have := bin_le (i - 1) m; omega
theorem slice41 (B n : Nat) (hn : n ≤ 20) (w : World) : (Instr.sliceAt 63 (.pointer (some ⟨B, 0, none⟩)) none (some (.int .i64 (2 * (n : Int) + 1))) none).run Try.prog w = .ok (.slice (some ⟨B, 0, none⟩) (2 * n + 1) 41) w := by
  have hal : Try.prog.arrayLen 63 = 41 := by kernel_rfl
  have hel : Try.prog.elem 63 = 2 := by kernel_rfl
  have hu : Try.prog.underlying 63 = some (.array (Try.prog.arrayLen 63) (Try.prog.elem 63)) := by kernel_rfl
  rw [run_sliceAt_array_h w 63 ⟨B, 0, none⟩ hu .i64 (2 * (n : Int) + 1) (by omega) (by rw [hal]; omega), hal, hel]
  have hs : (sizeOf 2).run Try.prog w = .ok 1 w := by kernel_rfl
  rw [hs]
  have e : (2 * (n : Int) + 1).toNat = 2 * n + 1 := by omega
  simp [slicedAt, Result.andThen, e, Addr.add_lit]
/-- What a fraction's cells are. -/
def fcells (e : Value × Value) : List Value := [.bool false, e.1, .bool false, e.2]
theorem fc_one (a b : Option Addr) (n c m d : Nat) : ∀ u ∈ fcells (.slice a n c, .slice b m d), u.oneCell' = true := by
  intro u hu; simp [fcells] at hu; rcases hu with rfl | rfl | rfl | rfl <;> rfl
theorem fc_no (a b : Option Addr) (n c m d : Nat) : ∀ u ∈ fcells (.slice a n c, .slice b m d), ∀ z, u ≠ .int .u32 z := by
  intro u hu z; simp [fcells] at hu; rcases hu with rfl | rfl | rfl | rfl <;> simp
/-- The first j weights of a line of 2n + 1 have been appended. -/
def Wo (wr : World) (B N n j : Nat) (es : List (Value × Value)) : Prop :=
  es.length = j ∧ wr.ownsRow B 27 4 (.slice (some ⟨B, 0, none⟩) j N) j (es.flatMap fcells) ∧ NoU wr B ∧ B < wr.heap.size ∧ ∀ i, i < j → ∃ e, es[i]? = some e ∧ Lim wr e.1 (dig (rn (bin (2 * n) i) (4 ^ n))) ∧ Lim wr e.2 (dig (rd (bin (2 * n) i) (4 ^ n)))
theorem Wo.ext {a w : World} {B N n j : Nat} {es : List (Value × Value)} (h : Wo a B N n j es) (k : Ext a w) : Wo w B N n j es := by
  obtain ⟨h1, h2, h3, h4, h5⟩ := h
  refine ⟨h1, own_ext27 h2 k, h3.ext h4 k, Nat.lt_of_lt_of_le h4 k.size, fun i hi => ?_⟩
  obtain ⟨e, e1, e2, e3⟩ := h5 i hi
  exact ⟨e, e1, e2.ext k, e3.ext k⟩
theorem flat_len (es : List (Value × Value)) : (es.flatMap fcells).length = es.length * 4 := by
  induction es with
  | nil => rfl
  | cons e es ih => rw [List.flatMap_cons, List.length_append, ih, List.length_cons]; show 4 + _ = _; omega
theorem flat_get : ∀ (es : List (Value × Value)) (i k : Nat) (e : Value × Value), es[i]? = some e → k < 4 → (es.flatMap fcells)[i * 4 + k]? = (fcells e)[k]?
  | [], i, k, e, h, _ => by simp at h
  | x :: es, 0, k, e, h, hk => by
    simp only [List.getElem?_cons_zero, Option.some.injEq] at h
    subst h
    rw [List.flatMap_cons, List.getElem?_append_left (show 0 * 4 + k < (fcells x).length from by show 0 * 4 + k < 4; omega), Nat.zero_mul, Nat.zero_add]
  | x :: es, i + 1, k, e, h, hk => by
    rw [List.getElem?_cons_succ] at h
    rw [List.flatMap_cons, List.getElem?_append_right (show (fcells x).length ≤ (i + 1) * 4 + k from by show 4 ≤ _; omega), show (i + 1) * 4 + k - (fcells x).length = i * 4 + k from by show (i + 1) * 4 + k - 4 = _; omega]
    exact flat_get es i k e h hk
/-- The fraction at place i. -/
theorem Wo.at {w : World} {B N n j : Nat} {es : List (Value × Value)} (h : Wo w B N n j es) {i : Nat} (hi : i < j) : ∃ u s, w.cell? ⟨B, i * 4, none⟩ = some (.bool false) ∧ w.cell? ⟨B, i * 4 + 1, none⟩ = some u ∧ w.cell? ⟨B, i * 4 + 2, none⟩ = some (.bool false) ∧ w.cell? ⟨B, i * 4 + 3, none⟩ = some s ∧ Lim w u (dig (rn (bin (2 * n) i) (4 ^ n))) ∧ Lim w s (dig (rd (bin (2 * n) i) (4 ^ n))) := by
  obtain ⟨h1, h2, h3, h4, h5⟩ := h
  obtain ⟨e, e1, e2, e3⟩ := h5 i hi
  have hl := flat_len es
  have g := fun k hk => flat_get es i k e e1 hk
  have hc : ∀ k, k < 4 → w.cell? ⟨B, i * 4 + k, none⟩ = (fcells e)[k]? := fun k hk => by
    rw [World.ownsRow.cellAt h2 (i * 4 + k) (by omega)]; exact g k hk
  exact ⟨e.1, e.2, hc 0 (by decide), hc 1 (by decide), hc 2 (by decide), hc 3 (by decide), e2, e3⟩
/-- The weights of a line. -/
def Wts (w : World) (v : Value) (n : Nat) : Prop := ∃ B es, v = .slice (some ⟨B, 0, none⟩) (2 * n + 1) (2 * n + 1) ∧ Wo w B (2 * n + 1) n (2 * n + 1) es
theorem Wts.ext {a w : World} {v : Value} {n : Nat} (h : Wts a v n) (k : Ext a w) : Wts w v n := by
  obtain ⟨B, es, e, h⟩ := h; exact ⟨B, es, e, h.ext k⟩
theorem wrap_pow (n : Nat) (hn : n ≤ 20) : wrap64 (2 ^ (2 * n)) = ((4 ^ n : Nat) : Int) := by
  have e : (2 : Int) ^ (2 * n) = ((4 ^ n : Nat) : Int) := by rw [Int.pow_mul, Int.natCast_pow]; rfl
  have h : 4 ^ n ≤ 1099511627776 := Nat.pow_le_pow_right (n := 4) (by decide) hn
  rw [e]
  simp only [wrap64]
  generalize 4 ^ n = D at h ⊢
  omega
def WoR (wo : World) (n : Nat) (ov iv : Value) (wx : World) : Prop := ∃ (j : Nat) (es : List (Value × Value)), j ≤ 2 * n + 1 ∧ ov = .slice (some ⟨wo.heap.size, 0, none⟩) j (2 * n + 1) ∧ iv = .int .i64 j ∧ Hid (Wo wx wo.heap.size (2 * n + 1) n j es) ∧ Hid (Ext wo wx)
set_option maxRecDepth 100000 in
set_option maxHeartbeats 4000000 in
theorem w_Weights (n : Nat) (w : World) (hn : n ≤ 20) :
    Calls Try.prog 14 #[.int .i64 n] w fun e w' => ∃ B es, e = .returned (.tuple #[.slice (some ⟨B, 0, none⟩) (2 * n + 1) (2 * n + 1), .int .i64 0]) ∧ Wo w' B (2 * n + 1) n (2 * n + 1) es ∧ w.heap.size < B ∧ Ext w w' := by
  go_enter Try.func14, Try.ntmps14
  go_upto_region 5 with fail
  refine wp_name fun W hW => ?_
  have hR0 : Ro w W w.heap.size (bin 0) := by
    refine ⟨fun m hm => ?_, fun m => ?_, Ext.same hW ((Ext.refl w).alloc _), Nat.le_refl _, by rw [hW.cells.2.2]; simp⟩
    · rw [hW.cells.1, cell_al, if_pos rfl]
      show (Value.int IntKind.i64 1 :: List.replicate 40 (Value.int IntKind.i64 0)).toArray[m]? = _
      cases m with
      | zero => rfl
      | succ m =>
        rw [List.getElem?_toArray, List.getElem?_cons_succ, List.getElem?_replicate, if_pos (by omega)]; rfl
    · rw [hW.cells.2.1]; simp [go_sem]
  clear hW
  go_wp2_with fail
  go_loopw [5] (fun iv wr => ∃ i : Nat, 1 ≤ i ∧ i ≤ 2 * n + 1 ∧ iv = .int .i64 i ∧ Hid (Ro w wr w.heap.size (bin (i - 1)))) (fun iv _ => 2 * n + 1 - (intOf iv).toNat)
  case atStart => exact ⟨1, Nat.le_refl _, by omega, rfl, hR0⟩
  case round =>
    obtain ⟨i, hi1, hi2, rfl, HR⟩ := hrel
    rcases Nat.eq_or_lt_of_le hi2 with rfl | hi3
    · rw [Nat.add_sub_cancel] at HR
      obtain ⟨wo, ewo⟩ : ∃ wo, wo = wr := ⟨_, rfl⟩
      subst ewo
      have hsl := slice41 w.heap.size n hn
      obtain ⟨i0, hi, hz0, hz1, hz2⟩ := info_parts info27
      have hwl : w.heap.size < wo.heap.size := HR.out.2.2.2.2
      have hcell : Hid (∀ m, m < 41 → wo.cell? ⟨w.heap.size, m, none⟩ = some (.int .i64 (bin (2 * n) m : Nat))) := HR.out.1
      have hEw := HR.out.2.2.1
      go_wp2_with (at_make; refine wpList_make_world _ rfl _ _ 42 rfl 27 i0 (.agg #[.bool false, .slice none 0 0, .bool false, .slice none 0 0]) Try.underlying42 hi hz0 .i64 .i64 _ _ 0 (2 * n + 1) rfl rfl rfl (by omega) (by omega) (by rw [hz2]; omega) (by unfold maxLen; omega) ?_)
      refine wp_name fun w0 hw0 => ?_
      have hE0 : Ext wo w0 := Ext.same hw0 ((Ext.refl wo).alloc _)
      have hW0 : Wo w0 wo.heap.size (2 * n + 1) n 0 [] := by
        cases (hw0 : w0 = _)
        refine ⟨rfl, ?_, NoU.new wo _ _ (fun q z e => ?_), by simp, fun i hi => absurd hi (by omega)⟩
        · exact World.ownsRow_made (e := 27) (base := wo.heap.size) (size := 4) wo (madeCells #[.bool false, .slice none 0 0, .bool false, .slice none 0 0] ((2 * n + 1) * 4)) (2 * n + 1) (Nat.le_refl _) (by unfold maxLen; omega) (by rw [size_madeCells])
        · have := made_mem (by decide) e
          simp at this
      clear hw0 HR
      go_loopw [7, 48] (fun ov iv wx => WoR wo n ov iv wx) (fun _ iv _ => 2 * n + 1 - (intOf iv).toNat)
      case atStart => exact ⟨0, [], Nat.zero_le _, rfl, rfl, hW0, hE0⟩
      case round =>
        obtain ⟨j, es, hj, rfl, rfl, HW, HE⟩ := hrel
        rcases Nat.eq_or_lt_of_le hj with rfl | hj2
        · go_wp2_with fail
          go_ret2
          exact ⟨_, es, rfl, HW.out, hwl, hEw.trans HE.out⟩
        · have hc := (HE.out.cells.1 _ j hwl).trans (hcell.out j (by omega))
          have hbl := bin_le (2 * n) j
          have h40 : 2 ^ (2 * n) ≤ 2 ^ 40 := Nat.pow_le_pow_right (by decide) (by omega)
          obtain ⟨x, ex⟩ : ∃ x, bin (2 * n) j = x := ⟨_, rfl⟩
          have hwp := wrap_pow n hn
          obtain ⟨D, eD⟩ : ∃ D, 4 ^ n = D := ⟨_, rfl⟩
          have hD0 : 0 < D := by rw [← eD]; exact Nat.pow_pos (by decide)
          have hD1 : D ≤ 4 ^ 20 := by rw [← eD]; exact Nat.pow_le_pow_right (by decide) hn
          have hWn : ∀ (wz : World) (u s : Value), wz.ownsRow wo.heap.size 27 4 (.slice (some ⟨wo.heap.size, 0, none⟩) (j + 1) (2 * n + 1)) (j + 1) (es.flatMap fcells ++ fcells (u, s)) → NoU wz wo.heap.size → wo.heap.size < wz.heap.size → (∀ i, i < j → ∃ e, es[i]? = some e ∧ Lim wz e.1 (dig (rn (bin (2 * n) i) (4 ^ n))) ∧ Lim wz e.2 (dig (rd (bin (2 * n) i) (4 ^ n)))) → Lim wz u (dig (x / Nat.gcd x D)) → Lim wz s (dig (D / Nat.gcd x D)) → Ext wo wz → WoR wo n (.slice (some ⟨wo.heap.size, 0, none⟩) (j + 1) (2 * n + 1)) (.int .i64 ((j : Int) + 1)) wz := fun wz u s k1 k2 k3 k4 k5 k6 k7 =>
            ⟨j + 1, es ++ [(u, s)], hj2, rfl, by go_num, (⟨by rw [List.length_append, HW.out.1]; rfl, by rw [List.flatMap_append]; simpa using k1, k2, k3, fun i hi => by
              rcases Nat.lt_or_ge i j with h | h
              · obtain ⟨e, e1, e2, e3⟩ := k4 i h
                exact ⟨e, by rw [List.getElem?_append_left (by rw [HW.out.1]; exact h)]; exact e1, e2, e3⟩
              · have : i = j := by omega
                subst this
                refine ⟨(u, s), by rw [List.getElem?_append_right (by rw [HW.out.1]; exact Nat.le_refl _), HW.out.1, Nat.sub_self]; rfl, ?_, ?_⟩
                · rw [ex, eD]; exact k5
                · rw [ex, eD]; exact k6⟩ : Wo _ _ _ _ _ _), k7⟩
          replace hWn : Hid _ := hWn
          rw [ex] at hc hbl
          rw [eD] at hwp
          have hszB := HW.out.2.2.2.1
          clear ex eD
          go_wp2_with (first
            | (go_at_call 20; (with_reducible refine (w_Of x D _ (by omega) (by omega) hD0).mono ?_); rintro e w1 ⟨y1, rfl, ⟨u1, s1, rfl, hu, hs⟩, hb1⟩; obtain ⟨ao5, b5, o5, cap5, rfl, -⟩ := hu.view; obtain ⟨ao7, b7, o7, cap7, rfl, -⟩ := hs.view; have hnews := cell_new_c (w1.alloc (.cells #[.bool false, .slice ao5 (dig (x / Nat.gcd x D)).length cap5, .bool false, .slice ao7 (dig (D / Nat.gcd x D)).length cap7] 27)) (fcells (.slice ao5 (dig (x / Nat.gcd x D)).length cap5, .slice ao7 (dig (D / Nat.gcd x D)).length cap7)) 27; rw [World.size_alloc] at hnews; have hown2 := ((own_ext27 HW.out.2.1 hb1).alloc (.cells #[.bool false, .slice ao5 (dig (x / Nat.gcd x D)).length cap5, .bool false, .slice ao7 (dig (D / Nat.gcd x D)).length cap7] 27)).alloc (.cells #[.bool false, .slice ao5 (dig (x / Nat.gcd x D)).length cap5, .bool false, .slice ao7 (dig (D / Nat.gcd x D)).length cap7] 27); have hszw := hb1.size; have hno2 := (((HW.out.2.2.1).ext hszB hb1).alloc (by omega) #[.bool false, .slice ao5 (dig (x / Nat.gcd x D)).length cap5, .bool false, .slice ao7 (dig (D / Nat.gcd x D)).length cap7] 27).alloc (by simp; omega) #[.bool false, .slice ao5 (dig (x / Nat.gcd x D)).length cap5, .bool false, .slice ao7 (dig (D / Nat.gcd x D)).length cap7] 27; replace hnews : Hid _ := hnews; replace hown2 : Hid _ := hown2; replace hno2 : Hid _ := hno2)
            | (at_builtin; go_loud (refine wpList_append_noU _ rfl _ _ 42 rfl wo.heap.size 27 i0 4 Try.underlying42 hi hz1 wo.heap.size j (2 * n + 1) (es.flatMap fcells) rfl hown2.out ⟨w1.heap.size + 1, 0, none⟩ 1 1 (fcells (.slice ao5 (dig (x / Nat.gcd x D)).length cap5, .slice ao7 (dig (D / Nat.gcd x D)).length cap7)) rfl rfl hnews.out (fc_one _ _ _ _ _ _) (by omega) hno2.out (fc_no _ _ _ _ _ _) ?_); intro w5 hown5 hgr5 hno5))
          have hx2 := (hu.ext (((Ext.refl w1).alloc _).alloc _)).grownN hgr5 hno2.out
          have hy2 := (hs.ext (((Ext.refl w1).alloc _).alloc _)).grownN hgr5 hno2.out
          have hsz5 := hgr5.size
          simp only [World.size_alloc] at hsz5
          have hold : ∀ i, i < j → ∃ e, es[i]? = some e ∧ Lim w5 e.1 (dig (rn (bin (2 * n) i) (4 ^ n))) ∧ Lim w5 e.2 (dig (rd (bin (2 * n) i) (4 ^ n))) := fun i hi => by
            obtain ⟨e, e1, e2, e3⟩ := HW.out.2.2.2.2 i hi
            exact ⟨e, e1, (e2.ext ((hb1.alloc _).alloc _)).grownN hgr5 hno2.out, (e3.ext ((hb1.alloc _).alloc _)).grownN hgr5 hno2.out⟩
          have hgo : Ext wo w5 := Ext.grownAt (HE.out.trans ((hb1.alloc _).alloc _)) hgr5 (Nat.le_refl _)
          have hrel := hWn.out w5 _ _ hown5 hno5 (by omega) hold hx2 hy2 hgo
          replace hrel : Hid _ := hrel
          go_roundw
          case rel => exact hrel.out
          case measure => simp [intOf]; omega
    · have hRi : Ro w wr w.heap.size (pas i i) := by
        have := HR.out
        rw [show (bin (i - 1)) = pas i i from funext fun m => (pas_start i m hi1).symm] at this; exact this
      clear HR
      go_wp2_with fail
      go_loopw [6] (fun kv wr => ∃ k : Nat, k ≤ i ∧ kv = .int .i64 k ∧ Hid (Ro w wr w.heap.size (pas i k))) (fun kv _ => (intOf kv).toNat)
      case atStart => exact ⟨i, Nat.le_refl _, rfl, hRi⟩
      case round =>
        obtain ⟨k, hk, rfl, HR⟩ := hrel
        cases k with
        | zero =>
          have hRe : Hid (Ro w wr w.heap.size (bin (i + 1 - 1))) := by
            have := HR.out
            rw [show (pas i 0) = bin (i + 1 - 1) from funext fun m => pas_end i m hi1] at this; exact this
          clear HR
          go_wp2_with fail
          go_roundw
          case rel => exact ⟨i + 1, by omega, by omega, by go_num, hRe⟩
          case measure => simp [intOf]; omega
        | succ k =>
          have c1 := HR.out.1 (k + 1) (by omega)
          have c2 := HR.out.1 k (by omega)
          have f1 := HR.out.2.1 (k + 1)
          have b1 := pas_le i (k + 1) (k + 1) (by omega)
          have b2 := pas_le i (k + 1) k (by omega)
          have hlt := HR.out.2.2.2.2
          have hst : Hid (Ro w ((wr.setCell ⟨w.heap.size, k + 1, none⟩ (.int .i64 ((pas i (k + 1) (k + 1) + pas i (k + 1) k : Nat) : Int))).drew) w.heap.size (pas i k)) := HR.out.step (by omega) (fun m => pas_step i k m hi1)
          obtain ⟨x, ex⟩ : ∃ x, pas i (k + 1) (k + 1) = x := ⟨_, rfl⟩
          obtain ⟨y, ey⟩ : ∃ y, pas i (k + 1) k = y := ⟨_, rfl⟩
          rw [ex] at c1 b1 hst
          rw [ey] at c2 b2 hst
          clear HR ex ey
          go_wp2_with fail
          go_region
          all_goals
            rw [show (((x + y : Nat)) : Int) = (x : Int) + y from Int.natCast_add x y] at hst
            go_wp2_with fail
            go_roundw
            case rel => exact ⟨k, by omega, by go_num, hst⟩
            case measure => simp [intOf]
end Go.Proofs.Ytcalonhphknbbaa
