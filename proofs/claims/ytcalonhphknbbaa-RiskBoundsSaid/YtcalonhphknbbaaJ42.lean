/- The reference: the weights of a line. -/
import Derived.Test.YtcalonhphknbbaaJ39
import Derived.Test.YtcalonhphknbbaaJ41
import Derived.Test.YtcalonhphknbbaaJ33
set_option linter.unusedSimpArgs false
set_option linter.unusedVariables false
namespace Go.Proofs.Ytcalonhphknbbaa
open Go.RowKit

theorem info2 : (Try.prog.info? 2).map (fun i => (i.zero, i.size, i.bytes)) = some (some (.int .i64 0), 1, 8) := by kernel_rfl
theorem own_extG {a w : World} {base e n size : Nat} {v : Value} {xs : List Value} (h : a.ownsRow base e size v n xs) (k : Ext a w) : w.ownsRow base e size v n xs := by
  rcases h.2 with h2 | ⟨g, cap, cur, e1, hb, hg, h3⟩
  · exact ⟨h.1, Or.inl h2⟩
  · exact ⟨h.1, Or.inr ⟨g, cap, cur, e1, hb, (k.block g (Array.getElem?_eq_some_iff.1 hg).1).trans hg, h3⟩⟩
theorem own_formG {W : World} {base e m size : Nat} {v : Value} {xs : List Value} (h : W.ownsRow base e size v (m + 1) xs) : ∃ g gc, v = .slice (some ⟨g, 0, none⟩) (m + 1) gc ∧ base ≤ g ∧ g < W.heap.size ∧ m + 1 ≤ gc ∧ gc ≤ 9223372036854775807 := by
  rcases h.2 with ⟨_, e1⟩ | ⟨g, gc, cur, e1, hb, hg, hn, hm, _⟩
  · simp at e1
  · exact ⟨g, gc, e1, hb, (Array.getElem?_eq_some_iff.1 hg).1, hn, by unfold maxLen at hm; omega⟩
theorem own_growG {a w w' : World} {base e n size : Nat} {v : Value} {xs : List Value} (h : Ext a w) (ho : w.ownsRow base e size v n xs) (hb : a.heap.size ≤ base) (k : w.grownBy w' v.ownBlock) : Ext a w' :=
  Below.grown h k h.size (fun g e => by
    rcases ho.2 with ⟨e1, _⟩ | ⟨g', cap, cur, e1, hb', _⟩
    · subst e1; cases e
    · subst e1; simp only [Value.ownBlock] at e; cases e; exact Nat.le_trans hb hb')
/-- The first k numbers of row i of Pascal's triangle. -/
def bl (i k : Nat) : List Value := (List.range k).map fun m => .int .i64 ((bin i m : Nat) : Int)
theorem bl_len (i k : Nat) : (bl i k).length = k := by simp [bl]
theorem bl_succ (i k : Nat) : bl i (k + 1) = bl i k ++ [.int .i64 ((bin i k : Nat) : Int)] := by simp [bl, List.range_succ]
theorem bl_get {i k m : Nat} (h : m < k) : (bl i k)[m]? = some (.int .i64 ((bin i m : Nat) : Int)) := by simp [bl, List.getElem?_map, List.getElem?_range h]
theorem bl_one (i : Nat) : bl i 1 = [.int .i64 1] := by simp [bl, bin_zero]
theorem bin_top (n : Nat) : bin n n = 1 := by
  induction n with
  | zero => rfl
  | succ n ih => unfold bin; rw [ih, bin_gt n (n + 1) (by omega)]
theorem bin_next {i k : Nat} (h : 1 ≤ k) : bin (i + 1) k = bin i (k - 1) + bin i k := by
  obtain ⟨m, rfl⟩ : ∃ m, k = m + 1 := ⟨k - 1, by omega⟩
  rfl
/-- Row i lies in block g. -/
def RowF (wr : World) (g i cap : Nat) : Prop := (∀ m, m < i + 1 → wr.cell? ⟨g, m, none⟩ = some (.int .i64 ((bin i m : Nat) : Int))) ∧ g < wr.heap.size ∧ i + 1 ≤ cap ∧ cap ≤ 9223372036854775807
def WtA (w : World) (n : Nat) (rv iv : Value) (wr : World) : Prop := ∃ i g cap : Nat, i ≤ 2 * n ∧ rv = .slice (some ⟨g, 0, none⟩) (i + 1) cap ∧ iv = .int .i64 i ∧ Hid (RowF wr g i cap) ∧ Hid (Ext w wr)
def WtB (wo : World) (i : Nat) (nv kv : Value) (wx : World) : Prop := ∃ k g cap : Nat, 1 ≤ k ∧ k ≤ i + 1 ∧ nv = .slice (some ⟨g, 0, none⟩) k cap ∧ kv = .int .i64 k ∧ wo.heap.size ≤ g ∧ g < wx.heap.size ∧ k ≤ cap ∧ cap ≤ 9223372036854775807 ∧ Hid (wx.ownsRow wo.heap.size 2 1 (.slice (some ⟨g, 0, none⟩) k cap) k (bl (i + 1) k)) ∧ Hid (Ext wo wx)
theorem WtA.of {w wr : World} {n i g cap : Nat} {u : Value} (hi : i ≤ 2 * n) (h : wr.ownsRow w.heap.size 2 1 (.slice (some ⟨g, 0, none⟩) (i + 1) cap) (i + 1) (bl i (i + 1))) (k : Ext w wr) (hu : u = .int .i64 i) : WtA w n (.slice (some ⟨g, 0, none⟩) (i + 1) cap) u wr := by
  obtain ⟨g', gc, e, h1, h2, h3, h4⟩ := own_formG h
  cases e
  exact ⟨i, g, cap, hi, rfl, hu, (⟨fun m hm => by rw [World.ownsRow.cellAt h m (by omega)]; exact bl_get hm, h2, h3, h4⟩ : RowF _ _ _ _), k⟩
/-- The weights lie in block g. -/
def WR (w : World) (g n : Nat) : Prop := g < w.heap.size ∧ ∀ i, i < 2 * n + 1 → ∃ u s, w.cell? ⟨g, i * 4, none⟩ = some (.bool false) ∧ w.cell? ⟨g, i * 4 + 1, none⟩ = some u ∧ w.cell? ⟨g, i * 4 + 2, none⟩ = some (.bool false) ∧ w.cell? ⟨g, i * 4 + 3, none⟩ = some s ∧ Lim w u (dig (rn (bin (2 * n) i) (4 ^ n))) ∧ Lim w s (dig (rd (bin (2 * n) i) (4 ^ n)))
theorem WR.ext {a w : World} {g n : Nat} (h : WR a g n) (k : Ext a w) : WR w g n := by
  refine ⟨Nat.lt_of_lt_of_le h.1 k.size, fun i hi => ?_⟩
  obtain ⟨u, s, c1, c2, c3, c4, c5, c6⟩ := h.2 i hi
  exact ⟨u, s, (k.cells.1 _ _ h.1).trans c1, (k.cells.1 _ _ h.1).trans c2, (k.cells.1 _ _ h.1).trans c3, (k.cells.1 _ _ h.1).trans c4, c5.ext k, c6.ext k⟩
/-- The first j weights have been appended. -/
def Wx (base : Nat) (wx : World) (v : Value) (n j : Nat) (es : List (Value × Value)) : Prop :=
  es.length = j ∧ wx.ownsRow base 27 4 v j (es.flatMap fcells) ∧ NoUo wx v ∧ (∀ u ∈ es.flatMap fcells, ∀ y, u ≠ .int .u32 y) ∧ ∀ i, i < j → ∃ e, es[i]? = some e ∧ Lim wx e.1 (dig (rn (bin (2 * n) i) (4 ^ n))) ∧ Lim wx e.2 (dig (rd (bin (2 * n) i) (4 ^ n)))
theorem Wx.nil (base n : Nat) (wx : World) : Wx base wx (.slice none 0 0) n 0 [] := ⟨rfl, World.ownsRow_nil _ _ _ _, fun g h => (by cases h), fun u h => (by simp at h), fun i hi => absurd hi (by omega)⟩
theorem Wx.wr {base n : Nat} {wx : World} {v : Value} {es : List (Value × Value)} (h : Wx base wx v n (2 * n + 1) es) : ∃ g cap, v = .slice (some ⟨g, 0, none⟩) (2 * n + 1) cap ∧ 2 * n + 1 ≤ cap ∧ cap ≤ 9223372036854775807 ∧ base ≤ g ∧ WR wx g n := by
  obtain ⟨h1, h2, h3, h4, h5⟩ := h
  obtain ⟨g, gc, rfl, b1, b2, b3, b4⟩ := own_formG h2
  refine ⟨g, gc, rfl, b3, b4, b1, b2, fun i hi => ?_⟩
  obtain ⟨e, e1, e2, e3⟩ := h5 i hi
  have hc : ∀ k, k < 4 → wx.cell? ⟨g, i * 4 + k, none⟩ = (fcells e)[k]? := fun k hk => by
    rw [World.ownsRow.cellAt h2 (i * 4 + k) (by omega)]; exact flat_get es i k e e1 hk
  exact ⟨e.1, e.2, hc 0 (by decide), hc 1 (by decide), hc 2 (by decide), hc 3 (by decide), e2, e3⟩
theorem Wx.snoc {base n j x D : Nat} {wx wc w5 : World} {v v' : Value} {es : List (Value × Value)} {ao bo : Option Addr} {n1 n2 c1 c2 : Nat} (h : Wx base wx v n j es) (k : Ext wx wc) (ex : bin (2 * n) j = x) (eD : 4 ^ n = D)
    (hu : Lim wc (.slice ao n1 c1) (dig (rn x D))) (hs : Lim wc (.slice bo n2 c2) (dig (rd x D))) (ho : w5.ownsRow base 27 4 v' (j + 1) (es.flatMap fcells ++ fcells (.slice ao n1 c1, .slice bo n2 c2))) (hg : wc.grownBy w5 v.ownBlock) (hn : NoUo w5 v') (hno : NoUo wc v) :
    Wx base w5 v' n (j + 1) (es ++ [(.slice ao n1 c1, .slice bo n2 c2)]) := by
  obtain ⟨h1, h2, h3, h4, h5⟩ := h
  refine ⟨by rw [List.length_append, h1]; rfl, by rw [List.flatMap_append]; simpa using ho, hn, fun u hu y => ?_, fun i hi => ?_⟩
  · rw [List.flatMap_append] at hu
    rcases List.mem_append.1 hu with hu | hu
    · exact h4 u hu y
    · exact fc_no ao bo n1 c1 n2 c2 u (by simpa using hu) y
  · rcases Nat.lt_or_ge i j with hl | hl
    · obtain ⟨e, e1, e2, e3⟩ := h5 i hl
      exact ⟨e, by rw [List.getElem?_append_left (by rw [h1]; exact hl)]; exact e1, (e2.ext k).grownO hg hno, (e3.ext k).grownO hg hno⟩
    · have : i = j := by omega
      subst this
      refine ⟨(.slice ao n1 c1, .slice bo n2 c2), by rw [List.getElem?_append_right (by rw [h1]; exact Nat.le_refl _), h1, Nat.sub_self]; rfl, ?_, ?_⟩
      · rw [ex, eD]; exact hu.grownO hg hno
      · rw [ex, eD]; exact hs.grownO hg hno
theorem NoUo.ext {base e n size : Nat} {a w : World} {v : Value} {xs : List Value} (h : NoUo a v) (ho : a.ownsRow base e size v n xs) (k : Ext a w) : NoUo w v := fun g hg => by
  refine (h g hg).ext ?_ k
  rcases ho.2 with ⟨e1, _⟩ | ⟨g', cap, cur, e1, hb, hgg, _⟩
  · subst e1; cases hg
  · subst e1; simp only [Value.ownBlock] at hg; cases hg; exact (Array.getElem?_eq_some_iff.1 hgg).1
theorem NoUo.alloc {base e n size : Nat} {a : World} {v : Value} {xs : List Value} (h : NoUo a v) (ho : a.ownsRow base e size v n xs) (o : Obj) : NoUo (a.alloc o) v := h.ext ho ((Ext.refl a).alloc o)
def WtC (wo : World) (n : Nat) (ov iv : Value) (wx : World) : Prop := ∃ (j : Nat) (es : List (Value × Value)) (v : Value), v = ov ∧ j ≤ 2 * n + 1 ∧ iv = .int .i64 j ∧ Hid (Wx wo.heap.size wx v n j es) ∧ Hid (Ext wo wx)
set_option maxRecDepth 100000 in
set_option maxHeartbeats 4000000 in
theorem r_Weights (n : Nat) (w : World) (hn : n ≤ 20) :
    Calls Try.prog 22 #[.int .i64 n] w fun e w' => ∃ g cap, e = .returned (.tuple #[.slice (some ⟨g, 0, none⟩) (2 * n + 1) cap, .int .i64 0]) ∧ 2 * n + 1 ≤ cap ∧ cap ≤ 9223372036854775807 ∧ w.heap.size ≤ g ∧ WR w' g n ∧ Ext w w' := by
  obtain ⟨i0, hi, hz0, hz1, hz2⟩ := info_parts info2
  go_enter Try.func22, Try.ntmps22
  go_upto_region 4 with fail
  refine wp_name fun W hW => ?_
  have hA0 : WtA w n (.slice (some ⟨w.heap.size, 0, none⟩) 1 1) (.int .i64 0) W := by
    have e9 : W = _ := hW
    rw [e9]
    have h := World.ownsRow_lit (e := 2) (size := 1) (base := w.heap.size) w #[.int .i64 1] 1 (Nat.le_refl _) (by decide) rfl
    exact WtA.of (i := 0) (Nat.zero_le _) h ((Ext.refl w).alloc _) rfl
  clear hW
  go_wp2_with fail
  go_loopw [4, 5] (fun rv iv wr => WtA w n rv iv wr) (fun _ iv _ => 2 * n - (intOf iv).toNat)
  case atStart => exact hA0
  case round =>
    clear hA0
    obtain ⟨i, g, cap, hi2, rfl, rfl, HR, HE⟩ := hrel
    obtain ⟨wo, ewo⟩ : ∃ wo, wo = wr := ⟨_, rfl⟩
    subst ewo
    have hgl := HR.out.2.1
    have hcap1 := HR.out.2.2.1
    have hcap2 := HR.out.2.2.2
    rcases Nat.eq_or_lt_of_le hi2 with e1 | e1
    · subst e1
      have hcell := HR.out.1
      have hC0 : WtC wo n (.slice none 0 0) (.int .i64 0) wo := ⟨0, [], _, rfl, Nat.zero_le _, rfl, Wx.nil _ _ _, Ext.refl wo⟩
      replace hcell : Hid _ := hcell
      have hln : ((2 * n + 1 : Nat) : Int) = 2 * (n : Int) + 1 := by omega
      obtain ⟨j0, hj0, jz0, jz1, jz2⟩ := info_parts info27
      clear hi hz0 hz1 hz2
      rw [show (((2 * n : Nat)) : Int) = 2 * (n : Int) from by omega]
      go_wp2_with fail
      go_loopw [8, 9] (fun ov iv wx => WtC wo n ov iv wx) (fun _ iv _ => 2 * n + 1 - (intOf iv).toNat)
      case atStart => exact hC0
      case round =>
        clear hC0
        obtain ⟨j, es, v, rfl, hj, rfl, HW, HX⟩ := hrel
        rcases Nat.eq_or_lt_of_le hj with e2 | e2
        · subst e2
          obtain ⟨gw, gc, rfl, q1, q2, q3, q4⟩ := HW.out.wr
          have hEz := HE.out.trans HX.out
          have hszz := HE.out.size
          go_wp2_with fail
          go_ret2
          exact ⟨gw, gc, rfl, q1, q2, Nat.le_trans hszz q3, q4, hEz⟩
        · have hc1 := (HX.out.cells.1 _ j hgl).trans (hcell.out j e2)
          have hgl2 : g < wr.heap.size := Nat.lt_of_lt_of_le hgl HX.out.size
          have hbl := bin_le (2 * n) j
          have h40 : 2 ^ (2 * n) ≤ 2 ^ 40 := Nat.pow_le_pow_right (by decide) (by omega)
          have h402 : 2 ^ 40 = 1099511627776 := by decide
          have hwp := wrap_pow n hn
          obtain ⟨x, ex⟩ : ∃ x, bin (2 * n) j = x := ⟨_, rfl⟩
          obtain ⟨D, eD⟩ : ∃ D, 4 ^ n = D := ⟨_, rfl⟩
          have hD0 : 0 < D := by rw [← eD]; exact Nat.pow_pos (by decide)
          have hD1 : D ≤ 4 ^ 20 := by rw [← eD]; exact Nat.pow_le_pow_right (by decide) hn
          have h420 : 4 ^ 20 = 1099511627776 := by decide
          rw [ex] at hc1 hbl
          rw [eD] at hwp
          have hx1 : x ≤ 1099511627776 := by omega
          have hD2 : D ≤ 1099511627776 := by omega
          have hj41 : j ≤ 41 := by omega
          have dn2 : decide ((j : Int) < 2 * (n : Int) + 1) = true := decide_eq_true (by omega)
          have hj3 : (j : Int) < 2 * (n : Int) + 1 := by omega
          have hsh : ∀ w0, (Op.shift BinOp.shl IntKind.i64 1 IntKind.i64 (IntKind.i64.wrap (2 * (n : Int)))).run Try.prog w0 = .ok (.int .i64 (D : Int)) w0 := fun w0 => by
            rw [IntWalk.i64_left, show wrap64 (2 * (n : Int)) = 2 * (n : Int) by simp only [wrap64]; omega]
            unfold Op.shift
            rw [if_neg (by omega)]
            have e1 : min (2 * (n : Int)).toNat IntKind.i64.bits = 2 * n := by
              have : IntKind.i64.bits = 64 := rfl
              rw [this]; omega
            simp only [e1, Int.one_mul, IntWalk.i64_left]
            rw [hwp]; rfl
          have hm1 : Hid (j + 1 ≤ maxLen) := (Nat.le_trans (Nat.succ_le_succ hj41) (by decide) : j + 1 ≤ maxLen)
          have hm2 : Hid ((j + 1) * 64 ≤ 140737488355328) := (Nat.le_trans (Nat.mul_le_mul_right 64 (Nat.succ_le_succ hj41)) (by decide) : (j + 1) * 64 ≤ 140737488355328)
          replace ex : Hid _ := ex
          replace eD : Hid _ := eD
          clear hbl h40 h402 hD1 h420
          go_upto_region 17 with fail
          go_cut [10, 11] from 54 to 64 (fun s10 s11 wz => ∃ Bq, s10 = .pointer (some ⟨Bq, 0, none⟩) ∧ Bq < wz.heap.size ∧ Hid (At wz Bq (rn x D) (rd x D)) ∧ Hid (Ext wr wz))
          case first =>
            refine wp_region_held_drew (S := (fun w0 => Ext wr w0)) (by kernel_rfl) ?_ (fun hHeld => ?_)
            · exact (Ext.refl wr).drew
            try simp only [Act.put, List.setIfInBounds_toArray, List.set_cons_zero, List.set_cons_succ, List.getElem_toArray, List.getElem_cons_succ, List.getElem_cons_zero]
            refine wpAnyH_take (i := 0) (oi := _) (v := ?_) rfl (by kernel_rfl) (by kernel_rfl) (by kernel_rfl) (fun _ _ _ h => h) (Or.inl ⟨by rfl, ?_⟩) (by assumption) ?_
            rotate_left
            · intro w0 hSw; go_simp; try with_reducible rfl
            try simp only [Act.put, List.setIfInBounds_toArray, List.set_cons_zero, List.set_cons_succ, List.getElem_toArray, List.getElem_cons_succ, List.getElem_cons_zero]
            refine wpAnyH_take (i := 1) (oi := _) (v := ?_) rfl (by kernel_rfl) (by kernel_rfl) (by kernel_rfl) (fun _ _ _ h => h) (Or.inl ⟨by rfl, ?_⟩) (by assumption) ?_
            rotate_left
            · intro w0 hSw; go_simp; try with_reducible rfl
            try simp only [Act.put, List.setIfInBounds_toArray, List.set_cons_zero, List.set_cons_succ, List.getElem_toArray, List.getElem_cons_succ, List.getElem_cons_zero]
            refine wpAnyH_take (i := 2) (oi := _) (v := ?_) rfl (by kernel_rfl) (by kernel_rfl) (by kernel_rfl) (fun _ _ _ h => h) (Or.inl ⟨by rfl, ?_⟩) (by assumption) ?_
            rotate_left
            · intro w0 hSw; go_simp; try with_reducible rfl
            try simp only [Act.put, List.setIfInBounds_toArray, List.set_cons_zero, List.set_cons_succ, List.getElem_toArray, List.getElem_cons_succ, List.getElem_cons_zero]
            refine wpAnyH_take (i := 3) (oi := _) (v := ?_) rfl (by kernel_rfl) (by kernel_rfl) (by kernel_rfl) (fun _ _ _ h => h) (Or.inl ⟨by rfl, ?_⟩) (by assumption) ?_
            rotate_left
            · intro w0 hSw; have r1 := (hSw.cells.1 _ j hgl2).trans hc1; go_simp; try with_reducible rfl
            try simp only [Act.put, List.setIfInBounds_toArray, List.set_cons_zero, List.set_cons_succ, List.getElem_toArray, List.getElem_cons_succ, List.getElem_cons_zero]
            refine wpAnyH_take (i := 4) (oi := _) (v := ?_) rfl (by kernel_rfl) (by kernel_rfl) (by kernel_rfl) (fun _ _ _ h => h) (Or.inl ⟨by rfl, ?_⟩) (by assumption) ?_
            rotate_left
            · intro w0 hSw; go_simp; try with_reducible rfl
            try simp only [Act.put, List.setIfInBounds_toArray, List.set_cons_zero, List.set_cons_succ, List.getElem_toArray, List.getElem_cons_succ, List.getElem_cons_zero]
            refine wpAnyH_take (i := 5) (oi := _) (v := ?_) rfl (by kernel_rfl) (by kernel_rfl) (by kernel_rfl) (fun _ _ _ h => h) (Or.inl ⟨by rfl, ?_⟩) (by assumption) ?_
            rotate_left
            · intro w0 hSw; go_simp; try with_reducible rfl
            try simp only [Act.put, List.setIfInBounds_toArray, List.set_cons_zero, List.set_cons_succ, List.getElem_toArray, List.getElem_cons_succ, List.getElem_cons_zero]
            refine wpAnyH_take (i := 6) (oi := _) (v := ?_) rfl (by kernel_rfl) (by kernel_rfl) (by kernel_rfl) (fun _ _ _ h => h) (Or.inl ⟨by rfl, ?_⟩) (by assumption) ?_
            rotate_left
            · intro w0 hSw; go_simp; try with_reducible rfl
            try simp only [Act.put, List.setIfInBounds_toArray, List.set_cons_zero, List.set_cons_succ, List.getElem_toArray, List.getElem_cons_succ, List.getElem_cons_zero]
            refine wpAnyH_ready (rs := [7, 11]) (by kernel_rfl) (by simp) ?_
            refine AllReadyH.cons (o := _) rfl (fun K hK => ?_) (AllReadyH.cons (o := _) rfl (fun K hK => ?_) AllReadyH.nil)
            · go_simp
              (go_at_call 29; (with_reducible refine (r_Of x D _ (by omega) (by omega) hD0).mono ?_); rintro e t1 ⟨y1, rfl, ⟨u1, s1, rfl, hu, hs⟩, hb1⟩; obtain ⟨ao5, b5, o5, cap5, rfl, -⟩ := hu.view; obtain ⟨ao7, b7, o7, cap7, rfl, -⟩ := hs.view)
              refine hK.out _ _ ?_ (fun hHeldN => ?_)
              · (try dsimp only); exact hHeld.trans hb1
              clear hK K hHeld
              have hHeld := hHeldN
              clear hHeldN
              try simp only [Act.put, List.setIfInBounds_toArray, List.set_cons_zero, List.set_cons_succ, List.getElem_toArray, List.getElem_cons_succ, List.getElem_cons_zero]
              refine wpAnyH_take (i := 8) (oi := _) (v := ?_) rfl (by kernel_rfl) (by kernel_rfl) (by kernel_rfl) (fun _ _ _ h => h) (Or.inl ⟨by rfl, ?_⟩) (by assumption) ?_
              rotate_left
              · intro w0 hSw; go_simp; try with_reducible rfl
              try simp only [Act.put, List.setIfInBounds_toArray, List.set_cons_zero, List.set_cons_succ, List.getElem_toArray, List.getElem_cons_succ, List.getElem_cons_zero]
              refine wpAnyH_take (i := 9) (oi := _) (v := ?_) rfl (by kernel_rfl) (by kernel_rfl) (by kernel_rfl) (fun _ _ _ h => h) (Or.inl ⟨by rfl, ?_⟩) (by assumption) ?_
              rotate_left
              · intro w0 hSw; go_simp; try with_reducible rfl
              try simp only [Act.put, List.setIfInBounds_toArray, List.set_cons_zero, List.set_cons_succ, List.getElem_toArray, List.getElem_cons_succ, List.getElem_cons_zero]
              refine wpAnyH_take (i := 10) (oi := _) (v := ?_) rfl (by kernel_rfl) (by kernel_rfl) (by kernel_rfl) (fun _ _ _ h => h) (Or.inl ⟨by rfl, ?_⟩) (by assumption) ?_
              rotate_left
              · intro w0 hSw; go_simp; try with_reducible rfl
              try simp only [Act.put, List.setIfInBounds_toArray, List.set_cons_zero, List.set_cons_succ, List.getElem_toArray, List.getElem_cons_succ, List.getElem_cons_zero]
              refine wpAnyH_ready (rs := [11]) (by kernel_rfl) (by simp) ?_
              refine AllReadyH.cons (o := _) rfl (fun K hK => ?_) AllReadyH.nil
              go_simp
              have hT := hHeld
              refine hK.out _ _ ?_ (fun hHeldN => ?_)
              · (try dsimp only); exact hHeld.alloc _
              clear hK K hHeld
              have hHeld := hHeldN
              clear hHeldN
              try simp only [Act.put, List.setIfInBounds_toArray, List.set_cons_zero, List.set_cons_succ, List.getElem_toArray, List.getElem_cons_succ, List.getElem_cons_zero]
              refine wpAnyH_ready (rs := [12]) (by kernel_rfl) (by simp) ?_
              refine AllReadyH.cons (o := _) rfl (fun K hK => ?_) AllReadyH.nil
              go_simp
              refine hK.out _ _ ?_ (fun hHeldN => ?_)
              · (try dsimp only); exact hT.alloc _
              clear hK K hHeld
              have hHeld := hHeldN
              clear hHeldN
              try simp only [Act.put, List.setIfInBounds_toArray, List.set_cons_zero, List.set_cons_succ, List.getElem_toArray, List.getElem_cons_succ, List.getElem_cons_zero]
              refine wpAnyH_take (i := 13) (oi := _) (v := ?_) rfl (by kernel_rfl) (by kernel_rfl) (by kernel_rfl) (fun _ _ _ h => h) (Or.inl ⟨by rfl, ?_⟩) (by assumption) ?_
              rotate_left
              · intro w0 hSw; go_simp; try with_reducible rfl
              try simp only [Act.put, List.setIfInBounds_toArray, List.set_cons_zero, List.set_cons_succ, List.getElem_toArray, List.getElem_cons_succ, List.getElem_cons_zero]
              refine wpAnyH_done (by kernel_rfl) ?_ _
              have hat : Hid (At (t1.alloc (.cells #[.bool false, .slice ao5 (dig (rn x D)).length cap5, .bool false, .slice ao7 (dig (rd x D)).length cap7] 27)) t1.heap.size (rn x D) (rd x D)) := (⟨_, _, (by simp [go_sem, ↓IntWalk.iteOmega]), (by simp [go_sem, ↓IntWalk.iteOmega]; rfl), (by simp [go_sem, ↓IntWalk.iteOmega]), (by simp [go_sem, ↓IntWalk.iteOmega]; rfl), hu.alloc _, hs.alloc _⟩ : At _ _ _ _)
              replace hHeld : Hid _ := hHeld
              go_wp2_with fail
              go_meet
              case rel => exact ⟨_, rfl, by simp, hat, hHeld⟩
            · go_simp
              refine hK.out _ _ ?_ (fun hHeldN => ?_)
              · (try dsimp only); exact hHeld.alloc _
              clear hK K hHeld
              have hHeld := hHeldN
              clear hHeldN
              try simp only [Act.put, List.setIfInBounds_toArray, List.set_cons_zero, List.set_cons_succ, List.getElem_toArray, List.getElem_cons_succ, List.getElem_cons_zero]
              refine wpAnyH_ready (rs := [7]) (by kernel_rfl) (by simp) ?_
              refine AllReadyH.cons (o := _) rfl (fun K hK => ?_) AllReadyH.nil
              go_simp
              (go_at_call 29; (with_reducible refine (r_Of x D _ (by omega) (by omega) hD0).mono ?_); rintro e t1 ⟨y1, rfl, ⟨u1, s1, rfl, hu, hs⟩, hb1⟩; obtain ⟨ao5, b5, o5, cap5, rfl, -⟩ := hu.view; obtain ⟨ao7, b7, o7, cap7, rfl, -⟩ := hs.view)
              have hsz1 := hb1.size
              have hcb := fun o => hb1.cells.1 wr.heap.size o (by simp)
              have hfb := fun o => hb1.cells.2 wr.heap.size o (by simp)
              simp [go_sem] at hcb hfb hsz1
              refine hK.out _ _ ?_ (fun hHeldN => ?_)
              · (try dsimp only); exact hHeld.trans hb1
              clear hK K hHeld
              have hHeld := hHeldN
              clear hHeldN
              try simp only [Act.put, List.setIfInBounds_toArray, List.set_cons_zero, List.set_cons_succ, List.getElem_toArray, List.getElem_cons_succ, List.getElem_cons_zero]
              refine wpAnyH_take (i := 8) (oi := _) (v := ?_) rfl (by kernel_rfl) (by kernel_rfl) (by kernel_rfl) (fun _ _ _ h => h) (Or.inl ⟨by rfl, ?_⟩) (by assumption) ?_
              rotate_left
              · intro w0 hSw; go_simp; try with_reducible rfl
              try simp only [Act.put, List.setIfInBounds_toArray, List.set_cons_zero, List.set_cons_succ, List.getElem_toArray, List.getElem_cons_succ, List.getElem_cons_zero]
              refine wpAnyH_take (i := 9) (oi := _) (v := ?_) rfl (by kernel_rfl) (by kernel_rfl) (by kernel_rfl) (fun _ _ _ h => h) (Or.inl ⟨by rfl, ?_⟩) (by assumption) ?_
              rotate_left
              · intro w0 hSw; go_simp; try with_reducible rfl
              try simp only [Act.put, List.setIfInBounds_toArray, List.set_cons_zero, List.set_cons_succ, List.getElem_toArray, List.getElem_cons_succ, List.getElem_cons_zero]
              refine wpAnyH_take (i := 10) (oi := _) (v := ?_) rfl (by kernel_rfl) (by kernel_rfl) (by kernel_rfl) (fun _ _ _ h => h) (Or.inl ⟨by rfl, ?_⟩) (by assumption) ?_
              rotate_left
              · intro w0 hSw; go_simp; try with_reducible rfl
              try simp only [Act.put, List.setIfInBounds_toArray, List.set_cons_zero, List.set_cons_succ, List.getElem_toArray, List.getElem_cons_succ, List.getElem_cons_zero]
              refine wpAnyH_ready (rs := [12]) (by kernel_rfl) (by simp) ?_
              refine AllReadyH.cons (o := _) rfl (fun K hK => ?_) AllReadyH.nil
              have hnb : NoU t1 wr.heap.size := (NoU.new wr.drew #[.bool false, .slice none 0 0, .bool false, .slice none 0 0] 27 (noU4 (by simp) (by simp) (by simp) (by simp))).ext (by simp) hb1
              have d0 := hcb 0
              have d1 := hcb 1
              have d2 := hcb 2
              have d3 := hcb 3
              simp at d0 d1 d2 d3
              go_simp
              refine hK.out _ _ ?_ (fun hHeldN => ?_)
              · (try dsimp only); exact (((hHeld.setCell (p := ⟨wr.heap.size, 0, none⟩) (Nat.le_refl _) _).setCell (p := ⟨wr.heap.size, 1, none⟩) (Nat.le_refl _) _).setCell (p := ⟨wr.heap.size, 2, none⟩) (Nat.le_refl _) _).setCell (p := ⟨wr.heap.size, 3, none⟩) (Nat.le_refl _) _
              clear hK K hHeld
              have hHeld := hHeldN
              clear hHeldN
              try simp only [Act.put, List.setIfInBounds_toArray, List.set_cons_zero, List.set_cons_succ, List.getElem_toArray, List.getElem_cons_succ, List.getElem_cons_zero]
              refine wpAnyH_take (i := 13) (oi := _) (v := ?_) rfl (by kernel_rfl) (by kernel_rfl) (by kernel_rfl) (fun _ _ _ h => h) (Or.inl ⟨by rfl, ?_⟩) (by assumption) ?_
              rotate_left
              · intro w0 hSw; go_simp; try with_reducible rfl
              try simp only [Act.put, List.setIfInBounds_toArray, List.set_cons_zero, List.set_cons_succ, List.getElem_toArray, List.getElem_cons_succ, List.getElem_cons_zero]
              refine wpAnyH_done (by kernel_rfl) ?_ _
              have hat : Hid (At ((((t1.setCell ⟨wr.heap.size, 0, none⟩ (.bool false)).setCell ⟨wr.heap.size, 1, none⟩ (.slice ao5 (dig (rn x D)).length cap5)).setCell ⟨wr.heap.size, 2, none⟩ (.bool false)).setCell ⟨wr.heap.size, 3, none⟩ (.slice ao7 (dig (rd x D)).length cap7)) wr.heap.size (rn x D) (rd x D)) := At.stored ⟨_, d0⟩ ⟨_, d1⟩ ⟨_, d2⟩ ⟨_, d3⟩ hnb hu hs (fun z e => by cases e) (fun z e => by cases e)
              replace hHeld : Hid _ := hHeld
              clear d0 d1 d2 d3
              go_wp2_with fail
              go_meet
              case rel => exact ⟨_, rfl, by simp; omega, hat, hHeld⟩
          case rest =>
            obtain ⟨Bq, rfl, hBq, hAt, hE9⟩ := hcut
            obtain ⟨u1, s1, a1, a2, a3, a4, a5, a6⟩ := hAt.out
            obtain ⟨x1, _, y1, z1, rfl, -⟩ := a5.view
            obtain ⟨x2, _, y2, z2, rfl, -⟩ := a6.view
            obtain ⟨W1, W2, W3, W4, W5⟩ := HW.out
            have hEc := HX.out.trans hE9.out
            have hszc := hEc.size
            have ho1 := own_extG W2 hE9.out
            have hn1 := W3.ext W2 hE9.out
            have ho2 := World.ownsRow.alloc ho1 (.cells (fcells (.slice x1 (dig (rn x D)).length z1, .slice x2 (dig (rd x D)).length z2)).toArray 27)
            have hn2 := hn1.alloc ho1 (.cells (fcells (.slice x1 (dig (rn x D)).length z1, .slice x2 (dig (rd x D)).length z2)).toArray 27)
            have hnews := cell_new_c wc (fcells (.slice x1 (dig (rn x D)).length z1, .slice x2 (dig (rd x D)).length z2)) 27
            have hm3 : Hid (wo.heap.size ≤ (wc.alloc (.cells (fcells (.slice x1 (dig (rn x D)).length z1, .slice x2 (dig (rd x D)).length z2)).toArray 27)).heap.size) := (by rw [World.size_alloc]; omega : wo.heap.size ≤ (wc.alloc (.cells (fcells (.slice x1 (dig (rn x D)).length z1, .slice x2 (dig (rd x D)).length z2)).toArray 27)).heap.size)
            have hEd : Ext wo (wc.alloc (.cells (fcells (.slice x1 (dig (rn x D)).length z1, .slice x2 (dig (rd x D)).length z2)).toArray 27)) := hEc.alloc _
            have hfin : ∀ w5 v', w5.ownsRow wo.heap.size 27 4 v' (j + 1) (es.flatMap fcells ++ fcells (.slice x1 (dig (rn x D)).length z1, .slice x2 (dig (rd x D)).length z2)) → (wc.alloc (.cells (fcells (.slice x1 (dig (rn x D)).length z1, .slice x2 (dig (rd x D)).length z2)).toArray 27)).grownBy w5 v.ownBlock → NoUo w5 v' → WtC wo n v' (.int .i64 ((j : Int) + 1)) w5 := fun w5 v' k1 k2 k3 =>
              ⟨j + 1, es ++ [(Value.slice x1 (dig (rn x D)).length z1, Value.slice x2 (dig (rd x D)).length z2)], v', rfl, e2, by go_num, (HW.out.snoc (hE9.out.alloc _) ex.out eD.out (a5.alloc _) (a6.alloc _) k1 k2 k3 hn2 : Wx _ _ _ _ _ _), (own_growG hEd ho2 (Nat.le_refl _) k2 : Ext _ _)⟩
            replace hfin : Hid _ := hfin
            replace ho2 : Hid _ := ho2
            replace hn2 : Hid _ := hn2
            replace hnews : Hid _ := hnews
            replace W4 : Hid _ := W4
            clear W1 W2 W3 W5 ho1 hn1 hEd hEc hAt a5 a6 HW
            go_wp2_with (at_builtin; go_must (refine wpList_append_ownN _ rfl _ _ 42 rfl wo.heap.size 27 j0 (.agg #[.bool false, .slice none 0 0, .bool false, .slice none 0 0]) 4 64 Try.underlying42 hj0 jz0 jz1 jz2 rfl (by decide) _ _ _ rfl ho2.out ⟨wc.heap.size, 0, none⟩ 1 1 (fcells (.slice x1 (dig (rn x D)).length z1, .slice x2 (dig (rd x D)).length z2)) rfl rfl hnews.out (fc_one _ _ _ _ _ _) hm1.out hm2.out hm3.out hn2.out W4.out (fc_no _ _ _ _ _ _) (by intro u hu y; simp [Value.cells] at hu; rcases hu with rfl | rfl | rfl | rfl <;> simp) (by decide) ?_); intro v' w5 hown5 hgr5 hno5; have hrel := hfin.out w5 v' hown5 hgr5 hno5; replace hrel : Hid _ := hrel; clear hown5 hgr5 hno5)
            go_roundw
            case rel => exact hrel.out
            case measure => simp [intOf]; omega
    · have dn1 : decide ((i : Int) < 2 * (n : Int)) = true := decide_eq_true (by omega)
      have hB0 : Hid ((wo.alloc (.cells #[.int .i64 1] 2)).ownsRow wo.heap.size 2 1 (.slice (some ⟨wo.heap.size, 0, none⟩) 1 1) 1 (bl (i + 1) 1)) := (by rw [bl_one]; exact World.ownsRow_lit (e := 2) (size := 1) (base := wo.heap.size) wo #[.int .i64 1] 1 (Nat.le_refl _) (by decide) rfl : (wo.alloc (.cells #[.int .i64 1] 2)).ownsRow wo.heap.size 2 1 (.slice (some ⟨wo.heap.size, 0, none⟩) 1 1) 1 (bl (i + 1) 1))
      have hE1 : Hid (Ext wo (wo.alloc (.cells #[.int .i64 1] 2))) := ((Ext.refl wo).alloc _ : Ext wo (wo.alloc (.cells #[.int .i64 1] 2)))
      go_wp2_with fail
      go_loopw [6, 7] (fun nv kv wx => WtB wo i nv kv wx) (fun _ kv _ => i + 1 - (intOf kv).toNat)
      case atStart => exact ⟨1, wo.heap.size, 1, Nat.le_refl _, by omega, rfl, rfl, Nat.le_refl _, by simp, Nat.le_refl _, by decide, hB0, hE1⟩
      case round =>
        clear hB0 hE1
        obtain ⟨k, g2, cap2, hk1, hk2, rfl, rfl, hgge, hg2l, hkc, hc2l, HO, HX⟩ := hrel
        have hk41 : k ≤ 41 := by omega
        have hszx := HX.out.size
        have hm1 : Hid (k + 1 ≤ maxLen) := (Nat.le_trans (Nat.succ_le_succ hk41) (by decide) : k + 1 ≤ maxLen)
        have hm2 : Hid ((k + 1) * 8 ≤ 140737488355328) := (Nat.le_trans (Nat.mul_le_mul_right 8 (Nat.succ_le_succ hk41)) (by decide) : (k + 1) * 8 ≤ 140737488355328)
        rcases Nat.eq_or_lt_of_le hk2 with e2 | e2
        · subst e2
          have hm3 : Hid (wo.heap.size ≤ (wr.alloc (.cells [Value.int .i64 1].toArray 2)).heap.size) := (by rw [World.size_alloc]; omega : wo.heap.size ≤ (wr.alloc (.cells [Value.int .i64 1].toArray 2)).heap.size)
          have hO1 := World.ownsRow.alloc HO.out (.cells [Value.int .i64 1].toArray 2)
          have hnews := cell_new_c wr [Value.int .i64 1] 2
          replace hnews : Hid _ := hnews
          replace hO1 : Hid _ := hO1
          go_wp2_with (at_builtin; refine wpList_append_own _ rfl _ _ 64 rfl wo.heap.size 2 i0 (.int .i64 0) 1 8 Try.underlying64 hi hz0 hz1 hz2 rfl (by decide) _ _ _ rfl hO1.out ⟨wr.heap.size, 0, none⟩ 1 1 [.int .i64 1] rfl rfl hnews.out (by intro u hu; simp at hu; subst hu; rfl) hm1.out hm2.out hm3.out ?_; intro v' w1 hown1 hgrow1 hnil; have hEg : Ext wo w1 := Ext.grownAt (HX.out.alloc _) hgrow1 hgge; have hown2 : w1.ownsRow wo.heap.size 2 1 v' (i + 1 + 1) (bl (i + 1) (i + 1 + 1)) := (by rw [bl_succ, bin_top]; exact hown1); obtain ⟨g3, gc3, rfl, p1, p2, p3, p4⟩ := own_formG hown2; replace hown2 : Hid _ := hown2; replace hEg : Hid _ := hEg; clear hown1 hgrow1 hnil)
          have hfin : Hid (WtA w n (.slice (some ⟨g3, 0, none⟩) (i + 1 + 1) gc3) (.int .i64 ((i : Int) + 1)) w1) := (⟨i + 1, g3, gc3, e1, rfl, by go_num, (⟨fun m hm => by rw [World.ownsRow.cellAt hown2.out m (by omega)]; exact bl_get hm, p2, p3, p4⟩ : RowF _ _ _ _), (HE.out.trans hEg.out : Ext _ _)⟩ : WtA _ _ _ _ _)
          clear hown2 hEg
          go_roundw
          case rel => exact hfin.out
          case measure => simp [intOf]; omega
        · have hc1 := HR.out.1 (k - 1) (by omega)
          have hc2 := HR.out.1 k (by omega)
          have hbn := bin_next (i := i) hk1
          have hb1 := bin_le i (k - 1)
          have hb2 := bin_le i k
          have h40 : 2 ^ i ≤ 2 ^ 40 := Nat.pow_le_pow_right (by decide) (by omega)
          have h402 : 2 ^ 40 = 1099511627776 := by decide
          obtain ⟨x, ex⟩ : ∃ x, bin i (k - 1) = x := ⟨_, rfl⟩
          obtain ⟨y, ey⟩ : ∃ y, bin i k = y := ⟨_, rfl⟩
          rw [ex] at hc1 hbn hb1
          rw [ey] at hc2 hbn hb2
          replace hbn : ((bin (i + 1) k : Nat) : Int) = (x : Int) + y := by rw [hbn]; exact Int.natCast_add x y
          have hx1 : (x : Int) ≤ 1099511627776 := by omega
          have hy1 : (y : Int) ≤ 1099511627776 := by omega
          obtain ⟨q, eq⟩ : ∃ q, k - 1 = q := ⟨_, rfl⟩
          obtain ⟨z, ez⟩ : ∃ z, bin (i + 1) k = z := ⟨_, rfl⟩
          rw [eq] at hc1
          rw [ez] at hbn
          have hwk : IntKind.i64.wrap ((k : Int) - 1) = (q : Int) := by rw [IntWalk.i64_left]; simp only [wrap64]; omega
          have hwz : IntKind.i64.wrap ((x : Int) + (y : Int)) = (z : Int) := by rw [IntWalk.i64_left]; simp only [wrap64]; omega
          have hki2 : (q : Int) < (i : Int) + 1 := by omega
          have hki3 : (k : Int) < (i : Int) + 1 := by omega
          replace ez : Hid _ := ez
          clear eq hbn
          have hm3 : Hid (wo.heap.size ≤ (wr.drew.alloc (.cells [Value.int .i64 (z : Int)].toArray 2)).heap.size) := (by rw [World.size_alloc]; exact Nat.le_trans hszx (Nat.le_succ _) : wo.heap.size ≤ (wr.drew.alloc (.cells [Value.int .i64 (z : Int)].toArray 2)).heap.size)
          have hOd : wr.drew.ownsRow wo.heap.size 2 1 (.slice (some ⟨g2, 0, none⟩) k cap2) k (bl (i + 1) k) := HO.out
          clear hb1 hb2 h40 h402 ex ey HO
          go_upto_region 11 with fail
          refine wp_region_held_drew (S := (fun w0 => Ext wo w0)) (by kernel_rfl) ?_ (fun hHeld => ?_)
          · exact HX.out.drew
          try simp only [Act.put, List.setIfInBounds_toArray, List.set_cons_zero, List.set_cons_succ, List.getElem_toArray, List.getElem_cons_succ, List.getElem_cons_zero]
          refine wpAnyH_take (i := 0) (oi := _) (v := ?_) rfl (by kernel_rfl) (by kernel_rfl) (by kernel_rfl) (fun _ _ _ h => h) (Or.inl ⟨by rfl, ?_⟩) (by assumption) ?_
          rotate_left
          · intro w0 hSw; go_simp; try with_reducible rfl
          try simp only [Act.put, List.setIfInBounds_toArray, List.set_cons_zero, List.set_cons_succ, List.getElem_toArray, List.getElem_cons_succ, List.getElem_cons_zero]
          refine wpAnyH_take (i := 1) (oi := _) (v := ?_) rfl (by kernel_rfl) (by kernel_rfl) (by kernel_rfl) (fun _ _ _ h => h) (Or.inl ⟨by rfl, ?_⟩) (by assumption) ?_
          rotate_left
          · intro w0 hSw; go_simp; try with_reducible rfl
          try simp only [Act.put, List.setIfInBounds_toArray, List.set_cons_zero, List.set_cons_succ, List.getElem_toArray, List.getElem_cons_succ, List.getElem_cons_zero]
          refine wpAnyH_take (i := 2) (oi := _) (v := ?_) rfl (by kernel_rfl) (by kernel_rfl) (by kernel_rfl) (fun _ _ _ h => h) (Or.inl ⟨by rfl, ?_⟩) (by assumption) ?_
          rotate_left
          · intro w0 hSw; go_simp; try with_reducible rfl
          try simp only [Act.put, List.setIfInBounds_toArray, List.set_cons_zero, List.set_cons_succ, List.getElem_toArray, List.getElem_cons_succ, List.getElem_cons_zero]
          refine wpAnyH_take (i := 3) (oi := _) (v := ?_) rfl (by kernel_rfl) (by kernel_rfl) (by kernel_rfl) (fun _ _ _ h => h) (Or.inl ⟨by rfl, ?_⟩) (by assumption) ?_
          rotate_left
          · intro w0 hSw; go_simp; try with_reducible rfl
          try simp only [Act.put, List.setIfInBounds_toArray, List.set_cons_zero, List.set_cons_succ, List.getElem_toArray, List.getElem_cons_succ, List.getElem_cons_zero]
          refine wpAnyH_take (i := 4) (oi := _) (v := ?_) rfl (by kernel_rfl) (by kernel_rfl) (by kernel_rfl) (fun _ _ _ h => h) (Or.inl ⟨by rfl, ?_⟩) (by assumption) ?_
          rotate_left
          · intro w0 hSw; go_simp; try with_reducible rfl
          try simp only [Act.put, List.setIfInBounds_toArray, List.set_cons_zero, List.set_cons_succ, List.getElem_toArray, List.getElem_cons_succ, List.getElem_cons_zero]
          refine wpAnyH_take (i := 5) (oi := _) (v := ?_) rfl (by kernel_rfl) (by kernel_rfl) (by kernel_rfl) (fun _ _ _ h => h) (Or.inl ⟨by rfl, ?_⟩) (by assumption) ?_
          rotate_left
          · intro w0 hSw; have r1 := (hSw.cells.1 _ q hgl).trans hc1; have r2 := (hSw.cells.1 _ k hgl).trans hc2; go_simp; try with_reducible rfl
          try simp only [Act.put, List.setIfInBounds_toArray, List.set_cons_zero, List.set_cons_succ, List.getElem_toArray, List.getElem_cons_succ, List.getElem_cons_zero]
          refine wpAnyH_take (i := 6) (oi := _) (v := ?_) rfl (by kernel_rfl) (by kernel_rfl) (by kernel_rfl) (fun _ _ _ h => h) (Or.inl ⟨by rfl, ?_⟩) (by assumption) ?_
          rotate_left
          · intro w0 hSw; go_simp; try with_reducible rfl
          try simp only [Act.put, List.setIfInBounds_toArray, List.set_cons_zero, List.set_cons_succ, List.getElem_toArray, List.getElem_cons_succ, List.getElem_cons_zero]
          refine wpAnyH_take (i := 7) (oi := _) (v := ?_) rfl (by kernel_rfl) (by kernel_rfl) (by kernel_rfl) (fun _ _ _ h => h) (Or.inl ⟨by rfl, ?_⟩) (by assumption) ?_
          rotate_left
          · intro w0 hSw; go_simp; try with_reducible rfl
          try simp only [Act.put, List.setIfInBounds_toArray, List.set_cons_zero, List.set_cons_succ, List.getElem_toArray, List.getElem_cons_succ, List.getElem_cons_zero]
          refine wpAnyH_take (i := 8) (oi := _) (v := ?_) rfl (by kernel_rfl) (by kernel_rfl) (by kernel_rfl) (fun _ _ _ h => h) (Or.inl ⟨by rfl, ?_⟩) (by assumption) ?_
          rotate_left
          · intro w0 hSw; go_simp; try with_reducible rfl
          try simp only [Act.put, List.setIfInBounds_toArray, List.set_cons_zero, List.set_cons_succ, List.getElem_toArray, List.getElem_cons_succ, List.getElem_cons_zero]
          refine wpAnyH_take (i := 9) (oi := _) (v := ?_) rfl (by kernel_rfl) (by kernel_rfl) (by kernel_rfl) (fun _ _ _ h => h) (Or.inl ⟨by rfl, ?_⟩) (by assumption) ?_
          rotate_left
          · intro w0 hSw; have r1 := (hSw.cells.1 _ q hgl).trans hc1; have r2 := (hSw.cells.1 _ k hgl).trans hc2; go_simp; try with_reducible rfl
          try simp only [Act.put, List.setIfInBounds_toArray, List.set_cons_zero, List.set_cons_succ, List.getElem_toArray, List.getElem_cons_succ, List.getElem_cons_zero]
          refine wpAnyH_take (i := 10) (oi := _) (v := ?_) rfl (by kernel_rfl) (by kernel_rfl) (by kernel_rfl) (fun _ _ _ h => h) (Or.inl ⟨by rfl, ?_⟩) (by assumption) ?_
          rotate_left
          · intro w0 hSw; go_simp; try with_reducible rfl
          try simp only [Act.put, List.setIfInBounds_toArray, List.set_cons_zero, List.set_cons_succ, List.getElem_toArray, List.getElem_cons_succ, List.getElem_cons_zero]
          refine wpAnyH_ready (rs := [11]) (by kernel_rfl) (by simp) ?_
          refine AllReadyH.cons (o := _) rfl (fun K hK => ?_) AllReadyH.nil
          go_simp
          refine hK.out _ _ ?_ (fun hHeldN => ?_)
          · (try dsimp only); exact hHeld.alloc _
          clear hK K hHeld
          have hHeld := hHeldN
          clear hHeldN
          try simp only [Act.put, List.setIfInBounds_toArray, List.set_cons_zero, List.set_cons_succ, List.getElem_toArray, List.getElem_cons_succ, List.getElem_cons_zero]
          refine wpAnyH_ready (rs := [12]) (by kernel_rfl) (by simp) ?_
          refine AllReadyH.cons (o := _) rfl (fun K hK => ?_) AllReadyH.nil
          rw [if_pos (by rfl)]
          refine wp_append_own _ _ _ 64 rfl wo.heap.size 2 i0 (.int .i64 0) 1 8 Try.underlying64 hi hz0 hz1 hz2 rfl (by decide) _ _ _ rfl (World.ownsRow.alloc hOd _) ⟨wr.heap.size, 0, none⟩ 1 1 [.int .i64 (z : Int)] rfl rfl (cell_new_c wr.drew _ 2) (by intro u hu; simp at hu; subst hu; rfl) hm1.out hm2.out hm3.out ?_
          intro v' w1 hown1 hgrow1 hnil
          refine hK.out _ _ ?_ (fun hHeldN => ?_)
          · (try dsimp only); exact Ext.grownAt hHeld hgrow1 hgge
          clear hK K hHeld
          have hHeld := hHeldN
          clear hHeldN
          try simp only [Act.put, List.setIfInBounds_toArray, List.set_cons_zero, List.set_cons_succ, List.getElem_toArray, List.getElem_cons_succ, List.getElem_cons_zero]
          refine wpAnyH_take (i := 13) (oi := _) (v := ?_) rfl (by kernel_rfl) (by kernel_rfl) (by kernel_rfl) (fun _ _ _ h => h) (Or.inl ⟨by rfl, ?_⟩) (by assumption) ?_
          rotate_left
          · intro w0 hSw; go_simp; try with_reducible rfl
          try simp only [Act.put, List.setIfInBounds_toArray, List.set_cons_zero, List.set_cons_succ, List.getElem_toArray, List.getElem_cons_succ, List.getElem_cons_zero]
          refine wpAnyH_done (by kernel_rfl) ?_ _
          have hown2 : w1.ownsRow wo.heap.size 2 1 v' (k + 1) (bl (i + 1) (k + 1)) := by rw [bl_succ, ez.out]; exact hown1
          obtain ⟨g3, gc3, rfl, p1, p2, p3, p4⟩ := own_formG hown2
          replace hown2 : Hid _ := hown2
          replace hHeld : Hid _ := hHeld
          clear hown1 hgrow1 hnil hOd
          go_wp2_with fail
          go_roundw
          case rel => exact ⟨k + 1, g3, gc3, by omega, by omega, rfl, by go_num, p1, p2, p3, p4, hown2, hHeld⟩
          case measure => simp [intOf]; omega

end Go.Proofs.Ytcalonhphknbbaa
