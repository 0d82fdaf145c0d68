/- Numbers with signs: the int64 of one.; Limbs: differences. -/
import Derived.Test.YtogblocakccbgaaGreatJ00
import Derived.Test.YtogblocakccbgaaGreatJ05
import Derived.Test.YtogblocakccbgaaGreatJ10
import Derived.Test.YtogblocakccbgaaGreatJ02
import Derived.Test.YtogblocakccbgaaGreatJ03
import Derived.Test.YtogblocakccbgaaGreatJ06
set_option linter.unusedSimpArgs false
set_option linter.unusedVariables false
set_option maxRecDepth 100000
set_option maxHeartbeats 4000000
namespace Go.Proofs.YtogblocakccbgaaGreat
open Go.RowKit
theorem T_ZN_3 {p : Prop} (h : p := by
 clear hck hu
 simp only [List.length_cons, List.length_nil, Nat.zero_add, Nat.reduceAdd] at v2 hck3 ⊢
 go_enter Tryz.func119, Tryz.ntmps119
 go_wp2_with (go_at_call 52; (with_reducible refine hck3.mono ?_); rintro e w1 ⟨rfl, hb⟩; obtain ⟨_, _, hc, hf⟩ := hb.cells2; have hz := hb.size; (try simp only [wsz] at hz hc hf))
 refine wp_loop_rounds 2 ?_
 rw [rounds_succ]
 go_wp2_with fail
 exact T_ZN_1) : p := h
theorem T_ZN_2 {p : Prop} (h : p := by
 clear hck hu
 simp only [List.length_cons, List.length_nil, Nat.zero_add, Nat.reduceAdd] at v2 hck3 ⊢
 go_enter Tryz.func119, Tryz.ntmps119
 go_wp2_with (go_at_call 52; (with_reducible refine hck3.mono ?_); rintro e w1 ⟨rfl, hb⟩; obtain ⟨_, _, hc, hf⟩ := hb.cells2; have hz := hb.size; (try simp only [wsz] at hz hc hf))
 refine wp_loop_rounds 3 ?_
 rw [rounds_succ]
 go_wp2_with fail
 rw [rounds_succ]
 go_wp2_with fail
 exact T_ZN_1) : p := h
theorem T_ZN_1 {p : Prop} (h : p := by
 rw [rounds_succ]
 go_wp2_with fail
 go_ret2
 exact ⟨rfl, ex_⟩) : p := h
theorem or_lh (h l : Int) (h0 : 0 ≤ h) (h1 : h < 4294967296) (hl : U32 l) : bits .or .u64 l (h * 4294967296) = l + h * 4294967296 := by
 unfold U32 at hl
 obtain ⟨a, rfl⟩ := Int.eq_ofNat_of_zero_le h0
 obtain ⟨b, rfl⟩ := Int.eq_ofNat_of_zero_le hl.1
 have e3 : (a : Int) * 4294967296 = ((2 ^ 32 * a : Nat) : Int) := by rw [Int.natCast_mul]; omega
 have e := Nat.two_pow_add_eq_or_of_lt (i := 32) (b := b) (by omega) a
 rw [e3, u64_or_nat _ _ (by omega) (by omega), Nat.or_comm, ← e]
 omega
theorem or_zero (l : Int) (hl : U32 l) : bits .or .u64 0 l = l := by
 unfold U32 at hl
 obtain ⟨b, rfl⟩ := Int.eq_ofNat_of_zero_le hl.1
 rw [show (0 : Int) = ((0 : Nat) : Int) from rfl, u64_or_nat _ _ (by omega) (by omega), Nat.zero_or]
theorem two_limbs {X : List Int} (h : X.length ≤ 2) : X = [] ∨ (∃ a, X = [a]) ∨ ∃ a b, X = [a, b] := by
 match X, h with
 | [], _ => exact Or.inl rfl
 | [a], _ => exact Or.inr (Or.inl ⟨a, rfl⟩)
 | [a, b], _ => exact Or.inr (Or.inr ⟨a, b, rfl⟩)
 | a :: b :: c :: r, h => simp at h
theorem z_Int0false (va u : Value) (w : World) (hva : va = .agg #[.bool false, u]) (hu : Lim w u [])
    (hck : ∀ w1, Ext w w1 → Calls Tryz.prog 52 #[.slice (some ⟨w1.heap.size, 0, none⟩) 1 1] (w1.alloc (.cells #[.bool false, u] 24)) fun e w' => e = .returned (.int .i64 0) ∧ Ext (w1.alloc (.cells #[.bool false, u] 24)) w') :
    Calls Tryz.prog 119 #[va] w fun e w' => e = .returned (.tuple #[.int .i64 (0), .int .i64 0]) ∧ Ext w w' := by
 subst hva
 obtain ⟨ao, b1, o1, cap1, rfl, v1, v2, v3, v4, v5, v6⟩ := hu.view
 clear v1 v5 v4 v6
 have hck3 := hck (w.alloc (.cells #[.bool false, .slice ao 0 cap1] 24)) ex_
 simp only [World.size_alloc] at hck3
 clear hck hu
 simp only [List.length_cons, List.length_nil, Nat.zero_add, Nat.reduceAdd] at v2 hck3 ⊢
 go_enter Tryz.func119, Tryz.ntmps119
 go_wp2_with (go_at_call 52; (with_reducible refine hck3.mono ?_); rintro e w1 ⟨rfl, hb⟩; obtain ⟨_, _, hc, hf⟩ := hb.cells2; have hz := hb.size; (try simp only [wsz] at hz hc hf))
 refine wp_loop_rounds 1 ?_
 exact T_ZN_1
theorem z_Int1false (a : Int) (va u : Value) (w : World) (hva : va = .agg #[.bool false, u]) (hu : Lim w u [a])
    (hck : ∀ w1, Ext w w1 → Calls Tryz.prog 52 #[.slice (some ⟨w1.heap.size, 0, none⟩) 1 1] (w1.alloc (.cells #[.bool false, u] 24)) fun e w' => e = .returned (.int .i64 0) ∧ Ext (w1.alloc (.cells #[.bool false, u] 24)) w') :
    Calls Tryz.prog 119 #[va] w fun e w' => e = .returned (.tuple #[.int .i64 (a), .int .i64 0]) ∧ Ext w w' := by
 subst hva
 obtain ⟨ao, b1, o1, cap1, rfl, v1, v2, v3, v4, v5, v6⟩ := hu.view
 have haU : U32 a := (hu.lb.getD 0)
 have e0 := v1 (by simp)
 subst e0
 have hl0 := v5 0 (by simp)
 have hbl := v4 (by simp)
 simp only [List.getD_cons_zero, List.getD_cons_succ, Nat.add_zero] at hl0
 have ho0 := or_zero a haU
 unfold U32 at haU
 clear v1 v5 v4 v6
 have hck3 := hck (w.alloc (.cells #[.bool false, .slice (some ⟨b1, o1, none⟩) 1 cap1] 24)) ex_
 simp only [World.size_alloc] at hck3
 exact T_ZN_3
theorem z_Int1true (a : Int) (va u : Value) (w : World) (hva : va = .agg #[.bool true, u]) (hu : Lim w u [a])
    (hck : ∀ w1, Ext w w1 → Calls Tryz.prog 52 #[.slice (some ⟨w1.heap.size, 0, none⟩) 1 1] (w1.alloc (.cells #[.bool true, u] 24)) fun e w' => e = .returned (.int .i64 0) ∧ Ext (w1.alloc (.cells #[.bool true, u] 24)) w') :
    Calls Tryz.prog 119 #[va] w fun e w' => e = .returned (.tuple #[.int .i64 (-(a)), .int .i64 0]) ∧ Ext w w' := by
 subst hva
 obtain ⟨ao, b1, o1, cap1, rfl, v1, v2, v3, v4, v5, v6⟩ := hu.view
 have haU : U32 a := (hu.lb.getD 0)
 have e0 := v1 (by simp)
 subst e0
 have hl0 := v5 0 (by simp)
 have hbl := v4 (by simp)
 simp only [List.getD_cons_zero, List.getD_cons_succ, Nat.add_zero] at hl0
 have ho0 := or_zero a haU
 unfold U32 at haU
 have hng : IntKind.i64.wrap (IntKind.u64.wrap (-(a))) = -(a) := by rw [IntKind.wrap_i64, IntKind.wrap_u64]; omega
 have hng2 : wrap64 (IntKind.u64.wrap (-a)) = -a := by rw [IntKind.wrap_u64]; unfold wrap64; omega
 have hle : decide ((a) ≤ 9223372036854775808) = true := decide_eq_true (by omega)
 clear v1 v5 v4 v6
 have hck3 := hck (w.alloc (.cells #[.bool true, .slice (some ⟨b1, o1, none⟩) 1 cap1] 24)) ex_
 simp only [World.size_alloc] at hck3
 exact T_ZN_3
theorem z_Int2false (a b : Int) (va u : Value) (w : World) (hva : va = .agg #[.bool false, u]) (hu : Lim w u [a, b]) (hlt : a + b * 4294967296 < 9223372036854775808)
    (hck : ∀ w1, Ext w w1 → Calls Tryz.prog 52 #[.slice (some ⟨w1.heap.size, 0, none⟩) 1 1] (w1.alloc (.cells #[.bool false, u] 24)) fun e w' => e = .returned (.int .i64 0) ∧ Ext (w1.alloc (.cells #[.bool false, u] 24)) w') :
    Calls Tryz.prog 119 #[va] w fun e w' => e = .returned (.tuple #[.int .i64 (a + b * 4294967296), .int .i64 0]) ∧ Ext w w' := by
 subst hva
 obtain ⟨ao, b1, o1, cap1, rfl, v1, v2, v3, v4, v5, v6⟩ := hu.view
 have haU : U32 a := (hu.lb.getD 0)
 have e0 := v1 (by simp)
 subst e0
 have hl0 := v5 0 (by simp)
 have hbl := v4 (by simp)
 simp only [List.getD_cons_zero, List.getD_cons_succ, Nat.add_zero] at hl0
 have ho0 := or_zero a haU
 have hbU : U32 b := (hu.lb.getD 1)
 have hl1 := v5 1 (by simp)
 simp only [List.getD_cons_zero, List.getD_cons_succ] at hl1
 have ho1 := or_lh b a (by unfold U32 at hbU; omega) (by unfold U32 at hbU; omega) haU
 unfold U32 at haU
 unfold U32 at hbU
 clear v1 v5 v4 v6
 have hck3 := hck (w.alloc (.cells #[.bool false, .slice (some ⟨b1, o1, none⟩) 2 cap1] 24)) ex_
 simp only [World.size_alloc] at hck3
 exact T_ZN_2
theorem z_Int2true (a b : Int) (va u : Value) (w : World) (hva : va = .agg #[.bool true, u]) (hu : Lim w u [a, b]) (hlt : a + b * 4294967296 ≤ 9223372036854775808)
    (hck : ∀ w1, Ext w w1 → Calls Tryz.prog 52 #[.slice (some ⟨w1.heap.size, 0, none⟩) 1 1] (w1.alloc (.cells #[.bool true, u] 24)) fun e w' => e = .returned (.int .i64 0) ∧ Ext (w1.alloc (.cells #[.bool true, u] 24)) w') :
    Calls Tryz.prog 119 #[va] w fun e w' => e = .returned (.tuple #[.int .i64 (-(a + b * 4294967296)), .int .i64 0]) ∧ Ext w w' := by
 subst hva
 obtain ⟨ao, b1, o1, cap1, rfl, v1, v2, v3, v4, v5, v6⟩ := hu.view
 have haU : U32 a := (hu.lb.getD 0)
 have e0 := v1 (by simp)
 subst e0
 have hl0 := v5 0 (by simp)
 have hbl := v4 (by simp)
 simp only [List.getD_cons_zero, List.getD_cons_succ, Nat.add_zero] at hl0
 have ho0 := or_zero a haU
 have hbU : U32 b := (hu.lb.getD 1)
 have hl1 := v5 1 (by simp)
 simp only [List.getD_cons_zero, List.getD_cons_succ] at hl1
 have ho1 := or_lh b a (by unfold U32 at hbU; omega) (by unfold U32 at hbU; omega) haU
 unfold U32 at haU
 unfold U32 at hbU
 have hng : IntKind.i64.wrap (IntKind.u64.wrap (-(a + b * 4294967296))) = -(a + b * 4294967296) := by rw [IntKind.wrap_i64, IntKind.wrap_u64]; omega
 have hng2 : wrap64 (IntKind.u64.wrap (-(a + b * 4294967296))) = -(a + b * 4294967296) := by rw [IntKind.wrap_u64]; unfold wrap64; omega
 have hle : decide ((a + b * 4294967296) ≤ 9223372036854775808) = true := decide_eq_true (by omega)
 clear v1 v5 v4 v6
 have hck3 := hck (w.alloc (.cells #[.bool true, .slice (some ⟨b1, o1, none⟩) 2 cap1] 24)) ex_
 simp only [World.size_alloc] at hck3
 exact T_ZN_2
theorem z_Int (va : Value) (n : Int) (w : World) (ha : Wid w va n) (h0 : -9223372036854775808 ≤ n) (h1 : n ≤ 9223372036854775807) :
    Calls Tryz.prog 119 #[va] w fun e w' => e = .returned (.tuple #[.int .i64 n, .int .i64 0]) ∧ Ext w w' := by
 obtain ⟨u, hva, hu⟩ := ha
 have hs : Sz n := dig_bits (k := 64) (L := 4096) (by omega) (by decide)
 have hl2 : (dig n.natAbs).length ≤ 2 := dig_bits (k := 64) (L := 2) (by omega) (by decide)
 have hck := fun w1 (k1 : Ext w w1) => z_check_one w1 _ (decide (n < 0)) n.natAbs (hu.ext k1) hs (wid_s _ rfl)
 have hv := dig_val n.natAbs
 have hp := dig_pos (m := n.natAbs)
 rcases two_limbs hl2 with e | ⟨a, e⟩ | ⟨a, b, e⟩
 ·rw [e] at hv hu
  simp only [val] at hv
  have hn : n = 0 := by omega
  have hd : decide (n < 0) = false := decide_eq_false (by omega)
  rw [hd] at hva hck
  rw [hn]
  exact z_Int0false va u w hva hu hck
 ·rw [e] at hv hu
  simp only [val] at hv
  have hB : BB = 4294967296 := rfl
  rw [hB] at hv
  by_cases h : n < 0
  ·rw [decide_eq_true h] at hva hck
   have hn : n = -a := by omega
   rw [hn]
   exact z_Int1true a va u w hva hu hck
  ·rw [decide_eq_false h] at hva hck
   have hn : n = a := by omega
   rw [hn]
   exact z_Int1false a va u w hva hu hck
 ·rw [e] at hv hu
  simp only [val] at hv
  have hB : BB = 4294967296 := rfl
  rw [hB] at hv
  by_cases h : n < 0
  ·rw [decide_eq_true h] at hva hck
   have hn : n = -(a + b * 4294967296) := by omega
   rw [hn]
   exact z_Int2true a b va u w hva hu (by omega) hck
  ·rw [decide_eq_false h] at hva hck
   have hn : n = a + b * 4294967296 := by omega
   rw [hn]
   exact z_Int2false a b va u w hva hu (by omega) hck
theorem T_MI_1 {p : Prop} (h : p := by
 go_roundw
 case rel => exact ⟨k + 1, _, _, hkx, rfl, by go_num, hnx.1, hnx.2, by simp [hzl], hzb.snoc (U32.mod _), hq.out, hst, hes⟩
 case measure => simp [intOf]; omega) : p := h
theorem minus_step {X Y zs : List Int} {k : Nat} {z x y : Int} (hv : val zs - BB ^ k * z = val (X.take k) - val (Y.take k)) (hl : zs.length = k) (hx : X.getD k 0 = x) (hy : Y.getD k 0 = y) :
    val (zs ++ [(x - y - z) % 4294967296]) - BB ^ (k + 1) * (-((x - y - z) / 4294967296)) = val (X.take (k + 1)) - val (Y.take (k + 1)) := by
 rw [val_append, hl, val_take_succ', val_take_succ', hx, hy, Int.pow_succ]
 simp only [val]
 have e := lim_mod (x - y - z)
 change (x - y - z) % 4294967296 + 4294967296 * ((x - y - z) / 4294967296) = x - y - z at e
 generalize (x - y - z) % 4294967296 = r at *
 generalize (x - y - z) / 4294967296 = q at *
 have e2 : BB ^ k * (r + 4294967296 * q) = BB ^ k * (x - y - z) := by rw [e]
 unfold BB at *
 grind
theorem w_minus (va vb : Value) (X Y : List Int) (w : World) (ha : Lim w va X) (hb : Lim w vb Y) (hx : X.length ≤ 100000) (hle : Y.length ≤ X.length) (hv0 : val Y ≤ val X) :
    Calls Tryz.prog 124 #[va, vb] w fun e w' => ∃ u zs, e = .returned u ∧ Lim w' u zs ∧ val zs = val X - val Y ∧ Ext w w' := by
  obtain ⟨aoA, bA, oA, cA, rfl, a1, a2, a3, a4, a5, a6⟩ := ha.view
  obtain ⟨aoB, bB, oB, cB, rfl, b1, b2, b3, b4, b5, b6⟩ := hb.view
  have lA := ha.lb
  have lB := hb.lb
  obtain ⟨i0, hi, hz0, hz1, hz2⟩ := info_parts info81
  go_enter Tryz.func124, Tryz.ntmps124
  go_wp2_with (at_make; refine wpList_make_full _ rfl _ _ 22 rfl w.heap.size 25 i0 (.int .u32 0) 1 Tryz.underlying22 hi hz0 hz1 .i64 .i64 _ _ X.length rfl rfl (by omega) (by omega) c_38 c_21 (Nat.le_refl _) ?_; intro w0 hown0 hgrow0)
  have hR0 : R32 w0 w.heap.size w.heap.size X.length (List.replicate X.length 0) := R32.made hown0
  have hE0 : Ext w w0 := Ext.grown (Ext.refl w) hgrow0
  clear hown0 hgrow0
  go_loopw [6, 15] (fun c i wr => ∃ (k : Nat) (z : Int) (zs : List Int), k ≤ X.length ∧ c = .int .u32 z ∧ i = .int .i64 k ∧ 0 ≤ z ∧ z ≤ 1 ∧ zs.length = k ∧ Lb zs ∧ val zs - BB ^ k * z = val (X.take k) - val (Y.take k) ∧
      Hid (R32 wr w.heap.size w.heap.size X.length (zs ++ List.replicate (X.length - k) 0)) ∧ Hid (Ext w wr)) (fun _ i _ => X.length - (intOf i).toNat)
  case atStart => exact ⟨0, 0, [], Nat.zero_le _, rfl, rfl, by decide, by decide, rfl, Lb.nil, by simp [val], hR0, hE0⟩
  case round =>
    obtain ⟨k, z, zs, hk, rfl, rfl, z0, z1, hzl, hzb, hv, HR, HE⟩ := hrel
    by_cases hkx : k < X.length
    · have hg := HR.out.zero hzl hkx
      have hgf := HR.out.frozen k
      have hglt := HR.out.lt
      have eA := a1 (by omega)
      subst eA
      have hca := (HE.out.cells.1 _ (oA + k) (a4 (by omega))).trans (a5 k hkx)
      have hxk : U32 (X.getD k 0) := lA.getD k
      have hyk : U32 (Y.getD k 0) := lB.getD k
      obtain ⟨x, ex⟩ : ∃ x, X.getD k 0 = x := ⟨_, rfl⟩
      obtain ⟨y, ey⟩ : ∃ y, Y.getD k 0 = y := ⟨_, rfl⟩
      have hq := minus_step hv hzl ex ey
      rw [ex] at hca hxk
      rw [ey] at hyk
      have hst := HR.out.step hzl (by omega) ((x - y - z) % 4294967296)
      have hes : Ext w (wr.setCell ⟨w.heap.size, k, none⟩ (.int .u32 ((x - y - z) % 4294967296))) := HE.out.setCell (p := ⟨w.heap.size, k, none⟩) (Nat.le_refl _) _
      have hnx : 0 ≤ -((x - y - z) / 4294967296) ∧ -((x - y - z) / 4294967296) ≤ 1 := by unfold U32 at hxk hyk; omega
      replace hst : Hid _ := hst
      replace hes : Hid _ := hes
      replace hq : Hid _ := hq
      by_cases hky : k < Y.length
      · have eB := b1 (by omega)
        subst eB
        have hcb := (HE.out.cells.1 _ (oB + k) (b4 (by omega))).trans (b5 k hky)
        rw [ey] at hcb
        clear ex ey hv a5 b5
        go_wp2_with (go_at_call 176; (with_reducible refine (w_sub32 x y z _ hxk hyk ⟨z0, z1⟩).mono ?_); rintro e w2 ⟨rfl, rfl⟩)
        exact T_MI_1
      · have hy0 : y = 0 := by rw [← ey, List.getD_eq_getElem?_getD, List.getElem?_eq_none (by omega)]; rfl
        subst hy0
        clear ex ey hv a5 b5
        simp only [Int.sub_zero] at hst hes hq hnx
        go_wp2_with (go_at_call 176; (with_reducible refine (w_sub32 x 0 z _ hxk hyk ⟨z0, z1⟩).mono ?_); rintro e w2 ⟨rfl, rfl⟩)
        exact T_MI_1
    · have hkl : k = X.length := by omega
      subst hkl
      have hvv : val zs = val X - val Y := by
        rw [List.take_length, List.take_of_length_le hle] at hv
        have hlt := val_lt hzb
        rw [hzl] at hlt
        rcases (by omega : z = 0 ∨ z = 1) with rfl | rfl <;> omega
      have hst := HR.out
      rw [Nat.sub_self, List.replicate_zero, List.append_nil] at hst
      replace hst : Hid _ := hst
      go_wp2_with fail
      go_ret
      exact ⟨_, zs, rfl, R32.lim hst.out hzb (by omega), hvv, HE.out⟩
end Go.Proofs.YtogblocakccbgaaGreat
