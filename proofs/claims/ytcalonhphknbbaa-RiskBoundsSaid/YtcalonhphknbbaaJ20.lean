/- The reference's digit of a quotient: what its rounds do. -/
import Derived.Test.YtcalonhphknbbaaJ14
import Derived.Test.YtcalonhphknbbaaJ04
import Derived.Test.YtcalonhphknbbaaJ12
import Derived.Laws.AppendOwnNone
set_option linter.unusedSimpArgs false
set_option linter.unusedVariables false
namespace Go.Proofs.Ytcalonhphknbbaa
open Go.RowKit

theorem top_le {M Y : List Int} {n : Nat} {a v : Int} (hM : M.length = n + 2) (hY : Y.length = n + 1) (lM : Lb M) (lY : Lb Y) (ha : M.getD (n + 1) 0 = a) (hv : Y.getD n 0 = v) (h : val M < BB * val Y) : a ≤ v := by
  have e1 := val_take_succ' M (n + 1)
  rw [List.take_of_length_le (by omega), ha] at e1
  have e2 := val_take_succ' Y n
  rw [List.take_of_length_le (by omega), hv] at e2
  have p1 := val_nonneg (lM.take (n + 1))
  have p2 := val_lt (lY.take n)
  rw [List.length_take, Nat.min_eq_left (by omega)] at p2
  have hP : (0 : Int) < BB ^ n := Int.pow_pos (by decide)
  rw [Int.pow_succ] at e1
  generalize val (M.take (n + 1)) = A at *
  generalize val (Y.take n) = R at *
  have h4 : BB = 4294967296 := rfl
  generalize hC : BB ^ n = C at *
  rw [h4] at h e1
  have h1 : C * a < C * (v + 1) := by
    have e3 : C * 4294967296 * a = 4294967296 * (C * a) := by grind
    have e4 : C * (v + 1) = C * v + C := by grind
    omega
  have := Int.lt_of_mul_lt_mul_left h1 (Int.le_of_lt hP)
  omega
theorem guess_ok2 {M Y : List Int} {n : Nat} {a b v : Int} (hM : M.length = n + 2) (hY : Y.length = n + 1) (lM : Lb M) (lY : Lb Y) (ha : M.getD (n + 1) 0 = a) (hb : M.getD n 0 = b) (hv : Y.getD n 0 = v) (h : 0 < v) :
    val M < ((a * 4294967296 + b) / v + 1) * val Y := by
  have e1 : val M = val (M.take n) + BB ^ n * b + BB ^ n * (BB * a) := by
    have h2 := val_take_succ' M (n + 1)
    rw [List.take_of_length_le (by omega), val_take_succ', ha, hb, Int.pow_succ] at h2
    rw [h2]; grind
  have e2 : val Y = val (Y.take n) + BB ^ n * v := by
    have h2 := val_take_succ' Y n
    rw [List.take_of_length_le (by omega), hv] at h2
    exact h2
  have l1 := val_lt (lM.take n)
  rw [List.length_take, Nat.min_eq_left (by omega)] at l1
  have l2 := val_nonneg (lY.take n)
  have a0 : 0 ≤ a := by rw [← ha]; exact (lM.getD _).1
  have b0 : 0 ≤ b := by rw [← hb]; exact (lM.getD _).1
  have hq := Int.lt_ediv_add_one_mul_self (a * 4294967296 + b) h
  have hq0 : 0 ≤ (a * 4294967296 + b) / v := Int.ediv_nonneg (by omega) (by omega)
  generalize (a * 4294967296 + b) / v = q at *
  rw [e1, e2]
  have hP : (0 : Int) ≤ BB ^ n := Int.pow_nonneg (by decide)
  generalize val (M.take n) = P at *
  generalize val (Y.take n) = R at *
  have m1 : BB ^ n * (a * 4294967296 + b + 1) ≤ BB ^ n * ((q + 1) * v) := Int.mul_le_mul_of_nonneg_left (by omega) hP
  have m2 : 0 ≤ (q + 1) * R := Int.mul_nonneg (by omega) l2
  have h4 : BB = 4294967296 := rfl
  generalize hC : BB ^ n = C at *
  rw [h4]
  have m3 : C * (a * 4294967296 + b + 1) = C * b + C * (4294967296 * a) + C := by grind
  have m4 : (q + 1) * (R + C * v) = (q + 1) * R + C * ((q + 1) * v) := by grind
  omega
/-- The test shows that the guess is too great. -/
theorem guess_less {M Y : List Int} {n : Nat} {a b c v v' q r : Int} (hM : M.length = n + 3) (hY : Y.length = n + 2) (lM : Lb M) (lY : Lb Y) (ha : M.getD (n + 2) 0 = a) (hb : M.getD (n + 1) 0 = b) (hc : M.getD n 0 = c) (hv : Y.getD (n + 1) 0 = v) (hv' : Y.getD n 0 = v')
    (hq : q * v + r = a * 4294967296 + b) (h0 : 0 ≤ q) (h : r * 4294967296 + c < q * v') : val M < q * val Y := by
  have e1 : val M = val (M.take n) + BB ^ n * (c + BB * b + BB * BB * a) := by
    have h2 := val_take_succ' M (n + 2)
    rw [List.take_of_length_le (by omega), val_take_succ', val_take_succ', ha, hb, hc, Int.pow_succ, Int.pow_succ] at h2
    rw [h2]; grind
  have e2 : val Y = val (Y.take n) + BB ^ n * (v' + BB * v) := by
    have h2 := val_take_succ' Y (n + 1)
    rw [List.take_of_length_le (by omega), val_take_succ', hv, hv', Int.pow_succ] at h2
    rw [h2]; grind
  have l1 := val_lt (lM.take n)
  rw [List.length_take, Nat.min_eq_left (by omega)] at l1
  have l2 := val_nonneg (lY.take n)
  have hP : (0 : Int) ≤ BB ^ n := Int.pow_nonneg (by decide)
  rw [e1, e2]
  generalize val (M.take n) = P at *
  generalize val (Y.take n) = R at *
  generalize BB ^ n = C at *
  have h4 : BB = 4294967296 := rfl
  rw [h4]
  have m0 : 1 + c + 4294967296 * b + 4294967296 * 4294967296 * a ≤ q * (v' + 4294967296 * v) := by
    have e3 : q * (v' + 4294967296 * v) = q * v' + 4294967296 * (q * v) := by grind
    omega
  have m1 : C * (1 + c + 4294967296 * b + 4294967296 * 4294967296 * a) ≤ C * (q * (v' + 4294967296 * v)) := Int.mul_le_mul_of_nonneg_left m0 hP
  have m2 : 0 ≤ q * R := Int.mul_nonneg h0 l2
  have m3 : q * (R + C * (v' + 4294967296 * v)) = q * R + C * (q * (v' + 4294967296 * v)) := by grind
  have m4 : C * (1 + c + 4294967296 * b + 4294967296 * 4294967296 * a) = C + C * (c + 4294967296 * b + 4294967296 * 4294967296 * a) := by grind
  omega
theorem row3_get {A ps R C : List Int} {o j : Nat} (hA : A.length = o) (hp : ps.length = j) (hj : j < R.length) : (A ++ (ps ++ (R.drop j ++ C))).getD (o + j) 0 = R.getD j 0 := by
  rw [List.getD_eq_getElem?_getD, List.getElem?_append_right (by omega), List.getElem?_append_right (by omega), List.getElem?_append_left (by rw [List.length_drop]; omega), List.getElem?_drop, ← List.getD_eq_getElem?_getD]
  congr 1; omega
theorem row3_set {A ps R C : List Int} {o j : Nat} {z : Int} (hA : A.length = o) (hp : ps.length = j) (hj : j < R.length) : (A ++ (ps ++ (R.drop j ++ C))).set (o + j) z = A ++ ((ps ++ [z]) ++ (R.drop (j + 1) ++ C)) := by
  rw [List.set_append_right _ _ (by omega), List.set_append_right _ _ (by omega), List.set_append_left _ _ (by rw [List.length_drop]; omega), show o + j - A.length - ps.length = 0 from by omega, List.drop_eq_getElem_cons hj, List.set_cons_zero, List.append_assoc]
  rfl
theorem row_mid {U : List Int} {o m : Nat} : U.take o ++ (((U.drop o).take m).drop 0 ++ U.drop (o + m)) = U := by
  rw [List.drop_zero, ← List.drop_drop, List.take_append_drop, List.take_append_drop]
/-- One round of the addition back. -/
theorem back_step {R Y ps : List Int} {i : Nat} {c u y : Int} (hv : val ps + BB ^ i * c = val (R.take i) + val (Y.take i)) (hl : ps.length = i) (hu : R.getD i 0 = u) (hy : Y.getD i 0 = y) :
    val (ps ++ [(c + u + y) % 4294967296]) + BB ^ (i + 1) * ((c + u + y) / 4294967296) = val (R.take (i + 1)) + val (Y.take (i + 1)) := by
  rw [val_take_succ', val_take_succ', hu, hy, val_append, hl]
  simp only [val]
  have hm := lim_mod (c + u + y)
  have h4 : BB = 4294967296 := rfl
  rw [h4] at hm hv ⊢
  generalize (c + u + y) % 4294967296 = t at hm ⊢
  generalize (c + u + y) / 4294967296 = c' at hm ⊢
  rw [Int.pow_succ]
  generalize (4294967296 : Int) ^ i = C at *
  generalize val (R.take i) = V at *
  generalize val (Y.take i) = W at *
  generalize val ps = Z at *
  have e1 : C * (t + 4294967296 * c') = C * (c + u + y) := by rw [hm]
  grind
end Go.Proofs.Ytcalonhphknbbaa

/- The reference: limbs without the zeros at the end. -/
namespace Go.Proofs.Ytcalonhphknbbaa
open Go.RowKit

set_option maxRecDepth 100000 in
set_option maxHeartbeats 2000000 in
theorem r_trim (v : Value) (xs : List Int) (w : World) (h : Lim w v xs) :
    Calls Try.prog 60 #[v] w fun e w' => ∃ u, e = .returned u ∧ Lim w' u (trimL xs) ∧ Ext w w' := by
  have hlb := h.lb
  rcases h.2 with ⟨rfl, rfl⟩ | ⟨b, o, cap, rfl, h1, h2, h3, h4⟩
  · obtain ⟨i0, hi, hz0, hz1, hz2⟩ := info_parts info81
    have hown : (w.alloc (.cells #[] 81)).ownsRow w.heap.size 81 1 (.slice (some ⟨w.heap.size, 0, none⟩) 0 0) 0 (([] : List Int).map (Value.int .u32)) := World.ownsRow_lit w #[] 0 (Nat.le_refl _) (by decide) rfl
    have hL := Lim.own' hown Lb.nil (by decide)
    go_enter Try.func60, Try.ntmps60
    go_wp2
    refine wp_loop_rounds 1 ?_
    rw [rounds_succ]
    go_wp2_with (at_builtin; refine wpList_append_own_none rfl _ _ 23 rfl w.heap.size 81 i0 1 Try.underlying23 hi _ _ _ rfl hown rfl ?_)
    go_ret
    exact ⟨_, rfl, hL, (Ext.refl w).alloc _⟩
  · obtain ⟨i0, hi, hz0, hz1, hz2⟩ := info_parts info81
    go_enter Try.func60, Try.ntmps60
    go_wp2
    go_loop [3] (fun i => ∃ k : Nat, k ≤ xs.length ∧ i = .int .i64 k ∧ trimL (xs.take k) = trimL xs) (fun i => (intOf i).toNat)
    case atStart => exact ⟨xs.length, Nat.le_refl _, rfl, by rw [List.take_length]⟩
    case round =>
      obtain ⟨k, hk, rfl, ht⟩ := hrel
      cases k with
      | zero =>
        have hT : Hid (xs.take 0 = trimL xs) := ht
        clear ht
        have hown : (w.alloc (.cells #[] 81)).ownsRow w.heap.size 81 1 (.slice (some ⟨w.heap.size, 0, none⟩) 0 0) 0 [] := World.ownsRow_lit w #[] 0 (Nat.le_refl _) (by decide) rfl
        have hnews : ∀ j u, ((xs.take 0).map (Value.int .u32))[j]? = some u → (w.alloc (.cells #[] 81)).cell? ((⟨b, o, none⟩ : Addr).add j) = some u := fun j u hu => by simp at hu
        have lT : Lb (xs.take 0) := hlb.take _
        go_wp2_with (at_builtin; refine wpList_append_own _ rfl _ _ 23 rfl w.heap.size 81 i0 (.int .u32 0) 1 4 Try.underlying23 hi hz0 hz1 hz2 rfl (by decide) _ _ _ rfl hown ⟨b, o, none⟩ 0 cap ((xs.take 0).map (Value.int .u32)) rfl (by simp) hnews (ints_oneCell .u32 _) (by unfold maxLen; omega) (by omega) (by simp) ?_; intro v' w1 hown' hgrow hnil)
        have hE : Ext w w1 := Below.grown (row := some w.heap.size) ((Ext.refl w).alloc _) hgrow (by simp) (fun k e => by cases e; exact Nat.le_refl _)
        rw [Nat.zero_add, List.nil_append] at hown'
        have hL := Lim.own' hown' lT (by omega)
        go_ret
        exact ⟨_, rfl, hT.out ▸ hL, hE⟩

      | succ k =>
        have hck := h4 k (by omega)
        by_cases h0 : xs.getD k 0 = 0
        · rw [h0] at hck
          go_wp2
          go_round
          case rel => exact ⟨k, by omega, by go_num, by rw [← ht]; exact (trim_step (by omega) h0).symm⟩
          case measure => simp [intOf]
        · have hT : Hid (xs.take (k + 1) = trimL xs) := (trim_stop (by omega) h0).symm.trans ht
          clear ht
          have hown : (w.alloc (.cells #[] 81)).ownsRow w.heap.size 81 1 (.slice (some ⟨w.heap.size, 0, none⟩) 0 0) 0 [] := World.ownsRow_lit w #[] 0 (Nat.le_refl _) (by decide) rfl
          have hnews : ∀ j u, ((xs.take (k + 1)).map (Value.int .u32))[j]? = some u → (w.alloc (.cells #[] 81)).cell? ((⟨b, o, none⟩ : Addr).add j) = some u := fun j u hu => by
            rw [List.getElem?_map] at hu
            cases hj : (xs.take (k + 1))[j]? with
            | none => rw [hj] at hu; cases hu
            | some x =>
              rw [hj] at hu
              have hjl : j < (xs.take (k + 1)).length := (List.getElem?_eq_some_iff.1 hj).1
              rw [List.length_take] at hjl
              have := h4 j (by omega)
              have hx : xs.getD j 0 = x := by rw [← take_getD (k := (k + 1)) (by omega), List.getD_eq_getElem?_getD, hj]; rfl
              rw [show (⟨b, o, none⟩ : Addr).add j = ⟨b, o + j, none⟩ from by simp [Addr.add], cell_al, if_neg (by omega), this, hx]
              simpa using hu
          have hlen : (xs.take (k + 1)).length = (k + 1) := by rw [List.length_take]; omega
          have lT : Lb (xs.take (k + 1)) := hlb.take _
          obtain ⟨z, hz⟩ : ∃ z, xs.getD k 0 = z := ⟨_, rfl⟩
          rw [hz] at hck h0
          go_wp2_with (at_builtin; refine wpList_append_own _ rfl _ _ 23 rfl w.heap.size 81 i0 (.int .u32 0) 1 4 Try.underlying23 hi hz0 hz1 hz2 rfl (by decide) _ _ _ rfl hown ⟨b, o, none⟩ (k + 1) cap ((xs.take (k + 1)).map (Value.int .u32)) rfl (by simp; omega) hnews (ints_oneCell .u32 _) (by unfold maxLen; omega) (by omega) (by simp) ?_; intro v' w1 hown' hgrow hnil)
          have hE : Ext w w1 := Below.grown (row := some w.heap.size) ((Ext.refl w).alloc _) hgrow (by simp) (fun k e => by cases e; exact Nat.le_refl _)
          rw [Nat.zero_add, List.nil_append] at hown'
          have hL := Lim.own' hown' lT (by omega)
          go_ret
          exact ⟨_, rfl, hT.out ▸ hL, hE⟩


end Go.Proofs.Ytcalonhphknbbaa

/- The reference: limbs times a power of 2. -/
namespace Go.Proofs.Ytcalonhphknbbaa
open Go.RowKit

/-- Old blocks are kept by an append to a slice of the call's own. -/
theorem own_ext {a w w' : World} {v : Value} {n : Nat} {xs : List Value} (h : Ext a w) (ho : w.ownsRow a.heap.size 81 1 v n xs) (k : w.grownBy w' v.ownBlock) : Ext a w' :=
  Below.grown h k h.size (fun g e => by
    rcases ho.2 with ⟨e1, _⟩ | ⟨g', cap, cur, e1, hb, _⟩
    · subst e1; cases e
    · subst e1; simp only [Value.ownBlock] at e; cases e; exact hb)
/-- A slice of limbs that the call has appended. -/
def A32 (w : World) (base : Nat) (v : Value) (xs : List Int) : Prop := w.ownsRow base 81 1 v xs.length (xs.map (.int .u32))
theorem A32.nil (w : World) (base : Nat) : A32 w base (.slice none 0 0) [] := ⟨rfl, Or.inl ⟨rfl, rfl⟩⟩
theorem A32.snoc {w : World} {base n : Nat} {v : Value} {xs : List Int} {z : Int} (h : w.ownsRow base 81 1 v (n + 1) (xs.map (.int .u32) ++ [.int .u32 z])) (hn : xs.length = n) : A32 w base v (xs ++ [z]) := by
  unfold A32; rw [List.map_append, List.length_append, hn]; exact h
theorem A32.alloc {w : World} {base : Nat} {v : Value} {xs : List Int} (h : A32 w base v xs) (o : Obj) : A32 (w.alloc o) base v xs := World.ownsRow.alloc h o
theorem A32.own {w : World} {base : Nat} {v : Value} {xs : List Int} (h : A32 w base v xs) (h0 : 0 < xs.length) : ∃ g cap, v = .slice (some ⟨g, 0, none⟩) xs.length cap ∧ O32 w base g xs.length cap xs := by
  have h2 := h
  rcases h.2 with ⟨_, e⟩ | ⟨g, cap, cur, e, _⟩
  · omega
  · subst e; exact ⟨g, cap, rfl, h2⟩
theorem A32.lim {w : World} {base : Nat} {v : Value} {xs : List Int} (h : A32 w base v xs) (hl : Lb xs) (hn : xs.length ≤ 1099511627776) : Lim w v xs := Lim.own' h hl hn
theorem A32.ext {a w : World} {base : Nat} {v : Value} {xs : List Int} (h : A32 a base v xs) (k : Ext a w) : A32 w base v xs := by
  rcases h.2 with h2 | ⟨g, cap, cur, e1, hb, hg, h3⟩
  · exact ⟨h.1, Or.inl h2⟩
  · exact ⟨h.1, Or.inr ⟨g, cap, cur, e1, hb, (k.block g (Array.getElem?_eq_some_iff.1 hg).1).trans hg, h3⟩⟩
set_option maxRecDepth 100000 in
set_option maxHeartbeats 4000000 in
theorem r_left (va : Value) (X : List Int) (s : Nat) (w : World) (ha : Lim w va X) (hx : X.length ≤ 100000) (hs : s < 32) :
    Calls Try.prog 62 #[va, .int .u64 s] w fun e w' => ∃ g cap zs, e = .returned (.slice (some ⟨g, 0, none⟩) zs.length cap) ∧ O32 w' w.heap.size g zs.length cap zs ∧ Lb zs ∧ val zs = val X * 2 ^ s ∧ zs.length = X.length + 1 ∧ Ext w w' := by
  obtain ⟨aoA, bA, oA, cA, rfl, a1, a2, a3, a4, a5, a6⟩ := ha.view
  have lA := ha.lb
  obtain ⟨i0, hi, hz0, hz1, hz2⟩ := info_parts info81
  have hA0 : A32 w w.heap.size (.slice none 0 0) [] := A32.nil _ _
  go_enter Try.func62, Try.ntmps62
  go_wp2_with fail
  go_loopw [5, 6, 7] (fun v c i wr => ∃ (j : Nat) (z : Int) (zs : List Int), j ≤ X.length ∧ c = .int .u64 z ∧ i = .int .i64 j ∧ 0 ≤ z ∧ z < 2 ^ s ∧ zs.length = j ∧ Lb zs ∧ val zs + BB ^ j * z = val (X.take j) * 2 ^ s ∧
      Hid (A32 wr w.heap.size v zs) ∧ Hid (Ext w wr)) (fun _ _ i _ => X.length - (intOf i).toNat)
  case atStart => exact ⟨0, 0, [], Nat.zero_le _, rfl, rfl, by decide, Int.pow_pos (by decide), rfl, Lb.nil, by simp [val], hA0, Ext.refl w⟩
  case round =>
    obtain ⟨j, z, zs, hj, rfl, rfl, z0, z1, hzl, hzb, hv, HR, HE⟩ := hrel
    have hsz := HE.out.size
    by_cases hjx : j < X.length
    · have eA := a1 (by omega)
      subst eA
      have hca := (HE.out.cells.1 _ (oA + j) (a4 (by omega))).trans (a5 j hjx)
      have hxk : U32 (X.getD j 0) := lA.getD j
      obtain ⟨x, ex⟩ : ∃ x, X.getD j 0 = x := ⟨_, rfl⟩
      have hq := left_step (D := 0) (by simpa using hv) (by omega) ex
      rw [ex] at hca hxk
      unfold U32 at hxk
      obtain ⟨o1, o2, o3, o4, o5, o6⟩ := or_low s hs x z hxk.1 z0 z1 hxk.2
      simp only [Nat.zero_add, Int.pow_zero, Int.one_mul] at hq
      replace hq : Hid _ := hq
      have hown : (wr.alloc (.cells #[.int .u32 ((z + x * 2 ^ s) % 4294967296)] 81)).ownsRow w.heap.size 81 1 u5 j (zs.map (Value.int .u32)) := by have := HR.out.alloc (.cells #[.int .u32 ((z + x * 2 ^ s) % 4294967296)] 81); unfold A32 at this; rw [hzl] at this; exact this
      clear ex hv a5
      go_wp2_with (at_builtin; refine wpList_append_own _ rfl _ _ 23 rfl w.heap.size 81 i0 (.int .u32 0) 1 4 Try.underlying23 hi hz0 hz1 hz2 rfl (by decide) _ _ _ rfl hown ⟨wr.heap.size, 0, none⟩ 1 1 [Value.int .u32 ((z + x * 2 ^ s) % 4294967296)] rfl rfl (cell_one_l _ _ _) (by intro u hu; simp at hu; subst hu; rfl) (by unfold maxLen; omega) (by omega) (by simp; omega) ?_; intro v' w1 hown1 hgrow1 hnil)
      have hR1 : Hid (A32 w1 w.heap.size v' (zs ++ [(z + x * 2 ^ s) % 4294967296])) := A32.snoc hown1 hzl
      have hE1 : Hid (Ext w w1) := (own_ext (HE.out.alloc _) hown hgrow1 : Ext w w1)
      go_roundw
      case rel => exact ⟨j + 1, _, zs ++ [(z + x * 2 ^ s) % 4294967296], hjx, rfl, by go_num, Int.ediv_nonneg o3 (by decide), Int.ediv_lt_of_lt_mul (by decide) o2, by simp [hzl], hzb.snoc (U32.mod _), hq.out, hR1, hE1⟩
      case measure => simp [intOf]; omega
    · have hjl : j = X.length := by omega
      subst hjl
      have hz32 : z < 4294967296 := by
        have : (2 : Int) ^ s ≤ 2 ^ 32 := two_pow_le (by omega)
        omega
      have hown : (wr.alloc (.cells #[.int .u32 z] 81)).ownsRow w.heap.size 81 1 u5 X.length (zs.map (Value.int .u32)) := by have := HR.out.alloc (.cells #[.int .u32 z] 81); unfold A32 at this; rw [hzl] at this; exact this
      go_wp2_with (at_builtin; refine wpList_append_own _ rfl _ _ 23 rfl w.heap.size 81 i0 (.int .u32 0) 1 4 Try.underlying23 hi hz0 hz1 hz2 rfl (by decide) _ _ _ rfl hown ⟨wr.heap.size, 0, none⟩ 1 1 [Value.int .u32 z] rfl rfl (cell_one_l _ _ _) (by intro u hu; simp at hu; subst hu; rfl) (by unfold maxLen; omega) (by omega) (by simp; omega) ?_; intro v' w1 hown1 hgrow1 hnil)
      have hR1 : A32 w1 w.heap.size v' (zs ++ [z]) := A32.snoc hown1 hzl
      have hE1 : Ext w w1 := own_ext (HE.out.alloc _) hown hgrow1
      obtain ⟨g, cap, rfl, hO⟩ := hR1.own (by simp)
      have hlen : (zs ++ [z]).length = X.length + 1 := by simp [hzl]
      go_ret
      refine ⟨g, cap, zs ++ [z], rfl, hO, hzb.snoc ⟨z0, hz32⟩, ?_, hlen, hE1⟩
      rw [left_end _ hzl, hv, List.take_length]
end Go.Proofs.Ytcalonhphknbbaa
