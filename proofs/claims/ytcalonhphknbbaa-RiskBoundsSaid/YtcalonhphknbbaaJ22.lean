/- The reference's long division: the rest moved back. -/
import Derived.Test.YtcalonhphknbbaaJ21
import Derived.Test.YtcalonhphknbbaaJ04
import Derived.Test.YtcalonhphknbbaaJ20
import Derived.Test.YtcalonhphknbbaaJ10
import Derived.Test.YtcalonhphknbbaaJ03
import Derived.Deep.QuietTactic
set_option linter.unusedSimpArgs false
set_option linter.unusedVariables false
namespace Go.Proofs.Ytcalonhphknbbaa
open Go.RowKit

theorem back_limb {r r' : Int} {s : Nat} (hs : s < 32) (h0 : 0 ≤ r) (h1 : r < 4294967296) (k0 : 0 ≤ r') :
    ((r + r' * 4294967296) / 2 ^ s % 4294967296) * 2 ^ s = r - r % 2 ^ s + 4294967296 * (r' % 2 ^ s) := by
  have e : (4294967296 : Int) = 2 ^ (32 - s) * 2 ^ s := by
    rw [← Int.pow_add, show 32 - s + s = 32 from by omega]; rfl
  have hS : (0 : Int) < 2 ^ s := Int.pow_pos (by decide)
  have hH : (0 : Int) < 2 ^ (32 - s) := Int.pow_pos (by decide)
  rw [e] at h1 ⊢
  generalize (2 : Int) ^ s = S at *
  generalize (2 : Int) ^ (32 - s) = H at *
  have q1 := Int.emod_add_mul_ediv r S
  have q2 := Int.emod_add_mul_ediv r' S
  have r0 := Int.emod_nonneg r' (show S ≠ 0 by omega)
  have r1 := Int.emod_lt_of_pos r' hS
  have a0 : 0 ≤ r / S := Int.ediv_nonneg h0 (Int.le_of_lt hS)
  have a1 : r / S < H := Int.ediv_lt_of_lt_mul hS h1
  have e1 : (r + r' * (H * S)) / S = r / S + r' * H := by
    rw [show r' * (H * S) = (r' * H) * S from by rw [Int.mul_assoc], Int.add_mul_ediv_right _ _ (by omega)]
  have e2 : (r / S + r' * H) % (H * S) = r / S + (r' % S) * H := by
    have e3 : r / S + r' * H = (r / S + (r' % S) * H) + (H * S) * (r' / S) := by
      have : r' * H = (r' % S + S * (r' / S)) * H := by rw [q2]
      rw [this]; grind
    rw [e3, Int.add_mul_emod_self_left]
    refine Int.emod_eq_of_lt ?_ ?_
    · have := Int.mul_nonneg r0 (Int.le_of_lt hH); omega
    · have h2 : (r' % S + 1) * H ≤ S * H := Int.mul_le_mul_of_nonneg_right (by omega) (Int.le_of_lt hH)
      have h3 : (r' % S + 1) * H = (r' % S) * H + H := by rw [Int.add_mul, Int.one_mul]
      have h4 : S * H = H * S := Int.mul_comm ..
      omega
  rw [e1, e2]
  have e5 : (r / S + r' % S * H) * S = S * (r / S) + H * S * (r' % S) := by grind
  rw [e5]; omega
theorem val_take_all {U : List Int} {k : Nat} (lU : Lb U) (hk : k ≤ U.length) (h : val U < BB ^ k) : val (U.take k) = val U := by
  have e : val U = val (U.take k) + BB ^ k * val (U.drop k) := by
    have h2 := val_append (U.take k) (U.drop k)
    rw [List.take_append_drop, List.length_take, Nat.min_eq_left hk] at h2
    exact h2
  have p0 := val_nonneg (lU.take k)
  have p2 := val_nonneg (lU.drop k)
  have hn0 : (0 : Int) < BB ^ k := Int.pow_pos (by decide)
  generalize val (U.drop k) = Z at *
  generalize BB ^ k = C at *
  rcases Int.lt_or_le 0 Z with hz | hz
  · have : C * 1 ≤ C * Z := Int.mul_le_mul_of_nonneg_left (by omega) (Int.le_of_lt hn0)
    omega
  · have hz0 : Z = 0 := by omega
    subst hz0; omega
/-- One round. -/
theorem back_round {R ps : List Int} {i s : Nat} {r r' : Int} (hs : s < 32) (lR : Lb R) (hl : ps.length = i) (hr : R.getD i 0 = r) (hr' : R.getD (i + 1) 0 = r')
    (h : val ps * 2 ^ s = val (R.take i) - R.getD 0 0 % 2 ^ s + (r % 2 ^ s) * BB ^ i) :
    val (ps ++ [(r + r' * 4294967296) / 2 ^ s % 4294967296]) * 2 ^ s = val (R.take (i + 1)) - R.getD 0 0 % 2 ^ s + (r' % 2 ^ s) * BB ^ (i + 1) := by
  have b := back_limb hs (r := r) (r' := r') (by rw [← hr]; exact (lR.getD _).1) (by rw [← hr]; exact (lR.getD _).2) (by rw [← hr']; exact (lR.getD _).1)
  rw [val_append, hl, val_take_succ', hr, Int.pow_succ]
  simp only [val]
  have h4 : BB = 4294967296 := rfl
  generalize hC : BB ^ i = C at *
  rw [h4]
  generalize (r + r' * 4294967296) / 2 ^ s % 4294967296 = x at *
  generalize (2 : Int) ^ s = S at *
  generalize r % S = m at *
  generalize r' % S = m' at *
  have e1 : (val ps + C * (x + 4294967296 * 0)) * S = val ps * S + C * (x * S) := by grind
  rw [e1, b, h]
  grind
end Go.Proofs.Ytcalonhphknbbaa

/- The reference: limbs divided by one limb. -/
namespace Go.Proofs.Ytcalonhphknbbaa
open Go.RowKit

set_option maxRecDepth 100000 in
set_option maxHeartbeats 4000000 in
theorem r_short (va : Value) (X : List Int) (d : Int) (w : World) (ha : Lim w va X) (hd : 0 < d) (hd2 : d < 4294967296) (hx : X.length ≤ 100000) :
    Calls Try.prog 61 #[va, .int .u32 d] w fun e w' => ∃ u v qs r, e = .returned (.tuple #[u, v]) ∧ Lim w' u (trimL qs) ∧ Lim w' v (trimL [r]) ∧ val qs * d + r = val X ∧ 0 ≤ r ∧ r < d ∧ Ext w w' := by
  obtain ⟨aoA, bA, oA, cA, rfl, a1, a2, a3, a4, a5, a6⟩ := ha.view
  have lX := ha.lb
  obtain ⟨i0, hi, hz0, hz1, hz2⟩ := info_parts info81
  go_enter Try.func61, Try.ntmps61
  go_wp2_with (at_make; refine wpList_make_full _ rfl _ _ 23 rfl w.heap.size 81 i0 (.int .u32 0) 1 Try.underlying23 hi hz0 hz1 .i64 .i64 _ _ X.length rfl rfl (by omega) (by omega) (by rw [hz2]; omega) (by unfold maxLen; omega) (Nat.le_refl _) ?_; intro w0 hown0 hgrow0)
  have hR0 : R32 w0 w.heap.size w.heap.size X.length (List.replicate X.length 0) := R32.made hown0
  have hE0 : Ext w w0 := Ext.grown (Ext.refl w) hgrow0
  clear hown0 hgrow0
  go_loopw [7, 8] (fun rv j wr => ∃ m : Nat, m ≤ X.length ∧ rv = .int .u64 (stA X d (upto (dn X.length) m)).2 ∧ j = .int .i64 ((X.length : Int) - m - 1) ∧ Hid (R32 wr w.heap.size w.heap.size X.length (stA X d (upto (dn X.length) m)).1) ∧ Hid (Ext w wr)) (fun _ j _ => (intOf j + 1).toNat)
  case atStart => exact ⟨0, Nat.zero_le _, rfl, by go_num, hR0, hE0⟩
  case round =>
    obtain ⟨m, hm, rfl, rfl, HR, HE⟩ := hrel
    obtain ⟨k1, k2, k3, k4⟩ := stA_ok lX hd (upto (dn X.length) m)
    rcases Nat.eq_or_lt_of_le hm with rfl | hlt
    · have hv := short_all lX hd (ys := upto (dn X.length) X.length) rfl
      generalize stA X d (upto (dn X.length) X.length) = st at *
      obtain ⟨qs, r⟩ := st
      dsimp only at k2 k3 k4 hv HR ⊢
      have hrU : U32 r := ⟨k3, by omega⟩
      have hL := HR.out.lim k2 (by omega)
      have hr32 : r % 4294967296 = r := Int.emod_eq_of_lt k3 (by omega)
      rw [show (X.length : Int) - (X.length : Int) - 1 = -1 from by omega]
      go_wp2_with (first
        | (go_at_call 60; (with_reducible refine (r_trim _ qs _ (hL.ext (Ext.refl _))).mono ?_); rintro e w1 ⟨u1, rfl, hu1, hb1⟩)
        | (go_at_call 60; (with_reducible refine (r_trim _ [r] _ (lim_one w1 r hrU)).mono ?_); rintro e w2 ⟨u2, rfl, hu2, hb2⟩))
      go_ret2
      have hbb := ((Ext.refl w1).alloc (.cells #[.int .u32 r] 81)).trans hb2
      exact ⟨_, _, qs, r, rfl, hu1.ext hbb, hu2, hv, k3, k4, HE.out.trans (hb1.trans hbb)⟩
    · obtain ⟨j, hj⟩ : ∃ j, X.length = m + 1 + j := ⟨X.length - (m + 1), by omega⟩
      have ej : (X.length : Int) - m - 1 = j := by omega
      have hsn := stA_snoc X d (upto (dn X.length) m) (dn X.length m)
      have hdn : (dn X.length m).1 = j := by show X.length - 1 - m = j; omega
      rw [← upto_succ] at hsn
      have eA := a1 (by omega)
      subst eA
      have hca := (HE.out.cells.1 _ (oA + j) (a4 (by omega))).trans (a5 j (by omega))
      have hxk : U32 (X.getD j 0) := lX.getD j
      have hg := HR.out.cell (k := j) (by omega)
      have hgf := HR.out.frozen j
      have hglt := HR.out.lt
      obtain ⟨z, ez⟩ : ∃ z, X.getD j 0 = z := ⟨_, rfl⟩
      obtain ⟨r, er⟩ : ∃ r, (stA X d (upto (dn X.length) m)).2 = r := ⟨_, rfl⟩
      obtain ⟨o, eo⟩ : ∃ o, (stA X d (upto (dn X.length) m)).1.getD j 0 = o := ⟨_, rfl⟩
      have hst := HR.out.set j ((r * 4294967296 + z) / d)
      have hes : Ext w (wr.setCell ⟨w.heap.size, j, none⟩ (.int .u32 ((r * 4294967296 + z) / d))) := HE.out.setCell (p := ⟨w.heap.size, j, none⟩) (Nat.le_refl _) _
      unfold stp at hsn
      rw [hdn, ez, er] at hsn
      have hnew : Hid ((stA X d (upto (dn X.length) (m + 1))) = ((stA X d (upto (dn X.length) m)).1.set j ((r * 4294967296 + z) / d), (r * 4294967296 + z) % d)) := hsn
      rw [ez] at hca hxk
      rw [er] at k3 k4 ⊢
      rw [eo] at hg
      rw [ej]
      unfold U32 at hxk
      obtain ⟨q0, q1⟩ := div_small (x := r * 4294967296 + z) (d := d) (by omega) hd (by omega)
      have r0 := Int.emod_nonneg (r * 4294967296 + z) (show d ≠ 0 by omega)
      have r1 := Int.emod_lt_of_pos (r * 4294967296 + z) hd
      have hd3 : IntKind.u64.wrap d = d := u64_small (by omega) (by omega)
      have hd4 : d ≠ 0 := by omega
      have hw1 : IntKind.u64.wrap ((r * 4294967296 + z).tdiv d) % 4294967296 = (r * 4294967296 + z) / d := by
        rw [Int.tdiv_eq_ediv_of_nonneg (by omega), u64_small q0 (by omega)]; exact Int.emod_eq_of_lt q0 q1
      have hw2 : (r * 4294967296 + z).tmod d = (r * 4294967296 + z) % d := Int.tmod_eq_emod_of_nonneg (by omega)
      have hw3 : IntKind.u64.wrap ((r * 4294967296 + z) % d) = (r * 4294967296 + z) % d := u64_small r0 (by omega)
      replace hst : Hid _ := hst
      replace hes : Hid _ := hes
      clear hsn er eo ez
      go_wp2_with fail
      go_roundw
      case rel => exact ⟨m + 1, by omega, by rw [hnew.out], by go_num, (by rw [hnew.out]; exact hst.out : R32 _ _ _ _ _), hes⟩
      case measure => simp [intOf]
end Go.Proofs.Ytcalonhphknbbaa

/- The reference: limbs compared. -/
namespace Go.Proofs.Ytcalonhphknbbaa
open Go.RowKit

theorem ext_from {X Y : List Int} (hl : X.length = Y.length) (h : ∀ j, 0 ≤ j → j < X.length → X.getD j 0 = Y.getD j 0) : X = Y := ext_getD hl fun j hj => h j (Nat.zero_le _) hj
set_option maxRecDepth 100000 in
set_option maxHeartbeats 2000000 in
theorem r_compare (va vb : Value) (X Y : List Int) (w : World) (ha : Lim w va X) (hb : Lim w vb Y) (hX : Nz X) (hY : Nz Y) :
    Calls Try.prog 39 #[va, vb] w fun e w' => e = .returned (.int .i64 (cmpI (val X) (val Y))) ∧ Ext w w' := by
  have lX := ha.lb
  have lY := hb.lb
  obtain ⟨aoA, bA, oA, cA, rfl, a1, a2, a3, a4, a5, a6⟩ := ha.view
  obtain ⟨aoB, bB, oB, cB, rfl, b1, b2, b3, b4, b5, b6⟩ := hb.view
  by_cases hl : X.length = Y.length
  rotate_left
  · rcases Nat.lt_or_ge X.length Y.length with h | h
    · have hv : cmpI (val X) (val Y) = -1 := cmp_lt (val_lt_of_len lX lY hY h)
      rw [hv]
      clear hv
      go_enter Try.func39, Try.ntmps39
      go_wp2_with fail
      go_ret
      exact ⟨rfl, Ext.refl w⟩
    · have hv : cmpI (val X) (val Y) = 1 := cmp_gt (val_lt_of_len lY lX hX (by omega))
      rw [hv]
      clear hv
      go_enter Try.func39, Try.ntmps39
      go_wp2_with fail
      go_ret
      exact ⟨rfl, Ext.refl w⟩
  · have HL : Hid (X.length = Y.length) := hl
    generalize hcv : cmpI (val X) (val Y) = cv
    have HV : Hid (cmpI (val X) (val Y) = cv) := hcv
    clear hcv
    rw [hl] at a1 a4 a5 a6 ha ⊢
    clear hl a2 b2
    generalize hN : Y.length = N at *
    have HN : Hid (Y.length = N) := hN
    clear hN
    have hXY : Hid (X.length = Y.length) := HL.out.trans HN.out.symm
    go_enter Try.func39, Try.ntmps39
    go_wp2_with fail
    go_loopw [5] (fun i wr => ∃ m : Nat, m ≤ N ∧ i = .int .i64 ((m : Int) - 1) ∧ Hid (∀ j, m ≤ j → j < N → X.getD j 0 = Y.getD j 0) ∧ Hid (Ext w wr)) (fun i _ => (intOf i + 1).toNat)
    case atStart => exact ⟨N, Nat.le_refl _, rfl, fun j h1 h2 => absurd h2 (by omega), Ext.refl w⟩
    case round =>
      obtain ⟨m, hm, hi, hall, HE⟩ := hrel
      have hE := HE.out
      cases m with
      | zero =>
        have hi2 : _ = Value.int .i64 (-1) := hi
        clear hi
        subst hi2
        have hv : Hid (cv = 0) := HV.out.symm.trans (cmp_eq (by rw [ext_from hXY.out (fun j h1 h2 => hall.out j h1 (by have := HL.out; omega))]))
        clear a5 b5
        go_wp2_with fail
        go_ret
        exact ⟨by rw [hv.out]; rfl, hE⟩
      | succ m =>
        have hi2 : _ = Value.int .i64 (m : Int) := hi.trans (by congr 1; omega)
        clear hi
        subst hi2
        have eA := a1 (by omega)
        have eB := b1 (by omega)
        subst eA
        subst eB
        have hca := (hE.cells.1 _ (oA + m) (a4 (by omega))).trans (a5 m (by omega))
        have hcb := (hE.cells.1 _ (oB + m) (b4 (by omega))).trans (b5 m (by omega))
        have hXm : m < X.length := by have := HN.out; have := HL.out; omega
        have htop : ∀ j, m < j → j < X.length → X.getD j 0 = Y.getD j 0 := fun j h1 h2 => hall.out j (by omega) (by have := HN.out; have := HL.out; omega)
        have hlt := fun h => HV.out.symm.trans (cmp_lt (top_lt hXY.out hXm lX lY h htop))
        have hgt := fun h => HV.out.symm.trans (cmp_gt (top_lt hXY.out.symm (by have := hXY.out; omega) lY lX h (fun j h1 h2 => (htop j h1 (by have := hXY.out; omega)).symm)))
        have hnx : X.getD m 0 = Y.getD m 0 → ∀ j, m ≤ j → j < N → X.getD j 0 = Y.getD j 0 := fun h j h1 h2 => by
          rcases Nat.eq_or_lt_of_le h1 with e | e
          · rw [← e]; exact h
          · exact hall.out j (by omega) h2
        obtain ⟨x, ex⟩ : ∃ x, X.getD m 0 = x := ⟨_, rfl⟩
        obtain ⟨y, ey⟩ : ∃ y, Y.getD m 0 = y := ⟨_, rfl⟩
        rw [ex] at hca hlt hgt hnx
        rw [ey] at hcb hlt hgt hnx
        replace hnx : Hid _ := hnx
        clear a5 b5 htop ex ey
        rcases Int.lt_trichotomy x y with h | h | h
        · have hv : Hid (cv = -1) := hlt h
          clear hlt hgt
          go_wp2_with fail
          go_quiet (fail)
          go_wp2_with fail
          go_ret
          exact ⟨by rw [hv.out]; rfl, (by repeat (first | with_reducible exact Ext.refl _ | with_reducible assumption | with_reducible refine Ext.alloc ?_ _ | with_reducible refine Ext.setCell ?_ (by (try simp only [World.size_alloc, World.size_setCell]); omega) _ | with_reducible refine Ext.drewN ?_ _ | with_reducible refine Ext.drew ?_ | with_reducible refine Ext.trans ?_ (by with_reducible assumption)))⟩
        · subst h
          clear hlt hgt
          go_wp2_with fail
          go_quiet (fail)
          go_wp2_with fail
          go_quiet (fail)
          go_wp2_with fail
          go_roundw
          case rel => exact ⟨m, by omega, rfl, hnx.out (by first | rfl | trivial), ((by repeat (first | with_reducible exact Ext.refl _ | with_reducible assumption | with_reducible refine Ext.alloc ?_ _ | with_reducible refine Ext.setCell ?_ (by (try simp only [World.size_alloc, World.size_setCell]); omega) _ | with_reducible refine Ext.drewN ?_ _ | with_reducible refine Ext.drew ?_ | with_reducible refine Ext.trans ?_ (by with_reducible assumption))) : Ext _ _)⟩
          case measure => first | (simp [intOf]; done) | (simp [intOf]; omega)
        · have hv : Hid (cv = 1) := hgt h
          clear hlt hgt
          go_wp2_with fail
          go_quiet (fail)
          go_wp2_with fail
          go_quiet (fail)
          go_wp2_with fail
          go_ret
          exact ⟨by rw [hv.out]; rfl, (by repeat (first | with_reducible exact Ext.refl _ | with_reducible assumption | with_reducible refine Ext.alloc ?_ _ | with_reducible refine Ext.setCell ?_ (by (try simp only [World.size_alloc, World.size_setCell]); omega) _ | with_reducible refine Ext.drewN ?_ _ | with_reducible refine Ext.drew ?_ | with_reducible refine Ext.trans ?_ (by with_reducible assumption)))⟩

end Go.Proofs.Ytcalonhphknbbaa
