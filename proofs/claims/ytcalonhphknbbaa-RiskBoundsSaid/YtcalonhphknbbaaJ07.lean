/- Limbs: products. -/
import Derived.Test.YtcalonhphknbbaaJ03
import Derived.Test.YtcalonhphknbbaaJ06
set_option linter.unusedSimpArgs false
set_option linter.unusedVariables false
namespace Go.Proofs.Ytcalonhphknbbaa
open Go.RowKit

set_option maxRecDepth 100000 in
set_option maxHeartbeats 4000000 in
theorem w_times (va vb : Value) (X Y : List Int) (w : World) (ha : Lim w va X) (hb : Lim w vb Y) (hx : X.length ≤ 100000 ∧ Y.length ≤ 100000) :
    Calls Try.prog 59 #[va, vb] w fun e w' => ∃ u zs, e = .returned u ∧ Lim w' u zs ∧ val zs = val X * val Y ∧ Ext w w' := by
  obtain ⟨aoA, bA, oA, cA, rfl, a1, a2, a3, a4, a5, a6⟩ := ha.view
  obtain ⟨aoB, bB, oB, cB, rfl, b1, b2, b3, b4, b5, b6⟩ := hb.view
  have lA := ha.lb
  have lB := hb.lb
  obtain ⟨i0, hi, hz0, hz1, hz2⟩ := info_parts info81
  go_enter Try.func59, Try.ntmps59
  go_wp2_with (at_make; refine wpList_make_full _ rfl _ _ 23 rfl w.heap.size 81 i0 (.int .u32 0) 1 Try.underlying23 hi hz0 hz1 .i64 .i64 _ _ (X.length + Y.length) rfl rfl (by omega) (by omega) (by rw [hz2]; omega) (by unfold maxLen; omega) (Nat.le_refl _) ?_; intro w0 hown0 hgrow0)
  have hR0 : R32 w0 w.heap.size w.heap.size (X.length + Y.length) (List.replicate (X.length + Y.length) 0) := R32.made hown0
  have hE0 : Ext w w0 := Ext.grown (Ext.refl w) hgrow0
  clear hown0 hgrow0
  have he0 : List.replicate Y.length (0 : Int) ++ List.replicate (X.length - 0) 0 = List.replicate (X.length + Y.length) 0 := by rw [Nat.sub_zero, List.replicate_append_replicate, Nat.add_comm]
  go_loopw [19] (fun j wr => ∃ (i : Nat) (us : List Int), i ≤ X.length ∧ j = .int .i64 i ∧ us.length = i + Y.length ∧ Hid (Lb us) ∧ Hid (val us = val (X.take i) * val Y) ∧
      Hid (R32 wr w.heap.size w.heap.size (X.length + Y.length) (us ++ List.replicate (X.length - i) 0)) ∧ Hid (Ext w wr)) (fun j _ => X.length - (intOf j).toNat)
  case atStart => exact ⟨0, List.replicate Y.length 0, Nat.zero_le _, rfl, by simp, (fun x hx => by rw [List.eq_of_mem_replicate hx]; exact ⟨by decide, by decide⟩ : Lb _), (by rw [val_zeros]; simp [val] : _ = _), (by rw [he0]; exact hR0 : R32 ..), hE0⟩
  case round =>
    obtain ⟨i, us, hil, rfl, hul, HB, HV, HR, HE⟩ := hrel
    by_cases hix : i < X.length
    · have eA := a1 (by omega)
      subst eA
      have hca := (HE.out.cells.1 _ (oA + i) (a4 (by omega))).trans (a5 i hix)
      have hxk : U32 (X.getD i 0) := lA.getD i
      obtain ⟨x, ex⟩ : ∃ x, X.getD i 0 = x := ⟨_, rfl⟩
      rw [ex] at hca hxk
      go_wp2_with fail
      go_loopw [8, 26] (fun q j wi => ∃ (k : Nat) (c : Int) (ps : List Int), k ≤ Y.length ∧ q = .int .u64 c ∧ j = .int .i64 k ∧ 0 ≤ c ∧ c < 4294967296 ∧ ps.length = i + k ∧ Hid (Lb ps) ∧ Hid (val ps + BB ^ (i + k) * c = val (us.take (i + k)) + BB ^ i * (x * val (Y.take k))) ∧
          Hid (R32 wi w.heap.size w.heap.size (X.length + Y.length) (ps ++ (us.drop (i + k) ++ List.replicate (X.length - i) 0))) ∧ Hid (Ext w wi)) (fun _ j _ => Y.length - (intOf j).toNat)
      case atStart => exact ⟨0, 0, us.take i, Nat.zero_le _, rfl, rfl, by decide, by decide, by rw [List.length_take]; omega, HB.out.take _, (by simp [val] : _ = _), (by rw [Nat.add_zero, ← List.append_assoc, List.take_append_drop]; exact HR.out : R32 ..), HE⟩
      case round =>
        obtain ⟨k, c, ps, hky, rfl, rfl, c0, c1, hpl, PB, PV, PR, PE⟩ := hrel
        have hg := PR.out.cell (k := i + k)
        rw [row_get hpl] at hg
        have hgf := PR.out.frozen (i + k)
        have hglt := PR.out.lt
        by_cases hk : k < Y.length
        · have eB := b1 (by omega)
          subst eB
          have hcb := (PE.out.cells.1 _ (oB + k) (b4 (by omega))).trans (b5 k hk)
          have hyk : U32 (Y.getD k 0) := lB.getD k
          have hok : U32 (us.getD (i + k) 0) := HB.out.getD (i + k)
          replace hg := hg (by omega)
          obtain ⟨y, ey⟩ : ∃ y, Y.getD k 0 = y := ⟨_, rfl⟩
          obtain ⟨o, eo⟩ : ∃ o, us.getD (i + k) 0 = o := ⟨_, rfl⟩
          have hs := inner_step PV.out hpl ey eo
          rw [ey] at hcb hyk
          rw [eo] at hg hok
          have hpb := prod_bound hxk hyk
          have hst := PR.out.set (i + k) ((c + (x * y + o)) % 4294967296)
          rw [row_set hpl (by omega)] at hst
          have hes : Ext w (wr.setCell ⟨w.heap.size, i + k, none⟩ (.int .u32 ((c + (x * y + o)) % 4294967296))) := PE.out.setCell (p := ⟨w.heap.size, i + k, none⟩) (Nat.le_refl _) _
          have hnx : 0 ≤ (c + (x * y + o)) / 4294967296 ∧ (c + (x * y + o)) / 4294967296 < 4294967296 := by unfold U32 at hok; omega
          replace hst : Hid _ := hst
          replace hes : Hid _ := hes
          replace hs : Hid _ := hs
          have hw1 : IntKind.u64.wrap x = x := u64_small hxk.1 (by unfold U32 at hxk; omega)
          have hw2 : IntKind.u64.wrap y = y := u64_small hyk.1 (by unfold U32 at hyk; omega)
          have hw3 : IntKind.u64.wrap (x * y) = x * y := u64_small hpb.1 (by omega)
          unfold U32 at hok
          have hw4 : IntKind.u64.wrap (x * y + o) = x * y + o := u64_small (by omega) (by omega)
          have hw5 : IntKind.u64.wrap (c + (x * y + o)) = c + (x * y + o) := u64_small (by omega) (by omega)
          clear ey eo a5 b5
          go_wp2_with fail
          go_roundw
          case rel => exact ⟨k + 1, _, _, hk, rfl, by go_num, hnx.1, hnx.2, by simp [hpl]; omega, (PB.out.snoc (U32.mod _) : Lb _), hs, hst, hes⟩
          case measure => simp [intOf]; omega
        · have hkl : k = Y.length := by omega
          subst hkl
          have hu : U32 c := ⟨c0, c1⟩
          have hv := outer_step PV.out hpl hul HV.out ex
          have hst := PR.out
          rw [List.drop_eq_nil_of_le (by omega), List.nil_append, show X.length - i = X.length + Y.length - (i + Y.length) from by omega] at hst
          replace hst := hst.step hpl (by omega) c
          rw [show X.length + Y.length - (i + Y.length + 1) = X.length - (i + 1) from by omega] at hst
          have hes : Ext w (wr.setCell ⟨w.heap.size, i + Y.length, none⟩ (.int .u32 c)) := PE.out.setCell (p := ⟨w.heap.size, i + Y.length, none⟩) (Nat.le_refl _) _
          replace hg := hg (by omega)
          have hps := PB.out.snoc hu
          replace hst : Hid _ := hst
          replace hes : Hid _ := hes
          replace hv : Hid _ := hv
          replace hps : Hid (Lb _) := hps
          clear a5 b5
          go_wp2_with fail
          go_roundw
          case rel => exact ⟨i + 1, ps ++ [c], hix, by go_num, by simp [hpl]; omega, hps, hv, hst, hes⟩
          case measure => simp [intOf]; omega
    · have hil2 : i = X.length := by omega
      subst hil2
      have hst := HR.out
      rw [Nat.sub_self, List.replicate_zero, List.append_nil] at hst
      have hv := HV.out
      rw [List.take_length] at hv
      replace hst : Hid _ := hst
      replace hv : Hid _ := hv
      go_wp2_with fail
      go_ret
      exact ⟨_, us, rfl, R32.lim hst.out HB.out (by omega), hv.out, HE.out⟩

end Go.Proofs.Ytcalonhphknbbaa
