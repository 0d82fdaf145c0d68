/- Numbers: checked. -/
import Derived.Test.YtcalonhphknbbaaJ04
import Derived.Test.YtcalonhphknbbaaJ02
import Derived.Test.YtcalonhphknbbaaJ03
set_option linter.unusedSimpArgs false
set_option linter.unusedVariables false
namespace Go.Proofs.Ytcalonhphknbbaa
open Go.RowKit

/-- The cells of a number in memory. -/
def NnAt (w : World) (b o : Nat) (m : Nat) : Prop := ∃ u, w.cell? ⟨b, o, none⟩ = some (.bool false) ∧ w.cell? ⟨b, o + 1, none⟩ = some u ∧ Lim w u (dig m)
def Small (m : Nat) : Prop := (dig m).length ≤ 4096
theorem last_ne {m : Nat} (h : 0 < (dig m).length) : ¬ (dig m).getD ((dig m).length - 1) 0 = 0 := by
  intro e
  refine dig_nz m ((dig m).getD ((dig m).length - 1) 0) ?_ e
  rw [List.getLast?_eq_getElem?, List.getD_eq_getElem?_getD, List.getElem?_eq_getElem (by omega)]; rfl
set_option maxRecDepth 100000 in
set_option maxHeartbeats 4000000 in
theorem w_checks (b n cap : Nat) (ms : Nat → Nat) (w : World) (hn : n ≤ 1000) (hb : b < w.heap.size) (h : ∀ i, i < n → NnAt w b (i * 2) (ms i)) (hs : ∀ i, i < n → Small (ms i)) :
    Calls Try.prog 57 #[.slice (some ⟨b, 0, none⟩) n cap] w fun e w' => e = .returned (.int .i64 0) ∧ Ext w w' := by
  go_enter Try.func57, Try.ntmps57
  go_wp2_with fail
  go_loopw [8] (fun i wr => ∃ k : Nat, k ≤ n ∧ i = .int .i64 k ∧ Hid (Ext w wr)) (fun i _ => n - (intOf i).toNat)
  case atStart => exact ⟨0, Nat.zero_le _, rfl, Ext.refl w⟩
  case round =>
    obtain ⟨k, hk, rfl, HE⟩ := hrel
    by_cases hkn : k < n
    · obtain ⟨u, h1, h2, h3⟩ := h k hkn
      obtain ⟨ao, b1, o1, cap1, rfl, v1, v2, v3, v4, v5, v6⟩ := h3.view
      have hsm := hs k hkn
      unfold Small at hsm
      replace h1 := (HE.out.cells.1 b (k * 2) hb).trans h1
      replace h2 := (HE.out.cells.1 b (k * 2 + 1) hb).trans h2
      have hln := last_ne (m := ms k)
      have hwz := HE.out.size
      generalize dig (ms k) = ds at *
      rcases Nat.eq_zero_or_pos ds.length with h0 | h0
      · rw [h0] at h2
        clear h hs
        go_wp2_with fail
        go_roundw
        case rel => exact ⟨k + 1, hkn, by go_num, ((by refine Ext.trans HE.out ?_; repeat (first | with_reducible exact Ext.refl _ | with_reducible assumption | with_reducible refine Ext.alloc ?_ _ | with_reducible refine Ext.setCell ?_ (by (try simp only [World.size_alloc, World.size_setCell]); omega) _ | with_reducible refine Ext.drewN ?_ _ | with_reducible refine Ext.drew ?_ | with_reducible refine Ext.trans ?_ (by with_reducible assumption))) : Ext _ _)⟩
        case measure => simp [intOf]; omega
      · have e := v1 h0
        subst e
        have hlw := v4 h0
        obtain ⟨q, eq⟩ : ∃ q, ds.length = q + 1 := ⟨ds.length - 1, by omega⟩
        have hl := v5 q (by omega)
        replace hln := hln h0
        rw [eq, Nat.add_sub_cancel] at hln
        obtain ⟨z, ez⟩ : ∃ z, ds.getD q 0 = z := ⟨_, rfl⟩
        rw [ez] at hl hln
        replace hl := (HE.out.cells.1 b1 (o1 + q) hlw).trans hl
        rw [eq] at h2 hsm
        have z1 : (z == 0) = false := by simpa using hln
        have z2 : decide ((4096 : Int) < (q : Int) + 1) = false := decide_eq_false (by omega)
        have z3 : ((q : Int) + 1 == 0) = false := by simp; omega
        clear h hs v5 v6 v4 v1 h3 v2
        go_wp2_with fail
        go_roundw
        case rel => exact ⟨k + 1, hkn, by go_num, ((by refine Ext.trans HE.out ?_; repeat (first | with_reducible exact Ext.refl _ | with_reducible assumption | with_reducible refine Ext.alloc ?_ _ | with_reducible refine Ext.setCell ?_ (by (try simp only [World.size_alloc, World.size_setCell]); omega) _ | with_reducible refine Ext.drewN ?_ _ | with_reducible refine Ext.drew ?_ | with_reducible refine Ext.trans ?_ (by with_reducible assumption))) : Ext _ _)⟩
        case measure => simp [intOf]; omega
    · clear h hs
      go_wp2_with fail
      go_ret
      exact ⟨rfl, HE.out⟩

end Go.Proofs.Ytcalonhphknbbaa

/- Boxes that a drawn region reads, and the one that it writes. -/
namespace Go.Proofs.Ytcalonhphknbbaa
open Go.RowKit

/-- What holds throughout a region: nothing of w has turned; the cells L are as they were. -/
def BX (w : World) (B : Nat) (L : List (Nat × Nat × Value)) (w0 : World) : Prop :=
  Ext w w0 ∧ (∀ p ∈ L, w0.cell? ⟨p.1, p.2.1, none⟩ = some p.2.2) ∧ (∃ a, w0.cell? ⟨B, 0, none⟩ = some a) ∧ (∃ a, w0.cell? ⟨B, 1, none⟩ = some a) ∧ (∀ o, w0.frozen? ⟨B, o, none⟩ = false) ∧ NoU w0 B ∧ B < w0.heap.size
theorem BX.base {w w0 : World} {B : Nat} {L : List (Nat × Nat × Value)} (h : BX w B L w0) : Ext w w0 := h.1
theorem BX.box {w w0 : World} {B : Nat} {L : List (Nat × Nat × Value)} (h : BX w B L w0) : (∃ a, w0.cell? ⟨B, 0, none⟩ = some a) ∧ (∃ a, w0.cell? ⟨B, 1, none⟩ = some a) ∧ (∀ o, w0.frozen? ⟨B, o, none⟩ = false) ∧ NoU w0 B ∧ B < w0.heap.size := h.2.2
theorem BX.get {w w0 : World} {B : Nat} {L : List (Nat × Nat × Value)} (h : BX w B L w0) (i : Nat) {b o : Nat} {v : Value} (hi : L[i]? = some (b, o, v)) : w0.cell? ⟨b, o, none⟩ = some v := h.2.1 (b, o, v) (List.mem_of_getElem? hi)
theorem BX.ext {w a w0 : World} {B : Nat} {L : List (Nat × Nat × Value)} (h : BX w B L a) (k : Ext a w0) : BX w B L w0 := by
  obtain ⟨h1, h2, ⟨a0, h3⟩, ⟨a1, h4⟩, h5, h6, h7⟩ := h
  have lt : ∀ {b o v}, a.cell? ⟨b, o, none⟩ = some v → b < a.heap.size := fun h => World.block_lt_of_cell? a _ h
  exact ⟨h1.trans k, fun p hp => (k.cells.1 p.1 p.2.1 (lt (h2 p hp))).trans (h2 p hp), ⟨a0, (k.cells.1 B 0 h7).trans h3⟩, ⟨a1, (k.cells.1 B 1 h7).trans h4⟩, fun o => (k.cells.2 B o h7).trans (h5 o), h6.ext h7 k, Nat.lt_of_lt_of_le h7 k.size⟩
theorem BX.drew {w w0 : World} {B : Nat} {L : List (Nat × Nat × Value)} (h : BX w B L w0) : BX w B L w0.drew := h.ext ((Ext.refl w0).drew)
theorem BX.set {w w0 : World} {B j : Nat} {L : List (Nat × Nat × Value)} {x : Value} (h : BX w B L w0) (hB : w.heap.size ≤ B) (hL : ∀ p ∈ L, p.1 ≠ B) (hx : ∀ z, x ≠ .int .u32 z) : BX w B L (w0.setCell ⟨B, j, none⟩ x) := by
  obtain ⟨h1, h2, ⟨a0, h3⟩, ⟨a1, h4⟩, h5, h6, h7⟩ := h
  have some' : ∀ o a, w0.cell? ⟨B, o, none⟩ = some a → ∃ c, (w0.setCell ⟨B, j, none⟩ x).cell? ⟨B, o, none⟩ = some c := fun o a ha => by
    rw [cell_sc]
    split
    · rename_i e
      have : o = j := by have := congrArg Addr.off e; simpa using this
      subst this
      rw [ha]; exact ⟨x, rfl⟩
    · exact ⟨a, ha⟩
  refine ⟨h1.setCell (p := ⟨B, j, none⟩) hB x, fun p hp => ?_, some' 0 a0 h3, some' 1 a1 h4, fun o => by rw [World.frozen?_setCell]; exact h5 o, h6.set hx, by simpa using h7⟩
  rw [cell_sc, if_neg]
  · exact h2 p hp
  · intro e; exact hL p hp (by have := congrArg Addr.block e; simpa using this)
theorem BX.other {w w0 : World} {B B' j : Nat} {L : List (Nat × Nat × Value)} {x : Value} (h : BX w B L w0) (hB : w.heap.size ≤ B') (hL : ∀ p ∈ L, p.1 ≠ B') (hne : B' ≠ B) (hx : ∀ z, x ≠ .int .u32 z) : BX w B L (w0.setCell ⟨B', j, none⟩ x) := by
  obtain ⟨h1, h2, ⟨a0, h3⟩, ⟨a1, h4⟩, h5, h6, h7⟩ := h
  have same : ∀ b o, b ≠ B' → (w0.setCell ⟨B', j, none⟩ x).cell? ⟨b, o, none⟩ = w0.cell? ⟨b, o, none⟩ := fun b o hb => by
    rw [cell_sc, if_neg (fun e => hb (by have := congrArg Addr.block e; simpa using this))]
  exact ⟨h1.setCell (p := ⟨B', j, none⟩) hB x, fun p hp => (same _ _ (hL p hp)).trans (h2 p hp), ⟨a0, (same _ _ (Ne.symm hne)).trans h3⟩, ⟨a1, (same _ _ (Ne.symm hne)).trans h4⟩, fun o => by rw [World.frozen?_setCell]; exact h5 o, h6.set hx, by simpa using h7⟩
end Go.Proofs.Ytcalonhphknbbaa

/- Limbs: sums. -/
namespace Go.Proofs.Ytcalonhphknbbaa
open Go.RowKit

set_option maxRecDepth 100000 in
set_option maxHeartbeats 4000000 in
theorem w_plus (va vb : Value) (xs ys : List Int) (w : World) (ha : Lim w va xs) (hb : Lim w vb ys) (hx : xs.length ≤ 100000 ∧ ys.length ≤ 100000) :
    Calls Try.prog 75 #[va, vb] w fun e w' => ∃ u zs, e = .returned u ∧ Lim w' u zs ∧ val zs = val xs + val ys ∧ Ext w w' := by
  rcases Nat.lt_or_ge xs.length ys.length with hlt | hge
  ·
    obtain ⟨aoA, bA, oA, cA, rfl, a1, a2, a3, a4, a5, a6⟩ := hb.view
    obtain ⟨aoB, bB, oB, cB, rfl, b1, b2, b3, b4, b5, b6⟩ := ha.view
    have lA := hb.lb
    have lB := ha.lb
    obtain ⟨i0, hi, hz0, hz1, hz2⟩ := info_parts info81
    go_enter Try.func75, Try.ntmps75
    go_wp2_with (at_make; refine wpList_make_full _ rfl _ _ 23 rfl w.heap.size 81 i0 (.int .u32 0) 1 Try.underlying23 hi hz0 hz1 .i64 .i64 _ _ (ys.length + 1) rfl rfl (by omega) (by omega) (by rw [hz2]; omega) (by unfold maxLen; omega) (Nat.le_refl _) ?_; intro w0 hown0 hgrow0)
    have hR0 : R32 w0 w.heap.size w.heap.size (ys.length + 1) (List.replicate (ys.length + 1) 0) := R32.made hown0
    have hE0 : Ext w w0 := Ext.grown (Ext.refl w) hgrow0
    clear hown0 hgrow0
    go_loopw [6, 23] (fun c i wr => ∃ (k : Nat) (z : Int) (zs : List Int), k ≤ ys.length ∧ c = .int .u32 z ∧ i = .int .i64 k ∧ 0 ≤ z ∧ z ≤ 1 ∧ zs.length = k ∧ Lb zs ∧ val zs + BB ^ k * z = val (ys.take k) + val (xs.take k) ∧
        Hid (R32 wr w.heap.size w.heap.size (ys.length + 1) (zs ++ List.replicate (ys.length + 1 - k) 0)) ∧ Hid (Ext w wr)) (fun _ i _ => ys.length - (intOf i).toNat)
    case atStart => exact ⟨0, 0, [], Nat.zero_le _, rfl, rfl, by decide, by decide, rfl, Lb.nil, by simp [val], hR0, hE0⟩
    case round =>
      obtain ⟨k, z, zs, hk, rfl, rfl, z0, z1, hzl, hzb, hv, HR, HE⟩ := hrel
      have hg := HR.out.zero hzl (by omega)
      have hgf := HR.out.frozen k
      have hglt := HR.out.lt
      by_cases hkx : k < ys.length
      · have eA := a1 (by omega)
        subst eA
        have hca := (HE.out.cells.1 _ (oA + k) (a4 (by omega))).trans (a5 k hkx)
        have hxk : U32 (ys.getD k 0) := lA.getD k
        have hyk : U32 (xs.getD k 0) := lB.getD k
        obtain ⟨x, ex⟩ : ∃ x, ys.getD k 0 = x := ⟨_, rfl⟩
        obtain ⟨y, ey⟩ : ∃ y, xs.getD k 0 = y := ⟨_, rfl⟩
        have hq := plus_step hv hzl ex ey
        rw [ex] at hca hxk
        rw [ey] at hyk
        have hst := HR.out.step hzl (by omega) ((x + y + z) % 4294967296)
        have hes : Ext w (wr.setCell ⟨w.heap.size, k, none⟩ (.int .u32 ((x + y + z) % 4294967296))) := HE.out.setCell (p := ⟨w.heap.size, k, none⟩) (Nat.le_refl _) _
        have hnx : 0 ≤ (x + y + z) / 4294967296 ∧ (x + y + z) / 4294967296 ≤ 1 := by unfold U32 at hxk hyk; omega
        replace hst : Hid _ := hst
        replace hes : Hid _ := hes
        replace hq : Hid _ := hq
        by_cases hky : k < xs.length
        · have eB := b1 (by omega)
          subst eB
          have hcb := (HE.out.cells.1 _ (oB + k) (b4 (by omega))).trans (b5 k hky)
          rw [ey] at hcb
          clear ex ey hv a5 b5
          go_wp2_with (go_at_call 83; (with_reducible refine (w_add32 x y z _ hxk hyk ⟨z0, z1⟩).mono ?_); rintro e w2 ⟨rfl, rfl⟩)
          go_roundw
          case rel => exact ⟨k + 1, _, _, hkx, rfl, by go_num, hnx.1, hnx.2, by simp [hzl], hzb.snoc (U32.mod _), hq.out, hst, hes⟩
          case measure => simp [intOf]; omega
        · have hy0 : y = 0 := by rw [← ey, List.getD_eq_getElem?_getD, List.getElem?_eq_none (by omega)]; rfl
          subst hy0
          simp only [Int.add_zero] at hst hes hq hnx
          clear ex ey hv a5 b5
          go_wp2_with (go_at_call 83; (with_reducible refine (w_add32 x 0 z _ hxk hyk ⟨z0, z1⟩).mono ?_); rintro e w2 ⟨rfl, rfl⟩)
          go_roundw
          case rel => exact ⟨k + 1, _, _, hkx, rfl, by go_num, hnx.1, hnx.2, by simp [hzl], hzb.snoc (U32.mod _), hq.out, hst, hes⟩
          case measure => simp [intOf]; omega
      · have hkl : k = ys.length := by omega
        subst hkl
        have hu : U32 z := by unfold U32; omega
        have hst := HR.out.step hzl (by omega) z
        have hes : Ext w (wr.setCell ⟨w.heap.size, ys.length, none⟩ (.int .u32 z)) := HE.out.setCell (p := ⟨w.heap.size, ys.length, none⟩) (Nat.le_refl _) _
        have hvv : val (zs ++ [z]) = val ys + val xs := by
          rw [val_append, hzl]; simp only [val]
          rw [List.take_length, List.take_of_length_le (by omega)] at hv
          simpa using hv
        rw [Nat.sub_self, List.replicate_zero, List.append_nil] at hst
        replace hst : Hid _ := hst
        replace hes : Hid _ := hes
        go_wp2_with fail
        go_ret
        exact ⟨_, zs ++ [z], rfl, R32.lim hst.out (hzb.snoc hu) (by omega), by rw [hvv, Int.add_comm], hes.out⟩
  ·
    obtain ⟨aoA, bA, oA, cA, rfl, a1, a2, a3, a4, a5, a6⟩ := ha.view
    obtain ⟨aoB, bB, oB, cB, rfl, b1, b2, b3, b4, b5, b6⟩ := hb.view
    have lA := ha.lb
    have lB := hb.lb
    obtain ⟨i0, hi, hz0, hz1, hz2⟩ := info_parts info81
    go_enter Try.func75, Try.ntmps75
    go_wp2_with (at_make; refine wpList_make_full _ rfl _ _ 23 rfl w.heap.size 81 i0 (.int .u32 0) 1 Try.underlying23 hi hz0 hz1 .i64 .i64 _ _ (xs.length + 1) rfl rfl (by omega) (by omega) (by rw [hz2]; omega) (by unfold maxLen; omega) (Nat.le_refl _) ?_; intro w0 hown0 hgrow0)
    have hR0 : R32 w0 w.heap.size w.heap.size (xs.length + 1) (List.replicate (xs.length + 1) 0) := R32.made hown0
    have hE0 : Ext w w0 := Ext.grown (Ext.refl w) hgrow0
    clear hown0 hgrow0
    go_loopw [6, 23] (fun c i wr => ∃ (k : Nat) (z : Int) (zs : List Int), k ≤ xs.length ∧ c = .int .u32 z ∧ i = .int .i64 k ∧ 0 ≤ z ∧ z ≤ 1 ∧ zs.length = k ∧ Lb zs ∧ val zs + BB ^ k * z = val (xs.take k) + val (ys.take k) ∧
        Hid (R32 wr w.heap.size w.heap.size (xs.length + 1) (zs ++ List.replicate (xs.length + 1 - k) 0)) ∧ Hid (Ext w wr)) (fun _ i _ => xs.length - (intOf i).toNat)
    case atStart => exact ⟨0, 0, [], Nat.zero_le _, rfl, rfl, by decide, by decide, rfl, Lb.nil, by simp [val], hR0, hE0⟩
    case round =>
      obtain ⟨k, z, zs, hk, rfl, rfl, z0, z1, hzl, hzb, hv, HR, HE⟩ := hrel
      have hg := HR.out.zero hzl (by omega)
      have hgf := HR.out.frozen k
      have hglt := HR.out.lt
      by_cases hkx : k < xs.length
      · have eA := a1 (by omega)
        subst eA
        have hca := (HE.out.cells.1 _ (oA + k) (a4 (by omega))).trans (a5 k hkx)
        have hxk : U32 (xs.getD k 0) := lA.getD k
        have hyk : U32 (ys.getD k 0) := lB.getD k
        obtain ⟨x, ex⟩ : ∃ x, xs.getD k 0 = x := ⟨_, rfl⟩
        obtain ⟨y, ey⟩ : ∃ y, ys.getD k 0 = y := ⟨_, rfl⟩
        have hq := plus_step hv hzl ex ey
        rw [ex] at hca hxk
        rw [ey] at hyk
        have hst := HR.out.step hzl (by omega) ((x + y + z) % 4294967296)
        have hes : Ext w (wr.setCell ⟨w.heap.size, k, none⟩ (.int .u32 ((x + y + z) % 4294967296))) := HE.out.setCell (p := ⟨w.heap.size, k, none⟩) (Nat.le_refl _) _
        have hnx : 0 ≤ (x + y + z) / 4294967296 ∧ (x + y + z) / 4294967296 ≤ 1 := by unfold U32 at hxk hyk; omega
        replace hst : Hid _ := hst
        replace hes : Hid _ := hes
        replace hq : Hid _ := hq
        by_cases hky : k < ys.length
        · have eB := b1 (by omega)
          subst eB
          have hcb := (HE.out.cells.1 _ (oB + k) (b4 (by omega))).trans (b5 k hky)
          rw [ey] at hcb
          clear ex ey hv a5 b5
          go_wp2_with (go_at_call 83; (with_reducible refine (w_add32 x y z _ hxk hyk ⟨z0, z1⟩).mono ?_); rintro e w2 ⟨rfl, rfl⟩)
          go_roundw
          case rel => exact ⟨k + 1, _, _, hkx, rfl, by go_num, hnx.1, hnx.2, by simp [hzl], hzb.snoc (U32.mod _), hq.out, hst, hes⟩
          case measure => simp [intOf]; omega
        · have hy0 : y = 0 := by rw [← ey, List.getD_eq_getElem?_getD, List.getElem?_eq_none (by omega)]; rfl
          subst hy0
          simp only [Int.add_zero] at hst hes hq hnx
          clear ex ey hv a5 b5
          go_wp2_with (go_at_call 83; (with_reducible refine (w_add32 x 0 z _ hxk hyk ⟨z0, z1⟩).mono ?_); rintro e w2 ⟨rfl, rfl⟩)
          go_roundw
          case rel => exact ⟨k + 1, _, _, hkx, rfl, by go_num, hnx.1, hnx.2, by simp [hzl], hzb.snoc (U32.mod _), hq.out, hst, hes⟩
          case measure => simp [intOf]; omega
      · have hkl : k = xs.length := by omega
        subst hkl
        have hu : U32 z := by unfold U32; omega
        have hst := HR.out.step hzl (by omega) z
        have hes : Ext w (wr.setCell ⟨w.heap.size, xs.length, none⟩ (.int .u32 z)) := HE.out.setCell (p := ⟨w.heap.size, xs.length, none⟩) (Nat.le_refl _) _
        have hvv : val (zs ++ [z]) = val xs + val ys := by
          rw [val_append, hzl]; simp only [val]
          rw [List.take_length, List.take_of_length_le (by omega)] at hv
          simpa using hv
        rw [Nat.sub_self, List.replicate_zero, List.append_nil] at hst
        replace hst : Hid _ := hst
        replace hes : Hid _ := hes
        go_wp2_with fail
        go_ret
        exact ⟨_, zs ++ [z], rfl, R32.lim hst.out (hzb.snoc hu) (by omega), hvv, hes.out⟩


end Go.Proofs.Ytcalonhphknbbaa
