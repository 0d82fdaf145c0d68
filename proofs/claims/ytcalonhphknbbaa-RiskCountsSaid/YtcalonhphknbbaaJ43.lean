/- The reference: bounds of outcomes. -/
import Derived.Test.YtcalonhphknbbaaJ42
import Derived.Test.YtcalonhphknbbaaJ33
import Derived.RegionTactic
set_option linter.unusedSimpArgs false
set_option linter.unusedVariables false
namespace Go.Proofs.Ytcalonhphknbbaa
open Go.RowKit

theorem WR.other {w : World} {g n B' k : Nat} {x : Value} (h : WR w g n) (hne : B' ≠ g) (ho : NoU w B') : WR (w.setCell ⟨B', k, none⟩ x) g n := by
  refine ⟨by simpa using h.1, fun i hi => ?_⟩
  obtain ⟨u, s, c1, c2, c3, c4, c5, c6⟩ := h.2 i hi
  have hc : ∀ o, (w.setCell ⟨B', k, none⟩ x).cell? ⟨g, o, none⟩ = w.cell? ⟨g, o, none⟩ := fun o => by rw [cell_sc, if_neg (fun e => hne (by have := congrArg Addr.block e; simpa using this.symm))]
  exact ⟨u, s, (hc _).trans c1, (hc _).trans c2, (hc _).trans c3, (hc _).trans c4, Lim.box c5 ho, Lim.box c6 ho⟩
/-- What is known of the two sums, in the blocks L, L + 1, and of the weights. -/
def BrC (W : World) (n g L p1 q1 p2 q2 : Nat) (wx : World) : Prop :=
  At wx L p1 q1 ∧ At wx (L + 1) p2 q2 ∧ NoU wx L ∧ NoU wx (L + 1) ∧ (∀ o, wx.frozen? ⟨L, o, none⟩ = false) ∧ (∀ o, wx.frozen? ⟨L + 1, o, none⟩ = false) ∧ WR wx g n ∧ Ext W wx ∧ L + 1 < wx.heap.size ∧ g < L ∧ W.heap.size ≤ L
theorem BrC.ext {W a b : World} {n g L p1 q1 p2 q2 : Nat} (h : BrC W n g L p1 q1 p2 q2 a) (k : Ext a b) : BrC W n g L p1 q1 p2 q2 b := by
  obtain ⟨h1, h2, h3, h4, h5, h6, h7, h8, h9, h10, h11⟩ := h
  have hl : L < a.heap.size := by omega
  exact ⟨h1.ext hl k, h2.ext h9 k, h3.ext hl k, h4.ext h9 k, fun o => (k.cells.2 _ o hl).trans (h5 o), fun o => (k.cells.2 _ o h9).trans (h6 o), h7.ext k, h8.trans k, Nat.lt_of_lt_of_le h9 k.size, h10, h11⟩
theorem BrC.low {W a : World} {n g L p1 q1 p2 q2 p q : Nat} {ao bo : Option Addr} {n1 n2 c1 c2 : Nat} (h : BrC W n g L p1 q1 p2 q2 a) (hu : Lim a (.slice ao n1 c1) (dig p)) (hs : Lim a (.slice bo n2 c2) (dig q)) :
    BrC W n g L p q p2 q2 ((((a.setCell ⟨L, 0, none⟩ (.bool false)).setCell ⟨L, 1, none⟩ (.slice ao n1 c1)).setCell ⟨L, 2, none⟩ (.bool false)).setCell ⟨L, 3, none⟩ (.slice bo n2 c2)) := by
  obtain ⟨h1, h2, h3, h4, h5, h6, h7, h8, h9, h10, h11⟩ := h
  obtain ⟨u, s, e1, e2, e3, e4, -, -⟩ := h1
  have a1 : NoU (a.setCell ⟨L, 0, none⟩ (.bool false)) L := h3.set (fun z e => by cases e)
  have a2 : NoU ((a.setCell ⟨L, 0, none⟩ (.bool false)).setCell ⟨L, 1, none⟩ (.slice ao n1 c1)) L := a1.set (fun z e => by cases e)
  have a3 : NoU (((a.setCell ⟨L, 0, none⟩ (.bool false)).setCell ⟨L, 1, none⟩ (.slice ao n1 c1)).setCell ⟨L, 2, none⟩ (.bool false)) L := a2.set (fun z e => by cases e)
  refine ⟨At.stored ⟨_, e1⟩ ⟨_, e2⟩ ⟨_, e3⟩ ⟨_, e4⟩ h3 hu hs (fun z e => by cases e) (fun z e => by cases e), (((h2.other (by omega) h3).other (by omega) a1).other (by omega) a2).other (by omega) a3, a3.set (fun z e => by cases e), (((h4.set (fun z e => by cases e)).set (fun z e => by cases e)).set (fun z e => by cases e)).set (fun z e => by cases e), fun o => by simp only [World.frozen?_setCell]; exact h5 o, fun o => by simp only [World.frozen?_setCell]; exact h6 o, (((h7.other (by omega) h3).other (by omega) a1).other (by omega) a2).other (by omega) a3, ?_, by simpa using h9, h10, h11⟩
  exact (((h8.setCell (p := ⟨L, 0, none⟩) h11 _).setCell (p := ⟨L, 1, none⟩) h11 _).setCell (p := ⟨L, 2, none⟩) h11 _).setCell (p := ⟨L, 3, none⟩) h11 _
theorem BrC.high {W a : World} {n g L p1 q1 p2 q2 p q : Nat} {ao bo : Option Addr} {n1 n2 c1 c2 : Nat} (h : BrC W n g L p1 q1 p2 q2 a) (hu : Lim a (.slice ao n1 c1) (dig p)) (hs : Lim a (.slice bo n2 c2) (dig q)) :
    BrC W n g L p1 q1 p q ((((a.setCell ⟨L + 1, 0, none⟩ (.bool false)).setCell ⟨L + 1, 1, none⟩ (.slice ao n1 c1)).setCell ⟨L + 1, 2, none⟩ (.bool false)).setCell ⟨L + 1, 3, none⟩ (.slice bo n2 c2)) := by
  obtain ⟨h1, h2, h3, h4, h5, h6, h7, h8, h9, h10, h11⟩ := h
  obtain ⟨u, s, e1, e2, e3, e4, -, -⟩ := h2
  have h12 : W.heap.size ≤ L + 1 := by omega
  have a1 : NoU (a.setCell ⟨L + 1, 0, none⟩ (.bool false)) (L + 1) := h4.set (fun z e => by cases e)
  have a2 : NoU ((a.setCell ⟨L + 1, 0, none⟩ (.bool false)).setCell ⟨L + 1, 1, none⟩ (.slice ao n1 c1)) (L + 1) := a1.set (fun z e => by cases e)
  have a3 : NoU (((a.setCell ⟨L + 1, 0, none⟩ (.bool false)).setCell ⟨L + 1, 1, none⟩ (.slice ao n1 c1)).setCell ⟨L + 1, 2, none⟩ (.bool false)) (L + 1) := a2.set (fun z e => by cases e)
  refine ⟨(((h1.other (by omega) h4).other (by omega) a1).other (by omega) a2).other (by omega) a3, At.stored ⟨_, e1⟩ ⟨_, e2⟩ ⟨_, e3⟩ ⟨_, e4⟩ h4 hu hs (fun z e => by cases e) (fun z e => by cases e), (((h3.set (fun z e => by cases e)).set (fun z e => by cases e)).set (fun z e => by cases e)).set (fun z e => by cases e), a3.set (fun z e => by cases e), fun o => by simp only [World.frozen?_setCell]; exact h5 o, fun o => by simp only [World.frozen?_setCell]; exact h6 o, (((h7.other (by omega) h4).other (by omega) a1).other (by omega) a2).other (by omega) a3, ?_, by simpa using h9, h10, h11⟩
  exact (((h8.setCell (p := ⟨L + 1, 0, none⟩) h12 _).setCell (p := ⟨L + 1, 1, none⟩) h12 _).setCell (p := ⟨L + 1, 2, none⟩) h12 _).setCell (p := ⟨L + 1, 3, none⟩) h12 _
theorem r_Whole0 (w : World) : Calls Try.prog 23 #[.int .i64 0] w fun e w' => ∃ u, e = .returned u ∧ Fq w' u 0 1 ∧ Ext w w' := r_Whole 0 w (by decide)
/-- The loop of the reference's 'Bounds'. -/
def BrR (W : World) (l : List Int) (n g L : Nat) (kv : Value) (wr : World) : Prop := ∃ k : Nat, k ≤ 2 * n + 1 ∧ kv = .int .i64 k ∧ Hid (BrC W n g L (rn (wsum isSure l n k) (4 ^ n)) (rd (wsum isSure l n k) (4 ^ n)) (rn (wsum isAny l n k) (4 ^ n)) (rd (wsum isAny l n k) (4 ^ n)) wr)
set_option maxRecDepth 100000 in
set_option maxHeartbeats 4000000 in
theorem r_Bounds (v : Value) (l : List Int) (n : Nat) (w : World) (h : Oc w v l) (hok : okL l = true) (hl : l.length = 2 * n + 1) (hn : n ≤ 20) :
    Calls Try.prog 7 #[v] w fun e w' => ∃ a b, e = .returned (.tuple #[a, b, .int .i64 0]) ∧ Fq w' a (rn (wsum isSure l n (2 * n + 1)) (4 ^ n)) (rd (wsum isSure l n (2 * n + 1)) (4 ^ n)) ∧ Fq w' b (rn (wsum isAny l n (2 * n + 1)) (4 ^ n)) (rd (wsum isAny l n (2 * n + 1)) (4 ^ n)) ∧ Ext w w' := by
  have hva := fun w1 (k1 : Ext w w1) => k_Valid v l w1 (h.ext k1)
  rw [hok] at hva
  obtain ⟨ao, b, o, cap, rfl, h1, h2, h3, h4, h5, h6⟩ := h
  have e := h1 (by omega)
  subst e
  have hb4' := h4 (by omega)
  rw [hl] at hva h5 h6 h2 ⊢
  have hl2 : Hid (l.length = 2 * n + 1) := hl
  clear hl h1 h4
  have hdiv : (2 * (n : Int) + 1) / 2 = (n : Int) := by omega
  have hD0 : 0 < 4 ^ n := Nat.pow_pos (by decide)
  have hDl : 4 ^ n ≤ 1099511627776 := Nat.pow_le_pow_right (n := 4) (by decide) hn
  obtain ⟨z1, z2⟩ := rn_zero (4 ^ n) hD0
  go_enter Try.func7, Try.ntmps7
  go_upto_region 1 with fail
  refine wp_name fun W0 hW0 => ?_
  have hi0 : Ext w W0 ∧ w.heap.size + 1 < W0.heap.size ∧ (∀ o, W0.frozen? ⟨w.heap.size, o, none⟩ = false) ∧ (∀ o, W0.frozen? ⟨w.heap.size + 1, o, none⟩ = false) ∧ NoU W0 w.heap.size ∧ NoU W0 (w.heap.size + 1) ∧ (∀ o, o < 4 → ∃ a, W0.cell? ⟨w.heap.size, o, none⟩ = some a) ∧ (∀ o, o < 4 → ∃ a, W0.cell? ⟨w.heap.size + 1, o, none⟩ = some a) := by
    have e9 : W0 = _ := hW0
    rw [e9]
    refine ⟨((Ext.refl w).alloc _).alloc _, by simp, fun o => ?_, fun o => ?_, ?_, ?_, fun o ho => ?_, fun o ho => ?_⟩
    · simp [go_sem, ↓IntWalk.iteOmega]
    · simp [go_sem, ↓IntWalk.iteOmega]
    · exact (NoU.new w #[.bool false, .slice none 0 0, .bool false, .slice none 0 0] 27 (noU4 (by simp) (by simp) (by simp) (by simp))).alloc (by simp) _ _
    · have := NoU.new (w.alloc (.cells #[.bool false, .slice none 0 0, .bool false, .slice none 0 0] 27)) #[.bool false, .slice none 0 0, .bool false, .slice none 0 0] 27 (noU4 (by simp) (by simp) (by simp) (by simp))
      simpa using this
    · rcases (by omega : o = 0 ∨ o = 1 ∨ o = 2 ∨ o = 3) with rfl | rfl | rfl | rfl <;> exact ⟨_, by simp [go_sem, ↓IntWalk.iteOmega]; rfl⟩
    · rcases (by omega : o = 0 ∨ o = 1 ∨ o = 2 ∨ o = 3) with rfl | rfl | rfl | rfl <;> exact ⟨_, by simp [go_sem, ↓IntWalk.iteOmega]; rfl⟩
  clear hW0
  replace hi0 : Hid _ := hi0
  have hE0 := hi0.out.1
  have hwA := r_Whole0
  have hwB := r_Whole0
  go_upto_region 5 with (first
    | (go_at_call 13; (with_reducible refine (hva _ hE0).mono ?_); rintro e w1 ⟨rfl, h9⟩; replace h9 := h9.symm; subst h9)
    | (go_at_call 22; (with_reducible refine (r_Weights n _ hn).mono ?_); rintro e w2 ⟨g, cp, rfl, hcp1, hcp2, hgl, hWR, hb2⟩)
    | (go_at_call 23; (with_reducible refine (hwA _).mono ?_); rintro e w3 ⟨y3, rfl, ⟨u3, s3, rfl, hu3, hs3⟩, hb3⟩; obtain ⟨ao5, b5, o5, cap5, rfl, -⟩ := hu3.view; obtain ⟨ao7, b7, o7, cap7, rfl, -⟩ := hs3.view; clear hwA)
    | (go_at_call 23; (with_reducible refine (hwB _).mono ?_); rintro e w4 ⟨y4, rfl, ⟨u4, s4, rfl, hu4, hs4⟩, hb4⟩; obtain ⟨ao6, b6, o6, cap6, rfl, -⟩ := hu4.view; obtain ⟨ao8, b8, o8, cap8, rfl, -⟩ := hs4.view; clear hwB))
  refine wp_name fun W hW => ?_
  have hA1 : NoU (w4.alloc (.cells #[.bool false, .slice ao5 (dig 0).length cap5, .bool false, .slice ao7 (dig 1).length cap7] 27)) w4.heap.size := NoU.new w4 _ _ (noU4 (by simp) (by simp) (by simp) (by simp))
  have hA2 := NoU.new (w4.alloc (.cells #[.bool false, .slice ao5 (dig 0).length cap5, .bool false, .slice ao7 (dig 1).length cap7] 27)) #[.bool false, .slice ao6 (dig 0).length cap6, .bool false, .slice ao8 (dig 1).length cap8] 27 (noU4 (by simp) (by simp) (by simp) (by simp))
  rw [World.size_alloc] at hA2
  have q1 := hWR.1
  have q2 := hb2.size
  have q3 := hb3.size
  have q4 := hb4.size
  have hB3 : BrC W0 n g w4.heap.size 0 1 0 1 W := by
    have e9 : W = _ := hW
    rw [e9]
    refine ⟨⟨_, _, (by simp [go_sem, ↓IntWalk.iteOmega]), (by simp [go_sem, ↓IntWalk.iteOmega]), (by simp [go_sem, ↓IntWalk.iteOmega]), (by simp [go_sem, ↓IntWalk.iteOmega]), ((hu3.ext hb4).alloc _).alloc _, ((hs3.ext hb4).alloc _).alloc _⟩, ⟨_, _, (by simp [go_sem, ↓IntWalk.iteOmega]), (by simp [go_sem, ↓IntWalk.iteOmega]), (by simp [go_sem, ↓IntWalk.iteOmega]), (by simp [go_sem, ↓IntWalk.iteOmega]), (hu4.alloc _).alloc _, (hs4.alloc _).alloc _⟩, hA1.alloc (by simp) _ _, hA2, fun o => by simp [go_sem, ↓IntWalk.iteOmega], fun o => by simp [go_sem, ↓IntWalk.iteOmega], hWR.ext (((hb3.trans hb4).alloc _).alloc _), (((hb2.trans (hb3.trans hb4)).alloc _).alloc _), by simp, by omega, by omega⟩
  obtain ⟨L, eL⟩ : ∃ L, w4.heap.size = L := ⟨_, rfl⟩
  rw [eL] at hB3 ⊢
  replace hB3 := (show ∀ {A C A' C' : Nat}, A = A' → C = C' → BrC W0 n g L A C A C W → BrC W0 n g L A' C' A' C' W from fun e1 e2 h => by subst e1; subst e2; exact h) z1.symm z2.symm hB3
  replace hB3 : Hid (BrC W0 n g L (rn (wsum isSure l n 0) (4 ^ n)) (rd (wsum isSure l n 0) (4 ^ n)) (rn (wsum isAny l n 0) (4 ^ n)) (rd (wsum isAny l n 0) (4 ^ n)) W) := hB3
  clear hW hA1 hA2 hu3 hs3 hu4 hs4 hWR q1 q2 q3 q4 eL hb2 hb3 hb4
  go_wp2_with fail
  go_loopw [9] (fun kv wr => BrR W0 l n g L kv wr) (fun kv _ => 2 * n + 1 - (intOf kv).toNat)
  case atStart => exact ⟨0, Nat.zero_le _, rfl, hB3⟩
  case round =>
    clear hB3
    obtain ⟨k, hk, rfl, HB⟩ := hrel
    rcases Nat.eq_or_lt_of_le hk with e1 | hk2
    · subst e1
      obtain ⟨⟨u1, s1, a1, a2, a3, a4, a5, a6⟩, ⟨u2, s2, b1, b2, b3, b4, b5, b6⟩, n1, n2, f1, f2, -, hE, hs1, hgL, hWL⟩ := HB.out
      obtain ⟨i1, i2, i3, i4, i5, i6, i7, i8⟩ := hi0.out
      have m1 : NoU wr w.heap.size := i5.ext (by omega) hE
      have m2 : NoU wr (w.heap.size + 1) := i6.ext (by omega) hE
      have g := fun o => (hE.cells.2 w.heap.size o (by omega)).trans (i3 o)
      have g' := fun o => (hE.cells.2 (w.heap.size + 1) o (by omega)).trans (i4 o)
      obtain ⟨_, r0⟩ := (i7 0 (by decide)).imp fun a h => (hE.cells.1 _ _ (by omega)).trans h
      obtain ⟨_, r1⟩ := (i7 1 (by decide)).imp fun a h => (hE.cells.1 _ _ (by omega)).trans h
      obtain ⟨_, r2⟩ := (i7 2 (by decide)).imp fun a h => (hE.cells.1 _ _ (by omega)).trans h
      obtain ⟨_, r3⟩ := (i7 3 (by decide)).imp fun a h => (hE.cells.1 _ _ (by omega)).trans h
      obtain ⟨_, r4⟩ := (i8 0 (by decide)).imp fun a h => (hE.cells.1 _ _ (by omega)).trans h
      obtain ⟨_, r5⟩ := (i8 1 (by decide)).imp fun a h => (hE.cells.1 _ _ (by omega)).trans h
      obtain ⟨_, r6⟩ := (i8 2 (by decide)).imp fun a h => (hE.cells.1 _ _ (by omega)).trans h
      obtain ⟨_, r7⟩ := (i8 3 (by decide)).imp fun a h => (hE.cells.1 _ _ (by omega)).trans h
      have hEw : Ext w wr := hE0.trans hE
      have hwz := hEw.size
      have hLw : w.heap.size + 1 < L := by omega
      clear HB hi0 i3 i4 i5 i6 i7 i8 h5 h6 hva
      obtain ⟨x1, _, y1, z3, rfl, -⟩ := a5.view
      obtain ⟨x2, _, y2, z4, rfl, -⟩ := a6.view
      obtain ⟨x3, _, y3, z5, rfl, -⟩ := b5.view
      obtain ⟨x4, _, y4, z6, rfl, -⟩ := b6.view
      go_wp2_with fail
      go_region
      all_goals
        go_wp2_with fail
        refine bodyPost_ret (v := .tuple #[.agg #[.bool false, .slice x1 (dig (rn (wsum isSure l n (2 * n + 1)) (4 ^ n))).length z3, .bool false, .slice x2 (dig (rd (wsum isSure l n (2 * n + 1)) (4 ^ n))).length z4], .agg #[.bool false, .slice x3 (dig (rn (wsum isAny l n (2 * n + 1)) (4 ^ n))).length z5, .bool false, .slice x4 (dig (rd (wsum isAny l n (2 * n + 1)) (4 ^ n))).length z6], .int .i64 0]) ?_ rfl ⟨_, _, rfl, ⟨_, _, rfl, ?_, ?_⟩, ⟨_, _, rfl, ?_, ?_⟩, ?_⟩
        · simp [results, Try.results7, go_sem, ↓IntWalk.iteOmega, *]
        · exact ((a5.box4 m1).box4 ((((m2.set (fun z e => by cases e)).set (fun z e => by cases e)).set (fun z e => by cases e)).set (fun z e => by cases e))).ext (Ext.refl _).drew
        · exact ((a6.box4 m1).box4 ((((m2.set (fun z e => by cases e)).set (fun z e => by cases e)).set (fun z e => by cases e)).set (fun z e => by cases e))).ext (Ext.refl _).drew
        · exact ((b5.box4 m1).box4 ((((m2.set (fun z e => by cases e)).set (fun z e => by cases e)).set (fun z e => by cases e)).set (fun z e => by cases e))).ext (Ext.refl _).drew
        · exact ((b6.box4 m1).box4 ((((m2.set (fun z e => by cases e)).set (fun z e => by cases e)).set (fun z e => by cases e)).set (fun z e => by cases e))).ext (Ext.refl _).drew
        · exact (((((((((hEw.setCell (p := ⟨w.heap.size, 0, none⟩) (Nat.le_refl _) _).setCell (p := ⟨w.heap.size, 1, none⟩) (Nat.le_refl _) _).setCell (p := ⟨w.heap.size, 2, none⟩) (Nat.le_refl _) _).setCell (p := ⟨w.heap.size, 3, none⟩) (Nat.le_refl _) _).setCell (p := ⟨w.heap.size + 1, 0, none⟩) (Nat.le_succ _) _).setCell (p := ⟨w.heap.size + 1, 1, none⟩) (Nat.le_succ _) _).setCell (p := ⟨w.heap.size + 1, 2, none⟩) (Nat.le_succ _) _).setCell (p := ⟨w.heap.size + 1, 3, none⟩) (Nat.le_succ _) _).drew)
    · have hx := ((ok_iff l).1 hok).2.2 k (by rw [hl2.out]; exact hk2)
      have hE := hE0.trans HB.out.2.2.2.2.2.2.2.1
      have hc := (hE.cells.1 b _ hb4').trans (h5 k hk2)
      have hs1 := wsum_le isSure l n hn k
      have hs2 := wsum_le isAny l n hn k
      have hbn := bin_le (2 * n) k
      have h40 : 2 ^ (2 * n) ≤ 2 ^ 40 := Nat.pow_le_pow_right (by decide) (by omega)
      have h402 : 2 ^ 40 = 1099511627776 := by decide
      have hk41 : k * 1099511627776 ≤ 41 * 1099511627776 := Nat.mul_le_mul_right _ (by omega)
      have hbw : b < wr.heap.size := Nat.lt_of_lt_of_le hb4' hE.size
      have dk1 : decide ((k : Int) < 2 * (n : Int) + 1) = true := decide_eq_true (by omega)
      have hk3 : (k : Int) < 2 * (n : Int) + 1 := by omega
      obtain ⟨x, ex⟩ : ∃ x, l.getD k 0 = x := ⟨_, rfl⟩
      have hnext : Hid (∀ S1 S2 wz, S1 = wsum isSure l n k + (if isSure x then bin (2 * n) k else 0) → S2 = wsum isAny l n k + (if isAny x then bin (2 * n) k else 0) → BrC W0 n g L (rn S1 (4 ^ n)) (rd S1 (4 ^ n)) (rn S2 (4 ^ n)) (rd S2 (4 ^ n)) wz → BrR W0 l n g L (.int .i64 ((k : Int) + 1)) wz) := fun S1 S2 wz e1 e2 h => by
        have f1 : wsum isSure l n (k + 1) = S1 := by rw [e1, ← ex]; rfl
        have f2 : wsum isAny l n (k + 1) = S2 := by rw [e2, ← ex]; rfl
        refine ⟨k + 1, hk2, by go_num, ?_⟩
        rw [f1, f2]; exact h
      have hwt : ∀ wz, WR wz g n → ∃ u s, wz.cell? ⟨g, k * 4, none⟩ = some (.bool false) ∧ wz.cell? ⟨g, k * 4 + 1, none⟩ = some u ∧ wz.cell? ⟨g, k * 4 + 2, none⟩ = some (.bool false) ∧ wz.cell? ⟨g, k * 4 + 3, none⟩ = some s ∧ Lim wz u (dig (rn (bin (2 * n) k) (4 ^ n))) ∧ Lim wz s (dig (rd (bin (2 * n) k) (4 ^ n))) := fun wz k1 => k1.2 k hk2
      rw [ex] at hc hx
      clear ex
      obtain ⟨S1, eS1⟩ : ∃ S, wsum isSure l n k = S := ⟨_, rfl⟩
      obtain ⟨S2, eS2⟩ : ∃ S, wsum isAny l n k = S := ⟨_, rfl⟩
      obtain ⟨W1, eW1⟩ : ∃ S, bin (2 * n) k = S := ⟨_, rfl⟩
      obtain ⟨D, eD⟩ : ∃ S, 4 ^ n = S := ⟨_, rfl⟩
      rw [eS1] at hs1 HB hnext
      rw [eS2] at hs2 HB hnext
      rw [eW1] at hbn hnext hwt
      rw [eD] at HB hnext hwt hD0 hDl
      replace hs1 : Hid (S1 ≤ 70368744177664) := (by omega : S1 ≤ 70368744177664)
      replace hs2 : Hid (S2 ≤ 70368744177664) := (by omega : S2 ≤ 70368744177664)
      replace hbn : Hid (W1 ≤ 70368744177664) := (by omega : W1 ≤ 70368744177664)
      replace hDl : Hid (D ≤ 70368744177664) := (by omega : D ≤ 70368744177664)
      replace hwt : Hid _ := hwt
      replace hE0 : Hid _ := hE0
      clear h5 h6 hva hok hE
      clear eS1 eS2 eW1 eD h40 h402 hk41 z1 z2
      rcases (by omega : x = 0 ∨ x = 1 ∨ x = 2 ∨ x = 3) with rfl | rfl | rfl | rfl
      · have hf := hnext.out S1 S2 wr rfl rfl HB.out
        replace hf : Hid _ := hf
        clear hnext HB
        go_wp2_with fail
        go_roundw
        case rel => exact hf.out
        case measure => simp [intOf]; omega
      · replace hnext : Hid (∀ wz, BrC W0 n g L (rn S1 D) (rd S1 D) (rn (S2 + W1) D) (rd (S2 + W1) D) wz → BrR W0 l n g L (.int .i64 ((k : Int) + 1)) wz) := fun wz h => hnext.out S1 (S2 + W1) wz rfl rfl h
        obtain ⟨T1, eT⟩ : ∃ T, S1 = T := ⟨_, rfl⟩
        rw [eT] at HB hnext
        have hwt1 := hwt.out wr HB.out.2.2.2.2.2.2.1
        obtain ⟨u3, s3, c1, c2, c3, c4, c5, c6⟩ := hwt1
        obtain ⟨x5, _, y5, z5, rfl, -⟩ := c5.view
        obtain ⟨x6, _, y6, z6, rfl, -⟩ := c6.view
        obtain ⟨⟨u1, s1, a1, a2, a3, a4, a5, a6⟩, ⟨u2, s2, b1, b2, b3, b4, b5, b6⟩, n1, n2, f1, f2, -, -, hs11, hB1, hB2⟩ := HB.out
        obtain ⟨x1, _, y1, z1, rfl, -⟩ := a5.view
        obtain ⟨x2, _, y2, z2, rfl, -⟩ := a6.view
        obtain ⟨x3, _, y3, z3, rfl, -⟩ := b5.view
        obtain ⟨x4, _, y4, z4, rfl, -⟩ := b6.view
        go_wp2_with fail
        go_region_with ((go_at_call 18; (with_reducible refine (r_PlusD _ _ S2 W1 D _ (fq_mk (b5.ext (Ext.refl wr).drew) (b6.ext (Ext.refl wr).drew)) (fq_mk (c5.ext (Ext.refl wr).drew) (c6.ext (Ext.refl wr).drew)) hs2.out hbn.out hD0 hDl.out).mono ?_); rintro e w1 ⟨y, rfl, ⟨u7, s7, rfl, hu7, hs7⟩, hb7⟩; obtain ⟨x7, _, y7, z7, rfl, -⟩ := hu7.view; obtain ⟨x8, _, y8, z8, rfl, -⟩ := hs7.view; obtain ⟨_, _, hc7, hf7⟩ := hb7.cells2; have hz7 := hb7.size; have hE7 : Ext wr w1 := (Ext.refl wr).drew.trans hb7))
        all_goals
          replace hnext : Hid _ := hnext.out _ ((HB.out.ext hE7).high hu7 hs7)
          clear HB a1 a2 a3 a4 a5 a6 b1 b2 b3 b4 b5 b6 c1 c2 c3 c4 c5 c6 n1 n2 f1 f2 hu7 hs7
          go_wp2_with fail
          go_roundw
          case rel => exact hnext.out
          case measure => simp [intOf]; omega
      · replace hnext : Hid (∀ wz, BrC W0 n g L (rn (S1 + W1) D) (rd (S1 + W1) D) (rn (S2 + W1) D) (rd (S2 + W1) D) wz → BrR W0 l n g L (.int .i64 ((k : Int) + 1)) wz) := fun wz h => hnext.out (S1 + W1) (S2 + W1) wz rfl rfl h
        have hwt1 := hwt.out wr HB.out.2.2.2.2.2.2.1
        obtain ⟨u3, s3, c1, c2, c3, c4, c5, c6⟩ := hwt1
        obtain ⟨x5, _, y5, z5, rfl, -⟩ := c5.view
        obtain ⟨x6, _, y6, z6, rfl, -⟩ := c6.view
        obtain ⟨⟨u1, s1, a1, a2, a3, a4, a5, a6⟩, ⟨u2, s2, b1, b2, b3, b4, b5, b6⟩, n1, n2, f1, f2, -, -, hs11, hB1, hB2⟩ := HB.out
        obtain ⟨x1, _, y1, z1, rfl, -⟩ := a5.view
        obtain ⟨x2, _, y2, z2, rfl, -⟩ := a6.view
        obtain ⟨x3, _, y3, z3, rfl, -⟩ := b5.view
        obtain ⟨x4, _, y4, z4, rfl, -⟩ := b6.view
        go_wp2_with fail
        go_region_with ((go_at_call 18; (with_reducible refine (r_PlusD _ _ S1 W1 D _ (fq_mk (a5.ext (Ext.refl wr).drew) (a6.ext (Ext.refl wr).drew)) (fq_mk (c5.ext (Ext.refl wr).drew) (c6.ext (Ext.refl wr).drew)) hs1.out hbn.out hD0 hDl.out).mono ?_); rintro e w1 ⟨y, rfl, ⟨u7, s7, rfl, hu7, hs7⟩, hb7⟩; obtain ⟨x7, _, y7, z7, rfl, -⟩ := hu7.view; obtain ⟨x8, _, y8, z8, rfl, -⟩ := hs7.view; obtain ⟨_, _, hc7, hf7⟩ := hb7.cells2; have hz7 := hb7.size; have hE7 : Ext wr w1 := (Ext.refl wr).drew.trans hb7))
        all_goals
          replace HB : Hid (BrC W0 n g L (rn (S1 + W1) D) (rd (S1 + W1) D) (rn S2 D) (rd S2 D) _) := (HB.out.ext hE7).low hu7 hs7
          clear a1 a2 a3 a4 a5 a6 b1 b2 b3 b4 b5 b6 c1 c2 c3 c4 c5 c6 n1 n2 f1 f2 hu7 hs7
          have hc9 := (hE7.cells.1 b (o + k) hbw).trans hc
          go_upto_region 10 with fail
          refine wp_name fun W9 hW9 => ?_
          have hc8 : W9.cell? ⟨b, o + k, none⟩ = some (.int .i8 2) := by
            have e9 : W9 = _ := hW9
            rw [e9]
            have hbL : b < L := Nat.lt_of_lt_of_le hb4' (Nat.le_trans hE0.out.size hB2)
            simp [go_sem, ↓IntWalk.iteOmega, hc9, Nat.ne_of_lt hbL]
          replace HB : Hid (BrC W0 n g L (rn (S1 + W1) D) (rd (S1 + W1) D) (rn S2 D) (rd S2 D) W9) := by
            have e9 : W9 = _ := hW9
            rw [e9]; exact HB
          clear hW9 hb7 hc7 hf7 hz7 hc
          have hwt1 := hwt.out W9 HB.out.2.2.2.2.2.2.1
          obtain ⟨u3, s3, c1, c2, c3, c4, c5, c6⟩ := hwt1
          obtain ⟨x5, _, y5, z5, rfl, -⟩ := c5.view
          obtain ⟨x6, _, y6, z6, rfl, -⟩ := c6.view
          obtain ⟨⟨u1, s1, a1, a2, a3, a4, a5, a6⟩, ⟨u2, s2, b1, b2, b3, b4, b5, b6⟩, n1, n2, f1, f2, -, -, hs11, hB1, hB2⟩ := HB.out
          obtain ⟨x1, _, y1, z1, rfl, -⟩ := a5.view
          obtain ⟨x2, _, y2, z2, rfl, -⟩ := a6.view
          obtain ⟨x3, _, y3, z3, rfl, -⟩ := b5.view
          obtain ⟨x4, _, y4, z4, rfl, -⟩ := b6.view
          go_wp2_with fail
          go_region_with ((go_at_call 18; (with_reducible refine (r_PlusD _ _ S2 W1 D _ (fq_mk (b5.ext (Ext.refl W9).drew) (b6.ext (Ext.refl W9).drew)) (fq_mk (c5.ext (Ext.refl W9).drew) (c6.ext (Ext.refl W9).drew)) hs2.out hbn.out hD0 hDl.out).mono ?_); rintro e w1 ⟨y, rfl, ⟨u7, s7, rfl, hu7, hs7⟩, hb7⟩; obtain ⟨x7, _, y7, z7, rfl, -⟩ := hu7.view; obtain ⟨x8, _, y8, z8, rfl, -⟩ := hs7.view; obtain ⟨_, _, hc7, hf7⟩ := hb7.cells2; have hz7 := hb7.size; have hE7 : Ext W9 w1 := (Ext.refl W9).drew.trans hb7))
          all_goals
            replace hnext : Hid _ := hnext.out _ ((HB.out.ext hE7).high hu7 hs7)
            clear HB a1 a2 a3 a4 a5 a6 b1 b2 b3 b4 b5 b6 c1 c2 c3 c4 c5 c6 n1 n2 f1 f2 hu7 hs7
            go_wp2_with fail
            go_roundw
            case rel => exact hnext.out
            case measure => simp [intOf]; omega
      · replace hnext : Hid (∀ wz, BrC W0 n g L (rn S1 D) (rd S1 D) (rn (S2 + W1) D) (rd (S2 + W1) D) wz → BrR W0 l n g L (.int .i64 ((k : Int) + 1)) wz) := fun wz h => hnext.out S1 (S2 + W1) wz rfl rfl h
        obtain ⟨T1, eT⟩ : ∃ T, S1 = T := ⟨_, rfl⟩
        rw [eT] at HB hnext
        have hwt1 := hwt.out wr HB.out.2.2.2.2.2.2.1
        obtain ⟨u3, s3, c1, c2, c3, c4, c5, c6⟩ := hwt1
        obtain ⟨x5, _, y5, z5, rfl, -⟩ := c5.view
        obtain ⟨x6, _, y6, z6, rfl, -⟩ := c6.view
        obtain ⟨⟨u1, s1, a1, a2, a3, a4, a5, a6⟩, ⟨u2, s2, b1, b2, b3, b4, b5, b6⟩, n1, n2, f1, f2, -, -, hs11, hB1, hB2⟩ := HB.out
        obtain ⟨x1, _, y1, z1, rfl, -⟩ := a5.view
        obtain ⟨x2, _, y2, z2, rfl, -⟩ := a6.view
        obtain ⟨x3, _, y3, z3, rfl, -⟩ := b5.view
        obtain ⟨x4, _, y4, z4, rfl, -⟩ := b6.view
        go_wp2_with fail
        go_region_with ((go_at_call 18; (with_reducible refine (r_PlusD _ _ S2 W1 D _ (fq_mk (b5.ext (Ext.refl wr).drew) (b6.ext (Ext.refl wr).drew)) (fq_mk (c5.ext (Ext.refl wr).drew) (c6.ext (Ext.refl wr).drew)) hs2.out hbn.out hD0 hDl.out).mono ?_); rintro e w1 ⟨y, rfl, ⟨u7, s7, rfl, hu7, hs7⟩, hb7⟩; obtain ⟨x7, _, y7, z7, rfl, -⟩ := hu7.view; obtain ⟨x8, _, y8, z8, rfl, -⟩ := hs7.view; obtain ⟨_, _, hc7, hf7⟩ := hb7.cells2; have hz7 := hb7.size; have hE7 : Ext wr w1 := (Ext.refl wr).drew.trans hb7))
        all_goals
          replace hnext : Hid _ := hnext.out _ ((HB.out.ext hE7).high hu7 hs7)
          clear HB a1 a2 a3 a4 a5 a6 b1 b2 b3 b4 b5 b6 c1 c2 c3 c4 c5 c6 n1 n2 f1 f2 hu7 hs7
          go_wp2_with fail
          go_roundw
          case rel => exact hnext.out
          case measure => simp [intOf]; omega

end Go.Proofs.Ytcalonhphknbbaa
