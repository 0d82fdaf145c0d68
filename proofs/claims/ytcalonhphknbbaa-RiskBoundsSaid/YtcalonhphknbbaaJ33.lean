/- Bounds of outcomes. -/
import Derived.Test.YtcalonhphknbbaaJ32
import Derived.RegionTactic
set_option linter.unusedSimpArgs false
set_option linter.unusedVariables false
namespace Go.Proofs.Ytcalonhphknbbaa
open Go.RowKit

/-- What is known of the two sums, in the blocks b1, b1 + 1, and of the weights. -/
def BdC (w : World) (n B p1 q1 p2 q2 : Nat) (wx : World) : Prop :=
  At wx w.heap.size p1 q1 ∧ At wx (w.heap.size + 1) p2 q2 ∧ NoU wx w.heap.size ∧ NoU wx (w.heap.size + 1) ∧ (∀ o, wx.frozen? ⟨w.heap.size, o, none⟩ = false) ∧ (∀ o, wx.frozen? ⟨w.heap.size + 1, o, none⟩ = false) ∧ (∃ es, Wo wx B (2 * n + 1) n (2 * n + 1) es) ∧ Ext w wx ∧ w.heap.size + 1 < wx.heap.size ∧ w.heap.size + 1 < B
theorem BdC.ext {w a b : World} {n B p1 q1 p2 q2 : Nat} (h : BdC w n B p1 q1 p2 q2 a) (k : Ext a b) : BdC w n B p1 q1 p2 q2 b := by
  obtain ⟨h1, h2, h3, h4, h5, h6, ⟨es, h7⟩, h8, h9, h10⟩ := h
  have hl : w.heap.size < a.heap.size := by omega
  exact ⟨h1.ext hl k, h2.ext h9 k, h3.ext hl k, h4.ext h9 k, fun o => (k.cells.2 _ o hl).trans (h5 o), fun o => (k.cells.2 _ o h9).trans (h6 o), ⟨es, h7.ext k⟩, h8.trans k, Nat.lt_of_lt_of_le h9 k.size, h10⟩
theorem BdC.low {w a : World} {n B p1 q1 p2 q2 p q : Nat} {ao bo : Option Addr} {n1 n2 c1 c2 : Nat} (h : BdC w n B p1 q1 p2 q2 a) (hu : Lim a (.slice ao n1 c1) (dig p)) (hs : Lim a (.slice bo n2 c2) (dig q)) :
    BdC w n B p q p2 q2 ((((a.setCell ⟨w.heap.size, 0, none⟩ (.bool false)).setCell ⟨w.heap.size, 1, none⟩ (.slice ao n1 c1)).setCell ⟨w.heap.size, 2, none⟩ (.bool false)).setCell ⟨w.heap.size, 3, none⟩ (.slice bo n2 c2)) := by
  obtain ⟨h1, h2, h3, h4, h5, h6, ⟨es, h7⟩, h8, h9, h10⟩ := h
  obtain ⟨u, s, e1, e2, e3, e4, -, -⟩ := h1
  have a1 : NoU (a.setCell ⟨w.heap.size, 0, none⟩ (.bool false)) w.heap.size := h3.set (fun z e => by cases e)
  have a2 : NoU ((a.setCell ⟨w.heap.size, 0, none⟩ (.bool false)).setCell ⟨w.heap.size, 1, none⟩ (.slice ao n1 c1)) w.heap.size := a1.set (fun z e => by cases e)
  have a3 : NoU (((a.setCell ⟨w.heap.size, 0, none⟩ (.bool false)).setCell ⟨w.heap.size, 1, none⟩ (.slice ao n1 c1)).setCell ⟨w.heap.size, 2, none⟩ (.bool false)) w.heap.size := a2.set (fun z e => by cases e)
  refine ⟨At.stored ⟨_, e1⟩ ⟨_, e2⟩ ⟨_, e3⟩ ⟨_, e4⟩ h3 hu hs (fun z e => by cases e) (fun z e => by cases e), (((h2.other (by omega) h3).other (by omega) a1).other (by omega) a2).other (by omega) a3, a3.set (fun z e => by cases e), (((h4.set (fun z e => by cases e)).set (fun z e => by cases e)).set (fun z e => by cases e)).set (fun z e => by cases e), fun o => by simp only [World.frozen?_setCell]; exact h5 o, fun o => by simp only [World.frozen?_setCell]; exact h6 o, ⟨es, (((h7.other (by omega) h3 (fun z e => by cases e)).other (by omega) a1 (fun z e => by cases e)).other (by omega) a2 (fun z e => by cases e)).other (by omega) a3 (fun z e => by cases e)⟩, ?_, by simpa using h9, h10⟩
  exact (((h8.setCell (p := ⟨w.heap.size, 0, none⟩) (Nat.le_refl _) _).setCell (p := ⟨w.heap.size, 1, none⟩) (Nat.le_refl _) _).setCell (p := ⟨w.heap.size, 2, none⟩) (Nat.le_refl _) _).setCell (p := ⟨w.heap.size, 3, none⟩) (Nat.le_refl _) _
theorem BdC.high {w a : World} {n B p1 q1 p2 q2 p q : Nat} {ao bo : Option Addr} {n1 n2 c1 c2 : Nat} (h : BdC w n B p1 q1 p2 q2 a) (hu : Lim a (.slice ao n1 c1) (dig p)) (hs : Lim a (.slice bo n2 c2) (dig q)) :
    BdC w n B p1 q1 p q ((((a.setCell ⟨w.heap.size + 1, 0, none⟩ (.bool false)).setCell ⟨w.heap.size + 1, 1, none⟩ (.slice ao n1 c1)).setCell ⟨w.heap.size + 1, 2, none⟩ (.bool false)).setCell ⟨w.heap.size + 1, 3, none⟩ (.slice bo n2 c2)) := by
  obtain ⟨h1, h2, h3, h4, h5, h6, ⟨es, h7⟩, h8, h9, h10⟩ := h
  obtain ⟨u, s, e1, e2, e3, e4, -, -⟩ := h2
  have a1 : NoU (a.setCell ⟨w.heap.size + 1, 0, none⟩ (.bool false)) (w.heap.size + 1) := h4.set (fun z e => by cases e)
  have a2 : NoU ((a.setCell ⟨w.heap.size + 1, 0, none⟩ (.bool false)).setCell ⟨w.heap.size + 1, 1, none⟩ (.slice ao n1 c1)) (w.heap.size + 1) := a1.set (fun z e => by cases e)
  have a3 : NoU (((a.setCell ⟨w.heap.size + 1, 0, none⟩ (.bool false)).setCell ⟨w.heap.size + 1, 1, none⟩ (.slice ao n1 c1)).setCell ⟨w.heap.size + 1, 2, none⟩ (.bool false)) (w.heap.size + 1) := a2.set (fun z e => by cases e)
  refine ⟨(((h1.other (by omega) h4).other (by omega) a1).other (by omega) a2).other (by omega) a3, At.stored ⟨_, e1⟩ ⟨_, e2⟩ ⟨_, e3⟩ ⟨_, e4⟩ h4 hu hs (fun z e => by cases e) (fun z e => by cases e), (((h3.set (fun z e => by cases e)).set (fun z e => by cases e)).set (fun z e => by cases e)).set (fun z e => by cases e), a3.set (fun z e => by cases e), fun o => by simp only [World.frozen?_setCell]; exact h5 o, fun o => by simp only [World.frozen?_setCell]; exact h6 o, ⟨es, (((h7.other (by omega) h4 (fun z e => by cases e)).other (by omega) a1 (fun z e => by cases e)).other (by omega) a2 (fun z e => by cases e)).other (by omega) a3 (fun z e => by cases e)⟩, ?_, by simpa using h9, h10⟩
  exact (((h8.setCell (p := ⟨w.heap.size + 1, 0, none⟩) (Nat.le_succ _) _).setCell (p := ⟨w.heap.size + 1, 1, none⟩) (Nat.le_succ _) _).setCell (p := ⟨w.heap.size + 1, 2, none⟩) (Nat.le_succ _) _).setCell (p := ⟨w.heap.size + 1, 3, none⟩) (Nat.le_succ _) _
theorem fq_mk {w : World} {a b : Value} {p q : Nat} (h1 : Lim w a (dig p)) (h2 : Lim w b (dig q)) : Fq w (.agg #[.bool false, a, .bool false, b]) p q := ⟨_, _, rfl, h1, h2⟩
theorem Lim.box4 {w : World} {B : Nat} {x : Value} {xs : List Int} {a b : Option Addr} {n c m d : Nat} (h : Lim w x xs) (hn : NoU w B) :
    Lim ((((w.setCell ⟨B, 0, none⟩ (.bool false)).setCell ⟨B, 1, none⟩ (.slice a n c)).setCell ⟨B, 2, none⟩ (.bool false)).setCell ⟨B, 3, none⟩ (.slice b m d)) x xs := by
  have n1 : NoU (w.setCell ⟨B, 0, none⟩ (.bool false)) B := hn.set (fun z e => by cases e)
  have n2 : NoU ((w.setCell ⟨B, 0, none⟩ (.bool false)).setCell ⟨B, 1, none⟩ (.slice a n c)) B := n1.set (fun z e => by cases e)
  have n3 : NoU (((w.setCell ⟨B, 0, none⟩ (.bool false)).setCell ⟨B, 1, none⟩ (.slice a n c)).setCell ⟨B, 2, none⟩ (.bool false)) B := n2.set (fun z e => by cases e)
  exact Lim.box (Lim.box (Lim.box (Lim.box h hn) n1) n2) n3
theorem w_Of01 (w : World) : Calls Try.prog 20 #[.int .i64 0, .int .i64 1] w fun e w' => ∃ u, e = .returned (.tuple #[u, .int .i64 0]) ∧ Fq w' u 0 1 ∧ Ext w w' := w_Of 0 1 w (by decide) (by decide) (by decide)
theorem rn_zero (D : Nat) (h : 0 < D) : rn 0 D = 0 ∧ rd 0 D = 1 := by
  unfold rn rd; rw [Nat.gcd_zero_left, Nat.div_self h, Nat.zero_div]; exact ⟨rfl, rfl⟩
/-- The loop of 'Bounds'. -/
def BdR (w : World) (l : List Int) (n B : Nat) (kv : Value) (wr : World) : Prop := ∃ k : Nat, k ≤ 2 * n + 1 ∧ kv = .int .i64 k ∧ Hid (BdC w n B (rn (wsum isSure l n k) (4 ^ n)) (rd (wsum isSure l n k) (4 ^ n)) (rn (wsum isAny l n k) (4 ^ n)) (rd (wsum isAny l n k) (4 ^ n)) wr)
set_option maxRecDepth 100000 in
set_option maxHeartbeats 4000000 in
theorem w_Bounds (v : Value) (l : List Int) (n : Nat) (w : World) (h : Oc w v l) (hok : okL l = true) (hl : l.length = 2 * n + 1) (hn : n ≤ 20) :
    Calls Try.prog 6 #[v] w fun e w' => ∃ a b, e = .returned (.tuple #[a, b, .int .i64 0]) ∧ Fq w' a (rn (wsum isSure l n (2 * n + 1)) (4 ^ n)) (rd (wsum isSure l n (2 * n + 1)) (4 ^ n)) ∧ Fq w' b (rn (wsum isAny l n (2 * n + 1)) (4 ^ n)) (rd (wsum isAny l n (2 * n + 1)) (4 ^ n)) ∧ Ext w w' := by
  have hck := fun w1 (k1 : Ext w w1) => k_check v l w1 (h.ext k1)
  rw [hok] at hck
  simp only [if_true] at hck
  obtain ⟨ao, b, o, cap, rfl, h1, h2, h3, h4, h5, h6⟩ := h
  have e := h1 (by omega)
  subst e
  have hb4 := h4 (by omega)
  rw [hl] at hck h5 h6 h2 ⊢
  have hl2 : Hid (l.length = 2 * n + 1) := hl
  clear hl h1 h4
  have hdiv : (2 * (n : Int) + 1) / 2 = (n : Int) := by omega
  have hD0 : 0 < 4 ^ n := Nat.pow_pos (by decide)
  have hDl : 4 ^ n ≤ 1099511627776 := Nat.pow_le_pow_right (n := 4) (by decide) hn
  obtain ⟨z1, z2⟩ := rn_zero (4 ^ n) hD0
  go_enter Try.func6, Try.ntmps6
  go_upto_region 7 with (first
    | (go_at_call 19; (with_reducible refine (hck _ (by repeat (first | with_reducible exact Ext.refl _ | with_reducible assumption | with_reducible refine Ext.alloc ?_ _ | with_reducible refine Ext.setCell ?_ (by (try simp only [World.size_alloc, World.size_setCell]); omega) _ | with_reducible refine Ext.drewN ?_ _ | with_reducible refine Ext.drew ?_ | with_reducible refine Ext.trans ?_ (by with_reducible assumption)))).mono ?_); rintro e w1 ⟨rfl, h9⟩; subst h9)
    | (go_at_call 14; (with_reducible refine (w_Weights n _ hn).mono ?_); rintro e w2 ⟨B, es, rfl, hWo, hBl, hb2⟩; obtain ⟨_, _, hc2, hf2⟩ := hb2.cells2; have hz2 := hb2.size; (try simp only [World.size_alloc, World.size_setCell] at hz2 hc2 hf2))
    | (go_at_call 20; (with_reducible refine (w_Of01 _).mono ?_); rintro e w3 ⟨y, rfl, ⟨u3, s3, rfl, hu3, hs3⟩, hb3⟩; obtain ⟨ao5, b5, o5, cap5, rfl, -⟩ := hu3.view; obtain ⟨ao7, b7, o7, cap7, rfl, -⟩ := hs3.view; obtain ⟨_, _, hc3, hf3⟩ := hb3.cells2; have hz3 := hb3.size; (try simp only [World.size_alloc, World.size_setCell] at hz3 hc3 hf3)))
  have hBl2 : w.heap.size + 1 < B := by simp only [World.size_alloc] at hBl; omega
  have hb23 := hb2.trans hb3
  have hzz := hb23.size
  simp only [World.size_alloc] at hzz
  have hE3 : Ext w w3 := (by repeat (first | with_reducible exact Ext.refl _ | with_reducible assumption | with_reducible refine Ext.alloc ?_ _ | with_reducible refine Ext.setCell ?_ (by (try simp only [World.size_alloc, World.size_setCell]); omega) _ | with_reducible refine Ext.drewN ?_ _ | with_reducible refine Ext.drew ?_ | with_reducible refine Ext.trans ?_ (by with_reducible assumption)))
  have hB3 : BdC w n B 0 0 0 0 w3 := by
    have c := fun bb oo hb => hb23.cells.1 bb oo hb
    have f := fun bb oo hb => hb23.cells.2 bb oo hb
    refine ⟨⟨.slice none 0 0, .slice none 0 0, ?_, ?_, ?_, ?_, Lim.nil _, Lim.nil _⟩, ⟨.slice none 0 0, .slice none 0 0, ?_, ?_, ?_, ?_, Lim.nil _, Lim.nil _⟩, ?_, ?_, fun o => ?_, fun o => ?_, ⟨es, hWo.ext hb3⟩, hE3, by omega, hBl2⟩
    iterate 4 (exact (c _ _ (by simp; omega)).trans (by simp [go_sem, ↓IntWalk.iteOmega]))
    iterate 4 (exact (c _ _ (by simp)).trans (by simp [go_sem, ↓IntWalk.iteOmega]))
    · have := ((NoU.new w #[.bool false, .slice none 0 0, .bool false, .slice none 0 0] 27 (noU4 (by simp) (by simp) (by simp) (by simp))).alloc (by simp) #[.bool false, .slice none 0 0, .bool false, .slice none 0 0] 27).ext (by simp; omega) hb23
      exact this
    · have := (NoU.new (w.alloc (.cells #[.bool false, .slice none 0 0, .bool false, .slice none 0 0] 27)) #[.bool false, .slice none 0 0, .bool false, .slice none 0 0] 27 (noU4 (by simp) (by simp) (by simp) (by simp))).ext (by simp) hb23
      simpa using this
    · exact (f _ _ (by simp; omega)).trans (by simp [go_sem, ↓IntWalk.iteOmega])
    · exact (f _ _ (by simp)).trans (by simp [go_sem, ↓IntWalk.iteOmega])
  have hBL := hB3.low hu3 hs3
  have hu4 := Lim.box4 (a := ao5) (n := (dig 0).length) (c := cap5) (b := ao7) (m := (dig 1).length) (d := cap7) hu3 hB3.2.2.1
  have hs4 := Lim.box4 (a := ao5) (n := (dig 0).length) (c := cap5) (b := ao7) (m := (dig 1).length) (d := cap7) hs3 hB3.2.2.1
  have hBH := hBL.high hu4 hs4
  replace hBH := (show ∀ {A C A' C' : Nat} {wz : World}, A = A' → C = C' → BdC w n B A C A C wz → BdC w n B A' C' A' C' wz from fun e1 e2 h => by subst e1; subst e2; exact h) z1.symm z2.symm hBH
  clear hBL hB3 hu4 hs4 hc2 hf2 hc3 hf3 hu3 hs3
  refine wp_name fun W hW => ?_
  have hBW : BdC w n B (rn (wsum isSure l n 0) (4 ^ n)) (rd (wsum isSure l n 0) (4 ^ n)) (rn (wsum isAny l n 0) (4 ^ n)) (rd (wsum isAny l n 0) (4 ^ n)) W := by
    have e9 : W = _ := hW
    rw [e9]
    exact hBH

  clear hBH hW hb2 hb3 hb23
  replace hBW : Hid _ := hBW
  go_wp2_with fail
  go_loopw [31] (fun kv wr => BdR w l n B kv wr) (fun kv _ => 2 * n + 1 - (intOf kv).toNat)
  case atStart => exact ⟨0, Nat.zero_le _, rfl, hBW⟩
  case round =>
    obtain ⟨k, hk, rfl, HB⟩ := hrel
    rcases Nat.eq_or_lt_of_le hk with rfl | hk2
    · obtain ⟨⟨u1, s1, a1, a2, a3, a4, a5, a6⟩, ⟨u2, s2, b1, b2, b3, b4, b5, b6⟩, n1, n2, f1, f2, -, hE, hs1, -⟩ := HB.out
      clear HB
      obtain ⟨x1, _, y1, z1, rfl, -⟩ := a5.view
      obtain ⟨x2, _, y2, z2, rfl, -⟩ := a6.view
      obtain ⟨x3, _, y3, z3, rfl, -⟩ := b5.view
      obtain ⟨x4, _, y4, z4, rfl, -⟩ := b6.view
      go_wp2_with fail
      go_region
      all_goals
        go_wp2_with fail
        refine bodyPost_ret (v := .tuple #[.agg #[.bool false, .slice x1 (dig (rn (wsum isSure l n (2 * n + 1)) (4 ^ n))).length z1, .bool false, .slice x2 (dig (rd (wsum isSure l n (2 * n + 1)) (4 ^ n))).length z2], .agg #[.bool false, .slice x3 (dig (rn (wsum isAny l n (2 * n + 1)) (4 ^ n))).length z3, .bool false, .slice x4 (dig (rd (wsum isAny l n (2 * n + 1)) (4 ^ n))).length z4], .int .i64 0]) ?_ rfl ⟨_, _, rfl, ⟨_, _, rfl, ?_, ?_⟩, ⟨_, _, rfl, ?_, ?_⟩, ?_⟩
        · simp [results, Try.results6, go_sem, ↓IntWalk.iteOmega, a1, a2, a3, a4, b1, b2, b3, b4]
        · exact ((a5.box4 n1).box4 ((((n2.set (fun z e => by cases e)).set (fun z e => by cases e)).set (fun z e => by cases e)).set (fun z e => by cases e))).ext (Ext.refl _).drew
        · exact ((a6.box4 n1).box4 ((((n2.set (fun z e => by cases e)).set (fun z e => by cases e)).set (fun z e => by cases e)).set (fun z e => by cases e))).ext (Ext.refl _).drew
        · exact ((b5.box4 n1).box4 ((((n2.set (fun z e => by cases e)).set (fun z e => by cases e)).set (fun z e => by cases e)).set (fun z e => by cases e))).ext (Ext.refl _).drew
        · exact ((b6.box4 n1).box4 ((((n2.set (fun z e => by cases e)).set (fun z e => by cases e)).set (fun z e => by cases e)).set (fun z e => by cases e))).ext (Ext.refl _).drew
        · exact (((((((((hE.setCell (p := ⟨w.heap.size, 0, none⟩) (Nat.le_refl _) _).setCell (p := ⟨w.heap.size, 1, none⟩) (Nat.le_refl _) _).setCell (p := ⟨w.heap.size, 2, none⟩) (Nat.le_refl _) _).setCell (p := ⟨w.heap.size, 3, none⟩) (Nat.le_refl _) _).setCell (p := ⟨w.heap.size + 1, 0, none⟩) (Nat.le_succ _) _).setCell (p := ⟨w.heap.size + 1, 1, none⟩) (Nat.le_succ _) _).setCell (p := ⟨w.heap.size + 1, 2, none⟩) (Nat.le_succ _) _).setCell (p := ⟨w.heap.size + 1, 3, none⟩) (Nat.le_succ _) _).drew)
    · have hx := ((ok_iff l).1 hok).2.2 k (by rw [hl2.out]; exact hk2)
      have hE := HB.out.2.2.2.2.2.2.2.1
      have hc := (hE.cells.1 b _ hb4).trans (h5 k hk2)
      have hs1 := wsum_le isSure l n hn k
      have hs2 := wsum_le isAny l n hn k
      have hbn := bin_le (2 * n) k
      have h40 : 2 ^ (2 * n) ≤ 2 ^ 40 := Nat.pow_le_pow_right (by decide) (by omega)
      have h402 : 2 ^ 40 = 1099511627776 := by decide
      have hk41 : k * 1099511627776 ≤ 41 * 1099511627776 := Nat.mul_le_mul_right _ (by omega)
      obtain ⟨x, ex⟩ : ∃ x, l.getD k 0 = x := ⟨_, rfl⟩
      have hnext : Hid (∀ S1 S2 wz, S1 = wsum isSure l n k + (if isSure x then bin (2 * n) k else 0) → S2 = wsum isAny l n k + (if isAny x then bin (2 * n) k else 0) → BdC w n B (rn S1 (4 ^ n)) (rd S1 (4 ^ n)) (rn S2 (4 ^ n)) (rd S2 (4 ^ n)) wz → BdR w l n B (.int .i64 ((k : Int) + 1)) wz) := fun S1 S2 wz e1 e2 h => by
        have f1 : wsum isSure l n (k + 1) = S1 := by rw [e1, ← ex]; rfl
        have f2 : wsum isAny l n (k + 1) = S2 := by rw [e2, ← ex]; rfl
        refine ⟨k + 1, hk2, by go_num, ?_⟩
        rw [f1, f2]; exact h
      have hwt : ∀ wz, (∃ es, Wo wz B (2 * n + 1) n (2 * n + 1) es) → ∃ u s, wz.cell? ⟨B, k * 4, none⟩ = some (.bool false) ∧ wz.cell? ⟨B, k * 4 + 1, none⟩ = some u ∧ wz.cell? ⟨B, k * 4 + 2, none⟩ = some (.bool false) ∧ wz.cell? ⟨B, k * 4 + 3, none⟩ = some s ∧ Lim wz u (dig (rn (bin (2 * n) k) (4 ^ n))) ∧ Lim wz s (dig (rd (bin (2 * n) k) (4 ^ n))) := fun wz k1 => by
        obtain ⟨es, h7⟩ := k1
        exact h7.at hk2
      rw [ex] at hc hx
      clear ex
      obtain ⟨S1, eS1⟩ : ∃ S, wsum isSure l n k = S := ⟨_, rfl⟩
      obtain ⟨S2, eS2⟩ : ∃ S, wsum isAny l n k = S := ⟨_, rfl⟩
      obtain ⟨W0, eW0⟩ : ∃ S, bin (2 * n) k = S := ⟨_, rfl⟩
      obtain ⟨D, eD⟩ : ∃ S, 4 ^ n = S := ⟨_, rfl⟩
      rw [eS1] at hs1 HB hnext
      rw [eS2] at hs2 HB hnext
      rw [eW0] at hbn hnext hwt
      rw [eD] at HB hnext hwt hD0 hDl
      replace hs1 : Hid (S1 ≤ 70368744177664) := (by omega : S1 ≤ 70368744177664)
      replace hs2 : Hid (S2 ≤ 70368744177664) := (by omega : S2 ≤ 70368744177664)
      replace hbn : Hid (W0 ≤ 70368744177664) := (by omega : W0 ≤ 70368744177664)
      replace hDl : Hid (D ≤ 70368744177664) := (by omega : D ≤ 70368744177664)
      replace hwt : Hid _ := hwt
      clear h5 h6 hck hok
      clear eS1 eS2 eW0 eD h40 h402 hk41
      rcases (by omega : x = 0 ∨ x = 1 ∨ x = 2 ∨ x = 3) with rfl | rfl | rfl | rfl
      · have hf := hnext.out S1 S2 wr rfl rfl HB.out
        replace hf : Hid _ := hf
        clear hnext HB
        go_wp2_with fail
        go_roundw
        case rel => exact hf.out
        case measure => simp [intOf]; omega
      · replace hnext : Hid (∀ wz, BdC w n B (rn S1 D) (rd S1 D) (rn (S2 + W0) D) (rd (S2 + W0) D) wz → BdR w l n B (.int .i64 ((k : Int) + 1)) wz) := fun wz h => hnext.out S1 (S2 + W0) wz rfl rfl h
        obtain ⟨T1, eT⟩ : ∃ T, S1 = T := ⟨_, rfl⟩
        rw [eT] at HB hnext
        have hwt1 := hwt.out wr HB.out.2.2.2.2.2.2.1
        obtain ⟨u3, s3, c1, c2, c3, c4, c5, c6⟩ := hwt1
        obtain ⟨x5, _, y5, z5, rfl, -⟩ := c5.view
        obtain ⟨x6, _, y6, z6, rfl, -⟩ := c6.view
        obtain ⟨⟨u1, s1, a1, a2, a3, a4, a5, a6⟩, ⟨u2, s2, b1, b2, b3, b4, b5, b6⟩, n1, n2, f1, f2, hWoX, -, hs11, hB1⟩ := HB.out
        obtain ⟨x1, _, y1, z1, rfl, -⟩ := a5.view
        obtain ⟨x2, _, y2, z2, rfl, -⟩ := a6.view
        obtain ⟨x3, _, y3, z3, rfl, -⟩ := b5.view
        obtain ⟨x4, _, y4, z4, rfl, -⟩ := b6.view
        clear hWoX
        go_wp2_with fail
        go_region_with ((go_at_call 21; (with_reducible refine (w_fAddD _ _ S2 W0 D _ (fq_mk (b5.ext (Ext.refl wr).drew) (b6.ext (Ext.refl wr).drew)) (fq_mk (c5.ext (Ext.refl wr).drew) (c6.ext (Ext.refl wr).drew)) hs2.out hbn.out hD0 hDl.out).mono ?_); rintro e w1 ⟨y, rfl, ⟨u7, s7, rfl, hu7, hs7⟩, hb7⟩; obtain ⟨x7, _, y7, z7, rfl, -⟩ := hu7.view; obtain ⟨x8, _, y8, z8, rfl, -⟩ := hs7.view; obtain ⟨_, _, hc7, hf7⟩ := hb7.cells2; have hz7 := hb7.size; have hE7 : Ext wr w1 := (Ext.refl wr).drew.trans hb7))
        all_goals
          replace hnext : Hid _ := hnext.out _ ((HB.out.ext hE7).high hu7 hs7)
          clear HB a1 a2 a3 a4 a5 a6 b1 b2 b3 b4 b5 b6 c1 c2 c3 c4 c5 c6 n1 n2 f1 f2 hu7 hs7
          go_wp2_with fail
          go_roundw
          case rel => exact hnext.out
          case measure => simp [intOf]; omega
      · replace hnext : Hid (∀ wz, BdC w n B (rn (S1 + W0) D) (rd (S1 + W0) D) (rn (S2 + W0) D) (rd (S2 + W0) D) wz → BdR w l n B (.int .i64 ((k : Int) + 1)) wz) := fun wz h => hnext.out (S1 + W0) (S2 + W0) wz rfl rfl h
        have hwt1 := hwt.out wr HB.out.2.2.2.2.2.2.1
        obtain ⟨u3, s3, c1, c2, c3, c4, c5, c6⟩ := hwt1
        obtain ⟨x5, _, y5, z5, rfl, -⟩ := c5.view
        obtain ⟨x6, _, y6, z6, rfl, -⟩ := c6.view
        obtain ⟨⟨u1, s1, a1, a2, a3, a4, a5, a6⟩, ⟨u2, s2, b1, b2, b3, b4, b5, b6⟩, n1, n2, f1, f2, hWoX, -, hs11, hB1⟩ := HB.out
        obtain ⟨x1, _, y1, z1, rfl, -⟩ := a5.view
        obtain ⟨x2, _, y2, z2, rfl, -⟩ := a6.view
        obtain ⟨x3, _, y3, z3, rfl, -⟩ := b5.view
        obtain ⟨x4, _, y4, z4, rfl, -⟩ := b6.view
        clear hWoX
        go_wp2_with fail
        go_region_with ((go_at_call 21; (with_reducible refine (w_fAddD _ _ S1 W0 D _ (fq_mk (a5.ext (Ext.refl wr).drew) (a6.ext (Ext.refl wr).drew)) (fq_mk (c5.ext (Ext.refl wr).drew) (c6.ext (Ext.refl wr).drew)) hs1.out hbn.out hD0 hDl.out).mono ?_); rintro e w1 ⟨y, rfl, ⟨u7, s7, rfl, hu7, hs7⟩, hb7⟩; obtain ⟨x7, _, y7, z7, rfl, -⟩ := hu7.view; obtain ⟨x8, _, y8, z8, rfl, -⟩ := hs7.view; obtain ⟨_, _, hc7, hf7⟩ := hb7.cells2; have hz7 := hb7.size; have hE7 : Ext wr w1 := (Ext.refl wr).drew.trans hb7))
        all_goals
          replace HB : Hid (BdC w n B (rn (S1 + W0) D) (rd (S1 + W0) D) (rn S2 D) (rd S2 D) _) := (HB.out.ext hE7).low hu7 hs7
          clear a1 a2 a3 a4 a5 a6 b1 b2 b3 b4 b5 b6 c1 c2 c3 c4 c5 c6 n1 n2 f1 f2 hu7 hs7
          go_upto_region 15 with fail
          refine wp_name fun W9 hW9 => ?_
          replace HB : Hid (BdC w n B (rn (S1 + W0) D) (rd (S1 + W0) D) (rn S2 D) (rd S2 D) W9) := by
            have e9 : W9 = _ := hW9
            rw [e9]; exact HB
          clear hW9 hb7 hc7 hf7 hz7
          have hwt1 := hwt.out W9 HB.out.2.2.2.2.2.2.1
          obtain ⟨u3, s3, c1, c2, c3, c4, c5, c6⟩ := hwt1
          obtain ⟨x5, _, y5, z5, rfl, -⟩ := c5.view
          obtain ⟨x6, _, y6, z6, rfl, -⟩ := c6.view
          obtain ⟨⟨u1, s1, a1, a2, a3, a4, a5, a6⟩, ⟨u2, s2, b1, b2, b3, b4, b5, b6⟩, n1, n2, f1, f2, hWoX, -, hs11, hB1⟩ := HB.out
          obtain ⟨x1, _, y1, z1, rfl, -⟩ := a5.view
          obtain ⟨x2, _, y2, z2, rfl, -⟩ := a6.view
          obtain ⟨x3, _, y3, z3, rfl, -⟩ := b5.view
          obtain ⟨x4, _, y4, z4, rfl, -⟩ := b6.view
          clear hWoX
          go_wp2_with fail
          go_region_with ((go_at_call 21; (with_reducible refine (w_fAddD _ _ S2 W0 D _ (fq_mk (b5.ext (Ext.refl W9).drew) (b6.ext (Ext.refl W9).drew)) (fq_mk (c5.ext (Ext.refl W9).drew) (c6.ext (Ext.refl W9).drew)) hs2.out hbn.out hD0 hDl.out).mono ?_); rintro e w1 ⟨y, rfl, ⟨u7, s7, rfl, hu7, hs7⟩, hb7⟩; obtain ⟨x7, _, y7, z7, rfl, -⟩ := hu7.view; obtain ⟨x8, _, y8, z8, rfl, -⟩ := hs7.view; obtain ⟨_, _, hc7, hf7⟩ := hb7.cells2; have hz7 := hb7.size; have hE7 : Ext W9 w1 := (Ext.refl W9).drew.trans hb7))
          all_goals
            replace hnext : Hid _ := hnext.out _ ((HB.out.ext hE7).high hu7 hs7)
            clear HB a1 a2 a3 a4 a5 a6 b1 b2 b3 b4 b5 b6 c1 c2 c3 c4 c5 c6 n1 n2 f1 f2 hu7 hs7
            go_wp2_with fail
            go_roundw
            case rel => exact hnext.out
            case measure => simp [intOf]; omega
      · replace hnext : Hid (∀ wz, BdC w n B (rn S1 D) (rd S1 D) (rn (S2 + W0) D) (rd (S2 + W0) D) wz → BdR w l n B (.int .i64 ((k : Int) + 1)) wz) := fun wz h => hnext.out S1 (S2 + W0) wz rfl rfl h
        obtain ⟨T1, eT⟩ : ∃ T, S1 = T := ⟨_, rfl⟩
        rw [eT] at HB hnext
        have hwt1 := hwt.out wr HB.out.2.2.2.2.2.2.1
        obtain ⟨u3, s3, c1, c2, c3, c4, c5, c6⟩ := hwt1
        obtain ⟨x5, _, y5, z5, rfl, -⟩ := c5.view
        obtain ⟨x6, _, y6, z6, rfl, -⟩ := c6.view
        obtain ⟨⟨u1, s1, a1, a2, a3, a4, a5, a6⟩, ⟨u2, s2, b1, b2, b3, b4, b5, b6⟩, n1, n2, f1, f2, hWoX, -, hs11, hB1⟩ := HB.out
        obtain ⟨x1, _, y1, z1, rfl, -⟩ := a5.view
        obtain ⟨x2, _, y2, z2, rfl, -⟩ := a6.view
        obtain ⟨x3, _, y3, z3, rfl, -⟩ := b5.view
        obtain ⟨x4, _, y4, z4, rfl, -⟩ := b6.view
        clear hWoX
        go_wp2_with fail
        go_region_with ((go_at_call 21; (with_reducible refine (w_fAddD _ _ S2 W0 D _ (fq_mk (b5.ext (Ext.refl wr).drew) (b6.ext (Ext.refl wr).drew)) (fq_mk (c5.ext (Ext.refl wr).drew) (c6.ext (Ext.refl wr).drew)) hs2.out hbn.out hD0 hDl.out).mono ?_); rintro e w1 ⟨y, rfl, ⟨u7, s7, rfl, hu7, hs7⟩, hb7⟩; obtain ⟨x7, _, y7, z7, rfl, -⟩ := hu7.view; obtain ⟨x8, _, y8, z8, rfl, -⟩ := hs7.view; obtain ⟨_, _, hc7, hf7⟩ := hb7.cells2; have hz7 := hb7.size; have hE7 : Ext wr w1 := (Ext.refl wr).drew.trans hb7))
        all_goals
          replace hnext : Hid _ := hnext.out _ ((HB.out.ext hE7).high hu7 hs7)
          clear HB a1 a2 a3 a4 a5 a6 b1 b2 b3 b4 b5 b6 c1 c2 c3 c4 c5 c6 n1 n2 f1 f2 hu7 hs7
          go_wp2_with fail
          go_roundw
          case rel => exact hnext.out
          case measure => simp [intOf]; omega

end Go.Proofs.Ytcalonhphknbbaa
