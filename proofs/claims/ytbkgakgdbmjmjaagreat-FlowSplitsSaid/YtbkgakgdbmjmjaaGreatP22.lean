/- frac.Ceil over rational numbers. -/
import Derived.Test.YtbkgakgdbmjmjaaGreatP21
set_option linter.unusedSimpArgs false
set_option linter.unusedVariables false
set_option maxRecDepth 100000
set_option maxHeartbeats 4000000
namespace Go.Proofs.YtbkgakgdbmjmjaaGreat
open Go.RowKit
theorem T_EP5_2 {p : Prop} (h : p := by
 refine hK.out _ _ trivial (fun _ => ?_)
 clear hK K
 try simp only [sx_]
 refine rh1 2 rfl fun K hK => ?_
 go_simp
 (go_at_call 144; (with_reducible refine (hadd _ _ _ hq hn1.wid).mono ?_); rintro e t2 ⟨z2, rfl, hn2, hx2⟩; replace hbk := hbk.ext hx2; replace hnu := hnu.ext c_62 hx2; replace hnv := hnv.ext c_62 hx2; replace hF2 := hF2.ext hx2; replace hF3 := B1.ext hF3 hx2; replace hEA := hEA.trans hx2)
 refine hK.out _ _ trivial (fun _ => ?_)
 clear hK K
 try simp only [sx_]
 refine rh2 3 4 rfl rfl (fun K hK => ?_) fun K hK => ?_
 ·go_simp
  refine hK.out _ _ trivial (fun _ => ?_)
  clear hK K
  try simp only [sx_]
  refine rh1 4 rfl fun K hK => ?_
  exact T_EP5_1
 ·go_simp
  refine hK.out _ _ trivial (fun _ => ?_)
  clear hK K
  try simp only [sx_]
  refine rh1 3 rfl fun K hK => ?_
  exact T_EP5_1) : p := h
theorem T_EP5_1 {p : Prop} (h : p := by
 go_simp
 refine hK.out _ _ trivial (fun _ => ?_)
 clear hK K
 try simp only [sx_]
 refine rh1 5 rfl fun K hK => ?_
 go_simp
 (go_at_call 232; (with_reducible refine (z_must0 _ _ _ hn2).mono ?_); rintro e t3 ⟨rfl, hx3⟩; replace hbk := hbk.ext hx3; replace hnu := hnu.ext c_62 hx3; replace hnv := hnv.ext c_62 hx3; replace hF2 := hF2.ext hx3; replace hF3 := B1.ext hF3 hx3; replace hEA := hEA.trans hx3; obtain ⟨s9, ao9, n9, cap9, rfl, hn9⟩ := hn2.open; replace hn9 := hn9.ext hx3)
 refine hK.out _ _ trivial (fun _ => ?_)
 clear hK K
 try simp only [sx_]
 refine rh1 6 rfl fun K hK => ?_
 obtain ⟨⟨x0, p0⟩, ⟨x1, p1⟩, p2, p3, p4⟩ := id hbk
 obtain ⟨⟨y0, q0⟩, ⟨y1, q1⟩, q2, q3, q4⟩ := id hF2
 obtain ⟨⟨r0, r1⟩, r2, r3⟩ := id hF3
 have hz8 := hEA.size
 clear hEA hbk hF2 hF3
 go_simp
 refine hK.out _ _ trivial (fun _ => ?_)
 clear hK K
 try simp only [sx_]
 refine wpAnyH_done c_16 ?_ _
 go_wp2_with fail
 refine leaves_cons (f := 184) (args := #[.pointer (some ⟨w.heap.size + 1 + 1, 0, none⟩)]) (by simp) (by simp [go_sem]) ?_
 refine (w_catch _ _).mono ?_
 rintro e u' w'' ⟨rfl, rfl, rfl⟩
 refine ⟨.tuple #[.agg #[.bool s9, .slice ao9 n9 cap9], .int .i64 0], ?_, _, rfl, ?_, ?_⟩
 ·simp [results, Tryz.results181, go_sem, ↓IntWalk.iteOmega, *]
 ·rw [hE0.out, if_neg hr]; exact c_39
 ·repeat (first | with_reducible exact Ext.refl _ | with_reducible assumption | with_reducible refine Ext.alloc ?_ _ | with_reducible refine Ext.setCell ?_ c_19 _ | with_reducible refine Ext.drewN ?_ _ | with_reducible refine Ext.drew ?_ | with_reducible refine Ext.trans ?_ c_9)) : p := h
def B1 (w : World) (g : Nat) : Prop := (∃ a, w.cell? ⟨g, 0, none⟩ = some a) ∧ (∀ o, w.frozen? ⟨g, o, none⟩ = false) ∧ g < w.heap.size
theorem B1.ext {g : Nat} {a b : World} (h : B1 a g) (k : Ext a b) : B1 b g := by
 obtain ⟨⟨x, h0⟩, h5, h7⟩ := h
 exact ⟨⟨x, (k.cells.1 g 0 h7).trans h0⟩, fun o => (k.cells.2 g o h7).trans (h5 o), Nat.lt_of_lt_of_le h7 k.size⟩
def clI (x : Rat) : Int := -((-x.num) / (x.den : Int))
theorem clI_eq (x : Rat) : clI x = if (x.num % (x.den : Int)).toNat = 0 then x.num / (x.den : Int) else x.num / (x.den : Int) + 1 := by
 have hd : (0 : Int) < x.den := by have := den_pos' x; omega
 unfold clI
 rw [neg_div _ _ hd]
 have := Int.emod_nonneg x.num (show (x.den : Int) ≠ 0 by omega)
 split <;> split <;> omega
theorem z_Ceil (va : Value) (x : Rat) (b : Nat) (w : World) (hf : Fr w va x) (hx : Fb x b) (hb : b ≤ 131000) :
    Calls Tryz.prog 181 #[va] w fun e w' => ∃ u, e = .returned (.tuple #[u, .int .i64 0]) ∧ Wid w' u (clI x) ∧ Ext w w' := by
 obtain ⟨s1, ao, l1, cap1, bo, l2, cap2, rfl⟩ := hf.shape
 obtain ⟨sx, sy⟩ := fb_small hx (by omega)
 have hden := den_pos' x
 have hk1 := fun w1 (k1 : Ext w w1) => z_fCheck _ x b w1 (hf.ext k1) hx (by omega)
 have hk2 := fun w1 (k1 : Ext w w1) => z_DivMod _ _ x.num x.den w1 (hf.parts.1.ext k1) (hf.parts.2.ext k1) sx hden sy
 have hqs : (x.num / (x.den : Int)).natAbs ≤ x.num.natAbs := by
  have d0 : (0 : Int) < x.den := by omega
  have d1 : (1 : Int) ≤ x.den := by omega
  rcases Int.lt_or_le x.num 0 with h | h
  ·have a : x.num / (x.den : Int) < 0 := Int.ediv_neg_of_neg_of_pos h d0
   have b : x.num ≤ x.num / (x.den : Int) := by
    rw [Int.le_ediv_iff_mul_le d0]
    have := Int.mul_le_mul_of_nonpos_left (a := x.num) (b := (x.den : Int)) (c := 1) (by omega) d1
    omega
   omega
  ·have a : 0 ≤ x.num / (x.den : Int) := Int.ediv_nonneg h (by omega)
   have b : x.num / (x.den : Int) ≤ x.num := Int.ediv_le_self _ h
   omega
 have hadd := fun w1 v u (ha : Wid w1 v (x.num / (x.den : Int))) (h1 : Wid w1 u ((1 : Nat) : Int)) => z_Add v u (x.num / (x.den : Int)) 1 w1 ha h1 (small_bits (Nat.lt_of_le_of_lt hqs hx.1) (by omega)) (small_bits (k := 1) (by decide) (by decide)) (small_bits (k := b + 1) (by have := hx.1; rw [Nat.pow_succ]; omega) (by omega))
 have hE0 := clI_eq x
 replace hE0 := Lib.hid hE0
 by_cases hr : (x.num % (x.den : Int)).toNat = 0
 ·rw [hr] at hk2
  go_enter_defers Tryz.func181, Tryz.ntmps181
  go_wp2_with (first
   | (go_at_call 139; (with_reducible refine (hk1 _ ex_).mono ?_); rintro e w1 ⟨rfl, hb1⟩; obtain ⟨_, _, ⟨hc1, hf1⟩, hz1⟩ := hb1.c3; (try simp only [wsz] at hz1 hc1 hf1); clear hk1)
   | (go_at_call 185; (with_reducible refine (w_want0 _).mono ?_); rintro e w9 ⟨rfl, h9⟩; replace h9 := h9.symm; subst h9)
   | (go_at_call 140; (with_reducible refine (hk2 _ ex_).mono ?_); rintro e w2 ⟨y1, y2, rfl, hq, hn2, hb2⟩; obtain ⟨s3, ao3, n3, cap3, rfl, hq3⟩ := hq.open; obtain ⟨ao4, cap4, rfl, hn4⟩ := hn2.open; obtain ⟨_, _, ⟨hc2, hf2⟩, hz2⟩ := hb2.c3; (try simp only [wsz] at hz2 hc2 hf2); have hnu : NoU w2 (w.heap.size + 1) := c_56; have hnv : NoU w2 (w.heap.size + 1 + 1) := c_57)
   | (go_at_call 187; (with_reducible refine (w_zero _ 0 _ c_66).mono ?_); rintro e w3 ⟨rfl, hb3⟩; obtain ⟨_, _, ⟨hc3, hf3⟩, hz3⟩ := hb3.c3; (try simp only [wsz] at hz3 hc3 hf3); replace hq3 := Wid.ext (v := .agg #[.bool s3, .slice ao3 n3 cap3]) (n := x.num / (x.den : Int)) c_39 hb3; replace hnu := NoU.ext (B := w.heap.size + 1) c_2 c_19 hb3; replace hnv := NoU.ext (B := w.heap.size + 1 + 1) c_2 c_19 hb3))
  refine leaves_cons (f := 184) (args := #[.pointer (some ⟨w.heap.size + 1 + 1, 0, none⟩)]) (by simp) (by simp [go_sem]) ?_
  refine (w_catch _ _).mono ?_
  rintro e u' w'' ⟨rfl, rfl, rfl⟩
  refine ⟨.tuple #[.agg #[.bool s3, .slice ao3 n3 cap3], .int .i64 0], ?_, _, rfl, ?_, ?_⟩
  ·simp [results, Tryz.results181, go_sem, ↓IntWalk.iteOmega, *]
  ·have : clI x = x.num / (x.den : Int) := by rw [hE0.out, if_pos hr]
   rw [this]; exact c_39
  ·exact b_6
 ·have hz0 : ∀ w1 v, Nn w1 v ((x.num % (x.den : Int)).toNat) → Calls Tryz.prog 187 #[v] w1 fun e w' => e = .returned (.bool false) ∧ Ext w1 w' := fun w1 v h => by
   have := w_zero v _ w1 h
   rw [decide_eq_false hr] at this; exact this
  go_enter_defers Tryz.func181, Tryz.ntmps181
  go_upto_region 6 with (first
   | (go_at_call 139; (with_reducible refine (hk1 _ ex_).mono ?_); rintro e w1 ⟨rfl, hb1⟩; obtain ⟨_, _, ⟨hc1, hf1⟩, hz1⟩ := hb1.c3; (try simp only [wsz] at hz1 hc1 hf1); clear hk1)
   | (go_at_call 185; (with_reducible refine (w_want0 _).mono ?_); rintro e w9 ⟨rfl, h9⟩; replace h9 := h9.symm; subst h9)
   | (go_at_call 140; (with_reducible refine (hk2 _ ex_).mono ?_); rintro e w2 ⟨y1, y2, rfl, hq, hn2, hb2⟩; obtain ⟨s3, ao3, n3, cap3, rfl, hq3⟩ := hq.open; obtain ⟨ao4, cap4, rfl, hn4⟩ := hn2.open; obtain ⟨_, _, ⟨hc2, hf2⟩, hz2⟩ := hb2.c3; (try simp only [wsz] at hz2 hc2 hf2); have hnu : NoU w2 (w.heap.size + 1) := c_56; have hnv : NoU w2 (w.heap.size + 1 + 1) := c_57)
   | (go_at_call 187; (with_reducible refine (hz0 _ _ c_66).mono ?_); rintro e w3 ⟨rfl, hb3⟩; obtain ⟨_, _, ⟨hc3, hf3⟩, hz3⟩ := hb3.c3; (try simp only [wsz] at hz3 hc3 hf3); replace hq3 := Wid.ext (v := .agg #[.bool s3, .slice ao3 n3 cap3]) (n := x.num / (x.den : Int)) c_39 hb3; replace hnu := NoU.ext (B := w.heap.size + 1) c_2 c_19 hb3; replace hnv := NoU.ext (B := w.heap.size + 1 + 1) c_2 c_19 hb3))
  have hlk : w2.heap.size < w3.heap.size := by omega
  have hlz : w.heap.size + 1 + 1 < w3.heap.size := by omega
  have hbc : w3.cell? ⟨w2.heap.size, 0, none⟩ = some (.bool s3) ∧ w3.cell? ⟨w2.heap.size, 1, none⟩ = some (.slice ao3 n3 cap3) := ⟨by simp [go_sem, ↓IntWalk.iteOmega, *], by simp [go_sem, ↓IntWalk.iteOmega, *]⟩
  have hbk : Bx2 w3 w2.heap.size := ⟨⟨_, hbc.1⟩, ⟨_, hbc.2⟩, fun o => by simp [go_sem, ↓IntWalk.iteOmega, *], (by
   have h1 : NoU (w2.alloc (.cells #[.bool s3, .slice ao3 n3 cap3] 159)) w2.heap.size := NoU.new w2 _ _ (noUl (by simp))
   exact NoU.ext (NoU.set (h1.alloc (by simp) _ _) (fun z e => by cases e)) c_46 hb3), hlk⟩
  have hF2 : Bx2 w3 (w.heap.size + 1) := ⟨⟨.bool false, by simp [go_sem, ↓IntWalk.iteOmega, *]⟩, ⟨.slice none 0 0, by simp [go_sem, ↓IntWalk.iteOmega, *]⟩, fun o => by simp [go_sem, ↓IntWalk.iteOmega, *], hnu, by omega⟩
  have hF3 : B1 w3 (w.heap.size + 1 + 1) := ⟨⟨.int .i64 0, by simp [go_sem, ↓IntWalk.iteOmega, *]⟩, fun o => by simp [go_sem, ↓IntWalk.iteOmega, *], by omega⟩
  have hEA : Ext w3 w3.drew := (Ext.refl w3).drew
  have hEw : Ext w w3 := ex_
  replace hbk := hbk.ext hEA
  replace hF2 := hF2.ext hEA
  replace hF3 := hF3.ext hEA
  replace hnu := hnu.ext (by omega) hEA
  replace hnv := hnv.ext (by omega) hEA
  replace hq := hq3.ext hEA
  clear hc3 hf3 hb3 hc2 hf2 hb2 hb1 hc1 hf1 hq3 hn4 hk2 hz0 hf hx sx sy
  refine wp_region_held_drew (S := (fun _ => True)) c_16 ?_ (fun hH => ?_)
  ·exact trivial
  try simp only [sx_]
  refine rh2 0 1 rfl rfl (fun K hK => ?_) fun K hK => ?_
  ·obtain ⟨c0, c1⟩ := hbc
   obtain ⟨hcE, hcF⟩ := And.intro (hEA.cells.1 w2.heap.size 0 hlk) (hEA.cells.1 w2.heap.size 1 hlk)
   rw [c0] at hcE
   rw [c1] at hcF
   go_simp
   refine hK.out _ _ trivial (fun _ => ?_)
   clear hK K
   try simp only [sx_]
   refine rh1 1 rfl fun K hK => ?_
   go_simp
   (go_at_call 192; (with_reducible refine (w_one _).mono ?_); rintro e t1 ⟨z1, rfl, hn1, hx1⟩; replace hq := hq.ext hx1; replace hbk := hbk.ext hx1; replace hnu := hnu.ext c_62 hx1; replace hnv := hnv.ext c_62 hx1; replace hF2 := hF2.ext hx1; replace hF3 := B1.ext hF3 hx1; replace hEA := hEA.trans hx1)
   exact T_EP5_2
  ·go_simp
   (go_at_call 192; (with_reducible refine (w_one _).mono ?_); rintro e t1 ⟨z1, rfl, hn1, hx1⟩; replace hq := hq.ext hx1; replace hbk := hbk.ext hx1; replace hnu := hnu.ext c_62 hx1; replace hnv := hnv.ext c_62 hx1; replace hF2 := hF2.ext hx1; replace hF3 := B1.ext hF3 hx1; replace hEA := hEA.trans hx1)
   refine hK.out _ _ trivial (fun _ => ?_)
   clear hK K
   try simp only [sx_]
   refine rh1 0 rfl fun K hK => ?_
   obtain ⟨c0, c1⟩ := hbc
   obtain ⟨hcE, hcF⟩ := And.intro (hEA.cells.1 w2.heap.size 0 hlk) (hEA.cells.1 w2.heap.size 1 hlk)
   rw [c0] at hcE
   rw [c1] at hcF
   go_simp
   exact T_EP5_2
theorem T_EP6_3 {p : Prop} (h : p := by
 exact small_bits (k := 60) (Nat.lt_of_le_of_lt this (by decide)) (by decide)) : p := h
theorem T_EP6_2 {p : Prop} (h : p := by
 refine rh1 3 rfl fun K hK => ?_
 go_simp
 (go_at_call 137; (with_reducible refine (hmk _ _ _ (hA3.ext hH) hn1).mono ?_); rintro e t2 ⟨z2, rfl, hn2, hx2⟩; obtain ⟨s7, ao7, l7, cap7, bo7, lb7, cb7, rfl⟩ := hn2.shape)
 replace k7 := k7.ext hx2
 refine hK.out _ _ ?_ fun _ => ?_
 ·(try dsimp only); exact Ext.trans hH hx2
 clear hK K hH
 rename_i hH
 try simp only [sx_]
 refine tk 4 rfl c_3 ?_
 try simp only [sx_]
 refine tk 5 rfl c_3 ?_
 try simp only [sx_]
 refine tk 6 rfl c_3 ?_
 try simp only [sx_]
 exact T_EP6_1) : p := h
theorem T_EP6_1 {p : Prop} (h : p := by
 refine rh1 8 rfl fun K hK => ?_
 obtain ⟨⟨x0, p0⟩, ⟨x1, p1⟩, ⟨x2, p2⟩, ⟨x3, p3⟩, p4, p5, p6⟩ := id k7
 go_simp
 refine hK.out _ _ ?_ fun _ => ?_
 ·(try dsimp only); exact Ext.set4 hH (by omega) _ _ _ _
 clear hK K hH
 rename_i hH
 try simp only [sx_]
 have hGA := k7.store hn2
 clear p0 p1 p2 p3 p4 p5 p6 k7 hn2
 refine wpAnyH_nm fun Y hY => ?_
 rw [hY] at hH hGA
 clear hY
 refine tk 9 rfl c_3 ?_
 try simp only [sx_]
 refine wpAnyH_done c_16 ?_ _
 obtain ⟨s8, ao8, l8, cap8, bo8, lb8, cb8, f0, f1, f2, f3, fA, zA, eA⟩ := id hGA.opened
 clear eA
 go_wp2_with (first
  | (go_at_call 181; (with_reducible refine (hce _ _ (fA.ext ex_)).mono ?_); rintro e w5 ⟨y5, rfl, hn5, hb5⟩; obtain ⟨s9, ao9, n9, cap9, rfl, hn9⟩ := hn5.open; obtain ⟨_, _, ⟨hc5, hf5⟩, hz5⟩ := hb5.c3; (try simp only [wsz] at hz5 hc5 hf5))
  | (go_at_call 141; (with_reducible refine (hin _ _ (hn9.ext ex_)).mono ?_); rintro e w6 ⟨rfl, hb6⟩; obtain ⟨_, _, ⟨hc6, hf6⟩, hz6⟩ := hb6.c3; (try simp only [wsz] at hz6 hc6 hf6)))
 refine bodyPost_ret (v := .int .i64 R) ?_ rfl ⟨by rw [hRv.out], ?_⟩
 ·simp [results, Tryz.results134, go_sem, ↓IntWalk.iteOmega, *]
 ·replace hH := hE8.trans hH
  repeat (first | with_reducible exact Ext.refl _ | with_reducible assumption | with_reducible refine Ext.alloc ?_ _ | with_reducible refine Ext.setCell ?_ c_19 _ | with_reducible refine Ext.drewN ?_ _ | with_reducible refine Ext.drew ?_ | with_reducible refine Ext.trans ?_ c_9)) : p := h
theorem mk_fl (n : Int) {d : Nat} (hd : 0 < d) : (mkRat n d).num / ((mkRat n d).den : Int) = n / (d : Int) ∧ clI (mkRat n d) = -((-n) / (d : Int)) := by
 obtain ⟨e1, e2⟩ := mk_parts n hd
 have hg : 0 < Nat.gcd n.natAbs d := Nat.gcd_pos_of_pos_right _ hd
 obtain ⟨g, hge⟩ : ∃ g, Nat.gcd n.natAbs d = g := ⟨_, rfl⟩
 rw [hge] at e1 e2 hg
 have d1 : (g : Int) ∣ n := Int.natAbs_dvd_natAbs.1 (by simpa [hge] using Nat.gcd_dvd_left n.natAbs d)
 have d2 : g ∣ d := by simpa [hge] using Nat.gcd_dvd_right n.natAbs d
 obtain ⟨p, rfl⟩ := d1
 obtain ⟨q, rfl⟩ := d2
 rw [Int.mul_ediv_cancel_left _ (by omega)] at e1
 rw [Nat.mul_div_cancel_left _ hg] at e2
 unfold clI
 rw [e1, e2]
 have hgi : (0 : Int) < g := by omega
 refine ⟨?_, ?_⟩
 ·rw [Int.natCast_mul, Int.mul_ediv_mul_of_pos _ _ hgi]
 ·rw [Int.natCast_mul, ← Int.mul_neg, Int.mul_ediv_mul_of_pos _ _ hgi]
def SwI (w : World) (G : Nat) (l : List Int) (i : Value) (wr : World) : Prop := ∃ k : Nat, k ≤ l.length ∧ i = .int .i64 (k : Int) ∧ Ext w wr ∧ WAt wr G (swS l k)
theorem swS_mono {l : List Int} (h : COk l) : ∀ k, k ≤ l.length → 0 ≤ swS l k ∧ swS l k ≤ 55 * 1125899906842624 := fun k hk => by
  obtain ⟨a, b⟩ := swS_le h
  have step : ∀ j : Nat, 0 ≤ (j : Int) * j * (cN l j).natAbs := fun j => Int.mul_nonneg (Int.mul_nonneg (by omega) (by omega)) (by omega)
  have hm : ∀ d k, k + d = l.length → 0 ≤ swS l k ∧ swS l k ≤ swS l l.length := by
    have nn : ∀ k, 0 ≤ swS l k := fun k => by
      induction k with
      | zero => exact Int.le_refl _
      | succ k ih => have := step k; simp only [swS]; omega
    intro d
    induction d with
    | zero => intro k hk; have : k = l.length := by omega
              subst this; exact ⟨nn _, Int.le_refl _⟩
    | succ d ih =>
      intro k hk
      obtain ⟨_, h2⟩ := ih (k + 1) (by omega)
      have := step k
      simp only [swS] at h2
      exact ⟨nn _, by omega⟩
  have := hm (l.length - k) k (by omega)
  omega
theorem z_eSway (v : Value) (l : List Int) (n long : Int) (w : World) (hX : Xs w v l) (hl : COk l) (h1 : 1 ≤ long) (h2 : long ≤ 10000000000000000) (h3 : 0 ≤ n) (h4 : n ≤ long + 1) :
    Calls Tryz.prog 134 #[v, .int .i64 n, .int .i64 long] w fun e w' => e = .returned (.int .i64 (swI l n long)) ∧ Ext w w' := by
 obtain ⟨xo, xb, xo2, xc, rfl, hxa, hxb, hxc⟩ := hX.len
 obtain rfl := hxa hl.1
 have hsw := swS_mono hl
 have hl6 := hl.2.1
 have hz0 : ∀ w1, Calls Tryz.prog 138 #[.int .i64 0] w1 fun e w' => ∃ u, e = .returned u ∧ Wid w' u 0 ∧ Ext w1 w' := fun w1 => z_From 0 w1 (by decide) (by decide)
 have hxs : ∀ w1, Ext w w1 → ∀ k, k < l.length → xb < w1.heap.size ∧ w1.cell? ⟨xb, xo2 + k, none⟩ = some (.int .i64 (cN l k)) := fun w1 k1 k hk => by
  obtain ⟨b', o', ej, hb1, hb2, hb3⟩ := (hX.ext k1).at hk
  obtain ⟨rfl, rfl⟩ : xb = b' ∧ xo2 = o' := by simpa using ej
  exact ⟨hb1, hb2⟩
 obtain ⟨L, hL⟩ : ∃ L, l.length = L := ⟨_, rfl⟩
 rw [hL] at hxb hxs hl6
 rw [hL]
 have hcO := hl.2.2
 rw [hL] at hcO hsw
 have hLp : 0 < L := hL ▸ hl.1
 replace hL := Lib.hid hL
 clear hX hl
 go_enter Tryz.func134, Tryz.ntmps134
 go_upto_region 2 with (go_at_call 138; (with_reducible refine (hz0 _).mono ?_); rintro e w4 ⟨y4, rfl, hn4, hb4⟩; obtain ⟨s4, ao4, n4, cap4, rfl, hn4⟩ := hn4.open; obtain ⟨_, _, ⟨hc4, hf4⟩, hz4⟩ := hb4.c3; (try simp only [wsz] at hz4 hc4 hf4))
 have hWA : WAt (w4.alloc (.cells #[.bool s4, .slice ao4 n4 cap4] 159)) w4.heap.size 0 := WAt.lit hn4
 have hEA : Ext w (w4.alloc (.cells #[.bool s4, .slice ao4 n4 cap4] 159)) := ex_
 have hGw : w.heap.size ≤ w4.heap.size := hb4.size
 obtain ⟨G, hG⟩ : ∃ G, w4.heap.size = G := ⟨_, rfl⟩
 rw [hG] at hWA hGw ⊢
 refine wp_name fun W hW => ?_
 have hWA2 : WAt W G 0 := by have e : W = _ := hW; rw [e]; exact hWA
 have hEA2 : Ext w W := Ext.same hW hEA
 clear hWA hEA hG hb4 hc4 hf4 hz4 hn4 hz0 hW
 go_wp2_with fail
 go_loopw [19] (fun i wr => SwI w G l i wr) (fun i _ => L - (intOf i).toNat)
 case atStart => exact ⟨0, Nat.zero_le _, rfl, hEA2, hWA2⟩
 case round =>
  obtain ⟨k, hk, hi, hE, hA⟩ := hrel
  subst hi
  rw [hL.out] at hk
  clear hWA2 hEA2
  by_cases hkL : k = L
  ·subst hkL
   have hs0 := hsw k (by omega)
   obtain ⟨S, hS⟩ : ∃ S, swS l k = S := ⟨_, rfl⟩
   have hRv : swI l n long = -(-(S * n) / long) := by unfold swI; rw [hL.out, hS]
   rw [hS] at hs0 hA
   clear hsw hcO hxs
   obtain ⟨ao5, cap5', g0, g1, hA3, hA4⟩ := id hA.open
   have hlG := hA.lt
   have hp0 : 0 ≤ S * n := Int.mul_nonneg hs0.1 h3
   have hp1 : S * n ≤ 61924494876344320 * (long + 1) := Int.mul_le_mul hs0.2 h4 h3 (by decide)
   have hp2 : S * n ≤ 123848989752688640 * long := by omega
   have hsz : Sz S := by
    have : S.natAbs ≤ 61924494876344320 := by omega
    exact T_EP6_3
   have hnz : Sz n := by
    have : n.natAbs ≤ 10000000000000001 := by omega
    exact T_EP6_3
   have hpz : Sz (S * n) := by
    have : (S * n).natAbs ≤ 1238489897526886400000000000000000 := by omega
    exact small_bits (k := 120) (Nat.lt_of_le_of_lt this (by decide)) (by decide)
   have hld : ((long.toNat : Nat) : Int) = long := by omega
   have hfn := fun w1 => z_From n w1 (by omega) (by omega)
   have hfl : ∀ w1, Calls Tryz.prog 138 #[.int .i64 long] w1 fun e w' => ∃ u, e = .returned u ∧ Nn w' u long.toNat ∧ Ext w1 w' := fun w1 => by
    refine (z_From long w1 (by omega) (by omega)).mono ?_
    rintro e w' ⟨u, rfl, h, k⟩
    exact ⟨u, rfl, Wid.natE h hld.symm, k⟩
   have hmu := fun w1 v (k1 : Ext wr w1) (h : Wid w1 v n) => z_Mul _ v S n w1 (hA3.ext k1) h hsz hnz hpz
   have hlz : Small long.toNat := by
    have : long.toNat ≤ 10000000000000000 := by omega
    exact T_EP6_3
   have hmk := fun w1 u v (h8 : Wid w1 u (S * n)) (h : Nn w1 v long.toNat) => z_Make u v (S * n) long.toNat w1 h8 h hpz hlz (by omega)
   have hfx : Fb (mkRat (S * n) long.toNat) 120 := fb_mk (by omega) (by
    have : (S * n).natAbs ≤ 1238489897526886400000000000000000 := by omega
    exact Nat.lt_of_le_of_lt this (by decide)) (by
    have : long.toNat ≤ 10000000000000000 := by omega
    exact Nat.lt_of_le_of_lt this (by decide))
   have hce := fun w1 v (h : Fr w1 v (mkRat (S * n) long.toNat)) => z_Ceil v _ 120 w1 h hfx (by omega)
   have ecl : clI (mkRat (S * n) long.toNat) = -(-(S * n) / long) := by rw [(mk_fl (S * n) (d := long.toNat) (by omega)).2, hld]
   rw [ecl] at hce
   have hr1 : 0 ≤ -(-(S * n) / long) ∧ -(-(S * n) / long) ≤ 123848989752688640 := by
    have a := Int.ediv_mul_le (-(S * n)) (show long ≠ 0 by omega)
    have b : -123848989752688640 ≤ -(S * n) / long := by
     rw [Int.le_ediv_iff_mul_le (by omega)]; omega
    have c : -(S * n) / long ≤ 0 := by
     rcases Int.lt_or_le 0 (-(S * n) / long) with h | h
     ·have := Int.mul_pos h (show 0 < long by omega); omega
     ·exact h
    omega
   rw [← hRv] at hce hr1
   obtain ⟨R, hR⟩ : ∃ R, swI l n long = R := ⟨_, rfl⟩
   rw [hR] at hce hr1
   replace hRv := Lib.hid hR
   have hin := fun w1 v (h : Wid w1 v R) => z_Int v R w1 h (by omega) (by omega)
   clear hr1 hfx hp0 hp1 hp2 hs0 hsz hnz hpz hlz hS hR ecl hld h1 h2 h3 h4
   go_upto_region 7 with fail
   refine wp_region_till (S := (fun w0 => Ext wr w0)) (fun i => decide (i = 7)) c_16 ?_ (fun hH => ?_)
   ·exact (Ext.refl _).drew
   try simp only [sx_]
   refine tb 0 rfl c_51 ?_
   try simp only [sx_]
   refine tp 1 rfl c_0 ?_
   try simp only [sx_]
   refine rb (i := 2) rfl fun K hK => ?_
   go_simp
   (go_at_call 138; (with_reducible refine (hfn _).mono ?_); rintro e t1 ⟨z1, rfl, hn1, hx1⟩)
   refine hK.out _ _ ?_ fun _ => ?_
   ·(try dsimp only); exact Ext.trans hH hx1
   clear hK K hH
   rename_i hH
   try simp only [sx_]
   refine rb (i := 3) rfl fun K hK => ?_
   go_simp
   (go_at_call 180; (with_reducible refine (hmu _ _ hH hn1).mono ?_); rintro e t2 ⟨z2, rfl, hn2, hx2⟩; obtain ⟨s5, ao5, n5, cap5, rfl, hn5⟩ := Wid.open hn2)
   refine hK.out _ _ ?_ fun _ => ?_
   ·(try dsimp only); exact Ext.trans hH hx2
   clear hK K hH
   rename_i hH
   try simp only [sx_]
   refine tp 4 rfl c_0 ?_
   try simp only [sx_]
   refine tp 5 rfl c_0 ?_
   try simp only [sx_]
   refine tp 6 rfl c_0 ?_
   try simp only [sx_]
   refine rl (i := 7) rfl fun K hK => ?_
   have hW := hH
   have hB := hA.box.ext hH
   obtain ⟨⟨x0, p0⟩, ⟨x1, p1⟩, p2, p3, p4⟩ := id hB
   go_simp
   refine hK.out _ _ trivial (fun _ => ?_)
   clear hK K
   try simp only [sx_]
   refine wpAnyH_done c_16 ?_ _
   go_upto_region 8 with fail
   refine wp_name fun W8 hW8 => ?_
   have hA8 : WAt W8 G (S * n) := by have e : W8 = _ := hW8; rw [e]; exact hB.store hn5
   have hE8 : Ext w W8 := Ext.same hW8 (((hE.trans hW).setCell hGw _).setCell hGw _)
   clear hA hE hn5 hW hW8 p0 p1 p2 p3 p4 hB hlG g0 g1 hA3 hA4
   obtain ⟨ao6, cap6, g0, g1, hA3, hA4⟩ := id hA8.open
   have hlG := hA8.lt
   refine wp_region_held_drew (S := (fun w0 => Ext W8 w0)) c_16 ?_ (fun hH => ?_)
   ·exact (Ext.refl _).drew
   refine wpAnyH_nm fun Y hY => ?_
   rw [hY] at hH
   clear hY
   try simp only [sx_]
   refine tk 0 rfl c_51 ?_
   try simp only [sx_]
   refine tk 1 rfl c_3 ?_
   try simp only [sx_]
   refine rh2 2 7 rfl rfl (fun K hK => ?_) fun K hK => ?_
   ·go_simp
    (go_at_call 138; (with_reducible refine (hfl _).mono ?_); rintro e t1 ⟨z1, rfl, hn1, hx1⟩)
    refine hK.out _ _ ?_ fun _ => ?_
    ·(try dsimp only); exact Ext.trans hH hx1
    clear hK K hH
    rename_i hH
    try simp only [sx_]
    refine rh2 3 7 rfl rfl (fun K hK => ?_) fun K hK => ?_
    ·go_simp
     (go_at_call 137; (with_reducible refine (hmk _ _ _ (hA3.ext hH) hn1).mono ?_); rintro e t2 ⟨z2, rfl, hn2, hx2⟩; obtain ⟨s7, ao7, l7, cap7, bo7, lb7, cb7, rfl⟩ := hn2.shape)
     refine hK.out _ _ ?_ fun _ => ?_
     ·(try dsimp only); exact Ext.trans hH hx2
     clear hK K hH
     rename_i hH
     try simp only [sx_]
     refine tk 4 rfl c_3 ?_
     try simp only [sx_]
     refine tk 5 rfl c_3 ?_
     try simp only [sx_]
     refine tk 6 rfl c_3 ?_
     try simp only [sx_]
     refine rh1 7 rfl fun K hK => ?_
     obtain ⟨k7, hge7⟩ := fresh4_of hH
     have hxa := alloc4_ext hH
     replace hn2 := hn2.ext hxa
     clear hxa
     go_simp
     refine hK.out _ _ ?_ fun _ => ?_
     ·(try dsimp only); exact Ext.alloc hH _
     clear hK K hH
     rename_i hH
     try simp only [sx_]
     refine wpAnyH_nm fun Y hY => ?_
     rw [hY] at hH hn2 k7
     clear hY
     exact T_EP6_1
    ·obtain ⟨k7, hge7⟩ := fresh4_of hH
     have hxa := alloc4_ext hH
     replace hn1 := hn1.ext hxa
     clear hxa
     go_simp
     refine hK.out _ _ ?_ fun _ => ?_
     ·(try dsimp only); exact Ext.alloc hH _
     clear hK K hH
     rename_i hH
     try simp only [sx_]
     refine wpAnyH_nm fun Y hY => ?_
     rw [hY] at hH hn1 k7
     clear hY
     exact T_EP6_2
   ·obtain ⟨k7, hge7⟩ := fresh4_of hH
    have hxa := alloc4_ext hH
    clear hxa
    go_simp
    refine hK.out _ _ ?_ fun _ => ?_
    ·(try dsimp only); exact Ext.alloc hH _
    clear hK K hH
    rename_i hH
    try simp only [sx_]
    refine wpAnyH_nm fun Y hY => ?_
    rw [hY] at hH k7
    clear hY
    refine rh1 2 rfl fun K hK => ?_
    go_simp
    (go_at_call 138; (with_reducible refine (hfl _).mono ?_); rintro e t1 ⟨z1, rfl, hn1, hx1⟩)
    replace k7 := k7.ext hx1
    refine hK.out _ _ ?_ fun _ => ?_
    ·(try dsimp only); exact Ext.trans hH hx1
    clear hK K hH
    rename_i hH
    try simp only [sx_]
    exact T_EP6_2
  ·obtain ⟨hxb1, hxc1⟩ := hxs wr hE k (by omega)
   obtain ⟨hc1, hc2⟩ := hcO k (by omega)
   have hs0 := hsw k (by omega)
   have hs1 := hsw (k + 1) (by omega)
   have hst : swS l (k + 1) = swS l k + (k : Int) * k * (cN l k).natAbs := rfl
   obtain ⟨ao5, cap5', g0, g1, hA3, hA4⟩ := id hA.open
   have hlG := hA.lt
   have hEw : Ext w wr := hE
   obtain ⟨C, hC⟩ : ∃ C, cN l k = C := ⟨_, rfl⟩
   rw [hC] at hxc1 hc1 hc2 hst
   obtain ⟨S, hS⟩ : ∃ S, swS l k = S := ⟨_, rfl⟩
   rw [hS] at hs0 hst hA g0 g1 hA3
   rw [hst] at hs1
   clear hsw hcO hxs
   have hk5 : (k : Int) ≤ 5 := by omega
   have hkk : 0 ≤ (k : Int) * k ∧ (k : Int) * k ≤ 25 := ⟨Int.mul_nonneg (by omega) (by omega), by have := Int.mul_le_mul hk5 hk5 (by omega) (by omega); omega⟩
   have hprod : 0 ≤ (k : Int) * k * C.natAbs ∧ (k : Int) * k * C.natAbs ≤ 61924494876344320 := ⟨Int.mul_nonneg hkk.1 (by omega), by omega⟩
   have eA : IntKind.i64.wrap (IntKind.i64.wrap ((k : Int) * k) * max C (IntKind.i64.wrap (-C))) = (k : Int) * k * C.natAbs := by
    have e1 : IntKind.i64.wrap ((k : Int) * k) = (k : Int) * k := IntWalk.i64_in _ (by omega)
    have e2 : IntKind.i64.wrap (-C) = -C := IntWalk.i64_in _ (by omega)
    have e3 : max C (-C) = C.natAbs := by omega
    rw [e1, e2, e3]; exact IntWalk.i64_in _ (by omega)
   have hfr : ∀ w1, Calls Tryz.prog 138 #[.int .i64 (IntKind.i64.wrap (IntKind.i64.wrap ((k : Int) * k) * max C (IntKind.i64.wrap (-C))))] w1 fun e w' => ∃ u, e = .returned u ∧ Wid w' u ((k : Int) * k * C.natAbs) ∧ Ext w1 w' := fun w1 => by
    rw [eA]; exact z_From _ w1 (by omega) (by omega)
   clear eA
   have hss : ∀ z : Int, 0 ≤ z → z ≤ 61924494876344320 → Sz z := fun z a b => by
    have : z.natAbs ≤ 61924494876344320 := by omega
    exact T_EP6_3
   have had := fun w1 v (k1 : Ext wr w1) (h : Wid w1 v ((k : Int) * k * C.natAbs)) => z_Add _ v S ((k : Int) * k * C.natAbs) w1 (hA3.ext k1) h (hss _ hs0.1 hs0.2) (hss _ hprod.1 hprod.2) (hss _ hs1.1 hs1.2)
   go_upto_region 5 with fail
   refine wp_region_till (S := (fun w0 => Ext wr w0)) (fun i => decide (i = 14)) c_16 ?_ (fun hH => ?_)
   ·exact (Ext.refl _).drew
   try simp only [sx_]
   refine tb 0 rfl c_51 ?_
   try simp only [sx_]
   refine tp 1 rfl c_0 ?_
   try simp only [sx_]
   refine tp 2 rfl c_0 ?_
   try simp only [sx_]
   refine tp 3 rfl c_0 ?_
   try simp only [sx_]
   refine tp 4 rfl c_0 ?_
   try simp only [sx_]
   refine tp 5 rfl c_0 ?_
   try simp only [sx_]
   refine tp 6 rfl c_0 ?_
   try simp only [sx_]
   refine tp 7 rfl c_0 ?_
   try simp only [sx_]
   refine tp 8 rfl c_0 ?_
   try simp only [sx_]
   refine rb (i := 9) rfl fun K hK => ?_
   go_simp
   (go_at_call 138; (with_reducible refine (hfr _).mono ?_); rintro e t1 ⟨z1, rfl, hn1, hx1⟩)
   refine hK.out _ _ ?_ fun _ => ?_
   ·(try dsimp only); exact Ext.trans hH hx1
   clear hK K hH
   rename_i hH
   try simp only [sx_]
   refine rb (i := 10) rfl fun K hK => ?_
   go_simp
   (go_at_call 144; (with_reducible refine (had _ _ hH hn1).mono ?_); rintro e t2 ⟨z2, rfl, hn2, hx2⟩; obtain ⟨s5, ao5, n5, cap5, rfl, hn5⟩ := Wid.open hn2)
   refine hK.out _ _ ?_ fun _ => ?_
   ·(try dsimp only); exact Ext.trans hH hx2
   clear hK K hH
   rename_i hH
   try simp only [sx_]
   refine tp 11 rfl c_0 ?_
   try simp only [sx_]
   refine tp 12 rfl c_0 ?_
   try simp only [sx_]
   refine tp 13 rfl c_0 ?_
   try simp only [sx_]
   refine rl (i := 14) rfl fun K hK => ?_
   have hW := hH
   have hB := hA.box.ext hH
   obtain ⟨⟨x0, p0⟩, ⟨x1, p1⟩, p2, p3, p4⟩ := id hB
   go_simp
   refine hK.out _ _ trivial (fun _ => ?_)
   clear hK K
   try simp only [sx_]
   refine wpAnyH_done c_16 ?_ _
   go_wp2_with fail
   go_roundw
   case rel => exact ⟨k + 1, by have := hL.out; omega, (by congr 1), (hE.trans hW).setCell hGw _ |>.setCell hGw _, (by rw [hst]; exact hB.store hn5)⟩
   case measure => first | (simp [intOf]; done) | (simp [intOf]; omega)
theorem T_EPC_1 {p : Prop} (h : p := by
 obtain ⟨h0, h1, h2, h3, h4, h5, h6, h7⟩ := h
 refine ⟨?_, ?_, ?_, ?_, ?_, ?_, fun o => by rw [World.frozen?_setCell]; exact h6 o, by simpa using h7⟩ <;> simp [go_sem, ↓IntWalk.iteOmega, h0, h1, h2, h3, h4, h5]) : p := h
def V6 (w : World) (g : Nat) (v : V3) : Prop := w.cell? ⟨g, 0, none⟩ = some (.int .i64 v.a) ∧ w.cell? ⟨g, 1, none⟩ = some (.int .i64 v.b) ∧ w.cell? ⟨g, 2, none⟩ = some (.int .i64 v.c) ∧ w.cell? ⟨g, 3, none⟩ = some (.int .i64 v.d) ∧ w.cell? ⟨g, 4, none⟩ = some (.int .i64 v.e) ∧ w.cell? ⟨g, 5, none⟩ = some (.int .i64 v.f) ∧ (∀ o, w.frozen? ⟨g, o, none⟩ = false) ∧ g < w.heap.size
theorem V6.kept {A B : World} {row : Option Nat} {g : Nat} {v : V3} (h : V6 A g v) (hg : A.grownBy B row) (hr : ∀ r, row = some r → ∃ o : Obj, A.heap[r]? = some o ∧ o.isCells = false) : V6 B g v := by
 obtain ⟨h0, h1, h2, h3, h4, h5, h6, h7⟩ := h
 refine ⟨cell_kept h0 hg hr, cell_kept h1 hg hr, cell_kept h2 hg hr, cell_kept h3 hg hr, cell_kept h4 hg hr, cell_kept h5 hg hr, fun o => ?_, Nat.lt_of_lt_of_le h7 hg.size⟩
 have hne : row ≠ some g := fun e => by
  obtain ⟨q, hq, hc⟩ := hr g e
  unfold World.cell? at h0
  rw [hq] at h0
  cases q <;> simp [Obj.isCells] at hc h0
 have hb : B.heap[g]? = A.heap[g]? := hg.block g h7 (Ne.symm hne)
 have := h6 o
 unfold World.frozen? at this ⊢
 dsimp only at this ⊢
 rw [hb]
 exact this
theorem V6.ext {g : Nat} {a b : World} {v : V3} (h : V6 a g v) (k : Ext a b) : V6 b g v := by
 obtain ⟨h0, h1, h2, h3, h4, h5, h6, h7⟩ := h
 exact ⟨(k.cells.1 g 0 h7).trans h0, (k.cells.1 g 1 h7).trans h1, (k.cells.1 g 2 h7).trans h2, (k.cells.1 g 3 h7).trans h3, (k.cells.1 g 4 h7).trans h4, (k.cells.1 g 5 h7).trans h5, fun o => (k.cells.2 g o h7).trans (h6 o), Nat.lt_of_lt_of_le h7 k.size⟩
theorem V6.other {w : World} {g B j : Nat} {v : V3} (h : V6 w g v) (hne : g ≠ B) (x : Value) : V6 (w.setCell ⟨B, j, none⟩ x) g v := by
 obtain ⟨h0, h1, h2, h3, h4, h5, h6, h7⟩ := h
 refine ⟨?_, ?_, ?_, ?_, ?_, ?_, fun o => by rw [World.frozen?_setCell]; exact h6 o, by simpa using h7⟩ <;> simp [go_sem, ↓IntWalk.iteOmega, hne, h0, h1, h2, h3, h4, h5]
theorem V6.lit (w : World) (a b c d e f : Int) (t : TypeId) : V6 (w.alloc (.cells #[.int .i64 a, .int .i64 b, .int .i64 c, .int .i64 d, .int .i64 e, .int .i64 f] t)) w.heap.size ⟨a, b, c, d, e, f⟩ := by
 refine ⟨?_, ?_, ?_, ?_, ?_, ?_, fun o => ?_, ?_⟩ <;> simp [go_sem, ↓IntWalk.iteOmega]
theorem V6.s0 {w : World} {g : Nat} {v : V3} (h : V6 w g v) (x : Int) : V6 (w.setCell ⟨g, 0, none⟩ (.int .i64 x)) g { v with a := x } := by
 exact T_EPC_1
theorem V6.s1 {w : World} {g : Nat} {v : V3} (h : V6 w g v) (x : Int) : V6 (w.setCell ⟨g, 1, none⟩ (.int .i64 x)) g { v with b := x } := by
 exact T_EPC_1
theorem V6.s2 {w : World} {g : Nat} {v : V3} (h : V6 w g v) (x : Int) : V6 (w.setCell ⟨g, 2, none⟩ (.int .i64 x)) g { v with c := x } := by
 exact T_EPC_1
theorem V6.s3 {w : World} {g : Nat} {v : V3} (h : V6 w g v) (x : Int) : V6 (w.setCell ⟨g, 3, none⟩ (.int .i64 x)) g { v with d := x } := by
 exact T_EPC_1
theorem V6.s4 {w : World} {g : Nat} {v : V3} (h : V6 w g v) (x : Int) : V6 (w.setCell ⟨g, 4, none⟩ (.int .i64 x)) g { v with e := x } := by
 exact T_EPC_1
theorem V6.s5 {w : World} {g : Nat} {v : V3} (h : V6 w g v) (x : Int) : V6 (w.setCell ⟨g, 5, none⟩ (.int .i64 x)) g { v with f := x } := by
 exact T_EPC_1
theorem V6.store {w : World} {g : Nat} {u : V3} (h : V6 w g u) (v : V3) : V6 ((((((w.setCell ⟨g, 0, none⟩ (.int .i64 v.a)).setCell ⟨g, 1, none⟩ (.int .i64 v.b)).setCell ⟨g, 2, none⟩ (.int .i64 v.c)).setCell ⟨g, 3, none⟩ (.int .i64 v.d)).setCell ⟨g, 4, none⟩ (.int .i64 v.e)).setCell ⟨g, 5, none⟩ (.int .i64 v.f)) g v :=
 ((((((h.s0 _).s1 _).s2 _).s3 _).s4 _).s5 _)
def oeT (d : BodyD) (fr ti : Int) (c : Nat × V3) (j : Nat) : Nat × V3 := (c.1 + 1, if 0 < c.1 then hullV (oeS (sgA d j) fr ti) c.2 else oeS (sgA d j) fr ti)
def oeF (d : BodyD) (fr ti : Int) (l : List (DU d fr ti)) : Nat × V3 := l.foldl (fun c x => oeT d fr ti c x.1) (0, V3.O)
theorem oeF_snoc (d : BodyD) (fr ti : Int) (l : List (DU d fr ti)) (x : DU d fr ti) : oeF d fr ti (l ++ [x]) = oeT d fr ti (oeF d fr ti l) x.1 := by simp [oeF]
theorem oeF_len (d : BodyD) (fr ti : Int) (l : List (DU d fr ti)) : (oeF d fr ti l).1 = l.length := by
 have h : ∀ (l : List (DU d fr ti)) (c : Nat × V3), (l.foldl (fun c x => oeT d fr ti c x.1) c).1 = c.1 + l.length := fun l => by
  induction l with
  | nil => intro c; rfl
  | cons x l ih => intro c; rw [List.foldl_cons, ih]; simp [oeT]; omega
 have := h l (0, V3.O)
 unfold oeF
 simpa using this
theorem oeF_sel (d : BodyD) (fr ti : Int) : ∀ k, k ≤ d.segs.length → oeF d fr ti (selU d fr ti k) = oeN d fr ti k
 | 0, _ => rfl
 | k + 1, h => by
  have ih := oeF_sel d fr ti k (by omega)
  unfold selU oeN
  by_cases hin : inS (sgA d k) fr ti = true
  ·rw [dif_pos ⟨by omega, hin⟩, if_pos hin, oeF_snoc, ih]; rfl
  ·rw [dif_neg (fun h => hin h.2), if_neg hin]; exact ih
def mixV (k : Nat) (a b : V3) : V3 := ⟨if 0 < k then a.a else b.a, if 0 < k then a.b else b.b, if 1 < k then a.c else b.c, if 1 < k then a.d else b.d, if 2 < k then a.e else b.e, if 2 < k then a.f else b.f⟩
theorem oeS_in {s : SegD} (h : SOk s) {fr ti : Int} (hin : inS s fr ti = true) (hft : fr ≤ ti) :
    s.fr ≤ oeX s fr ∧ oeX s fr ≤ oeY s ti ∧ oeY s ti ≤ s.ti ∧ s.fr ≤ oeM s fr ti ∧ oeM s fr ti ≤ s.ti ∧ 0 ≤ oeY s ti - oeX s fr ∧ (∀ i : Nat, i < 3 → -410000000000000000 ≤ ofLo (plU (s.c i) (sgX s (oeM s fr ti))) ∧ ofHi (plU (s.c i) (sgX s (oeM s fr ti))) ≤ 410000000000000000 ∧ ofLo (plU (s.c i) (sgX s (oeM s fr ti))) ≤ ofHi (plU (s.c i) (sgX s (oeM s fr ti))) ∧ 0 ≤ oeW s (s.c i) fr ti ∧ oeW s (s.c i) fr ti ≤ 123848989752688640) := by
 obtain ⟨o1, o2, o3, -⟩ := id h
 simp [inS] at hin
 have x1 : s.fr ≤ oeX s fr := by unfold oeX; omega
 have x2 : oeX s fr ≤ oeY s ti := by unfold oeX oeY; omega
 have x3 : oeY s ti ≤ s.ti := by unfold oeY; omega
 have x4 : s.fr ≤ oeM s fr ti := by unfold oeM; omega
 have x5 : oeM s fr ti ≤ s.ti := by unfold oeM; omega
 refine ⟨x1, x2, x3, x4, x5, by omega, fun i _ => ?_⟩
 obtain ⟨g1, g2⟩ := sgX_le o1 x4 x5
 obtain ⟨p1, p2⟩ := plU_le (h.c i) g1 g2
 obtain ⟨q1, q2, q3, q4⟩ := ofLo_le p1 p2
 obtain ⟨s1, s2⟩ := swS_mono (h.c i) _ (Nat.le_refl _)
 have hw : 0 ≤ oeW s (s.c i) fr ti ∧ oeW s (s.c i) fr ti ≤ 123848989752688640 := by
  unfold oeW swI
  obtain ⟨n, hn⟩ : ∃ n, oeY s ti - oeX s fr + 1 = n := ⟨_, rfl⟩
  obtain ⟨g, hg⟩ : ∃ g, s.ti - s.fr = g := ⟨_, rfl⟩
  obtain ⟨S, hS⟩ : ∃ S, swS (s.c i) (s.c i).length = S := ⟨_, rfl⟩
  rw [hn, hg, hS]
  rw [hS] at s1 s2
  have h3 : 0 ≤ n := by omega
  have h4 : n ≤ g + 1 := by omega
  have hp0 : 0 ≤ S * n := Int.mul_nonneg s1 h3
  have hp1 : S * n ≤ 61924494876344320 * (g + 1) := Int.mul_le_mul s2 h4 h3 (by decide)
  have hp2 : S * n ≤ 123848989752688640 * g := by omega
  have b : -123848989752688640 ≤ -(S * n) / g := by
   rw [Int.le_ediv_iff_mul_le (by omega)]; omega
  have c : -(S * n) / g ≤ 0 := by
   rcases Int.lt_or_le 0 (-(S * n) / g) with h | h
   ·have := Int.mul_pos h (show 0 < g by omega)
    have a := Int.ediv_mul_le (-(S * n)) (show g ≠ 0 by omega)
    omega
   ·exact h
  omega
 exact ⟨by omega, by omega, q3, hw.1, hw.2⟩
end Go.Proofs.YtbkgakgdbmjmjaaGreat
namespace Go.Proofs.YtbkgakgdbmjmjaaGreat
section
variable {F : Fence} {n : Nat} {P : Program} {ops : Array Oper} {Q : Exit → Act → World → Prop} {md : Region.Mode} {S : World → Prop} {T : Nat → Bool}
theorem wpAnyInB_pure1 {i : Nat} {oi : Oper} {v : Value} (hro : F.round = none) (hi : ops[i]? = some oi) (hsel : ∀ (j : Nat) (o : Oper) cs b, ops[j]? = some o → o.op ≠ .select cs b)
    (hQ : ∀ c a w, Q (.panic c) (a.put oi.dst v) w → Q (.panic c) a w) (hti : T i = false) :
    ∀ (fuel : Nat) (listed : Array Bool) (a : Act) (w : World),
      (∀ j oj, ops[j]? = some oj → j ≠ i → listed.getD j true = false → (∀ e ∈ oj.after, Region.binds md e = true → e.on ≠ i) → oi.apart ops oj = true) →
      i ∈ Region.ready md ops listed → YieldsFenced P ops oi v a → S w →
      wpAnyInB F n P md ops Q S T fuel (listed.setIfInBounds i true) (a.put oi.dst v) w → wpAnyInB F n P md ops Q S T (fuel + 1) listed a w := by
  intro fuel
  induction fuel with
  | zero =>
    intro listed a w _ hr hy hS H
    refine ⟨fun h => c_63, fun j hj => ?_⟩
    by_cases hji : j = i
    · subst hji; exact hy.wpOpIn hro hi ⟨fun h => absurd (hti.symm.trans h) (by decide), fun _ => ⟨hS, H⟩⟩
    · have := ready_mono hj hji
      rw [H.1] at this
      cases this
  | succ fuel ih =>
    intro listed a w hfree hr hy hS H
    refine ⟨fun h => c_63, fun j hj => ?_⟩
    by_cases hji : j = i
    · subst hji; exact hy.wpOpIn hro hi ⟨fun h => absurd (hti.symm.trans h) (by decide), fun _ => ⟨hS, H⟩⟩
    · have h1 := H.2 j (ready_mono hj hji)
      obtain ⟨hjun, oj, hoj, hall⟩ := mem_ready.1 hj
      have hnot : ∀ e ∈ oj.after, Region.binds md e = true → e.on ≠ i := fun e he hb heq => by
        have h1 := hall e he hb
        have h0 := (mem_ready.1 hr).1
        rw [heq] at h1
        rcases Nat.lt_or_ge i listed.size with h' | h'
        · simp [h'] at h0 h1; rw [h0] at h1; cases h1
        · simp [Array.getElem?_eq_none h'] at h1
      have h2 := wpOpIn_put hro hoj (hfree j oj hoj hji hjun hnot) (fun cs b => hsel i oi cs b hi) (fun cs b => hsel j oj cs b hoj) hQ hy h1
      have hfree' : ∀ k ok, ops[k]? = some ok → k ≠ i → (listed.setIfInBounds j true).getD k true = false →
          (∀ e ∈ ok.after, Region.binds md e = true → e.on ≠ i) → oi.apart ops ok = true := fun k ok hk hki hun hno => by
        refine hfree k ok hk hki ?_ hno
        by_cases hjk : j = k
        · subst hjk; exact hjun
        · rw [getD_set_ne true hjk] at hun; exact hun
      refine wpOpIn_mono (fun a' w' h3 => ⟨fun ht => ?_, fun ht => ?_⟩) h2
      · have h5 := h3.2.1 ht
        rw [Array.setIfInBounds_comm _ _ (Ne.symm hji)] at h5
        exact wpAnyIn_first hro hi hsel hQ fuel (listed.setIfInBounds j true) a' w' hfree' (ready_mono hr (Ne.symm hji)) h3.1 h5
      · obtain ⟨h4, h5⟩ := h3.2.2 ht
        refine ⟨h4, ih (listed.setIfInBounds j true) a' w' hfree' (ready_mono hr (Ne.symm hji)) h3.1 h4 ?_⟩
        rw [Array.setIfInBounds_comm _ _ hji]
        exact h5
theorem wpAnyInB_pure {i : Nat} {oi : Oper} {v : Value} {fuel : Nat} {listed : Array Bool} {a : Act} {w : World} (hro : F.round = none) (hi : ops[i]? = some oi)
    (hs : Region.noSelect ops = true) (hf : Region.free md ops listed i = true) (hr : (Region.ready md ops listed).contains i = true) (hT : (T i == false) = true)
    (hQ : ∀ c a w, Q (.panic c) (a.put oi.dst v) w → Q (.panic c) a w) (hy : YieldsFenced P ops oi v a) (hS : S w)
    (h : wpAnyInB F n P md ops Q S T fuel (listed.setIfInBounds i true) (a.put oi.dst v) w) : wpAnyInB F n P md ops Q S T (fuel + 1) listed a w := by
 rw [beq_iff_eq] at hT
 exact wpAnyInB_pure1 hro hi (Region.noSelect_spec hs) hQ hT fuel listed a w (Region.free_spec hi hf) (by simpa using hr) hy hS h
theorem tq (i : Nat) {oi : Oper} {v : Value} {fuel : Nat} {listed : Array Bool} {a : Act} {w : World} (hi : ops[i]? = some oi) (hy : ∀ w, (execOp a.eval oi).run P w = .ok (.value v) w)
    (h : wpAnyInB F n P md ops Q S T fuel (listed.setIfInBounds i true) (a.put oi.dst v) w) (hro : F.round = none := by exact rfl)
    (hs : Region.noSelect ops = true := by kernel_rfl) (hf : Region.free md ops listed i = true := by kernel_rfl) (hr : (Region.ready md ops listed).contains i = true := by kernel_rfl) (hT : (T i == false) = true := by kernel_rfl)
    (hQ : ∀ c a w, Q (.panic c) (a.put oi.dst v) w → Q (.panic c) a w := by exact fun _ _ _ h => by cases h.1) (hg : Region.wanted oi (yielded ops a.tmps) = true := by rfl) (hab : ∀ w, oi.about P w a.eval = none := by exact fun _ => rfl) (hS : S w := by assumption) : wpAnyInB F n P md ops Q S T (fuel + 1) listed a w := wpAnyInB_pure hro hi hs hf hr hT hQ ⟨Or.inl ⟨hg, hy⟩, hab⟩ hS h
theorem sQ (i : Nat) {oi : Oper} {v : Value} {fuel : Nat} {listed l' : Array Bool} {a a' : Act} {w : World} (h : wpAnyInB F n P md ops Q S T fuel l' a' w) (hi : ops[i]? = some oi := by rfl) (hy : ∀ w, (execOp a.eval oi).run P w = .ok (.value v) w := by intro w0; go_simp; try with_reducible rfl) (hs : Region.noSelect ops = true := by kernel_rfl) (hf : Region.free md ops listed i = true := by kernel_rfl) (hr : (Region.ready md ops listed).contains i = true := by kernel_rfl) (hro : F.round = none := by exact rfl) (hT : (T i == false) = true := by kernel_rfl) (hQ : ∀ c a w, Q (.panic c) (a.put oi.dst v) w → Q (.panic c) a w := by exact fun _ _ _ h => by cases h.1) (hg : Region.wanted oi (yielded ops a.tmps) = true := by rfl) (hab : ∀ w, oi.about P w a.eval = none := by exact fun _ => rfl) (hS : S w := by assumption) (hl : listed.setIfInBounds i true = l' := by (try simp only [sx_]); exact rfl) (ha : a.put oi.dst v = a' := by (try simp only [sx_]); exact rfl) : wpAnyInB F n P md ops Q S T (fuel + 1) listed a w := by subst hl ha; exact tq i hi hy h hro hs hf hr hT hQ hg hab hS
theorem sQx (i : Nat) {oi : Oper} {v : Value} {fuel : Nat} {listed l' : Array Bool} {a a' : Act} {w : World} (hy : ∀ w, (execOp a.eval oi).run P w = .ok (.value v) w) (h : wpAnyInB F n P md ops Q S T fuel l' a' w) (hi : ops[i]? = some oi := by rfl) (hs : Region.noSelect ops = true := by kernel_rfl) (hf : Region.free md ops listed i = true := by kernel_rfl) (hr : (Region.ready md ops listed).contains i = true := by kernel_rfl) (hro : F.round = none := by exact rfl) (hT : (T i == false) = true := by kernel_rfl) (hQ : ∀ c a w, Q (.panic c) (a.put oi.dst v) w → Q (.panic c) a w := by exact fun _ _ _ h => by cases h.1) (hg : Region.wanted oi (yielded ops a.tmps) = true := by rfl) (hab : ∀ w, oi.about P w a.eval = none := by exact fun _ => rfl) (hS : S w := by assumption) (hl : listed.setIfInBounds i true = l' := by (try simp only [sx_]); exact rfl) (ha : a.put oi.dst v = a' := by (try simp only [sx_]); exact rfl) : wpAnyInB F n P md ops Q S T (fuel + 1) listed a w := by subst hl ha; exact tq i hi hy h hro hs hf hr hT hQ hg hab hS
theorem regionB_inRoundS {l id : Nat} {a : Act} {w : World} (T : Nat → Bool) (hm : P.follows .mixedOrders = true) (hd : ∀ (i : Nat) (o : Oper), ops[i]? = some o → ∀ c, o.op ≠ .defer c) (hS : S w.drew)
    (h : S w.drew → wpAnyInB Fence.wide n P .any ops Q S T ops.size (Array.replicate ops.size false) a w.drew) : (Code.region id ops true).wpIn (Fence.wide.inRound l) n P Q a w :=
  regionB_inRound T hm hd (h hS)
end
end Go.Proofs.YtbkgakgdbmjmjaaGreat
