/- frac: Add. -/
import Derived.Test.YtcalonhphknbbaaJ31
import Derived.Test.YtcalonhphknbbaaJ30
set_option linter.unusedSimpArgs false
set_option linter.unusedVariables false
namespace Go.Proofs.Ytcalonhphknbbaa
open Go.RowKit

set_option maxRecDepth 100000 in
set_option maxHeartbeats 4000000 in
theorem w_bothAdd (va vb : Value) (p q r s : Nat) (w : World) (hf : Fq w va p q) (hg : Fq w vb r s) (h1 : Small p) (h2 : Small q) (h3 : Small r) (h4 : Small s) (hS1 : Small (p * s)) (hS2 : Small (r * q)) (hS3 : Small (p * s + r * q)) (hS4 : Small (q * s)) (hq0 : 0 < q) (hs0 : 0 < s) (hg1 : Nat.gcd p q = 1) (hg2 : Nat.gcd r s = 1) :
    Calls Try.prog 33 #[va, vb, .func (.func 34) #[] #[]] w fun e w' => ∃ u, e = .returned (.tuple #[u, .int .i64 0]) ∧ Fq w' u ((p * s + r * q) / Nat.gcd (p * s + r * q) (q * s)) (q * s / Nat.gcd (p * s + r * q) (q * s)) ∧ Ext w w' := by
  obtain ⟨u1, s1, rfl, hp, hq⟩ := hf
  obtain ⟨u2, s2, rfl, hr, hs⟩ := hg
  obtain ⟨ao, b1, o1, cap1, rfl, -⟩ := hp.view
  obtain ⟨bo, b2, o2, cap2, rfl, -⟩ := hq.view
  obtain ⟨co, b3, o3, cap3, rfl, -⟩ := hr.view
  obtain ⟨eo, b4, o4, cap4, rfl, -⟩ := hs.view
  have hd0 : 0 < q * s := Nat.mul_pos hq0 hs0
  have hk1 := fun w1 (k1 : Ext w w1) => w_fCheck (.agg #[.bool false, .slice ao (dig p).length cap1, .bool false, .slice bo (dig q).length cap2]) p q w1 ⟨_, _, rfl, hp.ext k1, hq.ext k1⟩ h1 h2 hq0 hg1
  have hk2 := fun w1 (k1 : Ext w w1) => w_fCheck (.agg #[.bool false, .slice co (dig r).length cap3, .bool false, .slice eo (dig s).length cap4]) r s w1 ⟨_, _, rfl, hr.ext k1, hs.ext k1⟩ h3 h4 hs0 hg2
  have hk3 := fun w1 (k1 : Ext w w1) => w_sums (.agg #[.bool false, .slice ao (dig p).length cap1, .bool false, .slice bo (dig q).length cap2]) (.agg #[.bool false, .slice co (dig r).length cap3, .bool false, .slice eo (dig s).length cap4]) p q r s w1 ⟨_, _, rfl, hp.ext k1, hq.ext k1⟩ ⟨_, _, rfl, hr.ext k1, hs.ext k1⟩ h1 h2 h3 h4 hS1 hS2 hS3 hS4
  have hk4 := fun w1 va vb (ha : Nn w1 va (p * s + r * q)) (hb : Nn w1 vb (q * s)) => w_reduce va vb _ _ w1 ha hb hS3 hS4 hd0
  generalize (p * s + r * q) / Nat.gcd (p * s + r * q) (q * s) = m1 at *
  generalize q * s / Nat.gcd (p * s + r * q) (q * s) = k1 at *
  generalize p * s + r * q = nn at *
  generalize q * s = dd at *
  clear hS1 hS2 hS3 hS4 hg1 hg2 h1 h2 h3 h4
  go_enter_defers Try.func33, Try.ntmps33
  go_upto_region 4 with (first
    | (go_at_call 56; (with_reducible refine (hk1 _ (by repeat (first | with_reducible exact Ext.refl _ | with_reducible assumption | with_reducible refine Ext.alloc ?_ _ | with_reducible refine Ext.setCell ?_ (by (try simp only [World.size_alloc, World.size_setCell]); omega) _ | with_reducible refine Ext.drewN ?_ _ | with_reducible refine Ext.drew ?_ | with_reducible refine Ext.trans ?_ (by with_reducible assumption)))).mono ?_); rintro e w1 ⟨rfl, hb1⟩; obtain ⟨_, _, hc1, hf1⟩ := hb1.cells2; have hz1 := hb1.size; (try simp only [World.size_alloc, World.size_setCell] at hz1 hc1 hf1); clear hk1)
    | (go_at_call 56; (with_reducible refine (hk2 _ (by repeat (first | with_reducible exact Ext.refl _ | with_reducible assumption | with_reducible refine Ext.alloc ?_ _ | with_reducible refine Ext.setCell ?_ (by (try simp only [World.size_alloc, World.size_setCell]); omega) _ | with_reducible refine Ext.drewN ?_ _ | with_reducible refine Ext.drew ?_ | with_reducible refine Ext.trans ?_ (by with_reducible assumption)))).mono ?_); rintro e w2 ⟨rfl, hb2⟩; obtain ⟨_, _, hc2, hf2⟩ := hb2.cells2; have hz2 := hb2.size; (try simp only [World.size_alloc, World.size_setCell] at hz2 hc2 hf2); clear hk2)
    | (go_at_call 51; (with_reducible refine (w_want0 _).mono ?_); rintro e w9 ⟨rfl, h9⟩; replace h9 := h9.symm; subst h9))
  have hA0 : Ext ((((w.alloc (.cells #[.bool false, .slice ao (dig p).length cap1, .bool false, .slice bo (dig q).length cap2] 27)).alloc (.cells #[.bool false, .slice co (dig r).length cap3, .bool false, .slice eo (dig s).length cap4] 27)).alloc (.cells #[.bool false, .slice none 0 0, .bool false, .slice none 0 0] 27)).alloc (.cells #[.int .i64 0] 28)) w2 := (by repeat (first | with_reducible exact Ext.refl _ | with_reducible assumption | with_reducible refine Ext.alloc ?_ _ | with_reducible refine Ext.setCell ?_ (by (try simp only [World.size_alloc, World.size_setCell]); omega) _ | with_reducible refine Ext.drewN ?_ _ | with_reducible refine Ext.drew ?_ | with_reducible refine Ext.trans ?_ (by with_reducible assumption)))
  have hnu : NoU w2 (w.heap.size + 1 + 1) := by
    have := ((NoU.new ((w.alloc (.cells #[.bool false, .slice ao (dig p).length cap1, .bool false, .slice bo (dig q).length cap2] 27)).alloc (.cells #[.bool false, .slice co (dig r).length cap3, .bool false, .slice eo (dig s).length cap4] 27)) #[.bool false, .slice none 0 0, .bool false, .slice none 0 0] 27 (noU4 (by simp) (by simp) (by simp) (by simp))).alloc (by simp) #[.int .i64 0] 28).ext (by simp) hA0
    simpa using this
  have hnv : NoU w2 (w.heap.size + 1 + 1 + 1) := by
    have := (NoU.new (((w.alloc (.cells #[.bool false, .slice ao (dig p).length cap1, .bool false, .slice bo (dig q).length cap2] 27)).alloc (.cells #[.bool false, .slice co (dig r).length cap3, .bool false, .slice eo (dig s).length cap4] 27)).alloc (.cells #[.bool false, .slice none 0 0, .bool false, .slice none 0 0] 27)) #[.int .i64 0] 28 (noU1 (by simp))).ext (by simp) hA0
    simpa using this
  have hsz2 : w.heap.size + 1 + 1 + 1 < w2.heap.size := by have := hA0.size; simp only [World.size_alloc] at this; omega
  go_wp2_with (first
    | (go_at_call 34; (with_reducible refine (hk3 _ (by repeat (first | with_reducible exact Ext.refl _ | with_reducible assumption | with_reducible refine Ext.alloc ?_ _ | with_reducible refine Ext.setCell ?_ (by (try simp only [World.size_alloc, World.size_setCell]); omega) _ | with_reducible refine Ext.drewN ?_ _ | with_reducible refine Ext.drew ?_ | with_reducible refine Ext.trans ?_ (by with_reducible assumption)))).mono ?_); rintro e w3 ⟨z3, z4, rfl, hn3, hn4, hb3⟩; obtain ⟨_, _, hc3, hf3⟩ := hb3.cells2; have hz3 := hb3.size; (try simp only [World.size_alloc, World.size_setCell] at hz3 hc3 hf3); replace hnu := hnu.ext (by omega) hb3; replace hnv := hnv.ext (by omega) hb3)
    | (go_at_call 54; (with_reducible refine (hk4 _ _ _ hn3 hn4).mono ?_); rintro e w4 ⟨y4, rfl, ⟨y5, y6, rfl, hx, hy⟩, hb4⟩; obtain ⟨ao5, b5, o5, cap5, rfl, -⟩ := hx.view; obtain ⟨ao7, b7, o7, cap7, rfl, -⟩ := hy.view; obtain ⟨_, _, hc4, hf4⟩ := hb4.cells2; have hz4 := hb4.size; (try simp only [World.size_alloc, World.size_setCell] at hz4 hc4 hf4); replace hnu := hnu.ext (by omega) hb4; replace hnv := hnv.ext (by omega) hb4))
  refine leaves_cons (f := 50) (args := #[.pointer (some ⟨w.heap.size + 1 + 1 + 1, 0, none⟩)]) (by simp) (by simp [go_sem]) ?_
  refine (w_catch _ _).mono ?_
  rintro e u' w'' ⟨rfl, rfl, rfl⟩
  refine ⟨.tuple #[.agg #[.bool false, .slice ao5 (dig m1).length cap5, .bool false, .slice ao7 (dig k1).length cap7], .int .i64 0], ?_, _, rfl, ⟨_, _, rfl, ?_, ?_⟩, ?_⟩
  · simp [results, Try.results33, go_sem, ↓IntWalk.iteOmega, *]
  · refine Lim.box (Lim.box (Lim.box (Lim.box (Lim.box hx ?_) ?_) ?_) ?_) ?_ <;> (repeat (first | with_reducible exact hnu | with_reducible exact hnv | with_reducible refine NoU.set ?_ (fun z e => by cases e)))
  · refine Lim.box (Lim.box (Lim.box (Lim.box (Lim.box hy ?_) ?_) ?_) ?_) ?_ <;> (repeat (first | with_reducible exact hnu | with_reducible exact hnv | with_reducible refine NoU.set ?_ (fun z e => by cases e)))
  · repeat (first | with_reducible exact Ext.refl _ | with_reducible assumption | with_reducible refine Ext.alloc ?_ _ | with_reducible refine Ext.setCell ?_ (by (try simp only [World.size_alloc, World.size_setCell]); omega) _ | with_reducible refine Ext.drewN ?_ _ | with_reducible refine Ext.drew ?_ | with_reducible refine Ext.trans ?_ (by with_reducible assumption))
set_option maxRecDepth 100000 in
set_option maxHeartbeats 4000000 in
theorem w_fAdd (va vb : Value) (p q r s : Nat) (w : World) (hf : Fq w va p q) (hg : Fq w vb r s) (h1 : Small p) (h2 : Small q) (h3 : Small r) (h4 : Small s) (hS1 : Small (p * s)) (hS2 : Small (r * q)) (hS3 : Small (p * s + r * q)) (hS4 : Small (q * s)) (hq0 : 0 < q) (hs0 : 0 < s) (hg1 : Nat.gcd p q = 1) (hg2 : Nat.gcd r s = 1) :
    Calls Try.prog 21 #[va, vb] w fun e w' => ∃ u, e = .returned (.tuple #[u, .int .i64 0]) ∧ Fq w' u ((p * s + r * q) / Nat.gcd (p * s + r * q) (q * s)) (q * s / Nat.gcd (p * s + r * q) (q * s)) ∧ Ext w w' := by
  obtain ⟨u1, s1, rfl, hp, hq⟩ := hf
  obtain ⟨u2, s2, rfl, hr, hs⟩ := hg
  obtain ⟨ao, b1, o1, cap1, rfl, -⟩ := hp.view
  obtain ⟨bo, b2, o2, cap2, rfl, -⟩ := hq.view
  obtain ⟨co, b3, o3, cap3, rfl, -⟩ := hr.view
  obtain ⟨eo, b4, o4, cap4, rfl, -⟩ := hs.view
  have hk1 := fun w1 (k1 : Ext w w1) => w_bothAdd (.agg #[.bool false, .slice ao (dig p).length cap1, .bool false, .slice bo (dig q).length cap2]) (.agg #[.bool false, .slice co (dig r).length cap3, .bool false, .slice eo (dig s).length cap4]) p q r s w1 ⟨_, _, rfl, hp.ext k1, hq.ext k1⟩ ⟨_, _, rfl, hr.ext k1, hs.ext k1⟩ h1 h2 h3 h4 hS1 hS2 hS3 hS4 hq0 hs0 hg1 hg2
  generalize (p * s + r * q) / Nat.gcd (p * s + r * q) (q * s) = m1 at *
  generalize q * s / Nat.gcd (p * s + r * q) (q * s) = k1 at *
  clear hS1 hS2 hS3 hS4 hg1 hg2 h1 h2 h3 h4
  go_enter Try.func21, Try.ntmps21
  go_wp2_with (go_at_call 33; (with_reducible refine (hk1 _ (by repeat (first | with_reducible exact Ext.refl _ | with_reducible assumption | with_reducible refine Ext.alloc ?_ _ | with_reducible refine Ext.setCell ?_ (by (try simp only [World.size_alloc, World.size_setCell]); omega) _ | with_reducible refine Ext.drewN ?_ _ | with_reducible refine Ext.drew ?_ | with_reducible refine Ext.trans ?_ (by with_reducible assumption)))).mono ?_); rintro e w4 ⟨y4, rfl, ⟨y5, y6, rfl, hx, hy⟩, hb4⟩; obtain ⟨ao5, b5, o5, cap5, rfl, -⟩ := hx.view; obtain ⟨ao7, b7, o7, cap7, rfl, -⟩ := hy.view; obtain ⟨_, _, hc4, hf4⟩ := hb4.cells2; have hz4 := hb4.size; (try simp only [World.size_alloc, World.size_setCell] at hz4 hc4 hf4))
  have hA0 : Ext (((w.alloc (.cells #[.bool false, .slice ao (dig p).length cap1, .bool false, .slice bo (dig q).length cap2] 27)).alloc (.cells #[.bool false, .slice co (dig r).length cap3, .bool false, .slice eo (dig s).length cap4] 27)).alloc (.cells #[.bool false, .slice none 0 0, .bool false, .slice none 0 0] 27)) w4 := (by repeat (first | with_reducible exact Ext.refl _ | with_reducible assumption | with_reducible refine Ext.alloc ?_ _ | with_reducible refine Ext.setCell ?_ (by (try simp only [World.size_alloc, World.size_setCell]); omega) _ | with_reducible refine Ext.drewN ?_ _ | with_reducible refine Ext.drew ?_ | with_reducible refine Ext.trans ?_ (by with_reducible assumption)))
  have hnu : NoU w4 (w.heap.size + 1 + 1) := by
    have := (NoU.new ((w.alloc (.cells #[.bool false, .slice ao (dig p).length cap1, .bool false, .slice bo (dig q).length cap2] 27)).alloc (.cells #[.bool false, .slice co (dig r).length cap3, .bool false, .slice eo (dig s).length cap4] 27)) #[.bool false, .slice none 0 0, .bool false, .slice none 0 0] 27 (noU4 (by simp) (by simp) (by simp) (by simp))).ext (by simp) hA0
    simpa using this
  refine bodyPost_ret (v := .tuple #[.agg #[.bool false, .slice ao5 (dig m1).length cap5, .bool false, .slice ao7 (dig k1).length cap7], .int .i64 0]) ?_ rfl ⟨_, rfl, ⟨_, _, rfl, ?_, ?_⟩, ?_⟩
  · simp [results, Try.results21, go_sem, ↓IntWalk.iteOmega, *]
  · refine Lim.box (Lim.box (Lim.box (Lim.box hx ?_) ?_) ?_) ?_ <;> (repeat (first | with_reducible exact hnu | with_reducible refine NoU.set ?_ (fun z e => by cases e)))
  · refine Lim.box (Lim.box (Lim.box (Lim.box hy ?_) ?_) ?_) ?_ <;> (repeat (first | with_reducible exact hnu | with_reducible refine NoU.set ?_ (fun z e => by cases e)))
  · repeat (first | with_reducible exact Ext.refl _ | with_reducible assumption | with_reducible refine Ext.alloc ?_ _ | with_reducible refine Ext.setCell ?_ (by (try simp only [World.size_alloc, World.size_setCell]); omega) _ | with_reducible refine Ext.drewN ?_ _ | with_reducible refine Ext.drew ?_ | with_reducible refine Ext.trans ?_ (by with_reducible assumption))

end Go.Proofs.Ytcalonhphknbbaa

/- Bounds: a weight added to a sum; what the rounds keep. -/
namespace Go.Proofs.Ytcalonhphknbbaa
open Go.RowKit

theorem mul_small {a b : Nat} (ha : a ≤ 70368744177664) (hb : b ≤ 70368744177664) : a * b ≤ 4951760157141521099596496896 := Nat.mul_le_mul ha hb
/-- A weight is added to a sum of weights. -/
theorem w_fAddD (va vb : Value) (S W D : Nat) (w : World) (hf : Fq w va (rn S D) (rd S D)) (hg : Fq w vb (rn W D) (rd W D)) (hS : S ≤ 70368744177664) (hW : W ≤ 70368744177664) (hD0 : 0 < D) (hD : D ≤ 70368744177664) :
    Calls Try.prog 21 #[va, vb] w fun e w' => ∃ u, e = .returned (.tuple #[u, .int .i64 0]) ∧ Fq w' u (rn (S + W) D) (rd (S + W) D) ∧ Ext w w' := by
  have a1 := Nat.le_trans (rn_le S D) hS
  have a2 := Nat.le_trans (rd_le S D) hD
  have a3 := Nat.le_trans (rn_le W D) hW
  have a4 := Nat.le_trans (rd_le W D) hD
  have m1 := mul_small a1 a4
  have m2 := mul_small a3 a2
  have m3 := mul_small a2 a4
  have h := w_fAdd va vb (rn S D) (rd S D) (rn W D) (rd W D) w hf hg (small_of (by omega)) (small_of (by omega)) (small_of (by omega)) (small_of (by omega)) (small_of (by omega)) (small_of (by omega)) (small_of (by omega)) (small_of (by omega)) (rd_pos hD0) (rd_pos hD0) (rn_cop hD0) (rn_cop hD0)
  obtain ⟨e1, e2⟩ := sum_eq (S := S) (W := W) hD0
  rw [← e1, ← e2]
  exact h
/-- The sum of the weights of the first k outcomes with a property. -/
def wsum (p : Int → Bool) (l : List Int) (n : Nat) : Nat → Nat
  | 0 => 0
  | k + 1 => wsum p l n k + if p (l.getD k 0) then bin (2 * n) k else 0
theorem wsum_le (p : Int → Bool) (l : List Int) (n : Nat) (hn : n ≤ 20) : ∀ k, wsum p l n k ≤ k * 1099511627776
  | 0 => by rw [Nat.zero_mul]; exact Nat.le_refl _
  | k + 1 => by
    have h := wsum_le p l n hn k
    have hb := bin_le (2 * n) k
    have h40 : 2 ^ (2 * n) ≤ 2 ^ 40 := Nat.pow_le_pow_right (by decide) (by omega)
    have e : wsum p l n (k + 1) = wsum p l n k + if p (l.getD k 0) then bin (2 * n) k else 0 := rfl
    rw [e, Nat.add_mul, Nat.one_mul]
    have h2 : 2 ^ 40 = 1099511627776 := by decide
    generalize wsum p l n k = A at *
    generalize bin (2 * n) k = b at *
    generalize k * 1099511627776 = c at *
    split <;> omega
def isSure (x : Int) : Bool := x == 2
def isAny (x : Int) : Bool := x != 0
/-- The fraction in block B, cells 0 to 3. -/
def At (wr : World) (B p q : Nat) : Prop := ∃ u s, wr.cell? ⟨B, 0, none⟩ = some (.bool false) ∧ wr.cell? ⟨B, 1, none⟩ = some u ∧ wr.cell? ⟨B, 2, none⟩ = some (.bool false) ∧ wr.cell? ⟨B, 3, none⟩ = some s ∧ Lim wr u (dig p) ∧ Lim wr s (dig q)
theorem At.ext {a w : World} {B p q : Nat} (h : At a B p q) (hB : B < a.heap.size) (k : Ext a w) : At w B p q := by
  obtain ⟨u, s, h1, h2, h3, h4, h5, h6⟩ := h
  exact ⟨u, s, (k.cells.1 B 0 hB).trans h1, (k.cells.1 B 1 hB).trans h2, (k.cells.1 B 2 hB).trans h3, (k.cells.1 B 3 hB).trans h4, h5.ext k, h6.ext k⟩
theorem At.other {w : World} {B B' j p q : Nat} {x : Value} (h : At w B p q) (hne : B ≠ B') (ho : NoU w B') : At (w.setCell ⟨B', j, none⟩ x) B p q := by
  obtain ⟨u, s, h1, h2, h3, h4, h5, h6⟩ := h
  have hc : ∀ o, (w.setCell ⟨B', j, none⟩ x).cell? ⟨B, o, none⟩ = w.cell? ⟨B, o, none⟩ := fun o => by
    rw [cell_sc, if_neg (fun e => hne (by have := congrArg Addr.block e; simpa using this))]
  exact ⟨u, s, (hc 0).trans h1, (hc 1).trans h2, (hc 2).trans h3, (hc 3).trans h4, h5.box ho, h6.box ho⟩
/-- The fraction is stored. -/
theorem At.stored {w : World} {B p q : Nat} {u s : Value} (h1 : ∃ a, w.cell? ⟨B, 0, none⟩ = some a) (h2 : ∃ a, w.cell? ⟨B, 1, none⟩ = some a) (h3 : ∃ a, w.cell? ⟨B, 2, none⟩ = some a) (h4 : ∃ a, w.cell? ⟨B, 3, none⟩ = some a) (hn : NoU w B) (hu : Lim w u (dig p)) (hs : Lim w s (dig q)) (nu : ∀ z, u ≠ .int .u32 z) (ns : ∀ z, s ≠ .int .u32 z) :
    At ((((w.setCell ⟨B, 0, none⟩ (.bool false)).setCell ⟨B, 1, none⟩ u).setCell ⟨B, 2, none⟩ (.bool false)).setCell ⟨B, 3, none⟩ s) B p q := by
  obtain ⟨a1, h1⟩ := h1
  obtain ⟨a2, h2⟩ := h2
  obtain ⟨a3, h3⟩ := h3
  obtain ⟨a4, h4⟩ := h4
  have n1 : NoU (w.setCell ⟨B, 0, none⟩ (.bool false)) B := hn.set (fun z e => by cases e)
  have n2 := n1.set (B' := B) (j := 1) nu
  have n3 : NoU (((w.setCell ⟨B, 0, none⟩ (.bool false)).setCell ⟨B, 1, none⟩ u).setCell ⟨B, 2, none⟩ (.bool false)) B := n2.set (fun z e => by cases e)
  refine ⟨u, s, ?_, ?_, ?_, ?_, Lim.box (Lim.box (Lim.box (Lim.box hu hn) n1) n2) n3, Lim.box (Lim.box (Lim.box (Lim.box hs hn) n1) n2) n3⟩ <;> simp [go_sem, ↓IntWalk.iteOmega, h1, h2, h3, h4]
theorem Wo.other {w : World} {B B' k N n j : Nat} {es : List (Value × Value)} {x : Value} (h : Wo w B N n j es) (hne : B' ≠ B) (ho : NoU w B') (hx : ∀ z, x ≠ .int .u32 z) : Wo (w.setCell ⟨B', k, none⟩ x) B N n j es := by
  obtain ⟨h1, h2, h3, h4, h5⟩ := h
  refine ⟨h1, World.ownsRow.kept (row := some B') h2 ⟨rfl, rfl, rfl, by simp [World.setCell], fun i hi hn => Below.heap_setCell _ _ _ _ (fun e => hn (by rw [e]))⟩ (Or.inr (by simp only [Value.ownBlock]; intro e; cases e; exact hne rfl)), h3.set hx, by simpa using h4, fun i hi => ?_⟩
  obtain ⟨e, e1, e2, e3⟩ := h5 i hi
  exact ⟨e, e1, e2.box ho, e3.box ho⟩
end Go.Proofs.Ytcalonhphknbbaa
