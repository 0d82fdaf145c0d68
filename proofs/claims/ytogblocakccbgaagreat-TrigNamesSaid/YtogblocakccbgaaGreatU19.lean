/- trig: the sum of a sine or a cosine. -/
import Derived.Test.YtogblocakccbgaaGreatU18
set_option linter.unusedSimpArgs false
set_option linter.unusedVariables false
set_option maxRecDepth 100000
set_option maxHeartbeats 4000000
namespace Go.Proofs.YtogblocakccbgaaGreat
open Go.RowKit
def serF (y p : Nat) : Nat → Nat → Nat → Nat → Int → Option (Int × Nat)
 | 0, _, _, _, _ => none
 | F + 1, i, t, k, s => if okN s = true then (if t = 0 then some (s, i) else serF y p F (i + 1) (t * y / 2 ^ p / ((k + 1) * (k + 2))) (k + 2) (if i % 2 = 0 then s + (t : Nat) else s - (t : Nat))) else none
theorem serF_succ {y p F i t k : Nat} {s : Int} {r : Int × Nat} (h : serF y p F i t k s = some r) : ∃ G, F = G + 1 ∧ okN s = true ∧ ((t = 0 ∧ r = (s, i)) ∨ (¬ t = 0 ∧ serF y p G (i + 1) (t * y / 2 ^ p / ((k + 1) * (k + 2))) (k + 2) (if i % 2 = 0 then s + (t : Nat) else s - (t : Nat)) = some r)) := by
 cases F with
 | zero => simp [serF] at h
 | succ G =>
  refine ⟨G, rfl, ?_⟩
  rw [serF] at h
  by_cases h1 : okN s = true
  ·rw [if_pos h1] at h
   refine ⟨h1, ?_⟩
   by_cases h2 : t = 0
   ·rw [if_pos h2] at h
    exact .inl ⟨h2, (Option.some.inj h).symm⟩
   ·rw [if_neg h2] at h
    exact .inr ⟨h2, h⟩
  ·rw [if_neg h1] at h; cases h
theorem serF_ok {y p F i t k : Nat} {s : Int} {r : Int × Nat} (h : serF y p F i t k s = some r) : okN s = true := by
 obtain ⟨G, -, h1, -⟩ := serF_succ h
 exact h1
theorem small_pow (n : Nat) (h : n ≤ 100000) : Small (2 ^ n) := small_bits (k := n + 1) (Nat.pow_lt_pow_right (by decide) (by omega)) (by omega)
theorem t_sumB (T Y Q K t y k p F : Nat) (v : Int) (cnt : Nat) (w : World) (hT : WAt w T (t : Int)) (hY : WAt w Y (y : Int)) (hQ : w.cell? ⟨Q, 0, none⟩ = some (.int .i64 p)) (hKb : (BF.own [.int .i64 k]).p K w) (hYT : Y ≠ T) (hQT : Q ≠ T) (hKT : K ≠ T) (hYK : Y ≠ K) (hQK : Q ≠ K)
    (hs1 : t ≤ 2 ^ 1001) (hy : y ≤ 2 ^ p) (hk : k ≤ 1) (hp0 : 0 < p) (hp : p ≤ 1000) (hF : F ≤ 100000) (hr : serF y p F 0 t k 0 = some (v, cnt)) :
    Calls Tryz.prog 120 #[.func (.func 178) #[] #[.pointer (some ⟨T, 0, none⟩), .pointer (some ⟨Y, 0, none⟩), .pointer (some ⟨Q, 0, none⟩), .pointer (some ⟨K, 0, none⟩)]] w fun e w' => ∃ u, e = .returned (.tuple #[u, .int .i64 cnt]) ∧ Wid w' u v ∧ Fr2 T K w w' := by
 have hTl := hT.lt
 have hYl := hY.lt
 have hQl : Q < w.heap.size := World.block_lt_of_cell? w _ hQ
 have hKl := hKb.2.2.2
 have hST : w.heap.size ≠ T := by omega
 have hSK : w.heap.size ≠ K := by omega
 have hYS : Y ≠ w.heap.size := by omega
 have hs2 : Small y := Small.le (small_pow p (by omega)) hy
 obtain ⟨M, hM⟩ : ∃ M : Nat, M = 1000 := ⟨_, rfl⟩
 have hyp : y ≤ 2 ^ M := Nat.le_trans hy (Nat.pow_le_pow_right (by decide) (by omega))
 have hW0 : WAt (w.alloc (.cells #[.bool false, .slice none 0 0] 24)) w.heap.size 0 := WAt.lit ⟨_, rfl, Lim.nil w⟩
 have hEA := (Ext.refl w).alloc (.cells #[.bool false, .slice none 0 0] 24)
 have hT0 := hT.ext hEA
 have hY0 := hY.ext hEA
 have hK0 := (BF.own _).ext _ _ _ hKb hEA
 have hQ0 := (hEA.cells.1 Q 0 hQl).trans hQ
 go_enter Tryz.func120, Tryz.ntmps120
 go_wp2_with fail
 go_loopw [4, 3] (fun a b wr => ∃ (i t' G : Nat) (s : Int), a = .int .i64 i ∧ b = .int .i64 i ∧ i + G = F ∧ Hid (serF y p G i t' (k + 2 * i) s = some (v, cnt)) ∧ Hid (t' ≤ 2 ^ 1001) ∧ Hid (WAt wr T (t' : Int)) ∧ Hid (WAt wr Y (y : Int)) ∧ Hid ((BF.own [.int .i64 ((k + 2 * i : Nat) : Int)]).p K wr) ∧ Hid (wr.cell? ⟨Q, 0, none⟩ = some (.int .i64 p)) ∧ Hid (WAt wr w.heap.size s) ∧ Hid (Fr2 T K w wr)) (fun a _ _ => F - (intOf a).toNat)
 case atStart => exact ⟨0, t, F, 0, rfl, rfl, by omega, hr, hs1, hT0, hY0, hK0, hQ0, hW0, Fr2.ext hEA⟩
 case round =>
  obtain ⟨i, t', G, s, rfl, rfl, hiG, hA, hSS, hWT, hWY, hWK, hWQ, hWS, hF0⟩ := hrel
  have hF := hF0
  clear hF0
  obtain ⟨G', rfl, hok, hA'⟩ := serF_succ hA.out
  have hSt : Small t' := Small.le (small_pow 1001 (by decide)) hSS.out
  obtain ⟨E1, hE1⟩ : ∃ E1 : Nat, E1 = 1001 := ⟨_, rfl⟩
  have hSS1 : t' ≤ 2 ^ E1 := by rw [hE1]; exact hSS.out
  have hSy : Small (t' * y) := Small.le (small_pow (E1 + M) (by omega)) (by
   have := Nat.mul_le_mul hSS1 hyp
   rw [← Nat.pow_add] at this
   exact this)
  clear hE1 hSS1
  have hSt2 : Hid (t' * y / 2 ^ p / ((k + 2 * i + 1) * (k + 2 * i + 2)) ≤ 2 ^ 1001) := by
   refine Nat.le_trans (Nat.le_trans (Nat.div_le_self _ _) ?_) hSS.out
   exact Nat.div_le_of_le_mul (by rw [Nat.mul_comm]; exact Nat.mul_le_mul_right _ hy)
  have hsx : Sz (t' : Int) := by unfold Sz; rw [Int.natAbs_natCast]; exact hSt
  clear hW0 hT0 hY0 hK0 hQ0 hT hY hQ hKb hEA hyp
  rcases hA' with ⟨h0, hres⟩ | ⟨h0, hA'⟩
  ·subst h0
   obtain ⟨hv1, hv2⟩ : v = s ∧ cnt = i := by simpa using hres
   subst hv1
   subst hv2
   have hsg : ∀ v w2, Wid w2 v ((0 : Nat) : Int) → Calls Tryz.prog 20 #[v] w2 fun e w' => e = .returned (.int .i64 0) ∧ Ext w2 w' := fun v w2 hv => t_sign v _ w2 hv hsx
   go_wp2_with (first
    | (go_at_call 178; go_loud (with_reducible refine (t_ser1 T Y Q K cnt 0 y (k + 2 * cnt) p _ hWT.out hWY.out hWQ.out hWK.out hYT hQT hKT hSt hs2 hSy (by omega) hp0 hp).mono ?_); rintro e w1 ⟨y1, rfl, hy1, hT1, hK1, hf1, hkw⟩; obtain ⟨ao1, cap1, rfl, hy2⟩ := hy1.nat.open; have hS1 := hkw _ _ hST hSK hWS.out; have hY1 := hkw _ _ hYT hYK hWY.out; obtain ⟨aoS, capS, s0, s1, hWidS, hfS⟩ := hS1.open; have s1l := hS1.lt; have hzg := hf1.size)
    | (go_at_call 20; go_loud (with_reducible refine (hsg _ _ (hy2.wid.ext ex_)).mono ?_); rintro e w2 ⟨rfl, hb2⟩; obtain ⟨_, _, ⟨hc2, hf2⟩, hz2⟩ := hb2.c3; (try simp only [wsz] at hz2 hc2 hf2)))
   have hE2 : Ext w1 w2 := ex_
   have hS3 := hS1.ext hE2
   have hnS := hS3.noU
   have hWid2 := (hWidS.ext hE2).box (B := w.heap.size) (j := 0) (x := .bool (decide (v < 0))) hnS
   have hWid3 := hWid2.box (B := w.heap.size) (j := 1) (x := .slice aoS (dig v.natAbs).length capS) (NoU.set hnS (fun z e => by cases e))
   have hG4 : Fr2 T K w ((w2.setCell ⟨w.heap.size, 0, none⟩ (.bool (decide (v < 0)))).setCell ⟨w.heap.size, 1, none⟩ (.slice aoS (dig v.natAbs).length capS)) := (((hF.out.trans hf1).trans (Fr2.ext hE2)).new (Nat.le_refl _) _).new (Nat.le_refl _) _
   refine bodyPost_ret (v := .tuple #[.agg #[.bool (decide (v < 0)), .slice aoS (dig v.natAbs).length capS], .int .i64 cnt]) ?_ rfl ⟨_, rfl, hWid3, hG4⟩
   simp [results, Tryz.results120, go_sem, ↓IntWalk.iteOmega, *]
  ·have hsg : ∀ v w2, Wid w2 v (t' : Int) → Calls Tryz.prog 20 #[v] w2 fun e w' => e = .returned (.int .i64 1) ∧ Ext w2 w' := fun v w2 hv => by
    have := t_sign v _ w2 hv hsx
    rwa [cmp_gt (show (0 : Int) < (t' : Int) by omega)] at this
   by_cases hev : i % 2 = 0
   ·have hevI : ((i : Int) % 2 == 0) = true := by simp; omega
    rw [if_pos hev] at hA'
    have hok2 := serF_ok hA'
    go_wp2_with (first
     | (go_at_call 178; go_loud (with_reducible refine (t_ser1 T Y Q K i t' y (k + 2 * i) p _ hWT.out hWY.out hWQ.out hWK.out hYT hQT hKT hSt hs2 hSy (by omega) hp0 hp).mono ?_); rintro e w1 ⟨y1, rfl, hy1, hT1, hK1, hf1, hkw⟩; obtain ⟨ao1, cap1, rfl, hy2⟩ := hy1.nat.open; have hS1 := hkw _ _ hST hSK hWS.out; have hY1 := hkw _ _ hYT hYK hWY.out; obtain ⟨aoS, capS, s0, s1, hWidS, hfS⟩ := hS1.open; have s1l := hS1.lt; have hzg := hf1.size)
     | (go_at_call 20; go_loud (with_reducible refine (hsg _ _ (hy2.wid.ext ex_)).mono ?_); rintro e w2 ⟨rfl, hb2⟩; obtain ⟨_, _, ⟨hc2, hf2⟩, hz2⟩ := hb2.c3; (try simp only [wsz] at hz2 hc2 hf2))
     | (go_at_call 58; go_loud (with_reducible refine (t_addZ _ _ s (t' : Int) _ (hWidS.ext ex_) (hy2.wid.ext ex_) (okN.sz hok) hsx (okN.sz hok2)).mono ?_); rintro e w3 ⟨y3, rfl, hy3, hb3⟩; obtain ⟨s3, ao3, n3, cap3, rfl, hy4⟩ := hy3.open; obtain ⟨_, _, ⟨hc3, hf3⟩, hz3⟩ := hb3.c3; (try simp only [wsz] at hz3 hc3 hf3)))
    have hE3 : Ext w1 w3 := ex_
    have hS3 := hS1.ext hE3
    have hT3 := hT1.ext hE3
    have hY3 := hY1.ext hE3
    have hK3 := (BF.own _).ext _ _ _ hK1 hE3
    have hQ3 := (hE3.cells.1 Q 0 (by omega)).trans ((hf1.cell (Nat.lt_of_lt_of_le hQl hF.out.size) hQT hQK).trans hWQ.out)
    have hst := Bx2.store hS3.box hy4
    have hnS := hS3.noU
    have hnS2 := NoU.set (j := 0) (B' := w.heap.size) (x := .bool s3) hnS (fun z e => by cases e)
    have hgS : GB w.heap.size w3 ((w3.setCell ⟨w.heap.size, 0, none⟩ (.bool s3)).setCell ⟨w.heap.size, 1, none⟩ (.slice ao3 n3 cap3)) := ((GB.refl _ _).set _).set _
    replace hst : Hid _ := hst
    replace hA' : Hid _ := hA'
    have hT4 : Hid (WAt ((w3.setCell ⟨w.heap.size, 0, none⟩ (.bool s3)).setCell ⟨w.heap.size, 1, none⟩ (.slice ao3 n3 cap3)) T ((t' * y / 2 ^ p / ((k + 2 * i + 1) * (k + 2 * i + 2)) : Nat) : Int)) := WAt.other (WAt.other hT3 (Ne.symm hST) hnS) (Ne.symm hST) hnS2
    have hY4 : Hid (WAt ((w3.setCell ⟨w.heap.size, 0, none⟩ (.bool s3)).setCell ⟨w.heap.size, 1, none⟩ (.slice ao3 n3 cap3)) Y (y : Int)) := WAt.other (WAt.other hY3 hYS hnS) hYS hnS2
    have hK4 : Hid ((BF.own [.int .i64 ((k + 2 * (i + 1) : Nat) : Int)]).p K ((w3.setCell ⟨w.heap.size, 0, none⟩ (.bool s3)).setCell ⟨w.heap.size, 1, none⟩ (.slice ao3 n3 cap3))) := (BF.own _).gb _ _ _ _ hK3 hnS hgS (Ne.symm hSK)
    have hQ4 : Hid (World.cell? ((w3.setCell ⟨w.heap.size, 0, none⟩ (.bool s3)).setCell ⟨w.heap.size, 1, none⟩ (.slice ao3 n3 cap3)) ⟨Q, 0, none⟩ = some (.int .i64 p)) := (hgS.cell (by omega) (by omega)).trans hQ3
    have hF4 : Hid (Fr2 T K w ((w3.setCell ⟨w.heap.size, 0, none⟩ (.bool s3)).setCell ⟨w.heap.size, 1, none⟩ (.slice ao3 n3 cap3))) := (((hF.out.trans hf1).trans (Fr2.ext hE3)).new (Nat.le_refl _) _).new (Nat.le_refl _) _
    go_roundw
    case rel => exact ⟨i + 1, t' * y / 2 ^ p / ((k + 2 * i + 1) * (k + 2 * i + 2)), G', s + (t' : Int), by go_num, by go_num, by omega, hA', hSt2, hT4, hY4, hK4, hQ4, hst, hF4⟩
    case measure => simp [intOf]; omega
   ·have hevI : ((i : Int) % 2 == 0) = false := by simp; omega
    rw [if_neg hev] at hA'
    have hok2 := serF_ok hA'
    go_wp2_with (first
     | (go_at_call 178; go_loud (with_reducible refine (t_ser1 T Y Q K i t' y (k + 2 * i) p _ hWT.out hWY.out hWQ.out hWK.out hYT hQT hKT hSt hs2 hSy (by omega) hp0 hp).mono ?_); rintro e w1 ⟨y1, rfl, hy1, hT1, hK1, hf1, hkw⟩; obtain ⟨ao1, cap1, rfl, hy2⟩ := hy1.nat.open; have hS1 := hkw _ _ hST hSK hWS.out; have hY1 := hkw _ _ hYT hYK hWY.out; obtain ⟨aoS, capS, s0, s1, hWidS, hfS⟩ := hS1.open; have s1l := hS1.lt; have hzg := hf1.size)
     | (go_at_call 20; go_loud (with_reducible refine (hsg _ _ (hy2.wid.ext ex_)).mono ?_); rintro e w2 ⟨rfl, hb2⟩; obtain ⟨_, _, ⟨hc2, hf2⟩, hz2⟩ := hb2.c3; (try simp only [wsz] at hz2 hc2 hf2))
     | (go_at_call 57; go_loud (with_reducible refine (t_subZ _ _ s (t' : Int) _ (hWidS.ext ex_) (hy2.wid.ext ex_) (okN.sz hok) hsx (okN.sz hok2)).mono ?_); rintro e w3 ⟨y3, rfl, hy3, hb3⟩; obtain ⟨s3, ao3, n3, cap3, rfl, hy4⟩ := hy3.open; obtain ⟨_, _, ⟨hc3, hf3⟩, hz3⟩ := hb3.c3; (try simp only [wsz] at hz3 hc3 hf3)))
    have hE3 : Ext w1 w3 := ex_
    have hS3 := hS1.ext hE3
    have hT3 := hT1.ext hE3
    have hY3 := hY1.ext hE3
    have hK3 := (BF.own _).ext _ _ _ hK1 hE3
    have hQ3 := (hE3.cells.1 Q 0 (by omega)).trans ((hf1.cell (Nat.lt_of_lt_of_le hQl hF.out.size) hQT hQK).trans hWQ.out)
    have hst := Bx2.store hS3.box hy4
    have hnS := hS3.noU
    have hnS2 := NoU.set (j := 0) (B' := w.heap.size) (x := .bool s3) hnS (fun z e => by cases e)
    have hgS : GB w.heap.size w3 ((w3.setCell ⟨w.heap.size, 0, none⟩ (.bool s3)).setCell ⟨w.heap.size, 1, none⟩ (.slice ao3 n3 cap3)) := ((GB.refl _ _).set _).set _
    replace hst : Hid _ := hst
    replace hA' : Hid _ := hA'
    have hT4 : Hid (WAt ((w3.setCell ⟨w.heap.size, 0, none⟩ (.bool s3)).setCell ⟨w.heap.size, 1, none⟩ (.slice ao3 n3 cap3)) T ((t' * y / 2 ^ p / ((k + 2 * i + 1) * (k + 2 * i + 2)) : Nat) : Int)) := WAt.other (WAt.other hT3 (Ne.symm hST) hnS) (Ne.symm hST) hnS2
    have hY4 : Hid (WAt ((w3.setCell ⟨w.heap.size, 0, none⟩ (.bool s3)).setCell ⟨w.heap.size, 1, none⟩ (.slice ao3 n3 cap3)) Y (y : Int)) := WAt.other (WAt.other hY3 hYS hnS) hYS hnS2
    have hK4 : Hid ((BF.own [.int .i64 ((k + 2 * (i + 1) : Nat) : Int)]).p K ((w3.setCell ⟨w.heap.size, 0, none⟩ (.bool s3)).setCell ⟨w.heap.size, 1, none⟩ (.slice ao3 n3 cap3))) := (BF.own _).gb _ _ _ _ hK3 hnS hgS (Ne.symm hSK)
    have hQ4 : Hid (World.cell? ((w3.setCell ⟨w.heap.size, 0, none⟩ (.bool s3)).setCell ⟨w.heap.size, 1, none⟩ (.slice ao3 n3 cap3)) ⟨Q, 0, none⟩ = some (.int .i64 p)) := (hgS.cell (by omega) (by omega)).trans hQ3
    have hF4 : Hid (Fr2 T K w ((w3.setCell ⟨w.heap.size, 0, none⟩ (.bool s3)).setCell ⟨w.heap.size, 1, none⟩ (.slice ao3 n3 cap3))) := (((hF.out.trans hf1).trans (Fr2.ext hE3)).new (Nat.le_refl _) _).new (Nat.le_refl _) _
    go_roundw
    case rel => exact ⟨i + 1, t' * y / 2 ^ p / ((k + 2 * i + 1) * (k + 2 * i + 2)), G', s - (t' : Int), by go_num, by go_num, by omega, hA', hSt2, hT4, hY4, hK4, hQ4, hst, hF4⟩
    case measure => simp [intOf]; omega
theorem t_ser (vt : Value) (Y Q X t y k p F : Nat) (r v : Int) (cnt : Nat) (w : World) (ht : Wid w vt (t : Int)) (hY : WAt w Y (y : Int)) (hQ : w.cell? ⟨Q, 0, none⟩ = some (.int .i64 p)) (hX : w.cell? ⟨X, 2, none⟩ = some (.int .i64 r))
    (hs1 : t ≤ 2 ^ 1001) (hy : y ≤ 2 ^ p) (hk : k ≤ 1) (hp0 : 0 < p) (hp : p ≤ 1000) (hF : F ≤ 100000) (hcnt : cnt ≤ 100000) (hr0 : 0 ≤ r) (hr1 : r ≤ 1000000000000000) (hr : serF y p F 0 t k 0 = some (v, cnt)) :
    Calls Tryz.prog 177 #[vt, .int .i64 k, .pointer (some ⟨Y, 0, none⟩), .pointer (some ⟨Q, 0, none⟩), .pointer (some ⟨X, 0, none⟩)] w fun e w' => ∃ u, e = .returned u ∧ Ball w' u v (4 * (cnt : Int) + 4 + r) ∧ Ext w w' := by
 have hYl := hY.lt
 have hQl : Q < w.heap.size := World.block_lt_of_cell? w _ hQ
 have hXl : X < w.heap.size := World.block_lt_of_cell? w _ hX
 obtain ⟨s, ao, n, cap, rfl, htw⟩ := ht.open
 have e0 := (Ext.refl w).alloc (.cells #[.bool s, .slice ao n cap] 24)
 have e1 := (Ext.refl (w.alloc (.cells #[.bool s, .slice ao n cap] 24))).alloc (.cells #[.int .i64 k] 2)
 have e2 := (Ext.refl ((w.alloc (.cells #[.bool s, .slice ao n cap] 24)).alloc (.cells #[.int .i64 k] 2))).alloc (.cells #[.bool false, .slice none 0 0, .int .i64 0] 57)
 have hT : WAt (((w.alloc (.cells #[.bool s, .slice ao n cap] 24)).alloc (.cells #[.int .i64 k] 2)).alloc (.cells #[.bool false, .slice none 0 0, .int .i64 0] 57)) w.heap.size (t : Int) := (WAt.lit htw).ext (e1.trans e2)
 have hK : (BF.own [.int .i64 (k : Int)]).p (w.heap.size + 1) (((w.alloc (.cells #[.bool s, .slice ao n cap] 24)).alloc (.cells #[.int .i64 k] 2)).alloc (.cells #[.bool false, .slice none 0 0, .int .i64 0] 57)) := by
  have h := own_new (w.alloc (.cells #[.bool s, .slice ao n cap] 24)) [.int .i64 (k : Int)] 2 (by simp)
  rw [World.size_alloc] at h
  exact (BF.own _).ext _ _ _ h e2
 have hR : (BF.own [.bool false, .slice none 0 0, .int .i64 0]).p (w.heap.size + 1 + 1) (((w.alloc (.cells #[.bool s, .slice ao n cap] 24)).alloc (.cells #[.int .i64 k] 2)).alloc (.cells #[.bool false, .slice none 0 0, .int .i64 0] 57)) := by
  have h := own_new ((w.alloc (.cells #[.bool s, .slice ao n cap] 24)).alloc (.cells #[.int .i64 k] 2)) [.bool false, .slice none 0 0, .int .i64 0] 57 (by simp)
  rw [World.size_alloc, World.size_alloc] at h
  exact h
 have hE := e0.trans (e1.trans e2)
 have hY2 := hY.ext hE
 have hQ2 := (hE.cells.1 Q 0 hQl).trans hQ
 have hX2 := (hE.cells.1 X 2 hXl).trans hX
 have hmf : ∀ (fn : Fn) (first cap : Array Value) (w : World), (Instr.makeFunc fn first cap).run Tryz.prog w = .ok (.func fn first cap) w := fun _ _ _ _ => rfl
 have hsum := t_sumB w.heap.size Y Q (w.heap.size + 1) t y k p F v cnt _ hT hY2 hQ2 hK (by omega) (by omega) (by omega) (by omega) (by omega) hs1 hy hk hp0 hp hF hr
 clear ht htw e0 e1 e2 hT hK hY hQ hY2 hQ2 hr hs1 hy
 go_enter Tryz.func177, Tryz.ntmps177
 go_upto_region 2 with (go_at_call 120; (with_reducible refine hsum.mono ?_); rintro e w1 ⟨u1, rfl, hu1, hf1⟩; obtain ⟨s1, ao1, n1, cap1, rfl, hw1⟩ := hu1.open)
 have hR1 := hf1.own hR (by omega) (by omega)
 have hX1 := (hf1.cell (o := 2) c_6 (by omega) (by omega)).trans hX2
 have hE1 : Ext w w1 := Fr2.below hE hf1 (by omega) (by omega)
 have hsz1 : w.heap.size + 1 + 1 + 1 ≤ w1.heap.size := by have := hf1.size; simp at this; omega
 have hu2 := hw1.ext ((Ext.refl w1).alloc (.cells #[.bool s1, .slice ao1 n1 cap1] 24))
 have hR2 := (BF.own _).ext _ _ _ hR1 ((Ext.refl w1).alloc (.cells #[.bool s1, .slice ao1 n1 cap1] 24))
 have n0 := hR2.2.2.1
 have n1' := NoU.set (j := 0) (B' := w.heap.size + 1 + 1) (x := .bool s1) n0 (fun z e => by cases e)
 have n2' := NoU.set (j := 1) (B' := w.heap.size + 1 + 1) (x := .slice ao1 n1 cap1) n1' (fun z e => by cases e)
 have hwf := ((Wid.box (B := w.heap.size + 1 + 1) (j := 0) (x := .bool s1) hu2 n0).box (B := w.heap.size + 1 + 1) (j := 1) (x := .slice ao1 n1 cap1) n1').box (B := w.heap.size + 1 + 1) (j := 2) (x := .int .i64 (4 * (cnt : Int) + 4 + r)) n2'
 have r0 := hR1.1 0 _ rfl
 have r1 := hR1.1 1 _ rfl
 have r2 := hR1.1 2 _ rfl
 have rf := hR1.2.1
 have hEf : Ext w ((((w1.alloc (.cells #[.bool s1, .slice ao1 n1 cap1] 24)).setCell ⟨w.heap.size + 1 + 1, 0, none⟩ (.bool s1)).setCell ⟨w.heap.size + 1 + 1, 1, none⟩ (.slice ao1 n1 cap1)).setCell ⟨w.heap.size + 1 + 1, 2, none⟩ (.int .i64 (4 * (cnt : Int) + 4 + r))) := by
  refine (((hE1.alloc _).setCell ?_ _).setCell ?_ _).setCell ?_ _ <;> simp <;> omega
 have hwf' : Hid _ := hwf
 clear hu1 hw1 hf1 hR hR1 hR2 hE hX2 hsum hmf hu2 hwf n0 n1' n2'
 go_wp2_with fail
 refine bodyPost_ret (v := .agg #[.bool s1, .slice ao1 n1 cap1, .int .i64 (4 * (cnt : Int) + 4 + r)]) ?_ rfl ⟨_, rfl, ⟨_, _, rfl, hwf'.out⟩, hEf⟩
 simp [results, Tryz.results177, go_sem, ↓IntWalk.iteOmega, *]
end Go.Proofs.YtogblocakccbgaaGreat
