/- force: boxes that a call writes. -/
import Derived.Test.YtbkgakgdbmjmjaaGreatP23
set_option linter.unusedSimpArgs false
set_option linter.unusedVariables false
set_option maxRecDepth 100000
set_option maxHeartbeats 4000000
namespace Go.Proofs.YtbkgakgdbmjmjaaGreat
open Go.RowKit
structure Xb (n p q : Nat) (w w' : World) : Prop where
 os : w'.os = w.os
 tape : w'.tape = w.tape
 output : w'.output = w.output
 size : w.heap.size ≤ w'.heap.size
 block : ∀ k, k < n → k ≠ p → k ≠ q → w'.heap[k]? = w.heap[k]?
theorem Xb.refl (n p q : Nat) (w : World) : Xb n p q w w := ⟨rfl, rfl, rfl, Nat.le_refl _, fun _ _ _ _ => rfl⟩
theorem Xb.trans {n p q : Nat} {a b c : World} (h : Xb n p q a b) (k : Xb n p q b c) : Xb n p q a c :=
 ⟨k.os.trans h.os, k.tape.trans h.tape, k.output.trans h.output, Nat.le_trans h.size k.size, fun i hi h1 h2 => (k.block i hi h1 h2).trans (h.block i hi h1 h2)⟩
theorem Xb.of {n p q : Nat} {a b : World} (h : Ext a b) (hn : n ≤ a.heap.size) : Xb n p q a b := ⟨h.os, h.tape, h.output, h.size, fun k hk _ _ => h.block k (by omega)⟩
theorem Xb.ext {n p q : Nat} {a b c : World} (h : Xb n p q a b) (k : Ext b c) (hn : n ≤ a.heap.size) : Xb n p q a c := h.trans (Xb.of k (Nat.le_trans hn h.size))
theorem Xb.set {n p q : Nat} {a b : World} (h : Xb n p q a b) (x : Addr) (hx : x.block = p ∨ x.block = q ∨ n ≤ x.block) (v : Value) : Xb n p q a (b.setCell x v) :=
 h.trans ⟨rfl, rfl, rfl, by simp, fun k hk h1 h2 => Below.heap_setCell _ _ _ _ (fun e => by rcases hx with h | h | h <;> omega)⟩
theorem Xb.cell {n p q : Nat} {a b : World} (h : Xb n p q a b) {k o : Nat} (hk : k < n) (h1 : k ≠ p) (h2 : k ≠ q) : b.cell? ⟨k, o, none⟩ = a.cell? ⟨k, o, none⟩ := World.cell?_of_block (h.block k hk h1 h2)
theorem Xb.frozen {n p q : Nat} {a b : World} (h : Xb n p q a b) {k o : Nat} (hk : k < n) (h1 : k ≠ p) (h2 : k ≠ q) : b.frozen? ⟨k, o, none⟩ = a.frozen? ⟨k, o, none⟩ := World.frozen?_of_block (h.block k hk h1 h2)
theorem Xb.v6 {n p q : Nat} {a b : World} (h : Xb n p q a b) {g : Nat} {v : V3} (hg : V6 a g v) (hk : g < n) (h1 : g ≠ p) (h2 : g ≠ q) : V6 b g v := by
 obtain ⟨c0, c1, c2, c3, c4, c5, c6, c7⟩ := hg
 exact ⟨(h.cell hk h1 h2).trans c0, (h.cell hk h1 h2).trans c1, (h.cell hk h1 h2).trans c2, (h.cell hk h1 h2).trans c3, (h.cell hk h1 h2).trans c4, (h.cell hk h1 h2).trans c5, fun o => (h.frozen hk h1 h2).trans (c6 o), Nat.lt_of_lt_of_le c7 h.size⟩
theorem Xb.own {n p q : Nat} {a b w : World} (h : Xb n p q a b) (k : Ext w a) (hp : w.heap.size ≤ p) (hq : w.heap.size ≤ q) (hn : w.heap.size ≤ n) : Ext w b :=
 ⟨h.os.trans k.os, h.tape.trans k.tape, h.output.trans k.output, Nat.le_trans k.size h.size, fun i hi => (h.block i (by omega) (by omega) (by omega)).trans (k.block i hi)⟩
def Bad (w : World) (g : Nat) (E : Int) : Prop := w.cell? ⟨g, 0, none⟩ = some (.bool (nz E)) ∧ w.frozen? ⟨g, 0, none⟩ = false
theorem T_AC2_1 {p : Prop} (h : p := by
 rw [e]
 exact ⟨by simp [go_sem, ↓IntWalk.iteOmega, hPA, zP], by simp only [World.frozen?_setCell]; exact zF⟩) : p := h
theorem f_more (P A : Nat) (E x y : Int) (d a : V3) (w : World) (hc : Bad w P E) (hP : P < w.heap.size) (hA : V6 w A a) (hPA : P ≠ A) (hx : I64 x ∧ I64 y) (kd : d.I) :
    Calls Tryz.prog 47 #[.agg #[.int .i64 x, .int .i64 y], .agg #[.int .i64 d.a, .int .i64 d.b, .int .i64 d.c, .int .i64 d.d, .int .i64 d.e, .int .i64 d.f], .pointer (some ⟨P, 0, none⟩), .pointer (some ⟨A, 0, none⟩)] w fun e w' => (∃ v, e = .returned v) ∧
      Bad w' P (chV addI (plR E x y d).e a (plR E x y d).v).e ∧ V6 w' A (chV addI (plR E x y d).e a (plR E x y d).v).v ∧ Xb w.heap.size P A w w' := by
 have hAl := hA.2.2.2.2.2.2.2
 have hp := fun w1 (h : Bad w1 P E) => f_pull P E x y d w1 h.1 h.2 hx kd
 change ∀ w1, Bad w1 P E → Calls Tryz.prog 45 _ w1 fun e w' => e = .returned (.agg #[.int .i64 (plR E x y d).v.a, .int .i64 (plR E x y d).v.b, .int .i64 (plR E x y d).v.c, .int .i64 (plR E x y d).v.d, .int .i64 (plR E x y d).v.e, .int .i64 (plR E x y d).v.f]) ∧ Ext (w1.setCell ⟨P, 0, none⟩ (.bool (nz (plR E x y d).e))) w' at hp
 generalize plR E x y d = R at *
 obtain ⟨⟨r0, r1, r2, r3, r4, r5⟩, F0⟩ := R
 obtain ⟨a0, a1, a2, a3, a4, a5⟩ := a
 dsimp only at hp
 have hch : chV addI F0 ⟨a0, a1, a2, a3, a4, a5⟩ ⟨r0, r1, r2, r3, r4, r5⟩ = ⟨⟨(doI F0 (addI a0 a1 r0 r1)).lo, (doI F0 (addI a0 a1 r0 r1)).hi, (doI (doI F0 (addI a0 a1 r0 r1)).e (addI a2 a3 r2 r3)).lo, (doI (doI F0 (addI a0 a1 r0 r1)).e (addI a2 a3 r2 r3)).hi, (doI (doI (doI F0 (addI a0 a1 r0 r1)).e (addI a2 a3 r2 r3)).e (addI a4 a5 r4 r5)).lo, (doI (doI (doI F0 (addI a0 a1 r0 r1)).e (addI a2 a3 r2 r3)).e (addI a4 a5 r4 r5)).hi⟩, (doI (doI (doI F0 (addI a0 a1 r0 r1)).e (addI a2 a3 r2 r3)).e (addI a4 a5 r4 r5)).e⟩ := rfl
 try dsimp only
 rw [hch]
 have ad0 := fun w1 (h : Bad w1 P F0) => f_add P F0 a0 a1 r0 r1 w1 h.1 h.2
 have ad1 := fun E w1 (h : Bad w1 P E) => f_add P E a2 a3 r2 r3 w1 h.1 h.2
 have ad2 := fun E w1 (h : Bad w1 P E) => f_add P E a4 a5 r4 r5 w1 h.1 h.2
 generalize doI F0 (addI a0 a1 r0 r1) = Q0 at *
 obtain ⟨q0, q1, F1⟩ := Q0
 try dsimp only at ad0 ad1 ad2 ⊢
 replace ad1 := ad1 F1
 generalize doI F1 (addI a2 a3 r2 r3) = Q1 at *
 obtain ⟨q2, q3, F2⟩ := Q1
 try dsimp only at ad1 ad2 ⊢
 replace ad2 := ad2 F2
 generalize doI F2 (addI a4 a5 r4 r5) = Q2 at *
 obtain ⟨q4, q5, F3⟩ := Q2
 try dsimp only at ad2 ⊢
 clear hch
 have ix0 : ∀ w, (Instr.index 28 (.agg #[.int .i64 r0, .int .i64 r1, .int .i64 r2, .int .i64 r3, .int .i64 r4, .int .i64 r5]) (.int .i64 0)).run Tryz.prog w = .ok (.agg #[.int .i64 r0, .int .i64 r1]) w := fun _ => by kernel_rfl
 have ix1 : ∀ w, (Instr.index 28 (.agg #[.int .i64 r0, .int .i64 r1, .int .i64 r2, .int .i64 r3, .int .i64 r4, .int .i64 r5]) (.int .i64 1)).run Tryz.prog w = .ok (.agg #[.int .i64 r2, .int .i64 r3]) w := fun _ => by kernel_rfl
 have ix2 : ∀ w, (Instr.index 28 (.agg #[.int .i64 r0, .int .i64 r1, .int .i64 r2, .int .i64 r3, .int .i64 r4, .int .i64 r5]) (.int .i64 2)).run Tryz.prog w = .ok (.agg #[.int .i64 r4, .int .i64 r5]) w := fun _ => by kernel_rfl
 go_enter Tryz.func47, Tryz.ntmps47
 obtain ⟨h1, h2⟩ := id hc
 have hB4 : Bad ((w.alloc (.cells #[.int .i64 x, .int .i64 y] 26)).alloc (.cells #[.int .i64 d.a, .int .i64 d.b, .int .i64 d.c, .int .i64 d.d, .int .i64 d.e, .int .i64 d.f] 28)) P E := ⟨by simp [go_sem, ↓IntWalk.iteOmega, h1, Nat.ne_of_lt hP], by simp [go_sem, ↓IntWalk.iteOmega, h2, Nat.ne_of_lt hP]⟩
 go_wp2_with (go_at_call 45; (with_reducible refine (hp _ hB4).mono ?_); rintro e w4 ⟨rfl, hb4⟩)
 have hz0 : w.heap.size + 2 ≤ w4.heap.size := by have := hb4.size; simpa using this
 have hX0 : Xb w.heap.size P A w w4 := ((((Xb.refl _ _ _ w).ext ((Ext.refl w).alloc _) (Nat.le_refl _)).ext ((Ext.refl _).alloc _) (Nat.le_refl _)).set ⟨P, 0, none⟩ (.inl rfl) _).ext hb4 (Nat.le_refl _)
 have hA0 : V6 w4 A ⟨a0, a1, a2, a3, a4, a5⟩ := (((hA.ext ((Ext.refl w).alloc _)).ext ((Ext.refl _).alloc _)).other (Ne.symm hPA) _).ext hb4
 have hB0 : Bad w4 P F0 := ⟨(hb4.cells.1 P 0 c_46).trans (by simp [go_sem, ↓IntWalk.iteOmega, hB4.1]), (hb4.cells.2 P 0 c_46).trans (by rw [World.frozen?_setCell]; exact hB4.2)⟩
 clear hp hB4 hb4 h1 h2 hA hc
 refine wp_loop_rounds 4 ?_
 rw [rounds_succ]
 go_upto_region 4 with fail
 refine wp_name fun V hV0 => ?_
 obtain ⟨T, hT⟩ : ∃ T, w4.heap.size = T := ⟨_, rfl⟩
 have t0 : V.cell? ⟨T, 0, none⟩ = some (.int .i64 r0) := by have e : V = _ := hV0; rw [e, ← hT]; simp [go_sem, ↓IntWalk.iteOmega]
 have t1 : V.cell? ⟨T, 1, none⟩ = some (.int .i64 r1) := by have e : V = _ := hV0; rw [e, ← hT]; simp [go_sem, ↓IntWalk.iteOmega]
 have eV : Ext w4 V := Ext.same hV0 ((Ext.refl _).alloc _)
 have vV := hA0.ext eV
 have bV : Bad V P F0 := ⟨(eV.cells.1 P 0 (by omega)).trans hB0.1, (eV.cells.2 P 0 (by omega)).trans hB0.2⟩
 have xV := hX0.ext eV (Nat.le_refl _)
 have sV := eV.size
 have tT : T < V.heap.size := World.block_lt_of_cell? V _ t0
 have nTP : T ≠ P := by omega
 have bVd : Bad V.drew P F0 := bV
 have t0d : V.drew.cell? ⟨T, 0, none⟩ = some (.int .i64 r0) := t0
 have t1d : V.drew.cell? ⟨T, 1, none⟩ = some (.int .i64 r1) := t1
 try rw [hT]
 clear hV0
 refine wp_region_till (S := (fun w0 => V6 w0 A ⟨a0, a1, a2, a3, a4, a5⟩ ∧ w0.cell? ⟨T, 0, none⟩ = some (.int .i64 r0) ∧ w0.cell? ⟨T, 1, none⟩ = some (.int .i64 r1))) (fun i => decide (i = 7)) c_16 ?_ (fun hH => ?_)
 ·exact ⟨vV, t0, t1⟩
 try simp only [sx_]
 refine tp 0 rfl c_0 ?_
 try simp only [sx_]
 refine tp 1 rfl c_0 ?_
 try simp only [sx_]
 refine tp 2 rfl c_0 ?_
 try simp only [sx_]
 refine tb 3 rfl c_25 ?_
 try simp only [sx_]
 refine tb 4 rfl c_25 ?_
 try simp only [sx_]
 refine rb (i := 5) rfl fun K hK => ?_
 go_simp
 (go_at_call 48; (with_reducible refine (ad0 V.drew bVd).mono ?_); rintro e z1 ⟨rfl, hz1⟩)
 have vz := (V6.other (w := V.drew) vV (B := P) (j := 0) (Ne.symm hPA) (.bool (nz F1))).ext (b := z1) hz1
 have uz0 : z1.cell? ⟨T, 0, none⟩ = some (.int .i64 r0) := (hz1.cells.1 T 0 (by simpa using tT)).trans (by rw [cell_sc, if_neg (fun h => nTP c_37)]; exact t0d)
 have uz1 : z1.cell? ⟨T, 1, none⟩ = some (.int .i64 r1) := (hz1.cells.1 T 1 (by simpa using tT)).trans (by rw [cell_sc, if_neg (fun h => nTP c_37)]; exact t1d)
 refine hK.out _ _ ?_ fun _ => ?_
 ·(try dsimp only); exact ⟨vz, uz0, uz1⟩
 clear hK K hH
 rename_i hH
 try simp only [sx_]
 refine tp 6 rfl c_0 ?_
 try simp only [sx_]
 refine rl (i := 7) rfl fun K hK => ?_
 obtain ⟨c0, c1, c2, c3, c4, c5, cf, cl⟩ := id vz
 dsimp only at c0 c1 c2 c3 c4 c5
 go_simp
 refine hK.out _ _ trivial (fun _ => ?_)
 clear hK K
 try simp only [sx_]
 refine wpAnyH_done c_16 ?_ _
 go_wp2_with fail
 refine wp_name fun X1 hY0 => ?_
 have hA1 : V6 X1 A ⟨q0, q1, a2, a3, a4, a5⟩ := by have e : X1 = _ := hY0; rw [e]; exact (vz.s0 _).s1 _
 have zP : z1.cell? ⟨P, 0, none⟩ = some (.bool (nz F1)) := (hz1.cells.1 P 0 c_46).trans (by rw [cell_sc, if_pos rfl, bVd.1]; rfl)
 have zF : z1.frozen? ⟨P, 0, none⟩ = false := (hz1.cells.2 P 0 c_46).trans (by rw [World.frozen?_setCell]; exact bVd.2)
 have hB1 : Bad X1 P F1 := by
  have e : X1 = _ := hY0
  exact T_AC2_1
 have hX1 : Xb w.heap.size P A w X1 := by
  have e : X1 = _ := hY0
  rw [e]
  exact ((Xb.ext (b := V.drew.setCell ⟨P, 0, none⟩ (.bool (nz F1))) (Xb.set (b := V.drew) ⟨xV.os, xV.tape, xV.output, xV.size, xV.block⟩ ⟨P, 0, none⟩ (.inl rfl) _) hz1 (Nat.le_refl _)).set ⟨A, 0, none⟩ (.inr (.inl rfl)) _).set ⟨A, 1, none⟩ (.inr (.inl rfl)) _
 have hz1x := hX1.size
 clear hY0 zP zF hz1 vz uz0 uz1 bVd t0d t1d t0 t1 vV bV xV eV sV tT nTP hA0 hB0 hX0 ad0 hH hT
 go_upto_region 4 with fail
 refine wp_name fun V hV0 => ?_
 obtain ⟨T, hT⟩ : ∃ T, X1.heap.size = T := ⟨_, rfl⟩
 have t0 : V.cell? ⟨T, 0, none⟩ = some (.int .i64 r2) := by have e : V = _ := hV0; rw [e, ← hT]; simp [go_sem, ↓IntWalk.iteOmega]
 have t1 : V.cell? ⟨T, 1, none⟩ = some (.int .i64 r3) := by have e : V = _ := hV0; rw [e, ← hT]; simp [go_sem, ↓IntWalk.iteOmega]
 have eV : Ext X1 V := Ext.same hV0 ((Ext.refl _).alloc _)
 have vV := hA1.ext eV
 have bV : Bad V P F1 := ⟨(eV.cells.1 P 0 (by omega)).trans hB1.1, (eV.cells.2 P 0 (by omega)).trans hB1.2⟩
 have xV := hX1.ext eV (Nat.le_refl _)
 have sV := eV.size
 have tT : T < V.heap.size := World.block_lt_of_cell? V _ t0
 have nTP : T ≠ P := by omega
 have bVd : Bad V.drew P F1 := bV
 have t0d : V.drew.cell? ⟨T, 0, none⟩ = some (.int .i64 r2) := t0
 have t1d : V.drew.cell? ⟨T, 1, none⟩ = some (.int .i64 r3) := t1
 try rw [hT]
 clear hV0
 refine wp_region_till (S := (fun w0 => V6 w0 A ⟨q0, q1, a2, a3, a4, a5⟩ ∧ w0.cell? ⟨T, 0, none⟩ = some (.int .i64 r2) ∧ w0.cell? ⟨T, 1, none⟩ = some (.int .i64 r3))) (fun i => decide (i = 7)) c_16 ?_ (fun hH => ?_)
 ·exact ⟨vV, t0, t1⟩
 try simp only [sx_]
 refine tp 0 rfl c_0 ?_
 try simp only [sx_]
 refine tp 1 rfl c_0 ?_
 try simp only [sx_]
 refine tp 2 rfl c_0 ?_
 try simp only [sx_]
 refine tb 3 rfl c_25 ?_
 try simp only [sx_]
 refine tb 4 rfl c_25 ?_
 try simp only [sx_]
 refine rb (i := 5) rfl fun K hK => ?_
 go_simp
 (go_at_call 48; (with_reducible refine (ad1 V.drew bVd).mono ?_); rintro e z1 ⟨rfl, hz1⟩)
 have vz := (V6.other (w := V.drew) vV (B := P) (j := 0) (Ne.symm hPA) (.bool (nz F2))).ext (b := z1) hz1
 have uz0 : z1.cell? ⟨T, 0, none⟩ = some (.int .i64 r2) := (hz1.cells.1 T 0 (by simpa using tT)).trans (by rw [cell_sc, if_neg (fun h => nTP c_37)]; exact t0d)
 have uz1 : z1.cell? ⟨T, 1, none⟩ = some (.int .i64 r3) := (hz1.cells.1 T 1 (by simpa using tT)).trans (by rw [cell_sc, if_neg (fun h => nTP c_37)]; exact t1d)
 refine hK.out _ _ ?_ fun _ => ?_
 ·(try dsimp only); exact ⟨vz, uz0, uz1⟩
 clear hK K hH
 rename_i hH
 try simp only [sx_]
 refine tp 6 rfl c_0 ?_
 try simp only [sx_]
 refine rl (i := 7) rfl fun K hK => ?_
 obtain ⟨c0, c1, c2, c3, c4, c5, cf, cl⟩ := id vz
 dsimp only at c0 c1 c2 c3 c4 c5
 go_simp
 refine hK.out _ _ trivial (fun _ => ?_)
 clear hK K
 try simp only [sx_]
 refine wpAnyH_done c_16 ?_ _
 go_wp2_with fail
 refine wp_name fun X2 hY0 => ?_
 have hA2 : V6 X2 A ⟨q0, q1, q2, q3, a4, a5⟩ := by have e : X2 = _ := hY0; rw [e]; exact (vz.s2 _).s3 _
 have zP : z1.cell? ⟨P, 0, none⟩ = some (.bool (nz F2)) := (hz1.cells.1 P 0 c_46).trans (by rw [cell_sc, if_pos rfl, bVd.1]; rfl)
 have zF : z1.frozen? ⟨P, 0, none⟩ = false := (hz1.cells.2 P 0 c_46).trans (by rw [World.frozen?_setCell]; exact bVd.2)
 have hB2 : Bad X2 P F2 := by
  have e : X2 = _ := hY0
  exact T_AC2_1
 have hX2 : Xb w.heap.size P A w X2 := by
  have e : X2 = _ := hY0
  rw [e]
  exact ((Xb.ext (b := V.drew.setCell ⟨P, 0, none⟩ (.bool (nz F2))) (Xb.set (b := V.drew) ⟨xV.os, xV.tape, xV.output, xV.size, xV.block⟩ ⟨P, 0, none⟩ (.inl rfl) _) hz1 (Nat.le_refl _)).set ⟨A, 2, none⟩ (.inr (.inl rfl)) _).set ⟨A, 3, none⟩ (.inr (.inl rfl)) _
 have hz2x := hX2.size
 clear hY0 zP zF hz1 vz uz0 uz1 bVd t0d t1d t0 t1 vV bV xV eV sV tT nTP hA1 hB1 hX1 ad1 hH hT
 go_upto_region 4 with fail
 refine wp_name fun V hV0 => ?_
 obtain ⟨T, hT⟩ : ∃ T, X2.heap.size = T := ⟨_, rfl⟩
 have t0 : V.cell? ⟨T, 0, none⟩ = some (.int .i64 r4) := by have e : V = _ := hV0; rw [e, ← hT]; simp [go_sem, ↓IntWalk.iteOmega]
 have t1 : V.cell? ⟨T, 1, none⟩ = some (.int .i64 r5) := by have e : V = _ := hV0; rw [e, ← hT]; simp [go_sem, ↓IntWalk.iteOmega]
 have eV : Ext X2 V := Ext.same hV0 ((Ext.refl _).alloc _)
 have vV := hA2.ext eV
 have bV : Bad V P F2 := ⟨(eV.cells.1 P 0 (by omega)).trans hB2.1, (eV.cells.2 P 0 (by omega)).trans hB2.2⟩
 have xV := hX2.ext eV (Nat.le_refl _)
 have sV := eV.size
 have tT : T < V.heap.size := World.block_lt_of_cell? V _ t0
 have nTP : T ≠ P := by omega
 have bVd : Bad V.drew P F2 := bV
 have t0d : V.drew.cell? ⟨T, 0, none⟩ = some (.int .i64 r4) := t0
 have t1d : V.drew.cell? ⟨T, 1, none⟩ = some (.int .i64 r5) := t1
 try rw [hT]
 clear hV0
 refine wp_region_till (S := (fun w0 => V6 w0 A ⟨q0, q1, q2, q3, a4, a5⟩ ∧ w0.cell? ⟨T, 0, none⟩ = some (.int .i64 r4) ∧ w0.cell? ⟨T, 1, none⟩ = some (.int .i64 r5))) (fun i => decide (i = 7)) c_16 ?_ (fun hH => ?_)
 ·exact ⟨vV, t0, t1⟩
 try simp only [sx_]
 refine tp 0 rfl c_0 ?_
 try simp only [sx_]
 refine tp 1 rfl c_0 ?_
 try simp only [sx_]
 refine tp 2 rfl c_0 ?_
 try simp only [sx_]
 refine tb 3 rfl c_25 ?_
 try simp only [sx_]
 refine tb 4 rfl c_25 ?_
 try simp only [sx_]
 refine rb (i := 5) rfl fun K hK => ?_
 go_simp
 (go_at_call 48; (with_reducible refine (ad2 V.drew bVd).mono ?_); rintro e z1 ⟨rfl, hz1⟩)
 have vz := (V6.other (w := V.drew) vV (B := P) (j := 0) (Ne.symm hPA) (.bool (nz F3))).ext (b := z1) hz1
 have uz0 : z1.cell? ⟨T, 0, none⟩ = some (.int .i64 r4) := (hz1.cells.1 T 0 (by simpa using tT)).trans (by rw [cell_sc, if_neg (fun h => nTP c_37)]; exact t0d)
 have uz1 : z1.cell? ⟨T, 1, none⟩ = some (.int .i64 r5) := (hz1.cells.1 T 1 (by simpa using tT)).trans (by rw [cell_sc, if_neg (fun h => nTP c_37)]; exact t1d)
 refine hK.out _ _ ?_ fun _ => ?_
 ·(try dsimp only); exact ⟨vz, uz0, uz1⟩
 clear hK K hH
 rename_i hH
 try simp only [sx_]
 refine tp 6 rfl c_0 ?_
 try simp only [sx_]
 refine rl (i := 7) rfl fun K hK => ?_
 obtain ⟨c0, c1, c2, c3, c4, c5, cf, cl⟩ := id vz
 dsimp only at c0 c1 c2 c3 c4 c5
 go_simp
 refine hK.out _ _ trivial (fun _ => ?_)
 clear hK K
 try simp only [sx_]
 refine wpAnyH_done c_16 ?_ _
 go_wp2_with fail
 refine wp_name fun X3 hY0 => ?_
 have hA3 : V6 X3 A ⟨q0, q1, q2, q3, q4, q5⟩ := by have e : X3 = _ := hY0; rw [e]; exact (vz.s4 _).s5 _
 have zP : z1.cell? ⟨P, 0, none⟩ = some (.bool (nz F3)) := (hz1.cells.1 P 0 c_46).trans (by rw [cell_sc, if_pos rfl, bVd.1]; rfl)
 have zF : z1.frozen? ⟨P, 0, none⟩ = false := (hz1.cells.2 P 0 c_46).trans (by rw [World.frozen?_setCell]; exact bVd.2)
 have hB3 : Bad X3 P F3 := by
  have e : X3 = _ := hY0
  exact T_AC2_1
 have hX3 : Xb w.heap.size P A w X3 := by
  have e : X3 = _ := hY0
  rw [e]
  exact ((Xb.ext (b := V.drew.setCell ⟨P, 0, none⟩ (.bool (nz F3))) (Xb.set (b := V.drew) ⟨xV.os, xV.tape, xV.output, xV.size, xV.block⟩ ⟨P, 0, none⟩ (.inl rfl) _) hz1 (Nat.le_refl _)).set ⟨A, 4, none⟩ (.inr (.inl rfl)) _).set ⟨A, 5, none⟩ (.inr (.inl rfl)) _
 have hz3x := hX3.size
 clear hY0 zP zF hz1 vz uz0 uz1 bVd t0d t1d t0 t1 vV bV xV eV sV tT nTP hA2 hB2 hX2 ad2 hH hT
 go_wp2_with fail
 go_end0
 exact ⟨⟨_, rfl⟩, hB3, hA3, hX3⟩
end Go.Proofs.YtbkgakgdbmjmjaaGreat
namespace Go.Proofs.YtbkgakgdbmjmjaaGreat
open Go.RowKit Go.Shelf
attribute [local go_sem] Oper.semAt_some
abbrev DH (l : List BodyD) := { j : Nat // j < l.length ∧ (bd l j).gm ≠ 0 }
def selH (l : List BodyD) : Nat → List (DH l)
 | 0 => []
 | k + 1 => if h : k < l.length ∧ (bd l k).gm ≠ 0 then selH l k ++ [⟨k, h⟩] else selH l k
theorem selH_len (l : List BodyD) : ∀ k, (selH l k).length ≤ k
 | 0 => Nat.le_refl _
 | k + 1 => by
  unfold selH
  split
  ·have := selH_len l k; simp; omega
  ·have := selH_len l k; omega
theorem Ext.grown0 {A B : World} (h : Ext A B) : A.grownBy B none := ⟨h.os, h.tape, h.output, h.size, fun k hk _ => h.block k hk⟩
theorem gmX_in {b : BodyD} (h0 : 0 ≤ b.gm) (h1 : b.gm ≤ 1152921504606846976) : Fb (gmX b) 62 ∧ -2097152 ≤ (gmX b).num / ((gmX b).den : Int) ∧ (gmX b).num / ((gmX b).den : Int) ≤ 2097151 := by
  unfold gmX
  refine ⟨fb_mk (by decide) (by have : b.gm.natAbs ≤ 1152921504606846976 := by omega
                                exact Nat.lt_of_le_of_lt this (by decide)) (by decide), ?_⟩
  have := (mk_fl b.gm (d := 1000000000000000000) (by decide)).1
  rw [this]
  omega
theorem heavy1_in (n : Nat) (hn : 1 ≤ n) (lr B0 n₁ : Nat) (v : Value) (l : List BodyD) (w0 : World) (hw0 : w0.heap.size = n₁) (hB : Bds w0 v l) (hE : CkE l 0)
    (J Jx : List (DH l) → World → Prop) (W : World) (hJ : AbidesFrom W.heap.size J)
    (hY : ∀ pre (x : DH l) W1, J pre W1 → pre.length < l.length → YieldAt Fence.wide (n - 1) Tryz.prog lr #[.int .i64 (x.1 : Int), .agg #[.int .i64 (ofLo (gmX (bd l x.1))), .int .i64 (ofHi (gmX (bd l x.1)))]] W1 fun e W' =>
      (e = .returned (.bool true) ∧ J (pre ++ [x]) W' ∧ K2 n₁ B0 W1 W') ∨ (e = .returned (.bool false) ∧ Jx (pre ++ [x]) W'))
    (hEx : Ext w0 W) (c0 : W.cell? ⟨B0, 0, none⟩ = some v) (h0 : J [] W) :
    CallsIn Fence.wide n Tryz.prog 129 #[.func (.yield lr) #[] #[], .pointer (some ⟨B0, 0, none⟩)] W fun e W' => (∃ v, e = .returned v) ∧
      ((∃ ys, ys = selH l l.length ∧ J ys W') ∨ (∃ pre, (∃ k, k < l.length ∧ (bd l k).gm ≠ 0 ∧ pre = selH l (k + 1)) ∧ Jx pre W')) := by
 have q0 : B0 < W.heap.size := World.block_lt_of_cell? W _ c0
 obtain ⟨hnm, hok⟩ := hE.zero rfl
 have hl12 : l.length ≤ 12 := by
  rcases Nat.lt_or_ge 12 l.length with h | h
  ·exact absurd (Or.inl h) hnm
  ·exact h
 have hgm := fun i (hi : i < l.length) w1 (k : Ext w0 w1) => p_Gm v l i w1 (hB.ext k) hE hi
 obtain ⟨ao, bb, oo, cap, rfl, ha, hlc, hcap⟩ := hB.len
 refine callsIn_of_wp Tryz.func129 rfl trivial ?_ rfl
 simp only [Tryz.ntmps129, List.size_toArray, List.length_cons, List.length_nil, Nat.reduceAdd, Nat.reduceSub, Array.replicate_succ, Array.replicate_zero, List.push_toArray, List.append_toArray, List.nil_append, List.cons_append]
 gi_wp2
 gi_loopw [12] (fun i wr => ∃ k : Nat, k ≤ l.length ∧ i = .int .i64 (k : Int) ∧ J (selH l k) wr ∧ K2 n₁ B0 W wr)
  (fun i _ => l.length - (intOf i).toNat)
 case atStart => exact ⟨0, Nat.zero_le _, rfl, h0, K2.refl _ _ _⟩
 case round =>
  obtain ⟨k, hk, hi, hJs, hX⟩ := hrel
  have hi2 : _ = Value.int .i64 (k : Int) := hi
  clear hi
  subst hi2
  by_cases hkl : k = l.length
  ·subst hkl
   gi_wp2
   go_end0
   exact ⟨⟨_, rfl⟩, .inl ⟨_, rfl, hJs⟩⟩
  ·have hkn : k < l.length := by omega
   have hEr : Ext w0 wr := Below.trans hEx (by rw [hw0]; exact hX.1)
   have hab := ha (by omega)
   subst hab
   obtain ⟨hb1, vs, ⟨d0, d1, d2, d3⟩, hns, hg1, hr1, hss⟩ := (hB.ext hEr).at (i := k) hkn
   obtain ⟨sao, sb, so, scap, rfl, -⟩ := hss.len
   have k0 := hX.2.trans c0
   have hwr : W.heap.size ≤ wr.heap.size := hX.1.size
   have hn1 : n₁ ≤ wr.heap.size := by rw [← hw0]; exact hEr.size
   have hbd := hok.1 k hkn
   obtain ⟨gx1, gx2, gx3⟩ := gmX_in hbd.2.1 hbd.2.2.1
   have hgk := fun w1 (k' : Ext wr w1) => hgm k hkn w1 (hEr.trans k')
   have hof := fun w1 u (h : Fr w1 u (gmX (bd l k))) => z_SOf u _ 62 w1 h gx1 (by omega) gx2 gx3
   have hKA : ∀ w1, Ext wr w1 → K2 n₁ B0 wr w1 := fun w1 h => ⟨h.mono hn1, h.cells.1 B0 0 (by omega)⟩
   have hJA : ∀ w1, Ext wr w1 → J (selH l k) w1 := fun w1 h => hJ _ _ _ none hJs h.grown0 (fun r e => by cases e)
   have hsel1 : selH l (k + 1) = if h : k < l.length ∧ (bd l k).gm ≠ 0 then selH l k ++ [⟨k, h⟩] else selH l k := rfl
   by_cases hin : (bd l k).gm = 0
   ·rw [dif_neg (fun h => h.2 hin)] at hsel1
    clear hY
    obtain ⟨nm, hnm⟩ : ∃ z, (bd l k).name = z := ⟨_, rfl⟩
    obtain ⟨rad, hrad⟩ : ∃ z, (bd l k).rad = z := ⟨_, rfl⟩
    obtain ⟨sl, hsl⟩ : ∃ z, (bd l k).segs.length = z := ⟨_, rfl⟩
    rw [hin] at d1
    rw [hnm] at d0
    rw [hrad] at d2
    rw [hsl] at d3
    generalize ofLo (gmX (bd l k)) = G0 at *
    generalize ofHi (gmX (bd l k)) = G1 at *
    gi_wp2_with (first
     | (refine ⟨trivial, ?_⟩; gi_at_call 130; (with_reducible refine (callsIn_wide.2 (hgk _ ex_)).mono ?_); rintro e w4 ⟨u4, rfl, hn4, hb4⟩; obtain ⟨s4, ao4, l4, cap4, bo4, lb4, cb4, rfl⟩ := hn4.shape; obtain ⟨_, _, ⟨hc4, hf4⟩, hz4⟩ := hb4.c3; (try simp only [wsz] at hz4 hc4 hf4))
     | (refine ⟨trivial, ?_⟩; gi_at_call 94; (with_reducible refine (callsIn_wide.2 (hof _ _ (hn4.ext ((Ext.refl _).alloc _)))).mono ?_); rintro e w6 ⟨rfl, hb6⟩; obtain ⟨_, _, ⟨hc6, hf6⟩, hz6⟩ := hb6.c3; (try simp only [wsz] at hz6 hc6 hf6)))
    refine ⟨fun _ h => (by cases h), ?_⟩
    gi_wp2
    go_roundw
    case rel => exact ⟨k + 1, by omega, (by congr 1), (by rw [hsel1]; exact hJA _ ex_), hX.trans (hKA _ ex_)⟩
    case measure => first | (simp [intOf]; done) | (simp [intOf]; omega)
   ·rw [dif_pos ⟨hkn, hin⟩] at hsel1
    have hYY := fun W1 (h : Ext wr W1) => hY _ ⟨k, hkn, hin⟩ W1 (hJA W1 h) (by have := selH_len l k; omega)
    clear hY
    have hJn := hJA
    obtain ⟨nm, hnm⟩ : ∃ z, (bd l k).name = z := ⟨_, rfl⟩
    obtain ⟨rad, hrad⟩ : ∃ z, (bd l k).rad = z := ⟨_, rfl⟩
    obtain ⟨gm, hgmv⟩ : ∃ z, (bd l k).gm = z := ⟨_, rfl⟩
    obtain ⟨sl, hsl⟩ : ∃ z, (bd l k).segs.length = z := ⟨_, rfl⟩
    have hin2 : ¬ gm = 0 := by rw [← hgmv]; exact hin
    rw [hgmv] at d1
    rw [hnm] at d0
    rw [hrad] at d2
    rw [hsl] at d3
    dsimp only at hYY
    generalize ofLo (gmX (bd l k)) = G0 at *
    generalize ofHi (gmX (bd l k)) = G1 at *
    clear hgmv
    gi_wp2_with (first
     | (refine ⟨trivial, ?_⟩; gi_at_call 130; (with_reducible refine (callsIn_wide.2 (hgk _ ex_)).mono ?_); rintro e w4 ⟨u4, rfl, hn4, hb4⟩; obtain ⟨s4, ao4, l4, cap4, bo4, lb4, cb4, rfl⟩ := hn4.shape; obtain ⟨_, _, ⟨hc4, hf4⟩, hz4⟩ := hb4.c3; (try simp only [wsz] at hz4 hc4 hf4))
     | (refine ⟨trivial, ?_⟩; gi_at_call 94; (with_reducible refine (callsIn_wide.2 (hof _ _ (hn4.ext ((Ext.refl _).alloc _)))).mono ?_); rintro e w6 ⟨rfl, hb6⟩; obtain ⟨_, _, ⟨hc6, hf6⟩, hz6⟩ := hb6.c3; (try simp only [wsz] at hz6 hc6 hf6); obtain ⟨fn, tmps, assign, body, hy, hR⟩ := hYY (w6.alloc (.cells #[.int .i64 G0, .int .i64 G1] 26)) ex_))
    refine hR.mono ?_
    have hKn := hKA (w6.alloc (.cells #[.int .i64 G0, .int .i64 G1] 26)) ex_
    rintro e W3 (⟨rfl, hJ3, hk3⟩ | ⟨rfl, hJx3⟩)
    ·gi_wp2
     go_roundw
     case rel => exact ⟨k + 1, by omega, (by congr 1), (by rw [hsel1]; exact hJ3), (hX.trans hKn).trans hk3⟩
     case measure => first | (simp [intOf]; done) | (simp [intOf]; omega)
    ·gi_wp2
     refine bodyPost_ret (results_none rfl _ _ _) rfl ?_
     exact ⟨⟨_, rfl⟩, .inr ⟨_, ⟨k, hkn, hin, by rw [hsel1]⟩, hJx3⟩⟩
end Go.Proofs.YtbkgakgdbmjmjaaGreat
namespace Go.Proofs.YtbkgakgdbmjmjaaGreat
open Go.RowKit
def srD (l : List BodyD) (fr ti : Int) (x : DH l) : SrcD := srcO (bd l x.1) fr ti
theorem srN_sel {l : List BodyD} {fr ti : Int} : ∀ k, k ≤ l.length → (∀ x ∈ selH l k, (oeR (bd l x.1) fr ti).e = 0) → srN l fr ti k = ((selH l k).map (srD l fr ti), 0)
 | 0, _, _ => rfl
 | k + 1, hk, h => by
  unfold selH at h ⊢
  unfold srN
  by_cases hg : (bd l k).gm = 0
  ·rw [dif_neg (fun c => c.2 hg)] at h ⊢
   rw [srN_sel k (by omega) h]
   simp [hg]
  ·rw [dif_pos ⟨by omega, hg⟩] at h ⊢
   rw [srN_sel k (by omega) (fun x hx => h x (List.mem_append_left _ hx))]
   have he := h ⟨k, by omega, hg⟩ (by simp)
   dsimp only at he
   simp [hg, he, srD]
theorem srN_err {l : List BodyD} {fr ti : Int} {k : Nat} (h : (srN l fr ti k).2 ≠ 0) : ∀ m, srN l fr ti (k + m) = srN l fr ti k
 | 0 => rfl
 | m + 1 => by
  have ih := srN_err h m
  have e : srN l fr ti (k + m + 1) = srN l fr ti (k + m) := by rw [srN, if_pos (by rw [ih]; exact h)]
  exact e.trans ih
theorem srN_stop {l : List BodyD} {fr ti : Int} {k : Nat} (hk : k < l.length) (h : ∀ x ∈ selH l k, (oeR (bd l x.1) fr ti).e = 0) (hg : (bd l k).gm ≠ 0) (he : (oeR (bd l k) fr ti).e ≠ 0) : srN l fr ti l.length = ([], (oeR (bd l k) fr ti).e) := by
 have h1 : srN l fr ti (k + 1) = ([], (oeR (bd l k) fr ti).e) := by
  unfold srN
  rw [srN_sel k (by omega) h]
  simp [hg, he]
 have h2 := srN_err (l := l) (fr := fr) (ti := ti) (k := k + 1) (by rw [h1]; exact he) (l.length - (k + 1))
 rw [show k + 1 + (l.length - (k + 1)) = l.length by omega] at h2
 rw [h2, h1]
def srV (s : SrcD) : List Value := [.int .i64 s.x, .int .i64 s.y, .int .i64 s.v.a, .int .i64 s.v.b, .int .i64 s.v.c, .int .i64 s.v.d, .int .i64 s.v.e, .int .i64 s.v.f]
def Srs (w : World) (v : Value) (ls : List SrcD) : Prop := ∃ ao b o cap, v = .slice ao ls.length cap ∧ (0 < ls.length → ao = some ⟨b, o, none⟩) ∧ ls.length ≤ cap ∧ cap ≤ 9223372036854775807 ∧ (0 < ls.length → b < w.heap.size) ∧
 ∀ i, (hi : i < ls.length) → ∀ j, (hj : j < 8) → w.cell? ⟨b, o + i * 8 + j, none⟩ = (srV ls[i])[j]?
theorem Srs.ext {a w : World} {v : Value} {ls : List SrcD} (h : Srs a v ls) (k : Ext a w) : Srs w v ls := by
 obtain ⟨ao, b, o, cap, e, h1, h2, h3, h4, h5⟩ := h
 exact ⟨ao, b, o, cap, e, h1, h2, h3, fun h => Nat.lt_of_lt_of_le (h4 h) k.size, fun i hi j hj => (k.cells.1 b _ (h4 (by omega))).trans (h5 i hi j hj)⟩
theorem Srs.nil (w : World) : Srs w (.slice none 0 0) [] := ⟨none, 0, 0, 0, rfl, fun h => absurd h (by decide), Nat.le_refl _, by decide, fun h => absurd h (by decide), fun i hi => absurd hi (by simp)⟩
theorem flat_at {f : SrcD → List Value} (hf : ∀ s, (f s).length = 8) : ∀ (ls : List SrcD) (i : Nat) (hi : i < ls.length) (j : Nat), j < 8 → (ls.flatMap f)[i * 8 + j]? = (f ls[i])[j]?
 | [], i, hi, _, _ => absurd hi (by simp)
 | s :: ls, 0, _, j, hj => by
  rw [List.flatMap_cons, List.getElem?_append_left (by rw [hf]; omega)]
  simp
 | s :: ls, i + 1, hi, j, hj => by
  rw [List.flatMap_cons, List.getElem?_append_right (by rw [hf]; omega), hf]
  have := flat_at hf ls i (by simpa using hi) j hj
  rw [show (i + 1) * 8 + j - 8 = i * 8 + j by omega, this]
  simp
theorem ownsRow_srs {W : World} {base : Nat} {v : Value} {ls : List SrcD} (h : W.ownsRow base 106 8 v ls.length (ls.flatMap srV)) : Srs W v ls := by
 rcases h.2 with ⟨rfl, h0⟩ | ⟨g, cap, cur, rfl, hb, hg, h1, h2, h3, h4⟩
 ·have : ls = [] := List.length_eq_zero_iff.1 h0
  subst this
  exact Srs.nil W
 ·have hlt := (Array.getElem?_eq_some_iff.1 hg).1
  refine ⟨some ⟨g, 0, none⟩, g, 0, cap, rfl, fun _ => rfl, h1, ?_, fun _ => hlt, fun i hi j hj => ?_⟩
  ·exact h2
  ·have e := flat_at (f := srV) (fun s => rfl) ls i hi j hj
   rw [← e, ← h4, List.getElem?_take_of_lt (by omega)]
   simp [World.cell?, hg]
theorem ownsRow_slice {W : World} {base : Nat} {e : TypeId} {size : Nat} {v : Value} {n : Nat} {xs : List Value} (h : W.ownsRow base e size v n xs) : ∃ ao m cap, v = .slice ao m cap := by
 rcases h.2 with ⟨rfl, _⟩ | ⟨g, cap, _, rfl, _⟩
 ·exact ⟨_, _, _, rfl⟩
 ·exact ⟨_, _, _, rfl⟩
end Go.Proofs.YtbkgakgdbmjmjaaGreat
