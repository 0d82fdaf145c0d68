/- flow.Step: its boxes. -/
import Derived.Test.YtbkgakgdbmjmjaaGreatP31
import Derived.Test.YtbkgakgdbmjmjaaGreatP32
set_option linter.unusedSimpArgs false
set_option linter.unusedVariables false
namespace Go.Proofs.YtbkgakgdbmjmjaaGreat
open Go.RowKit
theorem VB.fresh {w : World} {g : Nat} {l : List Int} (h : VB w g l) : Fresh w g (l.map (Value.int .i64)) := ⟨h.range, h.2.1, h.2.2⟩
theorem Fresh.vb {w : World} {g : Nat} {l : List Int} (h : Fresh w g (l.map (Value.int .i64))) : VB w g l :=
 ⟨fun j x hj => by have := h.1 j (.int .i64 x) (by simp [hj]); rwa [Nat.zero_add] at this, h.2.1, h.2.2⟩
theorem st_boxes (w : World) (ao : Option Addr) (m cap : Nat) (fr ti : Int) (p v : V3) (U : World) (hU : U = ((((((w.alloc (.cells #[.slice ao m cap] 24)).alloc (.cells #[.int .i64 fr] 2)).alloc (.cells #[.int .i64 ti] 2)).alloc (.cells #[.int .i64 p.a, .int .i64 p.b, .int .i64 p.c, .int .i64 p.d, .int .i64 p.e, .int .i64 p.f] 28)).alloc (.cells #[.int .i64 v.a, .int .i64 v.b, .int .i64 v.c, .int .i64 v.d, .int .i64 v.e, .int .i64 v.f] 28)).alloc (.cells (tvs Tu.O).toArray 65))) :
    Ext w U ∧ U.cell? ⟨w.heap.size, 0, none⟩ = some (.slice ao m cap) ∧ VB U (w.heap.size + 1) [fr] ∧ VB U (w.heap.size + 1 + 1) [ti] ∧ VB U (w.heap.size + 1 + 1 + 1) (six p) ∧ VB U (w.heap.size + 1 + 1 + 1 + 1) (six v) ∧ VB U (w.heap.size + 1 + 1 + 1 + 1 + 1) (tuL Tu.O) := by
 subst hU
 refine ⟨((((((Ext.refl w).alloc _).alloc _).alloc _).alloc _).alloc _).alloc _, ?_, ?_, ?_, ?_, ?_, ?_⟩
 ·have h : (w.alloc (.cells #[.slice ao m cap] 24)).cell? ⟨w.heap.size, 0, none⟩ = some (.slice ao m cap) := by simp [go_sem]
  have k : Ext (w.alloc (.cells #[.slice ao m cap] 24)) _ := (((((Ext.refl _).alloc (.cells #[.int .i64 fr] 2)).alloc (.cells #[.int .i64 ti] 2)).alloc (.cells #[.int .i64 p.a, .int .i64 p.b, .int .i64 p.c, .int .i64 p.d, .int .i64 p.e, .int .i64 p.f] 28)).alloc (.cells #[.int .i64 v.a, .int .i64 v.b, .int .i64 v.c, .int .i64 v.d, .int .i64 v.e, .int .i64 v.f] 28)).alloc (.cells (tvs Tu.O).toArray 65)
  exact (k.cells.1 _ _ (by simp)).trans h
 ·have h := (VB.lit (w.alloc (.cells #[.slice ao m cap] 24)) [fr] 2).ext (((((Ext.refl _).alloc (.cells #[.int .i64 ti] 2)).alloc (.cells #[.int .i64 p.a, .int .i64 p.b, .int .i64 p.c, .int .i64 p.d, .int .i64 p.e, .int .i64 p.f] 28)).alloc (.cells #[.int .i64 v.a, .int .i64 v.b, .int .i64 v.c, .int .i64 v.d, .int .i64 v.e, .int .i64 v.f] 28)).alloc (.cells (tvs Tu.O).toArray 65))
  rw [World.size_alloc] at h; exact h
 ·have h := (VB.lit ((w.alloc (.cells #[.slice ao m cap] 24)).alloc (.cells #[.int .i64 fr] 2)) [ti] 2).ext ((((Ext.refl _).alloc (.cells #[.int .i64 p.a, .int .i64 p.b, .int .i64 p.c, .int .i64 p.d, .int .i64 p.e, .int .i64 p.f] 28)).alloc (.cells #[.int .i64 v.a, .int .i64 v.b, .int .i64 v.c, .int .i64 v.d, .int .i64 v.e, .int .i64 v.f] 28)).alloc (.cells (tvs Tu.O).toArray 65))
  rw [World.size_alloc, World.size_alloc] at h; exact h
 ·have h := (VB.lit (((w.alloc (.cells #[.slice ao m cap] 24)).alloc (.cells #[.int .i64 fr] 2)).alloc (.cells #[.int .i64 ti] 2)) (six p) 28).ext (((Ext.refl _).alloc (.cells #[.int .i64 v.a, .int .i64 v.b, .int .i64 v.c, .int .i64 v.d, .int .i64 v.e, .int .i64 v.f] 28)).alloc (.cells (tvs Tu.O).toArray 65))
  rw [World.size_alloc, World.size_alloc, World.size_alloc] at h; exact h
 ·have h := (VB.lit ((((w.alloc (.cells #[.slice ao m cap] 24)).alloc (.cells #[.int .i64 fr] 2)).alloc (.cells #[.int .i64 ti] 2)).alloc (.cells #[.int .i64 p.a, .int .i64 p.b, .int .i64 p.c, .int .i64 p.d, .int .i64 p.e, .int .i64 p.f] 28)) (six v) 28).ext ((Ext.refl _).alloc (.cells (tvs Tu.O).toArray 65))
  rw [World.size_alloc, World.size_alloc, World.size_alloc, World.size_alloc] at h; exact h
 ·have h := VB.lit (((((w.alloc (.cells #[.slice ao m cap] 24)).alloc (.cells #[.int .i64 fr] 2)).alloc (.cells #[.int .i64 ti] 2)).alloc (.cells #[.int .i64 p.a, .int .i64 p.b, .int .i64 p.c, .int .i64 p.d, .int .i64 p.e, .int .i64 p.f] 28)).alloc (.cells #[.int .i64 v.a, .int .i64 v.b, .int .i64 v.c, .int .i64 v.d, .int .i64 v.e, .int .i64 v.f] 28)) (tuL Tu.O) 65
  rw [World.size_alloc, World.size_alloc, World.size_alloc, World.size_alloc, World.size_alloc] at h; exact h
theorem vs_two (w : World) (p v : V3) (t : TypeId) : Vs (w.alloc (.cells #[.int .i64 p.a, .int .i64 p.b, .int .i64 p.c, .int .i64 p.d, .int .i64 p.e, .int .i64 p.f, .int .i64 v.a, .int .i64 v.b, .int .i64 v.c, .int .i64 v.d, .int .i64 v.e, .int .i64 v.f] t)) (.slice (some ⟨w.heap.size, 0, none⟩) 2 2) [p, v] := by
 refine ⟨w.heap.size, 0, 2, rfl, by show 2 ≤ 200; omega, by simp, fun i hi => ?_⟩
 match i, hi with
 | 0, _ => simp [go_sem]
 | 1, _ => simp [go_sem]
theorem chV_I {f : Int → Int → Int → Int → R3} (hf : ∀ a b c d, (f a b c d).W) (E : Int) (a b : V3) : (chV f E a b).v.I := ⟨doI_W (hf ..), doI_W (hf ..), doI_W (hf ..)⟩
theorem plR_I (E x y : Int) (d : V3) : (plR E x y d).v.I := ⟨pzI_W .., pzI_W .., pzI_W ..⟩
theorem acN_I (p : V3) : ∀ (l : List SrcD) (A : V7), A.v.I → (acN p l A).v.I
 | [], _, h => h
 | s :: l, A, _ => acN_I p l (acS p s A) (chV_I addI_W _ _ _)
theorem acR_I (E : Int) (l : List BodyD) (fr ti : Int) (p : V3) : (acR E l fr ti p).v.I := by
 unfold acR
 split
 ·exact V3.O_I
 ·split
  ·exact V3.O_I
  ·exact acN_I p _ _ (plR_I ..)
structure StI (w : World) (n : Nat) (ao : Option Addr) (m cap : Nat) (fr ti dl dh : Int) (p v : V3) (D A : Nat) (U : World) : Prop where
 own : Ext w U
 eph : U.cell? ⟨n, 0, none⟩ = some (.slice ao m cap)
 bfr : VB U (n + 1) [fr]
 bti : VB U (n + 1 + 1) [ti]
 bp : VB U (n + 1 + 1 + 1) (six p)
 bv : VB U (n + 1 + 1 + 1 + 1) (six v)
 bd : VB U D [dl, dh]
 ba : VB U A [0, dh]
theorem StI.xb {w U W : World} {n m cap D A q T N : Nat} {ao : Option Addr} {fr ti dl dh : Int} {p v : V3} (h : StI w n ao m cap fr ti dl dh p v D A U) (k : Xb N q T U W) (hn : w.heap.size ≤ n) (hD : n + 1 + 1 + 1 + 1 < T) (hq : n + 1 + 1 + 1 + 1 < q) (dN : D < N) (aN : A < N) (nN : n + 1 + 1 + 1 + 1 < N) (d1 : D ≠ q) (d2 : D ≠ T) (a1 : A ≠ q) (a2 : A ≠ T) : StI w n ao m cap fr ti dl dh p v D A W :=
 ⟨k.own h.own (by omega) (by omega) (by omega), (k.cell (by omega) (by omega) (by omega)).trans h.eph, h.bfr.xb k (by omega) (by omega) (by omega), h.bti.xb k (by omega) (by omega) (by omega), h.bp.xb k (by omega) (by omega) (by omega), h.bv.xb k (by omega) (by omega) (by omega), h.bd.xb k dN d1 d2, h.ba.xb k aN a1 a2⟩
theorem Xb.gb {N q T : Nat} {a b c : World} (h : Xb N q T a b) (k : GB T b c) (hN : N ≤ a.heap.size) : Xb N q T a c :=
 h.trans ⟨k.os, k.tape, k.output, World.grownBy.size k, fun i hi h1 h2 => k.block i (by have := h.size; omega) (fun e => h2 (by cases e; rfl))⟩
theorem wd_wrap {a b c d : Int} (h : ckI a b = 0) (k : ckI c d = 0) : wrap64 (max b d - min a c) = max b d - min a c ∧ wrap64 (1024 + (max b d - min a c) / 8) = 1024 + (max b d - min a c) / 8 ∧ wrap64 (min a c - (1024 + (max b d - min a c) / 8)) = wdL a b c d ∧ wrap64 (max b d + (1024 + (max b d - min a c) / 8)) = wdH a b c d := by
 obtain ⟨h1, h2, h3⟩ := ckI_ok h
 obtain ⟨k1, k2, k3⟩ := ckI_ok k
 have hm : -2305843009213693952 ≤ min a c ∧ min a c ≤ 2305843009213693952 := by omega
 have hM : -2305843009213693952 ≤ max b d ∧ max b d ≤ 2305843009213693952 := by omega
 have hle : min a c ≤ max b d := by omega
 unfold wdL wdH
 refine ⟨w64_in (by omega), w64_in (by omega), w64_in (by omega), w64_in (by omega)⟩
end Go.Proofs.YtbkgakgdbmjmjaaGreat
