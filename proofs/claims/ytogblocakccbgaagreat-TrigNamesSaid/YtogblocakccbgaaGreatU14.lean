/- trig: floor. -/
import Derived.Test.YtogblocakccbgaaGreatU13
set_option linter.unusedSimpArgs false
set_option linter.unusedVariables false
set_option maxRecDepth 100000
set_option maxHeartbeats 4000000
namespace Go.Proofs.YtogblocakccbgaaGreat
open Go.RowKit
def BxO (w : World) (g o : Nat) : Prop := (∃ a, w.cell? ⟨g, o, none⟩ = some a) ∧ (∃ a, w.cell? ⟨g, o + 1, none⟩ = some a) ∧ (∀ o, w.frozen? ⟨g, o, none⟩ = false) ∧ NoU w g ∧ g < w.heap.size
theorem BxO.ext {g o : Nat} {a b : World} (h : BxO a g o) (k : Ext a b) : BxO b g o := by
 obtain ⟨⟨x, h1⟩, ⟨y, h2⟩, h4, h5, h6⟩ := h
 exact ⟨⟨x, (k.cells.1 g o h6).trans h1⟩, ⟨y, (k.cells.1 g (o + 1) h6).trans h2⟩, fun o => (k.cells.2 g o h6).trans (h4 o), h5.ext h6 k, Nat.lt_of_lt_of_le h6 k.size⟩
theorem BxO.set {w : World} {g o j : Nat} {v : Value} (h : BxO w g o) (hx : ∀ z, v ≠ .int .u32 z) : BxO (w.setCell ⟨g, j, none⟩ v) g o := by
 obtain ⟨⟨x, h1⟩, ⟨y, h2⟩, h4, h5, h6⟩ := h
 have some' : ∀ o a, w.cell? ⟨g, o, none⟩ = some a → ∃ c, (w.setCell ⟨g, j, none⟩ v).cell? ⟨g, o, none⟩ = some c := fun o a ha => by
  rw [cell_sc]
  split
  ·rename_i e
   have : o = j := by have := congrArg Addr.off e; simpa using this
   subst this
   rw [ha]; exact ⟨v, rfl⟩
  ·exact ⟨a, ha⟩
 exact ⟨some' o x h1, some' (o + 1) y h2, fun o => by rw [World.frozen?_setCell]; exact h4 o, h5.set hx, by simpa using h6⟩
def C2 (w : World) (g : Nat) (a b : Value) : Prop := w.cell? ⟨g, 0, none⟩ = some a ∧ w.cell? ⟨g, 1, none⟩ = some b ∧ g < w.heap.size
theorem C2.ext {g : Nat} {a b : World} {x y : Value} (h : C2 a g x y) (k : Ext a b) : C2 b g x y :=
 ⟨(k.cells.1 g 0 h.2.2).trans h.1, (k.cells.1 g 1 h.2.2).trans h.2.1, Nat.lt_of_lt_of_le h.2.2 k.size⟩
theorem t_floor120 (vb : Value) (x r q : Int) (w : World) (hb0 : Ball w vb x r) (hr0 : 0 ≤ r) (hr1 : r ≤ 1000000000000) (hk0 : okN x = true) (hk1 : okN (x + -r) = true) (hk2 : okN (x + r) = true) (hq1 : (x + -r) / 2 ^ 80 = q) (hq2 : (x + r) / 2 ^ 80 = q) (hq3 : 0 ≤ q ∧ q ≤ 9000000000000000000) :
    Calls Tryz.prog 66 #[vb, .int .i64 120] w fun e w' => e = .returned (.tuple #[.int .i64 q, .bool true]) ∧ Ext w w' := by
 obtain ⟨sb, aob, nb, capb, rfl, hWx⟩ := hb0.open
 have hsz0 : Sz (-r) := dig_bits (k := 64) (L := 4096) (by omega) (by decide)
 have hsz1 : Sz r := dig_bits (k := 64) (L := 4096) (by omega) (by decide)
 have hszq : Sz q := dig_bits (k := 64) (L := 4096) (by omega) (by decide)
 have hsh0 : ∀ v w2, Wid w2 v (x + -r) → Calls Tryz.prog 118 #[v, .int .i64 (-80)] w2 fun e w' => ∃ u, e = .returned u ∧ Wid w' u q ∧ Ext w2 w' := fun v w2 hv => by
  have := t_shiftD v (x + -r) 80 w2 hv (okN.sz hk1) (by decide) (by decide)
  rw [hq1] at this; exact this
 have hsh1 : ∀ v w2, Wid w2 v (x + r) → Calls Tryz.prog 118 #[v, .int .i64 (-80)] w2 fun e w' => ∃ u, e = .returned u ∧ Wid w' u q ∧ Ext w2 w' := fun v w2 hv => by
  have := t_shiftD v (x + r) 80 w2 hv (okN.sz hk2) (by decide) (by decide)
  rw [hq2] at this; exact this
 clear hq1 hq2
 have hwk : Hid (IntKind.i64.wrap (-80) = -80) := by show _ = _; rw [IntKind.wrap_i64]; rfl
 have i0 : ∀ w, (Instr.index 168 (.agg #[.int .i64 (-r), .int .i64 r]) (.int .i64 0)).run Tryz.prog w = .ok (.int .i64 (-r)) w := fun _ => by kernel_rfl
 have i1 : ∀ w, (Instr.index 168 (.agg #[.int .i64 (-r), .int .i64 r]) (.int .i64 1)).run Tryz.prog w = .ok (.int .i64 r) w := fun _ => by kernel_rfl
 go_enter Tryz.func66, Tryz.ntmps66
 go_wp2_with fail
 refine wp_loop_rounds 3 ?_
 rw [rounds_succ]
 go_upto_region 5 with fail
 obtain ⟨U, hU⟩ : ∃ U, (w.alloc (.cells #[.bool sb, .slice aob nb capb, .int .i64 r] 57)).alloc (.cells #[.bool false, .slice none 0 0, .bool false, .slice none 0 0] 49) = U := ⟨_, rfl⟩
 rw [hU]
 have hGU : GB (w.heap.size + 1) w U := GB.ext (by rw [← hU]; exact ((Ext.refl w).alloc _).alloc _)
 have b0 : U.cell? ⟨w.heap.size, 0, none⟩ = some (.bool sb) := by rw [← hU]; simp [go_sem, ↓IntWalk.iteOmega]
 have b1 : U.cell? ⟨w.heap.size, 1, none⟩ = some (.slice aob nb capb) := by rw [← hU]; simp [go_sem, ↓IntWalk.iteOmega]
 have hl0 : U.cell? ⟨w.heap.size + 1, 0, none⟩ = some (.bool false) := by rw [← hU]; simp [go_sem, ↓IntWalk.iteOmega]
 have hl1 : U.cell? ⟨w.heap.size + 1, 1, none⟩ = some (.slice none 0 0) := by rw [← hU]; simp [go_sem, ↓IntWalk.iteOmega]
 have hl2 : U.cell? ⟨w.heap.size + 1, 2, none⟩ = some (.bool false) := by rw [← hU]; simp [go_sem, ↓IntWalk.iteOmega]
 have hl3 : U.cell? ⟨w.heap.size + 1, 3, none⟩ = some (.slice none 0 0) := by rw [← hU]; simp [go_sem, ↓IntWalk.iteOmega]
 have hUs : U.heap.size = w.heap.size + 1 + 1 := by rw [← hU]; simp
 have hbl : w.heap.size < U.heap.size := by omega
 have hUn : NoU U (w.heap.size + 1) := by
  have := NoU.new (w.alloc (.cells #[.bool sb, .slice aob nb capb, .int .i64 r] 57)) #[.bool false, .slice none 0 0, .bool false, .slice none 0 0] 49 (noU4 (by simp) (by simp) (by simp) (by simp))
  rw [← hU]; simpa using this
 have hUf : ∀ o, U.frozen? ⟨w.heap.size + 1, o, none⟩ = false := fun o => by rw [← hU]; simp [go_sem, ↓IntWalk.iteOmega]
 replace hWx := hWx.ext (show Ext w U by rw [← hU]; exact ((Ext.refl w).alloc _).alloc _)
 have hL : Bx2 U (w.heap.size + 1) := ⟨⟨_, hl0⟩, ⟨_, hl1⟩, hUf, hUn, by omega⟩
 have hL2 : BxO U (w.heap.size + 1) 2 := ⟨⟨_, hl2⟩, ⟨_, hl3⟩, hUf, hUn, by omega⟩
 clear hU hUn hUf hl0 hl1 hl2 hl3
 replace hL2 := hL2.ext ((Ext.refl U).drew)
 replace hL := hL.ext ((Ext.refl U).drew)
 replace hWx := hWx.ext ((Ext.refl U).drew)
 refine wp_region_held_drew (S := (fun w0 => GB (w.heap.size + 1) U w0)) c_2 ?_ (fun hH => ?_)
 ·exact (GB.refl _ _).drew
 try simp only [sx_]
 refine sK 0 ?_
 refine sK 1 ?_
 refine tk 2 rfl c_14 ?_
 try simp only [sx_]
 refine sK 3 ?_
 refine sK 6 ?_
 refine sK 7 ?_
 refine rh1 4 rfl fun K hK => ?_
 go_simp
 (go_at_call 28; (with_reducible refine (t_numZ (-r) _ (by omega) (by omega)).mono ?_); rintro e w1 ⟨y1, rfl, hf1, hx⟩)
 replace hWx := hWx.ext hx
 replace hL := hL.ext hx
 replace hL2 := hL2.ext hx
 refine hK.out _ _ ?_ fun _ => ?_
 ·exact b_12
 clear hK K hH
 rename_i hH
 try simp only [sx_]
 refine rh1 5 rfl fun K hK => ?_
 go_simp
 (go_at_call 58; (with_reducible refine (t_addZ _ _ x (-r) _ hWx hf1 (okN.sz hk0) hsz0 (okN.sz hk1)).mono ?_); rintro e w2 ⟨y2, rfl, hf2, hx⟩)
 replace hWx := hWx.ext hx
 replace hL := hL.ext hx
 replace hL2 := hL2.ext hx
 replace hf1 := hf1.ext hx
 refine hK.out _ _ ?_ fun _ => ?_
 ·exact b_12
 clear hK K hH
 rename_i hH
 try simp only [sx_]
 refine rh1 8 rfl fun K hK => ?_
 go_simp
 rw [hwk.out]
 (go_at_call 118; (with_reducible refine (hsh0 _ _ hf2).mono ?_); rintro e w3 ⟨y3, rfl, hf3, hx⟩)
 replace hWx := hWx.ext hx
 replace hL := hL.ext hx
 replace hL2 := hL2.ext hx
 replace hf1 := hf1.ext hx
 replace hf2 := hf2.ext hx
 obtain ⟨y9, rfl, hf9⟩ := hf3
 obtain ⟨ao5, _, _, cap5, rfl, -⟩ := hf9.view
 have hf4 : Wid w3 (.agg #[.bool (decide (q < 0)), .slice ao5 (dig q.natAbs).length cap5]) q := ⟨_, rfl, hf9⟩
 clear hf9
 refine hK.out _ _ ?_ fun _ => ?_
 ·exact b_12
 clear hK K hH
 rename_i hH
 try simp only [sx_]
 refine sK 9 ?_
 refine rh1 10 rfl fun K hK => ?_
 obtain ⟨⟨xa, h3a⟩, ⟨xb, h3b⟩, h3f, hnu, hsl⟩ := hL
 go_simp
 refine hK.out _ _ ?_ fun _ => ?_
 ·exact b_13
 clear hK K hH
 rename_i hH
 try simp only [sx_]
 refine wpAnyH_done c_2 ?_ _
 have hLn0 := NoU.set (j := 0) (B' := w.heap.size + 1) (x := .bool (decide (q < 0))) hnu (fun z e => by cases e)
 have hLn := NoU.set (j := 1) (B' := w.heap.size + 1) (x := .slice ao5 (dig q.natAbs).length cap5) hLn0 (fun z e => by cases e)
 have hV0 := (Wid.box (j := 0) (x := .bool (decide (q < 0))) hf4 hnu).box (j := 1) (x := .slice ao5 (dig q.natAbs).length cap5) hLn0
 have hWx2 := (Wid.box (j := 0) (x := .bool (decide (q < 0))) hWx hnu).box (j := 1) (x := .slice ao5 (dig q.natAbs).length cap5) hLn0
 obtain ⟨U1, hU1⟩ : ∃ U1, (w3.setCell ⟨w.heap.size + 1, 0, none⟩ (.bool (decide (q < 0)))).setCell ⟨w.heap.size + 1, 1, none⟩ (.slice ao5 (dig q.natAbs).length cap5) = U1 := ⟨_, rfl⟩
 have e0 : U1.cell? ⟨w.heap.size + 1, 0, none⟩ = some (.bool (decide (q < 0))) := by rw [← hU1]; simp [go_sem, ↓IntWalk.iteOmega, h3a]
 have e1 : U1.cell? ⟨w.heap.size + 1, 1, none⟩ = some (.slice ao5 (dig q.natAbs).length cap5) := by rw [← hU1]; simp [go_sem, ↓IntWalk.iteOmega, h3b]
 have hL2 := BxO.set (BxO.set (j := 0) (v := .bool (decide (q < 0))) hL2 (fun z e => by cases e)) (j := 1) (v := .slice ao5 (dig q.natAbs).length cap5) (fun z e => by cases e)
 have hs1 : U1.heap.size = w3.heap.size := by rw [← hU1]; simp
 rw [hU1] at hLn hV0 hWx2 hH hL2 ⊢
 have b0' := (GB.cell (o := 0) hH hbl (by omega)).trans b0
 have b1' := (GB.cell (o := 1) hH hbl (by omega)).trans b1
 have hUU : GB (w.heap.size + 1) w U1 := hGU.trans hH
 have hsU : w.heap.size + 1 + 1 ≤ U1.heap.size := by have := hH.size; omega
 clear hU1 hH hWx hLn0 h3a h3b h3f hnu hsl b0 b1 hGU
 go_wp2_with fail
 rw [rounds_succ]
 go_upto_region 5 with fail
 have hbl1 : w.heap.size < U1.heap.size := by omega
 have hL1 : C2 U1 (w.heap.size + 1) (.bool (decide (q < 0))) (.slice ao5 (dig q.natAbs).length cap5) := ⟨e0, e1, by omega⟩
 replace hL2 := hL2.ext ((Ext.refl U1).drew)
 replace hL1 := hL1.ext ((Ext.refl U1).drew)
 replace hWx2 := hWx2.ext ((Ext.refl U1).drew)
 replace hV0 := hV0.ext ((Ext.refl U1).drew)
 refine wp_region_held_drew (S := (fun w0 => GB (w.heap.size + 1) U1 w0)) c_2 ?_ (fun hH => ?_)
 ·exact (GB.refl _ _).drew
 try simp only [sx_]
 refine sK 0 ?_
 refine sK 1 ?_
 refine tk 2 rfl c_12 ?_
 try simp only [sx_]
 refine sK 3 ?_
 refine sK 6 ?_
 refine sK 7 ?_
 refine rh1 4 rfl fun K hK => ?_
 go_simp
 (go_at_call 28; (with_reducible refine (t_numZ r _ (by omega) (by omega)).mono ?_); rintro e w1 ⟨y1, rfl, hf1, hx⟩)
 replace hWx2 := hWx2.ext hx
 replace hL2 := hL2.ext hx
 replace hV0 := hV0.ext hx
 replace hL1 := hL1.ext hx
 refine hK.out _ _ ?_ fun _ => ?_
 ·exact b_12
 clear hK K hH
 rename_i hH
 try simp only [sx_]
 refine rh1 5 rfl fun K hK => ?_
 go_simp
 (go_at_call 58; (with_reducible refine (t_addZ _ _ x r _ hWx2 hf1 (okN.sz hk0) hsz1 (okN.sz hk2)).mono ?_); rintro e w2 ⟨y2, rfl, hf2, hx⟩)
 replace hWx2 := hWx2.ext hx
 replace hL2 := hL2.ext hx
 replace hV0 := hV0.ext hx
 replace hL1 := hL1.ext hx
 replace hf1 := hf1.ext hx
 refine hK.out _ _ ?_ fun _ => ?_
 ·exact b_12
 clear hK K hH
 rename_i hH
 try simp only [sx_]
 refine rh1 8 rfl fun K hK => ?_
 go_simp
 rw [hwk.out]
 (go_at_call 118; (with_reducible refine (hsh1 _ _ hf2).mono ?_); rintro e w3 ⟨y3, rfl, hf3, hx⟩)
 replace hWx2 := hWx2.ext hx
 replace hL2 := hL2.ext hx
 replace hV0 := hV0.ext hx
 replace hL1 := hL1.ext hx
 replace hf1 := hf1.ext hx
 replace hf2 := hf2.ext hx
 obtain ⟨y9, rfl, hf9⟩ := hf3
 obtain ⟨ao6, _, _, cap6, rfl, -⟩ := hf9.view
 have hf4 : Wid w3 (.agg #[.bool (decide (q < 0)), .slice ao6 (dig q.natAbs).length cap6]) q := ⟨_, rfl, hf9⟩
 clear hf9
 refine hK.out _ _ ?_ fun _ => ?_
 ·exact b_12
 clear hK K hH
 rename_i hH
 try simp only [sx_]
 refine sK 9 ?_
 refine rh1 10 rfl fun K hK => ?_
 obtain ⟨⟨xa, h3a⟩, ⟨xb, h3b⟩, h3f, hnu, hsl⟩ := hL2
 go_simp
 refine hK.out _ _ ?_ fun _ => ?_
 ·exact b_13
 clear hK K hH
 rename_i hH
 try simp only [sx_]
 refine wpAnyH_done c_2 ?_ _
 have hLn0 := NoU.set (j := 2) (B' := w.heap.size + 1) (x := .bool (decide (q < 0))) hnu (fun z e => by cases e)
 have hV1 := (Wid.box (j := 2) (x := .bool (decide (q < 0))) hf4 hnu).box (j := 3) (x := .slice ao6 (dig q.natAbs).length cap6) hLn0
 have hV2 := (Wid.box (j := 2) (x := .bool (decide (q < 0))) hV0 hnu).box (j := 3) (x := .slice ao6 (dig q.natAbs).length cap6) hLn0
 obtain ⟨X2, hX2⟩ : ∃ X2, (w3.setCell ⟨w.heap.size + 1, 2, none⟩ (.bool (decide (q < 0)))).setCell ⟨w.heap.size + 1, 3, none⟩ (.slice ao6 (dig q.natAbs).length cap6) = X2 := ⟨_, rfl⟩
 have f0 : X2.cell? ⟨w.heap.size + 1, 0, none⟩ = some (.bool (decide (q < 0))) := by rw [← hX2]; simp [go_sem, ↓IntWalk.iteOmega, hL1.1]
 have f1 : X2.cell? ⟨w.heap.size + 1, 1, none⟩ = some (.slice ao5 (dig q.natAbs).length cap5) := by rw [← hX2]; simp [go_sem, ↓IntWalk.iteOmega, hL1.2.1]
 have f2 : X2.cell? ⟨w.heap.size + 1, 2, none⟩ = some (.bool (decide (q < 0))) := by rw [← hX2]; simp [go_sem, ↓IntWalk.iteOmega, h3a]
 have f3 : X2.cell? ⟨w.heap.size + 1, 3, none⟩ = some (.slice ao6 (dig q.natAbs).length cap6) := by rw [← hX2]; simp [go_sem, ↓IntWalk.iteOmega, h3b]
 rw [hX2] at hV1 hV2 hH ⊢
 have hE2 : Ext w X2 := (hUU.trans hH).out (by omega)
 have hsX : w.heap.size + 1 + 1 ≤ X2.heap.size := by have := hH.size; omega
 have hcm := z_Cmp _ _ q q X2 hV2 hV1 hszq hszq
 rw [cmp_eq rfl] at hcm
 have hin := fun w1 (k1 : Ext X2 w1) => z_Int _ q w1 (hV2.ext k1) (by omega) (by omega)
 clear hX2 hH hWx2 hLn0 h3a h3b h3f hnu hsl hV1 hV2
 go_wp2_with fail
 rw [rounds_succ]
 go_wp2_with (first
  | (go_at_call 56; (with_reducible refine hcm.mono ?_); rintro e w7 ⟨rfl, hb7⟩; obtain ⟨_, _, ⟨hc7, hf7⟩, hz7⟩ := hb7.c3; (try simp only [wsz] at hz7 hc7 hf7))
  | (go_at_call 119; (with_reducible refine (hin _ ex_).mono ?_); rintro e w8 ⟨rfl, hb8⟩))
 go_ret2
 exact ⟨rfl, ex_⟩
def floorF (x r : Int) (p : Nat) : Option Int :=
 if okN x = true ∧ okN (x + -r) = true ∧ okN (x + r) = true ∧ (x + -r) / 2 ^ (p - 40) = (x + r) / 2 ^ (p - 40) ∧ -9000000000000000000 ≤ (x + r) / 2 ^ (p - 40) ∧ (x + r) / 2 ^ (p - 40) ≤ 9000000000000000000 then some ((x + r) / 2 ^ (p - 40)) else none
theorem floorF_spec {x r q : Int} {p : Nat} (h : floorF x r p = some q) : okN x = true ∧ okN (x + -r) = true ∧ okN (x + r) = true ∧ (x + -r) / 2 ^ (p - 40) = q ∧ (x + r) / 2 ^ (p - 40) = q ∧ -9000000000000000000 ≤ q ∧ q ≤ 9000000000000000000 := by
 unfold floorF at h
 by_cases k : okN x = true ∧ okN (x + -r) = true ∧ okN (x + r) = true ∧ (x + -r) / 2 ^ (p - 40) = (x + r) / 2 ^ (p - 40) ∧ -9000000000000000000 ≤ (x + r) / 2 ^ (p - 40) ∧ (x + r) / 2 ^ (p - 40) ≤ 9000000000000000000
 ·rw [if_pos k] at h
  obtain rfl := Option.some.inj h
  exact ⟨k.1, k.2.1, k.2.2.1, k.2.2.2.1, rfl, k.2.2.2.2.1, k.2.2.2.2.2⟩
 ·rw [if_neg k] at h; cases h
theorem t_floor (vb : Value) (x r q : Int) (p : Nat) (w : World) (hb0 : Ball w vb x r) (hr0 : 0 ≤ r) (hr1 : r ≤ 9000000000000000000) (hp0 : 41 ≤ p) (hp : p ≤ 1000) (hF : floorF x r p = some q) :
    Calls Tryz.prog 66 #[vb, .int .i64 p] w fun e w' => e = .returned (.tuple #[.int .i64 q, .bool true]) ∧ Ext w w' := by
 obtain ⟨hk0, hk1, hk2, hq1, hq2, hq3⟩ := floorF_spec hF
 clear hF
 obtain ⟨sb, aob, nb, capb, rfl, hWx⟩ := hb0.open
 have hsz0 : Sz (-r) := dig_bits (k := 64) (L := 4096) (by omega) (by decide)
 have hsz1 : Sz r := dig_bits (k := 64) (L := 4096) (by omega) (by decide)
 have hszq : Sz q := dig_bits (k := 64) (L := 4096) (by omega) (by decide)
 have hpk : 40 - (p : Int) = -((p - 40 : Nat) : Int) := by omega
 have hsh0 : ∀ v w2, Wid w2 v (x + -r) → Calls Tryz.prog 118 #[v, .int .i64 (40 - (p : Int))] w2 fun e w' => ∃ u, e = .returned u ∧ Wid w' u q ∧ Ext w2 w' := fun v w2 hv => by
  have := t_shiftD v (x + -r) (p - 40) w2 hv (okN.sz hk1) (by omega) (by omega)
  rw [hq1] at this; rw [hpk]; exact this
 have hsh1 : ∀ v w2, Wid w2 v (x + r) → Calls Tryz.prog 118 #[v, .int .i64 (40 - (p : Int))] w2 fun e w' => ∃ u, e = .returned u ∧ Wid w' u q ∧ Ext w2 w' := fun v w2 hv => by
  have := t_shiftD v (x + r) (p - 40) w2 hv (okN.sz hk2) (by omega) (by omega)
  rw [hq2] at this; rw [hpk]; exact this
 clear hq1 hq2 hpk
 have hwk : Hid (IntKind.i64.wrap (40 - (p : Int)) = 40 - (p : Int)) := by show _ = _; rw [IntKind.wrap_i64]; omega
 have i0 : ∀ w, (Instr.index 168 (.agg #[.int .i64 (-r), .int .i64 r]) (.int .i64 0)).run Tryz.prog w = .ok (.int .i64 (-r)) w := fun _ => by kernel_rfl
 have i1 : ∀ w, (Instr.index 168 (.agg #[.int .i64 (-r), .int .i64 r]) (.int .i64 1)).run Tryz.prog w = .ok (.int .i64 r) w := fun _ => by kernel_rfl
 go_enter Tryz.func66, Tryz.ntmps66
 go_wp2_with fail
 refine wp_loop_rounds 3 ?_
 rw [rounds_succ]
 go_upto_region 5 with fail
 obtain ⟨U, hU⟩ : ∃ U, (w.alloc (.cells #[.bool sb, .slice aob nb capb, .int .i64 r] 57)).alloc (.cells #[.bool false, .slice none 0 0, .bool false, .slice none 0 0] 49) = U := ⟨_, rfl⟩
 rw [hU]
 have hGU : GB (w.heap.size + 1) w U := GB.ext (by rw [← hU]; exact ((Ext.refl w).alloc _).alloc _)
 have b0 : U.cell? ⟨w.heap.size, 0, none⟩ = some (.bool sb) := by rw [← hU]; simp [go_sem, ↓IntWalk.iteOmega]
 have b1 : U.cell? ⟨w.heap.size, 1, none⟩ = some (.slice aob nb capb) := by rw [← hU]; simp [go_sem, ↓IntWalk.iteOmega]
 have hl0 : U.cell? ⟨w.heap.size + 1, 0, none⟩ = some (.bool false) := by rw [← hU]; simp [go_sem, ↓IntWalk.iteOmega]
 have hl1 : U.cell? ⟨w.heap.size + 1, 1, none⟩ = some (.slice none 0 0) := by rw [← hU]; simp [go_sem, ↓IntWalk.iteOmega]
 have hl2 : U.cell? ⟨w.heap.size + 1, 2, none⟩ = some (.bool false) := by rw [← hU]; simp [go_sem, ↓IntWalk.iteOmega]
 have hl3 : U.cell? ⟨w.heap.size + 1, 3, none⟩ = some (.slice none 0 0) := by rw [← hU]; simp [go_sem, ↓IntWalk.iteOmega]
 have hUs : U.heap.size = w.heap.size + 1 + 1 := by rw [← hU]; simp
 have hbl : w.heap.size < U.heap.size := by omega
 have hUn : NoU U (w.heap.size + 1) := by
  have := NoU.new (w.alloc (.cells #[.bool sb, .slice aob nb capb, .int .i64 r] 57)) #[.bool false, .slice none 0 0, .bool false, .slice none 0 0] 49 (noU4 (by simp) (by simp) (by simp) (by simp))
  rw [← hU]; simpa using this
 have hUf : ∀ o, U.frozen? ⟨w.heap.size + 1, o, none⟩ = false := fun o => by rw [← hU]; simp [go_sem, ↓IntWalk.iteOmega]
 replace hWx := hWx.ext (show Ext w U by rw [← hU]; exact ((Ext.refl w).alloc _).alloc _)
 have hL : Bx2 U (w.heap.size + 1) := ⟨⟨_, hl0⟩, ⟨_, hl1⟩, hUf, hUn, by omega⟩
 have hL2 : BxO U (w.heap.size + 1) 2 := ⟨⟨_, hl2⟩, ⟨_, hl3⟩, hUf, hUn, by omega⟩
 clear hU hUn hUf hl0 hl1 hl2 hl3
 replace hL2 := hL2.ext ((Ext.refl U).drew)
 replace hL := hL.ext ((Ext.refl U).drew)
 replace hWx := hWx.ext ((Ext.refl U).drew)
 refine wp_region_held_drew (S := (fun w0 => GB (w.heap.size + 1) U w0)) c_2 ?_ (fun hH => ?_)
 ·exact (GB.refl _ _).drew
 try simp only [sx_]
 refine sK 0 ?_
 refine sK 1 ?_
 refine tk 2 rfl c_14 ?_
 try simp only [sx_]
 refine sK 3 ?_
 refine sK 6 ?_
 refine sK 7 ?_
 refine rh1 4 rfl fun K hK => ?_
 go_simp
 (go_at_call 28; (with_reducible refine (t_numZ (-r) _ (by omega) (by omega)).mono ?_); rintro e w1 ⟨y1, rfl, hf1, hx⟩)
 replace hWx := hWx.ext hx
 replace hL := hL.ext hx
 replace hL2 := hL2.ext hx
 refine hK.out _ _ ?_ fun _ => ?_
 ·exact b_12
 clear hK K hH
 rename_i hH
 try simp only [sx_]
 refine rh1 5 rfl fun K hK => ?_
 go_simp
 (go_at_call 58; (with_reducible refine (t_addZ _ _ x (-r) _ hWx hf1 (okN.sz hk0) hsz0 (okN.sz hk1)).mono ?_); rintro e w2 ⟨y2, rfl, hf2, hx⟩)
 replace hWx := hWx.ext hx
 replace hL := hL.ext hx
 replace hL2 := hL2.ext hx
 replace hf1 := hf1.ext hx
 refine hK.out _ _ ?_ fun _ => ?_
 ·exact b_12
 clear hK K hH
 rename_i hH
 try simp only [sx_]
 refine rh1 8 rfl fun K hK => ?_
 go_simp
 rw [hwk.out]
 (go_at_call 118; (with_reducible refine (hsh0 _ _ hf2).mono ?_); rintro e w3 ⟨y3, rfl, hf3, hx⟩)
 replace hWx := hWx.ext hx
 replace hL := hL.ext hx
 replace hL2 := hL2.ext hx
 replace hf1 := hf1.ext hx
 replace hf2 := hf2.ext hx
 obtain ⟨y9, rfl, hf9⟩ := hf3
 obtain ⟨ao5, _, _, cap5, rfl, -⟩ := hf9.view
 have hf4 : Wid w3 (.agg #[.bool (decide (q < 0)), .slice ao5 (dig q.natAbs).length cap5]) q := ⟨_, rfl, hf9⟩
 clear hf9
 refine hK.out _ _ ?_ fun _ => ?_
 ·exact b_12
 clear hK K hH
 rename_i hH
 try simp only [sx_]
 refine sK 9 ?_
 refine rh1 10 rfl fun K hK => ?_
 obtain ⟨⟨xa, h3a⟩, ⟨xb, h3b⟩, h3f, hnu, hsl⟩ := hL
 go_simp
 refine hK.out _ _ ?_ fun _ => ?_
 ·exact b_13
 clear hK K hH
 rename_i hH
 try simp only [sx_]
 refine wpAnyH_done c_2 ?_ _
 have hLn0 := NoU.set (j := 0) (B' := w.heap.size + 1) (x := .bool (decide (q < 0))) hnu (fun z e => by cases e)
 have hLn := NoU.set (j := 1) (B' := w.heap.size + 1) (x := .slice ao5 (dig q.natAbs).length cap5) hLn0 (fun z e => by cases e)
 have hV0 := (Wid.box (j := 0) (x := .bool (decide (q < 0))) hf4 hnu).box (j := 1) (x := .slice ao5 (dig q.natAbs).length cap5) hLn0
 have hWx2 := (Wid.box (j := 0) (x := .bool (decide (q < 0))) hWx hnu).box (j := 1) (x := .slice ao5 (dig q.natAbs).length cap5) hLn0
 obtain ⟨U1, hU1⟩ : ∃ U1, (w3.setCell ⟨w.heap.size + 1, 0, none⟩ (.bool (decide (q < 0)))).setCell ⟨w.heap.size + 1, 1, none⟩ (.slice ao5 (dig q.natAbs).length cap5) = U1 := ⟨_, rfl⟩
 have e0 : U1.cell? ⟨w.heap.size + 1, 0, none⟩ = some (.bool (decide (q < 0))) := by rw [← hU1]; simp [go_sem, ↓IntWalk.iteOmega, h3a]
 have e1 : U1.cell? ⟨w.heap.size + 1, 1, none⟩ = some (.slice ao5 (dig q.natAbs).length cap5) := by rw [← hU1]; simp [go_sem, ↓IntWalk.iteOmega, h3b]
 have hL2 := BxO.set (BxO.set (j := 0) (v := .bool (decide (q < 0))) hL2 (fun z e => by cases e)) (j := 1) (v := .slice ao5 (dig q.natAbs).length cap5) (fun z e => by cases e)
 have hs1 : U1.heap.size = w3.heap.size := by rw [← hU1]; simp
 rw [hU1] at hLn hV0 hWx2 hH hL2 ⊢
 have b0' := (GB.cell (o := 0) hH hbl (by omega)).trans b0
 have b1' := (GB.cell (o := 1) hH hbl (by omega)).trans b1
 have hUU : GB (w.heap.size + 1) w U1 := hGU.trans hH
 have hsU : w.heap.size + 1 + 1 ≤ U1.heap.size := by have := hH.size; omega
 clear hU1 hH hWx hLn0 h3a h3b h3f hnu hsl b0 b1 hGU
 go_wp2_with fail
 rw [rounds_succ]
 go_upto_region 5 with fail
 have hbl1 : w.heap.size < U1.heap.size := by omega
 have hL1 : C2 U1 (w.heap.size + 1) (.bool (decide (q < 0))) (.slice ao5 (dig q.natAbs).length cap5) := ⟨e0, e1, by omega⟩
 replace hL2 := hL2.ext ((Ext.refl U1).drew)
 replace hL1 := hL1.ext ((Ext.refl U1).drew)
 replace hWx2 := hWx2.ext ((Ext.refl U1).drew)
 replace hV0 := hV0.ext ((Ext.refl U1).drew)
 refine wp_region_held_drew (S := (fun w0 => GB (w.heap.size + 1) U1 w0)) c_2 ?_ (fun hH => ?_)
 ·exact (GB.refl _ _).drew
 try simp only [sx_]
 refine sK 0 ?_
 refine sK 1 ?_
 refine tk 2 rfl c_12 ?_
 try simp only [sx_]
 refine sK 3 ?_
 refine sK 6 ?_
 refine sK 7 ?_
 refine rh1 4 rfl fun K hK => ?_
 go_simp
 (go_at_call 28; (with_reducible refine (t_numZ r _ (by omega) (by omega)).mono ?_); rintro e w1 ⟨y1, rfl, hf1, hx⟩)
 replace hWx2 := hWx2.ext hx
 replace hL2 := hL2.ext hx
 replace hV0 := hV0.ext hx
 replace hL1 := hL1.ext hx
 refine hK.out _ _ ?_ fun _ => ?_
 ·exact b_12
 clear hK K hH
 rename_i hH
 try simp only [sx_]
 refine rh1 5 rfl fun K hK => ?_
 go_simp
 (go_at_call 58; (with_reducible refine (t_addZ _ _ x r _ hWx2 hf1 (okN.sz hk0) hsz1 (okN.sz hk2)).mono ?_); rintro e w2 ⟨y2, rfl, hf2, hx⟩)
 replace hWx2 := hWx2.ext hx
 replace hL2 := hL2.ext hx
 replace hV0 := hV0.ext hx
 replace hL1 := hL1.ext hx
 replace hf1 := hf1.ext hx
 refine hK.out _ _ ?_ fun _ => ?_
 ·exact b_12
 clear hK K hH
 rename_i hH
 try simp only [sx_]
 refine rh1 8 rfl fun K hK => ?_
 go_simp
 rw [hwk.out]
 (go_at_call 118; (with_reducible refine (hsh1 _ _ hf2).mono ?_); rintro e w3 ⟨y3, rfl, hf3, hx⟩)
 replace hWx2 := hWx2.ext hx
 replace hL2 := hL2.ext hx
 replace hV0 := hV0.ext hx
 replace hL1 := hL1.ext hx
 replace hf1 := hf1.ext hx
 replace hf2 := hf2.ext hx
 obtain ⟨y9, rfl, hf9⟩ := hf3
 obtain ⟨ao6, _, _, cap6, rfl, -⟩ := hf9.view
 have hf4 : Wid w3 (.agg #[.bool (decide (q < 0)), .slice ao6 (dig q.natAbs).length cap6]) q := ⟨_, rfl, hf9⟩
 clear hf9
 refine hK.out _ _ ?_ fun _ => ?_
 ·exact b_12
 clear hK K hH
 rename_i hH
 try simp only [sx_]
 refine sK 9 ?_
 refine rh1 10 rfl fun K hK => ?_
 obtain ⟨⟨xa, h3a⟩, ⟨xb, h3b⟩, h3f, hnu, hsl⟩ := hL2
 go_simp
 refine hK.out _ _ ?_ fun _ => ?_
 ·exact b_13
 clear hK K hH
 rename_i hH
 try simp only [sx_]
 refine wpAnyH_done c_2 ?_ _
 have hLn0 := NoU.set (j := 2) (B' := w.heap.size + 1) (x := .bool (decide (q < 0))) hnu (fun z e => by cases e)
 have hV1 := (Wid.box (j := 2) (x := .bool (decide (q < 0))) hf4 hnu).box (j := 3) (x := .slice ao6 (dig q.natAbs).length cap6) hLn0
 have hV2 := (Wid.box (j := 2) (x := .bool (decide (q < 0))) hV0 hnu).box (j := 3) (x := .slice ao6 (dig q.natAbs).length cap6) hLn0
 obtain ⟨X2, hX2⟩ : ∃ X2, (w3.setCell ⟨w.heap.size + 1, 2, none⟩ (.bool (decide (q < 0)))).setCell ⟨w.heap.size + 1, 3, none⟩ (.slice ao6 (dig q.natAbs).length cap6) = X2 := ⟨_, rfl⟩
 have f0 : X2.cell? ⟨w.heap.size + 1, 0, none⟩ = some (.bool (decide (q < 0))) := by rw [← hX2]; simp [go_sem, ↓IntWalk.iteOmega, hL1.1]
 have f1 : X2.cell? ⟨w.heap.size + 1, 1, none⟩ = some (.slice ao5 (dig q.natAbs).length cap5) := by rw [← hX2]; simp [go_sem, ↓IntWalk.iteOmega, hL1.2.1]
 have f2 : X2.cell? ⟨w.heap.size + 1, 2, none⟩ = some (.bool (decide (q < 0))) := by rw [← hX2]; simp [go_sem, ↓IntWalk.iteOmega, h3a]
 have f3 : X2.cell? ⟨w.heap.size + 1, 3, none⟩ = some (.slice ao6 (dig q.natAbs).length cap6) := by rw [← hX2]; simp [go_sem, ↓IntWalk.iteOmega, h3b]
 rw [hX2] at hV1 hV2 hH ⊢
 have hE2 : Ext w X2 := (hUU.trans hH).out (by omega)
 have hsX : w.heap.size + 1 + 1 ≤ X2.heap.size := by have := hH.size; omega
 have hcm := z_Cmp _ _ q q X2 hV2 hV1 hszq hszq
 rw [cmp_eq rfl] at hcm
 have hin := fun w1 (k1 : Ext X2 w1) => z_Int _ q w1 (hV2.ext k1) (by omega) (by omega)
 clear hX2 hH hWx2 hLn0 h3a h3b h3f hnu hsl hV1 hV2
 go_wp2_with fail
 rw [rounds_succ]
 go_wp2_with (first
  | (go_at_call 56; (with_reducible refine hcm.mono ?_); rintro e w7 ⟨rfl, hb7⟩; obtain ⟨_, _, ⟨hc7, hf7⟩, hz7⟩ := hb7.c3; (try simp only [wsz] at hz7 hc7 hf7))
  | (go_at_call 119; (with_reducible refine (hin _ ex_).mono ?_); rintro e w8 ⟨rfl, hb8⟩))
 go_ret2
 exact ⟨rfl, ex_⟩
end Go.Proofs.YtogblocakccbgaaGreat
