/- law35.alone. -/
import Derived.Test.YtbkgakgdbmjmjaaGreatN32
import Derived.Great.BuildSlice
set_option linter.unusedSimpArgs false
set_option linter.unusedVariables false
set_option maxRecDepth 100000
set_option maxHeartbeats 8000000
namespace Go.Proofs.YtbkgakgdbmjmjaaGreat
open Go.RowKit
theorem T_ALN_1 {p : Prop} (h : p := by
 refine hK.out _ _ ?_ fun _ => ?_
 ·(try dsimp only); exact J4.st
 clear hK K hHeld
 rename_i hHeld
 try simp only [sx_]
 refine wpAnyB_done c_17 ?_ _
 go_wp2_with fail
 go_meet
 exact J4) : p := h
structure StD where
 (t x y z u v r : Int)
def stL (s : StD) : List Int := [s.t, s.x, s.y, s.z, s.u, s.v, s.r]
def alP (s : StD) : V3 := ⟨s.x, s.x, s.y, s.y, s.z, s.z⟩
def alV (s : StD) : V3 := ⟨s.u, s.u, s.v, s.v, s.r, s.r⟩
theorem tyI26 : (Tryz.prog.info? 26).map (·.size) = some 2 := by kernel_rfl
theorem wp_store_at {P : Program} {op : Oper} {a : Act} {w : World} {K : Act → World → Prop} {Q : Exit → Act → World → Prop} (ty : TypeId) (x y : Operand) (ho : op.op = .store ty x y)
    (b o : Nat) (cells : Array Value) (hx : a.eval x = .pointer (some ⟨b, o, none⟩)) (hy : a.eval y = .agg cells)
    (ht : w.there b o cells.size) (hi : (P.info? ty).map (·.size) = some cells.size) (h1 : cells.all (·.oneCell') = true)
    (h : ∀ W, RowAt W w b o cells.toList → K (a.put op.dst undef) W) : op.wp P a w K Q :=
  wp_store_mid ty x y ho b o cells hx hy ht hi h1 (h _ rfl)
theorem RowAt.own {a W w : World} {b o : Nat} {vs : List Value} (k : RowAt W w b o vs) (h : Ext a w) (hb : a.heap.size ≤ b) : Ext a W := by
 rw [show W = _ from k]; exact Ext.setCells hb vs o w h
structure AlI (w : World) (n : Nat) (s : StD) (P V : List Int) (U : World) : Prop where
 own : Ext w U
 st : VB U n (stL s)
 r2 : VB U (n + 1) [0, 0, 0, 0, 0, 0]
 r3 : VB U (n + 1 + 1) [0, 0, 0, 0, 0, 0]
 p : VB U (n + 1 + 1 + 1) P
 v : VB U (n + 1 + 1 + 1 + 1) V
theorem AlI.ext {w U W : World} {n : Nat} {s : StD} {P V : List Int} (h : AlI w n s P V U) (k : Ext U W) : AlI w n s P V W := ⟨h.own.trans k, h.st.ext k, h.r2.ext k, h.r3.ext k, h.p.ext k, h.v.ext k⟩
theorem AlI.sp {w U W : World} {n o : Nat} {s : StD} {P V m : List Int} (h : AlI w n s P V U) (k : RowAt W U (n + 1 + 1 + 1) o (m.map (Value.int .i64))) (hn : w.heap.size ≤ n) (hl : o + m.length ≤ P.length) : AlI w n s (setsL P o m) V W :=
 ⟨k.own h.own (by omega), k.other h.st (by omega), k.other h.r2 (by omega), k.other h.r3 (by omega), k.vb h.p hl, k.other h.v (by omega)⟩
theorem AlI.sv {w U W : World} {n o : Nat} {s : StD} {P V m : List Int} (h : AlI w n s P V U) (k : RowAt W U (n + 1 + 1 + 1 + 1) o (m.map (Value.int .i64))) (hn : w.heap.size ≤ n) (hl : o + m.length ≤ V.length) : AlI w n s P (setsL V o m) W :=
 ⟨k.own h.own (by omega), k.other h.st (by omega), k.other h.r2 (by omega), k.other h.r3 (by omega), k.other h.p (by omega), k.vb h.v hl⟩
theorem m_alone (s : StD) (w : World) : Calls Tryz.prog 38 #[.agg #[.int .i64 s.t, .int .i64 s.x, .int .i64 s.y, .int .i64 s.z, .int .i64 s.u, .int .i64 s.v, .int .i64 s.r]] w fun e w' => e = .returned (.tuple #[.agg #[.int .i64 s.x, .int .i64 s.x, .int .i64 s.y, .int .i64 s.y, .int .i64 s.z, .int .i64 s.z], .agg #[.int .i64 s.u, .int .i64 s.u, .int .i64 s.v, .int .i64 s.v, .int .i64 s.r, .int .i64 s.r]]) ∧ Ext w w' := by
 go_enter Tryz.func38, Tryz.ntmps38
 go_upto_region 2 with fail
 refine wp_name fun U hN => ?_
 have I0 : AlI w w.heap.size s [0, 0, 0, 0, 0, 0] [0, 0, 0, 0, 0, 0] U := by
  have e : U = _ := hN
  have b0 := VB.lit w (stL s) 79
  have e1 := (Ext.refl (w.alloc (.cells #[.int .i64 s.t, .int .i64 s.x, .int .i64 s.y, .int .i64 s.z, .int .i64 s.u, .int .i64 s.v, .int .i64 s.r] 79))).alloc (.cells #[.int .i64 0, .int .i64 0, .int .i64 0, .int .i64 0, .int .i64 0, .int .i64 0] 28)
  have e2 := (Ext.refl (((w.alloc (.cells #[.int .i64 s.t, .int .i64 s.x, .int .i64 s.y, .int .i64 s.z, .int .i64 s.u, .int .i64 s.v, .int .i64 s.r] 79)).alloc (.cells #[.int .i64 0, .int .i64 0, .int .i64 0, .int .i64 0, .int .i64 0, .int .i64 0] 28)))).alloc (.cells #[.int .i64 0, .int .i64 0, .int .i64 0, .int .i64 0, .int .i64 0, .int .i64 0] 28)
  have e3 := (Ext.refl ((((w.alloc (.cells #[.int .i64 s.t, .int .i64 s.x, .int .i64 s.y, .int .i64 s.z, .int .i64 s.u, .int .i64 s.v, .int .i64 s.r] 79)).alloc (.cells #[.int .i64 0, .int .i64 0, .int .i64 0, .int .i64 0, .int .i64 0, .int .i64 0] 28))).alloc (.cells #[.int .i64 0, .int .i64 0, .int .i64 0, .int .i64 0, .int .i64 0, .int .i64 0] 28))).alloc (.cells #[.int .i64 0, .int .i64 0, .int .i64 0, .int .i64 0, .int .i64 0, .int .i64 0] 28)
  have e4 := (Ext.refl (((((w.alloc (.cells #[.int .i64 s.t, .int .i64 s.x, .int .i64 s.y, .int .i64 s.z, .int .i64 s.u, .int .i64 s.v, .int .i64 s.r] 79)).alloc (.cells #[.int .i64 0, .int .i64 0, .int .i64 0, .int .i64 0, .int .i64 0, .int .i64 0] 28))).alloc (.cells #[.int .i64 0, .int .i64 0, .int .i64 0, .int .i64 0, .int .i64 0, .int .i64 0] 28)).alloc (.cells #[.int .i64 0, .int .i64 0, .int .i64 0, .int .i64 0, .int .i64 0, .int .i64 0] 28))).alloc (.cells #[.int .i64 0, .int .i64 0, .int .i64 0, .int .i64 0, .int .i64 0, .int .i64 0] 28)
  have b1 := VB.lit (w.alloc (.cells #[.int .i64 s.t, .int .i64 s.x, .int .i64 s.y, .int .i64 s.z, .int .i64 s.u, .int .i64 s.v, .int .i64 s.r] 79)) [0, 0, 0, 0, 0, 0] 28
  have b2 := VB.lit ((w.alloc (.cells #[.int .i64 s.t, .int .i64 s.x, .int .i64 s.y, .int .i64 s.z, .int .i64 s.u, .int .i64 s.v, .int .i64 s.r] 79)).alloc (.cells #[.int .i64 0, .int .i64 0, .int .i64 0, .int .i64 0, .int .i64 0, .int .i64 0] 28)) [0, 0, 0, 0, 0, 0] 28
  have b3 := VB.lit (((w.alloc (.cells #[.int .i64 s.t, .int .i64 s.x, .int .i64 s.y, .int .i64 s.z, .int .i64 s.u, .int .i64 s.v, .int .i64 s.r] 79)).alloc (.cells #[.int .i64 0, .int .i64 0, .int .i64 0, .int .i64 0, .int .i64 0, .int .i64 0] 28)).alloc (.cells #[.int .i64 0, .int .i64 0, .int .i64 0, .int .i64 0, .int .i64 0, .int .i64 0] 28)) [0, 0, 0, 0, 0, 0] 28
  have b4 := VB.lit ((((w.alloc (.cells #[.int .i64 s.t, .int .i64 s.x, .int .i64 s.y, .int .i64 s.z, .int .i64 s.u, .int .i64 s.v, .int .i64 s.r] 79)).alloc (.cells #[.int .i64 0, .int .i64 0, .int .i64 0, .int .i64 0, .int .i64 0, .int .i64 0] 28)).alloc (.cells #[.int .i64 0, .int .i64 0, .int .i64 0, .int .i64 0, .int .i64 0, .int .i64 0] 28)).alloc (.cells #[.int .i64 0, .int .i64 0, .int .i64 0, .int .i64 0, .int .i64 0, .int .i64 0] 28)) [0, 0, 0, 0, 0, 0] 28
  simp only [World.size_alloc] at b1 b2 b3 b4
  rw [e]
  exact ⟨(((((Ext.refl w).alloc _).alloc _).alloc _).alloc _).alloc _, (((b0.ext e1).ext e2).ext e3).ext e4, ((b1.ext e2).ext e3).ext e4, (b2.ext e3).ext e4, b3.ext e4, b4⟩
 clear hN
 go_wp2_with fail
 refine wp_loop_rounds 4 ?_
 rw [rounds_succ]
 go_upto_block 1 with fail
 go_cut [] from 11 to 24 (fun wx => AlI w w.heap.size s [s.x, s.x, 0, 0, 0, 0] [s.u, s.u, 0, 0, 0, 0] wx)
 case first =>
  go_upto_region 5 with fail
  have J0 := I0.ext (Ext.refl _).drew
  refine wp_region_till (S := (fun w0 => VB w0 w.heap.size (stL s))) (fun _ => false) c_17 ?_ (fun hHeld => ?_)
  ·exact J0.st
  try simp only [sx_]
  refine tp 0 rfl c_1 ?_
  try simp only [sx_]
  refine tp 1 rfl c_1 ?_
  try simp only [sx_]
  refine tp 2 rfl c_1 ?_
  try simp only [sx_]
  refine tp 3 rfl c_1 ?_
  try simp only [sx_]
  refine tp 4 rfl c_1 ?_
  try simp only [sx_]
  refine tb 5 rfl c_31 ?_
  try simp only [sx_]
  refine tp 7 rfl c_1 ?_
  try simp only [sx_]
  refine tp 8 rfl c_1 ?_
  try simp only [sx_]
  refine tp 9 rfl c_1 ?_
  try simp only [sx_]
  refine tb 10 rfl c_31 ?_
  try simp only [sx_]
  refine rb (i := 6) rfl fun K hK => ?_
  go_simp
  (go_at_call 35; (with_reducible refine (m_point s.x _).mono ?_); rintro e y1 ⟨rfl, hy⟩)
  have J1 := J0.ext hy
  refine hK.out _ _ ?_ fun _ => ?_
  ·(try dsimp only); exact J1.st
  clear hK K hHeld
  rename_i hHeld
  try simp only [sx_]
  refine tp 12 rfl c_1 ?_
  try simp only [sx_]
  refine rb (i := 11) rfl fun K hK => ?_
  go_simp
  (go_at_call 35; (with_reducible refine (m_point s.u _).mono ?_); rintro e y2 ⟨rfl, hy2⟩)
  have J2 := J1.ext hy2
  refine hK.out _ _ ?_ fun _ => ?_
  ·(try dsimp only); exact J2.st
  clear hK K hHeld
  rename_i hHeld
  try simp only [sx_]
  refine rb (i := 13) rfl fun K hK => ?_
  rw [if_pos (by rfl)]
  refine wp_store_at 26 (.tmp 23) (.tmp 17) rfl (w.heap.size + 1 + 1 + 1) 0 #[.int .i64 s.x, .int .i64 s.x] rfl rfl (J2.p.mid 0 2 (Nat.le_of_ble_eq_true rfl)) tyI26 c_45 (fun W1 hW1 => ?_)
  have J3 := J2.sp (m := [s.x, s.x]) hW1 (Nat.le_refl _) (Nat.le_of_ble_eq_true rfl)
  try simp only [sx_]
  refine hK.out _ _ ?_ fun _ => ?_
  ·(try dsimp only); exact J3.st
  clear hK K hHeld
  rename_i hHeld
  try simp only [sx_]
  refine tp 14 rfl c_1 ?_
  try simp only [sx_]
  refine rb (i := 15) rfl fun K hK => ?_
  rw [if_pos (by rfl)]
  refine wp_store_at 26 (.tmp 24) (.tmp 22) rfl (w.heap.size + 1 + 1 + 1 + 1) 0 #[.int .i64 s.u, .int .i64 s.u] rfl rfl (J3.v.mid 0 2 (Nat.le_of_ble_eq_true rfl)) tyI26 c_45 (fun W2 hW2 => ?_)
  have J4 := J3.sv (m := [s.u, s.u]) hW2 (Nat.le_refl _) (Nat.le_of_ble_eq_true rfl)
  try simp only [sx_]
  exact T_ALN_1
 have I1 := hcut
 clear hcut I0
 go_wp2_with fail
 rw [rounds_succ]
 go_upto_block 1 with fail
 go_cut [] from 11 to 24 (fun wx => AlI w w.heap.size s [s.x, s.x, s.y, s.y, 0, 0] [s.u, s.u, s.v, s.v, 0, 0] wx)
 case first =>
  go_upto_region 5 with fail
  have J0 := I1.ext (Ext.refl _).drew
  refine wp_region_till (S := (fun w0 => VB w0 w.heap.size (stL s))) (fun _ => false) c_17 ?_ (fun hHeld => ?_)
  ·exact J0.st
  try simp only [sx_]
  refine tp 0 rfl c_1 ?_
  try simp only [sx_]
  refine tp 1 rfl c_1 ?_
  try simp only [sx_]
  refine tp 2 rfl c_1 ?_
  try simp only [sx_]
  refine tp 3 rfl c_1 ?_
  try simp only [sx_]
  refine tp 4 rfl c_1 ?_
  try simp only [sx_]
  refine tb 5 rfl c_32 ?_
  try simp only [sx_]
  refine tp 7 rfl c_1 ?_
  try simp only [sx_]
  refine tp 8 rfl c_1 ?_
  try simp only [sx_]
  refine tp 9 rfl c_1 ?_
  try simp only [sx_]
  refine tb 10 rfl c_32 ?_
  try simp only [sx_]
  refine rb (i := 6) rfl fun K hK => ?_
  go_simp
  (go_at_call 35; (with_reducible refine (m_point s.y _).mono ?_); rintro e y1 ⟨rfl, hy⟩)
  have J1 := J0.ext hy
  refine hK.out _ _ ?_ fun _ => ?_
  ·(try dsimp only); exact J1.st
  clear hK K hHeld
  rename_i hHeld
  try simp only [sx_]
  refine tp 12 rfl c_1 ?_
  try simp only [sx_]
  refine rb (i := 11) rfl fun K hK => ?_
  go_simp
  (go_at_call 35; (with_reducible refine (m_point s.v _).mono ?_); rintro e y2 ⟨rfl, hy2⟩)
  have J2 := J1.ext hy2
  refine hK.out _ _ ?_ fun _ => ?_
  ·(try dsimp only); exact J2.st
  clear hK K hHeld
  rename_i hHeld
  try simp only [sx_]
  refine rb (i := 13) rfl fun K hK => ?_
  rw [if_pos (by rfl)]
  refine wp_store_at 26 (.tmp 23) (.tmp 17) rfl (w.heap.size + 1 + 1 + 1) 2 #[.int .i64 s.y, .int .i64 s.y] rfl rfl (J2.p.mid 2 2 (Nat.le_of_ble_eq_true rfl)) tyI26 c_45 (fun W1 hW1 => ?_)
  have J3 := J2.sp (m := [s.y, s.y]) hW1 (Nat.le_refl _) (Nat.le_of_ble_eq_true rfl)
  try simp only [sx_]
  refine hK.out _ _ ?_ fun _ => ?_
  ·(try dsimp only); exact J3.st
  clear hK K hHeld
  rename_i hHeld
  try simp only [sx_]
  refine tp 14 rfl c_1 ?_
  try simp only [sx_]
  refine rb (i := 15) rfl fun K hK => ?_
  rw [if_pos (by rfl)]
  refine wp_store_at 26 (.tmp 24) (.tmp 22) rfl (w.heap.size + 1 + 1 + 1 + 1) 2 #[.int .i64 s.v, .int .i64 s.v] rfl rfl (J3.v.mid 2 2 (Nat.le_of_ble_eq_true rfl)) tyI26 c_45 (fun W2 hW2 => ?_)
  have J4 := J3.sv (m := [s.v, s.v]) hW2 (Nat.le_refl _) (Nat.le_of_ble_eq_true rfl)
  try simp only [sx_]
  exact T_ALN_1
 have I2 := hcut
 clear hcut I1
 go_wp2_with fail
 rw [rounds_succ]
 go_upto_block 1 with fail
 go_cut [] from 11 to 24 (fun wx => AlI w w.heap.size s [s.x, s.x, s.y, s.y, s.z, s.z] [s.u, s.u, s.v, s.v, s.r, s.r] wx)
 case first =>
  go_upto_region 5 with fail
  have J0 := I2.ext (Ext.refl _).drew
  refine wp_region_till (S := (fun w0 => VB w0 w.heap.size (stL s))) (fun _ => false) c_17 ?_ (fun hHeld => ?_)
  ·exact J0.st
  try simp only [sx_]
  refine tp 0 rfl c_1 ?_
  try simp only [sx_]
  refine tp 1 rfl c_1 ?_
  try simp only [sx_]
  refine tp 2 rfl c_1 ?_
  try simp only [sx_]
  refine tp 3 rfl c_1 ?_
  try simp only [sx_]
  refine tp 4 rfl c_1 ?_
  try simp only [sx_]
  refine tb 5 rfl c_33 ?_
  try simp only [sx_]
  refine tp 7 rfl c_1 ?_
  try simp only [sx_]
  refine tp 8 rfl c_1 ?_
  try simp only [sx_]
  refine tp 9 rfl c_1 ?_
  try simp only [sx_]
  refine tb 10 rfl c_33 ?_
  try simp only [sx_]
  refine rb (i := 6) rfl fun K hK => ?_
  go_simp
  (go_at_call 35; (with_reducible refine (m_point s.z _).mono ?_); rintro e y1 ⟨rfl, hy⟩)
  have J1 := J0.ext hy
  refine hK.out _ _ ?_ fun _ => ?_
  ·(try dsimp only); exact J1.st
  clear hK K hHeld
  rename_i hHeld
  try simp only [sx_]
  refine tp 12 rfl c_1 ?_
  try simp only [sx_]
  refine rb (i := 11) rfl fun K hK => ?_
  go_simp
  (go_at_call 35; (with_reducible refine (m_point s.r _).mono ?_); rintro e y2 ⟨rfl, hy2⟩)
  have J2 := J1.ext hy2
  refine hK.out _ _ ?_ fun _ => ?_
  ·(try dsimp only); exact J2.st
  clear hK K hHeld
  rename_i hHeld
  try simp only [sx_]
  refine rb (i := 13) rfl fun K hK => ?_
  rw [if_pos (by rfl)]
  refine wp_store_at 26 (.tmp 23) (.tmp 17) rfl (w.heap.size + 1 + 1 + 1) 4 #[.int .i64 s.z, .int .i64 s.z] rfl rfl (J2.p.mid 4 2 (Nat.le_of_ble_eq_true rfl)) tyI26 c_45 (fun W1 hW1 => ?_)
  have J3 := J2.sp (m := [s.z, s.z]) hW1 (Nat.le_refl _) (Nat.le_of_ble_eq_true rfl)
  try simp only [sx_]
  refine hK.out _ _ ?_ fun _ => ?_
  ·(try dsimp only); exact J3.st
  clear hK K hHeld
  rename_i hHeld
  try simp only [sx_]
  refine tp 14 rfl c_1 ?_
  try simp only [sx_]
  refine rb (i := 15) rfl fun K hK => ?_
  rw [if_pos (by rfl)]
  refine wp_store_at 26 (.tmp 24) (.tmp 22) rfl (w.heap.size + 1 + 1 + 1 + 1) 4 #[.int .i64 s.r, .int .i64 s.r] rfl rfl (J3.v.mid 4 2 (Nat.le_of_ble_eq_true rfl)) tyI26 c_45 (fun W2 hW2 => ?_)
  have J4 := J3.sv (m := [s.r, s.r]) hW2 (Nat.le_refl _) (Nat.le_of_ble_eq_true rfl)
  try simp only [sx_]
  exact T_ALN_1
 have I3 := hcut
 clear hcut I2
 go_wp2_with fail
 rw [rounds_succ]
 go_upto_region 6 with fail
 have K := I3.ext (Ext.refl _).drew
 have r2 := K.r2
 have r3 := K.r3
 have K0 := K.own
 refine wp_region_till (S := (fun w0 => VB w0 (w.heap.size + 1 + 1 + 1) [s.x, s.x, s.y, s.y, s.z, s.z] ∧ VB w0 (w.heap.size + 1 + 1 + 1 + 1) [s.u, s.u, s.v, s.v, s.r, s.r])) (fun _ => false) c_17 ?_ (fun hHeld => ?_)
 ·exact ⟨K.p, K.v⟩
 try simp only [sx_]
 refine tb 0 rfl c_42 ?_
 try simp only [sx_]
 refine tb 1 rfl c_42 ?_
 try simp only [sx_]
 refine rb (i := 2) rfl fun K hK => ?_
 rw [if_pos (by rfl)]
 refine wp_store_at 28 (.tmp 2) (.tmp 25) rfl (w.heap.size + 1) 0 #[.int .i64 s.x, .int .i64 s.x, .int .i64 s.y, .int .i64 s.y, .int .i64 s.z, .int .i64 s.z] rfl rfl (r2.there 6 rfl) tyI28 c_45 (fun W1 hW1 => ?_)
 try simp only [sx_]
 refine hK.out _ _ ?_ fun _ => ?_
 ·(try dsimp only); exact ⟨hW1.other hHeld.1 (by omega), hW1.other hHeld.2 (by omega)⟩
 clear hK K hHeld
 rename_i hHeld
 try simp only [sx_]
 refine rb (i := 3) rfl fun K hK => ?_
 rw [if_pos (by rfl)]
 refine wp_store_at 28 (.tmp 3) (.tmp 26) rfl (w.heap.size + 1 + 1) 0 #[.int .i64 s.u, .int .i64 s.u, .int .i64 s.v, .int .i64 s.v, .int .i64 s.r, .int .i64 s.r] rfl rfl ((hW1.other r3 (by omega)).there 6 rfl) tyI28 c_45 (fun W2 hW2 => ?_)
 try simp only [sx_]
 refine hK.out _ _ ?_ fun _ => ?_
 ·(try dsimp only); exact ⟨hW2.other hHeld.1 (by omega), hW2.other hHeld.2 (by omega)⟩
 clear hK K hHeld
 rename_i hHeld
 try simp only [sx_]
 refine wpAnyB_done c_17 ?_ _
 have f2 : VB W2 (w.heap.size + 1) [s.x, s.x, s.y, s.y, s.z, s.z] := hW2.other (hW1.vb (m := [s.x, s.x, s.y, s.y, s.z, s.z]) r2 (Nat.le_of_ble_eq_true rfl)) (by omega)
 have f3 : VB W2 (w.heap.size + 1 + 1) [s.u, s.u, s.v, s.v, s.r, s.r] := hW2.vb (m := [s.u, s.u, s.v, s.v, s.r, s.r]) (hW1.other r3 (by omega)) (Nat.le_of_ble_eq_true rfl)
 have xx : Ext w W2 := hW2.own (hW1.own K0 (by omega)) (by omega)
 have p0 := f2.1 0 _ rfl
 have q0 := f3.1 0 _ rfl
 have p1 := f2.1 1 _ rfl
 have q1 := f3.1 1 _ rfl
 have p2 := f2.1 2 _ rfl
 have q2 := f3.1 2 _ rfl
 have p3 := f2.1 3 _ rfl
 have q3 := f3.1 3 _ rfl
 have p4 := f2.1 4 _ rfl
 have q4 := f3.1 4 _ rfl
 have p5 := f2.1 5 _ rfl
 have q5 := f3.1 5 _ rfl
 clear hW1 hW2 f2 f3 r2 r3 hHeld K0
 go_wp2_with fail
 refine bodyPost_ret ?_ rfl ⟨rfl, xx⟩
 simp [results, Tryz.results38, go_sem, ↓IntWalk.iteOmega, *]
def outB (a b c M : Int) : Bool := decide (M < a ∨ M < b ∨ M < c ∨ a < -M ∨ b < -M ∨ c < -M)
theorem k_out1 (a b c : Int) (w : World) : Calls Tryz.prog 126 #[.agg #[.int .i64 a, .int .i64 b, .int .i64 c], .int .i64 8796093022208] w fun e w' => e = .returned (.bool (outB a b c 8796093022208)) ∧ Ext w w' := by
 have l0 : IntKind.i64.wrap 0 = 0 := rfl
 have l1 : IntKind.i64.wrap 1 = 1 := rfl
 have l2 : IntKind.i64.wrap 2 = 2 := rfl
 go_enter Tryz.func126, Tryz.ntmps126
 go_wp2
 all_goals (
  refine bodyPost_ret (v := .bool (outB a b c 8796093022208)) ?_ rfl ⟨rfl, ?_⟩
  ·simp [results, Tryz.results126, go_sem, outB]
   (try rw [Bool.eq_iff_iff])
   (try simp only [Bool.or_eq_true, decide_eq_true_eq])
   have hmm : (if b < a then b else a) ≤ a ∧ (if b < a then b else a) ≤ b ∧ ((if b < a then b else a) = a ∨ (if b < a then b else a) = b) := by split <;> omega
   generalize (if b < a then b else a) = mm at *
   (try omega)
  ·repeat (first | with_reducible exact Ext.refl _ | with_reducible assumption | with_reducible refine Ext.alloc ?_ _ | with_reducible refine Ext.setCell ?_ c_19 _ | with_reducible refine Ext.drewN ?_ _ | with_reducible refine Ext.drew ?_ | with_reducible refine Ext.trans ?_ c_9))
theorem k_out2 (a b c : Int) (w : World) : Calls Tryz.prog 126 #[.agg #[.int .i64 a, .int .i64 b, .int .i64 c], .int .i64 1099511627776] w fun e w' => e = .returned (.bool (outB a b c 1099511627776)) ∧ Ext w w' := by
 have l0 : IntKind.i64.wrap 0 = 0 := rfl
 have l1 : IntKind.i64.wrap 1 = 1 := rfl
 have l2 : IntKind.i64.wrap 2 = 2 := rfl
 go_enter Tryz.func126, Tryz.ntmps126
 go_wp2
 all_goals (
  refine bodyPost_ret (v := .bool (outB a b c 1099511627776)) ?_ rfl ⟨rfl, ?_⟩
  ·simp [results, Tryz.results126, go_sem, outB]
   (try rw [Bool.eq_iff_iff])
   (try simp only [Bool.or_eq_true, decide_eq_true_eq])
   have hmm : (if b < a then b else a) ≤ a ∧ (if b < a then b else a) ≤ b ∧ ((if b < a then b else a) = a ∨ (if b < a then b else a) = b) := by split <;> omega
   generalize (if b < a then b else a) = mm at *
   (try omega)
  ·repeat (first | with_reducible exact Ext.refl _ | with_reducible assumption | with_reducible refine Ext.alloc ?_ _ | with_reducible refine Ext.setCell ?_ c_19 _ | with_reducible refine Ext.drewN ?_ _ | with_reducible refine Ext.drew ?_ | with_reducible refine Ext.trans ?_ c_9))
theorem eqA (d : Nat) (a b c : Int) (w : World) : (Op.equalIn (d + 1 + 1) 58 (.agg #[.int .i64 a, .int .i64 b, .int .i64 c]) (.agg #[.int .i64 0, .int .i64 0, .int .i64 0])).run Tryz.prog w = .ok (a == 0 && (b == 0 && c == 0)) w := by
 have h38 : Tryz.prog.underlying 58 = some (.array 3 2) := by kernel_rfl
 have h2 : Tryz.prog.underlying 2 = some (.int .i64) := by kernel_rfl
 rw [Op.equalIn]
 have hs : ∀ w, (sizeOf 2).run Tryz.prog w = .ok 1 w := fun w => by kernel_rfl
 have hp0 : ∀ (a b c : Int) w, (part 2 #[.int .i64 a, .int .i64 b, .int .i64 c] 0).run Tryz.prog w = .ok (.int .i64 a) w := fun a b c w => by kernel_rfl
 have hp1 : ∀ (a b c : Int) w, (part 2 #[.int .i64 a, .int .i64 b, .int .i64 c] 1).run Tryz.prog w = .ok (.int .i64 b) w := fun a b c w => by kernel_rfl
 have hp2 : ∀ (a b c : Int) w, (part 2 #[.int .i64 a, .int .i64 b, .int .i64 c] 2).run Tryz.prog w = .ok (.int .i64 c) w := fun a b c w => by kernel_rfl
 have he : ∀ (a b : Int) w, (Op.equalIn (d + 1) 2 (.int .i64 a) (.int .i64 b)).run Tryz.prog w = .ok (a == b) w := fun a b w => run_equalIn_int w d 2 .i64 .i64 a b h2
 simp only [Sem.run_bind, run_underlying h38, Result.andThen_ok, hs, Nat.mul_one]
 simp only [Std.Legacy.Range.forIn_eq_forIn_range', Std.Legacy.Range.size]
 have hr : List.range' 0 3 = [0, 1, 2] := rfl
 simp [List.range', hp0, hp1, hp2, he]
 by_cases h0 : a = 0 <;> by_cases h1 : b = 0 <;> by_cases h3 : c = 0 <;> (try simp [h0, h1, h3, he, hp1, hp2])
theorem eqA4 (a b c : Int) (w : World) : (Op.equalIn 10000 58 (.agg #[.int .i64 a, .int .i64 b, .int .i64 c]) (.agg #[.int .i64 0, .int .i64 0, .int .i64 0])).run Tryz.prog w = .ok (decide (a = 0 ∧ b = 0 ∧ c = 0)) w := (eqA 9998 a b c w).trans (by congr 1; by_cases h0 : a = 0 <;> by_cases h1 : b = 0 <;> by_cases h3 : c = 0 <;> simp [h0, h1, h3])
theorem T_KE_1 {p : Prop} (h : p := by
 go_enter Tryz.func82, Tryz.ntmps82
 go_wp2_with (first | (go_at_call 126; (with_reducible refine (hs1 _).mono ?_); rintro e w1 ⟨rfl, hb⟩; obtain ⟨_, _, ⟨hc, hf⟩, hz⟩ := hb.c3; (try simp only [wsz] at hz hc hf)) | (go_at_call 126; (with_reducible refine (hs2 _).mono ?_); rintro e w1 ⟨rfl, hb⟩; obtain ⟨_, _, ⟨hc, hf⟩, hz⟩ := hb.c3; (try simp only [wsz] at hz hc hf)))
 all_goals (
  refine bodyPost_ret (v := .int .i64 8) ?_ rfl ⟨by simp [*], ?_⟩
  ·simp [results, Tryz.results82, go_sem, ↓IntWalk.iteOmega, *]
  ·repeat (first | with_reducible exact Ext.refl _ | with_reducible assumption | with_reducible refine Ext.alloc ?_ _ | with_reducible refine Ext.setCell ?_ c_19 _ | with_reducible refine Ext.drewN ?_ _ | with_reducible refine Ext.drew ?_ | with_reducible refine Ext.trans ?_ c_9))) : p := h
def stB (t p1 p2 p3 v1 v2 v3 : Int) : Bool := decide (t < -5000000000000000) || decide (5000000000000000 < t) || decide (p1 = 0 ∧ p2 = 0 ∧ p3 = 0) || outB p1 p2 p3 8796093022208 || outB v1 v2 v3 1099511627776
def stE (t p1 p2 p3 v1 v2 v3 : Int) : Int := if stB t p1 p2 p3 v1 v2 v3 then 8 else 0
theorem k_Check (t p1 p2 p3 v1 v2 v3 : Int) (w : World) : Calls Tryz.prog 82 #[.agg #[.int .i64 t, .int .i64 p1, .int .i64 p2, .int .i64 p3, .int .i64 v1, .int .i64 v2, .int .i64 v3]] w fun e w' => e = .returned (.int .i64 (stE t p1 p2 p3 v1 v2 v3)) ∧ Ext w w' := by
 have l0 : IntKind.i64.wrap 0 = 0 := rfl
 have l1 : IntKind.i64.wrap 1 = 1 := rfl
 have l2 : IntKind.i64.wrap 2 = 2 := rfl
 have hs1 := fun w1 => k_out1 p1 p2 p3 w1
 have hs2 := fun w1 => k_out2 v1 v2 v3 w1
 unfold stE stB
 have hq := eqA4 p1 p2 p3
 generalize decide (p1 = 0 ∧ p2 = 0 ∧ p3 = 0) = o3 at hq ⊢
 generalize outB p1 p2 p3 8796093022208 = o1 at hs1 ⊢
 generalize outB v1 v2 v3 1099511627776 = o2 at hs2 ⊢
 by_cases h1 : t < -5000000000000000
 ·exact T_KE_1
 by_cases h2 : 5000000000000000 < t
 ·exact T_KE_1
 cases o3
 rotate_left
 ·exact T_KE_1
 cases o1
 ·cases o2
  ·go_enter Tryz.func82, Tryz.ntmps82
   go_wp2_with (first | (go_at_call 126; (with_reducible refine (hs1 _).mono ?_); rintro e w1 ⟨rfl, hb⟩; obtain ⟨_, _, ⟨hc, hf⟩, hz⟩ := hb.c3; (try simp only [wsz] at hz hc hf)) | (go_at_call 126; (with_reducible refine (hs2 _).mono ?_); rintro e w1 ⟨rfl, hb⟩; obtain ⟨_, _, ⟨hc, hf⟩, hz⟩ := hb.c3; (try simp only [wsz] at hz hc hf)))
   all_goals (
    refine bodyPost_ret (v := .int .i64 0) ?_ rfl ⟨by simp [*], ?_⟩
    ·simp [results, Tryz.results82, go_sem, ↓IntWalk.iteOmega, *]
    ·repeat (first | with_reducible exact Ext.refl _ | with_reducible assumption | with_reducible refine Ext.alloc ?_ _ | with_reducible refine Ext.setCell ?_ c_19 _ | with_reducible refine Ext.drewN ?_ _ | with_reducible refine Ext.drew ?_ | with_reducible refine Ext.trans ?_ c_9))
  ·exact T_KE_1
 ·exact T_KE_1
def rnT (t0 te n : Int) (k : Nat) : Int := t0 + (k : Int) * (te - t0) / n
def rnU (St : Int → Int → V3 → V3 → Tu × Int) (t0 te n : Int) (p v : V3) : Nat → Tu × Int
 | 0 => (⟨t0, t0, V3.O, V3.O, p, v⟩, 0)
 | k + 1 => if (rnU St t0 te n p v k).2 ≠ 0 then rnU St t0 te n p v k else St (rnT t0 te n k) (rnT t0 te n (k + 1)) (rnU St t0 te n p v k).1.p (rnU St t0 te n p v k).1.v
def rnL (St : Int → Int → V3 → V3 → Tu × Int) (t0 te n : Int) (p v : V3) : Nat → List Tu
 | 0 => []
 | k + 1 => rnL St t0 te n p v k ++ [(rnU St t0 te n p v (k + 1)).1]
def stC8 (s : StD) : Int := stE s.t s.x s.y s.z s.u s.v s.r
def rnR (St : Int → Int → V3 → V3 → Tu × Int) (s : StD) (te n : Int) : List Tu × Int :=
 if stC8 s ≠ 0 then ([], stC8 s) else if te < -5000000000000000 ∨ 5000000000000000 < te then ([], 16) else if n < 1 ∨ 200 < n ∨ te - s.t < n then ([], 2)
 else if (rnU St s.t te n (alP s) (alV s) n.toNat).2 ≠ 0 then ([], (rnU St s.t te n (alP s) (alV s) n.toNat).2) else (rnL St s.t te n (alP s) (alV s) n.toNat, 0)
theorem st_val {s : StD} (h : stC8 s = 0) : ckV (alP s) = 0 ∧ ckV (alV s) = 0 ∧ -5000000000000000 ≤ s.t ∧ s.t ≤ 5000000000000000 := by
 unfold stC8 stE at h
 by_cases c : stB s.t s.x s.y s.z s.u s.v s.r = true
 ·rw [if_pos c] at h; exact absurd h (by decide)
 ·have hb := Bool.eq_false_iff.2 c
  unfold stB outB at hb
  simp only [Bool.or_eq_false_iff, decide_eq_false_iff_not] at hb
  have one : ∀ x : Int, -8796093022208 ≤ x → x ≤ 8796093022208 → ckI x x = 0 := fun x h1 h2 => ckI_of ⟨Int.le_refl _, by omega, by omega⟩
  have e : ckV (alP s) = 0 := ckV_of (one s.x (by omega) (by omega)) (one s.y (by omega) (by omega)) (one s.z (by omega) (by omega))
  have f : ckV (alV s) = 0 := ckV_of (one s.u (by omega) (by omega)) (one s.v (by omega) (by omega)) (one s.r (by omega) (by omega))
  exact ⟨e, f, by omega, by omega⟩
variable {St : Int → Int → V3 → V3 → Tu × Int} {t0 te n : Int} {p v : V3}
theorem rnU_up {k : Nat} (h : (rnU St t0 te n p v k).2 ≠ 0) : ∀ j, rnU St t0 te n p v (k + j) = rnU St t0 te n p v k
 | 0 => rfl
 | j + 1 => by
  have ih := rnU_up h j
  show rnU St t0 te n p v ((k + j) + 1) = _
  rw [rnU, if_pos (by rw [ih]; exact h), ih]
theorem rnL_len : ∀ k, (rnL St t0 te n p v k).length = k
 | 0 => rfl
 | k + 1 => by rw [rnL, List.length_append, rnL_len k]; rfl
theorem T_ATC_1 {p : Prop} (h : p := by
 go_enter Tryz.func84, Tryz.ntmps84
 go_upto_region 1 with fail
 refine wp_name fun U hN => ?_
 have e : U = _ := hN
 have k : Ext w U := by rw [e]; exact (Ext.refl _).alloc _
 have b : VB U w.heap.size (tuL t) := by rw [e]; exact VB.lit w (tuL t) 65
 have c : U.cell? ⟨B, 0, none⟩ = some (.int .i64 x) := (k.cells.1 _ 0 hl).trans hB
 have c0 : U.cell? ⟨w.heap.size, 0, none⟩ = some (.int .i64 t.fr) := b.1 0 _ rfl
 have c1 : U.cell? ⟨w.heap.size, 1, none⟩ = some (.int .i64 t.ti) := b.1 1 _ rfl
 clear hN e b
 go_wp2_with fail
 refine bodyPost_ret (v := .bool false) ?_ rfl ⟨rfl, k⟩
 simp [results, Tryz.results84, go_sem, ↓IntWalk.iteOmega, *]) : p := h
def atB (t : Tu) (x : Int) : Bool := decide (t.fr ≤ x) && decide (x ≤ t.ti)
theorem at_in (t : Tu) (x : Int) (B : Nat) (w : World) (hB : w.cell? ⟨B, 0, none⟩ = some (.int .i64 x)) :
    Calls Tryz.prog 84 #[tv t, .pointer (some ⟨B, 0, none⟩)] w fun e w' => e = .returned (.bool (atB t x)) ∧ Ext w w' := by
 have hl := World.block_lt_of_cell? _ _ hB
 unfold tv atB
 by_cases h1 : t.fr ≤ x
 ·by_cases h2 : x ≤ t.ti
  ·rw [decide_eq_true h1, decide_eq_true h2]
   go_enter Tryz.func84, Tryz.ntmps84
   go_upto_region 1 with fail
   refine wp_name fun U hN => ?_
   have e : U = _ := hN
   have k : Ext w U := by rw [e]; exact (Ext.refl _).alloc _
   have b : VB U w.heap.size (tuL t) := by rw [e]; exact VB.lit w (tuL t) 65
   have c : U.cell? ⟨B, 0, none⟩ = some (.int .i64 x) := (k.cells.1 _ 0 hl).trans hB
   have c0 : U.cell? ⟨w.heap.size, 0, none⟩ = some (.int .i64 t.fr) := b.1 0 _ rfl
   have c1 : U.cell? ⟨w.heap.size, 1, none⟩ = some (.int .i64 t.ti) := b.1 1 _ rfl
   clear hN e b
   go_wp2_with fail
   refine bodyPost_ret (v := .bool true) ?_ rfl ⟨rfl, k⟩
   simp [results, Tryz.results84, go_sem, ↓IntWalk.iteOmega, *]
  ·rw [decide_eq_true h1, decide_eq_false h2]
   exact T_ATC_1
 ·rw [decide_eq_false h1]
  exact T_ATC_1
def lvS : StD := ⟨0, 1099511627776, 0, 0, 0, 0, 0⟩
def lvB : V3 := ⟨1, 0, 0, 0, 0, 0⟩
theorem st_bad {E : Int} {l : List BodyD} {fr ti : Int} {p v : V3} {c : Int} (h : ckF E [p, v] fr ti = c) (hc : c ≠ 0) : stR E l fr ti p v = (Tu.O, c) := by
 unfold stR; rw [h, if_pos hc]
theorem fx_1 : stR 0 [] 0 0 lvP V3.O = (Tu.O, 2) := st_bad c_17 (by decide)
theorem fx_2 : stR 0 [] 0 5000000000000001 lvP V3.O = (Tu.O, 16) := st_bad c_17 (by decide)
theorem fx_3 : stR 0 [] 0 1 lvB V3.O = (Tu.O, 8) := st_bad c_17 (by decide)
theorem fx_4 : stR 0 [] 0 1 lvP lvB = (Tu.O, 8) := st_bad c_17 (by decide)
def stD0 (fr ti : Int) (p v : V3) : Tu × Int := if ckF 0 [p, v] fr ti ≠ 0 then (Tu.O, ckF 0 [p, v] fr ti) else stC (paL 0 fr ti) (paH 0 fr ti) fr ti p v 20 p
theorem st_c (fr ti : Int) (p v : V3) : stR 0 [] fr ti p v = stD0 fr ti p v := by
 unfold stR stD0
 by_cases h : ckF 0 [p, v] fr ti = 0
 ·rw [h, if_neg (fun c => c rfl), if_neg (fun c => c rfl)]
  have ha : (fun b => acR 0 [] fr ti b) = acC := funext fun b => acR_nil (by have := (ckF_ok h).2.2.1; omega) b
  rw [ha, stT_c]
 ·rw [if_pos h, if_pos h]
theorem fx_5 : stR 0 [] 0 1 V3.O V3.O = (Tu.O, 24) := by
 rw [st_c]
 have e : stD0 0 1 V3.O V3.O = (Tu.O, 24) := by kernel_rfl
 exact e
theorem fx_6 : stR 0 [] 0 345600000000000 lvP V3.O = (Tu.O, 24) := by
 rw [st_c]
 have e : stD0 0 345600000000000 lvP V3.O = (Tu.O, 24) := by kernel_rfl
 exact e
section
variable (St : Int → Int → V3 → V3 → Tu × Int)
theorem fx_7 : rnR St ⟨0, 0, 0, 0, 0, 0, 0⟩ 5 1 = ([], 8) := by
 have h : stC8 ⟨0, 0, 0, 0, 0, 0, 0⟩ = 8 := by kernel_rfl
 unfold rnR; rw [h]; rfl
theorem fx_c : stC8 lvS = 0 := by kernel_rfl
theorem fx_8 : rnR St lvS 5 6 = ([], 2) := by unfold rnR; rw [fx_c]; rfl
theorem fx_9 : rnR St lvS 500 201 = ([], 2) := by unfold rnR; rw [fx_c]; rfl
theorem fx_10 : rnR St lvS 5000000000000001 1 = ([], 16) := by unfold rnR; rw [fx_c]; rfl
end
theorem fx_11 : ∃ a b c : Tu, rnR (stR 0 []) lvS 5 3 = ([a, b, c], 0) ∧ a.fr = 0 ∧ a.ti = 1 ∧ b.fr = 1 ∧ b.ti = 3 ∧ c.fr = 3 ∧ c.ti = 5 := by
 have hs : stR 0 [] = stD0 := funext fun a => funext fun b => funext fun c => funext fun d => st_c a b c d
 rw [hs]
 have e2 : (rnR stD0 lvS 5 3).2 = 0 := by kernel_rfl
 have e1 : (rnR stD0 lvS 5 3).1.map (fun t => (t.fr, t.ti)) = [(0, 1), (1, 3), (3, 5)] := by kernel_rfl
 generalize rnR stD0 lvS 5 3 = R at *
 obtain ⟨L, e⟩ := R
 dsimp only at e1 e2
 subst e2
 rcases L with _ | ⟨a, _ | ⟨b, _ | ⟨c, _ | ⟨d, L⟩⟩⟩⟩
 ·exact absurd (congrArg List.length e1) (by simp)
 ·exact absurd (congrArg List.length e1) (by simp)
 ·exact absurd (congrArg List.length e1) (by simp)
 ·simp only [List.map_cons, List.map_nil, List.cons.injEq, Prod.mk.injEq] at e1
  exact ⟨a, b, c, rfl, e1.1.1, e1.1.2, e1.2.1.1, e1.2.1.2, e1.2.2.1.1, e1.2.2.1.2⟩
 ·exact absurd (congrArg List.length e1) (by simp)
theorem fx_12 : syV 0 [] ⟨0, 86400000000, lvP, V3.O, lvP, V3.O⟩ lvP V3.O = (false, 0) := by
 unfold syV
 dsimp only
 rw [acR_nil (by decide)]
 have e : syR (ckF 0 [lvP, V3.O, lvP, V3.O, lvP, V3.O] 0 86400000000) (acC lvP) (goR V3.O (acC lvP).v 0 (paH (ckF 0 [lvP, V3.O, lvP, V3.O, lvP, V3.O] 0 86400000000) 0 86400000000)) (goR lvP V3.O 0 (paH (ckF 0 [lvP, V3.O, lvP, V3.O, lvP, V3.O] 0 86400000000) 0 86400000000)) ⟨0, 86400000000, lvP, V3.O, lvP, V3.O⟩ = (false, 0) := by kernel_rfl
 exact e
theorem fx_13 : syV 0 [] ⟨0, 0, lvP, V3.O, lvP, V3.O⟩ lvP V3.O = (false, 2) := by
 have h : ckF 0 [lvP, V3.O, lvP, V3.O, lvP, V3.O] 0 0 = 2 := by kernel_rfl
 unfold syV syR
 dsimp only
 rw [h, if_pos (by decide)]
theorem zb65 (w : World) : VB (w.alloc (.cells #[.int .i64 0, .int .i64 0, .int .i64 0, .int .i64 0, .int .i64 0, .int .i64 0, .int .i64 0, .int .i64 0, .int .i64 0, .int .i64 0, .int .i64 0, .int .i64 0, .int .i64 0, .int .i64 0, .int .i64 0, .int .i64 0, .int .i64 0, .int .i64 0, .int .i64 0, .int .i64 0, .int .i64 0, .int .i64 0, .int .i64 0, .int .i64 0, .int .i64 0, .int .i64 0] 65)) w.heap.size (tuL Tu.O) := VB.lit w (tuL Tu.O) 65
def TuS (w : World) (v : Value) (l : List Tu) : Prop :=
 ∃ ao b o cap, v = .slice ao l.length cap ∧ (0 < l.length → ao = some ⟨b, o, none⟩) ∧ l.length ≤ 200 ∧ (0 < l.length → b < w.heap.size) ∧ ∀ i, i < l.length → w.rangeAt b (o + i * 26) (tvs (l.getD i Tu.O))
theorem TuS.ext {a w : World} {v : Value} {l : List Tu} (h : TuS a v l) (k : Ext a w) : TuS w v l := by
 obtain ⟨ao, b, o, cap, e, h1, h2, h3, h4⟩ := h
 exact ⟨ao, b, o, cap, e, h1, h2, fun h => Nat.lt_of_lt_of_le (h3 h) k.size, fun i hi => Ext.rg k (h3 (by omega)) (h4 i hi)⟩
theorem TuS.nil (w : World) : TuS w (.slice none 0 0) [] := ⟨none, 0, 0, 0, rfl, fun h => absurd h (Nat.lt_irrefl 0), by decide, fun h => absurd h (Nat.lt_irrefl 0), fun i hi => absurd hi (Nat.not_lt_zero _)⟩
structure RnB (w : World) (ao : Option Addr) (m cap : Nat) (s : StD) (U : World) : Prop where
 own : Ext w U
 e : U.cell? ⟨w.heap.size, 0, none⟩ = some (.slice ao m cap)
 s : VB U (w.heap.size + 1) (stL s)
theorem RnB.ext {w U W : World} {ao : Option Addr} {m cap : Nat} {s : StD} (h : RnB w ao m cap s U) (k : Ext U W) : RnB w ao m cap s W :=
 ⟨h.own.trans k, (k.cells.1 _ 0 (by have := h.s.2.2; omega)).trans h.e, h.s.ext k⟩
structure RnA (w : World) (ao : Option Addr) (m cap : Nat) (s : StD) (g : Nat) (P V : List Int) (U : World) : Prop where
 b : RnB w ao m cap s U
 h : w.heap.size + 2 ≤ g
 p : VB U g P
 v : VB U (g + 1) V
section
variable {w U W : World} {ao : Option Addr} {m cap : Nat} {s : StD} {g o : Nat} {P V k : List Int}
theorem RnA.ext (h : RnA w ao m cap s g P V U) (k : Ext U W) : RnA w ao m cap s g P V W := ⟨h.b.ext k, h.h, h.p.ext k, h.v.ext k⟩
theorem RnB.set {B : Nat} {vs : List Value} (h : RnB w ao m cap s U) (r : RowAt W U B o vs) (hB : w.heap.size + 2 ≤ B) : RnB w ao m cap s W :=
 ⟨r.own h.own (by omega), by rw [show W = _ from r]; exact (cell_sets (by omega) vs o U).trans h.e, r.other h.s (by omega)⟩
theorem RnA.sp (h : RnA w ao m cap s g P V U) (r : RowAt W U g o (k.map (Value.int .i64))) (hl : o + k.length ≤ P.length) : RnA w ao m cap s g (setsL P o k) V W :=
 ⟨h.b.set r h.h, h.h, r.vb h.p hl, r.other h.v (by omega)⟩
theorem RnA.sv (h : RnA w ao m cap s g P V U) (r : RowAt W U (g + 1) o (k.map (Value.int .i64))) (hl : o + k.length ≤ V.length) : RnA w ao m cap s g P (setsL V o k) W :=
 ⟨h.b.set r (by have := h.h; omega), h.h, r.other h.p (by omega), r.vb h.v hl⟩
theorem RnA.row {B : Nat} {vs : List Value} (h : RnA w ao m cap s g P V U) (r : RowAt W U B o vs) (hB : g + 2 ≤ B) : RnA w ao m cap s g P V W :=
 ⟨h.b.set r (by have := h.h; omega), h.h, r.other h.p (by omega), r.other h.v (by omega)⟩
theorem grown_cell {B : Nat} (h : U.grownBy W (some B)) {b j : Nat} (hb : b < U.heap.size) (hne : b ≠ B) : W.cell? ⟨b, j, none⟩ = U.cell? ⟨b, j, none⟩ := by
 have := h.block b hb (by simpa using hne)
 simp [World.cell?, this]
theorem grown_frozen {B : Nat} (h : U.grownBy W (some B)) {b j : Nat} (hb : b < U.heap.size) (hne : b ≠ B) : W.frozen? ⟨b, j, none⟩ = U.frozen? ⟨b, j, none⟩ := by
 have := h.block b hb (by simpa using hne)
 simp [World.frozen?, this]
theorem VB.grownAt {B : Nat} {b : Nat} {l : List Int} (h : VB U b l) (r : U.grownBy W (some B)) (hne : b ≠ B) : VB W b l :=
 ⟨fun j x hj => (grown_cell r h.2.2 hne).trans (h.1 j x hj), fun q => (grown_frozen r h.2.2 hne).trans (h.2.1 q), Nat.lt_of_lt_of_le h.2.2 r.size⟩
theorem RnA.grow {B : Nat} (h : RnA w ao m cap s g P V U) (r : U.grownBy W (some B)) (hB : g + 2 ≤ B) : RnA w ao m cap s g P V W :=
 ⟨⟨h.b.own.grownAt r (by have := h.h; omega), (grown_cell r (by have := h.b.s.2.2; omega) (by have := h.h; omega)).trans h.b.e, h.b.s.grownAt r (by have := h.h; omega)⟩, h.h, h.p.grownAt r (by omega), h.v.grownAt r (by omega)⟩
theorem row_keep {base : Nat} {e : TypeId} {size k' : Nat} {v : Value} {xs vs : List Value} {B : Nat} (h : U.ownsRow base e size v k' xs) (r : RowAt W U B o vs) (hB : B < base) : W.ownsRow base e size v k' xs := by
 rw [show W = _ from r]
 clear r
 induction vs generalizing o U with
 | nil => exact h
 | cons x vs ih => exact ih (ownsRow_setCell_below h hB x)
end
theorem flat_tu : ∀ (ls : List Tu) (i : Nat) (hi : i < ls.length) (j : Nat), j < 26 → (ls.flatMap tvs)[i * 26 + j]? = (tvs ls[i])[j]?
 | [], i, hi, _, _ => absurd hi (by simp)
 | s :: ls, 0, _, j, hj => by
  rw [List.flatMap_cons, List.getElem?_append_left (by show 0 * 26 + j < 26; omega)]
  simp
 | s :: ls, i + 1, hi, j, hj => by
  have h26 : (tvs s).length = 26 := rfl
  rw [List.flatMap_cons, List.getElem?_append_right (by rw [h26]; omega), h26]
  have := flat_tu ls i (by simpa using hi) j hj
  rw [show (i + 1) * 26 + j - 26 = i * 26 + j by omega, this]
  simp
theorem ownsRow_tus {W : World} {base g cap : Nat} {ls : List Tu} (h : W.ownsRow base 65 26 (.slice (some ⟨g, 0, none⟩) ls.length cap) ls.length (ls.flatMap tvs)) (hl : ls.length ≤ 200) : TuS W (.slice (some ⟨g, 0, none⟩) ls.length cap) ls := by
 have hc := fun j hj => World.ownsRow.cellAt h j hj
 obtain ⟨h0, h⟩ := h
 rcases h with ⟨e, _⟩ | ⟨g', cap', cur, e, hb, hg, h1, h2, h3, h4⟩
 ·cases e
 ·cases e
  have hlt := (Array.getElem?_eq_some_iff.1 hg).1
  refine ⟨_, g, 0, cap, rfl, fun _ => rfl, hl, fun _ => hlt, fun i hi => ?_⟩
  intro j u hj
  have hj26 : j < 26 := by
   have := (List.getElem?_eq_some_iff.1 hj).1
   exact this
  have e := flat_tu ls i hi j hj26
  have e2 : ls.getD i Tu.O = ls[i] := by rw [List.getD_eq_getElem?_getD, List.getElem?_eq_getElem hi]; rfl
  rw [e2] at hj
  rw [show 0 + i * 26 + j = i * 26 + j by omega]
  exact (hc (i * 26 + j) (by omega)).trans (e.trans hj)
theorem ty65 : ∃ i z, Tryz.prog.info? 65 = some i ∧ i.zero = some z ∧ i.size = 26 ∧ i.bytes = 208 := by
 obtain ⟨i, hi⟩ : ∃ i, Tryz.prog.info? 65 = some i := Option.isSome_iff_exists.1 c_17
 obtain ⟨z, hz⟩ : ∃ z, i.zero = some z := by
  have h : ((Tryz.prog.info? 65).bind (·.zero)).isSome = true := by kernel_rfl
  rw [hi] at h; exact Option.isSome_iff_exists.1 h
 refine ⟨i, z, hi, hz, ?_, ?_⟩
 ·have h : (Tryz.prog.info? 65).map (·.size) = some 26 := by kernel_rfl
  rw [hi] at h; exact Option.some.inj h
 ·have h : (Tryz.prog.info? 65).map (·.bytes) = some 208 := by kernel_rfl
  rw [hi] at h; exact Option.some.inj h
theorem rn_at {j L n t : Int} (h1 : 1 ≤ n) (h2 : n ≤ 200) (j0 : 0 ≤ j) (j1 : j ≤ n) (L0 : 0 ≤ L) (L1 : L ≤ 10000000000000000) (t0 : -5000000000000000 ≤ t) (t1 : t ≤ 5000000000000000) :
    IntKind.i64.wrap (t + IntKind.i64.wrap ((IntKind.i64.wrap (j * L)).tdiv n)) = t + j * L / n := by
 have a := Int.mul_le_mul_of_nonneg_right (show j ≤ 200 by omega) L0
 have b := Int.mul_nonneg j0 L0
 have c := Int.mul_le_mul_of_nonneg_right j1 L0
 have d : j * L / n ≤ L := by
  have := Int.ediv_le_ediv (show 0 < n by omega) c
  rwa [Int.mul_ediv_cancel_left _ (show n ≠ 0 by omega)] at this
 have e : 0 ≤ j * L / n := Int.ediv_nonneg b (by omega)
 simp only [IntWalk.i64_left]
 show wrap64 (t + wrap64 ((wrap64 (j * L)).tdiv n)) = _
 rw [w64_in (x := j * L) (by omega), Int.tdiv_eq_ediv_of_nonneg b, w64_in (x := j * L / n) (by omega), w64_in (by omega)]
def RnI (w : World) (ao : Option Addr) (m cap : Nat) (s : StD) (St : Int → Int → V3 → V3 → Tu × Int) (te n : Int) (g q N k : Nat) (wx : World) : Prop :=
 (rnU St s.t te n (alP s) (alV s) k).2 = 0 ∧ (rnU St s.t te n (alP s) (alV s) k).1.v.I ∧ RnA w ao m cap s g (six (rnU St s.t te n (alP s) (alV s) k).1.p) (six (rnU St s.t te n (alP s) (alV s) k).1.v) wx ∧
  wx.ownsRow (g + 2) 65 26 (.slice (some ⟨q, 0, none⟩) k N) k ((rnL St s.t te n (alP s) (alV s) k).flatMap tvs)
theorem rn_fill (t : Tu) {i : TypeInfo} {z : Value} (hz : i.zero = some z) (h0 : Tryz.prog.info? 65 = some i) (hs : i.size = 26) :
    Instr.fill (fun j => some (j * i.size, i.size)) ((Array.range (1 * i.size)).map (z.cells[· % z.cells.size]!)) [(0, .agg (tvs t).toArray)] = some (tvs t).toArray := by
 have e : (Tryz.prog.info? 65).bind (·.zero) = some (.agg (tvs Tu.O).toArray) := by kernel_rfl
 rw [h0] at e
 have e2 : z = .agg (tvs Tu.O).toArray := by
  have := hz.symm.trans e
  exact Option.some.inj this
 subst e2
 rw [hs]
 have e3 : (Array.range (1 * 26)).map ((Value.agg (tvs Tu.O).toArray).cells[· % (Value.agg (tvs Tu.O).toArray).cells.size]!) = (tvs Tu.O).toArray := by kernel_rfl
 rw [e3]
 simp [Instr.fill, tvs, Value.cells, Array.zipIdx]
end Go.Proofs.YtbkgakgdbmjmjaaGreat
