/- The reference of trig: rounded.; The gravitation of the Sun: both. -/
import Derived.Test.YtogblocakccbgaaGreatJ00
import Derived.Test.YtogblocakccbgaaGreatJ32
import Derived.Test.YtogblocakccbgaaGreatJ24
import Derived.Test.YtogblocakccbgaaGreatJ11
import Derived.Test.YtogblocakccbgaaGreatJ15
import Derived.Test.YtogblocakccbgaaGreatJ20
import Derived.Test.YtogblocakccbgaaGreatJ25
import Derived.Test.YtogblocakccbgaaGreatJ29
import Derived.Test.YtogblocakccbgaaGreatJ19
import Derived.Test.YtogblocakccbgaaGreatJ31
set_option linter.unusedSimpArgs false
set_option linter.unusedVariables false
set_option maxRecDepth 100000
set_option maxHeartbeats 4000000
namespace Go.Proofs.YtogblocakccbgaaGreat
open Go.RowKit
theorem T_RRO_10 {p : Prop} (h : p := by
 intro w0 hSw; have q0 := (hSw.cells.1 w.heap.size 0 hWl).trans b0; have q1 := (hSw.cells.1 w.heap.size 1 hWl).trans b1; have q2 := (hSw.cells.1 w.heap.size 2 hWl).trans b2; have q3 := (hSw.cells.1 w.heap.size 3 hWl).trans b3; go_simp; try with_reducible rfl) : p := h
theorem T_RRO_9 {p : Prop} (h : p := by
 refine wpAnyH_ready (rs := [9]) c_4 (by simp) ?_
 refine rd1 rfl fun K hK => ?_
 go_simp
 (try rw [hwk.out])
 (go_at_call 68; (with_reducible refine (hd9 _ _ (hp9.ext hH)).mono ?_); rintro e w9 ⟨y9, rfl, hy9, hx⟩)
 replace hf4 := hf4.ext hx
 replace hbk6 := hbk6.ext hx
 replace hbk7 := hbk7.ext hx
 exact T_RRO_7) : p := h
theorem T_RRO_8 {p : Prop} (h : p := by
 refine wpAnyH_ready (rs := [9]) c_4 (by simp) ?_
 refine rd1 rfl fun K hK => ?_
 go_simp
 (try rw [hwk.out])
 (go_at_call 68; (with_reducible refine (hd9 _ _ (hp9.ext hH)).mono ?_); rintro e w9 ⟨y9, rfl, hy9, hx⟩)
 replace hf4 := hf4.ext hx
 replace hbk7 := hbk7.ext hx
 replace hbk6 := hbk6.ext hx
 exact T_RRO_7) : p := h
theorem T_RRO_7 {p : Prop} (h : p := by
 obtain ⟨s9, ao9, n9, cap9, rfl, hf9⟩ := hy9.open
 refine hK.out _ _ ?_ (fun hN => ?_)
 ·(try dsimp only); exact Ext.trans hH hx
 clear hK K hH
 have hH := hN
 clear hN
 try simp only [sx_]
 exact T_RRO_1) : p := h
theorem T_RRO_6 {p : Prop} (h : p := by
 refine wpAnyH_ready (rs := [11]) c_4 (by simp) ?_
 refine rd1 rfl fun K hK => ?_
 obtain ⟨hbk7, hge7⟩ := fresh_of (W := W) hH
 have hlt6 := hbk6.2.2.2.2
 replace hbk6 := hbk6.ext ((Ext.refl _).alloc (.cells #[.bool false, .slice none 0 0] 24))
 replace hf4 := hf4.ext ((Ext.refl _).alloc (.cells #[.bool false, .slice none 0 0] 24))
 replace hf9 := hf9.ext ((Ext.refl _).alloc (.cells #[.bool false, .slice none 0 0] 24))
 go_simp
 refine hK.out _ _ ?_ (fun hN => ?_)
 ·(try dsimp only); exact Ext.alloc hH _
 clear hK K hH
 have hH := hN
 clear hN
 try simp only [sx_]
 refine wpAnyH_name fun Y7 hY7 => ?_
 rw [hY7] at hH hbk7 hbk6 hf4 hf9
 clear hY7
 exact T_RRO_1) : p := h
theorem T_RRO_5 {p : Prop} (h : p := by
 refine wpAnyH_ready (rs := [10]) c_4 (by simp) ?_
 refine rd1 rfl fun K hK => ?_
 obtain ⟨hbk6, hge6⟩ := fresh_of (W := W) hH
 have hlt7 := hbk7.2.2.2.2
 replace hbk7 := hbk7.ext ((Ext.refl _).alloc (.cells #[.bool false, .slice none 0 0] 24))
 replace hf4 := hf4.ext ((Ext.refl _).alloc (.cells #[.bool false, .slice none 0 0] 24))
 replace hf9 := hf9.ext ((Ext.refl _).alloc (.cells #[.bool false, .slice none 0 0] 24))
 go_simp
 refine hK.out _ _ ?_ (fun hN => ?_)
 ·(try dsimp only); exact Ext.alloc hH _
 clear hK K hH
 have hH := hN
 clear hN
 try simp only [sx_]
 refine wpAnyH_name fun Y6 hY6 => ?_
 rw [hY6] at hH hbk6 hbk7 hf4 hf9
 clear hY6
 exact T_RRO_1) : p := h
theorem T_RRO_4 {p : Prop} (h : p := by
 rw [rounds_succ]
 go_wp2_with fail
 go_ret2
 exact ⟨by first | rfl | (congr 4; omega), ex_⟩) : p := h
theorem T_RRO_3 {p : Prop} (h : p := by
 refine wpAnyH_ready (rs := [9, 10]) c_4 (by simp) ?_
 refine rd2 rfl rfl (fun K hK => ?_) fun K hK => ?_
 ·go_simp
  (try rw [hwk.out])
  (go_at_call 68; (with_reducible refine (hd9 _ _ (hp9.ext hH)).mono ?_); rintro e w9 ⟨y9, rfl, hy9, hx⟩)
  replace hf4 := hf4.ext hx
  replace hbk7 := hbk7.ext hx
  obtain ⟨s9, ao9, n9, cap9, rfl, hf9⟩ := hy9.open
  refine hK.out _ _ ?_ (fun hN => ?_)
  ·(try dsimp only); exact Ext.trans hH hx
  clear hK K hH
  have hH := hN
  clear hN
  try simp only [sx_]
  exact T_RRO_5
 ·obtain ⟨hbk6, hge6⟩ := fresh_of (W := W) hH
  have hlt7 := hbk7.2.2.2.2
  replace hbk7 := hbk7.ext ((Ext.refl _).alloc (.cells #[.bool false, .slice none 0 0] 24))
  replace hf4 := hf4.ext ((Ext.refl _).alloc (.cells #[.bool false, .slice none 0 0] 24))
  go_simp
  refine hK.out _ _ ?_ (fun hN => ?_)
  ·(try dsimp only); exact Ext.alloc hH _
  clear hK K hH
  have hH := hN
  clear hN
  try simp only [sx_]
  refine wpAnyH_name fun Y6 hY6 => ?_
  rw [hY6] at hH hbk6 hbk7 hf4
  clear hY6
  exact T_RRO_8) : p := h
theorem T_RRO_2 {p : Prop} (h : p := by
 refine wpAnyH_ready (rs := [9, 11]) c_4 (by simp) ?_
 refine rd2 rfl rfl (fun K hK => ?_) fun K hK => ?_
 ·go_simp
  (try rw [hwk.out])
  (go_at_call 68; (with_reducible refine (hd9 _ _ (hp9.ext hH)).mono ?_); rintro e w9 ⟨y9, rfl, hy9, hx⟩)
  replace hf4 := hf4.ext hx
  replace hbk6 := hbk6.ext hx
  obtain ⟨s9, ao9, n9, cap9, rfl, hf9⟩ := hy9.open
  refine hK.out _ _ ?_ (fun hN => ?_)
  ·(try dsimp only); exact Ext.trans hH hx
  clear hK K hH
  have hH := hN
  clear hN
  try simp only [sx_]
  exact T_RRO_6
 ·obtain ⟨hbk7, hge7⟩ := fresh_of (W := W) hH
  have hlt6 := hbk6.2.2.2.2
  replace hbk6 := hbk6.ext ((Ext.refl _).alloc (.cells #[.bool false, .slice none 0 0] 24))
  replace hf4 := hf4.ext ((Ext.refl _).alloc (.cells #[.bool false, .slice none 0 0] 24))
  go_simp
  refine hK.out _ _ ?_ (fun hN => ?_)
  ·(try dsimp only); exact Ext.alloc hH _
  clear hK K hH
  have hH := hN
  clear hN
  try simp only [sx_]
  refine wpAnyH_name fun Y7 hY7 => ?_
  rw [hY7] at hH hbk7 hbk6 hf4
  clear hY7
  exact T_RRO_9) : p := h
theorem T_RRO_1 {p : Prop} (h : p := by
 refine wpAnyH_ready (rs := [12]) c_4 (by simp) ?_
 refine rd1 rfl fun K hK => ?_
 obtain ⟨⟨xa, h3a⟩, ⟨xb, h3b⟩, h3f, hnu6, hsl6⟩ := id hbk6
 have hst6 := Bx2.store hbk6 hf4
 have hn6 := hbk6.2.2.2.1
 have hgb := gb_store hbk6 (.bool s4) (.slice ao4 n4 cap4)
 replace hf9 := hf9.grown hn6 hgb
 replace hbk7 := hbk7.grown hgb (by omega)
 go_simp
 refine hK.out _ _ ?_ (fun hN => ?_)
 ·(try dsimp only); exact Ext.setCell (Ext.setCell hH hge6 _) hge6 _
 clear hK K hH
 have hH := hN
 clear hN
 try simp only [sx_]
 refine wpAnyH_name fun Z hZ => ?_
 rw [hZ] at hH hst6 hf9 hbk7
 clear hZ
 refine wpAnyH_ready (rs := [13]) c_4 (by simp) ?_
 refine rd1 rfl fun K hK => ?_
 obtain ⟨⟨xa, h3a⟩, ⟨xb, h3b⟩, h3f, hnu7, hsl7⟩ := id hbk7
 have hst7 := Bx2.store hbk7 hf9
 have hst6' := WAt.other (j := 1) (v := .slice ao9 n9 cap9) (WAt.other (j := 0) (v := .bool s9) hst6 (by omega) hnu7) (by omega) (NoU.set hnu7 (fun z e => by cases e))
 go_simp
 refine hK.out _ _ ?_ (fun hN => ?_)
 ·(try dsimp only); exact Ext.setCell (Ext.setCell hH hge7 _) hge7 _
 clear hK K hH
 have hH := hN
 clear hN
 try simp only [sx_]
 refine wpAnyH_done c_4 ?_ _
 go_wp2_with fail
 go_meet
 exact ⟨_, _, rfl, rfl, hH, hge6, hge7, hst6', hst7⟩) : p := h
theorem wpAnyH_name {P : Program} {md : Region.Mode} {ops : Array Oper} {Q : Exit → Act → World → Prop} {S : World → Prop} {fuel : Nat} {listed : Array Bool} {a : Act} {X : World} (h : ∀ Y, X = Y → wpAnyH P md ops Q S fuel listed a Y) : wpAnyH P md ops Q S fuel listed a X := h X rfl
theorem gb_store {w : World} {g : Nat} (h : Bx2 w g) (s u : Value) : GB g w ((w.setCell ⟨g, 0, none⟩ s).setCell ⟨g, 1, none⟩ u) := ((GB.refl g w).set s).set u
theorem r_Int0 (va u : Value) (w : World) (hva : va = .agg #[.bool false, u]) (hu : Lim w u [])
    (hck : ∀ w1, Ext w w1 → Calls Tryz.prog 129 #[va] w1 fun e w' => e = .returned (.int .i64 0) ∧ Ext w1 w') :
    Calls Tryz.prog 70 #[va] w fun e w' => e = .returned (.tuple #[.int .i64 (0), .int .i64 0]) ∧ Ext w w' := by
 subst hva
 obtain ⟨ao, b1, o1, cap1, rfl, v1, v2, v3, v4, v5, v6⟩ := hu.view
 clear v1 v5 v4 v6 hu
 simp only [List.length_cons, List.length_nil, Nat.zero_add, Nat.reduceAdd] at v2 hck ⊢
 go_enter Tryz.func70, Tryz.ntmps70
 go_wp2_with (go_at_call 129; (with_reducible refine (hck _ ex_).mono ?_); rintro e w1 ⟨rfl, hb⟩; obtain ⟨_, _, hc, hf⟩ := hb.cells2; have hz := hb.size; (try simp only [wsz] at hz hc hf))
 refine wp_loop_rounds 1 ?_
 exact T_RRO_4
theorem r_Int1 (a : Int) (va u : Value) (w : World) (hva : va = .agg #[.bool false, u]) (hu : Lim w u [a])
    (hck : ∀ w1, Ext w w1 → Calls Tryz.prog 129 #[va] w1 fun e w' => e = .returned (.int .i64 0) ∧ Ext w1 w') :
    Calls Tryz.prog 70 #[va] w fun e w' => e = .returned (.tuple #[.int .i64 (a), .int .i64 0]) ∧ Ext w w' := by
 subst hva
 obtain ⟨ao, b1, o1, cap1, rfl, v1, v2, v3, v4, v5, v6⟩ := hu.view
 have haU : U32 a := (hu.lb.getD 0)
 have e0 := v1 (by simp)
 subst e0
 have hl0 := v5 0 (by simp)
 have hbl := v4 (by simp)
 simp only [List.getD_cons_zero, List.getD_cons_succ, Nat.add_zero] at hl0
 unfold U32 at haU
 clear v1 v5 v4 v6 hu
 simp only [List.length_cons, List.length_nil, Nat.zero_add, Nat.reduceAdd] at v2 hck ⊢
 go_enter Tryz.func70, Tryz.ntmps70
 go_wp2_with (go_at_call 129; (with_reducible refine (hck _ ex_).mono ?_); rintro e w1 ⟨rfl, hb⟩; obtain ⟨_, _, hc, hf⟩ := hb.cells2; have hz := hb.size; (try simp only [wsz] at hz hc hf))
 refine wp_loop_rounds 2 ?_
 rw [rounds_succ]
 go_wp2_with fail
 exact T_RRO_4
theorem r_Int2 (a b : Int) (va u : Value) (w : World) (hva : va = .agg #[.bool false, u]) (hu : Lim w u [a, b]) (hlt : a + b * 4294967296 < 9223372036854775808)
    (hck : ∀ w1, Ext w w1 → Calls Tryz.prog 129 #[va] w1 fun e w' => e = .returned (.int .i64 0) ∧ Ext w1 w') :
    Calls Tryz.prog 70 #[va] w fun e w' => e = .returned (.tuple #[.int .i64 (a + b * 4294967296), .int .i64 0]) ∧ Ext w w' := by
 subst hva
 obtain ⟨ao, b1, o1, cap1, rfl, v1, v2, v3, v4, v5, v6⟩ := hu.view
 have haU : U32 a := (hu.lb.getD 0)
 have e0 := v1 (by simp)
 subst e0
 have hl0 := v5 0 (by simp)
 have hbl := v4 (by simp)
 simp only [List.getD_cons_zero, List.getD_cons_succ, Nat.add_zero] at hl0
 have hbU : U32 b := (hu.lb.getD 1)
 have hl1 := v5 1 (by simp)
 simp only [List.getD_cons_zero, List.getD_cons_succ] at hl1
 have hsh : b * 4294967296 + a = a + b * 4294967296 := by omega
 unfold U32 at haU
 unfold U32 at hbU
 clear v1 v5 v4 v6 hu
 simp only [List.length_cons, List.length_nil, Nat.zero_add, Nat.reduceAdd] at v2 hck ⊢
 go_enter Tryz.func70, Tryz.ntmps70
 go_wp2_with (go_at_call 129; (with_reducible refine (hck _ ex_).mono ?_); rintro e w1 ⟨rfl, hb⟩; obtain ⟨_, _, hc, hf⟩ := hb.cells2; have hz := hb.size; (try simp only [wsz] at hz hc hf))
 refine wp_loop_rounds 3 ?_
 rw [rounds_succ]
 go_wp2_with fail
 rw [rounds_succ]
 go_wp2_with fail
 exact T_RRO_4
theorem r_Int (va : Value) (n : Nat) (w : World) (ha : Nn w va n) (h1 : n ≤ 9223372036854775807) :
    Calls Tryz.prog 70 #[va] w fun e w' => e = .returned (.tuple #[.int .i64 n, .int .i64 0]) ∧ Ext w w' := by
 have hs : Small n := dig_bits (k := 64) (L := 4096) (by omega) (by decide)
 have hl2 : (dig n).length ≤ 2 := dig_bits (k := 64) (L := 2) (by omega) (by decide)
 have hck := fun w1 (k1 : Ext w w1) => r_Check va n w1 (ha.ext k1) hs
 obtain ⟨u, hva, hu⟩ := ha
 have hv := dig_val n
 have hB : BB = 4294967296 := rfl
 rcases two_limbs hl2 with e | ⟨a, e⟩ | ⟨a, b, e⟩
 ·rw [e] at hv hu
  simp only [val] at hv
  rw [← hv]
  exact r_Int0 va u w hva hu hck
 ·rw [e] at hv hu
  simp only [val] at hv
  rw [hB] at hv
  rw [show (n : Int) = a by omega]
  exact r_Int1 a va u w hva hu hck
 ·rw [e] at hv hu
  simp only [val] at hv
  rw [hB] at hv
  rw [show (n : Int) = a + b * 4294967296 by omega]
  exact r_Int2 a b va u w hva hu (by omega) hck
theorem q_rounded (vb : Value) (lo hi : Int) (q : Nat) (w : World) (hp : PairV w vb lo hi) (hs1 : Sz lo) (hs2 : Sz hi) (hq1 : lo / 2 ^ 60 = (q : Int)) (hq2 : hi / 2 ^ 60 = (q : Int)) (hq3 : q ≤ 9000000000000000000) :
    Calls Tryz.prog 34 #[vb, .int .i64 100] w fun e w' => e = .returned (.tuple #[.agg #[.int .i64 q, .int .i64 ((q : Int) + 1)], .bool true]) ∧ Ext w w' := by
 obtain ⟨sa, ua, sb, ub, rfl, hA, hB⟩ := hp
 obtain ⟨_, aoA, nA, capA, eA, hA'⟩ := hA.open
 cases eA
 obtain ⟨_, aoB, nB, capB, eB, hB'⟩ := hB.open
 cases eB
 clear hA hB
 have hd4 : ∀ v w1, Wid w1 v lo → Calls Tryz.prog 68 #[v, .int .i64 60] w1 fun e w' => ∃ u, e = .returned u ∧ Wid w' u (q : Int) ∧ Ext w1 w' := fun v w1 h => by
  have := q_down v lo 60 w1 h hs1 (by decide) (by decide)
  rw [hq1] at this; exact this
 have hd9 : ∀ v w1, Wid w1 v hi → Calls Tryz.prog 68 #[v, .int .i64 60] w1 fun e w' => ∃ u, e = .returned u ∧ Wid w' u (q : Int) ∧ Ext w1 w' := fun v w1 h => by
  have := q_down v hi 60 w1 h hs2 (by decide) (by decide)
  rw [hq2] at this; exact this
 have hwk : Hid (IntKind.i64.wrap 60 = 60) := by show _ = _; rw [IntKind.wrap_i64]; rfl
 clear hq1 hq2 hs1 hs2
 go_enter Tryz.func34, Tryz.ntmps34
 go_upto_region 1 with fail
 obtain ⟨W, hW⟩ : ∃ W, (w.alloc (.cells #[.bool sa, .slice aoA nA capA, .bool sb, .slice aoB nB capB] 68)).alloc (.cells #[.int .i64 0, .int .i64 0] 31) = W := ⟨_, rfl⟩
 have b0 : W.cell? ⟨w.heap.size, 0, none⟩ = some (.bool sa) := by rw [← hW]; simp [go_sem, ↓IntWalk.iteOmega]
 have b1 : W.cell? ⟨w.heap.size, 1, none⟩ = some (.slice aoA nA capA) := by rw [← hW]; simp [go_sem, ↓IntWalk.iteOmega]
 have b2 : W.cell? ⟨w.heap.size, 2, none⟩ = some (.bool sb) := by rw [← hW]; simp [go_sem, ↓IntWalk.iteOmega]
 have b3 : W.cell? ⟨w.heap.size, 3, none⟩ = some (.slice aoB nB capB) := by rw [← hW]; simp [go_sem, ↓IntWalk.iteOmega]
 have c0 : W.cell? ⟨w.heap.size + 1, 0, none⟩ = some (.int .i64 0) := by rw [← hW]; simp [go_sem, ↓IntWalk.iteOmega]
 have c1 : W.cell? ⟨w.heap.size + 1, 1, none⟩ = some (.int .i64 0) := by rw [← hW]; simp [go_sem, ↓IntWalk.iteOmega]
 have c2 : ∀ o, W.frozen? ⟨w.heap.size + 1, o, none⟩ = false := fun o => by rw [← hW]; simp [go_sem, ↓IntWalk.iteOmega]
 have hEW : Ext w W := by rw [← hW]; exact ((Ext.refl w).alloc _).alloc _
 have hWs : W.heap.size = w.heap.size + 1 + 1 := by rw [← hW]; simp
 have hWl : w.heap.size < W.heap.size := by omega
 rw [hW]
 clear hW
 have hp4 := hA'.ext hEW
 have hp9 := hB'.ext hEW
 go_cut [6, 7, 14, 19] (fun s6 s7 s14 s19 wx => ∃ g h, s6 = .pointer (some ⟨g, 0, none⟩) ∧ s7 = .pointer (some ⟨h, 0, none⟩) ∧ Ext W wx ∧ W.heap.size ≤ g ∧ W.heap.size ≤ h ∧ WAt wx g (q : Int) ∧ WAt wx h (q : Int))
 case first =>
  refine wp_region_held_drew (S := (fun w0 => Ext W w0)) c_4 ?_ (fun hH => ?_)
  ·exact (Ext.refl _).drew
  try simp only [sx_]
  refine wpAnyH_name fun Y0 hY0 => ?_
  rw [hY0] at hH
  clear hY0
  refine tk 0 rfl c_0 ?_
  try simp only [sx_]
  refine tk (v := ?_) 1 rfl ?_ ?_
  rotate_left
  ·exact T_RRO_10
  try simp only [sx_]
  refine tk 2 rfl c_0 ?_
  try simp only [sx_]
  refine tk 3 rfl c_0 ?_
  try simp only [sx_]
  refine tk 5 rfl c_0 ?_
  try simp only [sx_]
  refine tk (v := ?_) 6 rfl ?_ ?_
  rotate_left
  ·exact T_RRO_10
  try simp only [sx_]
  refine tk 7 rfl c_0 ?_
  try simp only [sx_]
  refine tk 8 rfl c_0 ?_
  try simp only [sx_]
  refine wpAnyH_ready (rs := [4, 10, 11]) c_4 (by simp) ?_
  refine AllReadyH.cons (o := _) rfl (fun K hK => ?_) (AllReadyH.cons (o := _) rfl (fun K hK => ?_) (AllReadyH.cons (o := _) rfl (fun K hK => ?_) AllReadyH.nil))
  ·go_simp
   (try rw [hwk.out])
   (go_at_call 68; (with_reducible refine (hd4 _ _ (hp4.ext hH)).mono ?_); rintro e w4 ⟨y4, rfl, hy4, hx⟩)
   obtain ⟨s4, ao4, n4, cap4, rfl, hf4⟩ := hy4.open
   refine hK.out _ _ ?_ (fun hN => ?_)
   ·(try dsimp only); exact Ext.trans hH hx
   clear hK K hH
   have hH := hN
   clear hN
   try simp only [sx_]
   refine wpAnyH_ready (rs := [9, 10, 11]) c_4 (by simp) ?_
   refine AllReadyH.cons (o := _) rfl (fun K hK => ?_) (AllReadyH.cons (o := _) rfl (fun K hK => ?_) (AllReadyH.cons (o := _) rfl (fun K hK => ?_) AllReadyH.nil))
   ·go_simp
    (try rw [hwk.out])
    (go_at_call 68; (with_reducible refine (hd9 _ _ (hp9.ext hH)).mono ?_); rintro e w9 ⟨y9, rfl, hy9, hx⟩)
    replace hf4 := hf4.ext hx
    obtain ⟨s9, ao9, n9, cap9, rfl, hf9⟩ := hy9.open
    refine hK.out _ _ ?_ (fun hN => ?_)
    ·(try dsimp only); exact Ext.trans hH hx
    clear hK K hH
    have hH := hN
    clear hN
    try simp only [sx_]
    refine wpAnyH_ready (rs := [10, 11]) c_4 (by simp) ?_
    refine rd2 rfl rfl (fun K hK => ?_) fun K hK => ?_
    ·obtain ⟨hbk6, hge6⟩ := fresh_of (W := W) hH
     replace hf4 := hf4.ext ((Ext.refl _).alloc (.cells #[.bool false, .slice none 0 0] 24))
     replace hf9 := hf9.ext ((Ext.refl _).alloc (.cells #[.bool false, .slice none 0 0] 24))
     go_simp
     refine hK.out _ _ ?_ (fun hN => ?_)
     ·(try dsimp only); exact Ext.alloc hH _
     clear hK K hH
     have hH := hN
     clear hN
     try simp only [sx_]
     refine wpAnyH_name fun Y6 hY6 => ?_
     rw [hY6] at hH hbk6 hf4 hf9
     clear hY6
     exact T_RRO_6
    ·obtain ⟨hbk7, hge7⟩ := fresh_of (W := W) hH
     replace hf4 := hf4.ext ((Ext.refl _).alloc (.cells #[.bool false, .slice none 0 0] 24))
     replace hf9 := hf9.ext ((Ext.refl _).alloc (.cells #[.bool false, .slice none 0 0] 24))
     go_simp
     refine hK.out _ _ ?_ (fun hN => ?_)
     ·(try dsimp only); exact Ext.alloc hH _
     clear hK K hH
     have hH := hN
     clear hN
     try simp only [sx_]
     refine wpAnyH_name fun Y7 hY7 => ?_
     rw [hY7] at hH hbk7 hf4 hf9
     clear hY7
     exact T_RRO_5
   ·obtain ⟨hbk6, hge6⟩ := fresh_of (W := W) hH
    replace hf4 := hf4.ext ((Ext.refl _).alloc (.cells #[.bool false, .slice none 0 0] 24))
    go_simp
    refine hK.out _ _ ?_ (fun hN => ?_)
    ·(try dsimp only); exact Ext.alloc hH _
    clear hK K hH
    have hH := hN
    clear hN
    try simp only [sx_]
    refine wpAnyH_name fun Y6 hY6 => ?_
    rw [hY6] at hH hbk6 hf4
    clear hY6
    exact T_RRO_2
   ·obtain ⟨hbk7, hge7⟩ := fresh_of (W := W) hH
    replace hf4 := hf4.ext ((Ext.refl _).alloc (.cells #[.bool false, .slice none 0 0] 24))
    go_simp
    refine hK.out _ _ ?_ (fun hN => ?_)
    ·(try dsimp only); exact Ext.alloc hH _
    clear hK K hH
    have hH := hN
    clear hN
    try simp only [sx_]
    refine wpAnyH_name fun Y7 hY7 => ?_
    rw [hY7] at hH hbk7 hf4
    clear hY7
    exact T_RRO_3
  ·obtain ⟨hbk6, hge6⟩ := fresh_of (W := W) hH
   go_simp
   refine hK.out _ _ ?_ (fun hN => ?_)
   ·(try dsimp only); exact Ext.alloc hH _
   clear hK K hH
   have hH := hN
   clear hN
   try simp only [sx_]
   refine wpAnyH_name fun Y6 hY6 => ?_
   rw [hY6] at hH hbk6
   clear hY6
   refine wpAnyH_ready (rs := [4, 11]) c_4 (by simp) ?_
   refine rd2 rfl rfl (fun K hK => ?_) fun K hK => ?_
   ·go_simp
    (try rw [hwk.out])
    (go_at_call 68; (with_reducible refine (hd4 _ _ (hp4.ext hH)).mono ?_); rintro e w4 ⟨y4, rfl, hy4, hx⟩)
    replace hbk6 := hbk6.ext hx
    obtain ⟨s4, ao4, n4, cap4, rfl, hf4⟩ := hy4.open
    refine hK.out _ _ ?_ (fun hN => ?_)
    ·(try dsimp only); exact Ext.trans hH hx
    clear hK K hH
    have hH := hN
    clear hN
    try simp only [sx_]
    exact T_RRO_2
   ·obtain ⟨hbk7, hge7⟩ := fresh_of (W := W) hH
    have hlt6 := hbk6.2.2.2.2
    replace hbk6 := hbk6.ext ((Ext.refl _).alloc (.cells #[.bool false, .slice none 0 0] 24))
    go_simp
    refine hK.out _ _ ?_ (fun hN => ?_)
    ·(try dsimp only); exact Ext.alloc hH _
    clear hK K hH
    have hH := hN
    clear hN
    try simp only [sx_]
    refine wpAnyH_name fun Y7 hY7 => ?_
    rw [hY7] at hH hbk7 hbk6
    clear hY7
    refine wpAnyH_ready (rs := [4]) c_4 (by simp) ?_
    refine rd1 rfl fun K hK => ?_
    go_simp
    (try rw [hwk.out])
    (go_at_call 68; (with_reducible refine (hd4 _ _ (hp4.ext hH)).mono ?_); rintro e w4 ⟨y4, rfl, hy4, hx⟩)
    replace hbk6 := hbk6.ext hx
    replace hbk7 := hbk7.ext hx
    obtain ⟨s4, ao4, n4, cap4, rfl, hf4⟩ := hy4.open
    refine hK.out _ _ ?_ (fun hN => ?_)
    ·(try dsimp only); exact Ext.trans hH hx
    clear hK K hH
    have hH := hN
    clear hN
    try simp only [sx_]
    exact T_RRO_9
  ·obtain ⟨hbk7, hge7⟩ := fresh_of (W := W) hH
   go_simp
   refine hK.out _ _ ?_ (fun hN => ?_)
   ·(try dsimp only); exact Ext.alloc hH _
   clear hK K hH
   have hH := hN
   clear hN
   try simp only [sx_]
   refine wpAnyH_name fun Y7 hY7 => ?_
   rw [hY7] at hH hbk7
   clear hY7
   refine wpAnyH_ready (rs := [4, 10]) c_4 (by simp) ?_
   refine rd2 rfl rfl (fun K hK => ?_) fun K hK => ?_
   ·go_simp
    (try rw [hwk.out])
    (go_at_call 68; (with_reducible refine (hd4 _ _ (hp4.ext hH)).mono ?_); rintro e w4 ⟨y4, rfl, hy4, hx⟩)
    replace hbk7 := hbk7.ext hx
    obtain ⟨s4, ao4, n4, cap4, rfl, hf4⟩ := hy4.open
    refine hK.out _ _ ?_ (fun hN => ?_)
    ·(try dsimp only); exact Ext.trans hH hx
    clear hK K hH
    have hH := hN
    clear hN
    try simp only [sx_]
    exact T_RRO_3
   ·obtain ⟨hbk6, hge6⟩ := fresh_of (W := W) hH
    have hlt7 := hbk7.2.2.2.2
    replace hbk7 := hbk7.ext ((Ext.refl _).alloc (.cells #[.bool false, .slice none 0 0] 24))
    go_simp
    refine hK.out _ _ ?_ (fun hN => ?_)
    ·(try dsimp only); exact Ext.alloc hH _
    clear hK K hH
    have hH := hN
    clear hN
    try simp only [sx_]
    refine wpAnyH_name fun Y6 hY6 => ?_
    rw [hY6] at hH hbk6 hbk7
    clear hY6
    refine wpAnyH_ready (rs := [4]) c_4 (by simp) ?_
    refine rd1 rfl fun K hK => ?_
    go_simp
    (try rw [hwk.out])
    (go_at_call 68; (with_reducible refine (hd4 _ _ (hp4.ext hH)).mono ?_); rintro e w4 ⟨y4, rfl, hy4, hx⟩)
    replace hbk7 := hbk7.ext hx
    replace hbk6 := hbk6.ext hx
    obtain ⟨s4, ao4, n4, cap4, rfl, hf4⟩ := hy4.open
    refine hK.out _ _ ?_ (fun hN => ?_)
    ·(try dsimp only); exact Ext.trans hH hx
    clear hK K hH
    have hH := hN
    clear hN
    try simp only [sx_]
    exact T_RRO_8
 case rest =>
  obtain ⟨g, h, rfl, rfl, hE, hg, hh, hWg, hWh⟩ := hcut
  obtain ⟨ao6, cap6, d0, d1, hN6, hf6⟩ := hWg.openN
  obtain ⟨ao7, cap7, e0, e1, hN7, hf7⟩ := hWh.openN
  have hgl := hWg.lt
  have hsm := r_Same _ _ q q wc hN6 hN7
  rw [decide_eq_true rfl] at hsm
  have hin := fun w1 (k1 : Ext wc w1) => r_Int _ q w1 (hN6.ext k1) (by omega)
  have r0 := (hE.cells.1 _ 0 (by omega)).trans c0
  have r1 := (hE.cells.1 _ 1 (by omega)).trans c1
  have r2 : ∀ o, wc.frozen? ⟨w.heap.size + 1, o, none⟩ = false := fun o => (hE.cells.2 _ o (by omega)).trans (c2 o)
  have hrl : w.heap.size + 1 < wc.heap.size := by have := hE.size; omega
  have hEc := Ext.trans hEW hE
  have hqI : (q : Int) ≤ 9000000000000000000 := by omega
  clear b0 b1 b2 b3 c0 c1 c2 hA' hB' hp4 hp9 hWg hWh hd4 hd9 hEW hE
  go_wp2_with (first
   | (go_at_call 69; (with_reducible refine hsm.mono ?_); rintro e w1 ⟨rfl, hb1⟩; obtain ⟨_, _, hc1, hf1⟩ := hb1.cells2; have hz1 := hb1.size; (try simp only [wsz] at hz1 hc1 hf1))
   | (go_at_call 70; (with_reducible refine (hin _ ex_).mono ?_); rintro e w2 ⟨rfl, hb2⟩; obtain ⟨_, _, hc2, hf2⟩ := hb2.cells2; have hz2 := hb2.size; (try simp only [wsz] at hz2 hc2 hf2)))
  refine bodyPost_ret (v := .tuple #[.agg #[.int .i64 q, .int .i64 ((q : Int) + 1)], .bool true]) ?_ rfl ⟨rfl, ?_⟩
  ·simp [results, Tryz.results34, go_sem, ↓IntWalk.iteOmega, *]
  ·exact Ext.setCell (Ext.setCell (Ext.trans hEc (Ext.trans hb1 hb2)) (Nat.le_succ _) _) (Nat.le_succ _) _
theorem fqm {w : World} {u s : Value} {p q : Nat} (hu : Lim w u (dig p)) (hs : Lim w s (dig q)) : Fq w (.agg #[.bool false, u, .bool false, s]) p q := ⟨u, s, rfl, hu, hs⟩
theorem k_quot (w : World) : Calls Tryz.prog 80 #[.int .i64 295912208285591, .int .i64 1000000000000000000] w fun e w' => e = .returned (.agg #[.int .i64 325358913, .int .i64 325358914]) ∧ Ext w w' := by
 have hof : ∀ w1, Calls Tryz.prog 139 #[.int .i64 295912208285591, .int .i64 1000000000000000000] w1 fun e w' => ∃ u, e = .returned (.tuple #[u, .int .i64 0]) ∧ Fq w' u 295912208285591 1000000000000000000 ∧ Ext w1 w' := fun w1 => w_Of 295912208285591 1000000000000000000 w1 (by decide) (by decide) (by decide)
 have hso : ∀ v w1, Fq w1 v 295912208285591 1000000000000000000 → Calls Tryz.prog 140 #[v] w1 fun e w' => e = .returned (.tuple #[.agg #[.int .i64 325358913, .int .i64 325358914], .int .i64 0]) ∧ Ext w1 w' := fun v w1 h => s_Of v 295912208285591 1000000000000000000 0 810880914696175616 325358913 w1 h (by decide) (by decide) (by decide) (by decide) (by decide) (by decide) c_4 (by decide) (by decide) (by decide)
 have hm : ∀ w1, Calls Tryz.prog 42 #[.agg #[.int .i64 325358913, .int .i64 325358914], .int .i64 0] w1 fun e w' => e = .returned (.agg #[.int .i64 325358913, .int .i64 325358914]) ∧ Ext w1 w' := fun w1 => (k_must ⟨325358913, 325358914, 0⟩ w1).mono c_33
 generalize (295912208285591 : Nat) = p at *
 generalize (1000000000000000000 : Nat) = d at *
 go_enter Tryz.func80, Tryz.ntmps80
 go_wp2_with (first
  | (go_at_call 139; (with_reducible refine (hof _).mono ?_); rintro e w1 ⟨y1, rfl, hy1, hb⟩; obtain ⟨u1, s1, rfl, hu1, hs1⟩ := hy1; obtain ⟨ao, b1, o1, cap1, rfl, -⟩ := hu1.view; obtain ⟨bo, b2, o2, cap2, rfl, -⟩ := hs1.view; obtain ⟨_, _, hc, hf⟩ := hb.cells2; have hz := hb.size; (try simp only [wsz] at hz hc hf))
  | (go_at_call 140; (with_reducible refine (hso _ _ (fqm (hu1.ext ((Ext.refl _).alloc _)) (hs1.ext ((Ext.refl _).alloc _)))).mono ?_); rintro e w2 ⟨rfl, hb2⟩; obtain ⟨_, _, hc2, hf2⟩ := hb2.cells2; have hz2 := hb2.size; (try simp only [wsz] at hz2 hc2 hf2))
  | (go_at_call 42; (with_reducible refine (hm _).mono ?_); rintro e w3 ⟨rfl, hb3⟩; obtain ⟨_, _, hc3, hf3⟩ := hb3.cells2; have hz3 := hb3.size; (try simp only [wsz] at hz3 hc3 hf3)))
 refine bodyPost_ret (v := .agg #[.int .i64 325358913, .int .i64 325358914]) ?_ rfl ⟨rfl, ?_⟩
 ·simp [results, Tryz.results80, go_sem, ↓IntWalk.iteOmega, *]
 ·exact ex_
theorem r_OfG (vf : Value) (w : World) (hf : Fq w vf 295912208285591 1000000000000000000) : Calls Tryz.prog 103 #[vf] w fun e w' => e = .returned (.tuple #[.agg #[.int .i64 325358913, .int .i64 325358914], .int .i64 0]) ∧ Ext w w' := by
 have hck := fun w1 (k1 : Ext w w1) => r_fCheck vf 295912208285591 1000000000000000000 w1 (hf.ext k1) (dig_len2 (by decide)) (dig_len2 (by decide)) (by decide) (by decide)
 obtain ⟨u, s, rfl, hu, hs⟩ := hf
 obtain ⟨ao, b1, o1, cap1, rfl, -⟩ := hu.view
 obtain ⟨bo, b2, o2, cap2, rfl, -⟩ := hs.view
 have hsh : ∀ w1, Ext w w1 → Calls Tryz.prog 127 #[.agg #[.bool false, .slice ao (dig 295912208285591).length cap1], .int .i64 40] w1 fun e w' => ∃ u, e = .returned (.tuple #[u, .int .i64 0]) ∧ Nn w' u 325358913810880914696175616 ∧ Ext w1 w' := fun w1 k1 => by
  have h0 : Nn w1 (.agg #[.bool false, .slice ao (dig 295912208285591).length cap1]) 295912208285591 := ⟨_, rfl, hu.ext k1⟩
  refine (r_ShiftU _ ((295912208285591 : Nat) : Int) 40 w1 h0.wid (okN.sz c_4) (by decide) (okN.sz c_4)).mono ?_
  rintro e w2 ⟨u, rfl, h2, h3⟩
  exact ⟨u, rfl, h2.natE c_4, h3⟩
 have hdm : ∀ v w1, Nn w1 v 325358913810880914696175616 → Ext w w1 → Calls Tryz.prog 134 #[v, .agg #[.bool false, .slice bo (dig 1000000000000000000).length cap2]] w1 fun e w' => ∃ u v, e = .returned (.tuple #[u, v, .int .i64 0]) ∧ Nn w' u 325358913 ∧ Nn w' v 810880914696175616 ∧ Ext w1 w' := fun v w1 h k1 =>
  r_DivMod v _ 325358913810880914696175616 1000000000000000000 w1 h ⟨_, rfl, hs.ext k1⟩ (okN.small c_4) (by decide) (dig_len2 (by decide))
 have hin : ∀ v w1, Nn w1 v 325358913 → Calls Tryz.prog 70 #[v] w1 fun e w' => e = .returned (.tuple #[.int .i64 325358913, .int .i64 0]) ∧ Ext w1 w' := fun v w1 h => r_Int v 325358913 w1 h (by decide)
 have hmd : ∀ w1, Calls Tryz.prog 110 #[.int .i64 325358913, .int .i64 325358914] w1 fun e w' => e = .returned (.tuple #[.agg #[.int .i64 325358913, .int .i64 325358914], .int .i64 0]) ∧ Ext w1 w' := fun w1 => by
  have := ref_made 325358913 325358914 w1
  have e : madeI 325358913 325358914 = ⟨325358913, 325358914, 0⟩ := by unfold madeI; rw [if_neg (by decide)]
  rw [e] at this; exact this
 have hrp := dig_pos.2 (show 0 < 810880914696175616 by decide)
 have hr1I : decide ((0 : Int) < ((dig 810880914696175616).length : Int)) = true := decide_eq_true (by omega)
 have hr1N : decide (0 < (dig 810880914696175616).length) = true := decide_eq_true hrp
 generalize (295912208285591 : Nat) = p at *
 generalize (1000000000000000000 : Nat) = d at *
 generalize (810880914696175616 : Nat) = rr at *
 generalize (325358913810880914696175616 : Nat) = p40 at *
 generalize (325358913 : Nat) = qq at *
 clear hu hs
 go_enter Tryz.func103, Tryz.ntmps103
 go_wp2_with (first
  | (go_at_call 163; (with_reducible refine (hck _ ex_).mono ?_); rintro e w1 ⟨rfl, hb⟩; obtain ⟨_, _, hc, hf⟩ := hb.cells2; have hz := hb.size; (try simp only [wsz] at hz hc hf); clear hck)
  | (go_at_call 127; (with_reducible refine (hsh _ ex_).mono ?_); rintro e w2 ⟨y2, rfl, hy2, hb2⟩; obtain ⟨ao2, capb, rfl, hy2'⟩ := hy2.open; obtain ⟨_, _, hc2, hf2⟩ := hb2.cells2; have hz2 := hb2.size; (try simp only [wsz] at hz2 hc2 hf2); clear hsh)
  | (go_at_call 134; (with_reducible refine (hdm _ _ (hy2'.ext ((Ext.refl _).alloc _)) ex_).mono ?_); rintro e w3 ⟨y3, y4, rfl, hy3, hy4, hb3⟩; obtain ⟨ao3, cap3, rfl, hy3'⟩ := hy3.open; obtain ⟨ao4, cap4, rfl, hy4'⟩ := hy4.open; obtain ⟨_, _, hc3, hf3⟩ := hb3.cells2; have hz3 := hb3.size; (try simp only [wsz] at hz3 hc3 hf3); clear hdm)
  | (go_at_call 70; (with_reducible refine (hin _ _ (hy3'.ext (((Ext.refl _).alloc _).alloc _))).mono ?_); rintro e w4 ⟨rfl, hb4⟩; obtain ⟨_, _, hc4, hf4⟩ := hb4.cells2; have hz4 := hb4.size; (try simp only [wsz] at hz4 hc4 hf4); clear hin)
  | (go_at_call 110; (with_reducible refine (hmd _).mono ?_); rintro e w5 ⟨rfl, hb5⟩; obtain ⟨_, _, hc5, hf5⟩ := hb5.cells2; have hz5 := hb5.size; (try simp only [wsz] at hz5 hc5 hf5); clear hmd))
 refine bodyPost_ret (v := .tuple #[.agg #[.int .i64 325358913, .int .i64 325358914], .int .i64 0]) ?_ rfl ⟨rfl, ?_⟩
 ·simp [results, Tryz.results103, go_sem, ↓IntWalk.iteOmega, *]
 ·exact ex_
theorem r_grav (w : World) : Calls Tryz.prog 46 #[] w fun e w' => e = .returned (.agg #[.int .i64 325358913, .int .i64 325358914]) ∧ Ext w w' := by
 have hof : ∀ w1, Calls Tryz.prog 102 #[.int .i64 295912208285591, .int .i64 1000000000000000000] w1 fun e w' => ∃ u, e = .returned (.tuple #[u, .int .i64 0]) ∧ Fq w' u 295912208285591 1000000000000000000 ∧ Ext w1 w' := fun w1 => r_Of 295912208285591 1000000000000000000 w1 (by decide) (by decide) (by decide)
 have hso := fun v w1 (h : Fq w1 v 295912208285591 1000000000000000000) => r_OfG v w1 h
 generalize (295912208285591 : Nat) = p at *
 generalize (1000000000000000000 : Nat) = d at *
 go_enter Tryz.func46, Tryz.ntmps46
 go_wp2_with (first
  | (go_at_call 102; (with_reducible refine (hof _).mono ?_); rintro e w1 ⟨y1, rfl, hy1, hb⟩; obtain ⟨u1, s1, rfl, hu1, hs1⟩ := hy1; obtain ⟨ao, b1, o1, cap1, rfl, -⟩ := hu1.view; obtain ⟨bo, b2, o2, cap2, rfl, -⟩ := hs1.view; obtain ⟨_, _, hc, hf⟩ := hb.cells2; have hz := hb.size; (try simp only [wsz] at hz hc hf))
  | (go_at_call 103; (with_reducible refine (hso _ _ (fqm (hu1.ext ((Ext.refl _).alloc _)) (hs1.ext ((Ext.refl _).alloc _)))).mono ?_); rintro e w2 ⟨rfl, hb2⟩; obtain ⟨_, _, hc2, hf2⟩ := hb2.cells2; have hz2 := hb2.size; (try simp only [wsz] at hz2 hc2 hf2)))
 refine bodyPost_ret (v := .agg #[.int .i64 325358913, .int .i64 325358914]) ?_ rfl ⟨rfl, ?_⟩
 ·simp [results, Tryz.results46, go_sem, ↓IntWalk.iteOmega, *]
 ·exact ex_
end Go.Proofs.YtogblocakccbgaaGreat
