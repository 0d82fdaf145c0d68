/- The reference of trig: the circle. -/
import Derived.Test.YtogblocakccbgaaGreatJ00
import Derived.Test.YtogblocakccbgaaGreatJ31
set_option linter.unusedSimpArgs false
set_option linter.unusedVariables false
set_option maxRecDepth 100000
set_option maxHeartbeats 4000000
namespace Go.Proofs.YtogblocakccbgaaGreat
open Go.RowKit
theorem T_RCI_1 {p : Prop} (h : p := by
 intro w0 hSw; have q0 := (GB.cell (o := 0) hSw hg4 (by omega)).trans d0; have q1 := (GB.cell (o := 1) hSw hg4 (by omega)).trans d1; have q2 := (GB.cell (o := 0) hSw hg5 (by omega)).trans e0; have q3 := (GB.cell (o := 1) hSw hg5 (by omega)).trans e1; go_simp; try with_reducible rfl) : p := h
def PairV (w : World) (v : Value) (x y : Int) : Prop := ∃ s u t z, v = .agg #[.bool s, u, .bool t, z] ∧ Wid w (.agg #[.bool s, u]) x ∧ Wid w (.agg #[.bool t, z]) y
theorem PairV.ext {a w : World} {v : Value} {x y : Int} (h : PairV a v x y) (k : Ext a w) : PairV w v x y := by
 obtain ⟨s, u, t, z, e, h1, h2⟩ := h; exact ⟨s, u, t, z, e, h1.ext k, h2.ext k⟩
def Bx4 (w : World) (g : Nat) : Prop := (∃ a, w.cell? ⟨g, 0, none⟩ = some a) ∧ (∃ a, w.cell? ⟨g, 1, none⟩ = some a) ∧ (∃ a, w.cell? ⟨g, 2, none⟩ = some a) ∧ (∃ a, w.cell? ⟨g, 3, none⟩ = some a) ∧ (∀ o, w.frozen? ⟨g, o, none⟩ = false) ∧ NoU w g ∧ g < w.heap.size
theorem Bx4.ext {g : Nat} {a b : World} (h : Bx4 a g) (k : Ext a b) : Bx4 b g := by
 obtain ⟨⟨x, h1⟩, ⟨y, h2⟩, ⟨z, h3⟩, ⟨u, h4⟩, h5, h6, h7⟩ := h
 exact ⟨⟨x, (k.cells.1 g 0 h7).trans h1⟩, ⟨y, (k.cells.1 g 1 h7).trans h2⟩, ⟨z, (k.cells.1 g 2 h7).trans h3⟩, ⟨u, (k.cells.1 g 3 h7).trans h4⟩, fun o => (k.cells.2 g o h7).trans (h5 o), h6.ext h7 k, Nat.lt_of_lt_of_le h7 k.size⟩
theorem Bx4.fresh (w : World) : Bx4 (w.alloc (.cells #[.bool false, .slice none 0 0, .bool false, .slice none 0 0] 68)) w.heap.size :=
 ⟨⟨.bool false, by simp [go_sem, ↓IntWalk.iteOmega]⟩, ⟨.slice none 0 0, by simp [go_sem, ↓IntWalk.iteOmega]⟩, ⟨.bool false, by simp [go_sem, ↓IntWalk.iteOmega]⟩, ⟨.slice none 0 0, by simp [go_sem, ↓IntWalk.iteOmega]⟩, fun o => by simp [go_sem, ↓IntWalk.iteOmega], NoU.new w _ _ (noU4 (by simp) (by simp) (by simp) (by simp)), by simp⟩
theorem q_Circle (a b F : Nat) (lo hi : Int) (w : World) (hF : F ≤ 100000) (ra : invF 5 F 0 (2 ^ 120 / 5) 0 = some a) (rb : invF 239 F 0 (2 ^ 120 / 239) 0 = some b) (k1 : okN ((16 * a : Nat) : Int) = true) (k2 : okN ((4 * b : Nat) : Int) = true) (k3 : 4 * b ≤ 16 * a) (k4 : 2 ^ 16 ≤ 16 * a - 4 * b) (k5 : okN ((16 * a - 4 * b + 2 ^ 16 : Nat) : Int) = true)
    (hlo : ((16 * a - 4 * b - 2 ^ 16 : Nat) : Int) / 2 ^ 20 = lo) (hhi : -((16 * a - 4 * b + 2 ^ 16 : Nat) : Int) / 2 ^ 20 = -hi) (k6 : okN hi = true) :
    Calls Tryz.prog 71 #[.int .i64 100] w fun e w' => ∃ u, e = .returned u ∧ PairV w' u lo hi ∧ Ext w w' := by
 have ha : okN (a : Int) = true := invF_res ra
 have hb : okN (b : Int) = true := invF_res rb
 have h16 : ∀ w, Calls Tryz.prog 74 #[.int .i64 16] w fun e w' => ∃ u, e = .returned u ∧ Nn w' u 16 ∧ Ext w w' := fun w => q_from 16 w (by decide)
 have h4 : ∀ w, Calls Tryz.prog 74 #[.int .i64 4] w fun e w' => ∃ u, e = .returned u ∧ Nn w' u 4 ∧ Ext w w' := fun w => q_from 4 w (by decide)
 have hi5 : ∀ w, Calls Tryz.prog 131 #[.int .i64 5, .int .i64 120] w fun e w' => ∃ u, e = .returned u ∧ Nn w' u a ∧ Ext w w' := fun w => q_inverse 5 120 F a w (by decide) (by decide) (by decide) hF ra
 have hi2 : ∀ w, Calls Tryz.prog 131 #[.int .i64 239, .int .i64 120] w fun e w' => ∃ u, e = .returned u ∧ Nn w' u b ∧ Ext w w' := fun w => q_inverse 239 120 F b w (by decide) (by decide) (by decide) hF rb
 have hm1 := fun u v w1 (h : Nn w1 u 16) (h2 : Nn w1 v a) => q_mul u v 16 a w1 h h2 (small_bits (k := 64) (by decide) (by decide)) (okN.small ha) (okN.small k1)
 have hm2 := fun u v w1 (h : Nn w1 u 4) (h2 : Nn w1 v b) => q_mul u v 4 b w1 h h2 (small_bits (k := 64) (by decide) (by decide)) (okN.small hb) (okN.small k2)
 have hsb := fun u v w1 (h : Nn w1 u (16 * a)) (h2 : Nn w1 v (4 * b)) => q_sub u v (16 * a) (4 * b) w1 h h2 (okN.small k1) (okN.small k2) k3
 have sO : Small (2 ^ 16) := small_bits (k := 17) (by decide) (by decide)
 have hpw : ∀ w, Calls Tryz.prog 132 #[.int .i64 16] w fun e w' => ∃ u, e = .returned u ∧ Nn w' u (2 ^ 16) ∧ Ext w w' := fun w => q_power 16 w (by decide) sO
 have sX : Small (16 * a - 4 * b) := Small.le (okN.small k5) (Nat.le_add_right _ _)
 have sXO := okN.small k5
 have hdn : ∀ v w1, Nn w1 v (16 * a - 4 * b - 2 ^ 16) → Calls Tryz.prog 68 #[v, .int .i64 20] w1 fun e w' => ∃ u, e = .returned u ∧ Wid w' u lo ∧ Ext w1 w' := fun v w1 h => by
  have := q_down v _ 20 w1 h.wid (by unfold Sz; rw [Int.natAbs_natCast]; exact Small.le sX (Nat.sub_le _ _)) (by decide) (by decide)
  rw [hlo] at this; exact this
 have hup : ∀ v w1, Nn w1 v (16 * a - 4 * b + 2 ^ 16) → Calls Tryz.prog 133 #[v, .int .i64 20] w1 fun e w' => ∃ u, e = .returned u ∧ Wid w' u hi ∧ Ext w1 w' := fun v w1 h => by
  have := q_up v _ 20 w1 h.wid (by unfold Sz; rw [Int.natAbs_natCast]; exact sXO) (by decide) (by decide) (by rw [hhi]; unfold Sz; rw [Int.natAbs_neg]; exact okN.sz k6)
  rw [hhi, Int.neg_neg] at this; exact this
 clear hlo hhi k1 k2 k3 k5 k6 ra rb ha hb
 have hOX := k4
 clear k4
 generalize 16 * a - 4 * b = X at *
 generalize 16 * a = A at *
 generalize 4 * b = B at *
 generalize 2 ^ 16 = O at *
 go_enter Tryz.func71, Tryz.ntmps71
 go_upto_region 4 with (first
  | (go_at_call 74; (with_reducible refine (h16 _).mono ?_); rintro e w1 ⟨y1, rfl, hy1, hb1⟩; obtain ⟨_, _, hc1, hf1⟩ := hb1.cells2; have hz1 := hb1.size; (try simp only [wsz] at hz1 hc1 hf1); clear h16)
  | (go_at_call 131; (with_reducible refine (hi5 _).mono ?_); rintro e w2 ⟨y2, rfl, hy2, hb2⟩; obtain ⟨_, _, hc2, hf2⟩ := hb2.cells2; have hz2 := hb2.size; (try simp only [wsz] at hz2 hc2 hf2); clear hi5)
  | (go_at_call 73; (with_reducible refine (hm1 _ _ _ (hy1.ext hb2) hy2).mono ?_); rintro e w3 ⟨y3, rfl, hy3, hb3⟩; obtain ⟨_, _, hc3, hf3⟩ := hb3.cells2; have hz3 := hb3.size; (try simp only [wsz] at hz3 hc3 hf3); clear hm1)
  | (go_at_call 74; (with_reducible refine (h4 _).mono ?_); rintro e w4 ⟨y4, rfl, hy4, hb4⟩; obtain ⟨_, _, hc4, hf4⟩ := hb4.cells2; have hz4 := hb4.size; (try simp only [wsz] at hz4 hc4 hf4); clear h4)
  | (go_at_call 131; (with_reducible refine (hi2 _).mono ?_); rintro e w5 ⟨y5, rfl, hy5, hb5⟩; obtain ⟨_, _, hc5, hf5⟩ := hb5.cells2; have hz5 := hb5.size; (try simp only [wsz] at hz5 hc5 hf5); clear hi2)
  | (go_at_call 73; (with_reducible refine (hm2 _ _ _ (hy4.ext hb5) hy5).mono ?_); rintro e w6 ⟨y6, rfl, hy6, hb6⟩; obtain ⟨_, _, hc6, hf6⟩ := hb6.cells2; have hz6 := hb6.size; (try simp only [wsz] at hz6 hc6 hf6); clear hm2)
  | (go_at_call 130; (with_reducible refine (hsb _ _ _ (hy3.ext (Ext.trans hb4 (Ext.trans hb5 hb6))) hy6).mono ?_); rintro e w7 ⟨y7, rfl, hy7, hb7⟩; obtain ⟨ao7, cap7, rfl, hy77⟩ := hy7.open; obtain ⟨_, _, hc7, hf7⟩ := hb7.cells2; have hz7 := hb7.size; (try simp only [wsz] at hz7 hc7 hf7); clear hsb)
  | (go_at_call 132; (with_reducible refine (hpw _).mono ?_); rintro e w8 ⟨y8, rfl, hy8, hb8⟩; obtain ⟨ao8, cap8, rfl, hy88⟩ := hy8.open; obtain ⟨_, _, hc8, hf8⟩ := hb8.cells2; have hz8 := hb8.size; (try simp only [wsz] at hz8 hc8 hf8); clear hpw))
 have hE7 : Ext (w.alloc (.cells #[.bool false, .slice none 0 0, .bool false, .slice none 0 0] 68)) w7 := ex_
 have hE8 : Ext w7 w8 := Ext.trans ((Ext.refl w7).alloc _) hb8
 obtain ⟨V, hV⟩ : ∃ V, w8.alloc (.cells #[.bool false, .slice ao8 (dig O).length cap8] 24) = V := ⟨_, rfl⟩
 have hE8V : Ext w8 V := by rw [← hV]; exact (Ext.refl w8).alloc _
 have hWx : WAt V w7.heap.size (X : Int) := (WAt.lit hy77.wid).ext (Ext.trans hb8 hE8V)
 have hWo : WAt V w8.heap.size (O : Int) := by rw [← hV]; exact WAt.lit hy88.wid
 have hB4 : Bx4 V w.heap.size := (Bx4.fresh w).ext (Ext.trans hE7 (Ext.trans hE8 hE8V))
 have hEv : Ext w V := Ext.trans ((Ext.refl w).alloc _) (Ext.trans hE7 (Ext.trans hE8 hE8V))
 have hs7 := hE7.size
 rw [World.size_alloc] at hs7
 have hs8 := hE8.size
 rw [hV]
 clear hV hE7 hE8 hE8V hy1 hy2 hy3 hy4 hy5 hy6 hy7 hy8 hy77 hy88 hb1 hb2 hb3 hb4 hb5 hb6 hb7 hb8 hc1 hc2 hc3 hc4 hc5 hc6 hc7 hc8 hf1 hf2 hf3 hf4 hf5 hf6 hf7 hf8
 obtain ⟨aoX, capX, d0, d1, hNx, hfX⟩ := hWx.openN
 obtain ⟨aoO, capO, e0, e1, hNo, hfO⟩ := hWo.openN
 have hg4 := hWx.lt
 have hg5 := hWo.lt
 replace hNx := hNx.ext ((Ext.refl V).drew)
 replace hNo := hNo.ext ((Ext.refl V).drew)
 replace hB4 := hB4.ext ((Ext.refl V).drew)
 refine wp_region_held_drew (S := (fun w0 => GB w.heap.size V w0)) c_4 ?_ (fun hH => ?_)
 ·exact (GB.refl _ _).drew
 try simp only [sx_]
 refine tk (v := ?_) 0 rfl ?_ ?_
 rotate_left
 ·exact T_RCI_1
 try simp only [sx_]
 refine tk (v := ?_) 1 rfl ?_ ?_
 rotate_left
 ·exact T_RCI_1
 try simp only [sx_]
 refine tk (v := ?_) 4 rfl ?_ ?_
 rotate_left
 ·exact T_RCI_1
 try simp only [sx_]
 refine tk (v := ?_) 5 rfl ?_ ?_
 rotate_left
 ·exact T_RCI_1
 try simp only [sx_]
 refine wpAnyH_ready (rs := [2]) c_4 (by simp) ?_
 refine rd1 rfl fun K hK => ?_
 go_simp
 (go_at_call 130; (with_reducible refine (q_sub _ _ X O _ hNx hNo sX sO hOX).mono ?_); rintro e w1 ⟨y1, rfl, hf1, hx⟩)
 replace hNx := hNx.ext hx
 replace hNo := hNo.ext hx
 replace hB4 := hB4.ext hx
 refine hK.out _ _ ?_ (fun hN => ?_)
 ·(try dsimp only); exact GB.trans hH (GB.ext hx)
 clear hK K hH
 have hH := hN
 clear hN
 try simp only [sx_]
 refine wpAnyH_ready (rs := [3]) c_4 (by simp) ?_
 refine rd1 rfl fun K hK => ?_
 go_simp
 (go_at_call 68; (with_reducible refine (hdn _ _ hf1).mono ?_); rintro e w2 ⟨y2, rfl, hf2, hx⟩)
 replace hNx := hNx.ext hx
 replace hNo := hNo.ext hx
 replace hB4 := hB4.ext hx
 replace hf1 := hf1.ext hx
 obtain ⟨s2, ao2, n2, cap2, rfl, hf3⟩ := hf2.open
 refine hK.out _ _ ?_ (fun hN => ?_)
 ·(try dsimp only); exact GB.trans hH (GB.ext hx)
 clear hK K hH
 have hH := hN
 clear hN
 try simp only [sx_]
 refine wpAnyH_ready (rs := [6]) c_4 (by simp) ?_
 refine rd1 rfl fun K hK => ?_
 go_simp
 (go_at_call 75; (with_reducible refine (q_add _ _ X O _ hNx hNo sX sO sXO).mono ?_); rintro e w3 ⟨y3, rfl, hf4, hx⟩)
 replace hNx := hNx.ext hx
 replace hNo := hNo.ext hx
 replace hB4 := hB4.ext hx
 replace hf1 := hf1.ext hx
 replace hf3 := hf3.ext hx
 refine hK.out _ _ ?_ (fun hN => ?_)
 ·(try dsimp only); exact GB.trans hH (GB.ext hx)
 clear hK K hH
 have hH := hN
 clear hN
 try simp only [sx_]
 refine wpAnyH_ready (rs := [7]) c_4 (by simp) ?_
 refine rd1 rfl fun K hK => ?_
 go_simp
 (go_at_call 133; (with_reducible refine (hup _ _ hf4).mono ?_); rintro e w4 ⟨y4, rfl, hf5, hx⟩)
 replace hNx := hNx.ext hx
 replace hNo := hNo.ext hx
 replace hB4 := hB4.ext hx
 replace hf1 := hf1.ext hx
 replace hf3 := hf3.ext hx
 replace hf4 := hf4.ext hx
 obtain ⟨s5, ao5, n5, cap5, rfl, hf6⟩ := hf5.open
 refine hK.out _ _ ?_ (fun hN => ?_)
 ·(try dsimp only); exact GB.trans hH (GB.ext hx)
 clear hK K hH
 have hH := hN
 clear hN
 try simp only [sx_]
 refine tk 8 rfl c_0 ?_
 try simp only [sx_]
 refine wpAnyH_ready (rs := [9]) c_4 (by simp) ?_
 refine rd1 rfl fun K hK => ?_
 obtain ⟨⟨xa, h3a⟩, ⟨xb, h3b⟩, ⟨xc, h3c⟩, ⟨xd, h3d⟩, h3f, hnu, hsl⟩ := hB4
 go_simp
 refine hK.out _ _ ?_ (fun hN => ?_)
 ·(try dsimp only); exact (((GB.set hH _).set _).set _).set _
 clear hK K hH
 have hH := hN
 clear hN
 try simp only [sx_]
 refine wpAnyH_done c_4 ?_ _
 go_wp2_with fail
 refine bodyPost_ret (v := .agg #[.bool s2, .slice ao2 n2 cap2, .bool s5, .slice ao5 n5 cap5]) ?_ rfl ⟨_, rfl, ⟨_, _, _, _, rfl, ?_, ?_⟩, ?_⟩
 ·simp [results, Tryz.results71, go_sem, ↓IntWalk.iteOmega, h3a, h3b, h3c, h3d]
 ·refine Wid.box (Wid.box (Wid.box (Wid.box hf3 ?_) ?_) ?_) ?_ <;> (repeat (first | with_reducible exact hnu | with_reducible refine NoU.set ?_ (fun z e => by cases e)))
 ·refine Wid.box (Wid.box (Wid.box (Wid.box hf6 ?_) ?_) ?_) ?_ <;> (repeat (first | with_reducible exact hnu | with_reducible refine NoU.set ?_ (fun z e => by cases e)))
 ·exact GB.pre hEv hH (Nat.le_refl _)
end Go.Proofs.YtogblocakccbgaaGreat
