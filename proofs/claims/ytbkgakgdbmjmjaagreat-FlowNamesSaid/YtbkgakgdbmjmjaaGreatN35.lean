/- The tube of a step encloses what it should: plain laws. -/
import Derived.Test.YtbkgakgdbmjmjaaGreatN34
set_option linter.unusedSimpArgs false
set_option linter.unusedVariables false
set_option maxRecDepth 100000
set_option maxHeartbeats 8000000
namespace Go.Proofs.YtbkgakgdbmjmjaaGreat
open Go.RowKit
def loQ (v : V3) : Q3 := ⟨(v.a : Rat), (v.c : Rat), (v.e : Rat)⟩
variable {L : List SrcD} {dl dh fr ti : Int} {p v : V3} {t : Tu} {A : V3}
def mdV (p : V3) : V3 := ⟨p.a + (p.b - p.a) / 2, p.a + (p.b - p.a) / 2, p.c + (p.d - p.c) / 2, p.c + (p.d - p.c) / 2, p.e + (p.f - p.e) / 2, p.e + (p.f - p.e) / 2⟩
theorem ga_src {l : List BodyD} {fr ti : Int} {b : V3} (h : (gaR 0 l fr ti b).2 = 0) : (gaR 0 l fr ti b).1 = (srN l fr ti l.length).1 ∧ (srN l fr ti l.length).2 = 0 := by
 unfold gaR at h ⊢
 rw [if_neg (by simp)] at h ⊢
 by_cases e : ckV b = 0
 ·have e1 : ¬ (ckV b ≠ 0) := fun c => c e
  rw [if_neg e1] at h ⊢
  by_cases f : ti < fr
  ·rw [if_pos f] at h; exact absurd h (by decide)
  ·rw [if_neg f] at h ⊢
   by_cases g : (srN l fr ti l.length).2 = 0
   ·have g1 : ¬ ((srN l fr ti l.length).2 ≠ 0) := fun c => c g
    rw [if_neg g1]
    exact ⟨rfl, g⟩
   ·rw [if_pos g] at h; exact absurd h g
 ·rw [if_pos e] at h; exact absurd h e
theorem ac_src {l : List BodyD} {fr ti : Int} {b : V3} (h : (acR 0 l fr ti b).e = 0) : (gaR 0 l fr ti b).2 = 0 ∧ (acL (srN l fr ti l.length).1 b).e = 0 ∧ (acR 0 l fr ti b).v = (acL (srN l fr ti l.length).1 b).v := by
 by_cases g : (gaR 0 l fr ti b).2 = 0
 ·obtain ⟨s1, -⟩ := ga_src g
  unfold acR at h ⊢
  rw [s1] at h ⊢
  have g1 : ¬ ((gaR 0 l fr ti b).2 ≠ 0) := fun c => c g
  simp only [if_neg g1] at h ⊢
  unfold acL
  by_cases k : (acN b (srN l fr ti l.length).1 (ac0 b)).e = 0
  ·have k1 : ¬ ((acN b (srN l fr ti l.length).1 (ac0 b)).e ≠ 0) := fun c => c k
   rw [if_neg k1]
   exact ⟨g, k, rfl⟩
  ·rw [if_pos k] at h; exact absurd h (by decide)
 ·unfold acR at h
  rw [if_pos g] at h; exact absurd h g
theorem ckL2 {p v : V3} (h : ckL [p, v] = 0) : ckV p = 0 ∧ ckV v = 0 := by
 unfold ckL at h
 split at h
 ·rename_i h1; exact absurd h h1
 ·rename_i h1
  refine ⟨Classical.not_not.1 h1, ?_⟩
  unfold ckL at h
  split at h
  ·rename_i h2; exact absurd h h2
  ·rename_i h2; exact Classical.not_not.1 h2
theorem st_made {E : Int} {l : List BodyD} {fr ti : Int} {p v : V3} {t : Tu} (hE : CkE l E) (h : stR E l fr ti p v = (t, 0)) :
    E = 0 ∧ (ckV p = 0 ∧ ckV v = 0) ∧ fr < ti ∧ -5000000000000000 ≤ fr ∧ ti ≤ 5000000000000000 ∧ (srN l fr ti l.length).2 = 0 ∧ LPt (srN l fr ti l.length).1 (srN l fr ti l.length).1 ∧
      ∃ A, StOk (srN l fr ti l.length).1 (ofLo (paX fr ti)) (ofHi (paX fr ti)) fr ti p v t A := by
 unfold stR at h
 by_cases hc : ckF E [p, v] fr ti = 0
 ·have hc1 : ¬ (ckF E [p, v] fr ti ≠ 0) := fun c => c hc
  rw [if_neg hc1] at h
  obtain ⟨rfl, k1, k2, k3, k4⟩ := ckF_ok hc
  obtain ⟨kp, kv⟩ := ckL2 k1
  unfold paL paH at h
  rw [if_pos hc, if_pos hc] at h
  have hd := (pa_I k2 k3 k4).2
  have hacc : ∀ b, (acR 0 l fr ti b).e = 0 → (acL (srN l fr ti l.length).1 b).e = 0 ∧ (acR 0 l fr ti b).v = (acL (srN l fr ti l.length).1 b).v := fun b hb => (ac_src hb).2
  obtain ⟨b, -, eb, -, -⟩ := st_facts kp 20 p (PtV.refl kp) h
  have hg := (ac_src (trE_ok eb).1).1
  obtain ⟨s1, s2⟩ := ga_src hg
  have hL := lpt_refl (gaR_pt (fr := fr) (ti := ti) (p := b) hE)
  rw [s1] at hL
  obtain ⟨A, S⟩ := st_ok (acc := fun b => acR 0 l fr ti b) kp hd.1 hacc h
  exact ⟨rfl, ⟨kp, kv⟩, k2, k3, k4, s2, hL, A, S⟩
 ·rw [if_pos hc] at h
  exact absurd (congrArg Prod.snd h) hc
theorem stR_I {E : Int} {l : List BodyD} {fr ti : Int} {p v : V3} (hE : CkE l E) (h : (stR E l fr ti p v).2 = 0) : (stR E l fr ti p v).1.v.I := by
 have e : stR E l fr ti p v = ((stR E l fr ti p v).1, 0) := Prod.ext rfl h
 obtain ⟨-, -, -, -, -, -, -, A, S⟩ := st_made hE e
 exact ckV_I S.kv
theorem p_Run (u : Value) (l : List BodyD) (E : Int) (s : StD) (te n : Int) (w : World) (hB : Bds w u l) (hE : CkE l E) (hS : E = 0 → Sml l) :
    Calls Tryz.prog 37 #[.agg #[u], .agg #[.int .i64 s.t, .int .i64 s.x, .int .i64 s.y, .int .i64 s.z, .int .i64 s.u, .int .i64 s.v, .int .i64 s.r], .int .i64 te, .int .i64 n] w fun e w' => ∃ v, e = .returned (.tuple #[v, .int .i64 (rnR (stR E l) s te n).2]) ∧ TuS w' v (rnR (stR E l) s te n).1 ∧ Ext w w' := by
 obtain ⟨ao, b, o, cap, rfl, _, _, _⟩ := hB.len
 exact rn_walk (stR E l) ao l.length cap s te n w (fun fr ti p v w1 hv k => p_Step _ l E fr ti p v w1 (hB.ext k) hE hS hv) (fun fr ti p v h => stR_I hE h)
theorem at_first (v : Value) (l : List Tu) (x : Int) (B : Nat) (w : World) (hl : TuS w v l) (hB : w.cell? ⟨B, 0, none⟩ = some (.int .i64 x)) :
    Calls Tryz.prog 83 #[v, .func (.func 84) #[] #[.pointer (some ⟨B, 0, none⟩)]] w fun e w' => (∃ k, k < l.length ∧ (∀ j, j < k → atB (l.getD j Tu.O) x = false) ∧ atB (l.getD k Tu.O) x = true ∧ e = .returned (.tuple #[.int .i64 k, .bool true]) ∧ Ext w w') ∨ ((∀ j, j < l.length → atB (l.getD j Tu.O) x = false) ∧ e = .returned (.tuple #[.int .i64 0, .bool false]) ∧ Ext w w') := by
 obtain ⟨ao, b, o, cap, rfl, a1, a2, a3, a4⟩ := hl
 have lB := World.block_lt_of_cell? _ _ hB
 obtain ⟨dd, hu65, hrow⟩ := tyU65
 have hz : Hid (∀ w1 : World, (w1.alloc (.cells #[.int .i64 0, .int .i64 0, .int .i64 0, .int .i64 0, .int .i64 0, .int .i64 0, .int .i64 0, .int .i64 0, .int .i64 0, .int .i64 0, .int .i64 0, .int .i64 0, .int .i64 0, .int .i64 0, .int .i64 0, .int .i64 0, .int .i64 0, .int .i64 0, .int .i64 0, .int .i64 0, .int .i64 0, .int .i64 0, .int .i64 0, .int .i64 0, .int .i64 0, .int .i64 0] 65)).there w1.heap.size 0 26) := fun w1 => (zb65 w1).there 26 rfl
 go_enter Tryz.func83, Tryz.ntmps83
 go_wp2_with fail
 go_loopw [10] (fun i wx => ∃ k : Nat, i = .int .i64 k ∧ k ≤ l.length ∧ Hid (∀ j, j < k → atB (l.getD j Tu.O) x = false) ∧ Hid (Ext w wx)) (fun i _ => l.length - (intOf i).toNat)
 case atStart => exact ⟨0, rfl, Nat.zero_le _, fun j hj => absurd hj (Nat.not_lt_zero _), Ext.refl w⟩
 case round =>
  obtain ⟨k, rfl, hk, HF, HE⟩ := hrel
  rcases Nat.eq_or_lt_of_le hk with rfl | hk2
  ·go_wp2_with fail
   refine bodyPost_ret (v := .tuple #[.int .i64 0, .bool false]) ?_ rfl (Or.inr ⟨HF.out, rfl, HE.out⟩)
   simp [results, Tryz.results83, go_sem, ↓IntWalk.iteOmega, *]
  ·have e1 := a1 (by omega)
   subst e1
   have hr : wr.rangeAt b (o + k * 26) (tvs (l.getD k Tu.O)) := Ext.rg HE.out (a3 (by omega)) (a4 k hk2)
   obtain ⟨t, ht⟩ : ∃ t, l.getD k Tu.O = t := ⟨_, rfl⟩
   rw [ht] at hr
   have hth := hz.out wr
   clear a4 a1
   go_upto_region 4 with (first
    | ((with_reducible show wpList _ _ _ _ _ _); refine wpList_load_mid rfl 65 (.tmp 13) rfl b (o + k * 26) rfl (tvs t) dd hr hu65 hrow tyI65 ?_)
    | ((with_reducible show wpList _ _ _ _ _ _); refine store_row rfl 65 (.tmp 7) (.tmp 14) rfl wr.heap.size (tvs t).toArray rfl rfl hth tyI65 c_38 (fun W hW => ?_)))
   have hr2 := hW.range
   have xW : Ext wr W := hW.ext ((Ext.refl _).alloc _) (Nat.le_refl _)
   have cB : W.cell? ⟨B, 0, none⟩ = some (.int .i64 x) := ((HE.out.trans xW).cells.1 _ 0 lB).trans hB
   have hat := at_in t x B W cB
   unfold tv at hat
   clear hr hth hW cB
   by_cases q : atB t x = true
   ·rw [q] at hat
    go_wp2_with (first
     | ((with_reducible show wpList _ _ _ _ _ _); refine wpList_load_mid rfl 65 (.tmp 7) rfl wr.heap.size 0 rfl (tvs t) dd hr2 hu65 hrow tyI65 ?_)
     | (go_at_call 84; (with_reducible refine hat.mono ?_); rintro e w4 ⟨rfl, hb⟩))
    refine bodyPost_ret (v := .tuple #[.int .i64 k, .bool true]) ?_ rfl (Or.inl ⟨k, hk2, HF.out, by rw [ht]; exact q, rfl, (HE.out.trans xW).trans hb⟩)
    simp [results, Tryz.results83, go_sem, ↓IntWalk.iteOmega, *]
   ·rw [Bool.not_eq_true] at q
    rw [q] at hat
    go_wp2_with (first
     | ((with_reducible show wpList _ _ _ _ _ _); refine wpList_load_mid rfl 65 (.tmp 7) rfl wr.heap.size 0 rfl (tvs t) dd hr2 hu65 hrow tyI65 ?_)
     | (go_at_call 84; (with_reducible refine hat.mono ?_); rintro e w4 ⟨rfl, hb⟩))
    go_roundw
    case rel =>
     refine ⟨k + 1, by go_num, hk2, ?_, (HE.out.trans xW).trans hb⟩
     intro j hj
     by_cases e : j = k
     ·rw [e, ht]; exact q
     ·exact HF.out j (by omega)
    case measure => simp [intOf]; omega
theorem p_At (v : Value) (l : List Tu) (x : Int) (w : World) (hl : TuS w v l) :
    Calls Tryz.prog 41 #[v, .int .i64 x] w fun e w' => (∃ k, k < l.length ∧ (∀ j, j < k → atB (l.getD j Tu.O) x = false) ∧ atB (l.getD k Tu.O) x = true ∧ e = .returned (.tuple #[.int .i64 k, .int .i64 0]) ∧ Ext w w') ∨ ((∀ j, j < l.length → atB (l.getD j Tu.O) x = false) ∧ e = .returned (.tuple #[.int .i64 0, .int .i64 6]) ∧ Ext w w') := by
 have k1 : Ext w (w.alloc (.cells #[.int .i64 x] 2)) := (Ext.refl w).alloc _
 have hf := at_first v l x w.heap.size (w.alloc (.cells #[.int .i64 x] 2)) (hl.ext k1) (by simp [go_sem])
 obtain ⟨ao, b, o, cap, rfl, -⟩ := hl
 go_enter Tryz.func41, Tryz.ntmps41
 go_upto_region 2 with (go_at_call 83; (with_reducible refine hf.mono ?_); rintro e w2 (⟨k, h1, h2, h3, rfl, hb⟩ | ⟨h1, rfl, hb⟩))
 ·go_wp2_with fail
  refine bodyPost_ret (v := .tuple #[.int .i64 k, .int .i64 0]) ?_ rfl (Or.inl ⟨k, h1, h2, h3, rfl, k1.trans hb⟩)
  simp [results, Tryz.results41, go_sem, ↓IntWalk.iteOmega, *]
 ·go_wp2_with fail
  refine bodyPost_ret (v := .tuple #[.int .i64 0, .int .i64 6]) ?_ rfl (Or.inr ⟨h1, rfl, k1.trans hb⟩)
  simp [results, Tryz.results41, go_sem, ↓IntWalk.iteOmega, *]
theorem g_alive5 (w : World) : Calls Tryz.prog 32 #[] w fun e w' => e = .returned (.bool true) ∧ Ext w w' := by
 have hal := fun w1 => m_alone ⟨0, 1099511627776, 0, 0, 0, 0, 0⟩ w1
 dsimp only at hal
 obtain ⟨tt, htt⟩ : ∃ tt, lvT = tt := ⟨_, rfl⟩
 have hst : ∀ w1, Calls Tryz.prog 30 #[.agg #[.slice none 0 0], .int .i64 0, .int .i64 86400000000, .agg #[.int .i64 1099511627776, .int .i64 1099511627776, .int .i64 0, .int .i64 0, .int .i64 0, .int .i64 0], .agg #[.int .i64 0, .int .i64 0, .int .i64 0, .int .i64 0, .int .i64 0, .int .i64 0]] w1 fun e w' => e = .returned (.tuple #[.agg (tvs tt).toArray, .int .i64 0]) ∧ Ext w1 w' := fun w1 => by
  have h := p_Step (.slice none 0 0) [] 0 0 86400000000 lvP V3.O w1 (lv_nil w1) lv_ck (fun _ => lv_sml) V3.O_I
  rw [lv_st, htt] at h
  exact h
 have hz := zb65
 replace hz : Hid _ := hz
 go_enter Tryz.func32, Tryz.ntmps32
 go_upto_region 2 with (first
  | (go_at_call 43; (with_reducible refine (m_rest _).mono ?_); rintro e w1 ⟨rfl, hb1⟩)
  | (go_at_call 38; (with_reducible refine (hal _).mono ?_); rintro e w2 ⟨rfl, hb2⟩))
 refine wp_name fun U2 hN => ?_
 obtain ⟨n2, h2⟩ : ∃ n, w2.heap.size = n := ⟨_, rfl⟩
 have x2 : Ext w U2 := Ext.same hN (((hb1.trans hb2).alloc _).alloc _)
 have b1 : VB U2 n2 (six lvP) := by have e : U2 = _ := hN; rw [e, ← h2]; exact (VB.lit w2 (six lvP) 28).ext ((Ext.refl _).alloc _)
 have b2 : VB U2 (n2 + 1) (six V3.O) := by
  have h := VB.lit (w2.alloc (.cells #[.int .i64 1099511627776, .int .i64 1099511627776, .int .i64 0, .int .i64 0, .int .i64 0, .int .i64 0] 28)) (six V3.O) 28
  rw [World.size_alloc] at h
  have e : U2 = _ := hN
  rw [e, ← h2]; exact h
 try rw [h2]
 clear hN h2 hb1 hb2 hal
 have p0 : U2.cell? ⟨n2, 0, none⟩ = some (.int .i64 1099511627776) := b1.1 0 _ rfl
 have q0 : U2.cell? ⟨n2 + 1, 0, none⟩ = some (.int .i64 0) := b2.1 0 _ rfl
 have p1 : U2.cell? ⟨n2, 1, none⟩ = some (.int .i64 1099511627776) := b1.1 1 _ rfl
 have q1 : U2.cell? ⟨n2 + 1, 1, none⟩ = some (.int .i64 0) := b2.1 1 _ rfl
 have p2 : U2.cell? ⟨n2, 2, none⟩ = some (.int .i64 0) := b1.1 2 _ rfl
 have q2 : U2.cell? ⟨n2 + 1, 2, none⟩ = some (.int .i64 0) := b2.1 2 _ rfl
 have p3 : U2.cell? ⟨n2, 3, none⟩ = some (.int .i64 0) := b1.1 3 _ rfl
 have q3 : U2.cell? ⟨n2 + 1, 3, none⟩ = some (.int .i64 0) := b2.1 3 _ rfl
 have p4 : U2.cell? ⟨n2, 4, none⟩ = some (.int .i64 0) := b1.1 4 _ rfl
 have q4 : U2.cell? ⟨n2 + 1, 4, none⟩ = some (.int .i64 0) := b2.1 4 _ rfl
 have p5 : U2.cell? ⟨n2, 5, none⟩ = some (.int .i64 0) := b1.1 5 _ rfl
 have q5 : U2.cell? ⟨n2 + 1, 5, none⟩ = some (.int .i64 0) := b2.1 5 _ rfl
 go_upto_region 3 with (first
  | (go_at_call 30; (with_reducible refine (hst _).mono ?_); rintro e w3 ⟨rfl, hb3⟩; have hth := (hz.out w3).there 26 rfl)
  | ((with_reducible show wpList _ _ _ _ _ _); refine store_row rfl 65 (.tmp 3) (.tmp 15) rfl w3.heap.size (tvs tt).toArray rfl rfl hth tyI65 c_38 (fun W hW => ?_)))
 have bT : VB W w3.heap.size (tuL tt) := VB.row (m := tuL tt) (hz.out w3) hW
 have xW : Ext w W := hW.ext ((x2.trans hb3).alloc _) (by have := x2.size; have := hb3.size; omega)
 obtain ⟨n3, h3⟩ : ∃ n, w3.heap.size = n := ⟨_, rfl⟩
 rw [h3] at bT
 try rw [h3]
 rw [← htt] at bT
 have c0 : W.cell? ⟨n3, 0, none⟩ = some (.int .i64 0) := bT.1 0 _ rfl
 have c1 : W.cell? ⟨n3, 1, none⟩ = some (.int .i64 86400000000) := bT.1 1 _ rfl
 have c2 : W.cell? ⟨n3, 2, none⟩ = some (.int .i64 1099185931659) := bT.1 2 _ rfl
 have c3 : W.cell? ⟨n3, 3, none⟩ = some (.int .i64 1099511627776) := bT.1 3 _ rfl
 have c21 : W.cell? ⟨n3, 21, none⟩ = some (.int .i64 (-325214509)) := bT.1 21 _ rfl
 clear p0 q0 p1 q1 p2 q2 p3 q3 p4 q4 p5 q5 hW bT hth hb3 hst hz htt h3 b1 b2 x2
 go_wp2_with fail
 refine bodyPost_ret (v := .bool true) ?_ rfl ⟨rfl, xW⟩
 simp [results, Tryz.results32, go_sem, ↓IntWalk.iteOmega, *]
structure FxB (w : World) (B : Nat) (U : World) : Prop where
 own : Ext w U
 p : VB U B (six lvP)
 v : VB U (B + 1) (six V3.O)
 e : U.cell? ⟨B + 2, 0, none⟩ = some (.slice none 0 0)
 x : VB U (B + 3) (six lvB)
theorem FxB.ext {w U W : World} {B : Nat} (h : FxB w B U) (k : Ext U W) : FxB w B W :=
 ⟨h.own.trans k, h.p.ext k, h.v.ext k, (k.cells.1 _ 0 (by have := h.x.2.2; omega)).trans h.e, h.x.ext k⟩
theorem at_3 {a b c : Tu} {v : Value} {w : World} (h : TuS w v [a, b, c]) (h1 : a.ti = 1) (h2 : b.fr = 1) (h3 : b.ti = 3) :
    Calls Tryz.prog 41 #[v, .int .i64 3] w fun e w' => e = .returned (.tuple #[.int .i64 1, .int .i64 0]) ∧ Ext w w' := by
 have e0 : atB a 3 = false := by unfold atB; rw [h1]; simp
 have e1 : atB b 3 = true := by unfold atB; rw [h2, h3]; decide
 refine (p_At v [a, b, c] 3 w h).mono ?_
 rintro e w' (⟨k, k1, k2, k3, rfl, hb⟩ | ⟨k2, rfl, hb⟩)
 ·have hk : k = 1 := by
   match k, k3 with
   | 0, k3 => exact absurd (k3.symm.trans e0) (by decide)
   | 1, _ => rfl
   | k + 2, _ => exact absurd ((k2 1 (by omega)).symm.trans e1) (by decide)
  subst hk
  exact ⟨rfl, hb⟩
 ·exact absurd ((k2 1 (by simp)).symm.trans e1) (by decide)
theorem at_6 {a b c : Tu} {v : Value} {w : World} (h : TuS w v [a, b, c]) (h1 : a.ti = 1) (h3 : b.ti = 3) (h5 : c.ti = 5) :
    Calls Tryz.prog 41 #[v, .int .i64 6] w fun e w' => e = .returned (.tuple #[.int .i64 0, .int .i64 6]) ∧ Ext w w' := by
 have e0 : atB a 6 = false := by unfold atB; rw [h1]; simp
 have e1 : atB b 6 = false := by unfold atB; rw [h3]; simp
 have e2 : atB c 6 = false := by unfold atB; rw [h5]; simp
 refine (p_At v [a, b, c] 6 w h).mono ?_
 rintro e w' (⟨k, k1, k2, k3, rfl, hb⟩ | ⟨k2, rfl, hb⟩)
 ·exfalso
  match k, k1, k3 with
  | 0, _, k3 => exact absurd (k3.symm.trans e0) (by decide)
  | 1, _, k3 => exact absurd (k3.symm.trans e1) (by decide)
  | 2, _, k3 => exact absurd (k3.symm.trans e2) (by decide)
  | k + 3, k1, _ => exact absurd k1 (by simp)
 ·exact ⟨rfl, hb⟩
end Go.Proofs.YtbkgakgdbmjmjaaGreat
