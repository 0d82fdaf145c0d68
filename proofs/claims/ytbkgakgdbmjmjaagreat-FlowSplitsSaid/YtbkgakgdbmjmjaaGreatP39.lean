/- law35.FlowSplits: the walk. -/
import Derived.Test.YtbkgakgdbmjmjaaGreatP38
set_option linter.unusedSimpArgs false
set_option linter.unusedVariables false
set_option maxRecDepth 100000
set_option maxHeartbeats 16000000
namespace Go.Proofs.YtbkgakgdbmjmjaaGreat
open Go.RowKit
theorem T_FPW_3 {p : Prop} (h : p := by
 go_wp2_with fail
 go_roundw
 case rel => exact ⟨i + 1, by go_num, hi2, I13⟩
 case measure => simp [intOf]; omega) : p := h
theorem T_FPW_2 {p : Prop} (h : p := by
 go_wp2_with fail
 refine bodyPost_ret (v := .bool true) ?_ rfl ⟨rfl, xx⟩
 simp [results, Tryz.results10, go_sem, ↓IntWalk.iteOmega, *]) : p := h
theorem T_FPW_1 {p : Prop} (h : p := by
 go_wp2_with (first
  | (go_at_call 13; (with_reducible refine hgr.mono ?_); rintro e w2 ⟨bb, rfl, hb2, hG⟩; have I2 := I1.ext hb2; have g0 := I2.s.1 0 _ rfl; have g1 := I2.s.1 1 _ rfl; have g2 := I2.s.1 2 _ rfl; have g3 := I2.s.1 3 _ rfl; have g4 := I2.s.1 4 _ rfl; have g5 := I2.s.1 5 _ rfl; have g6 := I2.s.1 6 _ rfl; rcases bb with _ | _)
  | (go_at_call 36; (with_reducible refine (hck _).mono ?_); rintro e w3 ⟨rfl, hb3⟩))
 all_goals first
  | (refine bodyPost_ret (v := .bool true) ?_ rfl ⟨rfl, (I2.ext c_60).own⟩; simp [results, Tryz.results10, go_sem, ↓IntWalk.iteOmega, *])
  | (refine bodyPost_ret (v := .bool true) ?_ rfl ⟨rfl, I2.own⟩; simp [results, Tryz.results10, go_sem, ↓IntWalk.iteOmega, *])) : p := h
theorem fp_walk (L M : List Tu) (e1 e2 c8 : Int) (G : Prop) (ao : Option Addr) (m cap : Nat) (s : StD) (te n : Int) (w : World)
    (hgr : ∀ w1, Ext w w1 → Calls Tryz.prog 13 #[.agg #[.slice ao m cap]] w1 fun e w' => ∃ b, e = .returned (.bool b) ∧ Ext w1 w' ∧ (b = false → G))
    (hck : ∀ w1, Calls Tryz.prog 36 #[.agg #[.int .i64 s.t, .int .i64 s.x, .int .i64 s.y, .int .i64 s.z, .int .i64 s.u, .int .i64 s.v, .int .i64 s.r]] w1 fun e w' => e = .returned (.int .i64 c8) ∧ Ext w1 w')
    (hr1 : G → ∀ w1, Ext w w1 → Calls Tryz.prog 37 #[.agg #[.slice ao m cap], .agg #[.int .i64 s.t, .int .i64 s.x, .int .i64 s.y, .int .i64 s.z, .int .i64 s.u, .int .i64 s.v, .int .i64 s.r], .int .i64 te, .int .i64 n] w1 fun e w' => ∃ v, e = .returned (.tuple #[v, .int .i64 e1]) ∧ TuS w' v L ∧ Ext w1 w')
    (hr2 : G → ∀ w1, Ext w w1 → Calls Tryz.prog 37 #[.agg #[.slice ao m cap], .agg #[.int .i64 s.t, .int .i64 s.x, .int .i64 s.y, .int .i64 s.z, .int .i64 s.u, .int .i64 s.v, .int .i64 s.r], .int .i64 te, .int .i64 (2 * n)] w1 fun e w' => ∃ v, e = .returned (.tuple #[v, .int .i64 e2]) ∧ TuS w' v M ∧ Ext w1 w')
    (h1 : G → e1 = 0 → SpF s te n L)
    (h2 : G → e1 = 0 → e2 = 0 → SpF s te (2 * n) M ∧ ∀ i, i < L.length → (M.getD (2 * i + 1) Tu.O).ti = (L.getD i Tu.O).ti ∧ mtV (M.getD (2 * i + 1) Tu.O).p (L.getD i Tu.O).p = true ∧ mtV (M.getD (2 * i + 1) Tu.O).v (L.getD i Tu.O).v = true) :
    Calls Tryz.prog 10 #[.agg #[.slice ao m cap], .agg #[.int .i64 s.t, .int .i64 s.x, .int .i64 s.y, .int .i64 s.z, .int .i64 s.u, .int .i64 s.v, .int .i64 s.r], .int .i64 te, .int .i64 n] w fun e w' => e = .returned (.bool true) ∧ Ext w w' := by
 have b0 := VB.lit (w.alloc (.cells #[.slice ao m cap] 24)) (stL s) 79
 have e0 : Ext w (w.alloc (.cells #[.slice ao m cap] 24)) := (Ext.refl w).alloc _
 rw [World.size_alloc] at b0
 go_enter Tryz.func10, Tryz.ntmps10
 go_upto_region 1 with fail
 refine wp_name fun U hN => ?_
 have hU : U = _ := hN
 have I0 : RnB w ao m cap s U := by
  rw [hU]
  exact ⟨e0.alloc _, by simp [go_sem, ↓IntWalk.iteOmega], b0⟩
 clear hN hU b0 e0
 go_upto_region 2 with (go_at_call 32; (with_reducible refine (g_alive5 _).mono ?_); rintro e w1 ⟨rfl, hb1⟩)
 have I1 := I0.ext hb1
 have ec := I1.e
 replace hgr := hgr _ I1.own
 clear I0 hb1
 by_cases k0 : c8 = 0
 ·subst k0
  by_cases k1 : n < 1
  ·exact T_FPW_1
  by_cases k2 : 4 < n
  ·exact T_FPW_1
  go_upto_region 4 with (first
   | (go_at_call 13; (with_reducible refine hgr.mono ?_); rintro e w2 ⟨bb, rfl, hb2, hG⟩; have I2 := I1.ext hb2; have g0 := I2.s.1 0 _ rfl; have g1 := I2.s.1 1 _ rfl; have g2 := I2.s.1 2 _ rfl; have g3 := I2.s.1 3 _ rfl; have g4 := I2.s.1 4 _ rfl; have g5 := I2.s.1 5 _ rfl; have g6 := I2.s.1 6 _ rfl; rcases bb with _ | _)
   | (go_at_call 36; (with_reducible refine (hck _).mono ?_); rintro e w3 ⟨rfl, hb3⟩))
  rotate_left
  ·go_wp2_with fail
   refine bodyPost_ret (v := .bool true) ?_ rfl ⟨rfl, I2.own⟩
   simp [results, Tryz.results10, go_sem, ↓IntWalk.iteOmega, *]
  have hg : G := hG trivial
  obtain ⟨N, rfl⟩ : ∃ N : Nat, n = (N : Int) := ⟨n.toNat, by omega⟩
  have I3 := I2.ext hb3
  clear I2 hb2 hb3 g0 g1 g2 g3 g4 g5 g6 I1 ec hG hgr hck
  replace hr1 := hr1 hg _ I3.own
  have g0 := I3.s.1 0 _ rfl
  have g1 := I3.s.1 1 _ rfl
  have g2 := I3.s.1 2 _ rfl
  have g3 := I3.s.1 3 _ rfl
  have g4 := I3.s.1 4 _ rfl
  have g5 := I3.s.1 5 _ rfl
  have g6 := I3.s.1 6 _ rfl
  have ec := I3.e
  go_upto_region 5 with (go_at_call 37; (with_reducible refine hr1.mono ?_); rintro e w5 ⟨v1, rfl, T1, hb⟩)
  have I5 := I3.ext hb
  replace hr2 := hr2 hg _ I5.own
  clear I3 hb hr1
  clear g0 g1 g2 g3 g4 g5 g6 ec
  have g0 := I5.s.1 0 _ rfl
  have g1 := I5.s.1 1 _ rfl
  have g2 := I5.s.1 2 _ rfl
  have g3 := I5.s.1 3 _ rfl
  have g4 := I5.s.1 4 _ rfl
  have g5 := I5.s.1 5 _ rfl
  have g6 := I5.s.1 6 _ rfl
  have ec := I5.e
  go_upto_region 6 with (go_at_call 37; (with_reducible refine hr2.mono ?_); rintro e w6 ⟨v2, rfl, T2, hb⟩)
  have I6 := I5.ext hb
  replace T1 := T1.ext hb
  clear I5 hb hr2
  clear g0 g1 g2 g3 g4 g5 g6 ec
  by_cases d1 : e1 = 0
  ·subst d1
   have F := h1 hg rfl
   replace h2 := h2 hg rfl
   have hL : L.length = N := by have := F.len; omega
   obtain ⟨ao1, b1, o1, cp1, rfl, a1, -, z1, c1⟩ := T1
   rw [hL] at a1 z1 c1 ⊢
   obtain rfl := a1 (by omega)
   have hv : ∃ b2 o2 cp2 Q, (e2 = 0 → v2 = .slice (some ⟨b2, o2, none⟩) (2 * N) cp2 ∧ Q = 2 * N) ∧ FpI w ao m cap s b1 o1 b2 o2 N Q L M w6 := by
    by_cases d2 : e2 = 0
    ·have hM : M.length = 2 * N := by have := (h2 d2).1.len; omega
     obtain ⟨ao2, b2, o2, cp2, rfl, a2, -, z2, c2⟩ := T2
     rw [hM] at a2 z2 c2 ⊢
     obtain rfl := a2 (by omega)
     exact ⟨b2, o2, cp2, 2 * N, fun _ => ⟨rfl, rfl⟩, I6, c1, c2, z1 (by omega), z2 (by omega)⟩
    ·exact ⟨b1, o1, 0, 0, fun h => absurd h d2, I6, c1, fun i hi => absurd hi (Nat.not_lt_zero _), z1 (by omega), z1 (by omega)⟩
   clear T2 c1 z1 a1 I6
   obtain ⟨b2, o2, cp2, Q, hv2, I⟩ := hv
   go_upto_region 8 with fail
   refine wp_region_till (S := (fun w0 => FpI w ao m cap s b1 o1 b2 o2 N Q L M w0)) (fun _ => false) c_16 ?_ (fun hHeld => ?_)
   ·exact I.ext (Ext.refl _).drew
   try simp only [sx_]
   refine tp 0 rfl c_0 ?_
   try simp only [sx_]
   refine tp 1 rfl c_0 ?_
   try simp only [sx_]
   refine tp 2 rfl c_0 ?_
   try simp only [sx_]
   refine tV 3 (.bool false) ?_
   try simp only [sx_]
   refine tp 4 rfl c_0 ?_
   try simp only [sx_]
   refine tp 5 rfl c_0 ?_
   try simp only [sx_]
   refine tV 6 (.pointer (some ⟨b1, o1, none⟩)) ?_
   try simp only [sx_]
   refine tV 7 (.pointer (some ⟨b1, o1, none⟩)) ?_
   try simp only [sx_]
   refine tG 8 rfl (y_2 (.tmp 67) b1 o1 s.t (fun w0 h => by have c := h.lfr (i := 0) (by omega); rw [F.fr0] at c; simpa using c)) ?_
   try simp only [sx_]
   refine tp 9 rfl c_0 ?_
   try simp only [sx_]
   refine tG 10 rfl (y_2 (.tmp 69) (w.heap.size + 1) 0 s.t (fun w0 h => h.b.s.1 0 _ rfl)) ?_
   try simp only [sx_]
   refine tV 11 (.bool false) ?_
   try simp only [sx_]
   refine tp 12 rfl c_0 ?_
   try simp only [sx_]
   refine tp 13 rfl c_0 ?_
   try simp only [sx_]
   refine tp 14 rfl c_0 ?_
   try simp only [sx_]
   refine tp 15 rfl c_0 ?_
   try simp only [sx_]
   refine tV 16 (.int .i64 ((N : Int) - 1)) ?_
   try simp only [sx_]
   refine tV 17 (.pointer (some ⟨b1, o1 + (N - 1) * 26, none⟩)) ?_
   try simp only [sx_]
   refine tV 18 (.pointer (some ⟨b1, o1 + (N - 1) * 26 + 1, none⟩)) ?_
   try simp only [sx_]
   refine tG 19 rfl (y_2 (.tmp 78) b1 (o1 + (N - 1) * 26 + 1) te (fun w0 h => (h.lti (i := N - 1) (by omega)).trans (by have c := F.end'; rw [show (N : Int).toNat = N from Int.toNat_natCast N] at c; rw [c]))) ?_
   try simp only [sx_]
   refine tp 20 rfl c_0 ?_
   try simp only [sx_]
   refine tV 21 (.bool false) ?_
   try simp only [sx_]
   refine tp 22 rfl c_0 ?_
   try simp only [sx_]
   refine wpAnyB_done c_16 ?_ _
   have I8 := hHeld
   clear hHeld I
   go_wp2_with fail
   go_loopw [14] (fun s14 wx => ∃ i : Nat, s14 = .int .i64 i ∧ i ≤ N ∧ Hid (FpI w ao m cap s b1 o1 b2 o2 N Q L M wx)) (fun s14 _ => N - (intOf s14).toNat)
   case atStart => exact ⟨0, rfl, Nat.zero_le _, I8⟩
   case round =>
    obtain ⟨i, rfl, hi, HI⟩ := hrel
    have I := HI.out
    clear HI
    by_cases hi2 : i < N
    ·obtain ⟨t, ht⟩ : ∃ t, L.getD i Tu.O = t := ⟨_, rfl⟩
     obtain ⟨q1, q2⟩ := F.each i (by omega)
     rw [ht] at q1 q2
     have sd := fun w1 => m_Sound t w1
     rw [q1] at sd
     unfold tv at sd
     go_upto_region 13 with fail
     by_cases hp : 0 < i
     ·obtain ⟨x1, x2⟩ := F.next (i - 1) (by omega)
      rw [show i - 1 + 1 = i by omega, ht] at x1 x2
      obtain ⟨u, hu⟩ : ∃ u, L.getD (i - 1) Tu.O = u := ⟨_, rfl⟩
      rw [hu] at x1 x2
      have mm := fun w1 => m_meets t.h u.p w1
      rw [x2] at mm
      have J0 := I.ext (Ext.refl _).drew
      refine wp_region_till (S := (fun w0 => FpI w ao m cap s b1 o1 b2 o2 N Q L M w0)) (fun _ => false) c_16 ?_ (fun hHeld => ?_)
      ·exact J0
      try simp only [sx_]
      refine tp 0 rfl c_0 ?_
      try simp only [sx_]
      refine tp 1 rfl c_0 ?_
      try simp only [sx_]
      refine tV 2 (.pointer (some ⟨b1, o1 + i * 26, none⟩)) ?_
      try simp only [sx_]
      refine tG 3 rfl (y_65 (.tmp 90) b1 (o1 + i * 26) t (fun w0 h => by have c := h.l i hi2; rwa [ht] at c)) ?_
      try simp only [sx_]
      refine rb (i := 4) rfl fun K hK => ?_
      go_simp
      (go_at_call 33; (with_reducible refine (sd _).mono ?_); rintro e y1 ⟨rfl, hy⟩)
      have J1 := J0.ext hy
      refine hK.out _ _ ?_ fun _ => ?_
      ·(try dsimp only); exact J1
      clear hK K hHeld
      rename_i hHeld
      try simp only [sx_]
      refine tp 5 rfl c_0 ?_
      try simp only [sx_]
      refine tp 6 rfl c_0 ?_
      try simp only [sx_]
      refine tp 7 rfl c_0 ?_
      try simp only [sx_]
      refine tp 8 rfl c_0 ?_
      try simp only [sx_]
      refine tV 9 (.pointer (some ⟨b1, o1 + i * 26, none⟩)) ?_
      try simp only [sx_]
      refine tV 10 (.pointer (some ⟨b1, o1 + i * 26, none⟩)) ?_
      try simp only [sx_]
      refine tG 11 rfl (y_2 (.tmp 98) b1 (o1 + i * 26) t.fr (fun w0 h => (h.lfr hi2).trans (by rw [ht]))) ?_
      try simp only [sx_]
      refine tp 12 rfl c_0 ?_
      try simp only [sx_]
      refine tp 13 rfl c_0 ?_
      try simp only [sx_]
      refine tV 14 (.pointer (some ⟨b1, o1 + i * 26, none⟩)) ?_
      try simp only [sx_]
      refine tV 15 (.pointer (some ⟨b1, o1 + i * 26 + 1, none⟩)) ?_
      try simp only [sx_]
      refine tG 16 rfl (y_2 (.tmp 103) b1 (o1 + i * 26 + 1) t.ti (fun w0 h => (h.lti hi2).trans (by rw [ht]))) ?_
      try simp only [sx_]
      refine tV 17 (.bool false) ?_
      try simp only [sx_]
      refine tp 18 rfl c_0 ?_
      try simp only [sx_]
      refine tp 19 rfl c_0 ?_
      try simp only [sx_]
      refine tp 20 rfl c_0 ?_
      try simp only [sx_]
      refine tV 21 (.bool true) ?_
      try simp only [sx_]
      refine tp 22 rfl c_0 ?_
      try simp only [sx_]
      refine tp 23 rfl c_0 ?_
      try simp only [sx_]
      refine tp 24 rfl c_0 ?_
      try simp only [sx_]
      refine tV 25 (.pointer (some ⟨b1, o1 + i * 26, none⟩)) ?_
      try simp only [sx_]
      refine tV 26 (.pointer (some ⟨b1, o1 + i * 26, none⟩)) ?_
      try simp only [sx_]
      refine tG 27 rfl (y_2 (.tmp 114) b1 (o1 + i * 26) t.fr (fun w0 h => (h.lfr hi2).trans (by rw [ht]))) ?_
      try simp only [sx_]
      refine tp 28 rfl c_0 ?_
      try simp only [sx_]
      refine tp 29 rfl c_0 ?_
      try simp only [sx_]
      refine tV 30 (.int .i64 ((i : Int) - 1)) ?_
      try simp only [sx_]
      refine tV 31 (.pointer (some ⟨b1, o1 + (i - 1) * 26, none⟩)) ?_
      try simp only [sx_]
      refine tV 32 (.pointer (some ⟨b1, o1 + (i - 1) * 26 + 1, none⟩)) ?_
      try simp only [sx_]
      refine tG 33 rfl (y_2 (.tmp 120) b1 (o1 + (i - 1) * 26 + 1) t.fr (fun w0 h => (h.lti (by omega)).trans (by rw [hu, x1]))) ?_
      try simp only [sx_]
      refine tV 34 (.bool false) ?_
      try simp only [sx_]
      refine tp 35 rfl c_0 ?_
      try simp only [sx_]
      refine tp 36 rfl c_0 ?_
      try simp only [sx_]
      refine tp 37 rfl c_0 ?_
      try simp only [sx_]
      refine tV 38 (.pointer (some ⟨b1, o1 + i * 26, none⟩)) ?_
      try simp only [sx_]
      refine tV 39 (.pointer (some ⟨b1, o1 + i * 26 + 2, none⟩)) ?_
      try simp only [sx_]
      refine tG 40 rfl (y_28 (.tmp 127) b1 (o1 + i * 26 + 2) t.h (fun w0 h => by have c := rg_h (h.l i hi2); rwa [ht] at c)) ?_
      try simp only [sx_]
      refine tp 41 rfl c_0 ?_
      try simp only [sx_]
      refine tp 42 rfl c_0 ?_
      try simp only [sx_]
      refine tV 43 (.int .i64 ((i : Int) - 1)) ?_
      try simp only [sx_]
      refine tV 44 (.pointer (some ⟨b1, o1 + (i - 1) * 26, none⟩)) ?_
      try simp only [sx_]
      refine tV 45 (.pointer (some ⟨b1, o1 + (i - 1) * 26 + 14, none⟩)) ?_
      try simp only [sx_]
      refine tG 46 rfl (y_28 (.tmp 133) b1 (o1 + (i - 1) * 26 + 14) u.p (fun w0 h => by have c := rg_p (h.l (i - 1) (by omega)); rwa [hu] at c)) ?_
      try simp only [sx_]
      refine rb (i := 47) rfl fun K hK => ?_
      go_simp
      (go_at_call 34; (with_reducible refine (mm _).mono ?_); rintro e y2 ⟨rfl, hy2⟩)
      have J2 := J1.ext hy2
      refine hK.out _ _ ?_ fun _ => ?_
      ·(try dsimp only); exact J2
      clear hK K hHeld
      rename_i hHeld
      try simp only [sx_]
      refine tp 48 rfl c_0 ?_
      try simp only [sx_]
      refine tp 49 rfl c_0 ?_
      try simp only [sx_]
      refine tp 50 rfl c_0 ?_
      try simp only [sx_]
      refine tp 51 rfl c_0 ?_
      try simp only [sx_]
      refine wpAnyB_done c_16 ?_ _
      have I13 := J2
      clear J0 J1 J2 hHeld I
      exact T_FPW_3
     ·skip
      have J0 := I.ext (Ext.refl _).drew
      refine wp_region_till (S := (fun w0 => FpI w ao m cap s b1 o1 b2 o2 N Q L M w0)) (fun _ => false) c_16 ?_ (fun hHeld => ?_)
      ·exact J0
      try simp only [sx_]
      refine tp 0 rfl c_0 ?_
      try simp only [sx_]
      refine tp 1 rfl c_0 ?_
      try simp only [sx_]
      refine tV 2 (.pointer (some ⟨b1, o1 + i * 26, none⟩)) ?_
      try simp only [sx_]
      refine tG 3 rfl (y_65 (.tmp 90) b1 (o1 + i * 26) t (fun w0 h => by have c := h.l i hi2; rwa [ht] at c)) ?_
      try simp only [sx_]
      refine rb (i := 4) rfl fun K hK => ?_
      go_simp
      (go_at_call 33; (with_reducible refine (sd _).mono ?_); rintro e y1 ⟨rfl, hy⟩)
      have J1 := J0.ext hy
      refine hK.out _ _ ?_ fun _ => ?_
      ·(try dsimp only); exact J1
      clear hK K hHeld
      rename_i hHeld
      try simp only [sx_]
      refine tp 5 rfl c_0 ?_
      try simp only [sx_]
      refine tp 6 rfl c_0 ?_
      try simp only [sx_]
      refine tp 7 rfl c_0 ?_
      try simp only [sx_]
      refine tp 8 rfl c_0 ?_
      try simp only [sx_]
      refine tV 9 (.pointer (some ⟨b1, o1 + i * 26, none⟩)) ?_
      try simp only [sx_]
      refine tV 10 (.pointer (some ⟨b1, o1 + i * 26, none⟩)) ?_
      try simp only [sx_]
      refine tG 11 rfl (y_2 (.tmp 98) b1 (o1 + i * 26) t.fr (fun w0 h => (h.lfr hi2).trans (by rw [ht]))) ?_
      try simp only [sx_]
      refine tp 12 rfl c_0 ?_
      try simp only [sx_]
      refine tp 13 rfl c_0 ?_
      try simp only [sx_]
      refine tV 14 (.pointer (some ⟨b1, o1 + i * 26, none⟩)) ?_
      try simp only [sx_]
      refine tV 15 (.pointer (some ⟨b1, o1 + i * 26 + 1, none⟩)) ?_
      try simp only [sx_]
      refine tG 16 rfl (y_2 (.tmp 103) b1 (o1 + i * 26 + 1) t.ti (fun w0 h => (h.lti hi2).trans (by rw [ht]))) ?_
      try simp only [sx_]
      refine tV 17 (.bool false) ?_
      try simp only [sx_]
      refine tp 18 rfl c_0 ?_
      try simp only [sx_]
      refine tp 19 rfl c_0 ?_
      try simp only [sx_]
      refine tp 20 rfl c_0 ?_
      try simp only [sx_]
      refine tV 21 (.bool false) ?_
      try simp only [sx_]
      refine tp 22 rfl c_0 ?_
      try simp only [sx_]
      refine tG 23 rfl y_no ?_
      try simp only [sx_]
      refine tG 24 rfl y_no ?_
      try simp only [sx_]
      refine tG 25 rfl y_no ?_
      try simp only [sx_]
      refine tG 26 rfl y_no ?_
      try simp only [sx_]
      refine tG 27 rfl y_no ?_
      try simp only [sx_]
      refine tG 28 rfl y_no ?_
      try simp only [sx_]
      refine tG 29 rfl y_no ?_
      try simp only [sx_]
      refine tG 30 rfl y_no ?_
      try simp only [sx_]
      refine tG 31 rfl y_no ?_
      try simp only [sx_]
      refine tG 32 rfl y_no ?_
      try simp only [sx_]
      refine tG 33 rfl y_no ?_
      try simp only [sx_]
      refine tG 34 rfl y_no ?_
      try simp only [sx_]
      refine tG 35 rfl y_no ?_
      try simp only [sx_]
      refine tG 36 rfl y_no ?_
      try simp only [sx_]
      refine tG 37 rfl y_no ?_
      try simp only [sx_]
      refine tG 38 rfl y_no ?_
      try simp only [sx_]
      refine tG 39 rfl y_no ?_
      try simp only [sx_]
      refine tG 40 rfl y_no ?_
      try simp only [sx_]
      refine tG 41 rfl y_no ?_
      try simp only [sx_]
      refine tG 42 rfl y_no ?_
      try simp only [sx_]
      refine tG 43 rfl y_no ?_
      try simp only [sx_]
      refine tG 44 rfl y_no ?_
      try simp only [sx_]
      refine tG 45 rfl y_no ?_
      try simp only [sx_]
      refine tG 46 rfl y_no ?_
      try simp only [sx_]
      refine tG 47 rfl y_no ?_
      try simp only [sx_]
      refine tG 48 rfl y_no ?_
      try simp only [sx_]
      refine tG 49 rfl y_no ?_
      try simp only [sx_]
      refine tp 50 rfl c_0 ?_
      try simp only [sx_]
      refine tp 51 rfl c_0 ?_
      try simp only [sx_]
      refine wpAnyB_done c_16 ?_ _
      have I13 := J1
      clear J0 J1 hHeld I
      exact T_FPW_3
    ·obtain rfl : i = N := by omega
     have g0 := I.b.s.1 0 _ rfl
     have g1 := I.b.s.1 1 _ rfl
     have g2 := I.b.s.1 2 _ rfl
     have g3 := I.b.s.1 3 _ rfl
     have g4 := I.b.s.1 4 _ rfl
     have g5 := I.b.s.1 5 _ rfl
     have g6 := I.b.s.1 6 _ rfl
     have ec := I.b.e
     have hal := fun w1 => m_alone s w1
     go_upto_region 16 with (go_at_call 38; (with_reducible refine (hal _).mono ?_); rintro e w7 ⟨rfl, hb⟩)
     clear g0 g1 g2 g3 g4 g5 g6 ec
     refine wp_name fun U15 hN => ?_
     obtain ⟨B, hB⟩ : ∃ n, w7.heap.size = n := ⟨_, rfl⟩
     have e : U15 = (w7.alloc (.cells #[.int .i64 s.x, .int .i64 s.x, .int .i64 s.y, .int .i64 s.y, .int .i64 s.z, .int .i64 s.z] 28)).alloc (.cells #[.int .i64 s.u, .int .i64 s.u, .int .i64 s.v, .int .i64 s.v, .int .i64 s.r, .int .i64 s.r] 28) := hN
     have bP : VB U15 B (six (alP s)) := by rw [e, ← hB]; exact (VB.lit w7 (six (alP s)) 28).ext ((Ext.refl _).alloc (.cells #[.int .i64 s.u, .int .i64 s.u, .int .i64 s.v, .int .i64 s.v, .int .i64 s.r, .int .i64 s.r] 28))
     have bV : VB U15 (B + 1) (six (alV s)) := by
      have h := VB.lit (w7.alloc (.cells #[.int .i64 s.x, .int .i64 s.x, .int .i64 s.y, .int .i64 s.y, .int .i64 s.z, .int .i64 s.z] 28)) (six (alV s)) 28
      rw [World.size_alloc] at h
      rw [e, ← hB]; exact h
     have I15 : FpI w ao m cap s b1 o1 b2 o2 i Q L M U15 := by rw [e]; exact (I.ext hb).ext (((Ext.refl _).alloc _).alloc _)
     try rw [hB]
     clear hN e hB hb I hal
     obtain ⟨t, ht⟩ : ∃ t, L.getD 0 Tu.O = t := ⟨_, rfl⟩
     have f0 := F.m0
     have f1 := F.m1
     rw [ht] at f0 f1
     have mm0 := fun w1 => m_meets t.h (alP s) w1
     have mm1 := fun w1 => m_meets t.f (alV s) w1
     rw [f0] at mm0
     rw [f1] at mm1
     have J0 : _ ∧ _ ∧ _ := ⟨I15.ext (Ext.refl _).drew, bP.ext (Ext.refl _).drew, bV.ext (Ext.refl _).drew⟩
     refine wp_region_till (S := (fun w0 => FpI w ao m cap s b1 o1 b2 o2 i Q L M w0 ∧ VB w0 B (six (alP s)) ∧ VB w0 (B + 1) (six (alV s)))) (fun _ => false) c_16 ?_ (fun hHeld => ?_)
     ·exact J0
     try simp only [sx_]
     refine tp 0 rfl c_0 ?_
     try simp only [sx_]
     refine tV 1 (.pointer (some ⟨b1, o1, none⟩)) ?_
     try simp only [sx_]
     refine tV 2 (.pointer (some ⟨b1, o1 + 2, none⟩)) ?_
     try simp only [sx_]
     refine tG 3 rfl (y_28 (.tmp 147) b1 (o1 + 2) t.h (fun w0 h => by have c := rg_h (h.1.l 0 (by omega)); rw [ht] at c; simpa using c)) ?_
     try simp only [sx_]
     refine tG 4 rfl (y_28 (.tmp 15) B 0 (alP s) (fun w0 h => h.2.1.range)) ?_
     try simp only [sx_]
     refine rb (i := 5) rfl fun K hK => ?_
     go_simp
     (go_at_call 34; (with_reducible refine (mm0 _).mono ?_); rintro e y1 ⟨rfl, hy1⟩)
     have J1 : _ ∧ _ ∧ _ := ⟨J0.1.ext hy1, J0.2.1.ext hy1, J0.2.2.ext hy1⟩
     refine hK.out _ _ ?_ fun _ => ?_
     ·(try dsimp only); exact J1
     clear hK K hHeld
     rename_i hHeld
     try simp only [sx_]
     refine tp 6 rfl c_0 ?_
     try simp only [sx_]
     refine tp 7 rfl c_0 ?_
     try simp only [sx_]
     refine tp 8 rfl c_0 ?_
     try simp only [sx_]
     refine tV 9 (.pointer (some ⟨b1, o1, none⟩)) ?_
     try simp only [sx_]
     refine tV 10 (.pointer (some ⟨b1, o1 + 8, none⟩)) ?_
     try simp only [sx_]
     refine tG 11 rfl (y_28 (.tmp 155) b1 (o1 + 8) t.f (fun w0 h => by have c := rg_f (h.1.l 0 (by omega)); rw [ht] at c; simpa using c)) ?_
     try simp only [sx_]
     refine tG 12 rfl (y_28 (.tmp 16) (B + 1) 0 (alV s) (fun w0 h => h.2.2.range)) ?_
     try simp only [sx_]
     refine rb (i := 13) rfl fun K hK => ?_
     go_simp
     (go_at_call 34; (with_reducible refine (mm1 _).mono ?_); rintro e y2 ⟨rfl, hy2⟩)
     have J2 : _ ∧ _ ∧ _ := ⟨J1.1.ext hy2, J1.2.1.ext hy2, J1.2.2.ext hy2⟩
     refine hK.out _ _ ?_ fun _ => ?_
     ·(try dsimp only); exact J2
     clear hK K hHeld
     rename_i hHeld
     try simp only [sx_]
     refine tp 14 rfl c_0 ?_
     try simp only [sx_]
     refine tp 15 rfl c_0 ?_
     try simp only [sx_]
     refine wpAnyB_done c_16 ?_ _
     have I16 := J2.1
     clear J0 J1 J2 hHeld I15 bP bV mm0 mm1
     by_cases d2 : e2 = 0
     ·subst d2
      obtain ⟨rfl, rfl⟩ := hv2 rfl
      obtain ⟨FM, X⟩ := h2 rfl
      clear h2 hv2 f0 f1 ht
      go_wp2_with fail
      go_loopw [17] (fun s17 wx => ∃ k : Nat, s17 = .int .i64 k ∧ k ≤ i ∧ Hid (FpI w ao m cap s b1 o1 b2 o2 i (2 * i) L M wx)) (fun s17 _ => i - (intOf s17).toNat)
      case atStart => exact ⟨0, rfl, Nat.zero_le _, I16⟩
      case round =>
       obtain ⟨k, rfl, hk, HI⟩ := hrel
       have I := HI.out
       clear HI
       by_cases hk2 : k < i
       ·obtain ⟨u, hu⟩ : ∃ u, M.getD (2 * k + 1) Tu.O = u := ⟨_, rfl⟩
        obtain ⟨t, ht⟩ : ∃ t, L.getD k Tu.O = t := ⟨_, rfl⟩
        obtain ⟨q1, -⟩ := FM.each (2 * k + 1) (by have := FM.len; omega)
        obtain ⟨x1, x2, x3⟩ := X k (by omega)
        rw [hu] at q1
        rw [hu, ht] at x1 x2 x3
        have sd := fun w1 => m_Sound u w1
        rw [q1] at sd
        unfold tv at sd
        have mm0 := fun w1 => m_meets u.p t.p w1
        have mm1 := fun w1 => m_meets u.v t.v w1
        rw [x2] at mm0
        rw [x3] at mm1
        clear q1 x2 x3
        go_upto_region 26 with fail
        have J0 := I.ext (Ext.refl _).drew
        refine wp_region_till (S := (fun w0 => FpI w ao m cap s b1 o1 b2 o2 i (2 * i) L M w0)) (fun _ => false) c_16 ?_ (fun hHeld => ?_)
        ·exact J0
        try simp only [sx_]
        refine tp 0 rfl c_0 ?_
        try simp only [sx_]
        refine tp 1 rfl c_0 ?_
        try simp only [sx_]
        refine tG 2 rfl (v := .pointer (some ⟨b2, o2 + (2 * k + 1) * 26, none⟩)) (.inl ⟨by rfl, by intro w0 _; go_simp; rw [if_pos (by omega), show (2 * (k : Int) + 1).toNat = 2 * k + 1 by omega]⟩) ?_
        try simp only [sx_]
        refine tG 3 rfl (y_65 (.tmp 179) b2 (o2 + (2 * k + 1) * 26) u (fun w0 h => by have c := h.r (2 * k + 1) (by omega); rwa [hu] at c)) ?_
        try simp only [sx_]
        refine rb (i := 4) rfl fun K hK => ?_
        go_simp
        (go_at_call 33; (with_reducible refine (sd _).mono ?_); rintro e y1 ⟨rfl, hy⟩)
        have J1 := J0.ext hy
        refine hK.out _ _ ?_ fun _ => ?_
        ·(try dsimp only); exact J1
        clear hK K hHeld
        rename_i hHeld
        try simp only [sx_]
        refine tp 5 rfl c_0 ?_
        try simp only [sx_]
        refine tp 6 rfl c_0 ?_
        try simp only [sx_]
        refine tp 7 rfl c_0 ?_
        try simp only [sx_]
        refine tp 8 rfl c_0 ?_
        try simp only [sx_]
        refine tG 9 rfl (v := .pointer (some ⟨b2, o2 + (2 * k + 1) * 26, none⟩)) (.inl ⟨by rfl, by intro w0 _; go_simp; rw [if_pos (by omega), show (2 * (k : Int) + 1).toNat = 2 * k + 1 by omega]⟩) ?_
        try simp only [sx_]
        refine tV 10 (.pointer (some ⟨b2, o2 + (2 * k + 1) * 26 + 1, none⟩)) ?_
        try simp only [sx_]
        refine tG 11 rfl (y_2 (.tmp 187) b2 (o2 + (2 * k + 1) * 26 + 1) u.ti (fun w0 h => (h.rti (by omega)).trans (by rw [hu]))) ?_
        try simp only [sx_]
        refine tp 12 rfl c_0 ?_
        try simp only [sx_]
        refine tp 13 rfl c_0 ?_
        try simp only [sx_]
        refine tV 14 (.pointer (some ⟨b1, o1 + k * 26, none⟩)) ?_
        try simp only [sx_]
        refine tV 15 (.pointer (some ⟨b1, o1 + k * 26 + 1, none⟩)) ?_
        try simp only [sx_]
        refine tG 16 rfl (y_2 (.tmp 192) b1 (o1 + k * 26 + 1) u.ti (fun w0 h => (h.lti hk2).trans (by rw [ht, x1]))) ?_
        try simp only [sx_]
        refine tV 17 (.bool true) ?_
        try simp only [sx_]
        refine tp 18 rfl c_0 ?_
        try simp only [sx_]
        refine tp 19 rfl c_0 ?_
        try simp only [sx_]
        refine tp 20 rfl c_0 ?_
        try simp only [sx_]
        refine tG 21 rfl (v := .pointer (some ⟨b2, o2 + (2 * k + 1) * 26, none⟩)) (.inl ⟨by rfl, by intro w0 _; go_simp; rw [if_pos (by omega), show (2 * (k : Int) + 1).toNat = 2 * k + 1 by omega]⟩) ?_
        try simp only [sx_]
        refine tV 22 (.pointer (some ⟨b2, o2 + (2 * k + 1) * 26 + 14, none⟩)) ?_
        try simp only [sx_]
        refine tG 23 rfl (y_28 (.tmp 199) b2 (o2 + (2 * k + 1) * 26 + 14) u.p (fun w0 h => by have c := rg_p (h.r (2 * k + 1) (by omega)); rwa [hu] at c)) ?_
        try simp only [sx_]
        refine tp 24 rfl c_0 ?_
        try simp only [sx_]
        refine tp 25 rfl c_0 ?_
        try simp only [sx_]
        refine tV 26 (.pointer (some ⟨b1, o1 + k * 26, none⟩)) ?_
        try simp only [sx_]
        refine tV 27 (.pointer (some ⟨b1, o1 + k * 26 + 14, none⟩)) ?_
        try simp only [sx_]
        refine tG 28 rfl (y_28 (.tmp 204) b1 (o1 + k * 26 + 14) t.p (fun w0 h => by have c := rg_p (h.l k hk2); rwa [ht] at c)) ?_
        try simp only [sx_]
        refine rb (i := 29) rfl fun K hK => ?_
        go_simp
        (go_at_call 34; (with_reducible refine (mm0 _).mono ?_); rintro e y2 ⟨rfl, hy2⟩)
        have J2 := J1.ext hy2
        refine hK.out _ _ ?_ fun _ => ?_
        ·(try dsimp only); exact J2
        clear hK K hHeld
        rename_i hHeld
        try simp only [sx_]
        refine tp 30 rfl c_0 ?_
        try simp only [sx_]
        refine tp 31 rfl c_0 ?_
        try simp only [sx_]
        refine tp 32 rfl c_0 ?_
        try simp only [sx_]
        refine tp 33 rfl c_0 ?_
        try simp only [sx_]
        refine tG 34 rfl (v := .pointer (some ⟨b2, o2 + (2 * k + 1) * 26, none⟩)) (.inl ⟨by rfl, by intro w0 _; go_simp; rw [if_pos (by omega), show (2 * (k : Int) + 1).toNat = 2 * k + 1 by omega]⟩) ?_
        try simp only [sx_]
        refine tV 35 (.pointer (some ⟨b2, o2 + (2 * k + 1) * 26 + 20, none⟩)) ?_
        try simp only [sx_]
        refine tG 36 rfl (y_28 (.tmp 212) b2 (o2 + (2 * k + 1) * 26 + 20) u.v (fun w0 h => by have c := rg_v (h.r (2 * k + 1) (by omega)); rwa [hu] at c)) ?_
        try simp only [sx_]
        refine tp 37 rfl c_0 ?_
        try simp only [sx_]
        refine tp 38 rfl c_0 ?_
        try simp only [sx_]
        refine tV 39 (.pointer (some ⟨b1, o1 + k * 26, none⟩)) ?_
        try simp only [sx_]
        refine tV 40 (.pointer (some ⟨b1, o1 + k * 26 + 20, none⟩)) ?_
        try simp only [sx_]
        refine tG 41 rfl (y_28 (.tmp 217) b1 (o1 + k * 26 + 20) t.v (fun w0 h => by have c := rg_v (h.l k hk2); rwa [ht] at c)) ?_
        try simp only [sx_]
        refine rb (i := 42) rfl fun K hK => ?_
        go_simp
        (go_at_call 34; (with_reducible refine (mm1 _).mono ?_); rintro e y3 ⟨rfl, hy3⟩)
        have J3 := J2.ext hy3
        refine hK.out _ _ ?_ fun _ => ?_
        ·(try dsimp only); exact J3
        clear hK K hHeld
        rename_i hHeld
        try simp only [sx_]
        refine tp 43 rfl c_0 ?_
        try simp only [sx_]
        refine tp 44 rfl c_0 ?_
        try simp only [sx_]
        refine tp 45 rfl c_0 ?_
        try simp only [sx_]
        refine tp 46 rfl c_0 ?_
        try simp only [sx_]
        refine wpAnyB_done c_16 ?_ _
        have I26 := J3
        clear J0 J1 J2 J3 hHeld I
        go_wp2_with fail
        go_roundw
        case rel => exact ⟨k + 1, by go_num, hk2, I26⟩
        case measure => simp [intOf]; omega
       ·obtain rfl : k = i := by omega
        have c := I.rti (i := 2 * k - 1) (by omega)
        have ce := FM.end'
        rw [show (2 * (k : Int)).toNat - 1 = 2 * k - 1 by omega] at ce
        rw [ce] at c
        have xx := I.b.own
        clear I ce X FM F h1
        exact T_FPW_2
     ·have xx := I16.b.own
      exact T_FPW_2
  ·go_wp2_with fail
   refine bodyPost_ret (v := .bool true) ?_ rfl ⟨rfl, I6.own⟩
   simp [results, Tryz.results10, go_sem, ↓IntWalk.iteOmega, *]
 ·exact T_FPW_1
end Go.Proofs.YtbkgakgdbmjmjaaGreat
