/- flow.Run: the walk. -/
import Derived.Test.YtbkgakgdbmjmjaaGreatP29
set_option linter.unusedSimpArgs false
set_option linter.unusedVariables false
set_option maxRecDepth 100000
set_option maxHeartbeats 16000000
namespace Go.Proofs.YtbkgakgdbmjmjaaGreat
open Go.RowKit
theorem T_RUN_3 {p : Prop} (h : p := by
 refine hK.out _ _ trivial (fun _ => ?_)
 clear hK K
 try simp only [sx_]
 refine rh1 26 rfl fun K hK => ?_
 go_simp
 refine hK.out _ _ trivial (fun _ => ?_)
 clear hK K
 try simp only [sx_]
 refine wpAnyH_done c_16 ?_ _
 go_wp2_with fail
 go_meet
 exact ⟨_, rfl, rfl, J2.row hWs.1 (by have := J2.v.2.2; have := A.v.2.2; omega), hWs.ext E2 hl, hl, VB.row (m := tuL t) hA2 hWs⟩) : p := h
theorem T_RUN_2 {p : Prop} (h : p := by
 subst hR
 go_wp2_with fail
 refine bodyPost_ret (v := .tuple #[.slice none 0 0, .int .i64 16]) ?_ rfl ⟨_, rfl, TuS.nil _, c_28⟩
 simp [results, Tryz.results37, go_sem, ↓IntWalk.iteOmega, *]) : p := h
theorem T_RUN_1 {p : Prop} (h : p := by
 subst hR
 go_wp2_with fail
 refine bodyPost_ret (v := .tuple #[.slice none 0 0, .int .i64 2]) ?_ rfl ⟨_, rfl, TuS.nil _, c_28⟩
 simp [results, Tryz.results37, go_sem, ↓IntWalk.iteOmega, *]) : p := h
theorem rn_walk (St : Int → Int → V3 → V3 → Tu × Int) (ao : Option Addr) (m cap : Nat) (s : StD) (te n : Int) (w : World)
    (hS : ∀ fr ti p v w1, v.I → Ext w w1 → Calls Tryz.prog 30 #[.agg #[.slice ao m cap], .int .i64 fr, .int .i64 ti, .agg #[.int .i64 p.a, .int .i64 p.b, .int .i64 p.c, .int .i64 p.d, .int .i64 p.e, .int .i64 p.f], .agg #[.int .i64 v.a, .int .i64 v.b, .int .i64 v.c, .int .i64 v.d, .int .i64 v.e, .int .i64 v.f]] w1 fun e w' => e = .returned (.tuple #[tv (St fr ti p v).1, .int .i64 (St fr ti p v).2]) ∧ Ext w1 w')
    (hI : ∀ fr ti p v, (St fr ti p v).2 = 0 → (St fr ti p v).1.v.I) :
    Calls Tryz.prog 37 #[.agg #[.slice ao m cap], .agg #[.int .i64 s.t, .int .i64 s.x, .int .i64 s.y, .int .i64 s.z, .int .i64 s.u, .int .i64 s.v, .int .i64 s.r], .int .i64 te, .int .i64 n] w fun e w' => ∃ v, e = .returned (.tuple #[v, .int .i64 (rnR St s te n).2]) ∧ TuS w' v (rnR St s te n).1 ∧ Ext w w' := by
 obtain ⟨c8, hc8⟩ : ∃ c, stC8 s = c := ⟨_, rfl⟩
 have hv8 := fun h => st_val (s := s) (hc8.trans h)
 have hck := fun w1 => k_Check s.t s.x s.y s.z s.u s.v s.r w1
 rw [show stE s.t s.x s.y s.z s.u s.v s.r = c8 from hc8] at hck
 obtain ⟨R, hR⟩ : ∃ R, rnR St s te n = R := ⟨_, rfl⟩
 rw [hR]
 unfold rnR at hR
 rw [hc8] at hR
 have b0 := VB.lit (w.alloc (.cells #[.slice ao m cap] 24)) (stL s) 79
 have e0 : Ext w (w.alloc (.cells #[.slice ao m cap] 24)) := (Ext.refl w).alloc _
 rw [World.size_alloc] at b0
 go_enter Tryz.func37, Tryz.ntmps37
 go_upto_region 1 with fail
 refine wp_name fun U hN => ?_
 have hU : U = _ := hN
 have I0 : RnB w ao m cap s U := by
  rw [hU]
  exact ⟨e0.alloc _, by simp [go_sem, ↓IntWalk.iteOmega], b0⟩
 clear hN hU b0 e0
 have g0 := I0.s.1 0 _ rfl
 have g1 := I0.s.1 1 _ rfl
 have g2 := I0.s.1 2 _ rfl
 have g3 := I0.s.1 3 _ rfl
 have g4 := I0.s.1 4 _ rfl
 have g5 := I0.s.1 5 _ rfl
 have g6 := I0.s.1 6 _ rfl
 go_upto_region 2 with (go_at_call 82; (with_reducible refine (hck _).mono ?_); rintro e w1 ⟨rfl, hb⟩)
 have I1 := I0.ext hb
 have h0 := I1.s.1 0 _ rfl
 clear g0 g1 g2 g3 g4 g5 g6 hck I0
 by_cases k8 : c8 = 0
 ·subst k8
  obtain ⟨v1, v2, v3, v4⟩ := hv8 rfl
  rw [if_neg (by simp)] at hR
  by_cases k1 : te < -5000000000000000
  ·rw [if_pos (Or.inl k1)] at hR
   exact T_RUN_2
  by_cases k2 : 5000000000000000 < te
  ·rw [if_pos (Or.inr k2)] at hR
   exact T_RUN_2
  rw [if_neg (by omega)] at hR
  by_cases k3 : n < 1
  ·rw [if_pos (Or.inl k3)] at hR
   exact T_RUN_1
  by_cases k4 : 200 < n
  ·rw [if_pos (Or.inr (Or.inl k4))] at hR
   exact T_RUN_1
  by_cases k5 : te - s.t < n
  ·rw [if_pos (Or.inr (Or.inr k5))] at hR
   exact T_RUN_1
  rw [if_neg (by omega)] at hR
  go_upto_region 9 with fail
  refine wp_name fun U8 hN => ?_
  obtain ⟨g, hg⟩ : ∃ g, w1.heap.size = g := ⟨_, rfl⟩
  have A0 : RnA w ao m cap s g [0, 0, 0, 0, 0, 0] [0, 0, 0, 0, 0, 0] U8 := by
   have e : U8 = (w1.alloc (.cells #[.int .i64 0, .int .i64 0, .int .i64 0, .int .i64 0, .int .i64 0, .int .i64 0] 28)).alloc (.cells #[.int .i64 0, .int .i64 0, .int .i64 0, .int .i64 0, .int .i64 0, .int .i64 0] 28) := hN
   have h := VB.lit (w1.alloc (.cells #[.int .i64 0, .int .i64 0, .int .i64 0, .int .i64 0, .int .i64 0, .int .i64 0] 28)) [0, 0, 0, 0, 0, 0] 28
   rw [World.size_alloc] at h
   rw [e, ← hg]
   exact ⟨I1.ext (((Ext.refl _).alloc _).alloc _), by have := I1.s.2.2; omega, (VB.lit w1 [0, 0, 0, 0, 0, 0] 28).ext ((Ext.refl _).alloc (.cells #[.int .i64 0, .int .i64 0, .int .i64 0, .int .i64 0, .int .i64 0, .int .i64 0] 28)), h⟩
  try rw [hg]
  clear hN hg h0 hb I1
  go_wp2_with fail
  refine wp_loop_rounds 4 ?_
  rw [rounds_succ]
  go_upto_region 12 with fail
  have J0 := A0.ext (Ext.refl _).drew
  refine wp_region_till (S := (fun w0 => VB w0 (w.heap.size + 1) (stL s))) (fun _ => false) c_16 ?_ (fun hHeld => ?_)
  ·exact J0.b.s
  try simp only [sx_]
  refine tp 0 rfl c_0 ?_
  try simp only [sx_]
  refine tp 1 rfl c_0 ?_
  try simp only [sx_]
  refine tp 2 rfl c_0 ?_
  try simp only [sx_]
  refine tp 3 rfl c_0 ?_
  try simp only [sx_]
  refine tp 4 rfl c_0 ?_
  try simp only [sx_]
  refine tb 5 rfl c_31 ?_
  try simp only [sx_]
  refine tp 6 rfl c_0 ?_
  try simp only [sx_]
  refine tp 7 rfl c_0 ?_
  try simp only [sx_]
  refine tp 8 rfl c_0 ?_
  try simp only [sx_]
  refine tb 9 rfl c_31 ?_
  try simp only [sx_]
  refine tp 10 rfl c_0 ?_
  try simp only [sx_]
  refine tp 11 rfl c_0 ?_
  try simp only [sx_]
  refine tp 12 rfl c_0 ?_
  try simp only [sx_]
  refine tp 13 rfl c_0 ?_
  try simp only [sx_]
  refine tb 14 rfl c_31 ?_
  try simp only [sx_]
  refine tp 15 rfl c_0 ?_
  try simp only [sx_]
  refine tp 16 rfl c_0 ?_
  try simp only [sx_]
  refine tp 17 rfl c_0 ?_
  try simp only [sx_]
  refine tb 18 rfl c_31 ?_
  try simp only [sx_]
  refine tp 19 rfl c_0 ?_
  try simp only [sx_]
  refine tp 20 rfl c_0 ?_
  try simp only [sx_]
  refine rb (i := 21) rfl fun K hK => ?_
  rw [if_pos (by rfl)]
  refine wp_store_at 26 (.tmp 67) (.tmp 57) rfl g 0 #[.int .i64 s.x, .int .i64 s.x] rfl rfl (J0.p.mid 0 2 (Nat.le_of_ble_eq_true rfl)) tyI26 c_44 (fun W1 hW1 => ?_)
  have J1 := J0.sp (k := [s.x, s.x]) hW1 (Nat.le_of_ble_eq_true rfl)
  try simp only [sx_]
  refine hK.out _ _ ?_ fun _ => ?_
  ·(try dsimp only); exact J1.b.s
  clear hK K hHeld
  rename_i hHeld
  try simp only [sx_]
  refine tp 22 rfl c_0 ?_
  try simp only [sx_]
  refine rb (i := 23) rfl fun K hK => ?_
  rw [if_pos (by rfl)]
  refine wp_store_at 26 (.tmp 68) (.tmp 66) rfl (g + 1) 0 #[.int .i64 s.u, .int .i64 s.u] rfl rfl (J1.v.mid 0 2 (Nat.le_of_ble_eq_true rfl)) tyI26 c_44 (fun W2 hW2 => ?_)
  have J2 := J1.sv (k := [s.u, s.u]) hW2 (Nat.le_of_ble_eq_true rfl)
  try simp only [sx_]
  refine hK.out _ _ ?_ fun _ => ?_
  ·(try dsimp only); exact J2.b.s
  clear hK K hHeld
  rename_i hHeld
  try simp only [sx_]
  refine wpAnyB_done c_16 ?_ _
  have A1 : RnA w ao m cap s g [s.x, s.x, 0, 0, 0, 0] [s.u, s.u, 0, 0, 0, 0] W2 := J2
  clear hW1 hW2 J0 J1 J2 A0 hHeld
  go_wp2_with fail
  rw [rounds_succ]
  go_upto_region 12 with fail
  have J0 := A1.ext (Ext.refl _).drew
  refine wp_region_till (S := (fun w0 => VB w0 (w.heap.size + 1) (stL s))) (fun _ => false) c_16 ?_ (fun hHeld => ?_)
  ·exact J0.b.s
  try simp only [sx_]
  refine tp 0 rfl c_0 ?_
  try simp only [sx_]
  refine tp 1 rfl c_0 ?_
  try simp only [sx_]
  refine tp 2 rfl c_0 ?_
  try simp only [sx_]
  refine tp 3 rfl c_0 ?_
  try simp only [sx_]
  refine tp 4 rfl c_0 ?_
  try simp only [sx_]
  refine tb 5 rfl c_32 ?_
  try simp only [sx_]
  refine tp 6 rfl c_0 ?_
  try simp only [sx_]
  refine tp 7 rfl c_0 ?_
  try simp only [sx_]
  refine tp 8 rfl c_0 ?_
  try simp only [sx_]
  refine tb 9 rfl c_32 ?_
  try simp only [sx_]
  refine tp 10 rfl c_0 ?_
  try simp only [sx_]
  refine tp 11 rfl c_0 ?_
  try simp only [sx_]
  refine tp 12 rfl c_0 ?_
  try simp only [sx_]
  refine tp 13 rfl c_0 ?_
  try simp only [sx_]
  refine tb 14 rfl c_32 ?_
  try simp only [sx_]
  refine tp 15 rfl c_0 ?_
  try simp only [sx_]
  refine tp 16 rfl c_0 ?_
  try simp only [sx_]
  refine tp 17 rfl c_0 ?_
  try simp only [sx_]
  refine tb 18 rfl c_32 ?_
  try simp only [sx_]
  refine tp 19 rfl c_0 ?_
  try simp only [sx_]
  refine tp 20 rfl c_0 ?_
  try simp only [sx_]
  refine rb (i := 21) rfl fun K hK => ?_
  rw [if_pos (by rfl)]
  refine wp_store_at 26 (.tmp 67) (.tmp 57) rfl g 2 #[.int .i64 s.y, .int .i64 s.y] rfl rfl (J0.p.mid 2 2 (Nat.le_of_ble_eq_true rfl)) tyI26 c_44 (fun W1 hW1 => ?_)
  have J1 := J0.sp (k := [s.y, s.y]) hW1 (Nat.le_of_ble_eq_true rfl)
  try simp only [sx_]
  refine hK.out _ _ ?_ fun _ => ?_
  ·(try dsimp only); exact J1.b.s
  clear hK K hHeld
  rename_i hHeld
  try simp only [sx_]
  refine tp 22 rfl c_0 ?_
  try simp only [sx_]
  refine rb (i := 23) rfl fun K hK => ?_
  rw [if_pos (by rfl)]
  refine wp_store_at 26 (.tmp 68) (.tmp 66) rfl (g + 1) 2 #[.int .i64 s.v, .int .i64 s.v] rfl rfl (J1.v.mid 2 2 (Nat.le_of_ble_eq_true rfl)) tyI26 c_44 (fun W2 hW2 => ?_)
  have J2 := J1.sv (k := [s.v, s.v]) hW2 (Nat.le_of_ble_eq_true rfl)
  try simp only [sx_]
  refine hK.out _ _ ?_ fun _ => ?_
  ·(try dsimp only); exact J2.b.s
  clear hK K hHeld
  rename_i hHeld
  try simp only [sx_]
  refine wpAnyB_done c_16 ?_ _
  have A2 : RnA w ao m cap s g [s.x, s.x, s.y, s.y, 0, 0] [s.u, s.u, s.v, s.v, 0, 0] W2 := J2
  clear hW1 hW2 J0 J1 J2 A1 hHeld
  go_wp2_with fail
  rw [rounds_succ]
  go_upto_region 12 with fail
  have J0 := A2.ext (Ext.refl _).drew
  refine wp_region_till (S := (fun w0 => VB w0 (w.heap.size + 1) (stL s))) (fun _ => false) c_16 ?_ (fun hHeld => ?_)
  ·exact J0.b.s
  try simp only [sx_]
  refine tp 0 rfl c_0 ?_
  try simp only [sx_]
  refine tp 1 rfl c_0 ?_
  try simp only [sx_]
  refine tp 2 rfl c_0 ?_
  try simp only [sx_]
  refine tp 3 rfl c_0 ?_
  try simp only [sx_]
  refine tp 4 rfl c_0 ?_
  try simp only [sx_]
  refine tb 5 rfl c_33 ?_
  try simp only [sx_]
  refine tp 6 rfl c_0 ?_
  try simp only [sx_]
  refine tp 7 rfl c_0 ?_
  try simp only [sx_]
  refine tp 8 rfl c_0 ?_
  try simp only [sx_]
  refine tb 9 rfl c_33 ?_
  try simp only [sx_]
  refine tp 10 rfl c_0 ?_
  try simp only [sx_]
  refine tp 11 rfl c_0 ?_
  try simp only [sx_]
  refine tp 12 rfl c_0 ?_
  try simp only [sx_]
  refine tp 13 rfl c_0 ?_
  try simp only [sx_]
  refine tb 14 rfl c_33 ?_
  try simp only [sx_]
  refine tp 15 rfl c_0 ?_
  try simp only [sx_]
  refine tp 16 rfl c_0 ?_
  try simp only [sx_]
  refine tp 17 rfl c_0 ?_
  try simp only [sx_]
  refine tb 18 rfl c_33 ?_
  try simp only [sx_]
  refine tp 19 rfl c_0 ?_
  try simp only [sx_]
  refine tp 20 rfl c_0 ?_
  try simp only [sx_]
  refine rb (i := 21) rfl fun K hK => ?_
  rw [if_pos (by rfl)]
  refine wp_store_at 26 (.tmp 67) (.tmp 57) rfl g 4 #[.int .i64 s.z, .int .i64 s.z] rfl rfl (J0.p.mid 4 2 (Nat.le_of_ble_eq_true rfl)) tyI26 c_44 (fun W1 hW1 => ?_)
  have J1 := J0.sp (k := [s.z, s.z]) hW1 (Nat.le_of_ble_eq_true rfl)
  try simp only [sx_]
  refine hK.out _ _ ?_ fun _ => ?_
  ·(try dsimp only); exact J1.b.s
  clear hK K hHeld
  rename_i hHeld
  try simp only [sx_]
  refine tp 22 rfl c_0 ?_
  try simp only [sx_]
  refine rb (i := 23) rfl fun K hK => ?_
  rw [if_pos (by rfl)]
  refine wp_store_at 26 (.tmp 68) (.tmp 66) rfl (g + 1) 4 #[.int .i64 s.r, .int .i64 s.r] rfl rfl (J1.v.mid 4 2 (Nat.le_of_ble_eq_true rfl)) tyI26 c_44 (fun W2 hW2 => ?_)
  have J2 := J1.sv (k := [s.r, s.r]) hW2 (Nat.le_of_ble_eq_true rfl)
  try simp only [sx_]
  refine hK.out _ _ ?_ fun _ => ?_
  ·(try dsimp only); exact J2.b.s
  clear hK K hHeld
  rename_i hHeld
  try simp only [sx_]
  refine wpAnyB_done c_16 ?_ _
  have A3 : RnA w ao m cap s g [s.x, s.x, s.y, s.y, s.z, s.z] [s.u, s.u, s.v, s.v, s.r, s.r] W2 := J2
  clear hW1 hW2 J0 J1 J2 A2 hHeld
  go_wp2_with fail
  rw [rounds_succ]
  obtain ⟨i0, z0, hi, hz0, hz1, hz2⟩ := ty65
  obtain ⟨N, rfl⟩ : ∃ N : Nat, n = (N : Int) := ⟨n.toNat, by omega⟩
  rw [Int.toNat_natCast] at hR
  go_upto_region 14 with fail
  go_upto_region 15 with (refine wpList_make_own _ rfl _ _ 81 rfl (g + 2) 65 i0 z0 26 Tryz.underlying81 hi hz0 hz1 .i64 .i64 N N rfl rfl rfl c_67 c_55 (by have := A3.v.2.2; omega) ?_; intro wm hown hgrow)
  obtain ⟨q, hq⟩ : ∃ q, W2.heap.size = q := ⟨_, rfl⟩
  have AM : RnI w ao m cap s St te N g q N 0 wm := ⟨rfl, ckV_I v2, A3.ext (Ext.grown (Ext.refl _) hgrow), by rw [← hq]; exact hown⟩
  try rw [hq]
  have hgq : g + 2 ≤ q := by have := hown.lt q (by simp [Value.ownBlock, hq]); omega
  clear hown hgrow A3 hq
  go_wp2_with fail
  go_loopw [14, 73] (fun s14 s73 wx => ∃ k : Nat, s14 = .slice (some ⟨q, 0, none⟩) k N ∧ s73 = .int .i64 k ∧ k ≤ N ∧ Hid (RnI w ao m cap s St te N g q N k wx)) (fun _ s73 _ => N - (intOf s73).toNat)
  case atStart => exact ⟨0, rfl, rfl, Nat.zero_le _, AM⟩
  case round =>
   obtain ⟨k, rfl, rfl, hk, HI⟩ := hrel
   obtain ⟨c1, c2, A, O⟩ := HI.out
   clear HI
   rcases Nat.eq_or_lt_of_le hk with rfl | hk2
   ·rw [if_neg (fun c => c c1)] at hR
    subst hR
    have hlen : (rnL St s.t te k (alP s) (alV s) k).length = k := rnL_len k
    have hT := ownsRow_tus (ls := rnL St s.t te k (alP s) (alV s) k) (by rw [hlen]; exact O) (by rw [hlen]; omega)
    rw [hlen] at hT
    have xx := A.b.own
    go_wp2_with fail
    refine bodyPost_ret (v := .tuple #[.slice (some ⟨q, 0, none⟩) k k, .int .i64 0]) ?_ rfl ⟨_, rfl, hT, xx⟩
    simp [results, Tryz.results37, go_sem, ↓IntWalk.iteOmega, *]
   ·obtain ⟨P, hP⟩ : ∃ P, (rnU St s.t te N (alP s) (alV s) k).1.p = P := ⟨_, rfl⟩
    obtain ⟨V, hV⟩ : ∃ V, (rnU St s.t te N (alP s) (alV s) k).1.v = V := ⟨_, rfl⟩
    rw [hP, hV] at A
    rw [hV] at c2
    have hU : rnU St s.t te N (alP s) (alV s) (k + 1) = St (rnT s.t te N k) (rnT s.t te N (k + 1)) P V := by rw [rnU, if_neg (fun c => c c1), hP, hV]
    have eF := rn_at (j := k) (L := te - s.t) (n := N) (t := s.t) (by omega) (by omega) (by omega) (by omega) (by omega) (by omega) v3 v4
    have eG := rn_at (j := (k : Int) + 1) (L := te - s.t) (n := N) (t := s.t) (by omega) (by omega) (by omega) (by omega) (by omega) (by omega) v3 v4
    have tF : s.t + (k : Int) * (te - s.t) / N = rnT s.t te N k := rfl
    have tG : s.t + ((k : Int) + 1) * (te - s.t) / N = rnT s.t te N (k + 1) := rfl
    rw [tF] at eF
    rw [tG] at eG
    have eK : IntKind.i64.wrap ((k : Int) + 1) = (k : Int) + 1 := by simp only [IntWalk.i64_left]; exact w64_in (by omega)
    rw [← eK] at eG
    clear eK tF tG
    have hSt := fun w1 => hS (rnT s.t te N k) (rnT s.t te N (k + 1)) P V w1 c2
    have h0 := A.b.s.1 0 _ rfl
    go_upto_region 19 with fail
    obtain ⟨t, ht⟩ : ∃ t, (St (rnT s.t te N k) (rnT s.t te N (k + 1)) P V).1 = t := ⟨_, rfl⟩
    obtain ⟨e2, he2⟩ : ∃ e2, (St (rnT s.t te N k) (rnT s.t te N (k + 1)) P V).2 = e2 := ⟨_, rfl⟩
    have hI2 := hI (rnT s.t te N k) (rnT s.t te N (k + 1)) P V
    rw [ht, he2] at hI2
    rw [ht, he2] at hSt
    unfold tv at hSt
    have n0 : ¬ N = 0 := by omega
    go_cut [17, 18] from 80 to 103 (fun s17 s18 wx => ∃ T : Nat, s17 = .pointer (some ⟨T, 0, none⟩) ∧ s18 = .int .i64 e2 ∧ RnA w ao m cap s g (six P) (six V) wx ∧ Ext wr wx ∧ wr.heap.size ≤ T ∧ VB wx T (tuL t))
    case first =>
     have J0 := A.ext (Ext.refl wr).drew
     have E0 := (Ext.refl wr).drew
     refine wp_region_till (S := (fun w0 => RnA w ao m cap s g (six P) (six V) w0)) (fun i => decide (i = 25)) c_16 ?_ (fun hHeld => ?_)
     ·exact J0
     refine wpAnyB_nm fun V0 hV => ?_
     rw [hV] at J0 E0 hHeld
     clear hV
     try simp only [sx_]
     refine tb 0 rfl c_12 ?_
     try simp only [sx_]
     refine tp 1 rfl c_0 ?_
     try simp only [sx_]
     refine tb 2 rfl c_12 ?_
     try simp only [sx_]
     refine tp 3 rfl c_0 ?_
     try simp only [sx_]
     refine tp 4 rfl c_0 ?_
     try simp only [sx_]
     refine tp 5 rfl c_0 ?_
     try simp only [sx_]
     refine tp 6 rfl c_0 ?_
     try simp only [sx_]
     refine tp 7 rfl c_0 ?_
     try simp only [sx_]
     refine tp 8 rfl c_0 ?_
     try simp only [sx_]
     refine tp 9 rfl c_0 ?_
     try simp only [sx_]
     refine tb 10 rfl c_12 ?_
     try simp only [sx_]
     refine tp 11 rfl c_0 ?_
     try simp only [sx_]
     refine tp 12 rfl c_0 ?_
     try simp only [sx_]
     refine tp 13 rfl c_0 ?_
     try simp only [sx_]
     refine tp 14 rfl c_0 ?_
     try simp only [sx_]
     refine tp 15 rfl c_0 ?_
     try simp only [sx_]
     refine tp 16 rfl c_0 ?_
     try simp only [sx_]
     refine tp 17 rfl c_0 ?_
     try simp only [sx_]
     refine tb 18 rfl c_12 ?_
     try simp only [sx_]
     refine tb 19 rfl c_12 ?_
     try simp only [sx_]
     refine wpAnyB_ready (rs := [20, 24]) c_16 (by simp) ?_
     refine AllReadyB.cons (o := _) rfl rfl (fun K hK => ?_) (AllReadyB.cons (o := _) rfl rfl (fun K hK => ?_) AllReadyB.nil)
     ·go_simp
      (go_at_call 30; (with_reducible refine (hSt _ J0.b.own).mono ?_); rintro e y1 ⟨rfl, hy⟩)
      have J1 := J0.ext hy
      have E1 := E0.trans hy
      refine hK.out _ _ ?_ fun _ => ?_
      ·(try dsimp only); exact J1
      clear hK K hHeld
      rename_i hHeld
      try simp only [sx_]
      refine tp 21 rfl c_0 ?_
      try simp only [sx_]
      refine tp 22 rfl c_0 ?_
      try simp only [sx_]
      refine tp 23 rfl c_0 ?_
      try simp only [sx_]
      refine rb (i := 24) rfl fun K hK => ?_
      go_simp
      have hA2 := zb65 (y1)
      have J2 := J1.ext ((Ext.refl _).alloc (.cells #[.int .i64 0, .int .i64 0, .int .i64 0, .int .i64 0, .int .i64 0, .int .i64 0, .int .i64 0, .int .i64 0, .int .i64 0, .int .i64 0, .int .i64 0, .int .i64 0, .int .i64 0, .int .i64 0, .int .i64 0, .int .i64 0, .int .i64 0, .int .i64 0, .int .i64 0, .int .i64 0, .int .i64 0, .int .i64 0, .int .i64 0, .int .i64 0, .int .i64 0, .int .i64 0] 65))
      have E2 := E1.trans ((Ext.refl _).alloc (.cells #[.int .i64 0, .int .i64 0, .int .i64 0, .int .i64 0, .int .i64 0, .int .i64 0, .int .i64 0, .int .i64 0, .int .i64 0, .int .i64 0, .int .i64 0, .int .i64 0, .int .i64 0, .int .i64 0, .int .i64 0, .int .i64 0, .int .i64 0, .int .i64 0, .int .i64 0, .int .i64 0, .int .i64 0, .int .i64 0, .int .i64 0, .int .i64 0, .int .i64 0, .int .i64 0] 65))
      have hl : wr.heap.size ≤ (y1).heap.size := E1.size
      refine hK.out _ _ ?_ fun _ => ?_
      ·(try dsimp only); exact J2
      clear hK K hHeld
      rename_i hHeld
      try simp only [sx_]
      refine rl (i := 25) rfl fun K hK => ?_
      rw [if_pos (by rfl)]
      refine Go.Proofs.YtbkgakgdbmjmjaaGreat.wp_store_row 65 (.tmp 17) (.tmp 102) rfl (y1.heap.size) (tvs t).toArray rfl rfl (hA2.there 26 rfl) tyI65 c_50 (fun Ws hWs => ?_)
      try simp only [sx_]
      exact T_RUN_3
     ·go_simp
      have hA1 := zb65 (V0)
      have J1 := J0.ext ((Ext.refl _).alloc (.cells #[.int .i64 0, .int .i64 0, .int .i64 0, .int .i64 0, .int .i64 0, .int .i64 0, .int .i64 0, .int .i64 0, .int .i64 0, .int .i64 0, .int .i64 0, .int .i64 0, .int .i64 0, .int .i64 0, .int .i64 0, .int .i64 0, .int .i64 0, .int .i64 0, .int .i64 0, .int .i64 0, .int .i64 0, .int .i64 0, .int .i64 0, .int .i64 0, .int .i64 0, .int .i64 0] 65))
      have E1 := E0.trans ((Ext.refl _).alloc (.cells #[.int .i64 0, .int .i64 0, .int .i64 0, .int .i64 0, .int .i64 0, .int .i64 0, .int .i64 0, .int .i64 0, .int .i64 0, .int .i64 0, .int .i64 0, .int .i64 0, .int .i64 0, .int .i64 0, .int .i64 0, .int .i64 0, .int .i64 0, .int .i64 0, .int .i64 0, .int .i64 0, .int .i64 0, .int .i64 0, .int .i64 0, .int .i64 0, .int .i64 0, .int .i64 0] 65))
      have hl : wr.heap.size ≤ (V0).heap.size := E0.size
      refine hK.out _ _ ?_ fun _ => ?_
      ·(try dsimp only); exact J1
      clear hK K hHeld
      rename_i hHeld
      try simp only [sx_]
      refine rb (i := 20) rfl fun K hK => ?_
      go_simp
      (go_at_call 30; (with_reducible refine (hSt _ J1.b.own).mono ?_); rintro e y1 ⟨rfl, hy⟩)
      have J2 := J1.ext hy
      have E2 := E1.trans hy
      have hA2 := hA1.ext hy
      refine hK.out _ _ ?_ fun _ => ?_
      ·(try dsimp only); exact J2
      clear hK K hHeld
      rename_i hHeld
      try simp only [sx_]
      refine tp 21 rfl c_0 ?_
      try simp only [sx_]
      refine tp 22 rfl c_0 ?_
      try simp only [sx_]
      refine tp 23 rfl c_0 ?_
      try simp only [sx_]
      refine rl (i := 25) rfl fun K hK => ?_
      rw [if_pos (by rfl)]
      refine Go.Proofs.YtbkgakgdbmjmjaaGreat.wp_store_row 65 (.tmp 17) (.tmp 102) rfl (V0.heap.size) (tvs t).toArray rfl rfl (hA2.there 26 rfl) tyI65 c_50 (fun Ws hWs => ?_)
      try simp only [sx_]
      exact T_RUN_3
    obtain ⟨T, rfl, rfl, A2, E2, hT1, hT2⟩ := hcut
    have hgT : g + 1 < T := by have := A.v.2.2; omega
    clear A h0
    have O2 : wc.ownsRow (g + 2) 65 26 (.slice (some ⟨q, 0, none⟩) k N) k ((rnL St s.t te N (alP s) (alV s) k).flatMap tvs) := World.ownsRow.kept O E2.grownN (Or.inr (by simp [Value.ownBlock]))
    have hqT : q < T := by have := (O.lt q (by simp [Value.ownBlock])).2; omega
    clear O E2 hSt eF eG
    by_cases e0 : e2 = 0
    ·subst e0
     have c3 : (rnU St s.t te N (alP s) (alV s) (k + 1)).2 = 0 := by rw [hU]; exact he2
     have u3 : (rnU St s.t te N (alP s) (alV s) (k + 1)).1 = t := by rw [hU]; exact ht
     have hr := hT2.range
     obtain ⟨dd, hu65, hrow⟩ := tyU65
     go_upto_region 23 with (first
      | ((with_reducible show wpList _ _ _ _ _ _); refine wpList_load_mid rfl 65 (.tmp 17) rfl T 0 rfl (tvs t) dd hr hu65 hrow tyI65 ?_)
      | ((with_reducible show wpList _ _ _ _ _ _); refine wpList_buildSlice rfl 81 65 1 #[(0, .tmp 108)] rfl (tvs t).toArray i0 z0 Tryz.underlying81 hi hz0 (by rw [hz1]; decide) (by rw [hz1]; decide) (by rw [Array.toList_map]; exact rn_fill t hz0 hi hz1) ?_)
      | (at_builtin; go_loud (refine wpList_append_fits _ rfl _ _ 81 rfl (g + 2) 65 i0 26 Tryz.underlying81 hi hz1 q k N _ rfl (O2.alloc _) ⟨wc.heap.size, 0, none⟩ 1 1 (tvs t) rfl rfl (cells_new_l _ _ _ _ rfl) c_50 (by omega) ?_); intro wa hown hgrow))
     have hap := (Ext.refl wc).alloc (.cells (tvs t).toArray 65)
     have A3 : RnA w ao m cap s g (six P) (six V) wa := (A2.ext hap).grow hgrow hgq
     have hT3 : VB wa T (tuL t) := (hT2.ext hap).grownAt hgrow (by omega)
     clear A2 hT2 O2 hr hap hgrow hu65 hrow he2
     have J0 := A3.ext (Ext.refl wa).drew
     refine wp_region_till (S := (fun w0 => VB w0 T (tuL t))) (fun _ => false) c_16 ?_ (fun hHeld => ?_)
     ·exact hT3.ext (Ext.refl wa).drew
     try simp only [sx_]
     refine tp 0 rfl c_0 ?_
     try simp only [sx_]
     refine tb 1 rfl c_42 ?_
     try simp only [sx_]
     refine tp 2 rfl c_0 ?_
     try simp only [sx_]
     refine tb 3 rfl c_42 ?_
     try simp only [sx_]
     refine rb (i := 4) rfl fun K hK => ?_
     rw [if_pos (by rfl)]
     refine wp_store_at 28 (.tmp 11) (.tmp 112) rfl (g) 0 #[.int .i64 t.p.a, .int .i64 t.p.b, .int .i64 t.p.c, .int .i64 t.p.d, .int .i64 t.p.e, .int .i64 t.p.f] rfl rfl (J0.p.mid 0 6 (Nat.le_of_ble_eq_true rfl)) tyI28 c_44 (fun W1 hW1 => ?_)
     have J1 : RnA w ao m cap s g (six t.p) (six V) W1 := J0.sp (k := six t.p) hW1 (Nat.le_of_ble_eq_true rfl)
     have o1 := row_keep hown.drew hW1 (by omega)
     try simp only [sx_]
     refine hK.out _ _ ?_ fun _ => ?_
     ·(try dsimp only); exact hW1.other hHeld (by omega)
     clear hK K hHeld
     rename_i hHeld
     try simp only [sx_]
     refine rb (i := 5) rfl fun K hK => ?_
     rw [if_pos (by rfl)]
     refine wp_store_at 28 (.tmp 12) (.tmp 114) rfl (g + 1) 0 #[.int .i64 t.v.a, .int .i64 t.v.b, .int .i64 t.v.c, .int .i64 t.v.d, .int .i64 t.v.e, .int .i64 t.v.f] rfl rfl (J1.v.mid 0 6 (Nat.le_of_ble_eq_true rfl)) tyI28 c_44 (fun W2 hW2 => ?_)
     have J2 : RnA w ao m cap s g (six t.p) (six t.v) W2 := J1.sv (k := six t.v) hW2 (Nat.le_of_ble_eq_true rfl)
     have o2 := row_keep o1 hW2 (by omega)
     try simp only [sx_]
     refine hK.out _ _ ?_ fun _ => ?_
     ·(try dsimp only); exact hW2.other hHeld (by omega)
     clear hK K hHeld
     rename_i hHeld
     try simp only [sx_]
     refine wpAnyB_done c_16 ?_ _
     have e4 : (rnL St s.t te N (alP s) (alV s) (k + 1)).flatMap tvs = (rnL St s.t te N (alP s) (alV s) k).flatMap tvs ++ tvs t := by rw [rnL, List.flatMap_append, u3]; simp
     have HN : RnI w ao m cap s St te N g q N (k + 1) W2 := ⟨c3, by rw [u3]; exact hI2 rfl, by rw [u3]; exact J2, by rw [e4]; exact o2⟩
     clear J0 J1 J2 o1 o2 hW1 hW2 hHeld hown hT3 A3 e4
     go_wp2_with fail
     go_roundw
     case rel => exact ⟨k + 1, rfl, by go_num, hk2, HN⟩
     case measure => simp [intOf]; omega
    ·have hN2 := rnU_up (St := St) (t0 := s.t) (te := te) (n := N) (p := alP s) (v := alV s) (k := k + 1) (by rw [hU, he2]; exact e0) (N - (k + 1))
     rw [show k + 1 + (N - (k + 1)) = N by omega] at hN2
     rw [hN2, hU, he2, if_pos e0] at hR
     subst hR
     have xx := A2.b.own
     go_wp2_with fail
     refine bodyPost_ret (v := .tuple #[.slice none 0 0, .int .i64 e2]) ?_ rfl ⟨_, rfl, TuS.nil _, xx⟩
     simp [results, Tryz.results37, go_sem, ↓IntWalk.iteOmega, *]
 ·rw [if_pos k8] at hR
  subst hR
  go_wp2_with fail
  refine bodyPost_ret (v := .tuple #[.slice none 0 0, .int .i64 c8]) ?_ rfl ⟨_, rfl, TuS.nil _, c_28⟩
  simp [results, Tryz.results37, go_sem, ↓IntWalk.iteOmega, *]
end Go.Proofs.YtbkgakgdbmjmjaaGreat
