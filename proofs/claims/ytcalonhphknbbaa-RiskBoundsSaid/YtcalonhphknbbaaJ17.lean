/- Numbers: the greatest common divisor. -/
import Derived.Test.YtcalonhphknbbaaJ10
import Derived.Test.YtcalonhphknbbaaJ16
set_option linter.unusedSimpArgs false
set_option linter.unusedVariables false
namespace Go.Proofs.Ytcalonhphknbbaa
open Go.RowKit

set_option maxRecDepth 100000 in
set_option maxHeartbeats 4000000 in
theorem w_Gcd (va vb : Value) (m k : Nat) (w : World) (ha : Nn w va m) (hb0 : Nn w vb k) (hs : Small m) (hs2 : Small k) :
    Calls Try.prog 68 #[va, vb] w fun e w' => ∃ u, e = .returned (.tuple #[u, .int .i64 0]) ∧ Nn w' u (Nat.gcd m k) ∧ Ext w w' := by
  obtain ⟨u, rfl, hu⟩ := ha
  obtain ⟨s, rfl, hv⟩ := hb0
  obtain ⟨ao, b1, o1, cap1, rfl, v1, v2, v3, v4, v5, v6⟩ := hu.view
  obtain ⟨bo, b2, o2, cap2, rfl, y1, y2, y3, y4, y5, y6⟩ := hv.view
  have hlen : (dig m).length ≤ 100000 ∧ (dig k).length ≤ 100000 := by unfold Small at hs hs2; omega
  obtain ⟨W3, hW3⟩ : ∃ W3, ((w.alloc (.cells #[.bool false, .slice ao (dig m).length cap1] 25)).alloc (.cells #[.bool false, .slice bo (dig k).length cap2] 25)).alloc (.cells #[.bool false, .slice none 0 0] 25) = W3 := ⟨_, rfl⟩
  have hWs : W3.heap.size = w.heap.size + 1 + 1 + 1 := by rw [← hW3]; simp
  have hEW : Ext w W3 := by rw [← hW3]; exact (((Ext.refl w).alloc _).alloc _).alloc _
  have hS : BX w (w.heap.size + 1 + 1) [(w.heap.size, 0, .bool false), (w.heap.size, 1, .slice ao (dig m).length cap1), (w.heap.size + 1, 0, .bool false), (w.heap.size + 1, 1, .slice bo (dig k).length cap2)] W3 := by
    rw [← hW3]
    refine ⟨hW3 ▸ hEW, ?_, ?_, ?_, ?_, ?_, by simp⟩
    · intro p hp
      simp only [List.mem_cons, List.mem_nil_iff, or_false] at hp
      rcases hp with rfl | rfl | rfl | rfl <;> simp [go_sem, ↓IntWalk.iteOmega]
    · exact ⟨.bool false, by simp [go_sem, ↓IntWalk.iteOmega]⟩
    · exact ⟨.slice none 0 0, by simp [go_sem, ↓IntWalk.iteOmega]⟩
    · intro o; simp [go_sem, ↓IntWalk.iteOmega]
    · have := NoU.new ((w.alloc (.cells #[.bool false, .slice ao (dig m).length cap1] 25)).alloc (.cells #[.bool false, .slice bo (dig k).length cap2] 25)) #[.bool false, .slice none 0 0] 25 (noU2 (by simp) (by simp))
      simpa using this
  have hLn : ∀ p ∈ ([(w.heap.size, 0, .bool false), (w.heap.size, 1, .slice ao (dig m).length cap1), (w.heap.size + 1, 0, .bool false), (w.heap.size + 1, 1, .slice bo (dig k).length cap2)] : List (Nat × Nat × Value)), p.1 ≠ w.heap.size + 1 + 1 := by
    intro p hp
    simp only [List.mem_cons, List.mem_nil_iff, or_false] at hp
    rcases hp with rfl | rfl | rfl | rfl <;> (dsimp only; omega)
  have hck := w_check_two W3 _ _ m k (hu.ext hEW) (hv.ext hEW) hs hs2
  rw [hWs] at hck
  subst hW3
  clear v1 v4 v5 y1 y4 y5 hWs hEW
  go_enter Try.func68, Try.ntmps68
  go_upto_region 4 with (go_at_call 57; (with_reducible refine hck.mono ?_); rintro e w1 ⟨rfl, hb⟩)
  have hS0 := hS.ext (((Ext.refl _).alloc _).trans hb)
  clear hS hck hb
  refine wp_region_held_drew (S := (fun w0 => BX w (w.heap.size + 1 + 1) [(w.heap.size, 0, .bool false), (w.heap.size, 1, .slice ao (dig m).length cap1), (w.heap.size + 1, 0, .bool false), (w.heap.size + 1, 1, .slice bo (dig k).length cap2)] w0)) (by kernel_rfl) ?_ (fun hHeld => ?_)
  · exact hS0.drew
  try simp only [Act.put, List.setIfInBounds_toArray, List.set_cons_zero, List.set_cons_succ, List.getElem_toArray, List.getElem_cons_succ, List.getElem_cons_zero]
  refine wpAnyH_take (i := 0) (oi := _) (v := ?_) rfl (by kernel_rfl) (by kernel_rfl) (by kernel_rfl) (fun _ _ _ h => h) (Or.inl ⟨by rfl, ?_⟩) (by assumption) ?_
  rotate_left
  · intro w0 hSw; go_simp; try with_reducible rfl
  try simp only [Act.put, List.setIfInBounds_toArray, List.set_cons_zero, List.set_cons_succ, List.getElem_toArray, List.getElem_cons_succ, List.getElem_cons_zero]
  refine wpAnyH_take (i := 1) (oi := _) (v := ?_) rfl (by kernel_rfl) (by kernel_rfl) (by kernel_rfl) (fun _ _ _ h => h) (Or.inl ⟨by rfl, ?_⟩) (by assumption) ?_
  rotate_left
  · intro w0 hSw; have q0 := BX.get hSw 0 rfl; have q1 := BX.get hSw 1 rfl; have q2 := BX.get hSw 2 rfl; have q3 := BX.get hSw 3 rfl; go_simp; try with_reducible rfl
  try simp only [Act.put, List.setIfInBounds_toArray, List.set_cons_zero, List.set_cons_succ, List.getElem_toArray, List.getElem_cons_succ, List.getElem_cons_zero]
  refine wpAnyH_take (i := 3) (oi := _) (v := ?_) rfl (by kernel_rfl) (by kernel_rfl) (by kernel_rfl) (fun _ _ _ h => h) (Or.inl ⟨by rfl, ?_⟩) (by assumption) ?_
  rotate_left
  · intro w0 hSw; go_simp; try with_reducible rfl
  try simp only [Act.put, List.setIfInBounds_toArray, List.set_cons_zero, List.set_cons_succ, List.getElem_toArray, List.getElem_cons_succ, List.getElem_cons_zero]
  refine wpAnyH_take (i := 4) (oi := _) (v := ?_) rfl (by kernel_rfl) (by kernel_rfl) (by kernel_rfl) (fun _ _ _ h => h) (Or.inl ⟨by rfl, ?_⟩) (by assumption) ?_
  rotate_left
  · intro w0 hSw; have q0 := BX.get hSw 0 rfl; have q1 := BX.get hSw 1 rfl; have q2 := BX.get hSw 2 rfl; have q3 := BX.get hSw 3 rfl; go_simp; try with_reducible rfl
  try simp only [Act.put, List.setIfInBounds_toArray, List.set_cons_zero, List.set_cons_succ, List.getElem_toArray, List.getElem_cons_succ, List.getElem_cons_zero]
  refine wpAnyH_ready (rs := [2]) (by kernel_rfl) (by simp) ?_
  refine AllReadyH.cons (o := _) rfl (fun K hK => ?_) AllReadyH.nil
  go_simp
  (go_at_call 79; (with_reducible refine (w_Clone _ _ _ (hu.ext hHeld.base) hlen.1).mono ?_); rintro e t2 ⟨s2, rfl, hu4, hx2⟩)
  refine hK.out _ _ ?_ (fun hHeldN => ?_)
  · (try dsimp only); exact hHeld.ext hx2
  clear hK K hHeld
  have hHeld := hHeldN
  clear hHeldN
  try simp only [Act.put, List.setIfInBounds_toArray, List.set_cons_zero, List.set_cons_succ, List.getElem_toArray, List.getElem_cons_succ, List.getElem_cons_zero]
  refine wpAnyH_take (i := 5) (oi := _) (v := ?_) rfl (by kernel_rfl) (by kernel_rfl) (by kernel_rfl) (fun _ _ _ h => h) (Or.inl ⟨by rfl, ?_⟩) (by assumption) ?_
  rotate_left
  · intro w0 hSw; go_simp; try with_reducible rfl
  try simp only [Act.put, List.setIfInBounds_toArray, List.set_cons_zero, List.set_cons_succ, List.getElem_toArray, List.getElem_cons_succ, List.getElem_cons_zero]
  refine wpAnyH_take (i := 6) (oi := _) (v := ?_) rfl (by kernel_rfl) (by kernel_rfl) (by kernel_rfl) (fun _ _ _ h => h) (Or.inl ⟨by rfl, ?_⟩) (by assumption) ?_
  rotate_left
  · intro w0 hSw; go_simp; try with_reducible rfl
  try simp only [Act.put, List.setIfInBounds_toArray, List.set_cons_zero, List.set_cons_succ, List.getElem_toArray, List.getElem_cons_succ, List.getElem_cons_zero]
  refine wpAnyH_done (by kernel_rfl) ?_ _
  go_wp2_with fail
  have hE4 := hHeld
  clear hHeld
  go_loopw [7, 8] (fun p q wr => ∃ a c : Nat, Small a ∧ Small c ∧ Hid (Nat.gcd a c = Nat.gcd m k) ∧ Hid (Lim wr p (dig a)) ∧ Hid (Lim wr q (dig c)) ∧ Hid (BX w (w.heap.size + 1 + 1) [(w.heap.size, 0, .bool false), (w.heap.size, 1, .slice ao (dig m).length cap1), (w.heap.size + 1, 0, .bool false), (w.heap.size + 1, 1, .slice bo (dig k).length cap2)] wr)) (fun _ q wr => lmeas wr q)
  case atStart => exact ⟨m, k, hs, hs2, rfl, hu4, hv.ext hE4.base, hE4⟩
  case round =>
    obtain ⟨a, c, a1, c1, hg, HA, HC, HB⟩ := hrel
    obtain ⟨ao4, b4, o4, cap4, rfl, p1, p2, p3, p4, p5, p6⟩ := HA.out.view
    obtain ⟨ao5, b5, o5, cap5, rfl, q1, q2, q3, q4, q5, q6⟩ := HC.out.view
    rcases Nat.eq_zero_or_pos c with h0 | h0
    · subst h0
      have hl0 : (dig 0).length = 0 := rfl
      have hga : Hid (a = Nat.gcd m k) := by show a = _; rw [← hg.out, Nat.gcd_zero_right]
      clear p1 p4 p5 q1 q4 q5
      rw [hl0]
      have hcl := fun w2 (k2 : Ext wr w2) => w_Clone _ (dig a) w2 (HA.out.ext k2) (by unfold Small at a1; omega)
      have hla : (dig a).length ≤ 4096 := a1
      go_wp2_with (first
        | (go_at_call 79; (with_reducible refine (hcl _ (Ext.refl _)).mono ?_); rintro e w4 ⟨y14, rfl, hu5, hb5⟩; obtain ⟨ao6, b6, o6, cap6, rfl, _⟩ := hu5.view)
        | (go_at_call 55; (with_reducible refine (w_madeN _ (dig a) a _ hu5 (dig_val a) hla).mono ?_); rintro e w5 ⟨y16, rfl, hu6, hb6⟩; obtain ⟨ao7, b7, o7, cap7, rfl, _⟩ := hu6.view; have hS6 := (HB.out.ext hb5).ext hb6; obtain ⟨⟨xa, h3a⟩, ⟨xb, h3b⟩, h3f, hnu, hsl⟩ := hS6.box))
      rw [← hga.out]
      refine bodyPost_ret (v := .tuple #[.agg #[.bool false, .slice ao7 (dig a).length cap7], .int .i64 0]) ?_ rfl ⟨_, rfl, ⟨_, rfl, ?_⟩, ?_⟩
      · simp [results, Try.results68, go_sem, ↓IntWalk.iteOmega, h3a, h3b]
      · exact Lim.box (Lim.box hu6 hnu) (NoU.set hnu (fun z e => by cases e))
      · exact ((hS6.set (by omega) hLn (fun z e => by cases e)).set (by omega) hLn (fun z e => by cases e)).base
    · have hl1 : 0 < (dig c).length := dig_pos.2 h0
      have hdv := w_divideA _ _ (dig a) (dig c) wr HA.out HC.out (dig_nz a) (dig_nz c) (by unfold Small at a1; omega) hl1
      have hmeas : lmeas wr (.slice ao5 (dig c).length cap5) = c := HC.out.meas
      clear p1 p4 p5 q1 q4 q5
      go_wp2_with (go_at_call 80; (with_reducible refine hdv.mono ?_); rintro e w4 ⟨y14, y15, qs, rs, rfl, hq, hr, nq, nr, hval, hlt, hb5⟩)
      obtain ⟨eq, er⟩ := div_dig hq.lb hr.lb nq nr hval hlt
      rw [er] at hr
      have hrc : a % c < c := Nat.mod_lt _ h0
      have hm2 : lmeas w4 y15 = a % c := hr.meas
      go_roundw
      case rel => exact ⟨c, a % c, c1, Nat.le_trans (dig_mono (Nat.le_of_lt hrc)) c1, (by rw [Nat.gcd_comm, ← Nat.gcd_rec, Nat.gcd_comm, hg.out] : _ = _), HC.out.ext hb5, hr, HB.out.ext hb5⟩
      case measure => rw [hm2, hmeas]; exact hrc

end Go.Proofs.Ytcalonhphknbbaa

/- Numbers divided. -/
namespace Go.Proofs.Ytcalonhphknbbaa
open Go.RowKit

set_option maxRecDepth 100000 in
set_option maxHeartbeats 4000000 in
theorem w_DivMod (va vb : Value) (m k : Nat) (w : World) (ha : Nn w va m) (hb0 : Nn w vb k) (hs : Small m) (hk0 : 0 < k) (hs2 : Small k) :
    Calls Try.prog 70 #[va, vb] w fun e w' => ∃ u v, e = .returned (.tuple #[u, v, .int .i64 0]) ∧ Nn w' u (m / k) ∧ Nn w' v (m % k) ∧ Ext w w' := by
  obtain ⟨u, rfl, hu⟩ := ha
  obtain ⟨s, rfl, hv⟩ := hb0
  obtain ⟨ao, b1, o1, cap1, rfl, v1, v2, v3, v4, v5, v6⟩ := hu.view
  obtain ⟨bo, b2, o2, cap2, rfl, y1, y2, y3, y4, y5, y6⟩ := hv.view
  have hlen : (dig m).length ≤ 49999 := by unfold Small at hs; omega
  have hl1 := dig_pos.2 hk0
  obtain ⟨W4, hW4⟩ : ∃ W4, (((w.alloc (.cells #[.bool false, .slice ao (dig m).length cap1] 25)).alloc (.cells #[.bool false, .slice bo (dig k).length cap2] 25)).alloc (.cells #[.bool false, .slice none 0 0] 25)).alloc (.cells #[.bool false, .slice none 0 0] 25) = W4 := ⟨_, rfl⟩
  have hWs : W4.heap.size = w.heap.size + 1 + 1 + 1 + 1 := by rw [← hW4]; simp
  have hEW : Ext w W4 := by rw [← hW4]; exact ((((Ext.refl w).alloc _).alloc _).alloc _).alloc _
  have hA0 : BX w (w.heap.size + 1 + 1) [(w.heap.size, 0, .bool false), (w.heap.size, 1, .slice ao (dig m).length cap1), (w.heap.size + 1, 0, .bool false), (w.heap.size + 1, 1, .slice bo (dig k).length cap2)] W4 := by
    rw [← hW4]
    refine ⟨hW4 ▸ hEW, ?_, ?_, ?_, ?_, ?_, by simp⟩
    · intro p hp
      simp only [List.mem_cons, List.mem_nil_iff, or_false] at hp
      rcases hp with rfl | rfl | rfl | rfl <;> simp [go_sem, ↓IntWalk.iteOmega]
    · exact ⟨.bool false, by simp [go_sem, ↓IntWalk.iteOmega]⟩
    · exact ⟨.slice none 0 0, by simp [go_sem, ↓IntWalk.iteOmega]⟩
    · intro o; simp [go_sem, ↓IntWalk.iteOmega]
    · have := (NoU.new ((w.alloc (.cells #[.bool false, .slice ao (dig m).length cap1] 25)).alloc (.cells #[.bool false, .slice bo (dig k).length cap2] 25)) #[.bool false, .slice none 0 0] 25 (noU2 (by simp) (by simp))).alloc (by simp) #[.bool false, .slice none 0 0] 25
      simpa using this
  have hB0 : BX w (w.heap.size + 1 + 1 + 1) [(w.heap.size, 0, .bool false), (w.heap.size, 1, .slice ao (dig m).length cap1), (w.heap.size + 1, 0, .bool false), (w.heap.size + 1, 1, .slice bo (dig k).length cap2)] W4 := by
    rw [← hW4]
    refine ⟨hW4 ▸ hEW, ?_, ?_, ?_, ?_, ?_, by simp⟩
    · intro p hp
      simp only [List.mem_cons, List.mem_nil_iff, or_false] at hp
      rcases hp with rfl | rfl | rfl | rfl <;> simp [go_sem, ↓IntWalk.iteOmega]
    · exact ⟨.bool false, by simp [go_sem, ↓IntWalk.iteOmega]⟩
    · exact ⟨.slice none 0 0, by simp [go_sem, ↓IntWalk.iteOmega]⟩
    · intro o; simp [go_sem, ↓IntWalk.iteOmega]
    · have := NoU.new (((w.alloc (.cells #[.bool false, .slice ao (dig m).length cap1] 25)).alloc (.cells #[.bool false, .slice bo (dig k).length cap2] 25)).alloc (.cells #[.bool false, .slice none 0 0] 25)) #[.bool false, .slice none 0 0] 25 (noU2 (by simp) (by simp))
      simpa using this
  have hL2 : ∀ p ∈ ([(w.heap.size, 0, .bool false), (w.heap.size, 1, .slice ao (dig m).length cap1), (w.heap.size + 1, 0, .bool false), (w.heap.size + 1, 1, .slice bo (dig k).length cap2)] : List (Nat × Nat × Value)), p.1 ≠ w.heap.size + 1 + 1 := by
    intro p hp
    simp only [List.mem_cons, List.mem_nil_iff, or_false] at hp
    rcases hp with rfl | rfl | rfl | rfl <;> (dsimp only; omega)
  have hL3 : ∀ p ∈ ([(w.heap.size, 0, .bool false), (w.heap.size, 1, .slice ao (dig m).length cap1), (w.heap.size + 1, 0, .bool false), (w.heap.size + 1, 1, .slice bo (dig k).length cap2)] : List (Nat × Nat × Value)), p.1 ≠ w.heap.size + 1 + 1 + 1 := by
    intro p hp
    simp only [List.mem_cons, List.mem_nil_iff, or_false] at hp
    rcases hp with rfl | rfl | rfl | rfl <;> (dsimp only; omega)
  have hck := w_check_two W4 _ _ m k (hu.ext hEW) (hv.ext hEW) hs hs2
  rw [hWs] at hck
  subst hW4
  clear v1 v4 v5 y1 y4 y5 hWs hEW
  have z0 : (((dig k).length : Int) == 0) = false := by simp; intro e; rw [e] at hl1; simp at hl1
  have hdv := fun w1 (k1 : Ext w w1) => w_divideA _ _ (dig m) (dig k) w1 (hu.ext k1) (hv.ext k1) (dig_nz m) (dig_nz k) hlen hl1
  clear hl1
  go_enter Try.func70, Try.ntmps70
  go_upto_region 7 with (first
    | (go_at_call 57; (with_reducible refine hck.mono ?_); rintro e w1 ⟨rfl, hb⟩; have hA := hA0.ext (((Ext.refl _).alloc _).trans hb); have hB := hB0.ext (((Ext.refl _).alloc _).trans hb); have q0 := BX.get hA 0 rfl; have q1 := BX.get hA 1 rfl; have q2 := BX.get hA 2 rfl; have q3 := BX.get hA 3 rfl; clear hA0 hB0 hck hb)
    | (go_at_call 80; (with_reducible refine (hdv _ hA.base).mono ?_); rintro e w2 ⟨y14, y15, qs, rs, rfl, hq, hr, nq, nr, hval, hlt, hb5⟩; obtain ⟨ao6, b6, o6, cap6, rfl, -⟩ := hr.view; obtain ⟨ao5, b5, o5, cap5, rfl, -⟩ := hq.view; replace hA := hA.ext hb5; replace hB := hB.ext hb5; replace q0 := BX.get hA 0 rfl; replace q1 := BX.get hA 1 rfl; replace q2 := BX.get hA 2 rfl; replace q3 := BX.get hA 3 rfl))
  obtain ⟨eq, er⟩ := div_dig hq.lb hr.lb nq nr hval hlt
  subst eq
  subst er
  have hmk : m / k ≤ m := Nat.div_le_self _ _
  have hrk : m % k < k := Nat.mod_lt _ hk0
  have hsq : (dig (m / k)).length ≤ 4096 := Nat.le_trans (dig_mono hmk) hs
  have hsr : (dig (m % k)).length ≤ 4096 := Nat.le_trans (dig_mono (Nat.le_of_lt hrk)) hs2
  clear hdv hval hlt nq nr hb5
  by_cases hr0 : 0 < (dig (m % k)).length
  · skip
    go_upto_region 11 with (go_at_call 55; (with_reducible refine (w_madeN _ (dig (m / k)) (m / k) _ hq (dig_val _) hsq).mono ?_); rintro e w5 ⟨y16, rfl, hq5, hb6⟩; obtain ⟨ao7, b7, o7, cap7, rfl, -⟩ := hq5.view; replace hA := hA.ext hb6; replace hB := hB.ext hb6; replace q0 := BX.get hA 0 rfl; replace q1 := BX.get hA 1 rfl; replace q2 := BX.get hA 2 rfl; replace q3 := BX.get hA 3 rfl; obtain ⟨⟨xa, h3a⟩, ⟨xb, h3b⟩, h3f, hnu, hsl⟩ := hA.box; replace hr := hr.ext hb6)
    obtain ⟨Wq, hWq⟩ : ∃ Wq, (w5.setCell ⟨w.heap.size + 1 + 1, 0, none⟩ (.bool false)).setCell ⟨w.heap.size + 1 + 1, 1, none⟩ (.slice ao7 (dig (m / k)).length cap7) = Wq := ⟨_, rfl⟩
    have hAq : BX w (w.heap.size + 1 + 1) [(w.heap.size, 0, .bool false), (w.heap.size, 1, .slice ao (dig m).length cap1), (w.heap.size + 1, 0, .bool false), (w.heap.size + 1, 1, .slice bo (dig k).length cap2)] Wq := hWq ▸ (hA.set (by omega) hL2 (fun z e => by cases e)).set (by omega) hL2 (fun z e => by cases e)
    have hBq : BX w (w.heap.size + 1 + 1 + 1) [(w.heap.size, 0, .bool false), (w.heap.size, 1, .slice ao (dig m).length cap1), (w.heap.size + 1, 0, .bool false), (w.heap.size + 1, 1, .slice bo (dig k).length cap2)] Wq := hWq ▸ (hB.other (by omega) hL2 (by omega) (fun z e => by cases e)).other (by omega) hL2 (by omega) (fun z e => by cases e)
    have hqq : Lim Wq (.slice ao7 (dig (m / k)).length cap7) (dig (m / k)) := hWq ▸ Lim.box (Lim.box hq5 hnu) (NoU.set hnu (fun z e => by cases e))
    have hrq : Lim Wq (.slice ao6 (dig (m % k)).length cap6) (dig (m % k)) := hWq ▸ Lim.box (Lim.box hr hnu) (NoU.set hnu (fun z e => by cases e))
    have c20 : Wq.cell? ⟨w.heap.size + 1 + 1, 0, none⟩ = some (.bool false) := by rw [← hWq]; simp [go_sem, h3a, h3b]
    have c21 : Wq.cell? ⟨w.heap.size + 1 + 1, 1, none⟩ = some (.slice ao7 (dig (m / k)).length cap7) := by rw [← hWq]; simp [go_sem, h3a, h3b]
    rw [hWq]
    replace q0 := BX.get hAq 0 rfl
    replace q1 := BX.get hAq 1 rfl
    replace q2 := BX.get hAq 2 rfl
    replace q3 := BX.get hAq 3 rfl
    clear hWq hA hB hq5 hr h3a h3b h3f hnu hsl
    go_upto_region 14 with (go_at_call 55; (with_reducible refine (w_madeN _ (dig (m % k)) (m % k) _ hrq (dig_val _) hsr).mono ?_); rintro e w6 ⟨y17, rfl, hr6, hb7⟩; obtain ⟨ao8, b8, o8, cap8, rfl, -⟩ := hr6.view; have hA6 := hAq.ext hb7; have hB6 := hBq.ext hb7; obtain ⟨⟨xa, h4a⟩, ⟨xb, h4b⟩, h4f, hnv, hsm⟩ := hB6.box; have hsl := hAq.box.2.2.2.2; have h3f := hA6.box.2.2.1; have d20 := (hb7.cells.1 _ 0 hsl).trans c20; have d21 := (hb7.cells.1 _ 1 hsl).trans c21; clear c20 c21 q0 q1 q2 q3)
    have h4f0 := h4f 0
    have h4f1 := h4f 1
    have h3f0 := h3f 0
    have h3f1 := h3f 1
    go_region
    all_goals
      have hE6 := hA6.base
      have hnu := hA6.box.2.2.2.1
      have hq6 := hqq.ext hb7
      go_wp2_with fail
      refine bodyPost_ret (v := .tuple #[.agg #[.bool false, .slice ao7 (dig (m / k)).length cap7], .agg #[.bool false, .slice ao8 (dig (m % k)).length cap8], .int .i64 0]) ?_ rfl ⟨_, _, rfl, ⟨_, rfl, ?_⟩, ⟨_, rfl, ?_⟩, ?_⟩
      · simp [results, Try.results70, go_sem, ↓IntWalk.iteOmega, h4a, h4b, d20, d21]
      · refine Lim.ext ?_ ((Ext.refl _).drew)
        refine Lim.box (Lim.box (Lim.box (Lim.box (Lim.box (Lim.box hq6 ?_) ?_) ?_) ?_) ?_) ?_ <;> (repeat (first | with_reducible exact hnu | with_reducible exact hnv | with_reducible refine NoU.set ?_ (fun z e => by cases e)))
      · refine Lim.ext ?_ ((Ext.refl _).drew)
        refine Lim.box (Lim.box (Lim.box (Lim.box (Lim.box (Lim.box hr6 ?_) ?_) ?_) ?_) ?_) ?_ <;> (repeat (first | with_reducible exact hnu | with_reducible exact hnv | with_reducible refine NoU.set ?_ (fun z e => by cases e)))
      · repeat (first | with_reducible exact Ext.refl _ | with_reducible assumption | with_reducible refine Ext.alloc ?_ _ | with_reducible refine Ext.setCell ?_ (by (try simp only [World.size_alloc, World.size_setCell]); omega) _ | with_reducible refine Ext.drewN ?_ _ | with_reducible refine Ext.drew ?_ | with_reducible refine Ext.trans ?_ (by with_reducible assumption))
  · skip
    go_upto_region 11 with (go_at_call 55; (with_reducible refine (w_madeN _ (dig (m / k)) (m / k) _ hq (dig_val _) hsq).mono ?_); rintro e w5 ⟨y16, rfl, hq5, hb6⟩; obtain ⟨ao7, b7, o7, cap7, rfl, -⟩ := hq5.view; replace hA := hA.ext hb6; replace hB := hB.ext hb6; replace q0 := BX.get hA 0 rfl; replace q1 := BX.get hA 1 rfl; replace q2 := BX.get hA 2 rfl; replace q3 := BX.get hA 3 rfl; obtain ⟨⟨xa, h3a⟩, ⟨xb, h3b⟩, h3f, hnu, hsl⟩ := hA.box; replace hr := hr.ext hb6)
    obtain ⟨Wq, hWq⟩ : ∃ Wq, (w5.setCell ⟨w.heap.size + 1 + 1, 0, none⟩ (.bool false)).setCell ⟨w.heap.size + 1 + 1, 1, none⟩ (.slice ao7 (dig (m / k)).length cap7) = Wq := ⟨_, rfl⟩
    have hAq : BX w (w.heap.size + 1 + 1) [(w.heap.size, 0, .bool false), (w.heap.size, 1, .slice ao (dig m).length cap1), (w.heap.size + 1, 0, .bool false), (w.heap.size + 1, 1, .slice bo (dig k).length cap2)] Wq := hWq ▸ (hA.set (by omega) hL2 (fun z e => by cases e)).set (by omega) hL2 (fun z e => by cases e)
    have hBq : BX w (w.heap.size + 1 + 1 + 1) [(w.heap.size, 0, .bool false), (w.heap.size, 1, .slice ao (dig m).length cap1), (w.heap.size + 1, 0, .bool false), (w.heap.size + 1, 1, .slice bo (dig k).length cap2)] Wq := hWq ▸ (hB.other (by omega) hL2 (by omega) (fun z e => by cases e)).other (by omega) hL2 (by omega) (fun z e => by cases e)
    have hqq : Lim Wq (.slice ao7 (dig (m / k)).length cap7) (dig (m / k)) := hWq ▸ Lim.box (Lim.box hq5 hnu) (NoU.set hnu (fun z e => by cases e))
    have hrq : Lim Wq (.slice ao6 (dig (m % k)).length cap6) (dig (m % k)) := hWq ▸ Lim.box (Lim.box hr hnu) (NoU.set hnu (fun z e => by cases e))
    have c20 : Wq.cell? ⟨w.heap.size + 1 + 1, 0, none⟩ = some (.bool false) := by rw [← hWq]; simp [go_sem, h3a, h3b]
    have c21 : Wq.cell? ⟨w.heap.size + 1 + 1, 1, none⟩ = some (.slice ao7 (dig (m / k)).length cap7) := by rw [← hWq]; simp [go_sem, h3a, h3b]
    rw [hWq]
    replace q0 := BX.get hAq 0 rfl
    replace q1 := BX.get hAq 1 rfl
    replace q2 := BX.get hAq 2 rfl
    replace q3 := BX.get hAq 3 rfl
    clear hWq hA hB hq5 hr h3a h3b h3f hnu hsl
    go_upto_region 14 with (go_at_call 55; (with_reducible refine (w_madeN _ (dig (m % k)) (m % k) _ hrq (dig_val _) hsr).mono ?_); rintro e w6 ⟨y17, rfl, hr6, hb7⟩; obtain ⟨ao8, b8, o8, cap8, rfl, -⟩ := hr6.view; have hA6 := hAq.ext hb7; have hB6 := hBq.ext hb7; obtain ⟨⟨xa, h4a⟩, ⟨xb, h4b⟩, h4f, hnv, hsm⟩ := hB6.box; have hsl := hAq.box.2.2.2.2; have h3f := hA6.box.2.2.1; have d20 := (hb7.cells.1 _ 0 hsl).trans c20; have d21 := (hb7.cells.1 _ 1 hsl).trans c21; clear c20 c21 q0 q1 q2 q3)
    have h4f0 := h4f 0
    have h4f1 := h4f 1
    have h3f0 := h3f 0
    have h3f1 := h3f 1
    go_region
    all_goals
      have hE6 := hA6.base
      have hnu := hA6.box.2.2.2.1
      have hq6 := hqq.ext hb7
      go_wp2_with fail
      refine bodyPost_ret (v := .tuple #[.agg #[.bool false, .slice ao7 (dig (m / k)).length cap7], .agg #[.bool false, .slice ao8 (dig (m % k)).length cap8], .int .i64 0]) ?_ rfl ⟨_, _, rfl, ⟨_, rfl, ?_⟩, ⟨_, rfl, ?_⟩, ?_⟩
      · simp [results, Try.results70, go_sem, ↓IntWalk.iteOmega, h4a, h4b, d20, d21]
      · refine Lim.ext ?_ ((Ext.refl _).drew)
        refine Lim.box (Lim.box (Lim.box (Lim.box (Lim.box (Lim.box hq6 ?_) ?_) ?_) ?_) ?_) ?_ <;> (repeat (first | with_reducible exact hnu | with_reducible exact hnv | with_reducible refine NoU.set ?_ (fun z e => by cases e)))
      · refine Lim.ext ?_ ((Ext.refl _).drew)
        refine Lim.box (Lim.box (Lim.box (Lim.box (Lim.box (Lim.box hr6 ?_) ?_) ?_) ?_) ?_) ?_ <;> (repeat (first | with_reducible exact hnu | with_reducible exact hnv | with_reducible refine NoU.set ?_ (fun z e => by cases e)))
      · repeat (first | with_reducible exact Ext.refl _ | with_reducible assumption | with_reducible refine Ext.alloc ?_ _ | with_reducible refine Ext.setCell ?_ (by (try simp only [World.size_alloc, World.size_setCell]); omega) _ | with_reducible refine Ext.drewN ?_ _ | with_reducible refine Ext.drew ?_ | with_reducible refine Ext.trans ?_ (by with_reducible assumption))

end Go.Proofs.Ytcalonhphknbbaa
