/- Numbers with signs: times a power of 2. -/
import Derived.Test.YtogblocakccbgaaGreatU04
set_option linter.unusedSimpArgs false
set_option linter.unusedVariables false
set_option maxRecDepth 100000
set_option maxHeartbeats 4000000
namespace Go.Proofs.YtogblocakccbgaaGreat
open Go.RowKit
theorem z_shiftU0 (va : Value) (sa : Bool) (m d s : Nat) (w : World) (ha : Sm w va sa m) (hs : Small m) (hz : m = 0 → sa = false) (hs5 : s < 32) (hd : 32 * d + s ≤ 131072) (hs3 : Small (m * 2 ^ (32 * d + s))) :
    Calls Tryz.prog 169 #[va, .int .i64 (32 * (d : Int) + s)] w fun e w' => ∃ u, e = .returned (.tuple #[u, .int .i64 0]) ∧ Wid w' u (sg sa (m * 2 ^ (32 * d + s))) ∧ Ext w w' := by
 obtain ⟨u, rfl, hu⟩ := ha
 obtain ⟨ao, b1, o1, cap1, rfl, v1, v2, v3, v4, v5, v6⟩ := hu.view
 have hlen : (dig m).length ≤ 4096 := hs
 obtain ⟨W3, hW3⟩ : ∃ W3, (w.alloc (.cells #[.bool sa, .slice ao (dig m).length cap1] 24)).alloc (.cells #[.bool false, .slice none 0 0] 24) = W3 := ⟨_, rfl⟩
 have hWs : W3.heap.size = w.heap.size + 1 + 1 := by rw [← hW3]; simp
 have hEW : Ext w W3 := by rw [← hW3]; exact ((Ext.refl w).alloc _).alloc _
 have hS : BX w (w.heap.size + 1) [(w.heap.size, 0, .bool sa), (w.heap.size, 1, .slice ao (dig m).length cap1)] W3 := by
  rw [← hW3]
  refine ⟨hW3 ▸ hEW, ?_, ?_, ?_, ?_, ?_, by simp⟩
  ·intro p hp
   simp only [List.mem_cons, List.mem_nil_iff, or_false] at hp
   rcases hp with rfl | rfl <;> simp [go_sem, ↓IntWalk.iteOmega]
  ·exact b_1
  ·exact b_2
  ·exact b_3
  ·have := NoU.new (w.alloc (.cells #[.bool sa, .slice ao (dig m).length cap1] 24)) #[.bool false, .slice none 0 0] 24 (noU2 (by simp) (by simp))
   simpa using this
 have hLn : ∀ p ∈ ([(w.heap.size, 0, .bool sa), (w.heap.size, 1, .slice ao (dig m).length cap1)] : List (Nat × Nat × Value)), p.1 ≠ w.heap.size + 1 := by
  intro p hp
  simp only [List.mem_cons, List.mem_nil_iff, or_false] at hp
  rcases hp with rfl | rfl <;> (dsimp only; omega)
 have hck := z_check_one W3 _ sa m (hu.ext hEW) hs hz
 rw [hWs] at hck
 subst hW3
 clear v1 v4 v5 hWs hEW
 have hd1 : d ≤ 1000000 := by omega
 have hs4 : (dig (m * 2 ^ (32 * d + s))).length ≤ 4096 := hs3
 go_enter Tryz.func169, Tryz.ntmps169
 go_upto_region 8 with (go_at_call 52; (with_reducible refine hck.mono ?_); rintro e w1 ⟨rfl, hb⟩; have q0 := BX.get (hS.ext (((Ext.refl _).alloc _).trans hb)) 0 rfl)
 have hS0 := hS.ext (((Ext.refl _).alloc _).trans hb)
 clear hS hb hck
 refine wp_region_held_drew (S := (fun w0 => BX w (w.heap.size + 1) [(w.heap.size, 0, .bool sa), (w.heap.size, 1, .slice ao (dig m).length cap1)] w0)) c_2 ?_ (fun hH => ?_)
 ·exact hS0.drew
 try simp only [sx_]
 refine sK 0 ?_
 refine tk 1 rfl c_15 ?_
 try simp only [sx_]
 refine sK 2 ?_
 refine tk 3 rfl c_15 ?_
 try simp only [sx_]
 refine sK 4 ?_
 refine rh1 5 rfl fun K hK => ?_
 go_simp
 (go_at_call 172; (with_reducible refine (w_left _ (dig m) d s _ (hu.ext hH.base) (by omega) hs5 hd1).mono ?_); rintro e t2 ⟨g, cc, zs, rfl, hO, lz, hval, hzl, hx2⟩; have hz2 := hO.lim lz (by omega); rw [hzl] at hz2)
 have hv2 : val zs = ((m * 2 ^ (32 * d + s) : Nat) : Int) := by rw [hval, dig_val]; simp
 refine hK.out _ _ ?_ fun _ => ?_
 ·exact b_5
 clear hK K hH
 rename_i hH
 try simp only [sx_]
 refine rh1 6 rfl fun K hK => ?_
 go_simp
 (go_at_call 54; (with_reducible refine (w_madeS sa _ _ (m * 2 ^ (32 * d + s)) _ hz2 hv2 hs4).mono ?_); rintro e t3 ⟨s3, bo3, rfl, hz3, hbo3, hx3⟩; obtain ⟨ao3, bb3, oo3, cc3, rfl, _⟩ := hz3.view)
 refine hK.out _ _ ?_ fun _ => ?_
 ·exact b_4
 clear hK K hH
 rename_i hH
 try simp only [sx_]
 refine sK 7 ?_
 refine sK 8 ?_
 refine rh1 9 rfl fun K hK => ?_
 obtain ⟨⟨xa, h3a⟩, ⟨xb, h3b⟩, h3f, hnu, hsl⟩ := hH.box
 go_simp
 refine hK.out _ _ ?_ fun _ => ?_
 ·exact b_8
 clear hK K hH
 rename_i hH
 try simp only [sx_]
 refine sK 10 ?_
 refine wpAnyH_done c_2 ?_ _
 go_wp2_with fail
 refine bodyPost_ret (v := .tuple #[.agg #[.bool bo3, .slice ao3 (dig (m * 2 ^ (32 * d + s))).length cc3], .int .i64 0]) ?_ rfl ⟨_, rfl, Wid.mk' (Lim.box (Lim.box hz3 hnu) (NoU.set hnu (fun z e => by cases e))) hbo3, ?_⟩
 ·simp [results, Tryz.results169, go_sem, ↓IntWalk.iteOmega, h3a, h3b] <;> first | exact hbo3.symm | simp [hbo3]
 ·exact hH.base
theorem z_shiftU (va : Value) (n : Int) (k : Nat) (w : World) (ha : Wid w va n) (hs : Sz n) (hk : k ≤ 131072) (hs3 : Sz (n * 2 ^ k)) :
    Calls Tryz.prog 169 #[va, .int .i64 (k : Int)] w fun e w' => ∃ u, e = .returned (.tuple #[u, .int .i64 0]) ∧ Wid w' u (n * 2 ^ k) ∧ Ext w w' := by
 obtain ⟨u, rfl, hu⟩ := ha
 have e1 : 32 * (k / 32) + k % 32 = k := Nat.div_add_mod k 32
 have e2 : (n * 2 ^ k).natAbs = n.natAbs * 2 ^ k := by rw [Int.natAbs_mul, Int.natAbs_pow]; rfl
 have e3 : sg (decide (n < 0)) (n.natAbs * 2 ^ k) = n * 2 ^ k := by
  have h := sg_wid (n := n)
  have h2 : ((n.natAbs * 2 ^ k : Nat) : Int) = (n.natAbs : Int) * 2 ^ k := by rw [Int.natCast_mul, Int.natCast_pow]; rfl
  unfold sg at h ⊢
  rw [h2]
  split at h
  ·rename_i hh; rw [if_pos hh, ← Int.neg_mul, h]
  ·rename_i hh; rw [if_neg hh, h]
 have h := z_shiftU0 (.agg #[.bool (decide (n < 0)), u]) (decide (n < 0)) n.natAbs (k / 32) (k % 32) w ⟨u, rfl, hu⟩ hs (wid_s _ rfl) (Nat.mod_lt _ (by decide)) (by rw [e1]; exact hk) (by rw [e1, ← e2]; exact hs3)
 rw [e1, e3] at h
 have e4 : 32 * ((k / 32 : Nat) : Int) + ((k % 32 : Nat) : Int) = (k : Int) := by omega
 rw [e4] at h
 exact h
theorem val_zero {Z : List Int} (h : ∀ i, i < Z.length → Z.getD i 0 = 0) : val Z = 0 := by
 induction Z with
 | nil => rfl
 | cons x r ih =>
  have h0 := h 0 (by simp)
  have h1 := ih (fun i hi => by have := h (i + 1) (by simpa using hi); simpa using this)
  simp only [List.getD_cons_zero] at h0
  simp only [val, h0, h1]; rfl
theorem val_some {Z : List Int} (hl : Lb Z) (i : Nat) (hi : i < Z.length) (h : 0 < Z.getD i 0) : 0 < val Z := by
 induction Z generalizing i with
 | nil => simp at hi
 | cons x r ih =>
  have hx := hl.head
  have hr := val_nonneg hl.tail
  have hB : BB = 4294967296 := rfl
  match i, hi, h with
  | 0, _, h => simp only [List.getD_cons_zero] at h; simp only [val]; rw [hB]; omega
  | i + 1, hi, h =>
   have := ih hl.tail i (by simpa using hi) (by simpa using h)
   simp only [val]; rw [hB]; omega
theorem w_right1 (x : Int) (w : World) : Calls Tryz.prog 203 #[.int .u32 x] w fun e w' => e = .returned (.bool (decide (0 < x))) ∧ w' = w := by
 go_enter Tryz.func203, Tryz.ntmps203
 go_wp2
 go_ret
 exact ⟨rfl, rfl⟩
theorem w_index (v : Value) (Z : List Int) (w : World) (h : Lim w v Z) : Calls Tryz.prog 217 #[v, .func (.func 203) #[] #[]] w fun e w' => ∃ r : Int, e = .returned (.int .i64 r) ∧ decide (0 ≤ r) = decide (0 < val Z) ∧ w' = w := by
 have lZ := h.lb
 obtain ⟨aoA, bA, oA, cA, rfl, a1, a2, a3, a4, a5, a6⟩ := h.view
 go_enter Tryz.func217, Tryz.ntmps217
 go_wp2_with fail
 go_loopw [8] (fun i wr => ∃ k : Nat, k ≤ Z.length ∧ i = .int .i64 k ∧ wr = w ∧ Hid (∀ i, i < k → Z.getD i 0 = 0)) (fun i _ => Z.length - (intOf i).toNat)
 case atStart => exact ⟨0, Nat.zero_le _, rfl, rfl, fun i hi => absurd hi (Nat.not_lt_zero _)⟩
 case round =>
  obtain ⟨k, hk, rfl, rfl, hz⟩ := hrel
  by_cases hkn : k < Z.length
  ·have e := a1 (by omega)
   subst e
   have hl := a5 k hkn
   have hx : 0 ≤ Z.getD k 0 := (lZ.getD k).1
   obtain ⟨x, ex⟩ : ∃ x, Z.getD k 0 = x := ⟨_, rfl⟩
   rw [ex] at hl hx
   have hsm : 0 < x → decide ((0 : Int) ≤ k) = decide (0 < val Z) := fun h0 => by
    rw [decide_eq_true (by omega), decide_eq_true (val_some lZ k hkn (by rw [ex]; exact h0))]
   have hnx : x = 0 → Hid (∀ i, i < k + 1 → Z.getD i 0 = 0) := fun h0 i hi => by
    rcases Nat.lt_or_ge i k with h1 | h1
    ·exact hz.out i h1
    ·have : i = k := by omega
     subst this; rw [ex]; exact h0
   clear a1 a5
   by_cases h0 : 0 < x
   ·have hd : decide (0 < x) = true := decide_eq_true h0
    go_wp2_with (go_at_call 203; (with_reducible refine (w_right1 _ _).mono ?_); rintro e w' ⟨rfl, rfl⟩)
    go_ret
    exact ⟨k, rfl, hsm h0, rfl⟩
   ·have hd : decide (0 < x) = false := decide_eq_false h0
    go_wp2_with (go_at_call 203; (with_reducible refine (w_right1 _ _).mono ?_); rintro e w' ⟨rfl, rfl⟩)
    go_roundw
    case rel => exact ⟨k + 1, hkn, by go_num, (by first | rfl | trivial), hnx (by omega)⟩
    case measure => simp [intOf]; omega
  ·have hkl : k = Z.length := by omega
   subst hkl
   have hv := val_zero hz.out
   go_wp2_with fail
   go_ret
   exact ⟨-1, rfl, by rw [hv]; rfl, rfl⟩
theorem w_contains (v : Value) (Z : List Int) (w : World) (h : Lim w v Z) : Calls Tryz.prog 202 #[v, .func (.func 203) #[] #[]] w fun e w' => e = .returned (.bool (decide (0 < val Z))) ∧ w' = w := by
 have hI := w_index v Z w h
 obtain ⟨aoA, bA, oA, cA, rfl, -⟩ := h.view
 generalize decide (0 < val Z) = bo at hI ⊢
 go_enter Tryz.func202, Tryz.ntmps202
 go_wp2_with (go_at_call 217; (with_reducible refine hI.mono ?_); rintro e w' ⟨r, rfl, hr, rfl⟩)
 rw [← hr]
 go_ret
 first | exact ⟨rfl, rfl⟩ | simp
end Go.Proofs.YtogblocakccbgaaGreat
