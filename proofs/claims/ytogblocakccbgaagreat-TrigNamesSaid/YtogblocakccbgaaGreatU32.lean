/- The reference: divided by a power of 2, rounded down. -/
import Derived.Test.YtogblocakccbgaaGreatU31
set_option linter.unusedSimpArgs false
set_option linter.unusedVariables false
set_option maxRecDepth 100000
set_option maxHeartbeats 4000000
namespace Go.Proofs.YtogblocakccbgaaGreat
open Go.RowKit
theorem T_RSD_9 {p : Prop} (h : p := by
 intro p hp
 simp only [List.mem_cons, List.mem_nil_iff, or_false] at hp
 rcases hp with rfl | rfl <;> simp [go_sem, ↓IntWalk.iteOmega]) : p := h
theorem T_RSD_8 {p : Prop} (h : p := by
 intro p hp
 simp only [List.mem_cons, List.mem_nil_iff, or_false] at hp
 rcases hp with rfl | rfl <;> (dsimp only; omega)) : p := h
theorem T_RSD_7 {p : Prop} (h : p := by
 rw [← hW3]
 refine ⟨hW3 ▸ hEW, ?_, ?_, ?_, ?_, ?_, by simp⟩
 ·exact T_RSD_9
 ·exact b_1
 ·exact b_2
 ·exact b_3
 ·have := NoU.new (w.alloc (.cells #[.bool true, .slice ao (dig m).length cap1] 24)) #[.bool false, .slice none 0 0] 24 (noU2 (by simp) (by simp))
  simpa using this) : p := h
theorem T_RSD_6 {p : Prop} (h : p := by
 refine val_inj ((Lb.zeros d).append hPb) (dig_lb _) ?_ (dig_nz _) ?_
 ·intro x hx
  rw [List.getLast?_append] at hx
  simp at hx
  omega
 ·rw [val_pad, dig_val, hk]
  have := bb_two d s 1
  simp only [val]
  rw [Int.one_mul, Int.one_mul] at this
  rw [Int.mul_zero, Int.add_zero, this, Int.natCast_pow]; rfl) : p := h
theorem T_RSD_5 {p : Prop} (h : p := by
 have hE4 : Ext wa w4 := ex_
 have hnu4 := hnu.ext hsl8 hE4
 refine bodyPost_ret (v := .tuple #[.agg #[.bool bo3, .slice ao3 (dig R).length cc3], .int .i64 0]) ?_ rfl ⟨_, rfl, Wid.mk' (Lim.box (Lim.box hz3 hnu4) (NoU.set hnu4 (fun z e => by cases e))) hbo3, ?_⟩
 ·simp [results, Tryz.results127, go_sem, ↓IntWalk.iteOmega, *] <;> first | exact hbo3.symm | simp [hbo3]
 ·exact Ext.setCell (Ext.setCell (Ext.trans hE8 hE4) (Nat.le_succ _) _) (Nat.le_succ _) _) : p := h
theorem T_RSD_4 {p : Prop} (h : p := by
 clear hK K hH
 rename_i hH
 try simp only [sx_]
 refine rh1 7 rfl fun K hK => ?_
 refine step_append_lies _ rfl _ _ 22 (by rfl) w.heap.size 25 i0 (.int .u32 0) 1 4 Tryz.underlying22 hi hz0 hz1 hz2 rfl (by decide) (.slice (some ⟨gm, 0, none⟩) d d) d ((List.replicate d 0).map (Value.int .u32)) (by rfl) hR _ 1 1 (([2 ^ s] : List Int).map (Value.int .u32)) (by rfl) (by simp) hnw.news (u32_one' _) (by omega) c_4 (by omega) hH.base.size _ rfl ?_
 intro ga capa wa howna hgrowa hata hlta
 have hLm : ∀ p ∈ ([(w.heap.size, 0, .bool true), (w.heap.size, 1, .slice ao (dig m).length cap1)] : List (Nat × Nat × Value)), p.1 ≠ gm := by
  exact T_RSD_8
 exact T_RSD_1) : p := h
theorem T_RSD_3 {p : Prop} (h : p := by
 clear hK K hH
 rename_i hH
 try simp only [sx_]
 refine rh1 7 rfl fun K hK => ?_
 refine step_append_lies _ rfl _ _ 22 (by rfl) w.heap.size 25 i0 (.int .u32 0) 1 4 Tryz.underlying22 hi hz0 hz1 hz2 rfl (by decide) (.slice (some ⟨gm, 0, none⟩) d d) d ((List.replicate d 0).map (Value.int .u32)) (by rfl) hR _ 1 1 (([2 ^ s] : List Int).map (Value.int .u32)) (by rfl) (by simp) hnw.news (u32_one' _) (by omega) c_4 (by omega) hH.base.size _ rfl ?_
 intro ga capa wa howna hgrowa hata hlta
 have hLm : ∀ p ∈ ([(w.heap.size, 0, .bool false), (w.heap.size, 1, .slice ao (dig m).length cap1)] : List (Nat × Nat × Value)), p.1 ≠ gm := by
  exact T_RSD_8
 exact T_RSD_1) : p := h
theorem T_RSD_2 {p : Prop} (h : p := by
 clear hK K hH
 rename_i hH
 try simp only [sx_]
 refine rh1 7 rfl fun K hK => ?_
 refine step_append_lies _ rfl _ _ 22 (by rfl) w.heap.size 25 i0 (.int .u32 0) 1 4 Tryz.underlying22 hi hz0 hz1 hz2 rfl (by decide) (.slice (some ⟨gm, 0, none⟩) d d) d ((List.replicate d 0).map (Value.int .u32)) (by rfl) hR _ 1 1 (([2 ^ s] : List Int).map (Value.int .u32)) (by rfl) (by simp) hnw.news (u32_one' _) (by omega) c_4 (by omega) hH.base.size _ rfl ?_
 intro ga capa wa howna hgrowa hata hlta
 have hLm : ∀ p ∈ ([(w.heap.size, 0, .bool true), (w.heap.size, 1, .slice ao (dig m).length cap1)] : List (Nat × Nat × Value)), p.1 ≠ gm := by
  exact T_RSD_8
 have hLa := lim_app howna (Lb.zeros d) hPb (by omega)
 rw [hYd] at hLa
 refine hK.out _ _ ?_ fun _ => ?_
 ·exact b_64
 clear hK K hH
 rename_i hH
 try simp only [sx_]
 refine sK 8 ?_
 refine wpAnyH_done c_2 ?_ _
 clear hR hnw hgs hgw howna hgrowa hata hlta hownm hgrowm hxm
 have hS8 := hH
 have q0 := BX.get hS8 0 rfl
 have q1 := BX.get hS8 1 rfl
 obtain ⟨⟨xa, h3a⟩, ⟨xb, h3b⟩, h3f, hnu, hsl8⟩ := hS8.box
 have hE8 := hS8.base
 have hov := r_over _ _ (dig m) (dig (2 ^ k)) wa (hu.ext hE8) hLa (dig_nz _) (dig_nz _) (by omega) (dig_pos.2 (Nat.two_pow_pos k))
 go_wp2_with (first
  | (go_at_call 180; (with_reducible refine hov.mono ?_); rintro e w2 ⟨y14, y15, qs, rs, rfl, hq, hr, nq, nr, hval, hlt, hb5⟩; obtain ⟨eq, er⟩ := div_dig hq.lb hr.lb nq nr hval hlt; rw [hQ.out] at eq; rw [hZ.out] at er; subst eq; subst er; have hqv := hq; obtain ⟨qo, _, _, qc, rfl, -⟩ := hq.view; obtain ⟨ro, _, _, rc, rfl, -⟩ := hr.view; obtain ⟨_, _, ⟨hc5, hf5⟩, hz5⟩ := hb5.c3; (try simp only [wsz] at hz5 hc5 hf5))
  | (go_at_call 181; (with_reducible refine (r_plus _ _ (dig Q) [1] _ (hqv.ext ((Ext.refl _).alloc _)) (lim_one _ 1 u32_one) c_6).mono ?_); rintro e w3 ⟨y3, zs, rfl, hz3q, hval3, hb3⟩; obtain ⟨zo, _, _, zc, rfl, -⟩ := hz3q.view; obtain ⟨_, _, ⟨hc3, hf3⟩, hz3⟩ := hb3.c3; (try simp only [wsz] at hz3 hc3 hf3))
  | (go_at_call 117; (with_reducible refine (r_trim _ zs _ hz3q).mono ?_); rintro e w6 ⟨y6, rfl, hl6, hb6⟩; obtain ⟨zto, _, _, tc, rfl, -⟩ := hl6.view; obtain ⟨_, _, ⟨hc6, hf6⟩, hz6⟩ := hb6.c3; (try simp only [wsz] at hz6 hc6 hf6))
  | (go_at_call 59; go_loud ((with_reducible refine (hmd _ (trimL zs) _ hl6 (by rw [val_trim, hval3, dig_val]; simp [val]; have := hR0.out; omega)).mono ?_); rintro e w4 ⟨s3, bo3, rfl, hz3, hbo3, hb4⟩; obtain ⟨ao3, bb3, oo3, cc3, rfl, _⟩ := hz3.view; obtain ⟨_, _, ⟨hc4, hf4⟩, hz4⟩ := hb4.c3; (try simp only [wsz] at hz4 hc4 hf4))))
 exact T_RSD_5) : p := h
theorem T_RSD_1 {p : Prop} (h : p := by
 have hLa := lim_app howna (Lb.zeros d) hPb (by omega)
 rw [hYd] at hLa
 refine hK.out _ _ ?_ fun _ => ?_
 ·exact b_64
 clear hK K hH
 rename_i hH
 try simp only [sx_]
 refine sK 8 ?_
 refine wpAnyH_done c_2 ?_ _
 clear hR hnw hgs hgw howna hgrowa hata hlta hownm hgrowm hxm
 have hS8 := hH
 have q0 := BX.get hS8 0 rfl
 have q1 := BX.get hS8 1 rfl
 obtain ⟨⟨xa, h3a⟩, ⟨xb, h3b⟩, h3f, hnu, hsl8⟩ := hS8.box
 have hE8 := hS8.base
 have hov := r_over _ _ (dig m) (dig (2 ^ k)) wa (hu.ext hE8) hLa (dig_nz _) (dig_nz _) (by omega) (dig_pos.2 (Nat.two_pow_pos k))
 go_wp2_with (first
  | (go_at_call 180; (with_reducible refine hov.mono ?_); rintro e w2 ⟨y14, y15, qs, rs, rfl, hq, hr, nq, nr, hval, hlt, hb5⟩; obtain ⟨eq, er⟩ := div_dig hq.lb hr.lb nq nr hval hlt; rw [hQ.out] at eq; rw [hZ.out] at er; subst eq; subst er; have hqv := hq; obtain ⟨qo, _, _, qc, rfl, -⟩ := hq.view; obtain ⟨ro, _, _, rc, rfl, -⟩ := hr.view; obtain ⟨_, _, ⟨hc5, hf5⟩, hz5⟩ := hb5.c3; (try simp only [wsz] at hz5 hc5 hf5))
  | (go_at_call 59; go_loud ((with_reducible refine (hmd _ (dig Q) _ hqv (by rw [dig_val, hR0.out])).mono ?_); rintro e w4 ⟨s3, bo3, rfl, hz3, hbo3, hb4⟩; obtain ⟨ao3, bb3, oo3, cc3, rfl, _⟩ := hz3.view; obtain ⟨_, _, ⟨hc4, hf4⟩, hz4⟩ := hb4.c3; (try simp only [wsz] at hz4 hc4 hf4))))
 exact T_RSD_5) : p := h
def One (w : World) (b : Nat) (x : Value) : Prop := w.cell? ⟨b, 0, none⟩ = some x ∧ b < w.heap.size
theorem One.ext {a w : World} {b : Nat} {x : Value} (h : One a b x) (k : Ext a w) : One w b x := ⟨(k.cells.1 b 0 h.2).trans h.1, Nat.lt_of_lt_of_le h.2 k.size⟩
theorem One.fresh {W X : World} (h : Ext W X) (x : Value) : One (X.alloc (.cells #[x] 25)) X.heap.size x := ⟨by rw [cell_al, if_pos rfl]; rfl, by simp⟩
theorem One.news {w : World} {b : Nat} {z : Int} (h : One w b (.int .u32 z)) : ∀ j u, (([z] : List Int).map (Value.int .u32))[j]? = some u → w.cell? ((⟨b, 0, none⟩ : Addr).add j) = some u := by
 intro j u hj
 match j, hj with
 | 0, hj =>
  simp at hj
  subst hj
  rw [show (⟨b, 0, none⟩ : Addr).add 0 = ⟨b, 0, none⟩ from by simp [Addr.add]]
  exact h.1
 | j + 1, hj => simp at hj
theorem r_shiftDF (va : Value) (m d s k : Nat) (w : World) (ha : Sm w va false m) (hs : Small m) (hz : m = 0 → false = false) (hs5 : s < 32) (hk : k = 32 * d + s) (hk0 : 0 < k) (hd : k ≤ 131072) :
    Calls Tryz.prog 127 #[va, .int .i64 (-(k : Int))] w fun e w' => ∃ u, e = .returned (.tuple #[u, .int .i64 0]) ∧ Wid w' u (sg false (m / 2 ^ k)) ∧ Ext w w' := by
 obtain ⟨u, rfl, hu⟩ := ha
 obtain ⟨ao, b1, o1, cap1, rfl, v1, v2, v3, v4, v5, v6⟩ := hu.view
 have hlen : (dig m).length ≤ 4096 := hs
 obtain ⟨W3, hW3⟩ : ∃ W3, (w.alloc (.cells #[.bool false, .slice ao (dig m).length cap1] 24)).alloc (.cells #[.bool false, .slice none 0 0] 24) = W3 := ⟨_, rfl⟩
 have hWs : W3.heap.size = w.heap.size + 1 + 1 := by rw [← hW3]; simp
 have hEW : Ext w W3 := by rw [← hW3]; exact ((Ext.refl w).alloc _).alloc _
 have hS : BX w (w.heap.size + 1) [(w.heap.size, 0, .bool false), (w.heap.size, 1, .slice ao (dig m).length cap1)] W3 := by
  rw [← hW3]
  refine ⟨hW3 ▸ hEW, ?_, ?_, ?_, ?_, ?_, by simp⟩
  ·exact T_RSD_9
  ·exact b_1
  ·exact b_2
  ·exact b_3
  ·have := NoU.new (w.alloc (.cells #[.bool false, .slice ao (dig m).length cap1] 24)) #[.bool false, .slice none 0 0] 24 (noU2 (by simp) (by simp))
   simpa using this
 have hLn : ∀ p ∈ ([(w.heap.size, 0, .bool false), (w.heap.size, 1, .slice ao (dig m).length cap1)] : List (Nat × Nat × Value)), p.1 ≠ w.heap.size + 1 := by
  exact T_RSD_8
 have hck := fun w1 (k1 : Ext w w1) => r_CheckZ (.agg #[.bool false, .slice ao (dig m).length cap1]) (sg false m) w1 (sm_wid (hu.ext k1) hz) (by unfold Sz; rw [sg_abs]; exact hs)
 subst hW3
 clear v1 v4 v5 hWs hEW
 obtain ⟨i0, hi, hz0, hz1, hz2⟩ := info_parts info81
 have hwq : Hid (IntKind.i64.wrap ((k : Int).tdiv 32) = (d : Int)) := by show _ = _; rw [IntKind.wrap_i64, Int.tdiv_eq_ediv_of_nonneg (by omega)]; omega
 have htm : (k : Int).tmod 32 = (s : Int) := by rw [Int.tmod_eq_emod_of_nonneg (by omega)]; omega
 have h2p : (2 : Int) ^ s ≤ 2147483648 := two_pow_le (t := 31) (by omega)
 have h2q : (0 : Int) < 2 ^ s := Int.pow_pos (by decide)
 have hwp : IntKind.u32.wrap (2 ^ s) = 2 ^ s := by rw [IntKind.wrap_u32]; exact Int.emod_eq_of_lt (by omega) (by omega)
 have hPb : Lb ([2 ^ s] : List Int) := Lb.cons (by unfold BB; omega) Lb.nil
 have hYd : List.replicate d 0 ++ [(2 : Int) ^ s] = dig (2 ^ k) := by
  exact T_RSD_6
 have hle : (dig (m / 2 ^ k)).length ≤ 4096 := by
  have h1 : (m / 2 ^ k) ≤ m := Nat.div_le_self _ _
  exact Nat.le_trans (dig_mono h1) hs
 have hmd : ∀ v xs w1, Lim w1 v xs → val xs = (((m / 2 ^ k) : Nat) : Int) → _ := fun v xs w1 h1 h2 => r_madeS false v xs (m / 2 ^ k) w1 h1 h2 hle
 obtain ⟨Q, hQ⟩ : ∃ Q, m / 2 ^ k = Q := ⟨_, rfl⟩
 obtain ⟨Z, hZ⟩ : ∃ Z, m % 2 ^ k = Z := ⟨_, rfl⟩
 obtain ⟨R, hR0⟩ : ∃ R, (m / 2 ^ k) = R := ⟨_, rfl⟩
 rw [hR0] at hmd ⊢
 rw [hQ] at hR0
 have hd1 : d ≤ 5000 := by omega
 have hql : Q ≤ m := by rw [← hQ]; exact Nat.div_le_self _ _
 have hqd : (dig Q).length ≤ 4096 := Nat.le_trans (dig_mono hql) hs
 clear hle hk
 replace hQ : Hid _ := hQ
 replace hR0 : Hid _ := hR0
 replace hZ : Hid _ := hZ
 go_enter Tryz.func127, Tryz.ntmps127
 go_upto_region 8 with (go_at_call 129; (with_reducible refine (hck _ ex_).mono ?_); rintro e w1 ⟨rfl, hb⟩; have q0 := BX.get (hS.ext hb) 0 rfl)
 have hS0 := hS.ext hb
 clear hS hb hck
 refine wp_region_held_drew (S := (fun w0 => BX w (w.heap.size + 1) [(w.heap.size, 0, .bool false), (w.heap.size, 1, .slice ao (dig m).length cap1)] w0)) c_2 ?_ (fun hH => ?_)
 ·exact hS0.drew
 try simp only [sx_]
 refine sK 0 ?_
 refine sK 1 ?_
 refine sK 3 ?_
 refine sK 4 ?_
 refine sK 5 ?_
 refine rh2 2 6 rfl rfl (fun K hK => ?_) fun K hK => ?_
 ·refine step_make rfl _ _ 22 (by rfl) _ w.heap.size 25 i0 (.int .u32 0) 1 Tryz.underlying22 hi hz0 hz1 .i64 .i64 _ _ d (by rfl) (by rfl) hwq.out hwq.out c_11 c_4 hH.base.size ?_
  intro gm wm hgm hownm hgrowm
  have hR : O32 wm w.heap.size gm d d (List.replicate d 0) := R32.made hownm
  have hxm := Ext.grown (Ext.refl _) hgrowm
  have hgw : w.heap.size + 1 + 1 ≤ gm := by have := hH.box.2.2.2.2; have := hH.base.size; omega
  have hgs := hR.parts.1
  refine hK.out _ _ ?_ fun _ => ?_
  ·exact b_65
  clear hK K hH
  rename_i hH
  try simp only [sx_]
  refine rh1 6 rfl fun K hK => ?_
  have hnw := One.fresh hH.base (.int .u32 (2 ^ s))
  (try simp only [size_drew, World.size_alloc] at hnw)
  replace hR := hR.ext ((Ext.refl _).alloc (.cells #[.int .u32 (2 ^ s)] 25))
  go_simp
  refine hK.out _ _ ?_ fun _ => ?_
  ·exact b_66
  exact T_RSD_3
 ·have hnw := One.fresh hH.base (.int .u32 (2 ^ s))
  (try simp only [size_drew, World.size_alloc] at hnw)
  go_simp
  refine hK.out _ _ ?_ fun _ => ?_
  ·exact b_66
  clear hK K hH
  rename_i hH
  try simp only [sx_]
  refine rh1 2 rfl fun K hK => ?_
  refine step_make rfl _ _ 22 (by rfl) _ w.heap.size 25 i0 (.int .u32 0) 1 Tryz.underlying22 hi hz0 hz1 .i64 .i64 _ _ d (by rfl) (by rfl) hwq.out hwq.out c_11 c_4 hH.base.size ?_
  intro gm wm hgm hownm hgrowm
  have hR : O32 wm w.heap.size gm d d (List.replicate d 0) := R32.made hownm
  have hxm := Ext.grown (Ext.refl _) hgrowm
  have hgw : w.heap.size + 1 + 1 ≤ gm := by have := hH.box.2.2.2.2; have := hH.base.size; omega
  have hgs := hR.parts.1
  replace hnw := hnw.ext hxm
  have hgb := hnw.2
  refine hK.out _ _ ?_ fun _ => ?_
  ·exact b_65
  exact T_RSD_3
theorem r_shiftDTr (va : Value) (m d s k : Nat) (w : World) (ha : Sm w va true m) (hs : Small m) (hz : m = 0 → true = false) (hs5 : s < 32) (hk : k = 32 * d + s) (hk0 : 0 < k) (hd : k ≤ 131072) (hr0 : 0 < m % 2 ^ k) :
    Calls Tryz.prog 127 #[va, .int .i64 (-(k : Int))] w fun e w' => ∃ u, e = .returned (.tuple #[u, .int .i64 0]) ∧ Wid w' u (sg true (m / 2 ^ k + 1)) ∧ Ext w w' := by
  obtain ⟨u, rfl, hu⟩ := ha
  obtain ⟨ao, b1, o1, cap1, rfl, v1, v2, v3, v4, v5, v6⟩ := hu.view
  have hlen : (dig m).length ≤ 4096 := hs
  obtain ⟨W3, hW3⟩ : ∃ W3, (w.alloc (.cells #[.bool true, .slice ao (dig m).length cap1] 24)).alloc (.cells #[.bool false, .slice none 0 0] 24) = W3 := ⟨_, rfl⟩
  have hWs : W3.heap.size = w.heap.size + 1 + 1 := by rw [← hW3]; simp
  have hEW : Ext w W3 := by rw [← hW3]; exact ((Ext.refl w).alloc _).alloc _
  have hS : BX w (w.heap.size + 1) [(w.heap.size, 0, .bool true), (w.heap.size, 1, .slice ao (dig m).length cap1)] W3 := by
    exact T_RSD_7
  have hLn : ∀ p ∈ ([(w.heap.size, 0, .bool true), (w.heap.size, 1, .slice ao (dig m).length cap1)] : List (Nat × Nat × Value)), p.1 ≠ w.heap.size + 1 := by
    exact T_RSD_8
  have hck := fun w1 (k1 : Ext w w1) => r_CheckZ (.agg #[.bool true, .slice ao (dig m).length cap1]) (sg true m) w1 (sm_wid (hu.ext k1) hz) (by unfold Sz; rw [sg_abs]; exact hs)
  subst hW3
  clear v1 v4 v5 hWs hEW
  obtain ⟨i0, hi, hz0, hz1, hz2⟩ := info_parts info81
  have hwq : Hid (IntKind.i64.wrap ((k : Int).tdiv 32) = (d : Int)) := by show _ = _; rw [IntKind.wrap_i64, Int.tdiv_eq_ediv_of_nonneg (by omega)]; omega
  have htm : (k : Int).tmod 32 = (s : Int) := by rw [Int.tmod_eq_emod_of_nonneg (by omega)]; omega
  have h2p : (2 : Int) ^ s ≤ 2147483648 := two_pow_le (t := 31) (by omega)
  have h2q : (0 : Int) < 2 ^ s := Int.pow_pos (by decide)
  have hwp : IntKind.u32.wrap (2 ^ s) = 2 ^ s := by rw [IntKind.wrap_u32]; exact Int.emod_eq_of_lt (by omega) (by omega)
  have hPb : Lb ([2 ^ s] : List Int) := Lb.cons (by unfold BB; omega) Lb.nil
  have hYd : List.replicate d 0 ++ [(2 : Int) ^ s] = dig (2 ^ k) := by
    exact T_RSD_6
  have hle : (dig (m / 2 ^ k + 1)).length ≤ 4096 := by
    have h1 : (m / 2 ^ k + 1) ≤ m := by
      have h2 : m / 2 ^ k < m := Nat.div_lt_self (by rcases Nat.eq_zero_or_pos m with e | e; · subst e; simp at hr0
                                                     · exact e) (Nat.lt_of_lt_of_le (by decide) (Nat.pow_le_pow_right (n := 2) (by decide) hk0))
      omega
    exact Nat.le_trans (dig_mono h1) hs
  have hmd : ∀ v xs w1, Lim w1 v xs → val xs = (((m / 2 ^ k + 1) : Nat) : Int) → _ := fun v xs w1 h1 h2 => r_madeS true v xs (m / 2 ^ k + 1) w1 h1 h2 hle
  obtain ⟨Q, hQ⟩ : ∃ Q, m / 2 ^ k = Q := ⟨_, rfl⟩
  obtain ⟨Z, hZ⟩ : ∃ Z, m % 2 ^ k = Z := ⟨_, rfl⟩
  obtain ⟨R, hR0⟩ : ∃ R, (m / 2 ^ k + 1) = R := ⟨_, rfl⟩
  rw [hR0] at hmd ⊢
  rw [hQ] at hR0
  rw [hZ] at hr0
  have hrl : decide ((0 : Int) < ((dig Z).length : Int)) = true := decide_eq_true (by have := dig_pos.2 hr0; omega)
  have hrl2 : decide (0 < (dig Z).length) = true := decide_eq_true (dig_pos.2 hr0)
  have hd1 : d ≤ 5000 := by omega
  have hql : Q ≤ m := by rw [← hQ]; exact Nat.div_le_self _ _
  have hqd : (dig Q).length ≤ 4096 := Nat.le_trans (dig_mono hql) hs
  clear hle hk
  replace hQ : Hid _ := hQ
  replace hR0 : Hid _ := hR0
  replace hZ : Hid _ := hZ
  go_enter Tryz.func127, Tryz.ntmps127
  go_upto_region 8 with (go_at_call 129; (with_reducible refine (hck _ ex_).mono ?_); rintro e w1 ⟨rfl, hb⟩; have q0 := BX.get (hS.ext hb) 0 rfl)
  have hS0 := hS.ext hb
  clear hS hb hck
  refine wp_region_held_drew (S := (fun w0 => BX w (w.heap.size + 1) [(w.heap.size, 0, .bool true), (w.heap.size, 1, .slice ao (dig m).length cap1)] w0)) c_2 ?_ (fun hH => ?_)
  · exact hS0.drew
  try simp only [sx_]
  refine sK 0 ?_
  refine sK 1 ?_
  refine sK 3 ?_
  refine sK 4 ?_
  refine sK 5 ?_
  refine rh2 2 6 rfl rfl (fun K hK => ?_) fun K hK => ?_
  · refine step_make rfl _ _ 22 (by rfl) _ w.heap.size 25 i0 (.int .u32 0) 1 Tryz.underlying22 hi hz0 hz1 .i64 .i64 _ _ d (by rfl) (by rfl) hwq.out hwq.out c_11 c_4 hH.base.size ?_
    intro gm wm hgm hownm hgrowm
    have hR : O32 wm w.heap.size gm d d (List.replicate d 0) := R32.made hownm
    have hxm := Ext.grown (Ext.refl _) hgrowm
    have hgw : w.heap.size + 1 + 1 ≤ gm := by have := hH.box.2.2.2.2; have := hH.base.size; omega
    have hgs := hR.parts.1
    refine hK.out _ _ ?_ fun _ => ?_
    · (try dsimp only); exact hH.ext hxm
    clear hK K hH
    rename_i hH
    try simp only [sx_]
    refine rh1 6 rfl fun K hK => ?_
    have hnw := One.fresh hH.base (.int .u32 (2 ^ s))
    (try simp only [size_drew, World.size_alloc] at hnw)
    replace hR := hR.ext ((Ext.refl _).alloc (.cells #[.int .u32 (2 ^ s)] 25))
    go_simp
    refine hK.out _ _ ?_ fun _ => ?_
    · (try dsimp only); exact hH.ext ((Ext.refl _).alloc _)
    exact T_RSD_2
  · have hnw := One.fresh hH.base (.int .u32 (2 ^ s))
    (try simp only [size_drew, World.size_alloc] at hnw)
    go_simp
    refine hK.out _ _ ?_ fun _ => ?_
    · (try dsimp only); exact hH.ext ((Ext.refl _).alloc _)
    clear hK K hH
    rename_i hH
    try simp only [sx_]
    refine rh1 2 rfl fun K hK => ?_
    refine step_make rfl _ _ 22 (by rfl) _ w.heap.size 25 i0 (.int .u32 0) 1 Tryz.underlying22 hi hz0 hz1 .i64 .i64 _ _ d (by rfl) (by rfl) hwq.out hwq.out c_11 c_4 hH.base.size ?_
    intro gm wm hgm hownm hgrowm
    have hR : O32 wm w.heap.size gm d d (List.replicate d 0) := R32.made hownm
    have hxm := Ext.grown (Ext.refl _) hgrowm
    have hgw : w.heap.size + 1 + 1 ≤ gm := by have := hH.box.2.2.2.2; have := hH.base.size; omega
    have hgs := hR.parts.1
    replace hnw := hnw.ext hxm
    have hgb := hnw.2
    refine hK.out _ _ ?_ fun _ => ?_
    · (try dsimp only); exact hH.ext hxm
    exact T_RSD_2
theorem r_shiftDTn (va : Value) (m d s k : Nat) (w : World) (ha : Sm w va true m) (hs : Small m) (hz : m = 0 → true = false) (hs5 : s < 32) (hk : k = 32 * d + s) (hk0 : 0 < k) (hd : k ≤ 131072) (hr0 : ¬ 0 < m % 2 ^ k) :
    Calls Tryz.prog 127 #[va, .int .i64 (-(k : Int))] w fun e w' => ∃ u, e = .returned (.tuple #[u, .int .i64 0]) ∧ Wid w' u (sg true (m / 2 ^ k)) ∧ Ext w w' := by
 obtain ⟨u, rfl, hu⟩ := ha
 obtain ⟨ao, b1, o1, cap1, rfl, v1, v2, v3, v4, v5, v6⟩ := hu.view
 have hlen : (dig m).length ≤ 4096 := hs
 obtain ⟨W3, hW3⟩ : ∃ W3, (w.alloc (.cells #[.bool true, .slice ao (dig m).length cap1] 24)).alloc (.cells #[.bool false, .slice none 0 0] 24) = W3 := ⟨_, rfl⟩
 have hWs : W3.heap.size = w.heap.size + 1 + 1 := by rw [← hW3]; simp
 have hEW : Ext w W3 := by rw [← hW3]; exact ((Ext.refl w).alloc _).alloc _
 have hS : BX w (w.heap.size + 1) [(w.heap.size, 0, .bool true), (w.heap.size, 1, .slice ao (dig m).length cap1)] W3 := by
  exact T_RSD_7
 have hLn : ∀ p ∈ ([(w.heap.size, 0, .bool true), (w.heap.size, 1, .slice ao (dig m).length cap1)] : List (Nat × Nat × Value)), p.1 ≠ w.heap.size + 1 := by
  exact T_RSD_8
 have hck := fun w1 (k1 : Ext w w1) => r_CheckZ (.agg #[.bool true, .slice ao (dig m).length cap1]) (sg true m) w1 (sm_wid (hu.ext k1) hz) (by unfold Sz; rw [sg_abs]; exact hs)
 subst hW3
 clear v1 v4 v5 hWs hEW
 obtain ⟨i0, hi, hz0, hz1, hz2⟩ := info_parts info81
 have hwq : Hid (IntKind.i64.wrap ((k : Int).tdiv 32) = (d : Int)) := by show _ = _; rw [IntKind.wrap_i64, Int.tdiv_eq_ediv_of_nonneg (by omega)]; omega
 have htm : (k : Int).tmod 32 = (s : Int) := by rw [Int.tmod_eq_emod_of_nonneg (by omega)]; omega
 have h2p : (2 : Int) ^ s ≤ 2147483648 := two_pow_le (t := 31) (by omega)
 have h2q : (0 : Int) < 2 ^ s := Int.pow_pos (by decide)
 have hwp : IntKind.u32.wrap (2 ^ s) = 2 ^ s := by rw [IntKind.wrap_u32]; exact Int.emod_eq_of_lt (by omega) (by omega)
 have hPb : Lb ([2 ^ s] : List Int) := Lb.cons (by unfold BB; omega) Lb.nil
 have hYd : List.replicate d 0 ++ [(2 : Int) ^ s] = dig (2 ^ k) := by
  exact T_RSD_6
 have hle : (dig (m / 2 ^ k)).length ≤ 4096 := by
  have h1 : (m / 2 ^ k) ≤ m := Nat.div_le_self _ _
  exact Nat.le_trans (dig_mono h1) hs
 have hmd : ∀ v xs w1, Lim w1 v xs → val xs = (((m / 2 ^ k) : Nat) : Int) → _ := fun v xs w1 h1 h2 => r_madeS true v xs (m / 2 ^ k) w1 h1 h2 hle
 obtain ⟨Q, hQ⟩ : ∃ Q, m / 2 ^ k = Q := ⟨_, rfl⟩
 obtain ⟨Z, hZ⟩ : ∃ Z, m % 2 ^ k = Z := ⟨_, rfl⟩
 obtain ⟨R, hR0⟩ : ∃ R, (m / 2 ^ k) = R := ⟨_, rfl⟩
 rw [hR0] at hmd ⊢
 rw [hQ] at hR0
 rw [hZ] at hr0
 have hrl : decide ((0 : Int) < ((dig Z).length : Int)) = false := decide_eq_false (by have := mt dig_pos.1 hr0; omega)
 have hrl2 : decide (0 < (dig Z).length) = false := decide_eq_false (mt dig_pos.1 hr0)
 have hd1 : d ≤ 5000 := by omega
 have hql : Q ≤ m := by rw [← hQ]; exact Nat.div_le_self _ _
 have hqd : (dig Q).length ≤ 4096 := Nat.le_trans (dig_mono hql) hs
 clear hle hk
 replace hQ : Hid _ := hQ
 replace hR0 : Hid _ := hR0
 replace hZ : Hid _ := hZ
 go_enter Tryz.func127, Tryz.ntmps127
 go_upto_region 8 with (go_at_call 129; (with_reducible refine (hck _ ex_).mono ?_); rintro e w1 ⟨rfl, hb⟩; have q0 := BX.get (hS.ext hb) 0 rfl)
 have hS0 := hS.ext hb
 clear hS hb hck
 refine wp_region_held_drew (S := (fun w0 => BX w (w.heap.size + 1) [(w.heap.size, 0, .bool true), (w.heap.size, 1, .slice ao (dig m).length cap1)] w0)) c_2 ?_ (fun hH => ?_)
 ·exact hS0.drew
 try simp only [sx_]
 refine sK 0 ?_
 refine sK 1 ?_
 refine sK 3 ?_
 refine sK 4 ?_
 refine sK 5 ?_
 refine rh2 2 6 rfl rfl (fun K hK => ?_) fun K hK => ?_
 ·refine step_make rfl _ _ 22 (by rfl) _ w.heap.size 25 i0 (.int .u32 0) 1 Tryz.underlying22 hi hz0 hz1 .i64 .i64 _ _ d (by rfl) (by rfl) hwq.out hwq.out c_11 c_4 hH.base.size ?_
  intro gm wm hgm hownm hgrowm
  have hR : O32 wm w.heap.size gm d d (List.replicate d 0) := R32.made hownm
  have hxm := Ext.grown (Ext.refl _) hgrowm
  have hgw : w.heap.size + 1 + 1 ≤ gm := by have := hH.box.2.2.2.2; have := hH.base.size; omega
  have hgs := hR.parts.1
  refine hK.out _ _ ?_ fun _ => ?_
  ·exact b_65
  clear hK K hH
  rename_i hH
  try simp only [sx_]
  refine rh1 6 rfl fun K hK => ?_
  have hnw := One.fresh hH.base (.int .u32 (2 ^ s))
  (try simp only [size_drew, World.size_alloc] at hnw)
  replace hR := hR.ext ((Ext.refl _).alloc (.cells #[.int .u32 (2 ^ s)] 25))
  go_simp
  refine hK.out _ _ ?_ fun _ => ?_
  ·exact b_66
  exact T_RSD_4
 ·have hnw := One.fresh hH.base (.int .u32 (2 ^ s))
  (try simp only [size_drew, World.size_alloc] at hnw)
  go_simp
  refine hK.out _ _ ?_ fun _ => ?_
  ·exact b_66
  clear hK K hH
  rename_i hH
  try simp only [sx_]
  refine rh1 2 rfl fun K hK => ?_
  refine step_make rfl _ _ 22 (by rfl) _ w.heap.size 25 i0 (.int .u32 0) 1 Tryz.underlying22 hi hz0 hz1 .i64 .i64 _ _ d (by rfl) (by rfl) hwq.out hwq.out c_11 c_4 hH.base.size ?_
  intro gm wm hgm hownm hgrowm
  have hR : O32 wm w.heap.size gm d d (List.replicate d 0) := R32.made hownm
  have hxm := Ext.grown (Ext.refl _) hgrowm
  have hgw : w.heap.size + 1 + 1 ≤ gm := by have := hH.box.2.2.2.2; have := hH.base.size; omega
  have hgs := hR.parts.1
  replace hnw := hnw.ext hxm
  have hgb := hnw.2
  refine hK.out _ _ ?_ fun _ => ?_
  ·exact b_65
  exact T_RSD_4
theorem r_ShiftD (va : Value) (n : Int) (k : Nat) (w : World) (ha : Wid w va n) (hs : Sz n) (hk0 : 0 < k) (hk : k ≤ 131072) :
    Calls Tryz.prog 127 #[va, .int .i64 (-(k : Int))] w fun e w' => ∃ u, e = .returned (.tuple #[u, .int .i64 0]) ∧ Wid w' u (n / 2 ^ k) ∧ Ext w w' := by
 obtain ⟨u, rfl, hu⟩ := ha
 have e1 : k = 32 * (k / 32) + k % 32 := (Nat.div_add_mod k 32).symm
 have e2 : k % 32 < 32 := Nat.mod_lt _ (by decide)
 by_cases h : n < 0
 ·have hd : decide (n < 0) = true := decide_eq_true h
  rw [hd]
  have hn := neg_floor n.natAbs k
  have e : -(n.natAbs : Int) = n := by omega
  rw [e] at hn
  rw [hn]
  split
  ·rename_i hr
   exact r_shiftDTr _ n.natAbs _ _ k w ⟨u, rfl, hu⟩ hs (by omega) e2 e1 hk0 hk hr
  ·rename_i hr
   exact r_shiftDTn _ n.natAbs _ _ k w ⟨u, rfl, hu⟩ hs (by omega) e2 e1 hk0 hk hr
 ·have hd : decide (n < 0) = false := decide_eq_false h
  rw [hd]
  have e : n / 2 ^ k = sg false (n.natAbs / 2 ^ k) := by
   have h1 : (n.natAbs : Int) = n := by omega
   have h2 : ((n.natAbs / 2 ^ k : Nat) : Int) = (n.natAbs : Int) / 2 ^ k := by rw [Int.natCast_ediv, Int.natCast_pow]; rfl
   unfold sg
   rw [if_neg (by decide), h2, h1]
  rw [e]
  exact r_shiftDF _ n.natAbs _ _ k w ⟨u, rfl, hu⟩ hs (fun _ => rfl) e2 e1 hk0 hk
theorem r_ShiftU (va : Value) (n : Int) (k : Nat) (w : World) (ha : Wid w va n) (hs : Sz n) (hk : k ≤ 131072) (hs3 : Sz (n * 2 ^ k)) :
    Calls Tryz.prog 127 #[va, .int .i64 (k : Int)] w fun e w' => ∃ u, e = .returned (.tuple #[u, .int .i64 0]) ∧ Wid w' u (n * 2 ^ k) ∧ Ext w w' := by
 obtain ⟨u, rfl, hu⟩ := ha
 have e1 : 32 * (k / 32) + k % 32 = k := Nat.div_add_mod k 32
 have e2 : (n * 2 ^ k).natAbs = n.natAbs * 2 ^ k := by rw [Int.natAbs_mul, Int.natAbs_pow]; rfl
 have e3 : sg (decide (n < 0)) (n.natAbs * 2 ^ k) = n * 2 ^ k := by
  have h := sg_wid (n := n)
  have h2 : ((n.natAbs * 2 ^ k : Nat) : Int) = (n.natAbs : Int) * 2 ^ k := by rw [Int.natCast_mul, Int.natCast_pow]; rfl
  unfold sg at h ⊢
  rw [h2]
  split at h
  ·rename_i hh; rw [if_pos hh, ← Int.neg_mul, h]
  ·rename_i hh; rw [if_neg hh, h]
 have h := r_shiftU0 (.agg #[.bool (decide (n < 0)), u]) (decide (n < 0)) n.natAbs (k / 32) (k % 32) k w ⟨u, rfl, hu⟩ hs (wid_s _ rfl) (Nat.mod_lt _ (by decide)) e1.symm hk (by rw [e1, ← e2]; exact hs3)
 rw [e1, e3] at h
 exact h
theorem r_minus (va vb : Value) (X Y : List Int) (w : World) (ha : Lim w va X) (hb : Lim w vb Y) (hx : X.length ≤ 100000) (hle : Y.length ≤ X.length) (hv0 : val Y ≤ val X) :
    Calls Tryz.prog 206 #[va, vb] w fun e w' => ∃ u zs, e = .returned u ∧ Lim w' u zs ∧ val zs = val X - val Y ∧ Ext w w' := by
  obtain ⟨aoA, bA, oA, cA, rfl, a1, a2, a3, a4, a5, a6⟩ := ha.view
  obtain ⟨aoB, bB, oB, cB, rfl, b1, b2, b3, b4, b5, b6⟩ := hb.view
  have lA := ha.lb
  have lB := hb.lb
  obtain ⟨i0, hi, hz0, hz1, hz2⟩ := info_parts info81
  have hA0 : A32 w w.heap.size (.slice none 0 0) [] := A32.nil _ _
  clear a6 b6
  go_enter Tryz.func206, Tryz.ntmps206
  go_wp2_with fail
  go_loopw [5, 6, 7] (fun v c i wr => ∃ (k : Nat) (z : Int) (zs : List Int), k ≤ X.length ∧ c = .int .i64 z ∧ i = .int .i64 k ∧ 0 ≤ z ∧ z ≤ 1 ∧ zs.length = k ∧ Lb zs ∧ val zs - BB ^ k * z = val (X.take k) - val (Y.take k) ∧
      Hid (A32 wr w.heap.size v zs) ∧ Hid (Ext w wr)) (fun _ _ i _ => X.length - (intOf i).toNat)
  case atStart => exact ⟨0, 0, [], Nat.zero_le _, rfl, rfl, by decide, by decide, rfl, Lb.nil, by simp [val], hA0, Ext.refl w⟩
  case round =>
    obtain ⟨k, z, zs, hk, rfl, rfl, z0, z1, hzl, hzb, hv, HR, HE⟩ := hrel
    have hsz := HE.out.size
    have hk1 : k ≤ 100000 := by omega
    have hm1 : Hid (k + 1 ≤ maxLen) := (Nat.le_trans (Nat.succ_le_succ hk1) (by decide) : k + 1 ≤ maxLen)
    have hm2 : Hid ((k + 1) * 4 ≤ 140737488355328) := (Nat.le_trans (Nat.mul_le_mul_right 4 (Nat.succ_le_succ hk1)) (by decide) : (k + 1) * 4 ≤ 140737488355328)
    by_cases hkx : k < X.length
    · have eA := a1 (by omega)
      subst eA
      have hca := (HE.out.cells.1 _ (oA + k) (a4 (by omega))).trans (a5 k hkx)
      have hxk : U32 (X.getD k 0) := lA.getD k
      have hyk : U32 (Y.getD k 0) := lB.getD k
      obtain ⟨x, ex⟩ : ∃ x, X.getD k 0 = x := ⟨_, rfl⟩
      obtain ⟨y, ey⟩ : ∃ y, Y.getD k 0 = y := ⟨_, rfl⟩
      have hq := minus_step hv hzl ex ey
      rw [ex] at hca hxk
      rw [ey] at hyk
      unfold U32 at hxk hyk
      by_cases hky : k < Y.length
      · have eB := b1 (by omega)
        subst eB
        have hcb := (HE.out.cells.1 _ (oB + k) (b4 (by omega))).trans (b5 k hky)
        rw [ey] at hcb
        by_cases hn : x - y - z < 0
        · have hd : (x - z - y : Int) < 0 := by omega
          have e1 : (x - y - z) % 4294967296 = x - z - y + 4294967296 := by omega
          have e2 : -((x - y - z) / 4294967296) = 1 := by omega
          rw [e1, e2] at hq
          have hU : U32 (x - z - y + 4294967296) := by unfold U32; omega
          have hown : (wr.alloc (.cells #[.int .u32 (x - z - y + 4294967296)] 25)).ownsRow w.heap.size 25 1 u5 k (zs.map (Value.int .u32)) := by have := HR.out.alloc (.cells #[.int .u32 (x - z - y + 4294967296)] 25); unfold A32 at this; rw [hzl] at this; exact this
          replace hq : Hid _ := hq
          clear ex ey hv a5 b5 e1 e2
          go_wp2_with (at_builtin; refine wpList_append_own _ rfl _ _ 22 rfl w.heap.size 25 i0 (.int .u32 0) 1 4 Tryz.underlying22 hi hz0 hz1 hz2 rfl (by decide) _ _ _ rfl hown ⟨wr.heap.size, 0, none⟩ 1 1 [Value.int .u32 (x - z - y + 4294967296)] rfl rfl (cell_one_l _ _ _) c_7 hm1.out hm2.out c_6 ?_; intro v' w1 hown1 hgrow1 hnil)
          have hR1 : Hid (A32 w1 w.heap.size v' (zs ++ [x - z - y + 4294967296])) := A32.snoc hown1 hzl
          have hE1 : Hid (Ext w w1) := (own_ext (HE.out.alloc _) hown hgrow1 : Ext w w1)
          go_roundw
          case rel => exact ⟨k + 1, 1, zs ++ [x - z - y + 4294967296], by omega, rfl, by go_num, by decide, by decide, by simp [hzl], hzb.snoc hU, hq.out, hR1, hE1⟩
          case measure => simp [intOf]; omega
        · have hd : ¬ (x - z - y : Int) < 0 := by omega
          have e1 : (x - y - z) % 4294967296 = x - z - y := by omega
          have e2 : -((x - y - z) / 4294967296) = 0 := by omega
          rw [e1, e2] at hq
          have hU : U32 (x - z - y) := by unfold U32; omega
          have hown : (wr.alloc (.cells #[.int .u32 (x - z - y)] 25)).ownsRow w.heap.size 25 1 u5 k (zs.map (Value.int .u32)) := by have := HR.out.alloc (.cells #[.int .u32 (x - z - y)] 25); unfold A32 at this; rw [hzl] at this; exact this
          replace hq : Hid _ := hq
          clear ex ey hv a5 b5 e1 e2
          go_wp2_with (at_builtin; refine wpList_append_own _ rfl _ _ 22 rfl w.heap.size 25 i0 (.int .u32 0) 1 4 Tryz.underlying22 hi hz0 hz1 hz2 rfl (by decide) _ _ _ rfl hown ⟨wr.heap.size, 0, none⟩ 1 1 [Value.int .u32 (x - z - y)] rfl rfl (cell_one_l _ _ _) c_7 hm1.out hm2.out c_6 ?_; intro v' w1 hown1 hgrow1 hnil)
          have hR1 : Hid (A32 w1 w.heap.size v' (zs ++ [x - z - y])) := A32.snoc hown1 hzl
          have hE1 : Hid (Ext w w1) := (own_ext (HE.out.alloc _) hown hgrow1 : Ext w w1)
          go_roundw
          case rel => exact ⟨k + 1, 0, zs ++ [x - z - y], by omega, rfl, by go_num, by decide, by decide, by simp [hzl], hzb.snoc hU, hq.out, hR1, hE1⟩
          case measure => simp [intOf]; omega
      · have hy0 : y = 0 := by rw [← ey, List.getD_eq_getElem?_getD, List.getElem?_eq_none (by omega)]; rfl
        subst hy0
        by_cases hn : x - 0 - z < 0
        · have hd : (x - z : Int) < 0 := by omega
          have e1 : (x - 0 - z) % 4294967296 = x - z + 4294967296 := by omega
          have e2 : -((x - 0 - z) / 4294967296) = 1 := by omega
          rw [e1, e2] at hq
          have hU : U32 (x - z + 4294967296) := by unfold U32; omega
          have hown : (wr.alloc (.cells #[.int .u32 (x - z + 4294967296)] 25)).ownsRow w.heap.size 25 1 u5 k (zs.map (Value.int .u32)) := by have := HR.out.alloc (.cells #[.int .u32 (x - z + 4294967296)] 25); unfold A32 at this; rw [hzl] at this; exact this
          replace hq : Hid _ := hq
          clear ex ey hv a5 b5 e1 e2
          go_wp2_with (at_builtin; refine wpList_append_own _ rfl _ _ 22 rfl w.heap.size 25 i0 (.int .u32 0) 1 4 Tryz.underlying22 hi hz0 hz1 hz2 rfl (by decide) _ _ _ rfl hown ⟨wr.heap.size, 0, none⟩ 1 1 [Value.int .u32 (x - z + 4294967296)] rfl rfl (cell_one_l _ _ _) c_7 hm1.out hm2.out c_6 ?_; intro v' w1 hown1 hgrow1 hnil)
          have hR1 : Hid (A32 w1 w.heap.size v' (zs ++ [x - z + 4294967296])) := A32.snoc hown1 hzl
          have hE1 : Hid (Ext w w1) := (own_ext (HE.out.alloc _) hown hgrow1 : Ext w w1)
          go_roundw
          case rel => exact ⟨k + 1, 1, zs ++ [x - z + 4294967296], by omega, rfl, by go_num, by decide, by decide, by simp [hzl], hzb.snoc hU, hq.out, hR1, hE1⟩
          case measure => simp [intOf]; omega
        · have hd : ¬ (x - z : Int) < 0 := by omega
          have e1 : (x - 0 - z) % 4294967296 = x - z := by omega
          have e2 : -((x - 0 - z) / 4294967296) = 0 := by omega
          rw [e1, e2] at hq
          have hU : U32 (x - z) := by unfold U32; omega
          have hown : (wr.alloc (.cells #[.int .u32 (x - z)] 25)).ownsRow w.heap.size 25 1 u5 k (zs.map (Value.int .u32)) := by have := HR.out.alloc (.cells #[.int .u32 (x - z)] 25); unfold A32 at this; rw [hzl] at this; exact this
          replace hq : Hid _ := hq
          clear ex ey hv a5 b5 e1 e2
          go_wp2_with (at_builtin; refine wpList_append_own _ rfl _ _ 22 rfl w.heap.size 25 i0 (.int .u32 0) 1 4 Tryz.underlying22 hi hz0 hz1 hz2 rfl (by decide) _ _ _ rfl hown ⟨wr.heap.size, 0, none⟩ 1 1 [Value.int .u32 (x - z)] rfl rfl (cell_one_l _ _ _) c_7 hm1.out hm2.out c_6 ?_; intro v' w1 hown1 hgrow1 hnil)
          have hR1 : Hid (A32 w1 w.heap.size v' (zs ++ [x - z])) := A32.snoc hown1 hzl
          have hE1 : Hid (Ext w w1) := (own_ext (HE.out.alloc _) hown hgrow1 : Ext w w1)
          go_roundw
          case rel => exact ⟨k + 1, 0, zs ++ [x - z], by omega, rfl, by go_num, by decide, by decide, by simp [hzl], hzb.snoc hU, hq.out, hR1, hE1⟩
          case measure => simp [intOf]; omega
    · have hkl : k = X.length := by omega
      subst hkl
      have hvv : val zs = val X - val Y := by
        rw [List.take_length, List.take_of_length_le hle] at hv
        have hlt := val_lt hzb
        rw [hzl] at hlt
        rcases (by omega : z = 0 ∨ z = 1) with rfl | rfl <;> omega
      have hL := HR.out.lim hzb (by omega)
      have htr := r_trim _ zs wr hL
      clear hv a5 b5
      go_wp2_with (go_at_call 117; (with_reducible refine htr.mono ?_); rintro e w1 ⟨y1, rfl, hy1, hb1⟩)
      go_ret
      exact ⟨_, trimL zs, rfl, hy1, by rw [val_trim]; exact hvv, HE.out.trans hb1⟩
end Go.Proofs.YtogblocakccbgaaGreat
