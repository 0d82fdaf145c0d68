/- TrigNames: the law. -/
import Derived.Test.YtogblocakccbgaaGreatU38
import Derived.Test.YtogblocakccbgaaGreatRows
import Derived.JoinedOf
set_option linter.unusedSimpArgs false
set_option linter.unusedVariables false
set_option maxRecDepth 100000
set_option maxHeartbeats 4000000
namespace Go.Proofs.YtogblocakccbgaaGreat
open Go.RowKit
theorem eqc1 {P : Program} {f : Nat} {w : World} {F : Ending → World → Prop} {u v : Value} (h : u = v) (k : Calls P f #[v] w F) : Calls P f #[u] w F := h ▸ k
theorem eqc2 {P : Program} {f : Nat} {w : World} {F : Ending → World → Prop} {u v x : Value} (h : u = v) (k : Calls P f #[v, x] w F) : Calls P f #[u, x] w F := h ▸ k
def longN : Nat := 2 ^ 512
theorem dig_long : dig longN = (List.replicate 17 0).set 16 1 := by kernel_rfl
theorem law_trigNames (w : World) : Calls Tryz.prog 3 #[] w fun e w' => e = .returned (.bool true) ∧ Ext w w' := by
  obtain ⟨i0, hi, hz0, hz1, hz2⟩ := info_parts info81
  go_enter Tryz.func3, Tryz.ntmps3
  go_upto_region 2 with (at_make; refine wpList_make_full _ rfl _ _ 22 rfl w.heap.size 25 i0 (.int .u32 0) 1 Tryz.underlying22 hi hz0 hz1 .i64 .i64 _ _ 17 rfl rfl (by omega) (by omega) c_11 c_4 (Nat.le_refl _) ?_; intro w0 hown0 hgrow0)
  have hR0 : R32 w0 w.heap.size w.heap.size 17 (List.replicate 17 0) := R32.made hown0
  have hE0 : Ext w w0 := Ext.grown (Ext.refl w) hgrow0
  clear hown0 hgrow0
  have hB0 : Bx2 (w0.alloc (.cells #[.bool false, .slice none 0 0] 24)) w0.heap.size := Bx2.fresh w0
  have c16 := hR0.cell (k := 16) (by decide)
  have f16 := hR0.frozen 16
  have hlt := hR0.lt
  clear hB0
  go_upto_region 3 with fail
  have hR1 : R32 w0 w.heap.size w.heap.size 17 (List.replicate 17 0) := hR0
  have hL : Lim (w0.setCell ⟨w.heap.size, 16, none⟩ (.int .u32 1)) (.slice (some ⟨w.heap.size, 0, none⟩) 17 17) (dig longN) := by
    rw [dig_long]
    exact (hR1.set 16 1).lim (by intro x hx; have : x = 0 ∨ x = 1 := by simp at hx; omega
                                 have : BB = 4294967296 := rfl
                                 omega) (by decide)
  have hWt := WAt.lit (Nn.wid (m := longN) ⟨_, rfl, hL⟩)
  rw [World.size_setCell] at hWt
  have hE1 : Ext w ((w0.setCell ⟨w.heap.size, 16, none⟩ (.int .u32 1)).alloc (.cells #[.bool false, .slice (some ⟨w.heap.size, 0, none⟩) 17 17] 24)) := (hE0.setCell (p := ⟨w.heap.size, 16, none⟩) (Nat.le_refl _) _).alloc _
  have hge := hE0.size
  have I : KBd w [(w0.heap.size, BF.wat ((longN : Nat) : Int))] ((w0.setCell ⟨w.heap.size, 16, none⟩ (.int .u32 1)).alloc (.cells #[.bool false, .slice (some ⟨w.heap.size, 0, none⟩) 17 17] 24)) := ⟨hE1, ⟨hWt, trivial⟩, by simp, fun x hx => by rw [List.mem_singleton.1 hx]; exact hge⟩
  obtain ⟨M, hM⟩ : ∃ M, ((longN : Nat) : Int) = M := ⟨_, rfl⟩
  have hmany : ∀ (w1 : World) (u1 u2 : Value), Wid w1 u1 M → Wid w1 u2 1 → Calls Tryz.prog 5 #[u1, u2] w1 fun e w' => ∃ u, e = .returned u ∧ u = .tuple #[.int .i64 0, .int .i64 4] ∧ Ext w1 w' := fun w1 u1 u2 a b => by
    rw [← hM] at a
    exact calls_eq (t_atMany u1 u2 _ _ w1 a b (okN.sz (s := ((longN : Nat) : Int)) c_2) (dig_bits (k := 64) (L := 4096) (by decide) (by decide)) (by rw [Int.natAbs_natCast, dig_long, List.length_set, List.length_replicate]; decide))
  rw [hM] at I
  clear hM hWt hL hE1 hE0 hR1 hR0 c16 f16 hlt hge hi hz0 hz1 hz2
  obtain ⟨W0, hW0⟩ : ∃ W0, ((w0.setCell ⟨w.heap.size, 16, none⟩ (.int .u32 1)).alloc (.cells #[.bool false, .slice (some ⟨w.heap.size, 0, none⟩) 17 17] 24)) = W0 := ⟨_, rfl⟩
  rw [hW0] at I ⊢
  clear hW0
  obtain ⟨bl, hbl⟩ : ∃ bl, w0.heap.size = bl := ⟨_, rfl⟩
  rw [hbl] at I ⊢
  clear hbl
  go_upto_region 3 with fail
  refine wp_regB [] [] (fun z_ => ([VF.wid (M), VF.wid (1), VF.eq (.tuple #[.int .i64 0, .int .i64 4]), VF.eq (.tuple #[.int .i64 0, .int .i64 4]), VF.eq (.int .i64 0), VF.eq (.int .i64 4), VF.eq (.int .i64 0), VF.eq (.int .i64 4)] : List VF).getD z_ VF.any) I (fun hc => ⟨?_, ?_, ?_, ?_, ?_, ?_, ?_, ?_, trivial⟩) (fun vs gl W hK0 hv hp => ?_)
  · exact ob_getW bl (M) hc rfl fun vs gs w1 c => c.b0 0
  · exact ob_call (fun v => [.int .i64 1]) hc rfl fun vs gs w1 c => k_whole _ _ (by decide) (by decide)
  · exact ob_call (fun v => [v 0, v 1]) hc rfl fun vs gs w1 c => hmany _ _ _ (c.v 0) (c.v 1)
  · exact ob_cp 2 hc (.inl rfl)
  · exact ob_e1 (x := .tmp 30) (a := (.tuple #[.int .i64 0, .int .i64 4])) (u := .int .i64 0) (some 3) hc
  · exact ob_e1 (x := .tmp 30) (a := (.tuple #[.int .i64 0, .int .i64 4])) (u := .int .i64 4) (some 3) hc
  · exact ob_cp 4 hc (.inr rfl)
  · exact ob_cp 5 hc (.inr rfl)
  have v7 : vs 7 = .int .i64 4 := hv 7 (by decide)
  simp only [putS, Nat.reduceAdd, Act.put, List.setIfInBounds_toArray, List.set_cons_zero, List.set_cons_succ, v7]
  simp only [kb_] at hK0
  replace I := hK0
  clear hK0 hv hp gl v7
  go_upto_region 4 with fail
  refine wp_regB [] [] (fun z_ => ([VF.wid (0), VF.wid (0), VF.eq (.tuple #[.int .i64 0, .int .i64 18]), VF.eq (.tuple #[.int .i64 0, .int .i64 18]), VF.eq (.int .i64 0), VF.eq (.int .i64 18), VF.eq (.int .i64 0), VF.eq (.int .i64 18)] : List VF).getD z_ VF.any) I (fun hc => ⟨?_, ?_, ?_, ?_, ?_, ?_, ?_, ?_, trivial⟩) (fun vs gl W hK0 hv hp => ?_)
  · exact ob_call (fun v => [.int .i64 0]) hc rfl fun vs gs w1 c => k_whole _ _ (by decide) (by decide)
  · exact ob_call (fun v => [.int .i64 0]) hc rfl fun vs gs w1 c => k_whole _ _ (by decide) (by decide)
  · exact ob_call (fun v => [v 0, v 1]) hc rfl fun vs gs w1 c => calls_eq (t_atZero _ _ _ (c.v 0) (c.v 1))
  · exact ob_cp 2 hc (.inl rfl)
  · exact ob_e1 (x := .tmp 36) (a := (.tuple #[.int .i64 0, .int .i64 18])) (u := .int .i64 0) (some 3) hc
  · exact ob_e1 (x := .tmp 36) (a := (.tuple #[.int .i64 0, .int .i64 18])) (u := .int .i64 18) (some 3) hc
  · exact ob_cp 4 hc (.inr rfl)
  · exact ob_cp 5 hc (.inr rfl)
  have v7 : vs 7 = .int .i64 18 := hv 7 (by decide)
  simp only [putS, Nat.reduceAdd, Act.put, List.setIfInBounds_toArray, List.set_cons_zero, List.set_cons_succ, v7]
  simp only [kb_] at hK0
  replace I := hK0
  clear hK0 hv hp gl v7
  go_upto_region 5 with fail
  refine wp_regB [] [] (fun z_ => ([VF.eq (.agg #[.bool true, .slice none 0 0]), VF.wid (1), VF.eq (.tuple #[.int .i64 0, .int .i64 8]), VF.eq (.tuple #[.int .i64 0, .int .i64 8]), VF.eq (.int .i64 (0)), VF.eq (.int .i64 (8)), VF.eq (.int .i64 (0)), VF.eq (.int .i64 (8))] : List VF).getD z_ VF.any) I (fun hc => ⟨?_, ?_, ?_, ?_, ?_, ?_, ?_, ?_, trivial⟩) (fun vs gl W hK0 hv hp => ?_)
  · exact ob_e1 (x := .const (.bool true)) (a := .bool true) (u := .agg #[.bool true, .slice none 0 0]) none hc
  · exact ob_call (fun v => [.int .i64 1]) hc rfl fun vs gs w1 c => k_whole _ _ (by decide) (by decide)
  · exact ob_call (fun v => [v 0, v 1]) hc rfl fun vs gs w1 c => eqc2 (c.v 0) (calls_eq (t_atBad _ _ _ (c.v 1)))
  · exact ob_cp 2 hc (.inl rfl)
  · exact ob_e1 (x := .tmp 42) (a := (.tuple #[.int .i64 0, .int .i64 8])) (u := .int .i64 (0)) (some 3) hc
  · exact ob_e1 (x := .tmp 42) (a := (.tuple #[.int .i64 0, .int .i64 8])) (u := .int .i64 (8)) (some 3) hc
  · exact ob_cp 4 hc (.inr rfl)
  · exact ob_cp 5 hc (.inr rfl)
  have v7 : vs 7 = .int .i64 8 := hv 7 (by decide)
  simp only [putS, Nat.reduceAdd, Act.put, List.setIfInBounds_toArray, List.set_cons_zero, List.set_cons_succ, v7]
  simp only [kb_] at hK0
  replace I := hK0
  clear hK0 hv hp gl v7
  go_upto_region 6 with fail
  refine wp_regB [] [] (fun z_ => ([VF.wid ((-1)), VF.wid (4611686018427387904), VF.eq (.tuple #[.int .i64 1295999999999, .int .i64 0]), VF.eq (.tuple #[.int .i64 1295999999999, .int .i64 0]), VF.eq (.int .i64 1295999999999), VF.eq (.int .i64 0), VF.eq (.int .i64 1295999999999), VF.eq (.int .i64 0)] : List VF).getD z_ VF.any) I (fun hc => ⟨?_, ?_, ?_, ?_, ?_, ?_, ?_, ?_, trivial⟩) (fun vs gl W hK0 hv hp => ?_)
  · exact ob_call (fun v => [.int .i64 (-1)]) hc rfl fun vs gs w1 c => k_whole _ _ (by decide) (by decide)
  · exact ob_call (fun v => [.int .i64 4611686018427387904]) hc rfl fun vs gs w1 c => k_whole _ _ (by decide) (by decide)
  · exact ob_call (fun v => [v 0, v 1]) hc rfl fun vs gs w1 c => calls_eq (t_atan _ _ _ _ _ _ (c.v 0) (c.v 1) c_2 c_2 (Nat.le_of_ble_eq_true c_2) (Nat.le_of_ble_eq_true c_2) (by decide) cl_a4)
  · exact ob_cp 2 hc (.inl rfl)
  · exact ob_e1 (x := .tmp 48) (a := (.tuple #[.int .i64 1295999999999, .int .i64 0])) (u := .int .i64 1295999999999) (some 3) hc
  · exact ob_e1 (x := .tmp 48) (a := (.tuple #[.int .i64 1295999999999, .int .i64 0])) (u := .int .i64 0) (some 3) hc
  · exact ob_cp 4 hc (.inr rfl)
  · exact ob_cp 5 hc (.inr rfl)
  have v6 : vs 6 = .int .i64 1295999999999 := hv 6 (by decide)
  have v7 : vs 7 = .int .i64 0 := hv 7 (by decide)
  simp only [putS, Nat.reduceAdd, Act.put, List.setIfInBounds_toArray, List.set_cons_zero, List.set_cons_succ, v6, v7]
  simp only [kb_] at hK0
  replace I := hK0
  clear hK0 hv hp gl v6 v7
  go_upto_region 7 with fail
  refine wp_regB [] [⟨5, some 6, BF.own [.int .i64 0, .int .i64 0], (BF.own [.int .i64 0, .int .i64 0])⟩] (fun z_ => ([VF.eq (.agg #[.int .i64 1, .int .i64 0]), VF.eq (.tuple #[.agg #[.int .i64 0, .int .i64 0], .int .i64 8]), VF.eq (.tuple #[.agg #[.int .i64 0, .int .i64 0], .int .i64 8]), VF.eq (.agg #[.int .i64 0, .int .i64 0]), VF.eq (.int .i64 8), VF.any, VF.any, VF.eq (.int .i64 8)] : List VF).getD z_ VF.any) I (fun hc => ⟨?_, ?_, ?_, ?_, ?_, ?_, ?_, ?_, trivial⟩) (fun vs gl W hK0 hv hp => ?_)
  · exact ob_call (fun v => [.int .i64 1, .int .i64 0]) hc rfl fun vs gs w1 c => calls_eq (k_iv _ _ _)
  · exact ob_call (fun v => [v 0]) hc rfl fun vs gs w1 c => eqc1 (c.v 0) (calls_eq (t_SinIv _ fun w => t_arcsBad _ _ _ w (by decide)))
  · exact ob_cp 1 hc (.inl rfl)
  · exact ob_e1 (x := .tmp 54) (a := (.tuple #[.agg #[.int .i64 0, .int .i64 0], .int .i64 8])) (u := .agg #[.int .i64 0, .int .i64 0]) (some 2) hc
  · exact ob_e1 (x := .tmp 54) (a := (.tuple #[.agg #[.int .i64 0, .int .i64 0], .int .i64 8])) (u := .int .i64 8) (some 2) hc
  · exact ob_new (n := 1) [.int .i64 0, .int .i64 0] 31 rfl hc rfl rfl rfl
  · exact ob_put2 (n := 1) 0 rfl (some 3) hc rfl
  · exact ob_cp 4 hc (.inr rfl)
  have p0 : vs 5 = .pointer (some ⟨gl 0, 0, none⟩) := hp 0 _ rfl
  have v7 : vs 7 = .int .i64 8 := hv 7 (by decide)
  simp only [putS, Nat.reduceAdd, Act.put, List.setIfInBounds_toArray, List.set_cons_zero, List.set_cons_succ, p0, v7]
  obtain ⟨g10, e90⟩ : ∃ n, gl 0 = n := ⟨_, rfl⟩
  simp only [kb_, e90] at hK0
  rw [e90]
  replace I := hK0
  clear hK0 hv hp gl p0 v7 e90
  go_upto_region 8 with fail
  refine wp_regB [] [⟨5, some 6, BF.own [.int .i64 0, .int .i64 0], (BF.own [.int .i64 0, .int .i64 0])⟩] (fun z_ => ([VF.eq (.agg #[.int .i64 0, .int .i64 70368744177665]), VF.eq (.tuple #[.agg #[.int .i64 0, .int .i64 0], .int .i64 2]), VF.eq (.tuple #[.agg #[.int .i64 0, .int .i64 0], .int .i64 2]), VF.eq (.agg #[.int .i64 0, .int .i64 0]), VF.eq (.int .i64 2), VF.any, VF.any, VF.eq (.int .i64 2)] : List VF).getD z_ VF.any) I (fun hc => ⟨?_, ?_, ?_, ?_, ?_, ?_, ?_, ?_, trivial⟩) (fun vs gl W hK0 hv hp => ?_)
  · exact ob_call (fun v => [.int .i64 0, .int .i64 70368744177665]) hc rfl fun vs gs w1 c => calls_eq (k_iv _ _ _)
  · exact ob_call (fun v => [v 0]) hc rfl fun vs gs w1 c => eqc1 (c.v 0) (calls_eq (t_CosIv _ fun w => t_arcsFar _ _ _ w (by decide) (by decide) (by decide) (by decide)))
  · exact ob_cp 1 hc (.inl rfl)
  · exact ob_e1 (x := .tmp 59) (a := (.tuple #[.agg #[.int .i64 0, .int .i64 0], .int .i64 2])) (u := .agg #[.int .i64 0, .int .i64 0]) (some 2) hc
  · exact ob_e1 (x := .tmp 59) (a := (.tuple #[.agg #[.int .i64 0, .int .i64 0], .int .i64 2])) (u := .int .i64 2) (some 2) hc
  · exact ob_new (n := 2) [.int .i64 0, .int .i64 0] 31 rfl hc rfl rfl rfl
  · exact ob_put2 (n := 2) 0 rfl (some 3) hc rfl
  · exact ob_cp 4 hc (.inr rfl)
  have p0 : vs 5 = .pointer (some ⟨gl 0, 0, none⟩) := hp 0 _ rfl
  have v7 : vs 7 = .int .i64 2 := hv 7 (by decide)
  simp only [putS, Nat.reduceAdd, Act.put, List.setIfInBounds_toArray, List.set_cons_zero, List.set_cons_succ, p0, v7]
  obtain ⟨g12, e90⟩ : ∃ n, gl 0 = n := ⟨_, rfl⟩
  simp only [kb_, e90] at hK0
  rw [e90]
  replace I := hK0
  clear hK0 hv hp gl p0 v7 e90
  go_upto_region 9 with fail
  refine wp_regB [] [⟨5, some 6, BF.own [.int .i64 0, .int .i64 0], (BF.own [.int .i64 1099511627776, .int .i64 1099511627776])⟩] (fun z_ => ([VF.eq (.agg #[.int .i64 0, .int .i64 0]), VF.eq (.tuple #[.agg #[.int .i64 1099511627776, .int .i64 1099511627776], .int .i64 0]), VF.eq (.tuple #[.agg #[.int .i64 1099511627776, .int .i64 1099511627776], .int .i64 0]), VF.eq (.agg #[.int .i64 1099511627776, .int .i64 1099511627776]), VF.eq (.int .i64 0), VF.any, VF.any, VF.eq (.int .i64 0)] : List VF).getD z_ VF.any) I (fun hc => ⟨?_, ?_, ?_, ?_, ?_, ?_, ?_, ?_, trivial⟩) (fun vs gl W hK0 hv hp => ?_)
  · exact ob_call (fun v => [.int .i64 0, .int .i64 0]) hc rfl fun vs gs w1 c => calls_eq (k_iv _ _ _)
  · exact ob_call (fun v => [v 0]) hc rfl fun vs gs w1 c => eqc1 (c.v 0) (calls_eq (t_CosIv _ fun w => (t_arcs _ _ _ _ w (by decide) (by decide) (by decide) (by decide) cl_c1)))
  · exact ob_cp 1 hc (.inl rfl)
  · exact ob_e1 (x := .tmp 64) (a := (.tuple #[.agg #[.int .i64 1099511627776, .int .i64 1099511627776], .int .i64 0])) (u := .agg #[.int .i64 1099511627776, .int .i64 1099511627776]) (some 2) hc
  · exact ob_e1 (x := .tmp 64) (a := (.tuple #[.agg #[.int .i64 1099511627776, .int .i64 1099511627776], .int .i64 0])) (u := .int .i64 0) (some 2) hc
  · exact ob_new (n := 3) [.int .i64 0, .int .i64 0] 31 rfl hc rfl rfl rfl
  · exact ob_put2 (n := 3) 0 rfl (some 3) hc rfl
  · exact ob_cp 4 hc (.inr rfl)
  have p0 : vs 5 = .pointer (some ⟨gl 0, 0, none⟩) := hp 0 _ rfl
  have v7 : vs 7 = .int .i64 0 := hv 7 (by decide)
  simp only [putS, Nat.reduceAdd, Act.put, List.setIfInBounds_toArray, List.set_cons_zero, List.set_cons_succ, p0, v7]
  obtain ⟨g14, e90⟩ : ∃ n, gl 0 = n := ⟨_, rfl⟩
  simp only [kb_, e90] at hK0
  rw [e90]
  replace I := hK0
  clear hK0 hv hp gl p0 v7 e90
  go_upto_region 10 with fail
  refine wp_regB [] [⟨5, some 6, BF.own [.int .i64 0, .int .i64 0], (BF.own [.int .i64 (-1099511627776), .int .i64 1099511627776])⟩] (fun z_ => ([VF.eq (.agg #[.int .i64 (-70368744177664), .int .i64 70368744177664]), VF.eq (.tuple #[.agg #[.int .i64 (-1099511627776), .int .i64 1099511627776], .int .i64 0]), VF.eq (.tuple #[.agg #[.int .i64 (-1099511627776), .int .i64 1099511627776], .int .i64 0]), VF.eq (.agg #[.int .i64 (-1099511627776), .int .i64 1099511627776]), VF.eq (.int .i64 0), VF.any, VF.any, VF.eq (.int .i64 0)] : List VF).getD z_ VF.any) I (fun hc => ⟨?_, ?_, ?_, ?_, ?_, ?_, ?_, ?_, trivial⟩) (fun vs gl W hK0 hv hp => ?_)
  · exact ob_call (fun v => [.int .i64 (-70368744177664), .int .i64 70368744177664]) hc rfl fun vs gs w1 c => calls_eq (k_iv _ _ _)
  · exact ob_call (fun v => [v 0]) hc rfl fun vs gs w1 c => eqc1 (c.v 0) (calls_eq (t_SinIv _ fun w => (t_arcs _ _ _ _ w (by decide) (by decide) (by decide) (by decide) cl_c2)))
  · exact ob_cp 1 hc (.inl rfl)
  · exact ob_e1 (x := .tmp 69) (a := (.tuple #[.agg #[.int .i64 (-1099511627776), .int .i64 1099511627776], .int .i64 0])) (u := .agg #[.int .i64 (-1099511627776), .int .i64 1099511627776]) (some 2) hc
  · exact ob_e1 (x := .tmp 69) (a := (.tuple #[.agg #[.int .i64 (-1099511627776), .int .i64 1099511627776], .int .i64 0])) (u := .int .i64 0) (some 2) hc
  · exact ob_new (n := 4) [.int .i64 0, .int .i64 0] 31 rfl hc rfl rfl rfl
  · exact ob_put2 (n := 4) 0 rfl (some 3) hc rfl
  · exact ob_cp 4 hc (.inr rfl)
  have p0 : vs 5 = .pointer (some ⟨gl 0, 0, none⟩) := hp 0 _ rfl
  have v7 : vs 7 = .int .i64 0 := hv 7 (by decide)
  simp only [putS, Nat.reduceAdd, Act.put, List.setIfInBounds_toArray, List.set_cons_zero, List.set_cons_succ, p0, v7]
  obtain ⟨g16, e90⟩ : ∃ n, gl 0 = n := ⟨_, rfl⟩
  simp only [kb_, e90] at hK0
  rw [e90]
  replace I := hK0
  clear hK0 hv hp gl p0 v7 e90
  go_upto_region 11 with fail
  refine wp_regB [] [⟨4, some 5, BF.own [.int .i64 0, .int .i64 0], (BF.own [.int .i64 0, .int .i64 0])⟩] (fun z_ => ([VF.eq (.tuple #[.agg #[.int .i64 0, .int .i64 0], .int .i64 2]), VF.eq (.tuple #[.agg #[.int .i64 0, .int .i64 0], .int .i64 2]), VF.eq (.agg #[.int .i64 0, .int .i64 0]), VF.eq (.int .i64 2), VF.any, VF.any, VF.eq (.int .i64 2)] : List VF).getD z_ VF.any) I (fun hc => ⟨?_, ?_, ?_, ?_, ?_, ?_, ?_, trivial⟩) (fun vs gl W hK0 hv hp => ?_)
  · exact ob_call (fun v => [.int .i64 129600000000001]) hc rfl fun vs gs w1 c => calls_eq (t_RadBad _ _ (by decide))
  · exact ob_cp 0 hc (.inl rfl)
  · exact ob_e1 (x := .tmp 74) (a := (.tuple #[.agg #[.int .i64 0, .int .i64 0], .int .i64 2])) (u := .agg #[.int .i64 0, .int .i64 0]) (some 1) hc
  · exact ob_e1 (x := .tmp 74) (a := (.tuple #[.agg #[.int .i64 0, .int .i64 0], .int .i64 2])) (u := .int .i64 2) (some 1) hc
  · exact ob_new (n := 5) [.int .i64 0, .int .i64 0] 31 rfl hc rfl rfl rfl
  · exact ob_put2 (n := 5) 0 rfl (some 2) hc rfl
  · exact ob_cp 3 hc (.inr rfl)
  have p0 : vs 4 = .pointer (some ⟨gl 0, 0, none⟩) := hp 0 _ rfl
  have v6 : vs 6 = .int .i64 2 := hv 6 (by decide)
  simp only [putS, Nat.reduceAdd, Act.put, List.setIfInBounds_toArray, List.set_cons_zero, List.set_cons_succ, p0, v6]
  obtain ⟨g18, e90⟩ : ∃ n, gl 0 = n := ⟨_, rfl⟩
  simp only [kb_, e90] at hK0
  rw [e90]
  replace I := hK0
  clear hK0 hv hp gl p0 v6 e90
  go_upto_region 12 with fail
  refine wp_regB [] [⟨4, some 5, BF.own [.int .i64 0, .int .i64 0], (BF.own [.int .i64 (-6908435304716), .int .i64 (-6908435304715)])⟩] (fun z_ => ([VF.eq (.tuple #[.agg #[.int .i64 (-6908435304716), .int .i64 (-6908435304715)], .int .i64 0]), VF.eq (.tuple #[.agg #[.int .i64 (-6908435304716), .int .i64 (-6908435304715)], .int .i64 0]), VF.eq (.agg #[.int .i64 (-6908435304716), .int .i64 (-6908435304715)]), VF.eq (.int .i64 0), VF.any, VF.any, VF.eq (.int .i64 0)] : List VF).getD z_ VF.any) I (fun hc => ⟨?_, ?_, ?_, ?_, ?_, ?_, ?_, trivial⟩) (fun vs gl W hK0 hv hp => ?_)
  · exact ob_call (fun v => [.int .i64 (-1296000000000)]) hc rfl fun vs gs w1 c => calls_eq (t_Rad _ _ _ (by decide) (by decide) (by decide) cl_r1)
  · exact ob_cp 0 hc (.inl rfl)
  · exact ob_e1 (x := .tmp 78) (a := (.tuple #[.agg #[.int .i64 (-6908435304716), .int .i64 (-6908435304715)], .int .i64 0])) (u := .agg #[.int .i64 (-6908435304716), .int .i64 (-6908435304715)]) (some 1) hc
  · exact ob_e1 (x := .tmp 78) (a := (.tuple #[.agg #[.int .i64 (-6908435304716), .int .i64 (-6908435304715)], .int .i64 0])) (u := .int .i64 0) (some 1) hc
  · exact ob_new (n := 6) [.int .i64 0, .int .i64 0] 31 rfl hc rfl rfl rfl
  · exact ob_put2 (n := 6) 0 rfl (some 2) hc rfl
  · exact ob_cp 3 hc (.inr rfl)
  have p0 : vs 4 = .pointer (some ⟨gl 0, 0, none⟩) := hp 0 _ rfl
  have v6 : vs 6 = .int .i64 0 := hv 6 (by decide)
  simp only [putS, Nat.reduceAdd, Act.put, List.setIfInBounds_toArray, List.set_cons_zero, List.set_cons_succ, p0, v6]
  obtain ⟨g20, e90⟩ : ∃ n, gl 0 = n := ⟨_, rfl⟩
  simp only [kb_, e90] at hK0
  rw [e90]
  replace I := hK0
  clear hK0 hv hp gl p0 v6 e90
  go_upto_region 13 with fail
  refine wp_regB [] [⟨5, some 6, BF.own [.int .i64 0, .int .i64 0], (BF.own [.int .i64 0, .int .i64 1])⟩] (fun z_ => ([VF.eq (.agg #[.int .i64 0, .int .i64 1]), VF.eq (.tuple #[.agg #[.int .i64 0, .int .i64 1], .int .i64 0]), VF.eq (.tuple #[.agg #[.int .i64 0, .int .i64 1], .int .i64 0]), VF.eq (.agg #[.int .i64 0, .int .i64 1]), VF.eq (.int .i64 0), VF.any, VF.any, VF.eq (.int .i64 0)] : List VF).getD z_ VF.any) I (fun hc => ⟨?_, ?_, ?_, ?_, ?_, ?_, ?_, ?_, trivial⟩) (fun vs gl W hK0 hv hp => ?_)
  · exact ob_call (fun v => [.int .i64 0, .int .i64 1]) hc rfl fun vs gs w1 c => calls_eq (k_iv _ _ _)
  · exact ob_call (fun v => [v 0]) hc rfl fun vs gs w1 c => eqc1 (c.v 0) (calls_eq (t_SinIv _ fun w => (t_arcs _ _ _ _ w (by decide) (by decide) (by decide) (by decide) cl_c3)))
  · exact ob_cp 1 hc (.inl rfl)
  · exact ob_e1 (x := .tmp 82) (a := (.tuple #[.agg #[.int .i64 0, .int .i64 1], .int .i64 0])) (u := .agg #[.int .i64 0, .int .i64 1]) (some 2) hc
  · exact ob_e1 (x := .tmp 82) (a := (.tuple #[.agg #[.int .i64 0, .int .i64 1], .int .i64 0])) (u := .int .i64 0) (some 2) hc
  · exact ob_new (n := 7) [.int .i64 0, .int .i64 0] 31 rfl hc rfl rfl rfl
  · exact ob_put2 (n := 7) 0 rfl (some 3) hc rfl
  · exact ob_cp 4 hc (.inr rfl)
  have p0 : vs 5 = .pointer (some ⟨gl 0, 0, none⟩) := hp 0 _ rfl
  have v7 : vs 7 = .int .i64 0 := hv 7 (by decide)
  simp only [putS, Nat.reduceAdd, Act.put, List.setIfInBounds_toArray, List.set_cons_zero, List.set_cons_succ, p0, v7]
  obtain ⟨g22, e90⟩ : ∃ n, gl 0 = n := ⟨_, rfl⟩
  simp only [kb_, e90] at hK0
  rw [e90]
  replace I := hK0
  clear hK0 hv hp gl p0 v7 e90
  go_upto_region 14 with fail
  refine wp_regB [] [] (fun z_ => ([VF.eq (.bool true), VF.eq (.bool true), VF.eq (.bool true), VF.eq (.bool true), VF.eq (.int .i64 4), VF.eq (.bool true), VF.eq (.bool true), VF.eq (.bool true), VF.eq (.int .i64 18), VF.eq (.bool true), VF.eq (.bool true), VF.eq (.bool true), VF.eq (.int .i64 8), VF.eq (.bool true), VF.eq (.bool true), VF.eq (.bool true), VF.eq (.int .i64 0), VF.eq (.bool true), VF.eq (.bool true), VF.eq (.bool true), VF.eq (.int .i64 1295999999999), VF.eq (.bool true), VF.eq (.bool true), VF.eq (.bool true), VF.eq (.int .i64 8), VF.eq (.bool true), VF.eq (.bool true), VF.eq (.bool true), VF.eq (.int .i64 2), VF.eq (.bool true), VF.eq (.bool true), VF.eq (.bool true), VF.eq (.int .i64 0), VF.eq (.bool true), VF.eq (.bool true), VF.eq (.bool true), VF.eq (.agg #[.int .i64 1099511627776, .int .i64 1099511627776]), VF.eq (.agg #[.int .i64 1099511627776, .int .i64 1099511627776]), VF.eq (.bool true), VF.eq (.bool true), VF.eq (.bool true)] : List VF).getD z_ VF.any) I (fun hc => ⟨?_, ?_, ?_, ?_, ?_, ?_, ?_, ?_, ?_, ?_, ?_, ?_, ?_, ?_, ?_, ?_, ?_, ?_, ?_, ?_, ?_, ?_, ?_, ?_, ?_, ?_, ?_, ?_, ?_, ?_, ?_, ?_, ?_, ?_, ?_, ?_, ?_, ?_, ?_, ?_, ?_, trivial⟩) (fun vs gl W hK0 hv hp => ?_)
  · exact ob_mv hc (.inl rfl)
  · exact ob_call (fun v => []) hc rfl fun vs gs w1 c => calls_eq (k_alive _)
  · exact ob_pickT (some 0) (some 1) hc rfl
  · exact ob_cp 2 hc (.inl rfl)
  · exact ob_mv hc (.inl rfl)
  · exact ob_e2 (x := .tmp 91) (y := .const (.int .i64 4)) (a := (.int .i64 4)) (b := .int .i64 4) (u := .bool true) (some 4) none hc
  · exact ob_pickT (some 3) (some 5) hc rfl
  · exact ob_cp 6 hc (.inl rfl)
  · exact ob_mv hc (.inl rfl)
  · exact ob_e2 (x := .tmp 95) (y := .const (.int .i64 18)) (a := (.int .i64 18)) (b := .int .i64 18) (u := .bool true) (some 8) none hc
  · exact ob_pickT (some 7) (some 9) hc rfl
  · exact ob_cp 10 hc (.inl rfl)
  · exact ob_mv hc (.inl rfl)
  · exact ob_e2 (x := .tmp 99) (y := .const (.int .i64 8)) (a := (.int .i64 8)) (b := .int .i64 8) (u := .bool true) (some 12) none hc
  · exact ob_pickT (some 11) (some 13) hc rfl
  · exact ob_cp 14 hc (.inl rfl)
  · exact ob_mv hc (.inl rfl)
  · exact ob_e2 (x := .tmp 103) (y := .const (.int .i64 0)) (a := (.int .i64 0)) (b := .int .i64 0) (u := .bool true) (some 16) none hc
  · exact ob_pickT (some 15) (some 17) hc rfl
  · exact ob_cp 18 hc (.inl rfl)
  · exact ob_mv hc (.inl rfl)
  · exact ob_e2 (x := .tmp 107) (y := .const (.int .i64 1295999999999)) (a := (.int .i64 1295999999999)) (b := .int .i64 1295999999999) (u := .bool true) (some 20) none hc
  · exact ob_pickT (some 19) (some 21) hc rfl
  · exact ob_cp 22 hc (.inl rfl)
  · exact ob_mv hc (.inl rfl)
  · exact ob_e2 (x := .tmp 111) (y := .const (.int .i64 8)) (a := (.int .i64 8)) (b := .int .i64 8) (u := .bool true) (some 24) none hc
  · exact ob_pickT (some 23) (some 25) hc rfl
  · exact ob_cp 26 hc (.inl rfl)
  · exact ob_mv hc (.inl rfl)
  · exact ob_e2 (x := .tmp 115) (y := .const (.int .i64 2)) (a := (.int .i64 2)) (b := .int .i64 2) (u := .bool true) (some 28) none hc
  · exact ob_pickT (some 27) (some 29) hc rfl
  · exact ob_cp 30 hc (.inl rfl)
  · exact ob_mv hc (.inl rfl)
  · exact ob_e2 (x := .tmp 119) (y := .const (.int .i64 0)) (a := (.int .i64 0)) (b := .int .i64 0) (u := .bool true) (some 32) none hc
  · exact ob_pickT (some 31) (some 33) hc rfl
  · exact ob_cp 34 hc (.inl rfl)
  · exact ob_ld2 (x := .tmp 14) (g := g14) (f := 0) none hc rfl fun vs gs w1 c => ⟨c.own 3 0, c.own 3 1⟩
  · exact ob_call (fun v => [.int .i64 1099511627776, .int .i64 1099511627776]) hc rfl fun vs gs w1 c => calls_eq (k_iv _ _ _)
  · exact ob_e2 (x := .tmp 123) (y := .tmp 124) (a := (.agg #[.int .i64 1099511627776, .int .i64 1099511627776])) (b := (.agg #[.int .i64 1099511627776, .int .i64 1099511627776])) (u := .bool true) (some 36) (some 37) hc (hs := by intro ρ w1 h k; go_simp; first | done | (rw [show (10000 : Nat) = 9998 + 1 + 1 from rfl, eq_iv]; rfl))
  · exact ob_pickT (some 35) (some 38) hc rfl
  · exact ob_cp 39 hc (.inr rfl)
  have v40 : vs 40 = .bool true := hv 40 (by decide)
  simp only [putS, Nat.reduceAdd, Act.put, List.setIfInBounds_toArray, List.set_cons_zero, List.set_cons_succ, v40]
  simp only [kb_] at hK0
  replace I := hK0
  clear hK0 hv hp gl v40
  go_upto_region 15 with fail
  refine wp_regB [] [] (fun z_ => ([VF.eq (.bool true), VF.eq (.bool true), VF.eq (.int .i64 0), VF.eq (.bool true), VF.eq (.bool true), VF.eq (.bool true), VF.eq (.agg #[.int .i64 (-1099511627776), .int .i64 1099511627776]), VF.eq (.agg #[.int .i64 (-1099511627776), .int .i64 1099511627776]), VF.eq (.bool true), VF.eq (.bool true), VF.eq (.bool true), VF.eq (.int .i64 2), VF.eq (.bool true), VF.eq (.bool true), VF.eq (.bool true), VF.eq (.int .i64 0), VF.eq (.bool true), VF.eq (.bool true), VF.eq (.bool true), VF.eq (.agg #[.int .i64 (-6908435304716), .int .i64 (-6908435304715)]), VF.eq (.agg #[.int .i64 (-6908435304716), .int .i64 (-6908435304715)]), VF.eq (.bool true), VF.eq (.bool true), VF.eq (.bool true), VF.eq (.int .i64 0), VF.eq (.bool true), VF.eq (.bool true), VF.eq (.bool true), VF.eq (.agg #[.int .i64 0, .int .i64 1]), VF.eq (.agg #[.int .i64 0, .int .i64 1]), VF.eq (.bool true), VF.eq (.bool true), VF.eq (.bool true), VF.eq (.agg #[.int .i64 0, .int .i64 0]), VF.eq (.agg #[.int .i64 0, .int .i64 0]), VF.eq (.bool true), VF.eq (.bool true), VF.eq (.bool true), VF.eq (.agg #[.int .i64 (-582404753263), .int .i64 (-582404753262)]), VF.eq (.agg #[.int .i64 (-582404753263), .int .i64 (-582404753262)]), VF.eq (.bool true), VF.eq (.bool true), VF.eq (.bool true)] : List VF).getD z_ VF.any) I (fun hc => ⟨?_, ?_, ?_, ?_, ?_, ?_, ?_, ?_, ?_, ?_, ?_, ?_, ?_, ?_, ?_, ?_, ?_, ?_, ?_, ?_, ?_, ?_, ?_, ?_, ?_, ?_, ?_, ?_, ?_, ?_, ?_, ?_, ?_, ?_, ?_, ?_, ?_, ?_, ?_, ?_, ?_, ?_, ?_, trivial⟩) (fun vs gl W hK0 hv hp => ?_)
  · exact ob_mv hc (.inl rfl)
  · exact ob_cp 0 hc (.inl rfl)
  · exact ob_mv hc (.inl rfl)
  · exact ob_e2 (x := .tmp 129) (y := .const (.int .i64 0)) (a := (.int .i64 0)) (b := .int .i64 0) (u := .bool true) (some 2) none hc
  · exact ob_pickT (some 1) (some 3) hc rfl
  · exact ob_cp 4 hc (.inl rfl)
  · exact ob_ld2 (x := .tmp 16) (g := g16) (f := 0) none hc rfl fun vs gs w1 c => ⟨c.own 4 0, c.own 4 1⟩
  · exact ob_call (fun v => [.int .i64 (-1099511627776), .int .i64 1099511627776]) hc rfl fun vs gs w1 c => calls_eq (k_iv _ _ _)
  · exact ob_e2 (x := .tmp 133) (y := .tmp 134) (a := (.agg #[.int .i64 (-1099511627776), .int .i64 1099511627776])) (b := (.agg #[.int .i64 (-1099511627776), .int .i64 1099511627776])) (u := .bool true) (some 6) (some 7) hc (hs := by intro ρ w1 h k; go_simp; first | done | (rw [show (10000 : Nat) = 9998 + 1 + 1 from rfl, eq_iv]; rfl))
  · exact ob_pickT (some 5) (some 8) hc rfl
  · exact ob_cp 9 hc (.inl rfl)
  · exact ob_mv hc (.inl rfl)
  · exact ob_e2 (x := .tmp 138) (y := .const (.int .i64 2)) (a := (.int .i64 2)) (b := .int .i64 2) (u := .bool true) (some 11) none hc
  · exact ob_pickT (some 10) (some 12) hc rfl
  · exact ob_cp 13 hc (.inl rfl)
  · exact ob_mv hc (.inl rfl)
  · exact ob_e2 (x := .tmp 142) (y := .const (.int .i64 0)) (a := (.int .i64 0)) (b := .int .i64 0) (u := .bool true) (some 15) none hc
  · exact ob_pickT (some 14) (some 16) hc rfl
  · exact ob_cp 17 hc (.inl rfl)
  · exact ob_ld2 (x := .tmp 20) (g := g20) (f := 0) none hc rfl fun vs gs w1 c => ⟨c.own 6 0, c.own 6 1⟩
  · exact ob_call (fun v => [.int .i64 (-6908435304716), .int .i64 (-6908435304715)]) hc rfl fun vs gs w1 c => calls_eq (k_iv _ _ _)
  · exact ob_e2 (x := .tmp 146) (y := .tmp 147) (a := (.agg #[.int .i64 (-6908435304716), .int .i64 (-6908435304715)])) (b := (.agg #[.int .i64 (-6908435304716), .int .i64 (-6908435304715)])) (u := .bool true) (some 19) (some 20) hc (hs := by intro ρ w1 h k; go_simp; first | done | (rw [show (10000 : Nat) = 9998 + 1 + 1 from rfl, eq_iv]; rfl))
  · exact ob_pickT (some 18) (some 21) hc rfl
  · exact ob_cp 22 hc (.inl rfl)
  · exact ob_mv hc (.inl rfl)
  · exact ob_e2 (x := .tmp 151) (y := .const (.int .i64 0)) (a := (.int .i64 0)) (b := .int .i64 0) (u := .bool true) (some 24) none hc
  · exact ob_pickT (some 23) (some 25) hc rfl
  · exact ob_cp 26 hc (.inl rfl)
  · exact ob_ld2 (x := .tmp 22) (g := g22) (f := 0) none hc rfl fun vs gs w1 c => ⟨c.own 7 0, c.own 7 1⟩
  · exact ob_call (fun v => [.int .i64 0, .int .i64 1]) hc rfl fun vs gs w1 c => calls_eq (k_iv _ _ _)
  · exact ob_e2 (x := .tmp 155) (y := .tmp 156) (a := (.agg #[.int .i64 0, .int .i64 1])) (b := (.agg #[.int .i64 0, .int .i64 1])) (u := .bool true) (some 28) (some 29) hc (hs := by intro ρ w1 h k; go_simp; first | done | (rw [show (10000 : Nat) = 9998 + 1 + 1 from rfl, eq_iv]; rfl))
  · exact ob_pickT (some 27) (some 30) hc rfl
  · exact ob_cp 31 hc (.inl rfl)
  · exact ob_call (fun v => [.int .i64 324000000000]) hc rfl fun vs gs w1 c => calls_eq (t_Cos _ _ _ _ (by decide) (by decide) cl_s3)
  · exact ob_call (fun v => [.int .i64 0, .int .i64 0]) hc rfl fun vs gs w1 c => calls_eq (k_iv _ _ _)
  · exact ob_e2 (x := .tmp 160) (y := .tmp 161) (a := (.agg #[.int .i64 0, .int .i64 0])) (b := (.agg #[.int .i64 0, .int .i64 0])) (u := .bool true) (some 33) (some 34) hc (hs := by intro ρ w1 h k; go_simp; first | done | (rw [show (10000 : Nat) = 9998 + 1 + 1 from rfl, eq_iv]; rfl))
  · exact ob_pickT (some 32) (some 35) hc rfl
  · exact ob_cp 36 hc (.inl rfl)
  · exact ob_call (fun v => [.int .i64 (-9223372036854775808)]) hc rfl fun vs gs w1 c => calls_eq (t_Sin _ _ _ _ (by decide) (by decide) cl_s4)
  · exact ob_call (fun v => [.int .i64 (-9223372036854775808)]) hc rfl fun vs gs w1 c => calls_eq (cl_Sin0 _)
  · exact ob_e2 (x := .tmp 165) (y := .tmp 166) (a := (.agg #[.int .i64 (-582404753263), .int .i64 (-582404753262)])) (b := (.agg #[.int .i64 (-582404753263), .int .i64 (-582404753262)])) (u := .bool true) (some 38) (some 39) hc (hs := by intro ρ w1 h k; go_simp; first | done | (rw [show (10000 : Nat) = 9998 + 1 + 1 from rfl, eq_iv]; rfl))
  · exact ob_pickT (some 37) (some 40) hc rfl
  · exact ob_cp 41 hc (.inr rfl)
  have v42 : vs 42 = .bool true := hv 42 (by decide)
  simp only [putS, Nat.reduceAdd, Act.put, List.setIfInBounds_toArray, List.set_cons_zero, List.set_cons_succ, v42]
  simp only [kb_] at hK0
  replace I := hK0
  clear hK0 hv hp gl v42
  have hE := I.e
  clear I
  go_wp2_with fail
  go_ret
  exact ⟨rfl, hE⟩
end Go.Proofs.YtogblocakccbgaaGreat
namespace Go.Proofs.YtogblocakccbgaaGreat
theorem jf3_inPlace : Tryz.prog.inPlace 3 = Rows.trigNamesRow.inPlace := by kernel_rfl
theorem jf3_unf : Tryz.prog.unfollowed 3 = Rows.trigNamesRow.unfollowed := by kernel_rfl
theorem jf3_rec : Tryz.prog.recurses 3 = Rows.trigNamesRow.recurses := by kernel_rfl
theorem jf3_named : Tryz.prog.varsNamed 3 = Rows.trigNamesRow.named := by kernel_rfl
theorem jf3_closed : joinedFacts Tryz.pinned.checked.prog 3 Tryz.f3 Rows.trigNamesSpec Rows.trigNamesRow = true := by
 show joinedFacts Tryz.prog 3 Tryz.f3 Rows.trigNamesSpec Rows.trigNamesRow = true
 unfold joinedFacts
 rw [jf3_inPlace, jf3_unf, jf3_rec, jf3_named]
 kernel_rfl
end Go.Proofs.YtogblocakccbgaaGreat
