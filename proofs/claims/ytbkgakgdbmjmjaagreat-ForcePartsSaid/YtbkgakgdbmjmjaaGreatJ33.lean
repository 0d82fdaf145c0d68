/- The chapter of examples: the walk. -/
import Derived.Test.YtbkgakgdbmjmjaaGreatJ31
set_option linter.unusedSimpArgs false
set_option linter.unusedVariables false
set_option maxRecDepth 100000
set_option maxHeartbeats 8000000
namespace Go.Proofs.YtbkgakgdbmjmjaaGreat
open Go.RowKit
theorem T_Al1_1 {p : Prop} (h : p := by
 refine hK.out _ _ ?_ fun _ => ?_
 ·(try dsimp only); exact hWs.ext hH (hge)
 clear hK K hH
 rename_i hH
 try simp only [sx_]
 refine tk 9 rfl c_5 ?_
 try simp only [sx_]
 refine wpAnyH_done c_11 ?_ _
 go_wp2_with fail
 go_meet
 exact ⟨_, rfl, rfl, hH, c_41, hFr.row hWs⟩) : p := h
theorem p_point (n : Int) (w : World) :
    Calls Tryz.prog 18 #[.int .i64 n] w fun e w' => e = .returned (.agg #[.int .i64 n, .int .i64 n]) ∧ Ext w w' := by
 go_enter Tryz.func18, Tryz.ntmps18
 go_wp2_with fail
 all_goals
  refine bodyPost_ret (v := .agg #[.int .i64 n, .int .i64 n]) ?_ rfl ⟨rfl, ?_⟩
  ·(try simp only [bn_, bm_] at *)
   simp [results, Tryz.results18, go_sem, ↓IntWalk.iteOmega, ne_eq, *]
  ·exact b_6
theorem alive_walk (w : World) (hP : ∀ w, Calls Tryz.prog 19 #[.agg #[.int .i64 1099511627776, .int .i64 1099511627776], .agg #[.int .i64 2199023255552, .int .i64 2199023255552, .int .i64 0, .int .i64 0, .int .i64 0, .int .i64 0]] w fun e w' => e = .returned (.tuple #[.agg #[.int .i64 (-274877906944), .int .i64 (-274877906944), .int .i64 0, .int .i64 0, .int .i64 0, .int .i64 0], .int .i64 0]) ∧ Ext w w')
    (hT : ∀ w, Calls Tryz.prog 20 #[.agg #[.int .i64 1099511627776, .int .i64 1099511627776], .agg #[.int .i64 2199023255552, .int .i64 2199023255552, .int .i64 0, .int .i64 0, .int .i64 0, .int .i64 0]] w fun e w' => e = .returned (.tuple #[.agg #[.int .i64 274877906944, .int .i64 274877906944, .int .i64 0, .int .i64 0, .int .i64 0, .int .i64 0, .int .i64 0, .int .i64 0, .int .i64 (-137438953472), .int .i64 (-137438953472), .int .i64 0, .int .i64 0, .int .i64 0, .int .i64 0, .int .i64 0, .int .i64 0, .int .i64 (-137438953472), .int .i64 (-137438953472)], .int .i64 0]) ∧ Ext w w')
    (n44 : ∀ (z0 z1 z2 z3 z4 z5 z6 z7 z8 z9 z10 z11 z12 z13 z14 z15 z16 z17 : Int) (w : World), (Op.equalIn 10000 35 (.agg #[.int .i64 z0, .int .i64 z1, .int .i64 z2, .int .i64 z3, .int .i64 z4, .int .i64 z5, .int .i64 z6, .int .i64 z7, .int .i64 z8, .int .i64 z9, .int .i64 z10, .int .i64 z11, .int .i64 z12, .int .i64 z13, .int .i64 z14, .int .i64 z15, .int .i64 z16, .int .i64 z17]) (.agg #[.int .i64 z0, .int .i64 z1, .int .i64 z2, .int .i64 z3, .int .i64 z4, .int .i64 z5, .int .i64 z6, .int .i64 z7, .int .i64 z8, .int .i64 z9, .int .i64 z10, .int .i64 z11, .int .i64 z12, .int .i64 z13, .int .i64 z14, .int .i64 z15, .int .i64 z16, .int .i64 z17])).run Tryz.prog w = .ok true w) :
    Calls Tryz.prog 21 #[] w fun e w' => e = .returned (.bool true) ∧ Ext w w' := by
 have l0 : IntKind.i64.wrap 0 = 0 := rfl
 have l1 : IntKind.i64.wrap 1 = 1 := rfl
 have l2 : IntKind.i64.wrap 2 = 2 := rfl
 have l3 : IntKind.i64.wrap 3 = 3 := rfl
 have n25 : ∀ (a b c d e f : Int) (w : World), (Op.equalIn 10000 28 (.agg #[.int .i64 a, .int .i64 b, .int .i64 c, .int .i64 d, .int .i64 e, .int .i64 f]) (.agg #[.int .i64 a, .int .i64 b, .int .i64 c, .int .i64 d, .int .i64 e, .int .i64 f])).run Tryz.prog w = .ok true w := fun a b c d e f w => eq_vec a b c d e f 9997 w
 have m25 : Tryz.prog.eqGuardType Tryz.prog.depth 28 = false := by kernel_rfl
 have m44 : Tryz.prog.eqGuardType Tryz.prog.depth 35 = false := by kernel_rfl
 have c4n : IntKind.i64.wrap ((IntKind.i64.wrap (-1099511627776)).tdiv 4) = -274877906944 := by kernel_rfl
 have c8n : IntKind.i64.wrap ((IntKind.i64.wrap (-1099511627776)).tdiv 8) = -137438953472 := by kernel_rfl
 have c4p : IntKind.i64.wrap ((1099511627776 : Int).tdiv 4) = 274877906944 := by kernel_rfl
 go_enter Tryz.func21, Tryz.ntmps21
 go_upto_region 3 with (first | (go_at_call 18; (with_reducible refine (p_point _ _).mono ?_); rintro e w1 ⟨rfl, hb⟩; obtain ⟨_, _, ⟨hc, hf⟩, hz⟩ := hb.c3; (try simp only [wsz] at hz hc hf)))
 refine wp_name fun V hV => ?_
 obtain ⟨hVc, hVf, hVz⟩ := hV.cells
 have hVe : Ext w V := Ext.same hV c_44
 (try simp only [wsz] at hVz)
 replace hVz := And.intro (Nat.le_of_eq hVz) (Nat.le_of_eq hVz.symm)
 have h2l : w1.heap.size < V.heap.size := (by omega)
 have hr2 : (V).rangeAt (w1.heap.size) 0 [.int .i64 2199023255552, .int .i64 2199023255552, .int .i64 0, .int .i64 0, .int .i64 0, .int .i64 0] := (by repeat (first | exact range_nil _ _ _ | refine range_cons c_23 ?_))
 clear hVc hVf
 go_cut [3, 4] (fun sx0 sy0 wx => ∃ g : Nat, sx0 = .pointer (some ⟨g, 0, none⟩) ∧ sy0 = .int .i64 0 ∧ Ext V wx ∧ V.heap.size ≤ g ∧ Fresh wx g [.int .i64 (-274877906944), .int .i64 (-274877906944), .int .i64 0, .int .i64 0, .int .i64 0, .int .i64 0])
 case first =>
  refine wp_region_held_drew (S := fun w0 => Ext V w0) c_11 ?_ (fun hH => ?_)
  ·exact (Ext.refl V).drew
  try simp only [sx_]
  refine tk 0 rfl c_5 ?_
  try simp only [sx_]
  refine wpAnyH_take (i := 2) (oi := _) (v := _) rfl c_11 c_11 c_11 (fun _ _ _ h => h) (yieldsIf_load_mid (by rfl) 28 (.tmp 2) rfl (w1.heap.size) 0 rfl [.int .i64 2199023255552, .int .i64 2199023255552, .int .i64 0, .int .i64 0, .int .i64 0, .int .i64 0] (.array 3 26) (fun w0 hSw => Ext.rg hSw h2l hr2) tyU28 rfl tyI28) c_40 ?_
  try simp only [sx_]
  refine wpAnyH_ready (rs := [1, 7]) c_11 (by simp) ?_
  refine AllReadyH.cons (o := _) rfl (fun K hK => ?_) ?_
  ·go_simp
   (go_at_call 18; (with_reducible refine (p_point _ _).mono ?_); rintro e v1 ⟨rfl, hb1⟩; have hz1 := hb1.size; (try simp only [wsd] at hz1))
   refine hK.out _ _ ?_ fun _ => ?_
   ·(try dsimp only); exact hH.trans hb1
   clear hK K hH
   rename_i hH
   try simp only [sx_]
   refine wpAnyH_ready (rs := [3, 7]) c_11 (by simp) ?_
   refine AllReadyH.cons (o := _) rfl (fun K hK => ?_) ?_
   ·go_simp
    (go_at_call 19; (with_reducible refine (hP _).mono ?_); rintro e v3 ⟨rfl, hb3⟩; have hz3 := hb3.size; (try simp only [wsd] at hz3))
    refine hK.out _ _ ?_ fun _ => ?_
    ·exact b_24
    clear hK K hH
    rename_i hH
    try simp only [sx_]
    refine tk 4 rfl c_5 ?_
    try simp only [sx_]
    refine tk 5 rfl c_5 ?_
    try simp only [sx_]
    refine tk 6 rfl c_5 ?_
    try simp only [sx_]
    refine rh1 7 rfl fun K hK => ?_
    go_simp
    refine hK.out _ _ ?_ fun _ => ?_
    ·exact b_25
    clear hK K hH
    rename_i hH
    try simp only [sx_]
    have hFr := fresh28 (v3)
    refine rh1 8 rfl fun K hK => ?_
    rw [if_pos (by rfl)]
    refine wp_store_row 28 (.tmp 3) (.tmp 17) rfl (v3.heap.size) #[.int .i64 (-274877906944), .int .i64 (-274877906944), .int .i64 0, .int .i64 0, .int .i64 0, .int .i64 0] rfl rfl hFr.there tyI28 c_11 (fun Ws hWs => ?_)
    try simp only [sx_]
    have hge : V.heap.size ≤ v3.heap.size := by (try simp only [size_drew]); omega
    exact T_Al1_1
   refine rd1 rfl fun K hK => ?_
   go_simp
   refine hK.out _ _ ?_ fun _ => ?_
   ·exact b_25
   clear hK K hH
   rename_i hH
   try simp only [sx_]
   have hFr := fresh28 (v1)
   refine rh1 3 rfl fun K hK => ?_
   go_simp
   (go_at_call 19; (with_reducible refine (hP _).mono ?_); rintro e v3 ⟨rfl, hb3⟩; have hz3 := hb3.size; (try simp only [wsd] at hz3))
   refine hK.out _ _ ?_ fun _ => ?_
   ·exact b_24
   clear hK K hH
   rename_i hH
   try simp only [sx_]
   replace hFr := hFr.ext hb3
   refine tk 4 rfl c_5 ?_
   try simp only [sx_]
   refine tk 5 rfl c_5 ?_
   try simp only [sx_]
   refine tk 6 rfl c_5 ?_
   try simp only [sx_]
   refine rh1 8 rfl fun K hK => ?_
   rw [if_pos (by rfl)]
   refine wp_store_row 28 (.tmp 3) (.tmp 17) rfl (v1.heap.size) #[.int .i64 (-274877906944), .int .i64 (-274877906944), .int .i64 0, .int .i64 0, .int .i64 0, .int .i64 0] rfl rfl hFr.there tyI28 c_11 (fun Ws hWs => ?_)
   try simp only [sx_]
   have hge : V.heap.size ≤ v1.heap.size := by (try simp only [size_drew]); omega
   exact T_Al1_1
  refine rd1 rfl fun K hK => ?_
  go_simp
  refine hK.out _ _ ?_ fun _ => ?_
  ·exact b_25
  clear hK K hH
  rename_i hH
  try simp only [sx_]
  have hFr := fresh28 (V.drew)
  refine rh1 1 rfl fun K hK => ?_
  go_simp
  (go_at_call 18; (with_reducible refine (p_point _ _).mono ?_); rintro e v1 ⟨rfl, hb1⟩; have hz1 := hb1.size; (try simp only [wsd] at hz1))
  refine hK.out _ _ ?_ fun _ => ?_
  ·(try dsimp only); exact hH.trans hb1
  clear hK K hH
  rename_i hH
  try simp only [sx_]
  replace hFr := hFr.ext hb1
  refine rh1 3 rfl fun K hK => ?_
  go_simp
  (go_at_call 19; (with_reducible refine (hP _).mono ?_); rintro e v3 ⟨rfl, hb3⟩; have hz3 := hb3.size; (try simp only [wsd] at hz3))
  refine hK.out _ _ ?_ fun _ => ?_
  ·exact b_24
  clear hK K hH
  rename_i hH
  try simp only [sx_]
  replace hFr := hFr.ext hb3
  refine tk 4 rfl c_5 ?_
  try simp only [sx_]
  refine tk 5 rfl c_5 ?_
  try simp only [sx_]
  refine tk 6 rfl c_5 ?_
  try simp only [sx_]
  refine rh1 8 rfl fun K hK => ?_
  rw [if_pos (by rfl)]
  refine wp_store_row 28 (.tmp 3) (.tmp 17) rfl (V.drew.heap.size) #[.int .i64 (-274877906944), .int .i64 (-274877906944), .int .i64 0, .int .i64 0, .int .i64 0, .int .i64 0] rfl rfl hFr.there tyI28 c_11 (fun Ws hWs => ?_)
  try simp only [sx_]
  have hge : V.heap.size ≤ V.drew.heap.size := by (try simp only [size_drew]); omega
  exact T_Al1_1
 obtain ⟨g, rfl, rfl, hx, hvg, hfrg⟩ := hcut
 have hVe := hVe.trans hx
 have h2c : w1.heap.size < wc.heap.size := Nat.lt_of_lt_of_le h2l hx.size
 have hr2c := Ext.rg hx h2l hr2
 go_upto_region 4 with fail
 refine wp_name fun V hV => ?_
 obtain ⟨hVc, hVf, hVz⟩ := hV.cells
 have hVe2 : Ext wc V := Ext.same hV (Ext.refl _)
 replace hVe := hVe.trans hVe2
 have h2l : w1.heap.size < V.heap.size := Nat.lt_of_lt_of_le h2c hVe2.size
 have hr2 := Ext.rg hVe2 h2c hr2c
 have hfrg := hfrg.ext hVe2
 clear hVc hVf hVz
 go_cut [5, 6] (fun sx0 sy0 wx => ∃ g : Nat, sx0 = .pointer (some ⟨g, 0, none⟩) ∧ sy0 = .int .i64 0 ∧ Ext V wx ∧ V.heap.size ≤ g ∧ Fresh wx g [.int .i64 274877906944, .int .i64 274877906944, .int .i64 0, .int .i64 0, .int .i64 0, .int .i64 0, .int .i64 0, .int .i64 0, .int .i64 (-137438953472), .int .i64 (-137438953472), .int .i64 0, .int .i64 0, .int .i64 0, .int .i64 0, .int .i64 0, .int .i64 0, .int .i64 (-137438953472), .int .i64 (-137438953472)])
 case first =>
  refine wp_region_held_drew (S := fun w0 => Ext V w0) c_11 ?_ (fun hH => ?_)
  ·exact (Ext.refl V).drew
  try simp only [sx_]
  refine tk 0 rfl c_5 ?_
  try simp only [sx_]
  refine wpAnyH_take (i := 2) (oi := _) (v := _) rfl c_11 c_11 c_11 (fun _ _ _ h => h) (yieldsIf_load_mid (by rfl) 28 (.tmp 2) rfl (w1.heap.size) 0 rfl [.int .i64 2199023255552, .int .i64 2199023255552, .int .i64 0, .int .i64 0, .int .i64 0, .int .i64 0] (.array 3 26) (fun w0 hSw => Ext.rg hSw h2l hr2) tyU28 rfl tyI28) c_40 ?_
  try simp only [sx_]
  refine wpAnyH_ready (rs := [1, 7]) c_11 (by simp) ?_
  refine AllReadyH.cons (o := _) rfl (fun K hK => ?_) ?_
  ·go_simp
   (go_at_call 18; (with_reducible refine (p_point _ _).mono ?_); rintro e v1 ⟨rfl, hb1⟩; have hz1 := hb1.size; (try simp only [wsd] at hz1))
   refine hK.out _ _ ?_ fun _ => ?_
   ·(try dsimp only); exact hH.trans hb1
   clear hK K hH
   rename_i hH
   try simp only [sx_]
   refine wpAnyH_ready (rs := [3, 7]) c_11 (by simp) ?_
   refine AllReadyH.cons (o := _) rfl (fun K hK => ?_) ?_
   ·go_simp
    (go_at_call 20; (with_reducible refine (hT _).mono ?_); rintro e v3 ⟨rfl, hb3⟩; have hz3 := hb3.size; (try simp only [wsd] at hz3))
    refine hK.out _ _ ?_ fun _ => ?_
    ·exact b_24
    clear hK K hH
    rename_i hH
    try simp only [sx_]
    refine tk 4 rfl c_5 ?_
    try simp only [sx_]
    refine tk 5 rfl c_5 ?_
    try simp only [sx_]
    refine tk 6 rfl c_5 ?_
    try simp only [sx_]
    refine rh1 7 rfl fun K hK => ?_
    go_simp
    refine hK.out _ _ ?_ fun _ => ?_
    ·exact b_25
    clear hK K hH
    rename_i hH
    try simp only [sx_]
    have hFr := fresh35 (v3)
    refine rh1 8 rfl fun K hK => ?_
    rw [if_pos (by rfl)]
    refine wp_store_row 35 (.tmp 5) (.tmp 24) rfl (v3.heap.size) #[.int .i64 274877906944, .int .i64 274877906944, .int .i64 0, .int .i64 0, .int .i64 0, .int .i64 0, .int .i64 0, .int .i64 0, .int .i64 (-137438953472), .int .i64 (-137438953472), .int .i64 0, .int .i64 0, .int .i64 0, .int .i64 0, .int .i64 0, .int .i64 0, .int .i64 (-137438953472), .int .i64 (-137438953472)] rfl rfl hFr.there tyI35 c_11 (fun Ws hWs => ?_)
    try simp only [sx_]
    have hge : V.heap.size ≤ v3.heap.size := by (try simp only [size_drew]); omega
    exact T_Al1_1
   refine rd1 rfl fun K hK => ?_
   go_simp
   refine hK.out _ _ ?_ fun _ => ?_
   ·exact b_25
   clear hK K hH
   rename_i hH
   try simp only [sx_]
   have hFr := fresh35 (v1)
   refine rh1 3 rfl fun K hK => ?_
   go_simp
   (go_at_call 20; (with_reducible refine (hT _).mono ?_); rintro e v3 ⟨rfl, hb3⟩; have hz3 := hb3.size; (try simp only [wsd] at hz3))
   refine hK.out _ _ ?_ fun _ => ?_
   ·exact b_24
   clear hK K hH
   rename_i hH
   try simp only [sx_]
   replace hFr := hFr.ext hb3
   refine tk 4 rfl c_5 ?_
   try simp only [sx_]
   refine tk 5 rfl c_5 ?_
   try simp only [sx_]
   refine tk 6 rfl c_5 ?_
   try simp only [sx_]
   refine rh1 8 rfl fun K hK => ?_
   rw [if_pos (by rfl)]
   refine wp_store_row 35 (.tmp 5) (.tmp 24) rfl (v1.heap.size) #[.int .i64 274877906944, .int .i64 274877906944, .int .i64 0, .int .i64 0, .int .i64 0, .int .i64 0, .int .i64 0, .int .i64 0, .int .i64 (-137438953472), .int .i64 (-137438953472), .int .i64 0, .int .i64 0, .int .i64 0, .int .i64 0, .int .i64 0, .int .i64 0, .int .i64 (-137438953472), .int .i64 (-137438953472)] rfl rfl hFr.there tyI35 c_11 (fun Ws hWs => ?_)
   try simp only [sx_]
   have hge : V.heap.size ≤ v1.heap.size := by (try simp only [size_drew]); omega
   exact T_Al1_1
  refine rd1 rfl fun K hK => ?_
  go_simp
  refine hK.out _ _ ?_ fun _ => ?_
  ·exact b_25
  clear hK K hH
  rename_i hH
  try simp only [sx_]
  have hFr := fresh35 (V.drew)
  refine rh1 1 rfl fun K hK => ?_
  go_simp
  (go_at_call 18; (with_reducible refine (p_point _ _).mono ?_); rintro e v1 ⟨rfl, hb1⟩; have hz1 := hb1.size; (try simp only [wsd] at hz1))
  refine hK.out _ _ ?_ fun _ => ?_
  ·(try dsimp only); exact hH.trans hb1
  clear hK K hH
  rename_i hH
  try simp only [sx_]
  replace hFr := hFr.ext hb1
  refine rh1 3 rfl fun K hK => ?_
  go_simp
  (go_at_call 20; (with_reducible refine (hT _).mono ?_); rintro e v3 ⟨rfl, hb3⟩; have hz3 := hb3.size; (try simp only [wsd] at hz3))
  refine hK.out _ _ ?_ fun _ => ?_
  ·exact b_24
  clear hK K hH
  rename_i hH
  try simp only [sx_]
  replace hFr := hFr.ext hb3
  refine tk 4 rfl c_5 ?_
  try simp only [sx_]
  refine tk 5 rfl c_5 ?_
  try simp only [sx_]
  refine tk 6 rfl c_5 ?_
  try simp only [sx_]
  refine rh1 8 rfl fun K hK => ?_
  rw [if_pos (by rfl)]
  refine wp_store_row 35 (.tmp 5) (.tmp 24) rfl (V.drew.heap.size) #[.int .i64 274877906944, .int .i64 274877906944, .int .i64 0, .int .i64 0, .int .i64 0, .int .i64 0, .int .i64 0, .int .i64 0, .int .i64 (-137438953472), .int .i64 (-137438953472), .int .i64 0, .int .i64 0, .int .i64 0, .int .i64 0, .int .i64 0, .int .i64 0, .int .i64 (-137438953472), .int .i64 (-137438953472)] rfl rfl hFr.there tyI35 c_11 (fun Ws hWs => ?_)
  try simp only [sx_]
  have hge : V.heap.size ≤ V.drew.heap.size := by (try simp only [size_drew]); omega
  exact T_Al1_1
 obtain ⟨g5, rfl, rfl, hx, hvg5, hfrg5⟩ := hcut
 have hVe := hVe.trans hx
 have h2c : w1.heap.size < wc.heap.size := Nat.lt_of_lt_of_le h2l hx.size
 have hr2c := Ext.rg hx h2l hr2
 have hfrg := hfrg.ext hx
 have hb4 := hfrg.2.2
 have hb5 := hfrg5.2.2
 go_upto_region 6 with (first | (go_at_call 18; (with_reducible refine (p_point _ _).mono ?_); rintro e w5 ⟨rfl, hb5⟩; obtain ⟨_, _, ⟨hc5, hf5⟩, hz5⟩ := hb5.c3; (try simp only [wsz] at hz5 hc5 hf5); have hFr7 := fresh35 w5; have hFt7 := hFr7.there) | ((with_reducible show wpList _ _ _ _ _ _); refine store_row rfl 35 (.tmp 7) (.tmp 43) rfl (w5.heap.size) #[.int .i64 274877906944, .int .i64 274877906944, .int .i64 0, .int .i64 0, .int .i64 0, .int .i64 0, .int .i64 0, .int .i64 0, .int .i64 (-137438953472), .int .i64 (-137438953472), .int .i64 0, .int .i64 0, .int .i64 0, .int .i64 0, .int .i64 0, .int .i64 0, .int .i64 (-137438953472), .int .i64 (-137438953472)] rfl rfl hFt7 tyI35 c_11 (fun R7 hR7 => ?_); have hR7r := hR7.range; obtain ⟨hR7c, hR7f, hR7z⟩ := hR7.cells; (try simp only [World.size_alloc, World.size_setCell, size_drew] at hR7z)))
 have hE7 : Ext wc R7 := hR7.ext c_44 (by omega)
 have hF7 := hFr7.row hR7
 replace hfrg := hfrg.ext hE7
 replace hfrg5 := hfrg5.ext hE7
 clear hFr7 hFt7 hR7 hR7r hR7c hR7f
 refine wp_region_held_drew (S := fun w0 => Ext R7 w0) c_11 ?_ (fun hH => ?_)
 ·exact (Ext.refl R7).drew
 try simp only [sx_]
 refine tk 0 rfl c_5 ?_
 try simp only [sx_]
 refine tk 1 rfl c_5 ?_
 try simp only [sx_]
 refine tk 2 rfl c_5 ?_
 try simp only [sx_]
 refine wpAnyH_take (i := 3) (oi := _) (v := _) rfl c_11 c_11 c_11 (fun _ _ _ h => h) (yieldsIf_load_mid (by rfl) 28 (.tmp 3) rfl (g) 0 rfl [.int .i64 (-274877906944), .int .i64 (-274877906944), .int .i64 0, .int .i64 0, .int .i64 0, .int .i64 0] (.array 3 26) (fun w0 hSw => Ext.rg hSw hfrg.2.2 hfrg.1) tyU28 rfl tyI28) c_40 ?_
 try simp only [sx_]
 refine tk 4 rfl c_5 ?_
 try simp only [sx_]
 refine tk 5 rfl c_5 ?_
 try simp only [sx_]
 refine tk 6 rfl c_5 ?_
 try simp only [sx_]
 refine rh1 7 rfl fun K hK => ?_
 go_simp
 (go_at_call 18; (with_reducible refine (p_point _ _).mono ?_); rintro e v7 ⟨rfl, hb7⟩; have hz7 := hb7.size; (try simp only [wsd] at hz7))
 refine hK.out _ _ ?_ fun _ => ?_
 ·(try dsimp only); exact hH.trans hb7
 clear hK K hH
 rename_i hH
 try simp only [sx_]
 refine tk 8 rfl c_5 ?_
 try simp only [sx_]
 refine tk 9 rfl c_5 ?_
 try simp only [sx_]
 refine tk 10 rfl c_5 ?_
 try simp only [sx_]
 refine tk 11 rfl c_5 ?_
 try simp only [sx_]
 refine tk 12 rfl c_5 ?_
 try simp only [sx_]
 refine tk 13 rfl c_5 ?_
 try simp only [sx_]
 refine tk 14 rfl c_5 ?_
 try simp only [sx_]
 refine tk 15 rfl c_5 ?_
 try simp only [sx_]
 refine wpAnyH_take (i := 16) (oi := _) (v := _) rfl c_11 c_11 c_11 (fun _ _ _ h => h) (yieldsIf_load_mid (by rfl) 35 (.tmp 5) rfl (g5) 0 rfl [.int .i64 274877906944, .int .i64 274877906944, .int .i64 0, .int .i64 0, .int .i64 0, .int .i64 0, .int .i64 0, .int .i64 0, .int .i64 (-137438953472), .int .i64 (-137438953472), .int .i64 0, .int .i64 0, .int .i64 0, .int .i64 0, .int .i64 0, .int .i64 0, .int .i64 (-137438953472), .int .i64 (-137438953472)] (.array 3 27) (fun w0 hSw => Ext.rg hSw hfrg5.2.2 hfrg5.1) tyU35 rfl tyI35) c_40 ?_
 try simp only [sx_]
 refine wpAnyH_take (i := 17) (oi := _) (v := _) rfl c_11 c_11 c_11 (fun _ _ _ h => h) (yieldsIf_load_mid (by rfl) 35 (.tmp 7) rfl (w5.heap.size) 0 rfl [.int .i64 274877906944, .int .i64 274877906944, .int .i64 0, .int .i64 0, .int .i64 0, .int .i64 0, .int .i64 0, .int .i64 0, .int .i64 (-137438953472), .int .i64 (-137438953472), .int .i64 0, .int .i64 0, .int .i64 0, .int .i64 0, .int .i64 0, .int .i64 0, .int .i64 (-137438953472), .int .i64 (-137438953472)] (.array 3 27) (fun w0 hSw => Ext.rg hSw hF7.2.2 hF7.1) tyU35 rfl tyI35) c_40 ?_
 try simp only [sx_]
 refine tk 18 rfl c_5 ?_
 try simp only [sx_]
 refine tk 19 rfl c_5 ?_
 try simp only [sx_]
 refine tk 20 rfl c_5 ?_
 try simp only [sx_]
 refine wpAnyH_done c_11 ?_ _
 go_wp2_with fail
 go_ret
 exact ⟨rfl, hVe.trans (hE7.trans hH)⟩
def rtG (N : Nat) : Nat → Nat → Nat
 | 0, r => r
 | k + 1, r => if (r + 2 ^ k) * (r + 2 ^ k) ≤ N then rtG N k (r + 2 ^ k) else rtG N k r
theorem rtG_is (N : Nat) : ∀ (k r : Nat), r * r ≤ N → N < (r + 2 ^ k) * (r + 2 ^ k) → rtG N k r * rtG N k r ≤ N ∧ N < (rtG N k r + 1) * (rtG N k r + 1)
 | 0, r, h1, h2 => ⟨h1, by simpa [rtG] using h2⟩
 | k + 1, r, h1, h2 => by
  unfold rtG
  split
  ·rename_i h
   refine rtG_is N k _ h ?_
   rw [Nat.add_assoc, ← Nat.two_mul, ← Nat.pow_succ']
   exact h2
  ·rename_i h
   exact rtG_is N k r h1 (by omega)
def rootC (x : Int) : Int := (rtG (x.toNat * 1099511627776) 52 0 : Nat)
theorem rootC_eq {x : Int} (h0 : 0 ≤ x) (h1 : x ≤ 2305843009213693952) : rootI x = rootC x := by
 obtain ⟨n, rfl⟩ := Int.eq_ofNat_of_zero_le h0
 have hn : n ≤ 2305843009213693952 := by omega
 have h := rtG_is (n * 1099511627776) 52 0 (Nat.zero_le _) (by
  have : n * 1099511627776 ≤ 2305843009213693952 * 1099511627776 := Nat.mul_le_mul_right _ hn
  refine Nat.lt_of_le_of_lt this (by decide))
 refine (IsRoot.eq ?_).symm
 unfold rootC
 rw [Int.toNat_natCast]
 generalize rtG (n * 1099511627776) 52 0 = r at *
 refine ⟨by omega, ?_, ?_⟩
 ·have := Int.ofNat_le.2 h.1; simpa using this
 ·have := Int.ofNat_lt.2 h.2; simpa using this
def sqrtC (a b : Int) : R3 := if ckI a b ≠ 0 then ⟨0, 0, ckI a b⟩ else if a < 0 then ⟨0, 0, 2⟩ else ⟨rootC a, if rootC b * rootC b = b * 1099511627776 then rootC b else rootC b + 1, 0⟩
theorem sqrtI_c : sqrtI = sqrtC := by
 funext a b
 unfold sqrtI sqrtC
 split
 ·rfl
 ·rename_i h
  split
  ·rfl
  ·rename_i h2
   obtain ⟨k1, k2, k3⟩ := ckI_ok (Classical.not_not.1 h)
   rw [rootC_eq (by omega) (by omega), rootC_eq (by omega) (by omega)]
def sz1C (q : R3) : R3 := doI q.e (sqrtC q.lo q.hi)
def sz2C (q : R3) : R3 := doI (sz1C q).e (mulI q.lo q.hi (sz1C q).lo (sz1C q).hi)
theorem sz2_c (q : R3) : sz2 q = sz2C q := by unfold sz2 sz1; rw [sqrtI_c]; rfl
def plRC (E x y : Int) (d : V3) : V7 := ⟨plV (sz2C (doI E (nrmV d))) x y d, (pl2 (sz2C (doI E (nrmV d))) x y d).e⟩
theorem plR_c : plR = plRC := by
 funext E x y d
 unfold plR
 rw [sz2_c]
 rfl
def aD : V3 := ⟨2199023255552, 2199023255552, 0, 0, 0, 0⟩
def tiRC (E x y : Int) (d : V3) : M10 := ⟨tiV (tnI (sz2C (doI E (nrmV d))) x y) (tmI (doI E (nrmV d)) (tnI (sz2C (doI E (nrmV d))) x y)) d, (pz3 (tnI (sz2C (doI E (nrmV d))) x y) (tmI (doI E (nrmV d)) (tnI (sz2C (doI E (nrmV d))) x y)) d).e⟩
theorem tiR_c : tiR = tiRC := by
 funext E x y d
 unfold tiR tiM tiN tiC
 rw [sz2_c]
 rfl
theorem aPull : plR 0 1099511627776 1099511627776 aD = ⟨⟨-274877906944, -274877906944, 0, 0, 0, 0⟩, 0⟩ := by rw [plR_c]; kernel_rfl
theorem aTide : tiR 0 1099511627776 1099511627776 aD = ⟨⟨⟨274877906944, 274877906944, 0, 0, 0, 0⟩, ⟨0, 0, -137438953472, -137438953472, 0, 0⟩, ⟨0, 0, 0, 0, -137438953472, -137438953472⟩⟩, 0⟩ := by rw [tiR_c]; kernel_rfl
theorem size27 : Tryz.prog.cellsOf 27 = 6 := by kernel_rfl
theorem eq_row27 (a b c d e f : Int) (n : Nat) (w : World) : (Op.equalIn (n + 1 + 1 + 1) 27 (.agg #[.int .i64 a, .int .i64 b, .int .i64 c, .int .i64 d, .int .i64 e, .int .i64 f]) (.agg #[.int .i64 a, .int .i64 b, .int .i64 c, .int .i64 d, .int .i64 e, .int .i64 f])).run Tryz.prog w = .ok true w := by
 obtain ⟨i, hi⟩ : ∃ i, Tryz.prog.info? 26 = some i := Option.isSome_iff_exists.1 c_11
 rw [run_equalIn_array w (n + 1 + 1) _ _ Tryz.underlying27 hi, size23]
 have r3 : List.range 3 = [0, 1, 2] := rfl
 rw [r3]
 simp [Op.eqItems, go_sem, eq_iv]
theorem eq_mat35 (z0 z1 z2 z3 z4 z5 z6 z7 z8 z9 z10 z11 z12 z13 z14 z15 z16 z17 : Int) (n : Nat) (w : World) : (Op.equalIn (n + 1 + 1 + 1 + 1) 35 (.agg #[.int .i64 z0, .int .i64 z1, .int .i64 z2, .int .i64 z3, .int .i64 z4, .int .i64 z5, .int .i64 z6, .int .i64 z7, .int .i64 z8, .int .i64 z9, .int .i64 z10, .int .i64 z11, .int .i64 z12, .int .i64 z13, .int .i64 z14, .int .i64 z15, .int .i64 z16, .int .i64 z17]) (.agg #[.int .i64 z0, .int .i64 z1, .int .i64 z2, .int .i64 z3, .int .i64 z4, .int .i64 z5, .int .i64 z6, .int .i64 z7, .int .i64 z8, .int .i64 z9, .int .i64 z10, .int .i64 z11, .int .i64 z12, .int .i64 z13, .int .i64 z14, .int .i64 z15, .int .i64 z16, .int .i64 z17])).run Tryz.prog w = .ok true w := by
 obtain ⟨i, hi⟩ : ∃ i, Tryz.prog.info? 27 = some i := Option.isSome_iff_exists.1 c_11
 rw [run_equalIn_array w (n + 1 + 1 + 1) _ _ Tryz.underlying35 hi, size27]
 have r3 : List.range 3 = [0, 1, 2] := rfl
 rw [r3]
 simp [Op.eqItems, go_sem, eq_row27]
theorem aD_I : aD.I := ⟨⟨by unfold I64 aD; dsimp only; omega, by unfold I64 aD; dsimp only; omega⟩, ⟨by unfold I64 aD; dsimp only; omega, by unfold I64 aD; dsimp only; omega⟩, ⟨by unfold I64 aD; dsimp only; omega, by unfold I64 aD; dsimp only; omega⟩⟩
theorem one_I : I64 1099511627776 ∧ I64 1099511627776 := ⟨by unfold I64; omega, by unfold I64; omega⟩
theorem g_alive (w : World) : Calls Tryz.prog 21 #[] w fun e w' => e = .returned (.bool true) ∧ Ext w w' :=
 alive_walk w (fun w1 => f_Pull0 1099511627776 1099511627776 aD ⟨-274877906944, -274877906944, 0, 0, 0, 0⟩ w1 one_I aD_I (by decide) (by decide) aPull)
  (fun w1 => f_Tide0 1099511627776 1099511627776 aD ⟨⟨274877906944, 274877906944, 0, 0, 0, 0⟩, ⟨0, 0, -137438953472, -137438953472, 0, 0⟩, ⟨0, 0, 0, 0, -137438953472, -137438953472⟩⟩ w1 one_I aD_I (by decide) (by decide) aTide)
  (fun z0 z1 z2 z3 z4 z5 z6 z7 z8 z9 z10 z11 z12 z13 z14 z15 z16 z17 w => eq_mat35 z0 z1 z2 z3 z4 z5 z6 z7 z8 z9 z10 z11 z12 z13 z14 z15 z16 z17 9996 w)
end Go.Proofs.YtbkgakgdbmjmjaaGreat
namespace Go.Proofs.YtbkgakgdbmjmjaaGreat
open Go.ChangeShapes Go.WideShapes Go.ChangeAt Go.RowKit
theorem T_OPE_3 {p : Prop} (h : p := by
 subst e
 exact ⟨[], some a, 0, 0, cap, rfl, fun e => absurd e (by simp), Nat.zero_le _, hm2, fun e => absurd e (by simp), fun i hi => absurd hi (by simp)⟩) : p := h
theorem T_OPE_2 {p : Prop} (h : p := by
 have hi' := hel i hi
 rw [List.getElem?_eq_getElem (by omega), Option.bind_eq_some_iff] at hi'
 obtain ⟨cs, h1, h2⟩ := hi'
 exact ⟨cs, _, h1, h2⟩) : p := h
theorem T_OPE_1 {p : Prop} (h : p := by
 simp at hcs
 subst hcs
 exact ⟨[], none, 0, 0, 0, rfl, fun e => absurd e (by simp), Nat.le_refl _, by omega, fun e => absurd e (by simp), fun i hi => absurd hi (by simp)⟩) : p := h
theorem cells44 : Tryz.prog.cellsOf 44 = 1 := by kernel_rfl
theorem cells45 : Tryz.prog.cellsOf 45 = 3 := by kernel_rfl
theorem cells47 : Tryz.prog.cellsOf 47 = 5 := by kernel_rfl
theorem cells48 : Tryz.prog.cellsOf 48 = 1 := by kernel_rfl
theorem cells50 : Tryz.prog.cellsOf 50 = 4 := by kernel_rfl
theorem cells22 : Tryz.prog.cellsOf 22 = 1 := by kernel_rfl
theorem cells24 : Tryz.prog.cellsOf 24 = 1 := by kernel_rfl
theorem cells2 : Tryz.prog.cellsOf 2 = 1 := by kernel_rfl
theorem cells9 : Tryz.prog.cellsOf 9 = 1 := by kernel_rfl
theorem list_ex {α : Type} (d : α) (P : Nat → α → Prop) : ∀ n, (∀ i, i < n → ∃ x, P i x) → ∃ l : List α, l.length = n ∧ ∀ i, i < n → P i (l.getD i d)
 | 0, _ => ⟨[], rfl, fun i h => absurd h (by omega)⟩
 | n + 1, h => by
  obtain ⟨l, hl, hp⟩ := list_ex d P n (fun i hi => h i (by omega))
  obtain ⟨x, hx⟩ := h n (by omega)
  refine ⟨l ++ [x], by simp [hl], fun i hi => ?_⟩
  rcases Nat.lt_or_ge i n with q | q
  ·rw [List.getD_eq_getElem?_getD, List.getElem?_append_left (by omega), ← List.getD_eq_getElem?_getD]; exact hp i q
  ·have : i = n := by omega
   subst this
   rw [List.getD_eq_getElem?_getD, List.getElem?_append_right (by omega), hl]
   simpa using hx
theorem len3 {α : Type} {l : List α} (h : l.length = 3) : ∃ a b c, l = [a, b, c] := by
 match l, h with
 | [a, b, c], _ => exact ⟨a, b, c, rfl⟩
theorem len4 {α : Type} {l : List α} (h : l.length = 4) : ∃ a b c d, l = [a, b, c, d] := by
 match l, h with
 | [a, b, c, d], _ => exact ⟨a, b, c, d, rfl⟩
theorem len5 {α : Type} {l : List α} (h : l.length = 5) : ∃ a b c d e, l = [a, b, c, d, e] := by
 match l, h with
 | [a, b, c, d, e], _ => exact ⟨a, b, c, d, e, rfl⟩
theorem wf_i64_in {n : Int} (h : (Lit.int .i64 n).wf = true) : I64 n := by
 have e1 : IntKind.i64.min = -9223372036854775808 := by decide
 have e2 : IntKind.i64.max = 9223372036854775807 := by decide
 simp only [Lit.wf, e1, e2, Bool.and_eq_true, decide_eq_true_eq] at h
 unfold I64
 omega
theorem take_getDz (zs : List Int) {len i : Nat} (h : i < len) : (zs.take len).getD i 0 = zs.getD i 0 := by
 rw [List.getD_eq_getElem?_getD, List.getD_eq_getElem?_getD, List.getElem?_take_of_lt h]
section
variable {H : Type} {enc : TypeId × Value → H} {W : World} {base : Nat} {spare : Nat → Bool} {held : Bool}
theorem cells_at {a : Addr} {n : Nat} {cs : List Value} (h : W.cells? base a n = some cs) (hn : 0 < n) : ∃ b o, a = ⟨b, o, none⟩ ∧ b < W.heap.size ∧ ∀ j, j < n → W.cell? ⟨b, o + j, none⟩ = cs[j]? := by
 obtain ⟨_, hl, hc⟩ := World.cells?_some h
 obtain ⟨b, o, spot⟩ := a
 have h0 := hc 0 hn
 have e0 : cs[0]? = some cs[0] := List.getElem?_eq_getElem (by omega)
 rw [e0] at h0
 have hspot : spot = none := by simpa [Addr.add] using World.cell?_spot h0
 subst hspot
 refine ⟨b, o, rfl, ?_, fun j hj => by rw [← Go.WideShapes.add_plain]; exact hc j hj⟩
 have := World.block_lt_of_cell? W _ h0
 simpa [Addr.add] using this
theorem ox_xs {fuel : Nat} {v : Value} {x : DataW H × List MemPlace} (h : DataW.trod enc Tryz.prog W base spare held fuel 44 [v] = some x) : ∃ l, Xs W v l := by
 rcases open_ints Tryz.underlying44 Tryz.underlying2 cells2 h with ⟨hcs, hx⟩ | ⟨a, len, cap, zs, hcs, _, hl, hm, hz, hx, hcell, hwz⟩
 ·simp at hcs
  subst hcs
  exact ⟨[], none, 0, 0, 0, rfl, fun e => absurd e (by simp), Nat.le_refl _, by omega, fun e => absurd e (by simp), fun i hi => absurd hi (by simp), fun i hi => absurd hi (by simp)⟩
 ·simp at hcs
  subst hcs
  have hm2 : cap ≤ 9223372036854775807 := by unfold maxLen at hm; omega
  have hzl : len ≤ zs.length := by rw [hz]; split <;> omega
  have hlen : (zs.take len).length = len := by rw [List.length_take]; omega
  rcases Nat.eq_zero_or_pos len with e | e
  ·subst e
   exact ⟨[], some a, 0, 0, cap, rfl, fun e => absurd e (by simp), Nat.zero_le _, hm2, fun e => absurd e (by simp), fun i hi => absurd hi (by simp), fun i hi => absurd hi (by simp)⟩
  ·obtain ⟨b, off, rfl, hc⟩ := ints_at hcell (by omega)
   refine ⟨zs.take len, some ⟨b, off, none⟩, b, off, cap, by rw [hlen], fun _ => rfl, by rw [hlen]; exact hl, hm2, fun _ => ?_, fun i hi => ?_, fun i hi => ?_⟩
   ·exact World.block_lt_of_cell? W _ (hc 0 (by omega))
   ·rw [hlen] at hi
    rw [take_getDz zs hi]; exact hc i (by omega)
   ·rw [hlen] at hi
    rw [take_getDz zs hi]
    have hi2 : i < zs.length := by omega
    rw [List.getD_eq_getElem?_getD, List.getElem?_eq_getElem hi2]
    exact wf_i64_in (hwz _ (List.getElem_mem hi2))
theorem ox_seg {fuel : Nat} {cs : List Value} {x : DataW H × List MemPlace} (h : DataW.trod enc Tryz.prog W base spare held fuel 47 cs = some x) :
    ∃ (s : SegD) (v0 v1 v2 : Value), cs = [.int .i64 s.fr, .int .i64 s.ti, v0, v1, v2] ∧ I64 s.fr ∧ I64 s.ti ∧ Xs W v0 s.c0 ∧ Xs W v1 s.c1 ∧ Xs W v2 s.c2 := by
 obtain ⟨xs, n, rfl, rfl, hlen, hxs, hf⟩ := DataW.trod_struct Tryz.underlying47 h
 rw [cells47] at hlen
 obtain ⟨c0, c1, c2, c3, c4, rfl⟩ := len5 hlen
 obtain ⟨y0, y1, y2, rfl⟩ := len3 hxs
 have h0 : DataW.trod enc Tryz.prog W base spare held n 2 (List.take (Tryz.prog.cellsOf 2) (List.drop 0 [c0, c1, c2, c3, c4])) = some y0 := hf 0 _ rfl
 have h1 : DataW.trod enc Tryz.prog W base spare held n 2 (List.take (Tryz.prog.cellsOf 2) (List.drop 1 [c0, c1, c2, c3, c4])) = some y1 := hf 1 _ rfl
 have h2 : DataW.trod enc Tryz.prog W base spare held n 45 (List.take (Tryz.prog.cellsOf 45) (List.drop 2 [c0, c1, c2, c3, c4])) = some y2 := hf 2 _ rfl
 rw [cells2] at h0 h1
 rw [cells45] at h2
 obtain ⟨a0, e0, -, w0⟩ := DataW.trod_int Tryz.underlying2 h0
 obtain ⟨a1, e1, -, w1⟩ := DataW.trod_int Tryz.underlying2 h1
 simp at e0 e1
 subst e0 e1
 obtain ⟨zs, m, rfl, hz, hzl, hzn, hzf⟩ := DataW.trod_array Tryz.underlying45 h2
 obtain ⟨z0, z1, z2, rfl⟩ := len3 hzn
 have k0 := hzf 0 (by decide)
 have k1 := hzf 1 (by decide)
 have k2 := hzf 2 (by decide)
 rw [cells44] at k0 k1 k2
 obtain ⟨l0, q0⟩ := ox_xs (by simpa using k0)
 obtain ⟨l1, q1⟩ := ox_xs (by simpa using k1)
 obtain ⟨l2, q2⟩ := ox_xs (by simpa using k2)
 exact ⟨⟨a0, a1, l0, l1, l2⟩, c2, c3, c4, rfl, wf_i64_in w0, wf_i64_in w1, q0, q1, q2⟩
theorem ox_segs {fuel : Nat} {v : Value} {x : DataW H × List MemPlace} (h : DataW.trod enc Tryz.prog W base spare held fuel 48 [v] = some x) : ∃ l, Sgs W v l := by
 rcases DataW.trod_slice Tryz.underlying48 h with ⟨hcs, hx⟩ | ⟨a, len, cap, elems, rest, n, _, hcs, rfl, hb, hl, hm, hlen, hel, -, -⟩
 ·exact T_OPE_1
 ·simp at hcs
  subst hcs
  have hm2 : cap ≤ 9223372036854775807 := by unfold maxLen at hm; omega
  rcases Nat.eq_zero_or_pos len with e | e
  ·exact T_OPE_3
  ·rw [cells47] at hel
   have each : ∀ i, i < len → ∃ cs y, W.cells? base (a.add (i * 5)) 5 = some cs ∧ DataW.trod enc Tryz.prog W base spare held n 47 cs = some y := fun i hi => by
    exact T_OPE_2
   obtain ⟨cs0, y0, hc0, -⟩ := each 0 e
   obtain ⟨b, o, ha, hbs, -⟩ := cells_at hc0 (by decide)
   have ha' : a = ⟨b, o, none⟩ := by
    obtain ⟨ab, ao, asp⟩ := a
    simpa [Addr.add] using ha
   subst ha'
   obtain ⟨l, hll, hp⟩ := list_ex seg0 (fun i s => ∃ v0 v1 v2, (W.cell? ⟨b, o + i * 5, none⟩ = some (.int .i64 s.fr) ∧ W.cell? ⟨b, o + i * 5 + 1, none⟩ = some (.int .i64 s.ti) ∧ W.cell? ⟨b, o + i * 5 + 2, none⟩ = some v0 ∧ W.cell? ⟨b, o + i * 5 + 3, none⟩ = some v1 ∧ W.cell? ⟨b, o + i * 5 + 4, none⟩ = some v2) ∧ I64 s.fr ∧ I64 s.ti ∧ Xs W v0 s.c0 ∧ Xs W v1 s.c1 ∧ Xs W v2 s.c2) len (fun i hi => by
    obtain ⟨cs, y, h1, h2⟩ := each i hi
    obtain ⟨s, v0, v1, v2, rfl, f⟩ := ox_seg h2
    obtain ⟨b', o', e', -, hc⟩ := cells_at h1 (by decide)
    rw [Go.WideShapes.add_plain] at e'
    cases e'
    exact ⟨s, v0, v1, v2, ⟨hc 0 (by decide), hc 1 (by decide), hc 2 (by decide), hc 3 (by decide), hc 4 (by decide)⟩, f⟩)
   subst hll
   exact ⟨l, some ⟨b, o, none⟩, b, o, cap, rfl, fun _ => rfl, hl, hm2, fun _ => hbs, hp⟩
theorem ox_body {fuel : Nat} {cs : List Value} {x : DataW H × List MemPlace} (h : DataW.trod enc Tryz.prog W base spare held fuel 50 cs = some x) :
    ∃ (d : BodyD) (vs : Value), cs = [.string d.name, .int .i64 d.gm, .int .i64 d.rad, vs] ∧ d.name.size ≤ 9223372036854775807 ∧ I64 d.gm ∧ I64 d.rad ∧ Sgs W vs d.segs := by
 obtain ⟨xs, n, rfl, rfl, hlen, hxs, hf⟩ := DataW.trod_struct Tryz.underlying50 h
 rw [cells50] at hlen
 obtain ⟨c0, c1, c2, c3, rfl⟩ := len4 hlen
 obtain ⟨y0, y1, y2, y3, rfl⟩ := len4 hxs
 have h0 : DataW.trod enc Tryz.prog W base spare held n 9 (List.take (Tryz.prog.cellsOf 9) (List.drop 0 [c0, c1, c2, c3])) = some y0 := hf 0 _ rfl
 have h1 : DataW.trod enc Tryz.prog W base spare held n 2 (List.take (Tryz.prog.cellsOf 2) (List.drop 1 [c0, c1, c2, c3])) = some y1 := hf 1 _ rfl
 have h2 : DataW.trod enc Tryz.prog W base spare held n 2 (List.take (Tryz.prog.cellsOf 2) (List.drop 2 [c0, c1, c2, c3])) = some y2 := hf 2 _ rfl
 have h3 : DataW.trod enc Tryz.prog W base spare held n 48 (List.take (Tryz.prog.cellsOf 48) (List.drop 3 [c0, c1, c2, c3])) = some y3 := hf 3 _ rfl
 rw [cells9] at h0
 rw [cells2] at h1 h2
 rw [cells48] at h3
 obtain ⟨a0, e0, -, w0⟩ := DataW.trod_string Tryz.underlying9 h0
 obtain ⟨a1, e1, -, w1⟩ := DataW.trod_int Tryz.underlying2 h1
 obtain ⟨a2, e2, -, w2⟩ := DataW.trod_int Tryz.underlying2 h2
 simp at e0 e1 e2
 subst e0 e1 e2
 obtain ⟨l, hl⟩ := ox_segs (by simpa using h3)
 exact ⟨⟨a0, a1, a2, l⟩, c3, rfl, by unfold maxLen at w0; exact w0, wf_i64_in w1, wf_i64_in w2, hl⟩
theorem ox_bodies {fuel : Nat} {v : Value} {x : DataW H × List MemPlace} (h : DataW.trod enc Tryz.prog W base spare held fuel 22 [v] = some x) : ∃ l, Bds W v l := by
 rcases DataW.trod_slice Tryz.underlying22 h with ⟨hcs, hx⟩ | ⟨a, len, cap, elems, rest, n, _, hcs, rfl, hb, hl, hm, hlen, hel, -, -⟩
 ·exact T_OPE_1
 ·simp at hcs
  subst hcs
  have hm2 : cap ≤ 9223372036854775807 := by unfold maxLen at hm; omega
  rcases Nat.eq_zero_or_pos len with e | e
  ·exact T_OPE_3
  ·rw [cells50] at hel
   have each : ∀ i, i < len → ∃ cs y, W.cells? base (a.add (i * 4)) 4 = some cs ∧ DataW.trod enc Tryz.prog W base spare held n 50 cs = some y := fun i hi => by
    exact T_OPE_2
   obtain ⟨cs0, y0, hc0, -⟩ := each 0 e
   obtain ⟨b, o, ha, hbs, -⟩ := cells_at hc0 (by decide)
   have ha' : a = ⟨b, o, none⟩ := by
    obtain ⟨ab, ao, asp⟩ := a
    simpa [Addr.add] using ha
   subst ha'
   obtain ⟨l, hll, hp⟩ := list_ex body0 (fun i d => ∃ vs, (W.cell? ⟨b, o + i * 4, none⟩ = some (.string d.name) ∧ W.cell? ⟨b, o + i * 4 + 1, none⟩ = some (.int .i64 d.gm) ∧ W.cell? ⟨b, o + i * 4 + 2, none⟩ = some (.int .i64 d.rad) ∧ W.cell? ⟨b, o + i * 4 + 3, none⟩ = some vs) ∧ d.name.size ≤ 9223372036854775807 ∧ I64 d.gm ∧ I64 d.rad ∧ Sgs W vs d.segs) len (fun i hi => by
    obtain ⟨cs, y, h1, h2⟩ := each i hi
    obtain ⟨d, vs, rfl, f⟩ := ox_body h2
    obtain ⟨b', o', e', -, hc⟩ := cells_at h1 (by decide)
    rw [Go.WideShapes.add_plain] at e'
    cases e'
    exact ⟨d, vs, ⟨hc 0 (by decide), hc 1 (by decide), hc 2 (by decide), hc 3 (by decide)⟩, f⟩)
   subst hll
   exact ⟨l, some ⟨b, o, none⟩, b, o, cap, rfl, fun _ => rfl, hl, hm2, fun _ => hbs, hp⟩
theorem open_eph {v : Value} {r : Reach} {d : DataW H} {p : List MemPlace} (hok : Value.okWide Tryz.prog W r base 24 v) (h : DataW.Trod enc Tryz.prog W 0 spare held 24 v d p) : ∃ u l, v = .agg #[u] ∧ Bds W u l := by
 obtain ⟨cs, rfl, hcs⟩ := okWide_struct Tryz.underlying24 hok
 rw [cells24] at hcs
 obtain ⟨fuel, hf⟩ := h
 obtain ⟨u, hu⟩ : ∃ u, cs = #[u] := by
  obtain ⟨l⟩ := cs
  match l, hcs with
  | [u], _ => exact ⟨u, rfl⟩
 subst hu
 obtain ⟨xs, n, rfl, -, hlen, hxs, hg⟩ := DataW.trod_struct Tryz.underlying24 hf
 obtain ⟨y, hy⟩ : ∃ y, xs[0]? = some y := ⟨_, List.getElem?_eq_getElem (by rw [hxs]; decide)⟩
 have h0 : DataW.trod enc Tryz.prog W 0 spare held n 22 (List.take (Tryz.prog.cellsOf 22) (List.drop 0 [u])) = xs[0]? := hg 0 _ rfl
 rw [cells22, hy] at h0
 obtain ⟨l, hl⟩ := ox_bodies (v := u) (by simpa [Value.cells] using h0)
 exact ⟨u, l, rfl, hl⟩
end
end Go.Proofs.YtbkgakgdbmjmjaaGreat
namespace Go.Proofs.YtbkgakgdbmjmjaaGreat
open Go.RowKit
theorem open_cell {w : World} {r : Reach} {b : Nat} {v : Value} (h : Cell.okWide Tryz.prog w r b 2 v) : ∃ x, v = .int .i64 x ∧ I64 x := by
 simp only [Cell.okWide, Tryz.underlying2, Cell.ok] at h
 cases v <;> simp_all
 rename_i k n
 obtain ⟨rfl, h2⟩ := h
 have e1 : IntKind.i64.min = -9223372036854775808 := by decide
 have e2 : IntKind.i64.max = 9223372036854775807 := by decide
 simp only [IntKind.has, e1, e2] at h2
 unfold I64; omega
theorem types25 : Tryz.prog.cellTypes Tryz.prog.depth 28 = some [2, 2, 2, 2, 2, 2] := by kernel_rfl
theorem size25 : Tryz.prog.cellsOf 28 = 6 := by kernel_rfl
theorem open_vec {w : World} {r : Reach} {b : Nat} {v : Value} (h : Value.okWide Tryz.prog w r b 28 v) : ∃ a : V3, v = .agg #[.int .i64 a.a, .int .i64 a.b, .int .i64 a.c, .int .i64 a.d, .int .i64 a.e, .int .i64 a.f] ∧ a.I := by
 simp only [Value.okWide, Tryz.underlying28] at h
 obtain ⟨cs, rfl, hsz, ts, hts, -, hc⟩ := h
 rw [types25] at hts
 obtain rfl : [2, 2, 2, 2, 2, 2] = ts := by injection hts
 rw [size25] at hsz
 obtain ⟨l⟩ := cs
 match l, hsz with
 | [c0, c1, c2, c3, c4, c5], _ =>
  obtain ⟨u, hu, h0⟩ := hc 0 c0 (by simp)
  obtain rfl : 2 = u := by simpa using hu
  obtain ⟨x0, rfl, k0⟩ := open_cell h0
  obtain ⟨u, hu, h1⟩ := hc 1 c1 (by simp)
  obtain rfl : 2 = u := by simpa using hu
  obtain ⟨x1, rfl, k1⟩ := open_cell h1
  obtain ⟨u, hu, h2⟩ := hc 2 c2 (by simp)
  obtain rfl : 2 = u := by simpa using hu
  obtain ⟨x2, rfl, k2⟩ := open_cell h2
  obtain ⟨u, hu, h3⟩ := hc 3 c3 (by simp)
  obtain rfl : 2 = u := by simpa using hu
  obtain ⟨x3, rfl, k3⟩ := open_cell h3
  obtain ⟨u, hu, h4⟩ := hc 4 c4 (by simp)
  obtain rfl : 2 = u := by simpa using hu
  obtain ⟨x4, rfl, k4⟩ := open_cell h4
  obtain ⟨u, hu, h5⟩ := hc 5 c5 (by simp)
  obtain rfl : 2 = u := by simpa using hu
  obtain ⟨x5, rfl, k5⟩ := open_cell h5
  exact ⟨⟨x0, x1, x2, x3, x4, x5⟩, rfl, ⟨k0, k1⟩, ⟨k2, k3⟩, k4, k5⟩
end Go.Proofs.YtbkgakgdbmjmjaaGreat
namespace Go.Proofs.YtbkgakgdbmjmjaaGreat
open Go.ChangeShapes Go.WideShapes Go.ChangeAt Go.RowKit
section
variable {H : Type} {enc : TypeId × Value → H} {W : World} {base : Nat} {spare : Nat → Bool} {held : Bool}
theorem open_i64 {v : Value} {r : Reach} {d : DataW H} {p : List MemPlace} (hok : Value.okWide Tryz.prog W r base 2 v) (h : DataW.Trod enc Tryz.prog W 0 spare held 2 v d p) : ∃ x, v = .int .i64 x ∧ I64 x := by
 obtain ⟨n, rfl⟩ := okWide_int Tryz.underlying2 hok
 obtain ⟨m, hm⟩ := h
 obtain ⟨x, e, -, w⟩ := DataW.trod_int Tryz.underlying2 hm
 simp [Value.cells] at e
 subst e
 exact ⟨_, rfl, wf_i64_in w⟩
theorem open_u64 {v : Value} {r : Reach} {d : DataW H} {p : List MemPlace} (hok : Value.okWide Tryz.prog W r base 52 v) (h : DataW.Trod enc Tryz.prog W 0 spare held 52 v d p) : ∃ x, v = .int .u64 x ∧ 0 ≤ x ∧ x ≤ 18446744073709551615 := by
 obtain ⟨n, rfl⟩ := okWide_int Tryz.underlying52 hok
 obtain ⟨m, hm⟩ := h
 obtain ⟨x, e, -, w⟩ := DataW.trod_int Tryz.underlying52 hm
 simp [Value.cells] at e
 subst e
 have e1 : IntKind.u64.min = 0 := by decide
 have e2 : IntKind.u64.max = 18446744073709551615 := by decide
 simp only [Lit.wf, e1, e2, Bool.and_eq_true, decide_eq_true_eq] at w
 exact ⟨_, rfl, w.1, w.2⟩
end
end Go.Proofs.YtbkgakgdbmjmjaaGreat
