/- trig: beyond. -/
import Derived.Test.YtogblocakccbgaaGreatU26
set_option linter.unusedSimpArgs false
set_option linter.unusedVariables false
set_option maxRecDepth 100000
set_option maxHeartbeats 4000000
namespace Go.Proofs.YtogblocakccbgaaGreat
open Go.RowKit
theorem T_TBY_1 {p : Prop} (h : p := by
 go_wp2_with fail
 try rw [Exit.noGoto_ret]
 refine bodyPost_ret (v := .bool true) ?_ rfl ⟨rfl, hE⟩
 simp [results, Tryz.results22, go_sem, ↓IntWalk.iteOmega]) : p := h
def beyF (x y a : Int) : Option Bool :=
 if okN x = true ∧ okN y = true ∧ 0 ≤ a ∧ a ≤ 324000000000 then
  if a = 0 then some true else if a = 162000000000 then some (decide (0 ≤ cmpI y x)) else
  (sineF a 110).bind fun S => (sineF (a + 324000000000) 110).bind fun C =>
  if 0 ≤ S.r ∧ S.r ≤ 9000000000000000000 ∧ 0 ≤ C.r ∧ C.r ≤ 9000000000000000000 ∧ okN S.v = true ∧ okN C.v = true ∧ okN (y * C.v) = true ∧ okN (x * S.v) = true ∧ okN (y * C.v - x * S.v) = true ∧ okN (y * C.r) = true ∧ okN (x * S.r) = true ∧ okN (y * C.r + x * S.r) = true ∧ okN (y * C.v - x * S.v - (y * C.r + x * S.r)) = true ∧ okN (y * C.v - x * S.v + (y * C.r + x * S.r)) = true then
   if 0 < cmpI (y * C.v - x * S.v - (y * C.r + x * S.r)) 0 then some true else if cmpI (y * C.v - x * S.v + (y * C.r + x * S.r)) 0 < 0 then some false else none
  else none
 else none
theorem t_beyond (vx vy : Value) (x y a : Int) (t : Bool) (w : World) (hx : Wid w vx x) (hy : Wid w vy y) (hF : beyF x y a = some t) :
    Calls Tryz.prog 22 #[vx, vy, .int .i64 a] w fun e w' => e = .returned (.bool t) ∧ Ext w w' := by
 unfold beyF at hF
 split at hF
 case isFalse => cases hF
 rename_i k0
 obtain ⟨kx, ky, a0, a1⟩ := k0
 obtain ⟨sx, ax, lx, cx, rfl⟩ : ∃ sa ao la cap1, vx = .agg #[.bool sa, .slice ao la cap1] := by
  obtain ⟨u, rfl, hu⟩ := hx; obtain ⟨ao, b1, o1, cap1, rfl, -⟩ := hu.view; exact ⟨_, _, _, _, rfl⟩
 obtain ⟨sy, ay, ly, cy, rfl⟩ : ∃ sa ao la cap1, vy = .agg #[.bool sa, .slice ao la cap1] := by
  obtain ⟨u, rfl, hu⟩ := hy; obtain ⟨ao, b1, o1, cap1, rfl, -⟩ := hu.view; exact ⟨_, _, _, _, rfl⟩
 have I0 : KBd w [] w := ⟨Ext.refl w, trivial, by simp, by simp⟩
 have I := (I0.push ((Ext.refl w).alloc (.cells #[.bool sx, .slice ax lx cx] 24)) (BF.wat x) (WAt.lit hx)).push ((Ext.refl _).alloc (.cells #[.bool sy, .slice ay ly cy] 24)) (BF.wat y) (WAt.lit (hy.ext ((Ext.refl w).alloc _)))
 simp only [List.nil_append, World.size_alloc, List.cons_append] at I
 clear I0
 split at hF
 ·rename_i ha
  subst ha
  obtain rfl := Option.some.inj hF
  have hE := I.e
  clear I hF
  go_enter Tryz.func22, Tryz.ntmps22
  go_upto_region 1 with fail
  try go_step3
  exact T_TBY_1
 rename_i hn0
 split at hF
 ·rename_i ha
  subst ha
  obtain ⟨cv, hcv⟩ : ∃ cv, cmpI y x = cv := ⟨_, rfl⟩
  rw [hcv] at hF
  replace hF := Option.some.inj hF
  have hcp : ∀ (w1 : World) (u1 u2 : Value), Wid w1 u1 y → Wid w1 u2 x → Calls Tryz.prog 56 #[u1, u2] w1 fun e w' => ∃ u, e = .returned u ∧ u = .tuple #[.int .i64 cv, .int .i64 0] ∧ Ext w1 w' := fun w1 u1 u2 k1 k2 => by
   have := z_Cmp u1 u2 _ _ w1 k1 k2 (okN.sz ky) (okN.sz kx)
   rw [hcv] at this
   exact calls_eq this
  clear hcv hx hy
  go_enter Tryz.func22, Tryz.ntmps22
  go_upto_region 1 with fail
  try go_step3
  go_upto_region 5 with fail
  refine wp_regB [] [] (fun z_ => ([VF.wid (y), VF.wid (x), VF.eq (.tuple #[.int .i64 cv, .int .i64 0]), VF.eq (.tuple #[.int .i64 cv, .int .i64 0]), VF.eq (.int .i64 (cv)), VF.eq (.int .i64 (0)), VF.eq (.int .i64 (cv)), VF.eq (.int .i64 (0))] : List VF).getD z_ VF.any) I (fun hc => ⟨?_, ?_, ?_, ?_, ?_, ?_, ?_, ?_, trivial⟩) (fun vs gl W hK0 hv hp => ?_)
  ·exact ob_getW (w.heap.size + 1) (y) hc rfl fun vs gs w1 c => c.b0 1
  ·exact ob_getW w.heap.size (x) hc rfl fun vs gs w1 c => c.b0 0
  ·exact ob_call (fun v => [v 0, v 1]) hc rfl fun vs gs w1 c => hcp _ _ _ (c.v 0) (c.v 1)
  ·exact ob_cp 2 hc (.inl rfl)
  ·exact ob_e1 (x := .tmp 19) (a := (.tuple #[.int .i64 cv, .int .i64 0])) (u := .int .i64 (cv)) (some 3) hc
  ·exact ob_e1 (x := .tmp 19) (a := (.tuple #[.int .i64 cv, .int .i64 0])) (u := .int .i64 (0)) (some 3) hc
  ·exact ob_cp 4 hc (.inr rfl)
  ·exact ob_cp 5 hc (.inr rfl)
  have v6 : vs 6 = .int .i64 cv := hv 6 (by decide)
  have v7 : vs 7 = .int .i64 0 := hv 7 (by decide)
  simp only [putS, Nat.reduceAdd, Act.put, List.setIfInBounds_toArray, List.set_cons_zero, List.set_cons_succ, v6, v7]
  simp only [kb_] at hK0
  replace I := hK0
  clear hK0 hv hp gl v6 v7
  have hE := I.e
  clear I hcp
  go_wp2_with fail
  try rw [Exit.noGoto_ret]
  refine bodyPost_ret (v := .bool t) ?_ rfl ⟨rfl, hE⟩
  simp [results, Tryz.results22, go_sem, ↓IntWalk.iteOmega, hF]
 rename_i hn1
 rw [Option.bind_eq_some_iff] at hF
 obtain ⟨S, hS, hF⟩ := hF
 rw [Option.bind_eq_some_iff] at hF
 obtain ⟨C, hC, hF⟩ := hF
 split at hF
 case isFalse => cases hF
 rename_i k0
 obtain ⟨r0, r1, r2, r3, z1, z2, z3, z4, z5, z6, z7, z8, z9, z10⟩ := k0
 obtain ⟨d, hdd⟩ : ∃ d, y * C.v - x * S.v = d := ⟨_, rfl⟩
 obtain ⟨e0, hee⟩ : ∃ e, y * C.r + x * S.r = e := ⟨_, rfl⟩
 rw [hdd, hee] at hF z9 z10
 rw [hdd] at z5
 rw [hee] at z8
 have szS : Sz S.r := dig_bits (k := 64) (L := 4096) (by omega) (by decide)
 have szC : Sz C.r := dig_bits (k := 64) (L := 4096) (by omega) (by decide)
 have hs1 : ∀ (w1 : World) (u1 u2 : Value), u1 = .int .i64 a → u2 = .int .i64 110 → Calls Tryz.prog 32 #[u1, u2] w1 fun e w' => ∃ u, e = .returned u ∧ Ball w' u S.v S.r ∧ Ext w1 w' := fun w1 u1 u2 k1 k2 => by subst k1 k2; exact t_sine a S 110 w1 (by omega) (by omega) hS
 have hs2 : ∀ (w1 : World) (u1 u2 : Value), u1 = .int .i64 (a + 324000000000) → u2 = .int .i64 110 → Calls Tryz.prog 32 #[u1, u2] w1 fun e w' => ∃ u, e = .returned u ∧ Ball w' u C.v C.r ∧ Ext w1 w' := fun w1 u1 u2 k1 k2 => by subst k1 k2; exact t_sine _ C 110 w1 (by omega) (by omega) hC
 have hm1 : ∀ (w1 : World) (u1 u2 : Value), Wid w1 u1 y → Wid w1 u2 C.v → Calls Tryz.prog 27 #[u1, u2] w1 fun e w' => ∃ u, e = .returned u ∧ Wid w' u (y * C.v) ∧ Ext w1 w' := fun w1 u1 u2 k1 k2 => t_mulZ u1 u2 _ _ w1 k1 k2 (okN.sz ky) (okN.sz z2) (okN.sz z3)
 have hm2 : ∀ (w1 : World) (u1 u2 : Value), Wid w1 u1 x → Wid w1 u2 S.v → Calls Tryz.prog 27 #[u1, u2] w1 fun e w' => ∃ u, e = .returned u ∧ Wid w' u (x * S.v) ∧ Ext w1 w' := fun w1 u1 u2 k1 k2 => t_mulZ u1 u2 _ _ w1 k1 k2 (okN.sz kx) (okN.sz z1) (okN.sz z4)
 have hd : ∀ (w1 : World) (u1 u2 : Value), Wid w1 u1 (y * C.v) → Wid w1 u2 (x * S.v) → Calls Tryz.prog 57 #[u1, u2] w1 fun e w' => ∃ u, e = .returned u ∧ Wid w' u d ∧ Ext w1 w' := fun w1 u1 u2 k1 k2 => by
  have := t_subZ u1 u2 _ _ w1 k1 k2 (okN.sz z3) (okN.sz z4) (by rw [hdd]; exact okN.sz z5)
  rw [hdd] at this; exact this
 have hn1' : ∀ (w1 : World) (u1 : Value), u1 = .int .i64 C.r → Calls Tryz.prog 28 #[u1] w1 fun e w' => ∃ u, e = .returned u ∧ Wid w' u C.r ∧ Ext w1 w' := fun w1 u1 k => by subst k; exact t_numZ _ _ (by omega) (by omega)
 have hn2 : ∀ (w1 : World) (u1 : Value), u1 = .int .i64 S.r → Calls Tryz.prog 28 #[u1] w1 fun e w' => ∃ u, e = .returned u ∧ Wid w' u S.r ∧ Ext w1 w' := fun w1 u1 k => by subst k; exact t_numZ _ _ (by omega) (by omega)
 have hm3 : ∀ (w1 : World) (u1 u2 : Value), Wid w1 u1 y → Wid w1 u2 C.r → Calls Tryz.prog 27 #[u1, u2] w1 fun e w' => ∃ u, e = .returned u ∧ Wid w' u (y * C.r) ∧ Ext w1 w' := fun w1 u1 u2 k1 k2 => t_mulZ u1 u2 _ _ w1 k1 k2 (okN.sz ky) szC (okN.sz z6)
 have hm4 : ∀ (w1 : World) (u1 u2 : Value), Wid w1 u1 x → Wid w1 u2 S.r → Calls Tryz.prog 27 #[u1, u2] w1 fun e w' => ∃ u, e = .returned u ∧ Wid w' u (x * S.r) ∧ Ext w1 w' := fun w1 u1 u2 k1 k2 => t_mulZ u1 u2 _ _ w1 k1 k2 (okN.sz kx) szS (okN.sz z7)
 have he : ∀ (w1 : World) (u1 u2 : Value), Wid w1 u1 (y * C.r) → Wid w1 u2 (x * S.r) → Calls Tryz.prog 58 #[u1, u2] w1 fun e w' => ∃ u, e = .returned u ∧ Wid w' u e0 ∧ Ext w1 w' := fun w1 u1 u2 k1 k2 => by
  have := t_addZ u1 u2 _ _ w1 k1 k2 (okN.sz z6) (okN.sz z7) (by rw [hee]; exact okN.sz z8)
  rw [hee] at this; exact this
 obtain ⟨c1, hc1⟩ : ∃ c, cmpI (d - e0) 0 = c := ⟨_, rfl⟩
 obtain ⟨c2, hc2⟩ : ∃ c, cmpI (d + e0) 0 = c := ⟨_, rfl⟩
 rw [hc1, hc2] at hF
 have hu1 : ∀ (w1 : World) (u1 u2 : Value), Wid w1 u1 d → Wid w1 u2 e0 → Calls Tryz.prog 57 #[u1, u2] w1 fun e w' => ∃ u, e = .returned u ∧ Wid w' u (d - e0) ∧ Ext w1 w' := fun w1 u1 u2 k1 k2 => t_subZ u1 u2 _ _ w1 k1 k2 (okN.sz z5) (okN.sz z8) (okN.sz z9)
 have hu2 : ∀ (w1 : World) (u1 : Value), Wid w1 u1 (d - e0) → Calls Tryz.prog 20 #[u1] w1 fun e w' => ∃ u, e = .returned u ∧ u = .int .i64 c1 ∧ Ext w1 w' := fun w1 u1 k1 => by
  have := t_sign u1 _ w1 k1 (okN.sz z9)
  rw [hc1] at this; exact calls_eq this
 have ht1 : ∀ (w1 : World) (u1 u2 : Value), Wid w1 u1 d → Wid w1 u2 e0 → Calls Tryz.prog 58 #[u1, u2] w1 fun e w' => ∃ u, e = .returned u ∧ Wid w' u (d + e0) ∧ Ext w1 w' := fun w1 u1 u2 k1 k2 => t_addZ u1 u2 _ _ w1 k1 k2 (okN.sz z5) (okN.sz z8) (okN.sz z10)
 have ht2 : ∀ (w1 : World) (u1 : Value), Wid w1 u1 (d + e0) → Calls Tryz.prog 20 #[u1] w1 fun e w' => ∃ u, e = .returned u ∧ u = .int .i64 c2 ∧ Ext w1 w' := fun w1 u1 k1 => by
  have := t_sign u1 _ w1 k1 (okN.sz z10)
  rw [hc2] at this; exact calls_eq this
 obtain ⟨g1, hg1⟩ : ∃ g, decide (0 < c1) = g := ⟨_, rfl⟩
 obtain ⟨g2, hg2⟩ : ∃ g, decide (c2 < 0) = g := ⟨_, rfl⟩
 have hR : (g1 = true ∧ t = true) ∨ (g1 = false ∧ g2 = true ∧ t = false) := by
  rw [← hg1, ← hg2]
  split at hF
  ·rename_i k; exact .inl ⟨decide_eq_true k, (Option.some.inj hF).symm⟩
  ·rename_i k
   split at hF
   ·rename_i k2; exact .inr ⟨decide_eq_false k, decide_eq_true k2, (Option.some.inj hF).symm⟩
   ·cases hF
 have hn1 := hn1'
 have han : ¬ a = 162000000000 := by assumption
 clear hn1' hF hc1 hc2 hdd hee hS hC szS szC z1 z2 z3 z4 z5 z6 z7 z8 z9 z10 kx ky hx hy r0 r1 r2 r3
 go_enter Tryz.func22, Tryz.ntmps22
 go_upto_region 1 with fail
 try go_step3
 go_wp2_with fail
 try go_step3
 go_upto_region 8 with fail
 refine wp_regB [] [⟨7, some 9, BF.own [.bool false, .slice none 0 0, .int .i64 0], (BF.bat S.v S.r)⟩, ⟨8, some 10, BF.own [.bool false, .slice none 0 0, .int .i64 0], (BF.bat C.v C.r)⟩] (fun z_ => ([VF.eq (.int .i64 (a)), VF.eq (.int .i64 (110)), VF.ball (S.v) (S.r), VF.eq (.int .i64 (a)), VF.eq (.int .i64 (a + 324000000000)), VF.eq (.int .i64 (110)), VF.ball (C.v) (C.r)] : List VF).getD z_ VF.any) I (fun hc => ⟨?_, ?_, ?_, ?_, ?_, ?_, ?_, ?_, ?_, ?_, ?_, trivial⟩) (fun vs gl W hK0 hv hp => ?_)
 ·exact ob_mv hc (.inl rfl)
 ·exact ob_mv hc (.inl rfl)
 ·exact ob_call (fun v => [v 0, v 1]) hc rfl fun vs gs w1 c => hs1 _ _ _ (c.v 0) (c.v 1)
 ·exact ob_mv hc (.inl rfl)
 ·exact ob_e2 (x := .tmp 30) (y := .const (.int .i64 324000000000)) (a := (.int .i64 (a))) (b := .int .i64 324000000000) (u := .int .i64 (a + 324000000000)) (some 3) none hc (hs := by intro ρ w1 h k; go_simp; first | done | (simp only [IntKind.wrap_i64]; omega))
 ·exact ob_mv hc (.inl rfl)
 ·exact ob_call (fun v => [v 4, v 5]) hc rfl fun vs gs w1 c => hs2 _ _ _ (c.v 4) (c.v 5)
 ·exact b_20
 ·exact ob_new (n := 3) [.bool false, .slice none 0 0, .int .i64 0] 57 rfl hc rfl rfl rfl
 ·exact ob_putB (n := 2) rfl 2 hc rfl 0
 ·exact ob_putB (n := 3) rfl 6 hc rfl 0
 have p0 : vs 7 = .pointer (some ⟨gl 0, 0, none⟩) := hp 0 _ rfl
 have p1 : vs 8 = .pointer (some ⟨gl 1, 0, none⟩) := hp 1 _ rfl
 simp only [putS, Nat.reduceAdd, Act.put, List.setIfInBounds_toArray, List.set_cons_zero, List.set_cons_succ, p0, p1]
 obtain ⟨g10, e90⟩ : ∃ n, gl 0 = n := ⟨_, rfl⟩
 obtain ⟨g11, e91⟩ : ∃ n, gl 1 = n := ⟨_, rfl⟩
 simp only [kb_, e90, e91] at hK0
 rw [e90, e91]
 replace I := hK0
 clear hK0 hv hp gl p0 p1 e90 e91
 go_upto_region 9 with fail
 refine wp_regB [] [⟨9, some 10, BF.b2, (BF.wat d)⟩] (fun z_ => ([VF.wid (y), VF.eq (.pointer (some ⟨g11, 0, none⟩)), VF.wid (C.v), VF.wid (y * C.v), VF.wid (x), VF.eq (.pointer (some ⟨g10, 0, none⟩)), VF.wid (S.v), VF.wid (x * S.v), VF.wid (d)] : List VF).getD z_ VF.any) I (fun hc => ⟨?_, ?_, ?_, ?_, ?_, ?_, ?_, ?_, ?_, ?_, ?_, trivial⟩) (fun vs gl W hK0 hv hp => ?_)
 ·exact ob_getW (w.heap.size + 1) (y) hc rfl fun vs gs w1 c => c.b0 1
 ·exact ob_e1 (x := .tmp 11) (a := .pointer (some ⟨g11, 0, none⟩)) (u := .pointer (some ⟨g11, 0, none⟩)) none hc
 ·exact ob_getN g11 C.v C.r (some 1) hc rfl fun vs gs w1 c => c.b0 3
 ·exact ob_call (fun v => [v 0, v 2]) hc rfl fun vs gs w1 c => hm1 _ _ _ (c.v 0) (c.v 2)
 ·exact ob_getW w.heap.size (x) hc rfl fun vs gs w1 c => c.b0 0
 ·exact ob_e1 (x := .tmp 10) (a := .pointer (some ⟨g10, 0, none⟩)) (u := .pointer (some ⟨g10, 0, none⟩)) none hc
 ·exact ob_getN g10 S.v S.r (some 5) hc rfl fun vs gs w1 c => c.b0 2
 ·exact ob_call (fun v => [v 4, v 6]) hc rfl fun vs gs w1 c => hm2 _ _ _ (c.v 4) (c.v 6)
 ·exact ob_call (fun v => [v 3, v 7]) hc rfl fun vs gs w1 c => hd _ _ _ (c.v 3) (c.v 7)
 ·exact ob_allocW (n := 4) rfl hc rfl rfl rfl
 ·exact ob_putW (n := 4) rfl 8 hc rfl 0
 have p0 : vs 9 = .pointer (some ⟨gl 0, 0, none⟩) := hp 0 _ rfl
 simp only [putS, Nat.reduceAdd, Act.put, List.setIfInBounds_toArray, List.set_cons_zero, List.set_cons_succ, p0]
 obtain ⟨g12, e90⟩ : ∃ n, gl 0 = n := ⟨_, rfl⟩
 simp only [kb_, e90] at hK0
 rw [e90]
 replace I := hK0
 clear hK0 hv hp gl p0 e90
 go_upto_region 10 with fail
 refine wp_regB [] [⟨11, some 12, BF.b2, (BF.wat e0)⟩] (fun z_ => ([VF.wid (y), VF.eq (.pointer (some ⟨g11, 2, none⟩)), VF.eq (.int .i64 (C.r)), VF.wid (C.r), VF.wid (y * C.r), VF.wid (x), VF.eq (.pointer (some ⟨g10, 2, none⟩)), VF.eq (.int .i64 (S.r)), VF.wid (S.r), VF.wid (x * S.r), VF.wid (e0)] : List VF).getD z_ VF.any) I (fun hc => ⟨?_, ?_, ?_, ?_, ?_, ?_, ?_, ?_, ?_, ?_, ?_, ?_, ?_, trivial⟩) (fun vs gl W hK0 hv hp => ?_)
 ·exact ob_getW (w.heap.size + 1) (y) hc rfl fun vs gs w1 c => c.b0 1
 ·exact ob_e1 (x := .tmp 11) (a := .pointer (some ⟨g11, 0, none⟩)) (u := .pointer (some ⟨g11, 2, none⟩)) none hc
 ·exact ob_ld (x := .tmp 44) (g := g11) (f := 2) (u := .int .i64 (C.r)) (some 1) hc fun vs gs w1 c => BatP.r (c.b0 3)
 ·exact ob_call (fun v => [v 2]) hc rfl fun vs gs w1 c => hn1 _ _ (c.v 2)
 ·exact ob_call (fun v => [v 0, v 3]) hc rfl fun vs gs w1 c => hm3 _ _ _ (c.v 0) (c.v 3)
 ·exact ob_getW w.heap.size (x) hc rfl fun vs gs w1 c => c.b0 0
 ·exact ob_e1 (x := .tmp 10) (a := .pointer (some ⟨g10, 0, none⟩)) (u := .pointer (some ⟨g10, 2, none⟩)) none hc
 ·exact ob_ld (x := .tmp 49) (g := g10) (f := 2) (u := .int .i64 (S.r)) (some 6) hc fun vs gs w1 c => BatP.r (c.b0 2)
 ·exact ob_call (fun v => [v 7]) hc rfl fun vs gs w1 c => hn2 _ _ (c.v 7)
 ·exact ob_call (fun v => [v 5, v 8]) hc rfl fun vs gs w1 c => hm4 _ _ _ (c.v 5) (c.v 8)
 ·exact ob_call (fun v => [v 4, v 9]) hc rfl fun vs gs w1 c => he _ _ _ (c.v 4) (c.v 9)
 ·exact b_17
 ·exact ob_putW (n := 5) rfl 10 hc rfl 0
 have p0 : vs 11 = .pointer (some ⟨gl 0, 0, none⟩) := hp 0 _ rfl
 simp only [putS, Nat.reduceAdd, Act.put, List.setIfInBounds_toArray, List.set_cons_zero, List.set_cons_succ, p0]
 obtain ⟨g13, e90⟩ : ∃ n, gl 0 = n := ⟨_, rfl⟩
 simp only [kb_, e90] at hK0
 rw [e90]
 replace I := hK0
 clear hK0 hv hp gl p0 e90
 clear hs1 hs2 hm1 hm2 hm3 hm4 hd he hn1 hn2
 go_upto_region 11 with fail
 refine wp_regB [] [] (fun z_ => ([VF.wid (d), VF.wid (e0), VF.wid (d - e0), VF.eq (.int .i64 (c1)), VF.eq (.bool g1)] : List VF).getD z_ VF.any) I (fun hc => ⟨?_, ?_, ?_, ?_, ?_, trivial⟩) (fun vs gl W hK0 hv hp => ?_)
 ·exact ob_getW g12 (d) hc rfl fun vs gs w1 c => c.b0 4
 ·exact ob_getW g13 (e0) hc rfl fun vs gs w1 c => c.b0 5
 ·exact ob_call (fun v => [v 0, v 1]) hc rfl fun vs gs w1 c => hu1 _ _ _ (c.v 0) (c.v 1)
 ·exact ob_call (fun v => [v 2]) hc rfl fun vs gs w1 c => hu2 _ _ (c.v 2)
 ·exact ob_e2 (x := .tmp 57) (y := .const (.int .i64 0)) (a := (.int .i64 (c1))) (b := .int .i64 0) (u := .bool g1) (some 3) none hc (hs := by intro ρ w1 h k; go_simp; first | done | exact hg1)
 have v4 : vs 4 = .bool g1 := hv 4 (by decide)
 simp only [putS, Nat.reduceAdd, Act.put, List.setIfInBounds_toArray, List.set_cons_zero, List.set_cons_succ, v4]
 simp only [kb_] at hK0
 replace I := hK0
 clear hK0 hv hp gl v4
 rcases hR with ⟨rfl, rfl⟩ | ⟨rfl, rfl, rfl⟩
 ·have hE := I.e
  clear I hu1 hu2 ht1 ht2
  exact T_TBY_1
 ·skip
  go_upto_region 13 with fail
  refine wp_regB [] [] (fun z_ => ([VF.wid (d), VF.wid (e0), VF.wid (d + e0), VF.eq (.int .i64 (c2)), VF.eq (.bool true)] : List VF).getD z_ VF.any) I (fun hc => ⟨?_, ?_, ?_, ?_, ?_, trivial⟩) (fun vs gl W hK0 hv hp => ?_)
  ·exact ob_getW g12 (d) hc rfl fun vs gs w1 c => c.b0 4
  ·exact ob_getW g13 (e0) hc rfl fun vs gs w1 c => c.b0 5
  ·exact ob_call (fun v => [v 0, v 1]) hc rfl fun vs gs w1 c => ht1 _ _ _ (c.v 0) (c.v 1)
  ·exact ob_call (fun v => [v 2]) hc rfl fun vs gs w1 c => ht2 _ _ (c.v 2)
  ·exact ob_e2 (x := .tmp 62) (y := .const (.int .i64 0)) (a := (.int .i64 (c2))) (b := .int .i64 0) (u := .bool true) (some 3) none hc (hs := by intro ρ w1 h k; go_simp; first | done | exact hg2)
  have v4 : vs 4 = .bool true := hv 4 (by decide)
  simp only [putS, Nat.reduceAdd, Act.put, List.setIfInBounds_toArray, List.set_cons_zero, List.set_cons_succ, v4]
  simp only [kb_] at hK0
  replace I := hK0
  clear hK0 hv hp gl v4
  have hE := I.e
  clear I hu1 hu2 ht1 ht2
  go_wp2_with fail
  try rw [Exit.noGoto_ret]
  refine bodyPost_ret (v := .bool false) ?_ rfl ⟨rfl, hE⟩
  simp [results, Tryz.results22, go_sem, ↓IntWalk.iteOmega]
theorem own_wat {g : Nat} {w : World} {s : Bool} {u : Value} {x : Int} (h : (BF.own [.bool s, u]).p g w) (hw : Wid w (.agg #[.bool s, u]) x) : WAt w g x := ⟨s, u, h.1 0 _ rfl, h.1 1 _ rfl, hw, h.2.1, h.2.2.1, h.2.2.2⟩
def quadF : Nat → Int → Int → Int → Option (Int × Int × Int)
 | 0, _, _, _ => none
 | k + 1, q, y, x => if okN y = true ∧ okN x = true ∧ 0 ≤ q ∧ q ≤ 2000000000000 then (if cmpI x 0 ≤ 0 ∨ cmpI y 0 < 0 then quadF k (q + 324000000000) (-x) y else some (q, y, x)) else none
def binF (x y : Int) : Nat → Int → Int → Option Int
 | 0, _, _ => none
 | k + 1, lo, hi => if lo + 1 < hi then (beyF x y ((lo + hi) / 2)).bind fun b => (if b = true then binF x y k ((lo + hi) / 2) hi else binF x y k lo ((lo + hi) / 2)) else some lo
def atF (y x : Int) : Option Int := (quadF 6 0 y x).bind fun s => (binF s.2.2 s.2.1 60 0 324000000000).bind fun l => some (s.1 + l)
theorem t_check (v : Value) (n : Int) (w : World) (h : Wid w v n) (hs : Sz n) :
    Calls Tryz.prog 19 #[v] w fun e w' => e = .returned (.int .i64 0) ∧ Ext w w' := by
 obtain ⟨u, rfl, hu⟩ := h
 have hz : n.natAbs = 0 → decide (n < 0) = false := fun h => decide_eq_false (by omega)
 obtain ⟨sa, hsa⟩ : ∃ sa, decide (n < 0) = sa := ⟨_, rfl⟩
 rw [hsa] at hz ⊢
 obtain ⟨ao, b1, o1, cap1, rfl, v1, v2, v3, v4, v5, v6⟩ := hu.view
 have hk := z_check_one (w.alloc (.cells #[.bool sa, .slice ao (dig n.natAbs).length cap1] 24)) _ sa n.natAbs (hu.alloc _) hs hz
 rw [World.size_alloc] at hk
 clear v1 v4 v5 hu hz
 go_enter Tryz.func19, Tryz.ntmps19
 go_wp2_with (go_at_call 52; (with_reducible refine hk.mono ?_); rintro e w1 ⟨rfl, hb⟩; obtain ⟨_, _, ⟨hc, hf⟩, hz⟩ := hb.c3; (try simp only [wsz] at hz hc hf))
 go_ret
 exact ⟨rfl, ex_⟩
theorem t_atan (vy vx : Value) (y x r : Int) (w : World) (hy : Wid w vy y) (hx : Wid w vx x) (ky : okN y = true) (kx : okN x = true) (l0 : (dig y.natAbs).length ≤ 16) (l1 : (dig x.natAbs).length ≤ 16) (hy0 : ¬ cmpI y 0 = 0) (hF : atF y x = some r) :
    Calls Tryz.prog 5 #[vy, vx] w fun e w' => e = .returned (.tuple #[.int .i64 r, .int .i64 0]) ∧ Ext w w' := by
 obtain ⟨sy, ay, ly, cy, rfl, ely⟩ : ∃ sa ao la cap1, vy = .agg #[.bool sa, .slice ao (la : Nat) cap1] ∧ la ≤ 16 := by
  obtain ⟨u, rfl, hu⟩ := hy; obtain ⟨ao, b1, o1, cap1, rfl, -⟩ := hu.view; exact ⟨_, _, _, _, rfl, l0⟩
 obtain ⟨sx, ax, lx, cx, rfl, elx⟩ : ∃ sa ao la cap1, vx = .agg #[.bool sa, .slice ao (la : Nat) cap1] ∧ la ≤ 16 := by
  obtain ⟨u, rfl, hu⟩ := hx; obtain ⟨ao, b1, o1, cap1, rfl, -⟩ := hu.view; exact ⟨_, _, _, _, rfl, l1⟩
 unfold atF at hF
 rw [Option.bind_eq_some_iff] at hF
 obtain ⟨⟨q1, y1, x1⟩, hQ, hF⟩ := hF
 rw [Option.bind_eq_some_iff] at hF
 obtain ⟨L, hB, hF⟩ := hF
 replace hF := Option.some.inj hF
 dsimp only at hB hF
 have hcky := fun w1 (k1 : Ext w w1) => t_check _ y w1 (hy.ext k1) (okN.sz ky)
 have hckx := fun w1 (k1 : Ext w w1) => t_check _ x w1 (hx.ext k1) (okN.sz kx)
 have i0 : ∀ w, (Instr.index 49 (.agg #[.bool sy, .slice ay ly cy, .bool sx, .slice ax lx cx]) (.int .i64 0)).run Tryz.prog w = .ok (.agg #[.bool sy, .slice ay ly cy]) w := fun _ => by kernel_rfl
 have i1 : ∀ w, (Instr.index 49 (.agg #[.bool sy, .slice ay ly cy, .bool sx, .slice ax lx cx]) (.int .i64 1)).run Tryz.prog w = .ok (.agg #[.bool sx, .slice ax lx cx]) w := fun _ => by kernel_rfl
 obtain ⟨M, hM⟩ : ∃ M : Int, max (ly : Int) (lx : Int) = M := ⟨_, rfl⟩
 have hM6 : M ≤ 16 := by rw [← hM]; exact Int.max_le.2 ⟨by omega, by omega⟩
 obtain ⟨cy0, hcy0⟩ : ∃ c, cmpI y 0 = c := ⟨_, rfl⟩
 rw [hcy0] at hy0
 have hcy : (cy0 == 0) = false := by simpa using hy0
 have hsy : ∀ (w1 : World) (u1 : Value), Wid w1 u1 y → Calls Tryz.prog 20 #[u1] w1 fun e w' => ∃ u, e = .returned u ∧ u = .int .i64 cy0 ∧ Ext w1 w' := fun w1 u1 k1 => by
  have := t_sign u1 _ w1 k1 (okN.sz ky)
  rw [hcy0] at this; exact calls_eq this
 clear hcy0 ky kx l0 l1
 have I0 : KBd w [] w := ⟨Ext.refl w, trivial, by simp, by simp⟩
 have I := (I0.new [.bool sy, .slice ay ly cy] 24 (by simp)).new [.bool sx, .slice ax lx cx] 24 (by simp)
 simp only [List.nil_append, World.size_alloc, List.cons_append] at I
 clear I0
 go_enter Tryz.func5, Tryz.ntmps5
 go_wp2_with fail
 refine wp_loop_rounds 3 ?_
 rw [rounds_succ]
 go_wp2_with (go_at_call 19; (with_reducible refine (hcky _ ex_).mono ?_); rintro e w1 ⟨rfl, hb1⟩; obtain ⟨_, _, ⟨hc1, hf1⟩, hz1⟩ := hb1.c3; (try simp only [wsz] at hz1 hc1 hf1))
 rw [rounds_succ]
 go_wp2_with (go_at_call 19; (with_reducible refine (hckx _ ex_).mono ?_); rintro e w2 ⟨rfl, hb2⟩; obtain ⟨_, _, ⟨hc2, hf2⟩, hz2⟩ := hb2.c3; (try simp only [wsz] at hz2 hc2 hf2))
 rw [rounds_succ]
 go_upto_region 8 with fail
 refine wp_regB [] [] (fun z_ => ([VF.eq (.pointer (some ⟨w.heap.size, 1, none⟩)), VF.eq (.slice ay ly cy), VF.eq (.int .i64 (ly)), VF.eq (.pointer (some ⟨(w.heap.size + 1), 1, none⟩)), VF.eq (.slice ax lx cx), VF.eq (.int .i64 (lx)), VF.eq (.int .i64 (M)), VF.eq (.bool false)] : List VF).getD z_ VF.any) (KBd.ext I ex_) (fun hc => ⟨?_, ?_, ?_, ?_, ?_, ?_, ?_, ?_, trivial⟩) (fun vs gl W hK0 hv hp => ?_)
 ·exact ob_e1 (x := .tmp 2) (a := .pointer (some ⟨w.heap.size, 0, none⟩)) (u := .pointer (some ⟨w.heap.size, 1, none⟩)) none hc
 ·exact b_56
 ·exact b_57
 ·exact ob_e1 (x := .tmp 3) (a := .pointer (some ⟨(w.heap.size + 1), 0, none⟩)) (u := .pointer (some ⟨(w.heap.size + 1), 1, none⟩)) none hc
 ·exact ob_ld (x := .tmp 30) (g := (w.heap.size + 1)) (f := 1) (u := .slice ax lx cx) (some 3) hc fun vs gs w1 c => c.own 1 1
 ·exact b_58
 ·exact ob_e2 (x := .tmp 29) (y := .tmp 32) (a := (.int .i64 (ly))) (b := (.int .i64 (lx))) (u := .int .i64 (M)) (some 2) (some 5) hc (hs := by intro ρ w1 h k; go_simp; first | done | exact hM)
 ·exact b_59
 have v7 : vs 7 = .bool false := hv 7 (by decide)
 simp only [putS, Nat.reduceAdd, Act.put, List.setIfInBounds_toArray, List.set_cons_zero, List.set_cons_succ, v7]
 simp only [kb_] at hK0
 replace I := hK0
 clear hK0 hv hp gl v7
 clear hcky hckx i0 i1
 go_upto_region 10 with fail
 refine wp_regB [] [] (fun z_ => ([VF.wid (y), VF.eq (.int .i64 (cy0)), VF.eq (.bool false), VF.eq (.bool false), VF.eq undef, VF.eq undef, VF.eq undef, VF.eq (.bool false)] : List VF).getD z_ VF.any) I (fun hc => ⟨?_, ?_, ?_, ?_, ?_, ?_, ?_, ?_, trivial⟩) (fun vs gl W hK0 hv hp => ?_)
 ·exact ob_getW w.heap.size (y) hc rfl fun vs gs w1 c => own_wat (c.b0 0) (hy.ext c.k.1)
 ·exact ob_call (fun v => [v 0]) hc rfl fun vs gs w1 c => hsy _ _ (c.v 0)
 ·exact ob_e2 (x := .tmp 36) (y := .const (.int .i64 0)) (a := (.int .i64 (cy0))) (b := .int .i64 0) (u := .bool false) (some 1) none hc (hs := by intro ρ w1 h k; go_simp; first | done | exact hcy)
 ·exact ob_cp 2 hc (.inl rfl)
 ·exact ob_skip hc
 ·exact ob_skip hc
 ·exact ob_skip hc
 ·exact ob_pickF (some 3) none hc rfl
 have v7 : vs 7 = .bool false := hv 7 (by decide)
 simp only [putS, Nat.reduceAdd, Act.put, List.setIfInBounds_toArray, List.set_cons_zero, List.set_cons_succ, v7]
 simp only [kb_] at hK0
 replace I := hK0
 clear hK0 hv hp gl v7
 have J := KBd.re (l' := [(w.heap.size, BF.wat y), (w.heap.size + 1, BF.wat x)]) I ⟨own_wat (I.at 0) (hy.ext I.e), own_wat (I.at 1) (hx.ext I.e), trivial⟩
 clear I hy hx hsy
 have I := J
 clear J
 go_wp2_with fail
 go_loopw [9] (fun s9 wr => ∃ (q y' x' : Int) (k : Nat), s9 = .int .i64 q ∧ Hid (quadF k q y' x' = some (q1, y1, x1)) ∧ Hid (KBd w [(w.heap.size, BF.wat y'), (w.heap.size + 1, BF.wat x')] wr)) (fun s9 _ => (3000000000000 - intOf s9).toNat)
 case atStart => exact ⟨0, y, x, 6, rfl, Lib.hid hQ, Lib.hid I⟩
 case round =>
  obtain ⟨q, y', x', k, rfl, HQ, HI⟩ := hrel
  clear I hQ
  have I := HI.out
  clear HI
  have hQ := HQ.out
  clear HQ
  cases k with
  | zero => cases hQ
  | succ k =>
   unfold quadF at hQ
   split at hQ
   case isFalse => cases hQ
   rename_i kq
   obtain ⟨ky, kx, q0, q9⟩ := kq
   obtain ⟨cx1, hcx1⟩ : ∃ c, cmpI x' 0 = c := ⟨_, rfl⟩
   obtain ⟨cy1, hcy1⟩ : ∃ c, cmpI y' 0 = c := ⟨_, rfl⟩
   rw [hcx1, hcy1] at hQ
   have hsx1 : ∀ (w1 : World) (u1 : Value), Wid w1 u1 x' → Calls Tryz.prog 20 #[u1] w1 fun e w' => ∃ u, e = .returned u ∧ u = .int .i64 cx1 ∧ Ext w1 w' := fun w1 u1 k1 => by
    have := t_sign u1 _ w1 k1 (okN.sz kx)
    rw [hcx1] at this; exact calls_eq this
   have hsy1 : ∀ (w1 : World) (u1 : Value), Wid w1 u1 y' → Calls Tryz.prog 20 #[u1] w1 fun e w' => ∃ u, e = .returned u ∧ u = .int .i64 cy1 ∧ Ext w1 w' := fun w1 u1 k1 => by
    have := t_sign u1 _ w1 k1 (okN.sz ky)
    rw [hcy1] at this; exact calls_eq this
   have hne : ∀ (w1 : World) (u1 : Value), Wid w1 u1 x' → Calls Tryz.prog 21 #[u1] w1 fun e w' => ∃ u, e = .returned (.tuple #[u, .int .i64 0]) ∧ Wid w' u (-x') ∧ Ext w1 w' := fun w1 u1 k1 => t_neg u1 _ w1 k1 (okN.sz kx)
   clear hcx1 hcy1 ky kx
   by_cases hl : cx1 ≤ 0
   ·have hlx : decide (cx1 ≤ 0) = true := decide_eq_true hl
    rw [if_pos (Or.inl hl)] at hQ
    have hQ2 := Lib.hid hQ
    clear hQ hl hF hB
    go_upto_region 13 with fail
    refine wp_regB [] [] (fun z_ => ([VF.wid (x'), VF.eq (.int .i64 (cx1)), VF.eq (.bool true), VF.eq (.bool true), VF.eq undef, VF.eq undef, VF.eq undef, VF.eq (.bool true)] : List VF).getD z_ VF.any) I (fun hc => ⟨?_, ?_, ?_, ?_, ?_, ?_, ?_, ?_, trivial⟩) (fun vs gl W hK0 hv hp => ?_)
    ·exact b_60
    ·exact ob_call (fun v => [v 0]) hc rfl fun vs gs w1 c => hsx1 _ _ (c.v 0)
    ·exact ob_e2 (x := .tmp 44) (y := .const (.int .i64 0)) (a := (.int .i64 (cx1))) (b := .int .i64 0) (u := .bool true) (some 1) none hc (hs := by intro ρ w1 h k; go_simp; first | done | exact hlx)
    ·exact ob_cp 2 hc (.inl rfl)
    ·exact ob_skip hc
    ·exact ob_skip hc
    ·exact ob_skip hc
    ·exact ob_pickT (some 3) none hc rfl
    have v7 : vs 7 = .bool true := hv 7 (by decide)
    simp only [putS, Nat.reduceAdd, Act.put, List.setIfInBounds_toArray, List.set_cons_zero, List.set_cons_succ, v7]
    simp only [kb_] at hK0
    replace I := hK0
    clear hK0 hv hp gl v7
    clear hsx1 hsy1
    go_upto_region 14 with fail
    refine wp_regB [] [⟨5, some 6, BF.b2, (BF.wat (-x'))⟩] (fun z_ => ([VF.wid (x'), (VF.wid (-x')).err 0, (VF.wid (-x')).err 0, VF.wid (-x'), VF.eq (.int .i64 (0)), VF.any, VF.any, VF.eq (.int .i64 (0))] : List VF).getD z_ VF.any) I (fun hc => ⟨?_, ?_, ?_, ?_, ?_, ?_, ?_, ?_, trivial⟩) (fun vs gl W hK0 hv hp => ?_)
    ·exact b_60
    ·exact ob_call (fun v => [v 0]) hc rfl fun vs gs w1 c => calls_err (hne _ _ (c.v 0))
    ·exact ob_cp 1 hc (.inl rfl)
    ·exact ob_ext0 2 hc rfl
    ·exact ob_ext1 2 hc rfl
    ·exact b_15
    ·exact ob_putW (n := 2) rfl 3 hc rfl 0
    ·exact ob_cp 4 hc (.inr rfl)
    have p0 : vs 5 = .pointer (some ⟨gl 0, 0, none⟩) := hp 0 _ rfl
    have v7 : vs 7 = .int .i64 0 := hv 7 (by decide)
    simp only [putS, Nat.reduceAdd, Act.put, List.setIfInBounds_toArray, List.set_cons_zero, List.set_cons_succ, p0, v7]
    obtain ⟨g10, e90⟩ : ∃ n, gl 0 = n := ⟨_, rfl⟩
    simp only [kb_, e90] at hK0
    rw [e90]
    replace I := hK0
    clear hK0 hv hp gl p0 v7 e90
    go_upto_region 15 with fail
    refine wp_regB [[(3, BF.wat (-x'))], [(2, BF.wat y')]] [] (fun z_ => ([VF.wid (y'), VF.wid (-x')] : List VF).getD z_ VF.any) I (fun hc => ⟨?_, ?_, ?_, ?_, trivial⟩) (fun vs gl W hK0 hv hp => ?_)
    ·exact b_61
    ·exact ob_getW g10 (-x') hc rfl fun vs gs w1 c => c.b0 2
    ·exact ob_putW (n := 1) rfl 0 hc rfl 0
    ·exact ob_putW (n := 0) rfl 1 hc rfl 0
    simp only [putS, Nat.reduceAdd, Act.put, List.setIfInBounds_toArray, List.set_cons_zero, List.set_cons_succ]
    simp only [kb_] at hK0
    replace I := hK0
    clear hK0 hv hp gl
    replace I := I.take 2
    go_wp2_with fail
    go_roundw
    case rel => exact ⟨q + 324000000000, -x', y', k, (by go_num), hQ2, Lib.hid I⟩
    case measure => simp [intOf]; omega
   ·have hlx : decide (cx1 ≤ 0) = false := decide_eq_false hl
    obtain ⟨ny, hny⟩ : ∃ n, decide (cy1 < 0) = n := ⟨_, rfl⟩
    go_upto_region 13 with fail
    refine wp_regB [] [] (fun z_ => ([VF.wid (x'), VF.eq (.int .i64 (cx1)), VF.eq (.bool false), VF.eq (.bool false), VF.wid (y'), VF.eq (.int .i64 (cy1)), VF.eq (.bool ny), VF.eq (.bool ny)] : List VF).getD z_ VF.any) I (fun hc => ⟨?_, ?_, ?_, ?_, ?_, ?_, ?_, ?_, trivial⟩) (fun vs gl W hK0 hv hp => ?_)
    ·exact b_60
    ·exact ob_call (fun v => [v 0]) hc rfl fun vs gs w1 c => hsx1 _ _ (c.v 0)
    ·exact ob_e2 (x := .tmp 44) (y := .const (.int .i64 0)) (a := (.int .i64 (cx1))) (b := .int .i64 0) (u := .bool false) (some 1) none hc (hs := by intro ρ w1 h k; go_simp; first | done | exact hlx)
    ·exact ob_cp 2 hc (.inl rfl)
    ·exact b_61
    ·exact ob_call (fun v => [v 4]) hc rfl fun vs gs w1 c => hsy1 _ _ (c.v 4)
    ·exact ob_e2 (x := .tmp 48) (y := .const (.int .i64 0)) (a := (.int .i64 (cy1))) (b := .int .i64 0) (u := .bool ny) (some 5) none hc (hs := by intro ρ w1 h k; go_simp; first | done | exact hny)
    ·exact ob_pickF (some 3) (some 6) hc rfl
    have v7 : vs 7 = .bool ny := hv 7 (by decide)
    simp only [putS, Nat.reduceAdd, Act.put, List.setIfInBounds_toArray, List.set_cons_zero, List.set_cons_succ, v7]
    simp only [kb_] at hK0
    replace I := hK0
    clear hK0 hv hp gl v7
    clear hsx1 hsy1 hlx
    cases ny
    ·have hn := of_decide_eq_false hny
     rw [if_neg (by omega)] at hQ
     obtain ⟨rfl, rfl, rfl⟩ : q = q1 ∧ y' = y1 ∧ x' = x1 := by
      have := Option.some.inj hQ
      exact ⟨congrArg (·.1) this, congrArg (·.2.1) this, congrArg (·.2.2) this⟩
     clear hQ hne hny hn hl
     go_wp2_with fail
     go_loopw [12, 13] (fun s12 s13 wr => ∃ (lo hi : Int) (k : Nat), s12 = .int .i64 lo ∧ s13 = .int .i64 hi ∧ 0 ≤ lo ∧ lo < hi ∧ hi ≤ 324000000000 ∧ Hid (binF x' y' k lo hi = some L) ∧ Hid (KBd w [(w.heap.size, BF.wat y'), (w.heap.size + 1, BF.wat x')] wr)) (fun s12 s13 _ => (intOf s13 - intOf s12).toNat)
     case atStart => exact ⟨0, 324000000000, 60, rfl, rfl, by omega, by omega, by omega, Lib.hid hB, Lib.hid I⟩
     case round =>
      obtain ⟨lo, hi, k, rfl, rfl, b0, b1, b2, HB, HI⟩ := hrel
      clear I hB
      have I := HI.out
      clear HI
      have hB := HB.out
      clear HB
      cases k with
      | zero => cases hB
      | succ k =>
       unfold binF at hB
       obtain ⟨ls, hls⟩ : ∃ ls, decide (lo + 1 < hi) = ls := ⟨_, rfl⟩
       go_upto_region 18 with fail
       refine wp_regB [] [] (fun z_ => ([VF.eq (.int .i64 (lo)), VF.eq (.int .i64 (lo + 1)), VF.eq (.int .i64 (hi)), VF.eq (.bool ls)] : List VF).getD z_ VF.any) I (fun hc => ⟨?_, ?_, ?_, ?_, trivial⟩) (fun vs gl W hK0 hv hp => ?_)
       ·exact ob_mv hc (.inl rfl)
       ·exact ob_e2 (x := .tmp 60) (y := .const (.int .i64 1)) (a := (.int .i64 (lo))) (b := .int .i64 1) (u := .int .i64 (lo + 1)) (some 0) none hc (hs := by intro ρ w1 h k; go_simp; first | done | (simp only [IntKind.wrap_i64]; omega))
       ·exact ob_mv hc (.inl rfl)
       ·exact ob_e2 (x := .tmp 61) (y := .tmp 62) (a := (.int .i64 (lo + 1))) (b := (.int .i64 (hi))) (u := .bool ls) (some 1) (some 2) hc (hs := by intro ρ w1 h k; go_simp; first | done | exact hls)
       have v3 : vs 3 = .bool ls := hv 3 (by decide)
       simp only [putS, Nat.reduceAdd, Act.put, List.setIfInBounds_toArray, List.set_cons_zero, List.set_cons_succ, v3]
       simp only [kb_] at hK0
       replace I := hK0
       clear hK0 hv hp gl v3
       cases ls
       ·rw [if_neg (of_decide_eq_false hls)] at hB
        obtain rfl := Option.some.inj hB
        have hE := I.e
        have hlr : IntKind.i64.wrap (q + lo) = r := by rw [IntKind.wrap_i64]; omega
        clear I hls hB
        go_wp2_with fail
        refine bodyPost_ret (v := .tuple #[.int .i64 r, .int .i64 0]) ?_ rfl ⟨rfl, hE⟩
        simp [results, Tryz.results5, go_sem, ↓IntWalk.iteOmega, hF]
       ·have hl := of_decide_eq_true hls
        rw [if_pos hl] at hB
        clear hls
        have hmid : (lo + hi).tdiv 2 = (lo + hi) / 2 := Int.tdiv_eq_ediv_of_nonneg (by omega)
        obtain ⟨mid, hmd⟩ : ∃ m, (lo + hi) / 2 = m := ⟨_, rfl⟩
        rw [hmd] at hB hmid
        rw [Option.bind_eq_some_iff] at hB
        obtain ⟨b, hb, hB⟩ := hB
        have hm1 : lo < mid ∧ mid < hi := by omega
        have hbe : ∀ (w1 : World) (u1 u2 u3 : Value), Wid w1 u1 x' → Wid w1 u2 y' → u3 = .int .i64 mid → Calls Tryz.prog 22 #[u1, u2, u3] w1 fun e w' => ∃ u, e = .returned u ∧ u = .bool b ∧ Ext w1 w' := fun w1 u1 u2 u3 k1 k2 k3 => by
         subst k3
         exact calls_eq (t_beyond u1 u2 x' y' mid b w1 k1 k2 hb)
        clear hb hmd
        go_upto_region 19 with fail
        refine wp_regB [] [] (fun z_ => ([VF.eq (.int .i64 (lo)), VF.eq (.int .i64 (hi)), VF.eq (.int .i64 (lo + hi)), VF.eq (.int .i64 (mid)), VF.eq (.int .i64 (mid))] : List VF).getD z_ VF.any) I (fun hc => ⟨?_, ?_, ?_, ?_, ?_, trivial⟩) (fun vs gl W hK0 hv hp => ?_)
        ·exact ob_mv hc (.inl rfl)
        ·exact ob_mv hc (.inl rfl)
        ·exact ob_e2 (x := .tmp 64) (y := .tmp 65) (a := (.int .i64 (lo))) (b := (.int .i64 (hi))) (u := .int .i64 (lo + hi)) (some 0) (some 1) hc (hs := by intro ρ w1 h k; go_simp; first | done | (simp only [IntKind.wrap_i64]; omega))
        ·exact ob_e2 (x := .tmp 66) (y := .const (.int .i64 2)) (a := (.int .i64 (lo + hi))) (b := .int .i64 2) (u := .int .i64 (mid)) (some 2) none hc (hs := by intro ρ w1 h k; go_simp; first | done | exact hmid | (simp only [IntKind.wrap_i64]; omega))
        ·exact ob_cp 3 hc (.inr rfl)
        have v4 : vs 4 = .int .i64 mid := hv 4 (by decide)
        simp only [putS, Nat.reduceAdd, Act.put, List.setIfInBounds_toArray, List.set_cons_zero, List.set_cons_succ, v4]
        simp only [kb_] at hK0
        replace I := hK0
        clear hK0 hv hp gl v4
        go_upto_region 20 with fail
        refine wp_regB [] [] (fun z_ => ([VF.wid (x'), VF.wid (y'), VF.eq (.int .i64 (mid)), VF.eq (.bool b)] : List VF).getD z_ VF.any) I (fun hc => ⟨?_, ?_, ?_, ?_, trivial⟩) (fun vs gl W hK0 hv hp => ?_)
        ·exact b_60
        ·exact b_61
        ·exact ob_mv hc (.inl rfl)
        ·exact ob_call (fun v => [v 0, v 1, v 2]) hc rfl fun vs gs w1 c => hbe _ _ _ _ (c.v 0) (c.v 1) (c.v 2)
        have v3 : vs 3 = .bool b := hv 3 (by decide)
        simp only [putS, Nat.reduceAdd, Act.put, List.setIfInBounds_toArray, List.set_cons_zero, List.set_cons_succ, v3]
        simp only [kb_] at hK0
        replace I := hK0
        clear hK0 hv hp gl v3
        clear hbe hmid
        cases b
        ·replace hB := Lib.hid hB
         go_wp2_with fail
         go_roundw
         case rel => exact ⟨lo, mid, k, rfl, rfl, by omega, by omega, by omega, hB, Lib.hid I⟩
         case measure => simp [intOf]; omega
        ·replace hB := Lib.hid hB
         go_wp2_with fail
         go_roundw
         case rel => exact ⟨mid, hi, k, rfl, rfl, by omega, by omega, by omega, hB, Lib.hid I⟩
         case measure => simp [intOf]; omega
    ·have hn := of_decide_eq_true hny
     rw [if_pos (Or.inr hn)] at hQ
     have hQ2 := Lib.hid hQ
     clear hQ hny hn hl hF hB
     go_upto_region 14 with fail
     refine wp_regB [] [⟨5, some 6, BF.b2, (BF.wat (-x'))⟩] (fun z_ => ([VF.wid (x'), (VF.wid (-x')).err 0, (VF.wid (-x')).err 0, VF.wid (-x'), VF.eq (.int .i64 (0)), VF.any, VF.any, VF.eq (.int .i64 (0))] : List VF).getD z_ VF.any) I (fun hc => ⟨?_, ?_, ?_, ?_, ?_, ?_, ?_, ?_, trivial⟩) (fun vs gl W hK0 hv hp => ?_)
     ·exact b_60
     ·exact ob_call (fun v => [v 0]) hc rfl fun vs gs w1 c => calls_err (hne _ _ (c.v 0))
     ·exact ob_cp 1 hc (.inl rfl)
     ·exact ob_ext0 2 hc rfl
     ·exact ob_ext1 2 hc rfl
     ·exact b_15
     ·exact ob_putW (n := 2) rfl 3 hc rfl 0
     ·exact ob_cp 4 hc (.inr rfl)
     have p0 : vs 5 = .pointer (some ⟨gl 0, 0, none⟩) := hp 0 _ rfl
     have v7 : vs 7 = .int .i64 0 := hv 7 (by decide)
     simp only [putS, Nat.reduceAdd, Act.put, List.setIfInBounds_toArray, List.set_cons_zero, List.set_cons_succ, p0, v7]
     obtain ⟨g10, e90⟩ : ∃ n, gl 0 = n := ⟨_, rfl⟩
     simp only [kb_, e90] at hK0
     rw [e90]
     replace I := hK0
     clear hK0 hv hp gl p0 v7 e90
     go_upto_region 15 with fail
     refine wp_regB [[(3, BF.wat (-x'))], [(2, BF.wat y')]] [] (fun z_ => ([VF.wid (y'), VF.wid (-x')] : List VF).getD z_ VF.any) I (fun hc => ⟨?_, ?_, ?_, ?_, trivial⟩) (fun vs gl W hK0 hv hp => ?_)
     ·exact b_61
     ·exact ob_getW g10 (-x') hc rfl fun vs gs w1 c => c.b0 2
     ·exact ob_putW (n := 1) rfl 0 hc rfl 0
     ·exact ob_putW (n := 0) rfl 1 hc rfl 0
     simp only [putS, Nat.reduceAdd, Act.put, List.setIfInBounds_toArray, List.set_cons_zero, List.set_cons_succ]
     simp only [kb_] at hK0
     replace I := hK0
     clear hK0 hv hp gl
     replace I := I.take 2
     go_wp2_with fail
     go_roundw
     case rel => exact ⟨q + 324000000000, -x', y', k, (by go_num), hQ2, Lib.hid I⟩
     case measure => simp [intOf]; omega
end Go.Proofs.YtogblocakccbgaaGreat
