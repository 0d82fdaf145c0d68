/- the reference: neg and small. -/
import Derived.Test.YtogblocakccbgaaGreatU35
set_option linter.unusedSimpArgs false
set_option linter.unusedVariables false
set_option maxRecDepth 100000
set_option maxHeartbeats 4000000
namespace Go.Proofs.YtogblocakccbgaaGreat
open Go.RowKit
theorem q_neg (va : Value) (a b : Int) (w : World) (ha : PairV w va a b) (h0 : okN a = true) (h1 : okN b = true) :
    Calls Tryz.prog 77 #[va] w fun e w' => ∃ u, e = .returned u ∧ PairV w' u (-b) (-a) ∧ Ext w w' := by
 have hna : ∀ (w1 : World) (u1 : Value), Wid w1 u1 a → Calls Tryz.prog 138 #[u1] w1 fun e w' => ∃ u, e = .returned u ∧ ((VF.wid (-a)).err 0).p u w' ∧ Ext w1 w' := fun w1 u1 k => calls_err (r_Neg u1 a w1 k (okN.sz h0))
 have hnb : ∀ (w1 : World) (u1 : Value), Wid w1 u1 b → Calls Tryz.prog 138 #[u1] w1 fun e w' => ∃ u, e = .returned u ∧ ((VF.wid (-b)).err 0).p u w' ∧ Ext w1 w' := fun w1 u1 k => calls_err (r_Neg u1 b w1 k (okN.sz h1))
 obtain ⟨sa, aoa, na, capa, sb, aob, nb, capb, rfl, hA, hB⟩ := ha.open
 have I0 : KBd w [] w := ⟨Ext.refl w, trivial, by simp, by simp⟩
 have I := ((I0.push ((Ext.refl w).alloc (.cells #[.bool sa, .slice aoa na capa, .bool sb, .slice aob nb capb] 68)) (BF.pat a b) (PatP.new hA hB)).new [.bool false, .slice none 0 0, .bool false, .slice none 0 0] 68 (by simp))
 simp only [World.size_alloc, List.nil_append, List.cons_append] at I
 clear I0 hA hB ha
 go_enter Tryz.func77, Tryz.ntmps77
 go_upto_region 1 with fail
 refine wp_regB [] [⟨6, some 7, BF.b2, (BF.wat (-a))⟩] (fun z_ => ([VF.eq (.pointer (some ⟨w.heap.size, 0, none⟩)), VF.wid (a), (VF.wid (-a)).err 0, (VF.wid (-a)).err 0, VF.wid (-a), VF.eq (.int .i64 (0)), VF.any, VF.any, VF.eq (.int .i64 (0))] : List VF).getD z_ VF.any) I (fun hc => ⟨?_, ?_, ?_, ?_, ?_, ?_, ?_, ?_, ?_, trivial⟩) (fun vs gl W hK0 hv hp => ?_)
 ·exact b_18
 ·exact ob_getP0 w.heap.size a b (some 0) hc rfl fun vs gs w1 c => c.b0 0
 ·exact ob_call (fun v => [v 1]) hc rfl fun vs gs w1 c => hna _ _ (c.v 1)
 ·exact ob_cp 2 hc (.inl rfl)
 ·exact ob_ext0 3 hc rfl
 ·exact ob_ext1 3 hc rfl
 ·exact b_15
 ·exact ob_putW (n := 2) rfl 4 hc rfl 0
 ·exact ob_cp 5 hc (.inr rfl)
 have p0 : vs 6 = .pointer (some ⟨gl 0, 0, none⟩) := hp 0 _ rfl
 simp only [putS, Nat.reduceAdd, Act.put, List.setIfInBounds_toArray, List.set_cons_zero, List.set_cons_succ, p0]
 obtain ⟨ga, e90⟩ : ∃ n, gl 0 = n := ⟨_, rfl⟩
 simp only [kb_, e90] at hK0
 rw [e90]
 replace I := hK0
 clear hK0 hv hp gl p0 e90
 go_upto_region 2 with fail
 refine wp_regB [] [⟨6, some 7, BF.b2, (BF.wat (-b))⟩] (fun z_ => ([VF.eq (.pointer (some ⟨w.heap.size, 2, none⟩)), VF.wid (b), (VF.wid (-b)).err 0, (VF.wid (-b)).err 0, VF.wid (-b), VF.eq (.int .i64 (0)), VF.any, VF.any, VF.eq (.int .i64 (0))] : List VF).getD z_ VF.any) I (fun hc => ⟨?_, ?_, ?_, ?_, ?_, ?_, ?_, ?_, ?_, trivial⟩) (fun vs gl W hK0 hv hp => ?_)
 ·exact ob_e1 (x := .tmp 1) (a := .pointer (some ⟨w.heap.size, 0, none⟩)) (u := .pointer (some ⟨w.heap.size, 2, none⟩)) none hc
 ·exact ob_getP2 w.heap.size a b (some 0) hc rfl fun vs gs w1 c => c.b0 0
 ·exact ob_call (fun v => [v 1]) hc rfl fun vs gs w1 c => hnb _ _ (c.v 1)
 ·exact ob_cp 2 hc (.inl rfl)
 ·exact ob_ext0 3 hc rfl
 ·exact ob_ext1 3 hc rfl
 ·exact b_29
 ·exact ob_putW (n := 3) rfl 4 hc rfl 0
 ·exact ob_cp 5 hc (.inr rfl)
 have p0 : vs 6 = .pointer (some ⟨gl 0, 0, none⟩) := hp 0 _ rfl
 simp only [putS, Nat.reduceAdd, Act.put, List.setIfInBounds_toArray, List.set_cons_zero, List.set_cons_succ, p0]
 obtain ⟨gb, e90⟩ : ∃ n, gl 0 = n := ⟨_, rfl⟩
 simp only [kb_, e90] at hK0
 rw [e90]
 replace I := hK0
 clear hK0 hv hp gl p0 e90
 go_upto_region 3 with fail
 refine wp_regB [[], [(3, BF.pat (-b) (-a))]] [] (fun z_ => ([VF.wid (-b), VF.wid (-a), VF.pair (-b) (-a)] : List VF).getD z_ VF.any) I (fun hc => ⟨?_, ?_, ?_, ?_, trivial⟩) (fun vs gl W hK0 hv hp => ?_)
 ·exact ob_getW gb (-b) hc rfl fun vs gs w1 c => c.b0 3
 ·exact ob_getW ga (-a) hc rfl fun vs gs w1 c => c.b0 2
 ·exact ob_buildP (q := -b) (r := -a) 0 1 hc rfl
 ·exact ob_putP (n := 1) rfl 2 hc rfl 0
 simp only [putS, Nat.reduceAdd, Act.put, List.setIfInBounds_toArray, List.set_cons_zero, List.set_cons_succ]
 simp only [kb_] at hK0
 replace I := hK0
 clear hK0 hv hp gl
 obtain ⟨⟨bs, us, bt, ut, x0, x1, x2, x3, x4, x5⟩, x6, -, -⟩ := (show PatP W (w.heap.size + 1) (-b) (-a) from I.at 1)
 have hEx := I.e
 clear I
 go_wp2_with fail
 refine bodyPost_ret (v := .agg #[.bool bs, us, .bool bt, ut]) ?_ rfl ⟨_, rfl, ⟨_, _, _, _, rfl, x4, x5⟩, hEx⟩
 simp [results, Tryz.results77, go_sem, ↓IntWalk.iteOmega, *]
theorem rserF_res {y q : Nat} : ∀ {F t k s r : Nat} {ng : Bool}, rserF y q F ng t k s = some r → okN (r : Int) = true := by
 intro F
 induction F with
 | zero => intro t k s r ng h; cases h
 | succ G ih =>
  intro t k s r ng h
  obtain ⟨G', e, h1, h2⟩ := rserF_succ h
  cases e
  rcases h2 with ⟨-, rfl⟩ | ⟨-, ⟨-, -, h2⟩ | ⟨-, h2⟩⟩
  ·exact h1.1
  ·exact ih h2
  ·exact ih h2
def smaS (x q : Nat) (cos : Bool) : Option Nat := if okN (x : Int) = true ∧ okN ((x * x : Nat) : Int) = true then rserF (x * x / 2 ^ q) q 1000 false (if cos = true then 2 ^ q else x) (if cos = true then 0 else 1) 0 else none
def smaF (lo hi p : Nat) (cos : Bool) : Option (Int × Int) :=
 (smaS (lo * 2 ^ 20) (p + 20) cos).bind fun A => (smaS (hi * 2 ^ 20) (p + 20) cos).bind fun B =>
 if 1024 ≤ (if cos = true then B else A) ∧ okN (((if cos = true then A else B) + 1024 : Nat) : Int) = true ∧ okN (-(-(((if cos = true then A else B) + 1024 : Nat) : Int) / 2 ^ 20)) = true ∧ okN (lo : Int) = true ∧ okN (hi : Int) = true ∧ p ≤ 900 then
  some ((((if cos = true then B else A) - 1024 : Nat) : Int) / 2 ^ 20, -(-(((if cos = true then A else B) + 1024 : Nat) : Int) / 2 ^ 20)) else none
theorem smaS_q {x q : Nat} {cos : Bool} {A : Nat} (h : smaS x q cos = some A) (hq0 : 0 < q) (hq : q ≤ 1000) : okN (A : Int) = true ∧ okN (x : Int) = true ∧ ∀ va w, Wid w va (x : Int) → Calls Tryz.prog 137 #[va, .int .i64 q, .bool cos] w fun e w' => ∃ u, e = .returned u ∧ Wid w' u (A : Int) ∧ Ext w w' := by
 unfold smaS at h
 split at h
 ·rename_i k
  exact ⟨rserF_res h, k.1, fun va w ha => q_series va x q 1000 A _ _ cos w ha k.1 k.2 hq0 hq rfl rfl h⟩
 ·cases h
theorem q_small (va : Value) (lo hi p : Nat) (cos : Bool) (R : Int × Int) (w : World) (ha : PairV w va (lo : Int) (hi : Int)) (hF : smaF lo hi p cos = some R) :
    Calls Tryz.prog 76 #[va, .int .i64 p, .bool cos] w fun e w' => ∃ u, e = .returned u ∧ PairV w' u R.1 R.2 ∧ Ext w w' := by
 unfold smaF at hF
 rw [Option.bind_eq_some_iff] at hF
 obtain ⟨A, hA, hF⟩ := hF
 rw [Option.bind_eq_some_iff] at hF
 obtain ⟨B, hB, hF⟩ := hF
 obtain ⟨C, hC⟩ : ∃ C, (if cos = true then B else A) = C := ⟨_, rfl⟩
 obtain ⟨D, hD⟩ : ∃ D, (if cos = true then A else B) = D := ⟨_, rfl⟩
 rw [hC, hD] at hF
 split at hF
 case isFalse => cases hF
 rename_i k0
 obtain ⟨k1, k2, k3, k4, k5, k6⟩ := k0
 obtain rfl := Option.some.inj hF
 clear hF
 obtain ⟨oA, ox, hsA0⟩ := smaS_q hA (by omega) (by omega)
 obtain ⟨oB, oz, hsB0⟩ := smaS_q hB (by omega) (by omega)
 clear hA hB
 obtain ⟨x, hx⟩ : ∃ x, lo * 2 ^ 20 = x := ⟨_, rfl⟩
 obtain ⟨z, hz⟩ : ∃ z, hi * 2 ^ 20 = z := ⟨_, rfl⟩
 rw [hx] at ox hsA0
 rw [hz] at oz hsB0
 obtain ⟨q, hq⟩ : ∃ q, p + 20 = q := ⟨_, rfl⟩
 rw [hq] at hsA0 hsB0
 have hslo : ∀ (w1 : World) (u1 : Value), Wid w1 u1 (lo : Int) → Calls Tryz.prog 127 #[u1, .int .i64 20] w1 fun e w' => ∃ u, e = .returned u ∧ ((VF.wid (x : Int)).err 0).p u w' ∧ Ext w1 w' := fun w1 u1 k => by
  have := calls_err (r_ShiftU u1 (lo : Int) 20 w1 k (okN.sz k4) (by decide) (by rw [show (lo : Int) * 2 ^ 20 = ((lo * 2 ^ 20 : Nat) : Int) by rw [Int.natCast_mul, Int.natCast_pow]; rfl, hx]; exact okN.sz ox) |>.mono fun e w' ⟨u, h1, h2, h3⟩ => ⟨u, h1, (show (VF.wid ((lo : Int) * 2 ^ 20)).p u w' from h2), h3⟩)
  rw [show (lo : Int) * 2 ^ 20 = (x : Int) by rw [← hx, Int.natCast_mul, Int.natCast_pow]; rfl] at this
  exact this
 have hshi : ∀ (w1 : World) (u1 : Value), Wid w1 u1 (hi : Int) → Calls Tryz.prog 127 #[u1, .int .i64 20] w1 fun e w' => ∃ u, e = .returned u ∧ ((VF.wid (z : Int)).err 0).p u w' ∧ Ext w1 w' := fun w1 u1 k => by
  have := calls_err (r_ShiftU u1 (hi : Int) 20 w1 k (okN.sz k5) (by decide) (by rw [show (hi : Int) * 2 ^ 20 = ((hi * 2 ^ 20 : Nat) : Int) by rw [Int.natCast_mul, Int.natCast_pow]; rfl, hz]; exact okN.sz oz) |>.mono fun e w' ⟨u, h1, h2, h3⟩ => ⟨u, h1, (show (VF.wid ((hi : Int) * 2 ^ 20)).p u w' from h2), h3⟩)
  rw [show (hi : Int) * 2 ^ 20 = (z : Int) by rw [← hz, Int.natCast_mul, Int.natCast_pow]; rfl] at this
  exact this
 have hof : ∀ (w1 : World), Calls Tryz.prog 132 #[.int .i64 10] w1 fun e w' => ∃ u, e = .returned u ∧ Wid w' u (1024 : Int) ∧ Ext w1 w' := fun w1 => by
  refine (q_power 10 w1 (by decide) (small_bits (k := 12) (by decide) (by decide))).mono ?_
  rintro e w' ⟨u, rfl, h2, h3⟩
  exact ⟨u, rfl, h2.wid, h3⟩
 have hsA : ∀ (w1 : World) (u1 u2 u3 : Value), Wid w1 u1 (x : Int) → u2 = .int .i64 (q : Int) → u3 = .bool cos → Calls Tryz.prog 137 #[u1, u2, u3] w1 fun e w' => ∃ u, e = .returned u ∧ Wid w' u (A : Int) ∧ Ext w1 w' := fun w1 u1 u2 u3 a b c => by subst b c; exact hsA0 u1 w1 a
 have hsB : ∀ (w1 : World) (u1 u2 u3 : Value), Wid w1 u1 (z : Int) → u2 = .int .i64 (q : Int) → u3 = .bool cos → Calls Tryz.prog 137 #[u1, u2, u3] w1 fun e w' => ∃ u, e = .returned u ∧ Wid w' u (B : Int) ∧ Ext w1 w' := fun w1 u1 u2 u3 a b c => by subst b c; exact hsB0 u1 w1 a
 have oC : okN (C : Int) = true := by rw [← hC]; split <;> assumption
 have oD : okN (D : Int) = true := by rw [← hD]; split <;> assumption
 have hsu : ∀ (w1 : World) (u1 u2 : Value), Wid w1 u1 (C : Int) → Wid w1 u2 (1024 : Int) → Calls Tryz.prog 130 #[u1, u2] w1 fun e w' => ∃ u, e = .returned u ∧ Wid w' u ((C - 1024 : Nat) : Int) ∧ Ext w1 w' := fun w1 u1 u2 a b => by
  have := q_subI a b (Int.natCast_nonneg _) (by decide) oC (by decide) (by omega)
  rw [show (C : Int) - 1024 = ((C - 1024 : Nat) : Int) by omega] at this
  exact this
 have had : ∀ (w1 : World) (u1 u2 : Value), Wid w1 u1 (D : Int) → Wid w1 u2 (1024 : Int) → Calls Tryz.prog 75 #[u1, u2] w1 fun e w' => ∃ u, e = .returned u ∧ Wid w' u ((D + 1024 : Nat) : Int) ∧ Ext w1 w' := fun w1 u1 u2 a b => by
  have := q_addI a b (Int.natCast_nonneg _) (by decide) oD (by decide) (by rw [show (D : Int) + 1024 = ((D + 1024 : Nat) : Int) by omega]; exact k2)
  rw [show (D : Int) + 1024 = ((D + 1024 : Nat) : Int) by omega] at this
  exact this
 obtain ⟨L, hL⟩ : ∃ L, ((C - 1024 : Nat) : Int) / 2 ^ 20 = L := ⟨_, rfl⟩
 obtain ⟨H, hH⟩ : ∃ H, -(-((D + 1024 : Nat) : Int) / 2 ^ 20) = H := ⟨_, rfl⟩
 rw [hH] at k3
 have hdn : ∀ (w1 : World) (u1 : Value), Wid w1 u1 ((C - 1024 : Nat) : Int) → Calls Tryz.prog 68 #[u1, .int .i64 20] w1 fun e w' => ∃ u, e = .returned u ∧ Wid w' u L ∧ Ext w1 w' := fun w1 u1 a => by
  have := q_down u1 _ 20 w1 a (by unfold Sz; rw [Int.natAbs_natCast]; exact Small.le (okN.small oC) (Nat.sub_le _ _)) (by decide) (by decide)
  rw [hL] at this; exact this
 have hup : ∀ (w1 : World) (u1 : Value), Wid w1 u1 ((D + 1024 : Nat) : Int) → Calls Tryz.prog 133 #[u1, .int .i64 20] w1 fun e w' => ∃ u, e = .returned u ∧ Wid w' u H ∧ Ext w1 w' := fun w1 u1 a => by
  have := q_up u1 _ 20 w1 a (okN.sz k2) (by decide) (by decide) (by rw [show -((D + 1024 : Nat) : Int) / 2 ^ 20 = -H by omega]; have := okN.sz k3; unfold Sz at this ⊢; rw [Int.natAbs_neg]; exact this)
  rw [hH] at this; exact this
 rw [hL, hH]
 have hpq : IntKind.i64.wrap ((p : Int) + 20) = (q : Int) := by rw [IntKind.wrap_i64]; omega
 clear hsA0 hsB0 hx hz ox oz oA oB oC oD k1 k2 k3 k4 k5 hL hH
 obtain ⟨sa, aoa, na, capa, sb, aob, nb, capb, rfl, hA, hB⟩ := ha.open
 have I0 : KBd w [] w := ⟨Ext.refl w, trivial, by simp, by simp⟩
 have I := ((I0.push ((Ext.refl w).alloc (.cells #[.bool sa, .slice aoa na capa, .bool sb, .slice aob nb capb] 68)) (BF.pat (lo : Int) (hi : Int)) (PatP.new hA hB)).new [.bool false, .slice none 0 0, .bool false, .slice none 0 0] 68 (by simp))
 simp only [World.size_alloc, List.nil_append, List.cons_append] at I
 clear I0 hA hB ha
 go_enter Tryz.func76, Tryz.ntmps76
 go_upto_region 1 with fail
 go_cut [7] (fun s7 wx => s7 = .int .i64 (q : Int) ∧ wx = (w.alloc (.cells #[.bool sa, .slice aoa na capa, .bool sb, .slice aob nb capb] 68)).alloc (.cells #[.bool false, .slice none 0 0, .bool false, .slice none 0 0] 68))
 case first =>
  go_wp2_with fail
  go_meet
  case rel => exact ⟨rfl, rfl⟩
 case rest =>
  obtain ⟨rfl, rfl⟩ := hcut
  go_upto_region 2 with fail
  refine wp_regB [] [⟨6, some 7, BF.b2, (BF.wat (x : Int))⟩] (fun z_ => ([VF.eq (.pointer (some ⟨w.heap.size, 0, none⟩)), VF.wid ((lo : Int)), (VF.wid (x : Int)).err 0, (VF.wid (x : Int)).err 0, VF.wid ((x : Int)), VF.eq (.int .i64 (0)), VF.any, VF.any, VF.eq (.int .i64 (0))] : List VF).getD z_ VF.any) I (fun hc => ⟨?_, ?_, ?_, ?_, ?_, ?_, ?_, ?_, ?_, trivial⟩) (fun vs gl W hK0 hv hp => ?_)
  ·exact ob_e1 (x := .tmp 3) (a := .pointer (some ⟨w.heap.size, 0, none⟩)) (u := .pointer (some ⟨w.heap.size, 0, none⟩)) none hc
  ·exact ob_getP0 w.heap.size (lo : Int) (hi : Int) (some 0) hc rfl fun vs gs w1 c => c.b0 0
  ·exact ob_call (fun v => [v 1, .int .i64 20]) hc rfl fun vs gs w1 c => hslo _ _ (c.v 1)
  ·exact ob_cp 2 hc (.inl rfl)
  ·exact ob_ext0 3 hc rfl
  ·exact ob_ext1 3 hc rfl
  ·exact b_15
  ·exact ob_putW (n := 2) rfl 4 hc rfl 0
  ·exact ob_cp 5 hc (.inr rfl)
  have p0 : vs 6 = .pointer (some ⟨gl 0, 0, none⟩) := hp 0 _ rfl
  simp only [putS, Nat.reduceAdd, Act.put, List.setIfInBounds_toArray, List.set_cons_zero, List.set_cons_succ, p0]
  obtain ⟨g8, e90⟩ : ∃ n, gl 0 = n := ⟨_, rfl⟩
  simp only [kb_, e90] at hK0
  rw [e90]
  replace I := hK0
  clear hK0 hv hp gl p0 e90
  go_upto_region 3 with fail
  refine wp_regB [] [⟨6, some 7, BF.b2, (BF.wat (z : Int))⟩] (fun z_ => ([VF.eq (.pointer (some ⟨w.heap.size, 2, none⟩)), VF.wid ((hi : Int)), (VF.wid (z : Int)).err 0, (VF.wid (z : Int)).err 0, VF.wid ((z : Int)), VF.eq (.int .i64 (0)), VF.any, VF.any, VF.eq (.int .i64 (0))] : List VF).getD z_ VF.any) I (fun hc => ⟨?_, ?_, ?_, ?_, ?_, ?_, ?_, ?_, ?_, trivial⟩) (fun vs gl W hK0 hv hp => ?_)
  ·exact ob_e1 (x := .tmp 3) (a := .pointer (some ⟨w.heap.size, 0, none⟩)) (u := .pointer (some ⟨w.heap.size, 2, none⟩)) none hc
  ·exact ob_getP2 w.heap.size (lo : Int) (hi : Int) (some 0) hc rfl fun vs gs w1 c => c.b0 0
  ·exact ob_call (fun v => [v 1, .int .i64 20]) hc rfl fun vs gs w1 c => hshi _ _ (c.v 1)
  ·exact ob_cp 2 hc (.inl rfl)
  ·exact ob_ext0 3 hc rfl
  ·exact ob_ext1 3 hc rfl
  ·exact b_29
  ·exact ob_putW (n := 3) rfl 4 hc rfl 0
  ·exact ob_cp 5 hc (.inr rfl)
  have p0 : vs 6 = .pointer (some ⟨gl 0, 0, none⟩) := hp 0 _ rfl
  simp only [putS, Nat.reduceAdd, Act.put, List.setIfInBounds_toArray, List.set_cons_zero, List.set_cons_succ, p0]
  obtain ⟨g10, e90⟩ : ∃ n, gl 0 = n := ⟨_, rfl⟩
  simp only [kb_, e90] at hK0
  rw [e90]
  replace I := hK0
  clear hK0 hv hp gl p0 e90
  go_upto_region 4 with fail
  refine wp_regB [] [⟨1, some 2, BF.b2, (BF.wat (1024 : Int))⟩] (fun z_ => ([VF.wid ((1024 : Int))] : List VF).getD z_ VF.any) I (fun hc => ⟨?_, ?_, ?_, trivial⟩) (fun vs gl W hK0 hv hp => ?_)
  ·exact ob_call (fun v => [.int .i64 10]) hc rfl fun vs gs w1 c => hof _
  ·exact ob_allocW (n := 4) rfl hc rfl rfl rfl
  ·exact ob_putW (n := 4) rfl 0 hc rfl 0
  have p0 : vs 1 = .pointer (some ⟨gl 0, 0, none⟩) := hp 0 _ rfl
  simp only [putS, Nat.reduceAdd, Act.put, List.setIfInBounds_toArray, List.set_cons_zero, List.set_cons_succ, p0]
  obtain ⟨g12, e90⟩ : ∃ n, gl 0 = n := ⟨_, rfl⟩
  simp only [kb_, e90] at hK0
  rw [e90]
  replace I := hK0
  clear hK0 hv hp gl p0 e90
  go_upto_region 5 with fail
  refine wp_regB [] [⟨8, some 10, BF.b2, (BF.wat (A : Int))⟩, ⟨9, some 11, BF.b2, (BF.wat (B : Int))⟩] (fun z_ => ([VF.wid ((x : Int)), VF.eq (.int .i64 (q)), VF.eq (.bool cos), VF.wid ((A : Int)), VF.wid ((z : Int)), VF.eq (.int .i64 (q)), VF.eq (.bool cos), VF.wid ((B : Int))] : List VF).getD z_ VF.any) I (fun hc => ⟨?_, ?_, ?_, ?_, ?_, ?_, ?_, ?_, ?_, ?_, ?_, ?_, trivial⟩) (fun vs gl W hK0 hv hp => ?_)
  ·exact ob_getW g8 ((x : Int)) hc rfl fun vs gs w1 c => c.b0 2
  ·exact ob_mv hc (.inl rfl)
  ·exact ob_mv hc (.inl rfl)
  ·exact ob_call (fun v => [v 0, v 1, v 2]) hc rfl fun vs gs w1 c => hsA _ _ _ _ (c.v 0) (c.v 1) (c.v 2)
  ·exact ob_getW g10 ((z : Int)) hc rfl fun vs gs w1 c => c.b0 3
  ·exact ob_mv hc (.inl rfl)
  ·exact ob_mv hc (.inl rfl)
  ·exact ob_call (fun v => [v 4, v 5, v 6]) hc rfl fun vs gs w1 c => hsB _ _ _ _ (c.v 4) (c.v 5) (c.v 6)
  ·exact b_17
  ·exact ob_allocW (n := 6) rfl hc rfl rfl rfl
  ·exact ob_putW (n := 5) rfl 3 hc rfl 0
  ·exact ob_putW (n := 6) rfl 7 hc rfl 0
  have p0 : vs 8 = .pointer (some ⟨gl 0, 0, none⟩) := hp 0 _ rfl
  have p1 : vs 9 = .pointer (some ⟨gl 1, 0, none⟩) := hp 1 _ rfl
  simp only [putS, Nat.reduceAdd, Act.put, List.setIfInBounds_toArray, List.set_cons_zero, List.set_cons_succ, p0, p1]
  obtain ⟨ga, e90⟩ : ∃ n, gl 0 = n := ⟨_, rfl⟩
  obtain ⟨gb, e91⟩ : ∃ n, gl 1 = n := ⟨_, rfl⟩
  simp only [kb_, e90, e91] at hK0
  rw [e90, e91]
  replace I := hK0
  clear hK0 hv hp gl p0 p1 e90 e91
  clear hslo hshi hof hsA hsB
  go_upto_if 38 with fail
  go_cut [] from 39 to 40 (fun wx => KBd w [(w.heap.size, BF.pat (lo : Int) (hi : Int)), (w.heap.size + 1, BF.own [.bool false, .slice none 0 0, .bool false, .slice none 0 0]), (g8, BF.wat (x : Int)), (g10, BF.wat (z : Int)), (g12, BF.wat (1024 : Int)), (ga, BF.wat (C : Int)), (gb, BF.wat (D : Int))] wx)
  case first =>
   cases cos
   ·simp at hC hD
    subst hC hD
    go_wp2_with fail
    go_meet
    case rel => exact I
   ·simp at hC hD
    subst hC hD
    go_upto_region 7 with fail
    refine wp_regB [[], [], [], [], [], [(2, BF.wat (B : Int))], [(3, BF.wat (A : Int))]] [] (fun z_ => ([VF.wid ((B : Int)), VF.wid ((A : Int))] : List VF).getD z_ VF.any) I (fun hc => ⟨?_, ?_, ?_, ?_, trivial⟩) (fun vs gl W hK0 hv hp => ?_)
    ·exact ob_getW gb ((B : Int)) hc rfl fun vs gs w1 c => c.b0 6
    ·exact ob_getW ga ((A : Int)) hc rfl fun vs gs w1 c => c.b0 5
    ·exact ob_putW (n := 5) rfl 0 hc rfl 0
    ·exact ob_putW (n := 6) rfl 1 hc rfl 0
    simp only [putS, Nat.reduceAdd, Act.put, List.setIfInBounds_toArray, List.set_cons_zero, List.set_cons_succ]
    simp only [kb_] at hK0
    replace I := hK0
    clear hK0 hv hp gl
    go_wp2_with fail
    go_meet
    case rel => exact I
  case rest =>
   replace I := hcut
   clear hcut hC hD
   go_upto_region 8 with fail
   refine wp_regB [[], [(9, BF.pat L H)]] [] (fun z_ => ([VF.wid ((C : Int)), VF.wid ((1024 : Int)), VF.wid (((C - 1024 : Nat) : Int)), VF.wid (L), VF.wid ((D : Int)), VF.wid ((1024 : Int)), VF.wid (((D + 1024 : Nat) : Int)), VF.wid (H), VF.pair (L) (H)] : List VF).getD z_ VF.any) I (fun hc => ⟨?_, ?_, ?_, ?_, ?_, ?_, ?_, ?_, ?_, ?_, trivial⟩) (fun vs gl W hK0 hv hp => ?_)
   ·exact ob_getW ga ((C : Int)) hc rfl fun vs gs w1 c => c.b0 5
   ·exact ob_getW g12 ((1024 : Int)) hc rfl fun vs gs w1 c => c.b0 4
   ·exact ob_call (fun v => [v 0, v 1]) hc rfl fun vs gs w1 c => hsu _ _ _ (c.v 0) (c.v 1)
   ·exact ob_call (fun v => [v 2, .int .i64 20]) hc rfl fun vs gs w1 c => hdn _ _ (c.v 2)
   ·exact ob_getW gb ((D : Int)) hc rfl fun vs gs w1 c => c.b0 6
   ·exact ob_getW g12 ((1024 : Int)) hc rfl fun vs gs w1 c => c.b0 4
   ·exact ob_call (fun v => [v 4, v 5]) hc rfl fun vs gs w1 c => had _ _ _ (c.v 4) (c.v 5)
   ·exact ob_call (fun v => [v 6, .int .i64 20]) hc rfl fun vs gs w1 c => hup _ _ (c.v 6)
   ·exact ob_buildP (q := L) (r := H) 3 7 hc rfl
   ·exact ob_putP (n := 1) rfl 8 hc rfl 0
   simp only [putS, Nat.reduceAdd, Act.put, List.setIfInBounds_toArray, List.set_cons_zero, List.set_cons_succ]
   simp only [kb_] at hK0
   replace I := hK0
   clear hK0 hv hp gl
   obtain ⟨⟨bs, us, bt, ut, x0, x1, x2, x3, x4, x5⟩, x6, -, -⟩ := (show PatP W (w.heap.size + 1) L H from I.at 1)
   have hEx := I.e
   clear I
   go_wp2_with fail
   refine bodyPost_ret (v := .agg #[.bool bs, us, .bool bt, ut]) ?_ rfl ⟨_, rfl, ⟨_, _, _, _, rfl, x4, x5⟩, hEx⟩
   simp [results, Tryz.results76, go_sem, ↓IntWalk.iteOmega, *]
theorem q_Circle8 (a b F : Nat) (lo hi : Int) (w : World) (hF : F ≤ 100000) (ra : invF 5 F 0 (2 ^ 100 / 5) 0 = some a) (rb : invF 239 F 0 (2 ^ 100 / 239) 0 = some b) (k1 : okN ((16 * a : Nat) : Int) = true) (k2 : okN ((4 * b : Nat) : Int) = true) (k3 : 4 * b ≤ 16 * a) (k4 : 2 ^ 16 ≤ 16 * a - 4 * b) (k5 : okN ((16 * a - 4 * b + 2 ^ 16 : Nat) : Int) = true)
    (hlo : ((16 * a - 4 * b - 2 ^ 16 : Nat) : Int) / 2 ^ 20 = lo) (hhi : -((16 * a - 4 * b + 2 ^ 16 : Nat) : Int) / 2 ^ 20 = -hi) (k6 : okN hi = true) :
    Calls Tryz.prog 71 #[.int .i64 80] w fun e w' => ∃ u, e = .returned u ∧ PairV w' u lo hi ∧ Ext w w' := by
 have ha : okN (a : Int) = true := invF_res ra
 have hb : okN (b : Int) = true := invF_res rb
 have h16 : ∀ w, Calls Tryz.prog 74 #[.int .i64 16] w fun e w' => ∃ u, e = .returned u ∧ Nn w' u 16 ∧ Ext w w' := fun w => q_from 16 w (by decide)
 have h4 : ∀ w, Calls Tryz.prog 74 #[.int .i64 4] w fun e w' => ∃ u, e = .returned u ∧ Nn w' u 4 ∧ Ext w w' := fun w => q_from 4 w (by decide)
 have hi5 : ∀ w, Calls Tryz.prog 131 #[.int .i64 5, .int .i64 100] w fun e w' => ∃ u, e = .returned u ∧ Nn w' u a ∧ Ext w w' := fun w => q_inverse 5 100 F a w (by decide) (by decide) (by decide) hF ra
 have hi2 : ∀ w, Calls Tryz.prog 131 #[.int .i64 239, .int .i64 100] w fun e w' => ∃ u, e = .returned u ∧ Nn w' u b ∧ Ext w w' := fun w => q_inverse 239 100 F b w (by decide) (by decide) (by decide) hF rb
 have hm1 := fun u v w1 (h : Nn w1 u 16) (h2 : Nn w1 v a) => q_mul u v 16 a w1 h h2 (small_bits (k := 64) (by decide) (by decide)) (okN.small ha) (okN.small k1)
 have hm2 := fun u v w1 (h : Nn w1 u 4) (h2 : Nn w1 v b) => q_mul u v 4 b w1 h h2 (small_bits (k := 64) (by decide) (by decide)) (okN.small hb) (okN.small k2)
 have hsb := fun u v w1 (h : Nn w1 u (16 * a)) (h2 : Nn w1 v (4 * b)) => q_sub u v (16 * a) (4 * b) w1 h h2 (okN.small k1) (okN.small k2) k3
 have sO : Small (2 ^ 16) := small_bits (k := 17) (by decide) (by decide)
 have hpw : ∀ w, Calls Tryz.prog 132 #[.int .i64 16] w fun e w' => ∃ u, e = .returned u ∧ Nn w' u (2 ^ 16) ∧ Ext w w' := fun w => q_power 16 w (by decide) sO
 have sX : Small (16 * a - 4 * b) := Small.le (okN.small k5) (Nat.le_add_right _ _)
 have sXO := okN.small k5
 have hdn : ∀ v w1, Nn w1 v (16 * a - 4 * b - 2 ^ 16) → Calls Tryz.prog 68 #[v, .int .i64 20] w1 fun e w' => ∃ u, e = .returned u ∧ Wid w' u lo ∧ Ext w1 w' := fun v w1 h => by
  have := q_down v _ 20 w1 h.wid (by unfold Sz; rw [Int.natAbs_natCast]; exact Small.le sX (Nat.sub_le _ _)) (by decide) (by decide)
  rw [hlo] at this; exact this
 have hup : ∀ v w1, Nn w1 v (16 * a - 4 * b + 2 ^ 16) → Calls Tryz.prog 133 #[v, .int .i64 20] w1 fun e w' => ∃ u, e = .returned u ∧ Wid w' u hi ∧ Ext w1 w' := fun v w1 h => by
  have := q_up v _ 20 w1 h.wid (by unfold Sz; rw [Int.natAbs_natCast]; exact sXO) (by decide) (by decide) (by rw [hhi]; unfold Sz; rw [Int.natAbs_neg]; exact okN.sz k6)
  rw [hhi, Int.neg_neg] at this; exact this
 clear hlo hhi k1 k2 k3 k5 k6 ra rb ha hb
 have hOX := k4
 clear k4
 generalize 16 * a - 4 * b = X at *
 generalize 16 * a = A at *
 generalize 4 * b = B at *
 generalize 2 ^ 16 = O at *
 go_enter Tryz.func71, Tryz.ntmps71
 go_upto_region 4 with (first
  | (go_at_call 74; (with_reducible refine (h16 _).mono ?_); rintro e w1 ⟨y1, rfl, hy1, hb1⟩; obtain ⟨_, _, ⟨hc1, hf1⟩, hz1⟩ := hb1.c3; (try simp only [wsz] at hz1 hc1 hf1); clear h16)
  | (go_at_call 131; (with_reducible refine (hi5 _).mono ?_); rintro e w2 ⟨y2, rfl, hy2, hb2⟩; obtain ⟨_, _, ⟨hc2, hf2⟩, hz2⟩ := hb2.c3; (try simp only [wsz] at hz2 hc2 hf2); clear hi5)
  | (go_at_call 73; (with_reducible refine (hm1 _ _ _ (hy1.ext hb2) hy2).mono ?_); rintro e w3 ⟨y3, rfl, hy3, hb3⟩; obtain ⟨_, _, ⟨hc3, hf3⟩, hz3⟩ := hb3.c3; (try simp only [wsz] at hz3 hc3 hf3); clear hm1)
  | (go_at_call 74; (with_reducible refine (h4 _).mono ?_); rintro e w4 ⟨y4, rfl, hy4, hb4⟩; obtain ⟨_, _, ⟨hc4, hf4⟩, hz4⟩ := hb4.c3; (try simp only [wsz] at hz4 hc4 hf4); clear h4)
  | (go_at_call 131; (with_reducible refine (hi2 _).mono ?_); rintro e w5 ⟨y5, rfl, hy5, hb5⟩; obtain ⟨_, _, ⟨hc5, hf5⟩, hz5⟩ := hb5.c3; (try simp only [wsz] at hz5 hc5 hf5); clear hi2)
  | (go_at_call 73; (with_reducible refine (hm2 _ _ _ (hy4.ext hb5) hy5).mono ?_); rintro e w6 ⟨y6, rfl, hy6, hb6⟩; obtain ⟨_, _, ⟨hc6, hf6⟩, hz6⟩ := hb6.c3; (try simp only [wsz] at hz6 hc6 hf6); clear hm2)
  | (go_at_call 130; (with_reducible refine (hsb _ _ _ (hy3.ext (Ext.trans hb4 (Ext.trans hb5 hb6))) hy6).mono ?_); rintro e w7 ⟨y7, rfl, hy7, hb7⟩; obtain ⟨ao7, cap7, rfl, hy77⟩ := hy7.open; obtain ⟨_, _, ⟨hc7, hf7⟩, hz7⟩ := hb7.c3; (try simp only [wsz] at hz7 hc7 hf7); clear hsb)
  | (go_at_call 132; (with_reducible refine (hpw _).mono ?_); rintro e w8 ⟨y8, rfl, hy8, hb8⟩; obtain ⟨ao8, cap8, rfl, hy88⟩ := hy8.open; obtain ⟨_, _, ⟨hc8, hf8⟩, hz8⟩ := hb8.c3; (try simp only [wsz] at hz8 hc8 hf8); clear hpw))
 have hE7 : Ext (w.alloc (.cells #[.bool false, .slice none 0 0, .bool false, .slice none 0 0] 68)) w7 := ex_
 have hE8 : Ext w7 w8 := Ext.trans ((Ext.refl w7).alloc _) hb8
 obtain ⟨V, hV⟩ : ∃ V, w8.alloc (.cells #[.bool false, .slice ao8 (dig O).length cap8] 24) = V := ⟨_, rfl⟩
 have hE8V : Ext w8 V := by rw [← hV]; exact (Ext.refl w8).alloc _
 have hWx : WAt V w7.heap.size (X : Int) := (WAt.lit hy77.wid).ext (Ext.trans hb8 hE8V)
 have hWo : WAt V w8.heap.size (O : Int) := by rw [← hV]; exact WAt.lit hy88.wid
 have hB4 : Bx4 V w.heap.size := (Bx4.fresh w).ext (Ext.trans hE7 (Ext.trans hE8 hE8V))
 have hEv : Ext w V := Ext.trans ((Ext.refl w).alloc _) (Ext.trans hE7 (Ext.trans hE8 hE8V))
 have hs7 := hE7.size
 rw [World.size_alloc] at hs7
 have hs8 := hE8.size
 rw [hV]
 clear hV hE7 hE8 hE8V hy1 hy2 hy3 hy4 hy5 hy6 hy7 hy8 hy77 hy88 hb1 hb2 hb3 hb4 hb5 hb6 hb7 hb8 hc1 hc2 hc3 hc4 hc5 hc6 hc7 hc8 hf1 hf2 hf3 hf4 hf5 hf6 hf7 hf8
 obtain ⟨aoX, capX, d0, d1, hNx, hfX⟩ := hWx.openN
 obtain ⟨aoO, capO, e0, e1, hNo, hfO⟩ := hWo.openN
 have hg4 := hWx.lt
 have hg5 := hWo.lt
 replace hNx := hNx.ext ((Ext.refl V).drew)
 replace hNo := hNo.ext ((Ext.refl V).drew)
 replace hB4 := hB4.ext ((Ext.refl V).drew)
 refine wp_region_held_drew (S := (fun w0 => GB w.heap.size V w0)) c_2 ?_ (fun hH => ?_)
 ·exact (GB.refl _ _).drew
 try simp only [sx_]
 refine tk 0 rfl c_3 ?_
 try simp only [sx_]
 refine tk 1 rfl c_3 ?_
 try simp only [sx_]
 refine tk 4 rfl c_3 ?_
 try simp only [sx_]
 refine tk 5 rfl c_3 ?_
 try simp only [sx_]
 refine rh1 2 rfl fun K hK => ?_
 go_simp
 (go_at_call 130; (with_reducible refine (q_sub _ _ X O _ hNx hNo sX sO hOX).mono ?_); rintro e w1 ⟨y1, rfl, hf1, hx⟩)
 replace hNx := hNx.ext hx
 replace hNo := hNo.ext hx
 replace hB4 := hB4.ext hx
 refine hK.out _ _ ?_ fun _ => ?_
 ·exact b_12
 clear hK K hH
 rename_i hH
 try simp only [sx_]
 refine rh1 3 rfl fun K hK => ?_
 go_simp
 (go_at_call 68; (with_reducible refine (hdn _ _ hf1).mono ?_); rintro e w2 ⟨y2, rfl, hf2, hx⟩)
 replace hNx := hNx.ext hx
 replace hNo := hNo.ext hx
 replace hB4 := hB4.ext hx
 replace hf1 := hf1.ext hx
 obtain ⟨s2, ao2, n2, cap2, rfl, hf3⟩ := hf2.open
 refine hK.out _ _ ?_ fun _ => ?_
 ·exact b_12
 clear hK K hH
 rename_i hH
 try simp only [sx_]
 refine rh1 6 rfl fun K hK => ?_
 go_simp
 (go_at_call 75; (with_reducible refine (q_add _ _ X O _ hNx hNo sX sO sXO).mono ?_); rintro e w3 ⟨y3, rfl, hf4, hx⟩)
 replace hNx := hNx.ext hx
 replace hNo := hNo.ext hx
 replace hB4 := hB4.ext hx
 replace hf1 := hf1.ext hx
 replace hf3 := hf3.ext hx
 refine hK.out _ _ ?_ fun _ => ?_
 ·exact b_12
 clear hK K hH
 rename_i hH
 try simp only [sx_]
 refine rh1 7 rfl fun K hK => ?_
 go_simp
 (go_at_call 133; (with_reducible refine (hup _ _ hf4).mono ?_); rintro e w4 ⟨y4, rfl, hf5, hx⟩)
 replace hNx := hNx.ext hx
 replace hNo := hNo.ext hx
 replace hB4 := hB4.ext hx
 replace hf1 := hf1.ext hx
 replace hf3 := hf3.ext hx
 replace hf4 := hf4.ext hx
 obtain ⟨s5, ao5, n5, cap5, rfl, hf6⟩ := hf5.open
 refine hK.out _ _ ?_ fun _ => ?_
 ·exact b_12
 clear hK K hH
 rename_i hH
 try simp only [sx_]
 refine sK 8 ?_
 refine rh1 9 rfl fun K hK => ?_
 obtain ⟨⟨xa, h3a⟩, ⟨xb, h3b⟩, ⟨xc, h3c⟩, ⟨xd, h3d⟩, h3f, hnu, hsl⟩ := hB4
 go_simp
 refine hK.out _ _ ?_ fun _ => ?_
 ·(try dsimp only); exact (((GB.set hH _).set _).set _).set _
 clear hK K hH
 rename_i hH
 try simp only [sx_]
 refine wpAnyH_done c_2 ?_ _
 go_wp2_with fail
 refine bodyPost_ret (v := .agg #[.bool s2, .slice ao2 n2 cap2, .bool s5, .slice ao5 n5 cap5]) ?_ rfl ⟨_, rfl, ⟨_, _, _, _, rfl, ?_, ?_⟩, ?_⟩
 ·simp [results, Tryz.results71, go_sem, ↓IntWalk.iteOmega, h3a, h3b, h3c, h3d]
 ·refine Wid.box (Wid.box (Wid.box (Wid.box hf3 ?_) ?_) ?_) ?_ <;> (repeat (first | with_reducible exact hnu | with_reducible refine NoU.set ?_ (fun z e => by cases e)))
 ·refine Wid.box (Wid.box (Wid.box (Wid.box hf6 ?_) ?_) ?_) ?_ <;> (repeat (first | with_reducible exact hnu | with_reducible refine NoU.set ?_ (fun z e => by cases e)))
 ·exact GB.pre hEv hH (Nat.le_refl _)
end Go.Proofs.YtogblocakccbgaaGreat
