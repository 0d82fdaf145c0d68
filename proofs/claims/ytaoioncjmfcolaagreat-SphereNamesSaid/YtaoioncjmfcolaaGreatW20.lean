/- sphere: frame. -/
import Derived.Test.YtaoioncjmfcolaaGreatW19
set_option linter.unusedSimpArgs false
set_option linter.unusedVariables false
set_option maxRecDepth 100000
set_option maxHeartbeats 4000000
namespace Go.Proofs.YtaoioncjmfcolaaGreat
open Go.RowKit
def eastV (cr sr : Int × Int) : V3 := ⟨(doI 0 (subI 0 0 sr.1 sr.2)).lo, (doI 0 (subI 0 0 sr.1 sr.2)).hi, cr.1, cr.2, 0, 0⟩
def frM1 (cr sr sd : Int × Int) : R3 := doI (doI 0 (subI 0 0 sr.1 sr.2)).e (mulI sd.1 sd.2 cr.1 cr.2)
def frN2 (cr sr sd : Int × Int) : R3 := doI (frM1 cr sr sd).e (subI 0 0 (frM1 cr sr sd).lo (frM1 cr sr sd).hi)
def frM2 (cr sr sd : Int × Int) : R3 := doI (frN2 cr sr sd).e (mulI sd.1 sd.2 sr.1 sr.2)
def frN3 (cr sr sd : Int × Int) : R3 := doI (frM2 cr sr sd).e (subI 0 0 (frM2 cr sr sd).lo (frM2 cr sr sd).hi)
def northV (cd cr sr sd : Int × Int) : V3 := ⟨(frN2 cr sr sd).lo, (frN2 cr sr sd).hi, (frN3 cr sr sd).lo, (frN3 cr sr sd).hi, cd.1, cd.2⟩
theorem p_frame (ra dec : Int) (cd cr sr sd : Int × Int) (w : World) (hcd0 : ∀ w1 : World, Calls Tryz.prog 68 #[.int .i64 dec] w1 fun e w' => e = .returned (.agg #[.int .i64 cd.1, .int .i64 cd.2]) ∧ Ext w1 w') (hcr0 : ∀ w1 : World, Calls Tryz.prog 68 #[.int .i64 ra] w1 fun e w' => e = .returned (.agg #[.int .i64 cr.1, .int .i64 cr.2]) ∧ Ext w1 w') (hsr0 : ∀ w1 : World, Calls Tryz.prog 39 #[.int .i64 ra] w1 fun e w' => e = .returned (.agg #[.int .i64 sr.1, .int .i64 sr.2]) ∧ Ext w1 w') (hsd0 : ∀ w1 : World, Calls Tryz.prog 39 #[.int .i64 dec] w1 fun e w' => e = .returned (.agg #[.int .i64 sd.1, .int .i64 sd.2]) ∧ Ext w1 w') (icd : I64 cd.1 ∧ I64 cd.2) (icr : I64 cr.1 ∧ I64 cr.2) (isr : I64 sr.1 ∧ I64 sr.2) (isd : I64 sd.1 ∧ I64 sd.2) :
    Calls Tryz.prog 29 #[.int .i64 ra, .int .i64 dec] w fun e w' => e = .returned (.tuple #[.agg #[.int .i64 (unitV cd cr sr sd).a, .int .i64 (unitV cd cr sr sd).b, .int .i64 (unitV cd cr sr sd).c, .int .i64 (unitV cd cr sr sd).d, .int .i64 (unitV cd cr sr sd).e, .int .i64 (unitV cd cr sr sd).f], .agg #[.int .i64 (eastV cr sr).a, .int .i64 (eastV cr sr).b, .int .i64 (eastV cr sr).c, .int .i64 (eastV cr sr).d, .int .i64 (eastV cr sr).e, .int .i64 (eastV cr sr).f], .agg #[.int .i64 (northV cd cr sr sd).a, .int .i64 (northV cd cr sr sd).b, .int .i64 (northV cd cr sr sd).c, .int .i64 (northV cd cr sr sd).d, .int .i64 (northV cd cr sr sd).e, .int .i64 (northV cd cr sr sd).f]]) ∧ Ext w w' := by
 have hcd : ∀ (w1 : World) (u1 : Value), u1 = .int .i64 dec → Calls Tryz.prog 68 #[u1] w1 fun e w' => ∃ u, e = .returned u ∧ u = .agg #[.int .i64 cd.1, .int .i64 cd.2] ∧ Ext w1 w' := fun w1 u1 k => by subst k; exact calls_eq (hcd0 w1)
 have hcr : ∀ (w1 : World) (u1 : Value), u1 = .int .i64 ra → Calls Tryz.prog 68 #[u1] w1 fun e w' => ∃ u, e = .returned u ∧ u = .agg #[.int .i64 cr.1, .int .i64 cr.2] ∧ Ext w1 w' := fun w1 u1 k => by subst k; exact calls_eq (hcr0 w1)
 have hsr : ∀ (w1 : World) (u1 : Value), u1 = .int .i64 ra → Calls Tryz.prog 39 #[u1] w1 fun e w' => ∃ u, e = .returned u ∧ u = .agg #[.int .i64 sr.1, .int .i64 sr.2] ∧ Ext w1 w' := fun w1 u1 k => by subst k; exact calls_eq (hsr0 w1)
 have hsd : ∀ (w1 : World) (u1 : Value), u1 = .int .i64 dec → Calls Tryz.prog 39 #[u1] w1 fun e w' => ∃ u, e = .returned u ∧ u = .agg #[.int .i64 sd.1, .int .i64 sd.2] ∧ Ext w1 w' := fun w1 u1 k => by subst k; exact calls_eq (hsd0 w1)
 have hun : ∀ (w1 : World) (u1 u2 : Value), u1 = .int .i64 ra → u2 = .int .i64 dec → Calls Tryz.prog 28 #[u1, u2] w1 fun e w' => ∃ u, e = .returned u ∧ u = .agg #[.int .i64 (unitV cd cr sr sd).a, .int .i64 (unitV cd cr sr sd).b, .int .i64 (unitV cd cr sr sd).c, .int .i64 (unitV cd cr sr sd).d, .int .i64 (unitV cd cr sr sd).e, .int .i64 (unitV cd cr sr sd).f] ∧ Ext w1 w' := fun w1 u1 u2 a b => by subst a b; exact calls_eq (p_unit ra dec cd cr sr sd w1 hcd0 hcr0 hsr0 hsd0 icd icr isr)
 clear hcd0 hcr0 hsr0 hsd0
 unfold eastV northV
 obtain ⟨U, hU⟩ : ∃ U, unitV cd cr sr sd = U := ⟨_, rfl⟩
 rw [hU] at hun ⊢
 clear hU
 obtain ⟨n1, hn1⟩ : ∃ x, doI 0 (subI 0 0 sr.1 sr.2) = x := ⟨_, rfl⟩
 obtain ⟨m1, hm1⟩ : ∃ x, frM1 cr sr sd = x := ⟨_, rfl⟩
 obtain ⟨n2, hn2⟩ : ∃ x, frN2 cr sr sd = x := ⟨_, rfl⟩
 obtain ⟨m2, hm2⟩ : ∃ x, frM2 cr sr sd = x := ⟨_, rfl⟩
 obtain ⟨n3, hn3⟩ : ∃ x, frN3 cr sr sd = x := ⟨_, rfl⟩
 rw [hn1, hn2, hn3]
 unfold frN3 at hn3
 unfold frM2 at hm2 hn3
 rw [hn2] at hm2 hn3
 rw [hm2] at hn3
 unfold frN2 at hn2
 unfold frM1 at hm1 hn2
 rw [hn1] at hm1 hn2
 rw [hm1] at hn2
 have I0 : KBd w [] w := ⟨Ext.refl w, trivial, by simp, by simp⟩
 have I := ((((I0.new [.int .i64 0, .int .i64 0, .int .i64 0, .int .i64 0, .int .i64 0, .int .i64 0] 32 (by simp)).new [.int .i64 0, .int .i64 0, .int .i64 0, .int .i64 0, .int .i64 0, .int .i64 0] 32 (by simp)).new [.int .i64 0, .int .i64 0, .int .i64 0, .int .i64 0, .int .i64 0, .int .i64 0] 32 (by simp)).new [.func (.func 42) #[] #[], .func (.func 70) #[] #[], .func (.func 48) #[] #[], .func (.func 71) #[] #[], .int .i64 (0)] 74 (by simp))
 simp only [World.size_alloc, List.nil_append, List.cons_append] at I
 have I : KBd w [(w.heap.size, BF.own [.int .i64 0, .int .i64 0, .int .i64 0, .int .i64 0, .int .i64 0, .int .i64 0]), ((w.heap.size + 1), BF.own [.int .i64 0, .int .i64 0, .int .i64 0, .int .i64 0, .int .i64 0, .int .i64 0]), ((w.heap.size + 1 + 1), BF.own [.int .i64 0, .int .i64 0, .int .i64 0, .int .i64 0, .int .i64 0, .int .i64 0]), ((w.heap.size + 1 + 1 + 1), SH 0)] _ := I
 clear I0
 go_enter Tryz.func29, Tryz.ntmps29
 go_upto_region 2 with (go_at_call 30; (with_reducible refine (s_begin _).mono ?_); rintro e w1 ⟨rfl, rfl⟩; try simp only [World.size_alloc])
 go_upto_region 2 with fail
 refine wp_regB [] [⟨2, some 3, BF.own [.int .i64 0, .int .i64 0], (BF.own [.int .i64 sd.1, .int .i64 sd.2])⟩] (fun z_ => ([VF.eq (.int .i64 (dec)), VF.eq (.agg #[.int .i64 sd.1, .int .i64 sd.2])] : List VF).getD z_ VF.any) I (fun hc => ⟨?_, ?_, ?_, ?_, trivial⟩) (fun vs gl W hK0 hv hp => ?_)
 ·exact ob_mv hc (.inl rfl)
 ·exact ob_call (fun v => [v 0]) hc rfl fun vs gs w1 c => hsd _ _ (c.v 0)
 ·exact b_22
 ·exact ob_put2 (n := 4) 0 rfl (some 1) hc rfl
 have p0 : vs 2 = .pointer (some ⟨gl 0, 0, none⟩) := hp 0 _ rfl
 simp only [putS, Nat.reduceAdd, Act.put, List.setIfInBounds_toArray, List.set_cons_zero, List.set_cons_succ, p0]
 obtain ⟨gc, e90⟩ : ∃ n, gl 0 = n := ⟨_, rfl⟩
 simp only [kb_, e90] at hK0
 rw [e90]
 replace I := hK0
 clear hK0 hv hp gl p0 e90
 go_upto_region 3 with fail
 refine wp_regB [[], [(8, BF.own [.int .i64 n1.lo, .int .i64 n1.hi, .int .i64 cr.1, .int .i64 cr.2, .int .i64 0, .int .i64 0])], [], [(3, SH n1.e)]] [] (fun z_ => ([VF.eq (.pointer (some ⟨(w.heap.size + 1 + 1 + 1), 0, none⟩)), VF.eq (.int .i64 (ra)), VF.eq (.agg #[.int .i64 sr.1, .int .i64 sr.2]), VF.eq (.agg #[.int .i64 n1.lo, .int .i64 n1.hi]), VF.eq (.int .i64 (ra)), VF.eq (.agg #[.int .i64 cr.1, .int .i64 cr.2]), VF.eq (.agg #[.int .i64 0, .int .i64 0]), VF.eq (.agg #[.int .i64 n1.lo, .int .i64 n1.hi, .int .i64 cr.1, .int .i64 cr.2, .int .i64 0, .int .i64 0])] : List VF).getD z_ VF.any) I (fun hc => ⟨?_, ?_, ?_, ?_, ?_, ?_, ?_, ?_, ?_, trivial⟩) (fun vs gl W hK0 hv hp => ?_)
 ·exact ob_mv hc (.inl rfl)
 ·exact ob_mv hc (.inl rfl)
 ·exact ob_call (fun v => [v 1]) hc rfl fun vs gs w1 c => hsr _ _ (c.v 1)
 ·exact ob_callB (n := 3) 0 (w.heap.size + 1 + 1 + 1) (fun v => [v 0, v 2]) rfl hc rfl fun vs gs w1 c hb => b_neg1 hn1 (c.v 0) (c.v 2) hb
 ·exact ob_mv hc (.inl rfl)
 ·exact ob_call (fun v => [v 4]) hc rfl fun vs gs w1 c => hcr _ _ (c.v 4)
 ·exact b_21
 ·exact ob_b3 (some 3) (some 5) (some 6) hc rfl
 ·exact ob_putV (n := 1) rfl (some 7) hc rfl rfl
 simp only [putS, Nat.reduceAdd, Act.put, List.setIfInBounds_toArray, List.set_cons_zero, List.set_cons_succ]
 simp only [kb_] at hK0
 replace I := hK0
 clear hK0 hv hp gl
 go_upto_region 4 with fail
 refine wp_regB [[], [], [(25, BF.own [.int .i64 n2.lo, .int .i64 n2.hi, .int .i64 n3.lo, .int .i64 n3.hi, .int .i64 cd.1, .int .i64 cd.2])], [(9, SH m1.e), (10, SH n2.e), (19, SH n2.e), (20, SH m2.e), (21, SH n3.e)]] [] (fun z_ => ([VF.eq (.pointer (some ⟨(w.heap.size + 1 + 1 + 1), 0, none⟩)), VF.eq (.pointer (some ⟨(w.heap.size + 1 + 1 + 1), 0, none⟩)), VF.eq (.pointer (some ⟨(w.heap.size + 1 + 1 + 1), 0, none⟩)), VF.eq (.pointer (some ⟨(w.heap.size + 1 + 1 + 1), 0, none⟩)), VF.eq (.pointer (some ⟨(w.heap.size + 1 + 1 + 1), 2, none⟩)), VF.eq (.func (.func 48) #[] #[]), VF.eq (.agg #[.int .i64 sd.1, .int .i64 sd.2]), VF.eq (.int .i64 (ra)), VF.eq (.agg #[.int .i64 cr.1, .int .i64 cr.2]), VF.eq (.agg #[.int .i64 m1.lo, .int .i64 m1.hi]), VF.eq (.agg #[.int .i64 n2.lo, .int .i64 n2.hi]), VF.eq (.pointer (some ⟨(w.heap.size + 1 + 1 + 1), 0, none⟩)), VF.eq (.pointer (some ⟨(w.heap.size + 1 + 1 + 1), 0, none⟩)), VF.eq (.pointer (some ⟨(w.heap.size + 1 + 1 + 1), 0, none⟩)), VF.eq (.pointer (some ⟨(w.heap.size + 1 + 1 + 1), 0, none⟩)), VF.eq (.pointer (some ⟨(w.heap.size + 1 + 1 + 1), 2, none⟩)), VF.eq (.func (.func 48) #[] #[]), VF.eq (.agg #[.int .i64 sd.1, .int .i64 sd.2]), VF.eq (.int .i64 (ra)), VF.eq (.agg #[.int .i64 sr.1, .int .i64 sr.2]), VF.eq (.agg #[.int .i64 m2.lo, .int .i64 m2.hi]), VF.eq (.agg #[.int .i64 n3.lo, .int .i64 n3.hi]), VF.eq (.int .i64 (dec)), VF.eq (.agg #[.int .i64 cd.1, .int .i64 cd.2]), VF.eq (.agg #[.int .i64 n2.lo, .int .i64 n2.hi, .int .i64 n3.lo, .int .i64 n3.hi, .int .i64 cd.1, .int .i64 cd.2])] : List VF).getD z_ VF.any) I (fun hc => ⟨?_, ?_, ?_, ?_, ?_, ?_, ?_, ?_, ?_, ?_, ?_, ?_, ?_, ?_, ?_, ?_, ?_, ?_, ?_, ?_, ?_, ?_, ?_, ?_, ?_, ?_, trivial⟩) (fun vs gl W hK0 hv hp => ?_)
 ·exact ob_mv hc (.inl rfl)
 ·exact ob_mv hc (.inl rfl)
 ·exact ob_mv hc (.inl rfl)
 ·exact ob_e1 (x := .tmp 22) (a := (.pointer (some ⟨(w.heap.size + 1 + 1 + 1), 0, none⟩))) (u := .pointer (some ⟨(w.heap.size + 1 + 1 + 1), 0, none⟩)) (some 2) hc
 ·exact ob_e1 (x := .tmp 23) (a := (.pointer (some ⟨(w.heap.size + 1 + 1 + 1), 0, none⟩))) (u := .pointer (some ⟨(w.heap.size + 1 + 1 + 1), 2, none⟩)) (some 3) hc
 ·exact ob_ld (x := .tmp 24) (g := (w.heap.size + 1 + 1 + 1)) (f := 2) (u := .func (.func 48) #[] #[]) (some 4) hc fun vs gs w1 c => c.fix 3 2
 ·exact ob_ld2 (x := .tmp 8) (g := gc) (f := 0) none hc rfl fun vs gs w1 c => ⟨c.own 4 0, c.own 4 1⟩
 ·exact ob_mv hc (.inl rfl)
 ·exact ob_call (fun v => [v 7]) hc rfl fun vs gs w1 c => hcr _ _ (c.v 7)
 ·exact ob_callB (n := 3) 0 (w.heap.size + 1 + 1 + 1) (fun v => [v 1, v 5, v 6, v 8]) rfl hc rfl fun vs gs w1 c hb => b_mul1 hm1 (c.v 1) (c.v 5) (c.v 6) (c.v 8) hb isd icr
 ·exact ob_callB (n := 3) 1 (w.heap.size + 1 + 1 + 1) (fun v => [v 0, v 9]) rfl hc rfl fun vs gs w1 c hb => b_neg1 hn2 (c.v 0) (c.v 9) hb
 ·exact ob_mv hc (.inl rfl)
 ·exact ob_mv hc (.inl rfl)
 ·exact ob_mv hc (.inl rfl)
 ·exact ob_e1 (x := .tmp 33) (a := (.pointer (some ⟨(w.heap.size + 1 + 1 + 1), 0, none⟩))) (u := .pointer (some ⟨(w.heap.size + 1 + 1 + 1), 0, none⟩)) (some 13) hc
 ·exact ob_e1 (x := .tmp 34) (a := (.pointer (some ⟨(w.heap.size + 1 + 1 + 1), 0, none⟩))) (u := .pointer (some ⟨(w.heap.size + 1 + 1 + 1), 2, none⟩)) (some 14) hc
 ·exact ob_ld (x := .tmp 35) (g := (w.heap.size + 1 + 1 + 1)) (f := 2) (u := .func (.func 48) #[] #[]) (some 15) hc fun vs gs w1 c => c.fix 3 2
 ·exact ob_ld2 (x := .tmp 8) (g := gc) (f := 0) none hc rfl fun vs gs w1 c => ⟨c.own 4 0, c.own 4 1⟩
 ·exact ob_mv hc (.inl rfl)
 ·exact ob_callB (n := 3) 2 (w.heap.size + 1 + 1 + 1) (fun v => [v 18]) rfl hc rfl fun vs gs w1 c hb => calls_keep hb (hsr _ _ (c.v 18))
 ·exact ob_callB (n := 3) 3 (w.heap.size + 1 + 1 + 1) (fun v => [v 12, v 16, v 17, v 19]) rfl hc rfl fun vs gs w1 c hb => b_mul1 hm2 (c.v 12) (c.v 16) (c.v 17) (c.v 19) hb isd isr
 ·exact ob_callB (n := 3) 4 (w.heap.size + 1 + 1 + 1) (fun v => [v 11, v 20]) rfl hc rfl fun vs gs w1 c hb => b_neg1 hn3 (c.v 11) (c.v 20) hb
 ·exact ob_mv hc (.inl rfl)
 ·exact ob_call (fun v => [v 22]) hc rfl fun vs gs w1 c => hcd _ _ (c.v 22)
 ·exact ob_b3 (some 10) (some 21) (some 23) hc rfl
 ·exact ob_putV (n := 2) rfl (some 24) hc rfl rfl
 simp only [putS, Nat.reduceAdd, Act.put, List.setIfInBounds_toArray, List.set_cons_zero, List.set_cons_succ]
 simp only [kb_] at hK0
 replace I := hK0
 clear hK0 hv hp gl
 go_upto_region 5 with fail
 refine wp_regB [[(5, BF.own [.int .i64 U.a, .int .i64 U.b, .int .i64 U.c, .int .i64 U.d, .int .i64 U.e, .int .i64 U.f])], [(6, BF.own [.int .i64 n1.lo, .int .i64 n1.hi, .int .i64 cr.1, .int .i64 cr.2, .int .i64 0, .int .i64 0])], [(7, BF.own [.int .i64 n2.lo, .int .i64 n2.hi, .int .i64 n3.lo, .int .i64 n3.hi, .int .i64 cd.1, .int .i64 cd.2])]] [] (fun z_ => ([VF.eq (.int .i64 (ra)), VF.eq (.int .i64 (dec)), VF.eq (.agg #[.int .i64 U.a, .int .i64 U.b, .int .i64 U.c, .int .i64 U.d, .int .i64 U.e, .int .i64 U.f]), VF.eq (.agg #[.int .i64 n1.lo, .int .i64 n1.hi, .int .i64 cr.1, .int .i64 cr.2, .int .i64 0, .int .i64 0]), VF.eq (.agg #[.int .i64 n2.lo, .int .i64 n2.hi, .int .i64 n3.lo, .int .i64 n3.hi, .int .i64 cd.1, .int .i64 cd.2])] : List VF).getD z_ VF.any) I (fun hc => ⟨?_, ?_, ?_, ?_, ?_, ?_, ?_, ?_, trivial⟩) (fun vs gl W hK0 hv hp => ?_)
 ·exact ob_mv hc (.inl rfl)
 ·exact ob_mv hc (.inl rfl)
 ·exact b_23
 ·exact b_24
 ·exact ob_ld6 (x := .tmp 6) (g := (w.heap.size + 1 + 1)) (f := 0) none hc rfl fun vs gs w1 c => ⟨c.own 2 0, c.own 2 1, c.own 2 2, c.own 2 3, c.own 2 4, c.own 2 5⟩
 ·exact ob_putV (n := 0) rfl (some 2) hc rfl rfl
 ·exact ob_putV (n := 1) rfl (some 3) hc rfl rfl
 ·exact ob_putV (n := 2) rfl (some 4) hc rfl rfl
 simp only [putS, Nat.reduceAdd, Act.put, List.setIfInBounds_toArray, List.set_cons_zero, List.set_cons_succ]
 simp only [kb_] at hK0
 replace I := hK0
 clear hK0 hv hp gl
 have d00 := I.own 0 0
 have d01 := I.own 0 1
 have d02 := I.own 0 2
 have d03 := I.own 0 3
 have d04 := I.own 0 4
 have d05 := I.own 0 5
 have d10 := I.own 1 0
 have d11 := I.own 1 1
 have d12 := I.own 1 2
 have d13 := I.own 1 3
 have d14 := I.own 1 4
 have d15 := I.own 1 5
 have d20 := I.own 2 0
 have d21 := I.own 2 1
 have d22 := I.own 2 2
 have d23 := I.own 2 3
 have d24 := I.own 2 4
 have d25 := I.own 2 5
 have hE := I.e
 clear I hcd hcr hsr hsd hun
 go_wp2_with fail
 refine bodyPost_ret (v := .tuple #[.agg #[.int .i64 U.a, .int .i64 U.b, .int .i64 U.c, .int .i64 U.d, .int .i64 U.e, .int .i64 U.f], .agg #[.int .i64 n1.lo, .int .i64 n1.hi, .int .i64 cr.1, .int .i64 cr.2, .int .i64 0, .int .i64 0], .agg #[.int .i64 n2.lo, .int .i64 n2.hi, .int .i64 n3.lo, .int .i64 n3.hi, .int .i64 cd.1, .int .i64 cd.2]]) ?_ rfl ⟨rfl, hE⟩
 simp [results, Tryz.results29, go_sem, ↓IntWalk.iteOmega, d00, d01, d02, d03, d04, d05, d10, d11, d12, d13, d14, d15, d20, d21, d22, d23, d24, d25]
theorem T_SPN_1 {p : Prop} (h : p := by
 go_enter Tryz.func27, Tryz.ntmps27
 go_wp2_with fail
 go_ret
 exact ⟨by first | rfl | (simp; omega), Ext.refl _⟩) : p := h
theorem p_outF (dec : Int) (w : World) (h0 : -324000000000 ≤ dec) (h1 : dec ≤ 324000000000) : Calls Tryz.prog 27 #[.int .i64 dec] w fun e w' => e = .returned (.bool false) ∧ Ext w w' := by
 exact T_SPN_1
theorem p_outT (dec : Int) (w : World) (h : dec < -324000000000 ∨ 324000000000 < dec) : Calls Tryz.prog 27 #[.int .i64 dec] w fun e w' => e = .returned (.bool true) ∧ Ext w w' := by
 by_cases h0 : dec < -324000000000
 ·exact T_SPN_1
 ·replace h : 324000000000 < dec := by omega
  exact T_SPN_1
theorem p_UnitBad (ra dec : Int) (w : World) (h : dec < -324000000000 ∨ 324000000000 < dec) : Calls Tryz.prog 7 #[.int .i64 ra, .int .i64 dec] w fun e w' => e = .returned (.tuple #[.agg #[.int .i64 0, .int .i64 0, .int .i64 0, .int .i64 0, .int .i64 0, .int .i64 0], .int .i64 2]) ∧ Ext w w' := by
 have hou : ∀ (w1 : World) (u1 : Value), u1 = .int .i64 dec → Calls Tryz.prog 27 #[u1] w1 fun e w' => ∃ u, e = .returned u ∧ u = .bool true ∧ Ext w1 w' := fun w1 u1 k => by subst k; exact calls_eq (p_outT dec w1 h)
 clear h
 have I0 : KBd w [] w := ⟨Ext.refl w, trivial, by simp, by simp⟩
 have I := I0.new [.int .i64 0, .int .i64 0, .int .i64 0, .int .i64 0, .int .i64 0, .int .i64 0] 32 (by simp)
 simp only [World.size_alloc, List.nil_append, List.cons_append] at I
 clear I0
 go_enter Tryz.func7, Tryz.ntmps7
 go_upto_region 1 with fail
 refine wp_regB [] [] (fun z_ => ([VF.eq (.int .i64 (dec)), VF.eq (.bool true)] : List VF).getD z_ VF.any) I (fun hc => ⟨?_, ?_, trivial⟩) (fun vs gl W hK0 hv hp => ?_)
 ·exact ob_mv hc (.inl rfl)
 ·exact ob_call (fun v => [v 0]) hc rfl fun vs gs w1 c => hou _ _ (c.v 0)
 have v1 : vs 1 = .bool true := hv 1 (by decide)
 simp only [putS, Nat.reduceAdd, Act.put, List.setIfInBounds_toArray, List.set_cons_zero, List.set_cons_succ, v1]
 simp only [kb_] at hK0
 replace I := hK0
 clear hK0 hv hp gl v1
 go_upto_region 2 with fail
 refine wp_regB [[(1, BF.own [.int .i64 0, .int .i64 0, .int .i64 0, .int .i64 0, .int .i64 0, .int .i64 0])]] [] (fun z_ => ([VF.eq (.agg #[.int .i64 0, .int .i64 0, .int .i64 0, .int .i64 0, .int .i64 0, .int .i64 0]), VF.any, VF.eq (.int .i64 (2))] : List VF).getD z_ VF.any) I (fun hc => ⟨?_, ?_, ?_, trivial⟩) (fun vs gl W hK0 hv hp => ?_)
 ·exact ob_k (u := .agg #[.int .i64 0, .int .i64 0, .int .i64 0, .int .i64 0, .int .i64 0, .int .i64 0]) hc
 ·exact ob_putV (n := 0) rfl (some 0) hc rfl rfl
 ·exact ob_mv hc (.inr rfl)
 have v2 : vs 2 = .int .i64 2 := hv 2 (by decide)
 simp only [putS, Nat.reduceAdd, Act.put, List.setIfInBounds_toArray, List.set_cons_zero, List.set_cons_succ, v2]
 simp only [kb_] at hK0
 replace I := hK0
 clear hK0 hv hp gl v2
 have d0 := I.own 0 0
 have d1 := I.own 0 1
 have d2 := I.own 0 2
 have d3 := I.own 0 3
 have d4 := I.own 0 4
 have d5 := I.own 0 5
 have hE := I.e
 clear I hou
 go_wp2_with fail
 refine bodyPost_ret (v := .tuple #[.agg #[.int .i64 0, .int .i64 0, .int .i64 0, .int .i64 0, .int .i64 0, .int .i64 0], .int .i64 2]) ?_ rfl ⟨rfl, hE⟩
 simp [results, Tryz.results7, go_sem, ↓IntWalk.iteOmega, d0, d1, d2, d3, d4, d5]
theorem p_Unit (ra dec : Int) (U : V3) (w : World) (h0 : -324000000000 ≤ dec) (h1 : dec ≤ 324000000000) (hu : ∀ w1 : World, Calls Tryz.prog 28 #[.int .i64 ra, .int .i64 dec] w1 fun e w' => e = .returned (.agg #[.int .i64 U.a, .int .i64 U.b, .int .i64 U.c, .int .i64 U.d, .int .i64 U.e, .int .i64 U.f]) ∧ Ext w1 w') : Calls Tryz.prog 7 #[.int .i64 ra, .int .i64 dec] w fun e w' => e = .returned (.tuple #[.agg #[.int .i64 U.a, .int .i64 U.b, .int .i64 U.c, .int .i64 U.d, .int .i64 U.e, .int .i64 U.f], .int .i64 0]) ∧ Ext w w' := by
 have hou : ∀ (w1 : World) (u1 : Value), u1 = .int .i64 dec → Calls Tryz.prog 27 #[u1] w1 fun e w' => ∃ u, e = .returned u ∧ u = .bool false ∧ Ext w1 w' := fun w1 u1 k => by subst k; exact calls_eq (p_outF dec w1 h0 h1)
 have hun : ∀ (w1 : World) (u1 u2 : Value), u1 = .int .i64 ra → u2 = .int .i64 dec → Calls Tryz.prog 28 #[u1, u2] w1 fun e w' => ∃ u, e = .returned u ∧ u = .agg #[.int .i64 U.a, .int .i64 U.b, .int .i64 U.c, .int .i64 U.d, .int .i64 U.e, .int .i64 U.f] ∧ Ext w1 w' := fun w1 u1 u2 a b => by subst a b; exact calls_eq (hu w1)
 clear h0 h1 hu
 have I0 : KBd w [] w := ⟨Ext.refl w, trivial, by simp, by simp⟩
 have I := I0.new [.int .i64 0, .int .i64 0, .int .i64 0, .int .i64 0, .int .i64 0, .int .i64 0] 32 (by simp)
 simp only [World.size_alloc, List.nil_append, List.cons_append] at I
 clear I0
 go_enter Tryz.func7, Tryz.ntmps7
 go_upto_region 1 with fail
 refine wp_regB [] [] (fun z_ => ([VF.eq (.int .i64 (dec)), VF.eq (.bool false)] : List VF).getD z_ VF.any) I (fun hc => ⟨?_, ?_, trivial⟩) (fun vs gl W hK0 hv hp => ?_)
 ·exact ob_mv hc (.inl rfl)
 ·exact ob_call (fun v => [v 0]) hc rfl fun vs gs w1 c => hou _ _ (c.v 0)
 have v1 : vs 1 = .bool false := hv 1 (by decide)
 simp only [putS, Nat.reduceAdd, Act.put, List.setIfInBounds_toArray, List.set_cons_zero, List.set_cons_succ, v1]
 simp only [kb_] at hK0
 replace I := hK0
 clear hK0 hv hp gl v1
 go_upto_region 3 with fail
 refine wp_regB [[(3, BF.own [.int .i64 U.a, .int .i64 U.b, .int .i64 U.c, .int .i64 U.d, .int .i64 U.e, .int .i64 U.f])]] [] (fun z_ => ([VF.eq (.int .i64 (ra)), VF.eq (.int .i64 (dec)), VF.eq (.agg #[.int .i64 U.a, .int .i64 U.b, .int .i64 U.c, .int .i64 U.d, .int .i64 U.e, .int .i64 U.f]), VF.any, VF.eq (.int .i64 (0))] : List VF).getD z_ VF.any) I (fun hc => ⟨?_, ?_, ?_, ?_, ?_, trivial⟩) (fun vs gl W hK0 hv hp => ?_)
 ·exact ob_mv hc (.inl rfl)
 ·exact ob_mv hc (.inl rfl)
 ·exact b_23
 ·exact ob_putV (n := 0) rfl (some 2) hc rfl rfl
 ·exact ob_mv hc (.inr rfl)
 have v4 : vs 4 = .int .i64 0 := hv 4 (by decide)
 simp only [putS, Nat.reduceAdd, Act.put, List.setIfInBounds_toArray, List.set_cons_zero, List.set_cons_succ, v4]
 simp only [kb_] at hK0
 replace I := hK0
 clear hK0 hv hp gl v4
 have d0 := I.own 0 0
 have d1 := I.own 0 1
 have d2 := I.own 0 2
 have d3 := I.own 0 3
 have d4 := I.own 0 4
 have d5 := I.own 0 5
 have hE := I.e
 clear I hou hun
 go_wp2_with fail
 refine bodyPost_ret (v := .tuple #[.agg #[.int .i64 U.a, .int .i64 U.b, .int .i64 U.c, .int .i64 U.d, .int .i64 U.e, .int .i64 U.f], .int .i64 0]) ?_ rfl ⟨rfl, hE⟩
 simp [results, Tryz.results7, go_sem, ↓IntWalk.iteOmega, d0, d1, d2, d3, d4, d5]
theorem p_square (n : Int) (w : World) (h0 : -9223372036854775808 ≤ n) (h1 : n ≤ 9223372036854775807) : Calls Tryz.prog 36 #[.int .i64 n] w fun e w' => ∃ u, e = .returned u ∧ Wid w' u (n * n) ∧ Ext w w' := by
 have hfr : ∀ (w1 : World) (u1 : Value), u1 = .int .i64 n → Calls Tryz.prog 34 #[u1] w1 fun e w' => ∃ u, e = .returned u ∧ Wid w' u n ∧ Ext w1 w' := fun w1 u1 k => by subst k; exact z_From n w1 h0 h1
 have hs : Sz n := dig_bits (k := 64) (L := 4096) (by omega) (by decide)
 have hs2 : Sz (n * n) := dig_bits (k := 128) (L := 4096) (by
  rw [Int.natAbs_mul]
  exact Nat.lt_of_le_of_lt (Nat.mul_le_mul (show n.natAbs ≤ 9223372036854775808 by omega) (show n.natAbs ≤ 9223372036854775808 by omega)) (by decide)) (by decide)
 have hmu : ∀ (w1 : World) (u1 u2 : Value), Wid w1 u1 n → Wid w1 u2 n → Calls Tryz.prog 79 #[u1, u2] w1 fun e w' => ∃ u, e = .returned u ∧ ((VF.wid (n * n)).err 0).p u w' ∧ Ext w1 w' := fun w1 u1 u2 a b => calls_err (z_Mul u1 u2 n n w1 a b hs hs hs2)
 clear h0 h1 hs hs2
 have I0 : KBd w [] w := ⟨Ext.refl w, trivial, by simp, by simp⟩
 have I := I0.new [.bool false, .slice none 0 0] 24 (by simp)
 simp only [World.size_alloc, List.nil_append, List.cons_append] at I
 clear I0
 go_enter Tryz.func36, Tryz.ntmps36
 go_upto_region 1 with fail
 refine wp_regB [] [⟨8, some 9, BF.b2, (BF.wat (n * n))⟩] (fun z_ => ([VF.eq (.int .i64 (n)), VF.wid (n), VF.eq (.int .i64 (n)), VF.wid (n), (VF.wid (n * n)).err 0, (VF.wid (n * n)).err 0, VF.wid (n * n), VF.eq (.int .i64 (0)), VF.any, VF.any, VF.eq (.int .i64 (0))] : List VF).getD z_ VF.any) I (fun hc => ⟨?_, ?_, ?_, ?_, ?_, ?_, ?_, ?_, ?_, ?_, ?_, trivial⟩) (fun vs gl W hK0 hv hp => ?_)
 ·exact ob_mv hc (.inl rfl)
 ·exact ob_call (fun v => [v 0]) hc rfl fun vs gs w1 c => hfr _ _ (c.v 0)
 ·exact ob_mv hc (.inl rfl)
 ·exact ob_call (fun v => [v 2]) hc rfl fun vs gs w1 c => hfr _ _ (c.v 2)
 ·exact ob_call (fun v => [v 1, v 3]) hc rfl fun vs gs w1 c => hmu _ _ _ (c.v 1) (c.v 3)
 ·exact ob_cp 4 hc (.inl rfl)
 ·exact ob_ext0 5 hc rfl
 ·exact ob_ext1 5 hc rfl
 ·exact ob_allocW (n := 1) rfl hc rfl rfl rfl
 ·exact ob_putW (n := 1) rfl 6 hc rfl 0
 ·exact ob_cp 7 hc (.inr rfl)
 have p0 : vs 8 = .pointer (some ⟨gl 0, 0, none⟩) := hp 0 _ rfl
 simp only [putS, Nat.reduceAdd, Act.put, List.setIfInBounds_toArray, List.set_cons_zero, List.set_cons_succ, p0]
 obtain ⟨g3, e90⟩ : ∃ n, gl 0 = n := ⟨_, rfl⟩
 simp only [kb_, e90] at hK0
 rw [e90]
 replace I := hK0
 clear hK0 hv hp gl p0 e90
 go_upto_region 2 with fail
 refine wp_regB [[(1, BF.wat (n * n))]] [] (fun z_ => ([VF.wid (n * n)] : List VF).getD z_ VF.any) I (fun hc => ⟨?_, ?_, trivial⟩) (fun vs gl W hK0 hv hp => ?_)
 ·exact ob_getW g3 (n * n) hc rfl fun vs gs w1 c => c.b0 1
 ·exact ob_putW (n := 0) rfl 0 hc rfl 0 (h4 := fun _ _ h => own_bx2 h)
 simp only [putS, Nat.reduceAdd, Act.put, List.setIfInBounds_toArray, List.set_cons_zero, List.set_cons_succ]
 simp only [kb_] at hK0
 replace I := hK0
 clear hK0 hv hp gl
 obtain ⟨s, u, k1, k2, k3, k4, k5, k6⟩ := (show WAt W w.heap.size (n * n) from I.at 0)
 have hE := I.e
 clear I hfr hmu
 go_wp2_with fail
 refine bodyPost_ret (v := .agg #[.bool s, u]) ?_ rfl ⟨_, rfl, k3, hE⟩
 simp [results, Tryz.results36, go_sem, ↓IntWalk.iteOmega, k1, k2]
theorem cmpI_leI (m k : Int) : decide (cmpI m k ≤ 0) = decide (m ≤ k) := by
 unfold cmpI
 by_cases h1 : m < k
 ·rw [if_pos h1]; simp; omega
 ·rw [if_neg h1]
  by_cases h2 : k < m
  ·rw [if_pos h2]; simp; omega
  ·rw [if_neg h2]; simp; omega
theorem p_atMost (va vb : Value) (m k : Int) (w : World) (ha : Wid w va m) (hb : Wid w vb k) (s1 : Sz m) (s2 : Sz k) : Calls Tryz.prog 40 #[va, vb] w fun e w' => e = .returned (.bool (decide (m ≤ k))) ∧ Ext w w' := by
 rw [← cmpI_leI]
 have hcm := fun w1 (k1 : Ext w w1) => z_Cmp va vb m k w1 (ha.ext k1) (hb.ext k1) s1 s2
 obtain ⟨s, ao, n, cap, rfl, -⟩ := ha.open
 obtain ⟨t, bo, l, cap2, rfl, -⟩ := hb.open
 clear ha hb
 go_enter Tryz.func40, Tryz.ntmps40
 go_wp2_with (go_at_call 52; (with_reducible refine (hcm _ ex_).mono ?_); rintro e w1 ⟨rfl, hb⟩; obtain ⟨_, _, ⟨hc, hf⟩, hz⟩ := hb.c3; (try simp only [wsz] at hz hc hf))
 go_ret
 exact ⟨rfl, ex_⟩
end Go.Proofs.YtaoioncjmfcolaaGreat
