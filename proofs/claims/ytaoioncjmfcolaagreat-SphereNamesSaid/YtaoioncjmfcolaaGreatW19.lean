/- The sheet as a box that calls write. -/
import Derived.Test.YtaoioncjmfcolaaGreatW15
import Derived.Test.YtaoioncjmfcolaaGreatW18
set_option linter.unusedSimpArgs false
set_option linter.unusedVariables false
set_option maxRecDepth 100000
set_option maxHeartbeats 4000000
namespace Go.Proofs.YtaoioncjmfcolaaGreat
open Go.RowKit
theorem mkO_all {x : Nat × BF} {u : List (Nat × BF)} {Q : BF → Prop} (h0 : Q x.2) (h : ∀ y ∈ u, Q y.2) : ∀ m, Q ((mkO x u).bf m) := by
 intro m
 cases m with
 | zero => exact h0
 | succ k =>
  show Q (((u[k]?).map (·.2)).getD x.2)
  cases hk : u[k]? with
  | none => exact h0
  | some y => exact h y (List.mem_of_getElem? hk)
section
variable {ops : Array Oper} {V : Nat → VF} {B : List BR} {Kp : World → Prop} {a0 : Act} {n0 : Nat} {i : Nat} {o : Oper}
theorem Ctx.fix {vs : Nat → Value} {gs : Nat → Nat} {w : World} (c : Ctx ops V B Kp n0 i o vs gs w) (n k : Nat) {x : Nat × BF} {u : List (Nat × BF)} {v : Value} (hx : B[n]? = some (mkO x u) := by rfl) (h0 : ∃ l, x.2 = BF.own l ∧ l[k]? = some v := by exact ⟨_, rfl, rfl⟩)
    (h : ∀ y ∈ u, ∃ l, y.2 = BF.own l ∧ l[k]? = some v := by intro y hy; repeat (first | (cases hy; done) | (cases hy with | head => exact ⟨_, rfl, rfl⟩ | tail _ hy => ?_))) : w.cell? ⟨x.1, k, none⟩ = some v := by
 have hA := c.b n _ hx
 have e0 : gs n = x.1 := hA.old rfl
 obtain ⟨m, hm⟩ := hA.any rfl
 rw [e0] at hm
 obtain ⟨l, e1, e2⟩ := mkO_all (Q := fun bf => ∃ l, bf = BF.own l ∧ l[k]? = some v) h0 h m
 rw [e1] at hm
 exact hm.1 k v e2
theorem ob_k {u : Value} (hc : ChkP ops a0 B) (hs : ∀ (ρ : Operand → Value) (w : World), (execOp ρ o).run Tryz.prog w = .ok (.value u) w := by intro ρ w; go_simp) (hV : (V i).p = (VF.eq u).p := by rfl)
    (hg : Gd ops V o := by first | exact .inl rfl | exact .inr ⟨_, _, rfl, rfl, by kernel_rfl⟩) (hfr : free (B.map BR.key) i = true := by kernel_rfl) : ObI Tryz.prog ops V B Kp a0 n0 i o :=
  ob_eq hc (fun _ _ w ρ _ _ => hs ρ w) hV hg hfr
theorem ob_ld6 {x : Operand} {g f : Nat} {u0 u1 u2 u3 u4 u5 : Value} (p : Option Nat) (hc : ChkP ops a0 B) (hop : o.op = .load 32 x) (h : ∀ (vs : Nat → Value) (gs : Nat → Nat) (w : World), Ctx ops V B Kp n0 i o vs gs w → w.cell? ⟨g, f, none⟩ = some u0 ∧ w.cell? ⟨g, f + 1, none⟩ = some u1 ∧ w.cell? ⟨g, f + 2, none⟩ = some u2 ∧ w.cell? ⟨g, f + 3, none⟩ = some u3 ∧ w.cell? ⟨g, f + 4, none⟩ = some u4 ∧ w.cell? ⟨g, f + 5, none⟩ = some u5)
    (ha : Opd ops V a0 o x (.pointer (some ⟨g, f, none⟩)) p := by first | exact ⟨fun _ => by kernel_rfl, rfl, by kernel_rfl⟩ | exact fun _ => by kernel_rfl) (hV : (V i).p = (VF.eq (.agg #[u0, u1, u2, u3, u4, u5])).p := by rfl) (hg : Gd ops V o := by first | exact .inl rfl | exact .inr ⟨_, _, rfl, rfl, by kernel_rfl⟩) (hfr : free (B.map BR.key) i = true := by kernel_rfl) : ObI Tryz.prog ops V B Kp a0 n0 i o :=
  ob_val hc (fun vs gs w ρ hr c => ⟨.agg #[u0, u1, u2, u3, u4, u5], by
    have e1 := ha.get c hr
    obtain ⟨k0, k1, k2, k3, k4, k5⟩ := h vs gs w c
    obtain ⟨dst, op, ty, pos, af, gd⟩ := o
    dsimp only at hop
    subst hop
    clear c h hr ha
    go_simp, by rw [hV]; rfl⟩) hg hfr
theorem ob_b3 {x y z : Operand} {a b c d e f : Int} (p q r : Option Nat) (hc : ChkP ops a0 B) (hop : o.op = .build 32 #[(0, x), (1, y), (2, z)]) (hx : Opd ops V a0 o x (.agg #[.int .i64 a, .int .i64 b]) p := by first | exact ⟨fun _ => by kernel_rfl, rfl, by kernel_rfl⟩ | exact fun _ => by kernel_rfl)
    (hy : Opd ops V a0 o y (.agg #[.int .i64 c, .int .i64 d]) q := by first | exact ⟨fun _ => by kernel_rfl, rfl, by kernel_rfl⟩ | exact fun _ => by kernel_rfl) (hz : Opd ops V a0 o z (.agg #[.int .i64 e, .int .i64 f]) r := by first | exact ⟨fun _ => by kernel_rfl, rfl, by kernel_rfl⟩ | exact fun _ => by kernel_rfl)
    (hV : (V i).p = (VF.eq (.agg #[.int .i64 a, .int .i64 b, .int .i64 c, .int .i64 d, .int .i64 e, .int .i64 f])).p := by rfl) (hg : Gd ops V o := by first | exact .inl rfl | exact .inr ⟨_, _, rfl, rfl, by kernel_rfl⟩) (hfr : free (B.map BR.key) i = true := by kernel_rfl) : ObI Tryz.prog ops V B Kp a0 n0 i o :=
  ob_val hc (fun vs gs w ρ hr cc => ⟨.agg #[.int .i64 a, .int .i64 b, .int .i64 c, .int .i64 d, .int .i64 e, .int .i64 f], by
    have e1 := hx.get cc hr
    have e2 := hy.get cc hr
    have e3 := hz.get cc hr
    obtain ⟨dst, op, ty, pos, af, gd⟩ := o
    dsimp only at hop
    subst hop
    clear cc hr hx hy hz
    go_simp
    try exact ⟨rfl, rfl, rfl, rfl, rfl, rfl⟩, by rw [hV]; rfl⟩) hg hfr
end
theorem calls_keep {f : Nat} {args : Array Value} {w : World} {p : Nat} {bf : BF} {G : Value → World → Prop} (hb : bf.p p w) (h : Calls Tryz.prog f args w fun e w' => ∃ u, e = .returned u ∧ G u w' ∧ Ext w w') :
    Calls Tryz.prog f args w fun e w' => ∃ u, e = .returned u ∧ G u w' ∧ GB p w w' ∧ bf.p p w' := by
 refine h.mono ?_
 rintro e w' ⟨u, rfl, h1, h2⟩
 exact ⟨u, rfl, h1, GB.ext h2, bf.ext _ _ _ hb h2⟩
theorem calls_ownk {f : Nat} {args : Array Value} {w : World} {p k : Nat} {l l' : List Value} {v u : Value} (hb : (BF.own l).p p w) (h : Calls Tryz.prog f args w fun e w' => e = .returned u ∧ Ext (w.setCell ⟨p, k, none⟩ v) w') (hv : ∀ z, v ≠ .int .u32 z := by simp) (hk : k < l.length := by simp) (hl : l' = l.set k v := by rfl) :
    Calls Tryz.prog f args w fun e w' => ∃ t, e = .returned t ∧ t = u ∧ GB p w w' ∧ (BF.own l').p p w' := by
 subst hl
 refine h.mono ?_
 rintro e w' ⟨rfl, q⟩
 exact ⟨u, rfl, rfl, ((GB.refl p w).set v).trans (GB.ext q), (BF.own _).ext _ _ _ (own_set hb (k := k) hk hv) q⟩
def SH (E : Int) : BF := BF.own [.func (.func 42) #[] #[], .func (.func 70) #[] #[], .func (.func 48) #[] #[], .func (.func 71) #[] #[], .int .i64 (E)]
theorem d_div (p : Nat) (E a b c d : Int) (w : World) (hc : w.cell? ⟨p, 4, none⟩ = some (.int .i64 E)) (hf : w.frozen? ⟨p, 4, none⟩ = false) :
    Calls Tryz.prog 32 #[.pointer (some ⟨p, 0, none⟩), .func (.func 71) #[] #[], .agg #[.int .i64 a, .int .i64 b], .agg #[.int .i64 c, .int .i64 d]] w fun e w' => e = .returned (.agg #[.int .i64 (doI E (divI a b c d)).lo, .int .i64 (doI E (divI a b c d)).hi]) ∧ Ext (w.setCell ⟨p, 4, none⟩ (.int .i64 ((doI E (divI a b c d)).e))) w' := by
 have hp : p < w.heap.size := World.block_lt_of_cell? w _ hc
 go_enter Tryz.func32, Tryz.ntmps32
 go_wp2_with (first | (go_at_call 71; (with_reducible refine (span_div _ _ _ _ _).mono ?_); rintro e w1 ⟨rfl, hb⟩; obtain ⟨_, _, ⟨hc, hf⟩, hz⟩ := hb.c3; (try simp only [World.size_alloc] at hz hc hf)))
 all_goals
  refine bodyPost_ret (v := .agg #[.int .i64 (doI E (divI a b c d)).lo, .int .i64 (doI E (divI a b c d)).hi]) ?_ rfl ⟨rfl, ?_⟩
  ·(try simp only [bn_] at *)
   simp [results, Tryz.results32, go_sem, ↓IntWalk.iteOmega, doI, *]
  ·refine ExtP.fin ?_ ?_ hp
   ·exact b_19
   ·(try simp only [bn_] at *)
    simp [go_sem, ↓IntWalk.iteOmega, doI, *]
theorem b_add {p : Nat} {E a b c d : Int} {w : World} {u0 u1 u2 u3 : Value} (h0 : u0 = .pointer (some ⟨p, 0, none⟩)) (h1 : u1 = .func (.func 42) #[] #[]) (h2 : u2 = .agg #[.int .i64 a, .int .i64 b]) (h3 : u3 = .agg #[.int .i64 c, .int .i64 d]) (hb : (SH E).p p w) :
    Calls Tryz.prog 32 #[u0, u1, u2, u3] w fun e w' => ∃ t, e = .returned t ∧ t = .agg #[.int .i64 (doI E (addI a b c d)).lo, .int .i64 (doI E (addI a b c d)).hi] ∧ GB p w w' ∧ (SH (doI E (addI a b c d)).e).p p w' := by
 subst h0 h1 h2 h3
 exact calls_ownk hb (d_add p E a b c d w (hb.1 4 _ rfl) (hb.2.1 4))
theorem b_sub {p : Nat} {E a b c d : Int} {w : World} {u0 u1 u2 u3 : Value} (h0 : u0 = .pointer (some ⟨p, 0, none⟩)) (h1 : u1 = .func (.func 70) #[] #[]) (h2 : u2 = .agg #[.int .i64 a, .int .i64 b]) (h3 : u3 = .agg #[.int .i64 c, .int .i64 d]) (hb : (SH E).p p w) :
    Calls Tryz.prog 32 #[u0, u1, u2, u3] w fun e w' => ∃ t, e = .returned t ∧ t = .agg #[.int .i64 (doI E (subI a b c d)).lo, .int .i64 (doI E (subI a b c d)).hi] ∧ GB p w w' ∧ (SH (doI E (subI a b c d)).e).p p w' := by
 subst h0 h1 h2 h3
 exact calls_ownk hb (d_sub p E a b c d w (hb.1 4 _ rfl) (hb.2.1 4))
theorem b_div {p : Nat} {E a b c d : Int} {w : World} {u0 u1 u2 u3 : Value} (h0 : u0 = .pointer (some ⟨p, 0, none⟩)) (h1 : u1 = .func (.func 71) #[] #[]) (h2 : u2 = .agg #[.int .i64 a, .int .i64 b]) (h3 : u3 = .agg #[.int .i64 c, .int .i64 d]) (hb : (SH E).p p w) :
    Calls Tryz.prog 32 #[u0, u1, u2, u3] w fun e w' => ∃ t, e = .returned t ∧ t = .agg #[.int .i64 (doI E (divI a b c d)).lo, .int .i64 (doI E (divI a b c d)).hi] ∧ GB p w w' ∧ (SH (doI E (divI a b c d)).e).p p w' := by
 subst h0 h1 h2 h3
 exact calls_ownk hb (d_div p E a b c d w (hb.1 4 _ rfl) (hb.2.1 4))
theorem b_mul {p : Nat} {E a b c d : Int} {w : World} {u0 u1 u2 u3 : Value} (h0 : u0 = .pointer (some ⟨p, 0, none⟩)) (h1 : u1 = .func (.func 48) #[] #[]) (h2 : u2 = .agg #[.int .i64 a, .int .i64 b]) (h3 : u3 = .agg #[.int .i64 c, .int .i64 d]) (hb : (SH E).p p w) (ha : I64 a ∧ I64 b) (hc : I64 c ∧ I64 d) :
    Calls Tryz.prog 32 #[u0, u1, u2, u3] w fun e w' => ∃ t, e = .returned t ∧ t = .agg #[.int .i64 (doI E (mulI a b c d)).lo, .int .i64 (doI E (mulI a b c d)).hi] ∧ GB p w w' ∧ (SH (doI E (mulI a b c d)).e).p p w' := by
 subst h0 h1 h2 h3
 exact calls_ownk hb (d_mul p E a b c d w (hb.1 4 _ rfl) (hb.2.1 4) ha hc)
theorem KBp.one {p : Nat} {w : World} {bf : BF} (h : bf.p p w) : KBp p w [(p, bf)] w := ⟨GB.refl p w, ⟨h, trivial⟩, by simp, fun x hx => .inr (by rw [List.mem_singleton.1 hx])⟩
theorem b_neg {p : Nat} {E a b : Int} {w : World} {u0 u1 : Value} (h0 : u0 = .pointer (some ⟨p, 0, none⟩)) (h1 : u1 = .agg #[.int .i64 a, .int .i64 b]) (hb : (SH E).p p w) :
    Calls Tryz.prog 69 #[u0, u1] w fun e w' => ∃ t, e = .returned t ∧ t = .agg #[.int .i64 (doI E (subI 0 0 a b)).lo, .int .i64 (doI E (subI 0 0 a b)).hi] ∧ GB p w w' ∧ (SH (doI E (subI 0 0 a b)).e).p p w' := by
 subst h0 h1
 have I := (((KBp.one hb).new [.int .i64 a, .int .i64 b] 30 (by simp)).new [.int .i64 0, .int .i64 0] 30 (by simp))
 simp only [World.size_alloc, List.nil_append, List.cons_append] at I
 clear hb
 go_enter Tryz.func69, Tryz.ntmps69
 go_upto_region 1 with fail
 refine wp_regP [[(7, SH (doI E (subI 0 0 a b)).e)], [], [(8, BF.own [.int .i64 (doI E (subI 0 0 a b)).lo, .int .i64 (doI E (subI 0 0 a b)).hi])]] [] (fun z_ => ([VF.eq (.pointer (some ⟨p, 0, none⟩)), VF.eq (.pointer (some ⟨p, 0, none⟩)), VF.eq (.pointer (some ⟨p, 0, none⟩)), VF.eq (.pointer (some ⟨p, 1, none⟩)), VF.eq (.func (.func 70) #[] #[]), VF.eq (.agg #[.int .i64 0, .int .i64 0]), VF.eq (.agg #[.int .i64 a, .int .i64 b]), VF.eq (.agg #[.int .i64 (doI E (subI 0 0 a b)).lo, .int .i64 (doI E (subI 0 0 a b)).hi])] : List VF).getD z_ VF.any) I (fun hc => ⟨?_, ?_, ?_, ?_, ?_, ?_, ?_, ?_, ?_, trivial⟩) (fun vs gl W hK0 hv hp => ?_)
 ·exact ob_mv hc (.inl rfl)
 ·exact ob_mv hc (.inl rfl)
 ·exact ob_e1 (x := .tmp 6) (a := (.pointer (some ⟨p, 0, none⟩))) (u := .pointer (some ⟨p, 0, none⟩)) (some 1) hc
 ·exact ob_e1 (x := .tmp 7) (a := (.pointer (some ⟨p, 0, none⟩))) (u := .pointer (some ⟨p, 1, none⟩)) (some 2) hc
 ·exact ob_ld (x := .tmp 8) (g := p) (f := 1) (u := .func (.func 70) #[] #[]) (some 3) hc fun vs gs w1 c => c.fix 0 1
 ·exact b_21
 ·exact ob_ld2 (x := .tmp 3) (g := w.heap.size) (f := 0) none hc rfl fun vs gs w1 c => ⟨c.own 1 0, c.own 1 1⟩
 ·exact ob_callB (n := 0) 0 p (fun v => [v 0, v 4, v 5, v 6]) rfl hc rfl fun vs gs w1 c hb => b_sub (c.v 0) (c.v 4) (c.v 5) (c.v 6) hb
 ·exact ob_put2 (n := 2) 0 rfl (some 7) hc rfl
 simp only [putS, Nat.reduceAdd, Act.put, List.setIfInBounds_toArray, List.set_cons_zero, List.set_cons_succ]
 simp only [kb_] at hK0
 replace I := hK0
 clear hK0 hv hp gl
 have d0 := I.own 2 0
 have d1 := I.own 2 1
 have hE := I.e
 have hB := I.at 0
 clear I
 go_wp2_with fail
 refine bodyPost_ret (v := .agg #[.int .i64 (doI E (subI 0 0 a b)).lo, .int .i64 (doI E (subI 0 0 a b)).hi]) ?_ rfl ⟨_, rfl, rfl, hE, hB⟩
 simp [results, Tryz.results69, go_sem, ↓IntWalk.iteOmega, d0, d1]
theorem b_mul1 {p : Nat} {E a b c d : Int} {w : World} {u0 u1 u2 u3 : Value} {x : R3} (hx : doI E (mulI a b c d) = x) (h0 : u0 = .pointer (some ⟨p, 0, none⟩)) (h1 : u1 = .func (.func 48) #[] #[]) (h2 : u2 = .agg #[.int .i64 a, .int .i64 b]) (h3 : u3 = .agg #[.int .i64 c, .int .i64 d]) (hb : (SH E).p p w) (ha : I64 a ∧ I64 b) (hc : I64 c ∧ I64 d) :
    Calls Tryz.prog 32 #[u0, u1, u2, u3] w fun e w' => ∃ t, e = .returned t ∧ t = .agg #[.int .i64 x.lo, .int .i64 x.hi] ∧ GB p w w' ∧ (SH x.e).p p w' := by
 subst hx; exact b_mul h0 h1 h2 h3 hb ha hc
theorem b_add1 {p : Nat} {E a b c d : Int} {w : World} {u0 u1 u2 u3 : Value} {x : R3} (hx : doI E (addI a b c d) = x) (h0 : u0 = .pointer (some ⟨p, 0, none⟩)) (h1 : u1 = .func (.func 42) #[] #[]) (h2 : u2 = .agg #[.int .i64 a, .int .i64 b]) (h3 : u3 = .agg #[.int .i64 c, .int .i64 d]) (hb : (SH E).p p w) :
    Calls Tryz.prog 32 #[u0, u1, u2, u3] w fun e w' => ∃ t, e = .returned t ∧ t = .agg #[.int .i64 x.lo, .int .i64 x.hi] ∧ GB p w w' ∧ (SH x.e).p p w' := by
 subst hx; exact b_add h0 h1 h2 h3 hb
theorem b_div1 {p : Nat} {E a b c d : Int} {w : World} {u0 u1 u2 u3 : Value} {x : R3} (hx : doI E (divI a b c d) = x) (h0 : u0 = .pointer (some ⟨p, 0, none⟩)) (h1 : u1 = .func (.func 71) #[] #[]) (h2 : u2 = .agg #[.int .i64 a, .int .i64 b]) (h3 : u3 = .agg #[.int .i64 c, .int .i64 d]) (hb : (SH E).p p w) :
    Calls Tryz.prog 32 #[u0, u1, u2, u3] w fun e w' => ∃ t, e = .returned t ∧ t = .agg #[.int .i64 x.lo, .int .i64 x.hi] ∧ GB p w w' ∧ (SH x.e).p p w' := by
 subst hx; exact b_div h0 h1 h2 h3 hb
theorem b_neg1 {p : Nat} {E a b : Int} {w : World} {u0 u1 : Value} {x : R3} (hx : doI E (subI 0 0 a b) = x) (h0 : u0 = .pointer (some ⟨p, 0, none⟩)) (h1 : u1 = .agg #[.int .i64 a, .int .i64 b]) (hb : (SH E).p p w) :
    Calls Tryz.prog 69 #[u0, u1] w fun e w' => ∃ t, e = .returned t ∧ t = .agg #[.int .i64 x.lo, .int .i64 x.hi] ∧ GB p w w' ∧ (SH x.e).p p w' := by
 subst hx; exact b_neg h0 h1 hb
def unitV (cd cr sr sd : Int × Int) : V3 :=
 ⟨(doI 0 (mulI cd.1 cd.2 cr.1 cr.2)).lo, (doI 0 (mulI cd.1 cd.2 cr.1 cr.2)).hi, (doI (doI 0 (mulI cd.1 cd.2 cr.1 cr.2)).e (mulI cd.1 cd.2 sr.1 sr.2)).lo, (doI (doI 0 (mulI cd.1 cd.2 cr.1 cr.2)).e (mulI cd.1 cd.2 sr.1 sr.2)).hi, sd.1, sd.2⟩
theorem p_unit (ra dec : Int) (cd cr sr sd : Int × Int) (w : World) (hcd0 : ∀ w1 : World, Calls Tryz.prog 68 #[.int .i64 dec] w1 fun e w' => e = .returned (.agg #[.int .i64 cd.1, .int .i64 cd.2]) ∧ Ext w1 w') (hcr0 : ∀ w1 : World, Calls Tryz.prog 68 #[.int .i64 ra] w1 fun e w' => e = .returned (.agg #[.int .i64 cr.1, .int .i64 cr.2]) ∧ Ext w1 w') (hsr0 : ∀ w1 : World, Calls Tryz.prog 39 #[.int .i64 ra] w1 fun e w' => e = .returned (.agg #[.int .i64 sr.1, .int .i64 sr.2]) ∧ Ext w1 w') (hsd0 : ∀ w1 : World, Calls Tryz.prog 39 #[.int .i64 dec] w1 fun e w' => e = .returned (.agg #[.int .i64 sd.1, .int .i64 sd.2]) ∧ Ext w1 w') (icd : I64 cd.1 ∧ I64 cd.2) (icr : I64 cr.1 ∧ I64 cr.2) (isr : I64 sr.1 ∧ I64 sr.2) :
    Calls Tryz.prog 28 #[.int .i64 ra, .int .i64 dec] w fun e w' => e = .returned (.agg #[.int .i64 (unitV cd cr sr sd).a, .int .i64 (unitV cd cr sr sd).b, .int .i64 (unitV cd cr sr sd).c, .int .i64 (unitV cd cr sr sd).d, .int .i64 (unitV cd cr sr sd).e, .int .i64 (unitV cd cr sr sd).f]) ∧ Ext w w' := by
 have hcd : ∀ (w1 : World) (u1 : Value), u1 = .int .i64 dec → Calls Tryz.prog 68 #[u1] w1 fun e w' => ∃ u, e = .returned u ∧ u = .agg #[.int .i64 cd.1, .int .i64 cd.2] ∧ Ext w1 w' := fun w1 u1 k => by subst k; exact calls_eq (hcd0 w1)
 have hcr : ∀ (w1 : World) (u1 : Value), u1 = .int .i64 ra → Calls Tryz.prog 68 #[u1] w1 fun e w' => ∃ u, e = .returned u ∧ u = .agg #[.int .i64 cr.1, .int .i64 cr.2] ∧ Ext w1 w' := fun w1 u1 k => by subst k; exact calls_eq (hcr0 w1)
 have hsr : ∀ (w1 : World) (u1 : Value), u1 = .int .i64 ra → Calls Tryz.prog 39 #[u1] w1 fun e w' => ∃ u, e = .returned u ∧ u = .agg #[.int .i64 sr.1, .int .i64 sr.2] ∧ Ext w1 w' := fun w1 u1 k => by subst k; exact calls_eq (hsr0 w1)
 have hsd : ∀ (w1 : World) (u1 : Value), u1 = .int .i64 dec → Calls Tryz.prog 39 #[u1] w1 fun e w' => ∃ u, e = .returned u ∧ u = .agg #[.int .i64 sd.1, .int .i64 sd.2] ∧ Ext w1 w' := fun w1 u1 k => by subst k; exact calls_eq (hsd0 w1)
 clear hcd0 hcr0 hsr0 hsd0
 unfold unitV
 obtain ⟨x1, hx1⟩ : ∃ x, doI 0 (mulI cd.1 cd.2 cr.1 cr.2) = x := ⟨_, rfl⟩
 rw [hx1]
 obtain ⟨x2, hx2⟩ : ∃ x, doI x1.e (mulI cd.1 cd.2 sr.1 sr.2) = x := ⟨_, rfl⟩
 rw [hx2]
 have I0 : KBd w [] w := ⟨Ext.refl w, trivial, by simp, by simp⟩
 have I := ((I0.new [.int .i64 0, .int .i64 0, .int .i64 0, .int .i64 0, .int .i64 0, .int .i64 0] 32 (by simp)).new [.func (.func 42) #[] #[], .func (.func 70) #[] #[], .func (.func 48) #[] #[], .func (.func 71) #[] #[], .int .i64 (0)] 74 (by simp))
 simp only [World.size_alloc, List.nil_append, List.cons_append] at I
 have I : KBd w [(w.heap.size, BF.own [.int .i64 0, .int .i64 0, .int .i64 0, .int .i64 0, .int .i64 0, .int .i64 0]), (w.heap.size + 1, SH 0)] _ := I
 clear I0
 go_enter Tryz.func28, Tryz.ntmps28
 go_upto_region 2 with (go_at_call 30; (with_reducible refine (s_begin _).mono ?_); rintro e w1 ⟨rfl, rfl⟩; try simp only [World.size_alloc])
 go_upto_region 2 with fail
 refine wp_regB [] [⟨2, some 3, BF.own [.int .i64 0, .int .i64 0], (BF.own [.int .i64 cd.1, .int .i64 cd.2])⟩] (fun z_ => ([VF.eq (.int .i64 (dec)), VF.eq (.agg #[.int .i64 cd.1, .int .i64 cd.2])] : List VF).getD z_ VF.any) I (fun hc => ⟨?_, ?_, ?_, ?_, trivial⟩) (fun vs gl W hK0 hv hp => ?_)
 ·exact ob_mv hc (.inl rfl)
 ·exact ob_call (fun v => [v 0]) hc rfl fun vs gs w1 c => hcd _ _ (c.v 0)
 ·exact ob_new (n := 2) [.int .i64 0, .int .i64 0] 30 rfl hc rfl rfl rfl
 ·exact ob_put2 (n := 2) 0 rfl (some 1) hc rfl
 have p0 : vs 2 = .pointer (some ⟨gl 0, 0, none⟩) := hp 0 _ rfl
 simp only [putS, Nat.reduceAdd, Act.put, List.setIfInBounds_toArray, List.set_cons_zero, List.set_cons_succ, p0]
 obtain ⟨gc, e90⟩ : ∃ n, gl 0 = n := ⟨_, rfl⟩
 simp only [kb_, e90] at hK0
 rw [e90]
 replace I := hK0
 clear hK0 hv hp gl p0 e90
 go_upto_region 3 with fail
 refine wp_regB [[(21, BF.own [.int .i64 x1.lo, .int .i64 x1.hi, .int .i64 x2.lo, .int .i64 x2.hi, .int .i64 sd.1, .int .i64 sd.2])], [(8, SH x1.e), (16, SH x1.e), (17, SH x2.e)]] [] (fun z_ => ([VF.eq (.pointer (some ⟨(w.heap.size + 1), 0, none⟩)), VF.eq (.pointer (some ⟨(w.heap.size + 1), 0, none⟩)), VF.eq (.pointer (some ⟨(w.heap.size + 1), 0, none⟩)), VF.eq (.pointer (some ⟨(w.heap.size + 1), 2, none⟩)), VF.eq (.func (.func 48) #[] #[]), VF.eq (.agg #[.int .i64 cd.1, .int .i64 cd.2]), VF.eq (.int .i64 (ra)), VF.eq (.agg #[.int .i64 cr.1, .int .i64 cr.2]), VF.eq (.agg #[.int .i64 x1.lo, .int .i64 x1.hi]), VF.eq (.pointer (some ⟨(w.heap.size + 1), 0, none⟩)), VF.eq (.pointer (some ⟨(w.heap.size + 1), 0, none⟩)), VF.eq (.pointer (some ⟨(w.heap.size + 1), 0, none⟩)), VF.eq (.pointer (some ⟨(w.heap.size + 1), 2, none⟩)), VF.eq (.func (.func 48) #[] #[]), VF.eq (.agg #[.int .i64 cd.1, .int .i64 cd.2]), VF.eq (.int .i64 (ra)), VF.eq (.agg #[.int .i64 sr.1, .int .i64 sr.2]), VF.eq (.agg #[.int .i64 x2.lo, .int .i64 x2.hi]), VF.eq (.int .i64 (dec)), VF.eq (.agg #[.int .i64 sd.1, .int .i64 sd.2]), VF.eq (.agg #[.int .i64 x1.lo, .int .i64 x1.hi, .int .i64 x2.lo, .int .i64 x2.hi, .int .i64 sd.1, .int .i64 sd.2])] : List VF).getD z_ VF.any) I (fun hc => ⟨?_, ?_, ?_, ?_, ?_, ?_, ?_, ?_, ?_, ?_, ?_, ?_, ?_, ?_, ?_, ?_, ?_, ?_, ?_, ?_, ?_, ?_, trivial⟩) (fun vs gl W hK0 hv hp => ?_)
 ·exact ob_mv hc (.inl rfl)
 ·exact ob_mv hc (.inl rfl)
 ·exact ob_e1 (x := .tmp 11) (a := (.pointer (some ⟨(w.heap.size + 1), 0, none⟩))) (u := .pointer (some ⟨(w.heap.size + 1), 0, none⟩)) (some 1) hc
 ·exact ob_e1 (x := .tmp 12) (a := (.pointer (some ⟨(w.heap.size + 1), 0, none⟩))) (u := .pointer (some ⟨(w.heap.size + 1), 2, none⟩)) (some 2) hc
 ·exact ob_ld (x := .tmp 13) (g := (w.heap.size + 1)) (f := 2) (u := .func (.func 48) #[] #[]) (some 3) hc fun vs gs w1 c => c.fix 1 2
 ·exact ob_ld2 (x := .tmp 6) (g := gc) (f := 0) none hc rfl fun vs gs w1 c => ⟨c.own 2 0, c.own 2 1⟩
 ·exact ob_mv hc (.inl rfl)
 ·exact ob_call (fun v => [v 6]) hc rfl fun vs gs w1 c => hcr _ _ (c.v 6)
 ·exact ob_callB (n := 1) 0 (w.heap.size + 1) (fun v => [v 0, v 4, v 5, v 7]) rfl hc rfl fun vs gs w1 c hb => b_mul1 hx1 (c.v 0) (c.v 4) (c.v 5) (c.v 7) hb icd icr
 ·exact ob_mv hc (.inl rfl)
 ·exact ob_mv hc (.inl rfl)
 ·exact ob_e1 (x := .tmp 20) (a := (.pointer (some ⟨(w.heap.size + 1), 0, none⟩))) (u := .pointer (some ⟨(w.heap.size + 1), 0, none⟩)) (some 10) hc
 ·exact ob_e1 (x := .tmp 21) (a := (.pointer (some ⟨(w.heap.size + 1), 0, none⟩))) (u := .pointer (some ⟨(w.heap.size + 1), 2, none⟩)) (some 11) hc
 ·exact ob_ld (x := .tmp 22) (g := (w.heap.size + 1)) (f := 2) (u := .func (.func 48) #[] #[]) (some 12) hc fun vs gs w1 c => c.fix 1 2
 ·exact ob_ld2 (x := .tmp 6) (g := gc) (f := 0) none hc rfl fun vs gs w1 c => ⟨c.own 2 0, c.own 2 1⟩
 ·exact ob_mv hc (.inl rfl)
 ·exact ob_callB (n := 1) 1 (w.heap.size + 1) (fun v => [v 15]) rfl hc rfl fun vs gs w1 c hb => calls_keep hb (hsr _ _ (c.v 15))
 ·exact ob_callB (n := 1) 2 (w.heap.size + 1) (fun v => [v 9, v 13, v 14, v 16]) rfl hc rfl fun vs gs w1 c hb => b_mul1 hx2 (c.v 9) (c.v 13) (c.v 14) (c.v 16) hb icd isr
 ·exact ob_mv hc (.inl rfl)
 ·exact ob_call (fun v => [v 18]) hc rfl fun vs gs w1 c => hsd _ _ (c.v 18)
 ·exact ob_b3 (some 8) (some 17) (some 19) hc rfl
 ·exact ob_putV (n := 0) rfl (some 20) hc rfl rfl
 simp only [putS, Nat.reduceAdd, Act.put, List.setIfInBounds_toArray, List.set_cons_zero, List.set_cons_succ]
 simp only [kb_] at hK0
 replace I := hK0
 clear hK0 hv hp gl
 have d0 := I.own 0 0
 have d1 := I.own 0 1
 have d2 := I.own 0 2
 have d3 := I.own 0 3
 have d4 := I.own 0 4
 have d5 := I.own 0 5
 have hE := I.e
 clear I hcd hcr hsr hsd
 go_wp2_with fail
 refine bodyPost_ret (v := .agg #[.int .i64 x1.lo, .int .i64 x1.hi, .int .i64 x2.lo, .int .i64 x2.hi, .int .i64 sd.1, .int .i64 sd.2]) ?_ rfl ⟨rfl, hE⟩
 simp [results, Tryz.results28, go_sem, ↓IntWalk.iteOmega, d0, d1, d2, d3, d4, d5]
theorem T_SPD_5 {p : Prop} (h : p := by
 exact ob_e1 (x := .tmp 30) (a := (.pointer (some ⟨p, 0, none⟩))) (u := .pointer (some ⟨p, 2, none⟩)) (some 8) hc) : p := h
theorem T_SPD_4 {p : Prop} (h : p := by
 exact ob_e1 (x := .tmp 29) (a := (.pointer (some ⟨p, 0, none⟩))) (u := .pointer (some ⟨p, 0, none⟩)) (some 7) hc) : p := h
theorem T_SPD_3 {p : Prop} (h : p := by
 exact ob_e1 (x := .tmp 24) (a := (.pointer (some ⟨p, 0, none⟩))) (u := .pointer (some ⟨p, 0, none⟩)) (some 2) hc) : p := h
theorem T_SPD_2 {p : Prop} (h : p := by
 exact ob_e1 (x := .tmp 23) (a := (.pointer (some ⟨p, 0, none⟩))) (u := .pointer (some ⟨p, 0, none⟩)) (some 1) hc) : p := h
theorem T_SPD_1 {p : Prop} (h : p := by
 exact ob_ld2 (x := .tmp 7) (g := g7) (f := 0) none hc rfl fun vs gs w1 c => ⟨c.own 4 0, c.own 4 1⟩) : p := h
def dtM0 (E : Int) (a b : V3) : R3 := doI E (mulI a.a a.b b.a b.b)
def dtM1 (E : Int) (a b : V3) : R3 := doI (dtM0 E a b).e (mulI a.c a.d b.c b.d)
def dtS1 (E : Int) (a b : V3) : R3 := doI (dtM1 E a b).e (addI (dtM0 E a b).lo (dtM0 E a b).hi (dtM1 E a b).lo (dtM1 E a b).hi)
def dtM2 (E : Int) (a b : V3) : R3 := doI (dtS1 E a b).e (mulI a.e a.f b.e b.f)
def dotS (E : Int) (a b : V3) : R3 := doI (dtM2 E a b).e (addI (dtS1 E a b).lo (dtS1 E a b).hi (dtM2 E a b).lo (dtM2 E a b).hi)
theorem b_dot {p : Nat} {E : Int} {a b : V3} {w : World} {u0 u1 u2 : Value} (h0 : u0 = .pointer (some ⟨p, 0, none⟩)) (h1 : u1 = .agg #[.int .i64 a.a, .int .i64 a.b, .int .i64 a.c, .int .i64 a.d, .int .i64 a.e, .int .i64 a.f]) (h2 : u2 = .agg #[.int .i64 b.a, .int .i64 b.b, .int .i64 b.c, .int .i64 b.d, .int .i64 b.e, .int .i64 b.f]) (hb : (SH E).p p w) (ia : a.I) (ib : b.I) :
    Calls Tryz.prog 31 #[u0, u1, u2] w fun e w' => ∃ t, e = .returned t ∧ t = .agg #[.int .i64 (dotS E a b).lo, .int .i64 (dotS E a b).hi] ∧ GB p w w' ∧ (SH (dotS E a b).e).p p w' := by
 subst h0 h1 h2
 obtain ⟨iA0, iA1, iA2⟩ := ia
 obtain ⟨iB0, iB1, iB2⟩ := ib
 obtain ⟨m0, hm0⟩ : ∃ x, dtM0 E a b = x := ⟨_, rfl⟩
 obtain ⟨m1, hm1⟩ : ∃ x, dtM1 E a b = x := ⟨_, rfl⟩
 obtain ⟨s1, hs1⟩ : ∃ x, dtS1 E a b = x := ⟨_, rfl⟩
 obtain ⟨m2, hm2⟩ : ∃ x, dtM2 E a b = x := ⟨_, rfl⟩
 obtain ⟨s2, hs2⟩ : ∃ x, dotS E a b = x := ⟨_, rfl⟩
 rw [hs2]
 unfold dotS at hs2
 rw [hm2, hs1] at hs2
 unfold dtM2 at hm2
 rw [hs1] at hm2
 unfold dtS1 at hs1
 rw [hm1, hm0] at hs1
 unfold dtM1 at hm1
 rw [hm0] at hm1
 unfold dtM0 at hm0
 have I := ((((KBp.one hb).new [.int .i64 a.a, .int .i64 a.b, .int .i64 a.c, .int .i64 a.d, .int .i64 a.e, .int .i64 a.f] 32 (by simp)).new [.int .i64 b.a, .int .i64 b.b, .int .i64 b.c, .int .i64 b.d, .int .i64 b.e, .int .i64 b.f] 32 (by simp)).new [.int .i64 0, .int .i64 0] 30 (by simp))
 simp only [World.size_alloc, List.nil_append, List.cons_append] at I
 clear hb
 go_enter Tryz.func31, Tryz.ntmps31
 go_upto_region 1 with fail
 refine wp_regP [[(9, SH m0.e)]] [⟨10, some 11, BF.own [.int .i64 0, .int .i64 0], (BF.own [.int .i64 m0.lo, .int .i64 m0.hi])⟩] (fun z_ => ([VF.eq (.pointer (some ⟨p, 0, none⟩)), VF.eq (.pointer (some ⟨p, 0, none⟩)), VF.eq (.pointer (some ⟨p, 0, none⟩)), VF.eq (.pointer (some ⟨p, 2, none⟩)), VF.eq (.func (.func 48) #[] #[]), VF.eq (.pointer (some ⟨w.heap.size, 0, none⟩)), VF.eq (.agg #[.int .i64 a.a, .int .i64 a.b]), VF.eq (.pointer (some ⟨(w.heap.size + 1), 0, none⟩)), VF.eq (.agg #[.int .i64 b.a, .int .i64 b.b]), VF.eq (.agg #[.int .i64 m0.lo, .int .i64 m0.hi])] : List VF).getD z_ VF.any) I (fun hc => ⟨?_, ?_, ?_, ?_, ?_, ?_, ?_, ?_, ?_, ?_, ?_, ?_, trivial⟩) (fun vs gl W hK0 hv hp => ?_)
 ·exact ob_mv hc (.inl rfl)
 ·exact ob_mv hc (.inl rfl)
 ·exact ob_e1 (x := .tmp 10) (a := (.pointer (some ⟨p, 0, none⟩))) (u := .pointer (some ⟨p, 0, none⟩)) (some 1) hc
 ·exact ob_e1 (x := .tmp 11) (a := (.pointer (some ⟨p, 0, none⟩))) (u := .pointer (some ⟨p, 2, none⟩)) (some 2) hc
 ·exact ob_ld (x := .tmp 12) (g := p) (f := 2) (u := .func (.func 48) #[] #[]) (some 3) hc fun vs gs w1 c => c.fix 0 2
 ·exact ob_e2 (x := .tmp 4) (y := .const (.int .i64 0)) (a := .pointer (some ⟨w.heap.size, 0, none⟩)) (b := .int .i64 0) (u := .pointer (some ⟨w.heap.size, 0, none⟩)) none none hc
 ·exact ob_ld2 (x := .tmp 14) (g := w.heap.size) (f := 0) (some 5) hc rfl fun vs gs w1 c => ⟨c.own 1 0, c.own 1 1⟩
 ·exact ob_e2 (x := .tmp 5) (y := .const (.int .i64 0)) (a := .pointer (some ⟨(w.heap.size + 1), 0, none⟩)) (b := .int .i64 0) (u := .pointer (some ⟨(w.heap.size + 1), 0, none⟩)) none none hc
 ·exact ob_ld2 (x := .tmp 16) (g := (w.heap.size + 1)) (f := 0) (some 7) hc rfl fun vs gs w1 c => ⟨c.own 2 0, c.own 2 1⟩
 ·exact ob_callB (n := 0) 0 p (fun v => [v 0, v 4, v 6, v 8]) rfl hc rfl fun vs gs w1 c hb => b_mul1 hm0 (c.v 0) (c.v 4) (c.v 6) (c.v 8) hb iA0 iB0
 ·exact b_22
 ·exact ob_put2 (n := 4) 0 rfl (some 9) hc rfl
 have p0 : vs 10 = .pointer (some ⟨gl 0, 0, none⟩) := hp 0 _ rfl
 simp only [putS, Nat.reduceAdd, Act.put, List.setIfInBounds_toArray, List.set_cons_zero, List.set_cons_succ, p0]
 obtain ⟨g7, e90⟩ : ∃ n, gl 0 = n := ⟨_, rfl⟩
 simp only [kb_, e90] at hK0
 rw [e90]
 replace I := hK0
 clear hK0 hv hp gl p0 e90
 go_wp2_with fail
 refine wp_loop_rounds 3 ?_
 rw [rounds_succ]
 go_upto_region 5 with fail
 refine wp_regP [[(19, SH m1.e), (20, SH s1.e)], [], [], [], [(21, BF.own [.int .i64 s1.lo, .int .i64 s1.hi])]] [] (fun z_ => ([VF.eq (.pointer (some ⟨p, 0, none⟩)), VF.eq (.pointer (some ⟨p, 0, none⟩)), VF.eq (.pointer (some ⟨p, 0, none⟩)), VF.eq (.pointer (some ⟨p, 0, none⟩)), VF.eq (.func (.func 42) #[] #[]), VF.eq (.agg #[.int .i64 m0.lo, .int .i64 m0.hi]), VF.eq (.pointer (some ⟨p, 0, none⟩)), VF.eq (.pointer (some ⟨p, 0, none⟩)), VF.eq (.pointer (some ⟨p, 0, none⟩)), VF.eq (.pointer (some ⟨p, 2, none⟩)), VF.eq (.func (.func 48) #[] #[]), VF.eq (.int .i64 (0)), VF.eq (.int .i64 (1)), VF.eq (.pointer (some ⟨w.heap.size, 2, none⟩)), VF.eq (.agg #[.int .i64 a.c, .int .i64 a.d]), VF.eq (.int .i64 (0)), VF.eq (.int .i64 (1)), VF.eq (.pointer (some ⟨(w.heap.size + 1), 2, none⟩)), VF.eq (.agg #[.int .i64 b.c, .int .i64 b.d]), VF.eq (.agg #[.int .i64 m1.lo, .int .i64 m1.hi]), VF.eq (.agg #[.int .i64 s1.lo, .int .i64 s1.hi])] : List VF).getD z_ VF.any) I (fun hc => ⟨?_, ?_, ?_, ?_, ?_, ?_, ?_, ?_, ?_, ?_, ?_, ?_, ?_, ?_, ?_, ?_, ?_, ?_, ?_, ?_, ?_, ?_, trivial⟩) (fun vs gl W hK0 hv hp => ?_)
 ·exact ob_mv hc (.inl rfl)
 ·exact ob_mv hc (.inl rfl)
 ·exact T_SPD_2
 ·exact T_SPD_3
 ·exact ob_ld (x := .tmp 25) (g := p) (f := 0) (u := .func (.func 42) #[] #[]) (some 3) hc fun vs gs w1 c => c.fix 0 0
 ·exact T_SPD_1
 ·exact ob_mv hc (.inl rfl)
 ·exact ob_mv hc (.inl rfl)
 ·exact T_SPD_4
 ·exact T_SPD_5
 ·exact ob_ld (x := .tmp 31) (g := p) (f := 2) (u := .func (.func 48) #[] #[]) (some 9) hc fun vs gs w1 c => c.fix 0 2
 ·exact ob_mv hc (.inl rfl)
 ·exact ob_e2 (x := .tmp 33) (y := .const (.int .i64 1)) (a := (.int .i64 (0))) (b := .int .i64 1) (u := .int .i64 (1)) (some 11) none hc (hs := by intro ρ w1 h k; go_simp; first | done | rfl)
 ·exact ob_e2 (x := .tmp 4) (y := .tmp 34) (a := .pointer (some ⟨w.heap.size, 0, none⟩)) (b := (.int .i64 (1))) (u := .pointer (some ⟨w.heap.size, 2, none⟩)) none (some 12) hc
 ·exact ob_ld2 (x := .tmp 35) (g := w.heap.size) (f := 2) (some 13) hc rfl fun vs gs w1 c => ⟨c.own 1 2, c.own 1 3⟩
 ·exact ob_mv hc (.inl rfl)
 ·exact ob_e2 (x := .tmp 37) (y := .const (.int .i64 1)) (a := (.int .i64 (0))) (b := .int .i64 1) (u := .int .i64 (1)) (some 15) none hc (hs := by intro ρ w1 h k; go_simp; first | done | rfl)
 ·exact ob_e2 (x := .tmp 5) (y := .tmp 38) (a := .pointer (some ⟨(w.heap.size + 1), 0, none⟩)) (b := (.int .i64 (1))) (u := .pointer (some ⟨(w.heap.size + 1), 2, none⟩)) none (some 16) hc
 ·exact ob_ld2 (x := .tmp 39) (g := (w.heap.size + 1)) (f := 2) (some 17) hc rfl fun vs gs w1 c => ⟨c.own 2 2, c.own 2 3⟩
 ·exact ob_callB (n := 0) 0 p (fun v => [v 6, v 10, v 14, v 18]) rfl hc rfl fun vs gs w1 c hb => b_mul1 hm1 (c.v 6) (c.v 10) (c.v 14) (c.v 18) hb iA1 iB1
 ·exact ob_callB (n := 0) 1 p (fun v => [v 0, v 4, v 5, v 19]) rfl hc rfl fun vs gs w1 c hb => b_add1 hs1 (c.v 0) (c.v 4) (c.v 5) (c.v 19) hb
 ·exact ob_put2 (n := 4) 0 rfl (some 20) hc rfl (hf := by simp)
 simp only [putS, Nat.reduceAdd, Act.put, List.setIfInBounds_toArray, List.set_cons_zero, List.set_cons_succ]
 simp only [kb_] at hK0
 replace I := hK0
 clear hK0 hv hp gl
 go_wp2_with fail
 rw [rounds_succ]
 go_upto_region 5 with fail
 refine wp_regP [[(19, SH m2.e), (20, SH s2.e)], [], [], [], [(21, BF.own [.int .i64 s2.lo, .int .i64 s2.hi])]] [] (fun z_ => ([VF.eq (.pointer (some ⟨p, 0, none⟩)), VF.eq (.pointer (some ⟨p, 0, none⟩)), VF.eq (.pointer (some ⟨p, 0, none⟩)), VF.eq (.pointer (some ⟨p, 0, none⟩)), VF.eq (.func (.func 42) #[] #[]), VF.eq (.agg #[.int .i64 s1.lo, .int .i64 s1.hi]), VF.eq (.pointer (some ⟨p, 0, none⟩)), VF.eq (.pointer (some ⟨p, 0, none⟩)), VF.eq (.pointer (some ⟨p, 0, none⟩)), VF.eq (.pointer (some ⟨p, 2, none⟩)), VF.eq (.func (.func 48) #[] #[]), VF.eq (.int .i64 (1)), VF.eq (.int .i64 (2)), VF.eq (.pointer (some ⟨w.heap.size, 4, none⟩)), VF.eq (.agg #[.int .i64 a.e, .int .i64 a.f]), VF.eq (.int .i64 (1)), VF.eq (.int .i64 (2)), VF.eq (.pointer (some ⟨(w.heap.size + 1), 4, none⟩)), VF.eq (.agg #[.int .i64 b.e, .int .i64 b.f]), VF.eq (.agg #[.int .i64 m2.lo, .int .i64 m2.hi]), VF.eq (.agg #[.int .i64 s2.lo, .int .i64 s2.hi])] : List VF).getD z_ VF.any) I (fun hc => ⟨?_, ?_, ?_, ?_, ?_, ?_, ?_, ?_, ?_, ?_, ?_, ?_, ?_, ?_, ?_, ?_, ?_, ?_, ?_, ?_, ?_, ?_, trivial⟩) (fun vs gl W hK0 hv hp => ?_)
 ·exact ob_mv hc (.inl rfl)
 ·exact ob_mv hc (.inl rfl)
 ·exact T_SPD_2
 ·exact T_SPD_3
 ·exact ob_ld (x := .tmp 25) (g := p) (f := 0) (u := .func (.func 42) #[] #[]) (some 3) hc fun vs gs w1 c => c.fix 0 0
 ·exact T_SPD_1
 ·exact ob_mv hc (.inl rfl)
 ·exact ob_mv hc (.inl rfl)
 ·exact T_SPD_4
 ·exact T_SPD_5
 ·exact ob_ld (x := .tmp 31) (g := p) (f := 2) (u := .func (.func 48) #[] #[]) (some 9) hc fun vs gs w1 c => c.fix 0 2
 ·exact ob_mv hc (.inl rfl)
 ·exact ob_e2 (x := .tmp 33) (y := .const (.int .i64 1)) (a := (.int .i64 (1))) (b := .int .i64 1) (u := .int .i64 (2)) (some 11) none hc (hs := by intro ρ w1 h k; go_simp; first | done | rfl)
 ·exact ob_e2 (x := .tmp 4) (y := .tmp 34) (a := .pointer (some ⟨w.heap.size, 0, none⟩)) (b := (.int .i64 (2))) (u := .pointer (some ⟨w.heap.size, 4, none⟩)) none (some 12) hc
 ·exact ob_ld2 (x := .tmp 35) (g := w.heap.size) (f := 4) (some 13) hc rfl fun vs gs w1 c => ⟨c.own 1 4, c.own 1 5⟩
 ·exact ob_mv hc (.inl rfl)
 ·exact ob_e2 (x := .tmp 37) (y := .const (.int .i64 1)) (a := (.int .i64 (1))) (b := .int .i64 1) (u := .int .i64 (2)) (some 15) none hc (hs := by intro ρ w1 h k; go_simp; first | done | rfl)
 ·exact ob_e2 (x := .tmp 5) (y := .tmp 38) (a := .pointer (some ⟨(w.heap.size + 1), 0, none⟩)) (b := (.int .i64 (2))) (u := .pointer (some ⟨(w.heap.size + 1), 4, none⟩)) none (some 16) hc
 ·exact ob_ld2 (x := .tmp 39) (g := (w.heap.size + 1)) (f := 4) (some 17) hc rfl fun vs gs w1 c => ⟨c.own 2 4, c.own 2 5⟩
 ·exact ob_callB (n := 0) 0 p (fun v => [v 6, v 10, v 14, v 18]) rfl hc rfl fun vs gs w1 c hb => b_mul1 hm2 (c.v 6) (c.v 10) (c.v 14) (c.v 18) hb iA2 iB2
 ·exact ob_callB (n := 0) 1 p (fun v => [v 0, v 4, v 5, v 19]) rfl hc rfl fun vs gs w1 c hb => b_add1 hs2 (c.v 0) (c.v 4) (c.v 5) (c.v 19) hb
 ·exact ob_put2 (n := 4) 0 rfl (some 20) hc rfl (hf := by simp)
 simp only [putS, Nat.reduceAdd, Act.put, List.setIfInBounds_toArray, List.set_cons_zero, List.set_cons_succ]
 simp only [kb_] at hK0
 replace I := hK0
 clear hK0 hv hp gl
 go_wp2_with fail
 rw [rounds_succ]
 go_upto_region 7 with fail
 refine wp_regP [[], [], [], [(1, BF.own [.int .i64 s2.lo, .int .i64 s2.hi])]] [] (fun z_ => ([VF.eq (.agg #[.int .i64 s2.lo, .int .i64 s2.hi])] : List VF).getD z_ VF.any) I (fun hc => ⟨?_, ?_, trivial⟩) (fun vs gl W hK0 hv hp => ?_)
 ·exact T_SPD_1
 ·exact ob_put2 (n := 3) 0 rfl (some 0) hc rfl
 simp only [putS, Nat.reduceAdd, Act.put, List.setIfInBounds_toArray, List.set_cons_zero, List.set_cons_succ]
 simp only [kb_] at hK0
 replace I := hK0
 clear hK0 hv hp gl
 have d0 := I.own 3 0
 have d1 := I.own 3 1
 have hE := I.e
 have hB := I.at 0
 clear I
 go_wp2_with fail
 refine bodyPost_ret (v := .agg #[.int .i64 s2.lo, .int .i64 s2.hi]) ?_ rfl ⟨_, rfl, rfl, hE, hB⟩
 simp [results, Tryz.results31, go_sem, ↓IntWalk.iteOmega, d0, d1]
end Go.Proofs.YtaoioncjmfcolaaGreat
