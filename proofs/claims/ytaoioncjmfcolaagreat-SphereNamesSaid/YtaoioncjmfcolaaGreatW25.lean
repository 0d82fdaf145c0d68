/- trig: unit and pi. -/
import Derived.Test.YtaoioncjmfcolaaGreatW24
set_option linter.unusedSimpArgs false
set_option linter.unusedVariables false
set_option maxRecDepth 100000
set_option maxHeartbeats 4000000
namespace Go.Proofs.YtaoioncjmfcolaaGreat
open Go.RowKit
theorem t_unit (vb : Value) (x r q : Int) (p : Nat) (w : World) (hb0 : Ball w vb x r) (hr0 : 0 ≤ r) (hr1 : r ≤ 9000000000000000000) (hp0 : 41 ≤ p) (hp : p ≤ 1000) (hF : floorF x r p = some q) :
    Calls Tryz.prog 89 #[vb, .int .i64 p] w fun e w' => e = .returned (.tuple #[.agg #[.int .i64 q, .int .i64 (q + 1)], .bool true]) ∧ Ext w w' := by
 obtain ⟨-, -, -, -, -, hq3⟩ := floorF_spec hF
 obtain ⟨sb, aob, nb, capb, rfl, hWx⟩ := hb0.open
 have hfl := fun w1 (k1 : Ext w w1) => t_floor _ x r q p w1 (hb0.ext k1) hr0 hr1 hp0 hp hF
 clear hF hWx hb0
 go_enter Tryz.func89, Tryz.ntmps89
 go_wp2_with (go_at_call 147; (with_reducible refine (hfl _ ex_).mono ?_); rintro e w1 ⟨rfl, hb⟩; obtain ⟨_, _, ⟨hc, hf⟩, hz⟩ := hb.c3; (try simp only [wsz] at hz hc hf))
 refine bodyPost_ret (v := .tuple #[.agg #[.int .i64 q, .int .i64 (q + 1)], .bool true]) ?_ rfl ⟨rfl, ?_⟩
 ·simp [results, Tryz.results89, go_sem, ↓IntWalk.iteOmega, *]
 ·exact b_1
def piF (p : Nat) : Option Bl :=
 (atanF 18 1000 0 (2 ^ p / 18) 0).bind fun a => (atanF 57 1000 0 (2 ^ p / 57) 0).bind fun b => (atanF 239 1000 0 (2 ^ p / 239) 0).bind fun c =>
 if p ≤ 1000 ∧ a.2 ≤ 100000 ∧ b.2 ≤ 100000 ∧ c.2 ≤ 100000 ∧ okN (48 * a.1) = true ∧ okN (32 * b.1) = true ∧ okN (48 * a.1 + 32 * b.1) = true ∧ okN (20 * c.1) = true ∧ okN (48 * a.1 + 32 * b.1 - 20 * c.1) = true ∧ 0 ≤ 48 * a.1 + 32 * b.1 - 20 * c.1 then
  some ⟨48 * a.1 + 32 * b.1 - 20 * c.1, 48 * (2 * (a.2 : Int) + 4) + 32 * (2 * (b.2 : Int) + 4) + 20 * (2 * (c.2 : Int) + 4)⟩ else none
theorem t_piF {p : Nat} {S : Bl} (w : World) (h : piF p = some S) : (Calls Tryz.prog 124 #[.int .i64 p] w fun e w' => ∃ u, e = .returned u ∧ Ball w' u S.v S.r ∧ Ext w w') ∧ okN S.v = true ∧ 0 ≤ S.v ∧ 0 ≤ S.r ∧ S.r ≤ 30000000 ∧ p ≤ 1000 := by
 unfold piF at h
 rw [Option.bind_eq_some_iff] at h
 obtain ⟨⟨a, ca⟩, h1, h⟩ := h
 rw [Option.bind_eq_some_iff] at h
 obtain ⟨⟨b, cb⟩, h2, h⟩ := h
 rw [Option.bind_eq_some_iff] at h
 obtain ⟨⟨c, cc⟩, h3, h⟩ := h
 dsimp only at h
 split at h
 ·rename_i k
  obtain ⟨k1, k2, k3, k4, k5, k6, k7, k8, k9, k10⟩ := k
  obtain rfl := Option.some.inj h
  exact ⟨t_pi p 1000 a b c ca cb cc w k1 (by decide) k2 k3 k4 h1 h2 h3 k5 k6 k7 k8 k9, k9, k10, by dsimp only; omega, by dsimp only; omega, k1⟩
 ·cases h
def VF.lim (xs : List Int) : VF := ⟨fun v w => Lim w v xs, fun _ _ _ h k => h.ext k, fun _ _ _ _ h hT k => h.grown hT k⟩
theorem sg_opp (n : Int) : sg (!decide (n < 0)) n.natAbs = -n := by
 unfold sg
 by_cases h : n < 0
 ·rw [decide_eq_true h]; simp; omega
 ·rw [decide_eq_false h]; simp; omega
theorem t_neg (va : Value) (n : Int) (w : World) (ha : Wid w va n) (hs : Sz n) :
    Calls Tryz.prog 74 #[va] w fun e w' => ∃ u, e = .returned (.tuple #[u, .int .i64 0]) ∧ Wid w' u (-n) ∧ Ext w w' := by
 obtain ⟨s, hsd, ao, cap1, rfl, hu⟩ : ∃ s, decide (n < 0) = s ∧ ∃ ao cap1, va = .agg #[.bool s, .slice ao (dig n.natAbs).length cap1] ∧ Lim w (.slice ao (dig n.natAbs).length cap1) (dig n.natAbs) := by
  obtain ⟨u, rfl, hu⟩ := ha
  obtain ⟨ao, b1, o1, cap1, rfl, -⟩ := hu.view
  exact ⟨_, rfl, ao, cap1, rfl, hu⟩
 have hz : n.natAbs = 0 → s = false := fun h => by rw [← hsd]; exact decide_eq_false (by omega)
 have hl : (dig n.natAbs).length ≤ 4096 := hs
 have hk := z_check_one ((w.alloc (.cells #[.bool s, .slice ao (dig n.natAbs).length cap1] 24)).alloc (.cells #[.bool false, .slice none 0 0] 24)) _ s n.natAbs ((hu.alloc _).alloc _) hl hz
 simp only [World.size_alloc] at hk
 have hcl : ∀ w1 v, v = .slice ao (dig n.natAbs).length cap1 → Ext w w1 → Calls Tryz.prog 130 #[v] w1 fun e w' => ∃ u, e = .returned u ∧ Lim w' u (dig n.natAbs) ∧ Ext w1 w' := fun w1 v hv k1 => by subst hv; exact w_Clone _ _ w1 (hu.ext k1) (by omega)
 have hmd : ∀ b u w1, b = .bool (!s) → Lim w1 u (dig n.natAbs) → Calls Tryz.prog 76 #[b, u] w1 fun e w' => ∃ u, e = .returned (.tuple #[u, .int .i64 0]) ∧ Wid w' u (sg (!s) n.natAbs) ∧ Ext w1 w' := fun b u w1 hb h => by subst hb; exact w_made (!s) u _ n.natAbs w1 h (dig_val _) hl
 have hop := sg_opp n
 rw [hsd] at hop
 rw [hop] at hmd
 clear hz hop hu hl
 obtain ⟨D, hD⟩ : ∃ D, dig n.natAbs = D := ⟨_, rfl⟩
 rw [hD] at hcl hmd hk
 obtain ⟨l1, hl1⟩ : ∃ l1, D.length = l1 := ⟨_, rfl⟩
 rw [hl1] at hcl hk
 rw [hD, hl1]
 clear ha hD hl1
 have I0 : KBd w [] w := ⟨Ext.refl w, trivial, by simp, by simp⟩
 have I := (I0.new [.bool s, .slice ao l1 cap1] 24 (by simp)).new [.bool false, .slice none 0 0] 24 (by simp)
 simp only [World.size_alloc, List.nil_append, List.cons_append] at I
 clear I0
 go_enter Tryz.func74, Tryz.ntmps74
 go_upto_region 4 with (go_at_call 77; (with_reducible refine hk.mono ?_); rintro e w1 ⟨rfl, hb⟩; replace I := (I.ext ((Ext.refl _).alloc _)).ext hb)
 go_upto_region 4 with fail
 refine wp_regB [[], [(9, BF.wat (-n))]] [] (fun z_ => ([VF.eq (.pointer (some ⟨w.heap.size, 0, none⟩)), VF.eq (.bool s), VF.eq (.bool (!s)), VF.eq (.pointer (some ⟨w.heap.size, 1, none⟩)), VF.eq (.slice ao l1 cap1), VF.lim D, (VF.wid (-n)).err 0, VF.wid (-n), VF.eq (.int .i64 0), VF.any, VF.eq (.int .i64 0)] : List VF).getD z_ VF.any) I (fun hc => ⟨?_, ?_, ?_, ?_, ?_, ?_, ?_, ?_, ?_, ?_, ?_, trivial⟩) (fun vs gl W hK0 hv hp => ?_)
 ·exact b_27
 ·exact ob_ld (x := .tmp 12) (g := w.heap.size) (f := 0) (u := .bool s) (some 0) hc fun vs gs w1 c => c.own 0 0
 ·exact ob_e1 (x := .tmp 13) (a := (.bool s)) (u := .bool (!s)) (some 1) hc
 ·exact ob_e1 (x := .tmp 1) (a := .pointer (some ⟨w.heap.size, 0, none⟩)) (u := .pointer (some ⟨w.heap.size, 1, none⟩)) none hc
 ·exact ob_ld (x := .tmp 15) (g := w.heap.size) (f := 1) (u := .slice ao l1 cap1) (some 3) hc fun vs gs w1 c => c.own 0 1
 ·exact ob_call (fun v => [v 4]) hc rfl fun vs gs w1 c => hcl _ _ (c.v 4) c.k.1
 ·exact ob_call (fun v => [v 2, v 5]) hc rfl fun vs gs w1 c => calls_err (hmd _ _ _ (c.v 2) (c.v 5))
 ·exact ob_ext0 6 hc rfl
 ·exact ob_ext1 6 hc rfl
 ·exact ob_putW (n := 1) rfl 7 hc rfl 0 (h4 := fun _ _ h => own_bx2 h)
 ·exact ob_cp 8 hc (.inr rfl)
 have v10 : vs 10 = .int .i64 0 := hv 10 (by decide)
 simp only [putS, Nat.reduceAdd, Act.put, List.setIfInBounds_toArray, List.set_cons_zero, List.set_cons_succ, v10]
 simp only [kb_] at hK0
 replace I := hK0
 clear hK0 hv hp gl v10
 clear hcl hmd hk
 obtain ⟨bs, us, x0, x1, x2, -⟩ := (show WAt W (w.heap.size + 1) (-n) from I.at 1)
 have hEx := I.e
 clear I hb
 go_wp2_with fail
 refine bodyPost_ret (v := .tuple #[.agg #[.bool bs, us], .int .i64 0]) ?_ rfl ⟨_, rfl, x2, hEx⟩
 simp [results, Tryz.results74, go_sem, ↓IntWalk.iteOmega, *]
theorem T_TTU_2 {p : Prop} (h : p := by
 exact ob_e1 (x := .tmp 4) (a := .pointer (some ⟨w.heap.size, 0, none⟩)) (u := .pointer (some ⟨w.heap.size, 2, none⟩)) none hc) : p := h
theorem T_TTU_1 {p : Prop} (h : p := by
 exact ob_e1 (x := .tmp 4) (a := .pointer (some ⟨w.heap.size, 0, none⟩)) (u := .pointer (some ⟨w.heap.size, 0, none⟩)) none hc) : p := h
def misB (a P : Bl) : Bl := ⟨P.v / 2 - a.v, P.r + a.r + 1⟩
def rs2 (b : Bl) : Bl := cond (decide (cmpI b.v 0 < 0)) ⟨0, b.r⟩ b
def rs1 (a P : Bl) : Bl := cond (decide (0 < cmpI a.v (misB a P).v)) (misB a P) a
def turnF (q : Int) (a P : Bl) (p : Nat) : Option Bl :=
 if okN a.v = true ∧ 0 ≤ a.r ∧ a.r ≤ 10000000000000 ∧ okN (P.v / 2) = true ∧ okN (misB a P).v = true then
  (circF (rs2 (rs1 a P)).v.toNat (rs2 (rs1 a P)).r p).bind fun S =>
  if okN (cond (decide (q % 2 = 1) ^^ decide (0 < cmpI a.v (misB a P).v)) S.2 S.1).v = true then
   some (cond (decide (q / 2 % 2 = 1)) ⟨-(cond (decide (q % 2 = 1) ^^ decide (0 < cmpI a.v (misB a P).v)) S.2 S.1).v, (cond (decide (q % 2 = 1) ^^ decide (0 < cmpI a.v (misB a P).v)) S.2 S.1).r⟩ (cond (decide (q % 2 = 1) ^^ decide (0 < cmpI a.v (misB a P).v)) S.2 S.1)) else none
 else none
theorem rs2_nn (b : Bl) : 0 ≤ (rs2 b).v := by
 unfold rs2 cmpI
 by_cases h : b.v < 0
 ·rw [if_pos h]; exact Int.le_refl _
 ·rw [if_neg h]
  by_cases k : 0 < b.v
  ·rw [if_pos k]; show 0 ≤ b.v; omega
  ·rw [if_neg k]; show 0 ≤ b.v; omega
theorem KBd.putB {w W : World} {L : List (Nat × BF)} {g : Nat} {bf : BF} {s : Bool} {ao : Option Addr} {k cap : Nat} {x r : Int} (h : KBd w L W) (n : Nat) (hx : L[n]? = some (g, bf)) (h3 : Bx3 W g) (hw : Wid W (.agg #[.bool s, .slice ao k cap]) x) :
    KBd w (L.set n (g, BF.bat x r)) (((W.setCell ⟨g, 0, none⟩ (.bool s)).setCell ⟨g, 1, none⟩ (.slice ao k cap)).setCell ⟨g, 2, none⟩ (.int .i64 r)) := by
 obtain ⟨hn, hxe⟩ := List.getElem?_eq_some_iff.1 hx
 have hg : w.heap.size ≤ g := h.ge _ (List.mem_of_getElem? hx)
 have hGB := (((GB.refl g W).set (j := 0) (.bool s)).set (j := 1) (.slice ao k cap)).set (j := 2) (.int .i64 r)
 have hN : NoU W g := h3.2.2.2.2.1
 have hm : (L.set n (g, BF.bat x r)).map (·.1) = L.map (·.1) := by
  rw [List.map_set]
  apply List.ext_getElem (by simp)
  intro j h1 h2
  rw [List.getElem_set]
  split
  ·rename_i e; subst e; simp [hxe]
  ·rfl
 refine ⟨GB.pre h.e hGB hg, Bxs.of fun y hy => ?_, by rw [hm]; exact h.nd, fun y hy => ?_⟩
 ·obtain ⟨j, hj, rfl⟩ := List.getElem_of_mem hy
  rw [List.length_set] at hj
  rw [List.getElem_set]
  split
  ·exact Bx3.put h3 hw
  ·rename_i e
   refine L[j].2.gb _ _ _ _ (h.b.mem _ (List.getElem_mem hj)) hN hGB fun he => e ?_
   have h1 : (L.map (·.1))[n]'(by simpa using hn) = (L.map (·.1))[j]'(by simpa using hj) := by simp [hxe, he]
   have h0 := List.pairwise_iff_getElem.1 h.nd
   rcases Nat.lt_trichotomy n j with h2 | h2 | h2
   ·exact absurd h1 (h0 n j _ _ h2)
   ·exact h2
   ·exact absurd h1.symm (h0 j n _ _ h2)
 ·have h2 : y.1 ∈ L.map (·.1) := by rw [← hm]; exact List.mem_map.2 ⟨y, hy, rfl⟩
  obtain ⟨z, h4, h5⟩ := List.mem_map.1 h2
  rw [← h5]; exact h.ge z h4
theorem calls_two {P : Program} {f : Nat} {av : Array Value} {w : World} {F G : Value → World → Prop} (h : Calls P f av w fun e w' => ∃ u v, e = .returned (.tuple #[u, v]) ∧ F u w' ∧ G v w' ∧ Ext w w') :
    Calls P f av w fun e w' => ∃ u, e = .returned u ∧ (∃ a b, u = .tuple #[a, b] ∧ F a w' ∧ G b w') ∧ Ext w w' := h.mono fun _ _ ⟨u, v, h1, h2, h3, h4⟩ => ⟨_, h1, ⟨u, v, rfl, h2, h3⟩, h4⟩
theorem t_turned (va : Value) (q : Int) (a P R : Bl) (p : Nat) (w : World) (ha : Ball w va a.v a.r) (hq4 : q = 0 ∨ q = 1 ∨ q = 2 ∨ q = 3) (hp2 : 2 ≤ p) (hP : piF p = some P) (hF : turnF q a P p = some R) :
    Calls Tryz.prog 146 #[.int .i64 q, va, .int .i64 p] w fun e w' => ∃ u, e = .returned u ∧ Ball w' u R.v R.r ∧ Ext w w' := by
 obtain ⟨-, kP, kP0, kr0, kr1, hp⟩ := t_piF w hP
 have hpi : ∀ w1 u, u = .int .i64 (p : Int) → Calls Tryz.prog 124 #[u] w1 fun e w' => ∃ u, e = .returned u ∧ Ball w' u P.v P.r ∧ Ext w1 w' := fun w1 u hu => by subst hu; exact (t_piF w1 hP).1
 clear hP
 unfold turnF at hF
 split at hF
 case isFalse => cases hF
 rename_i k0
 obtain ⟨ka, ka0, ka1, kh, km⟩ := k0
 rw [Option.bind_eq_some_iff] at hF
 obtain ⟨⟨S, C⟩, hci0, hF⟩ := hF
 split at hF
 case isFalse => cases hF
 rename_i kD
 replace hF := Option.some.inj hF
 dsimp only at hF kD
 have hx := rs2_nn (rs1 a P)
 unfold rs2 rs1 at hx hci0
 obtain ⟨m, hm⟩ : ∃ m, misB a P = m := ⟨_, rfl⟩
 have hmr : m.r = P.r + a.r + 1 := by rw [← hm]; rfl
 have hmv : P.v / 2 - a.v = m.v := by rw [← hm]; rfl
 rw [hm] at hF kD hx hci0 km
 clear hm
 obtain ⟨cv, hcv⟩ : ∃ cv, cmpI a.v m.v = cv := ⟨_, rfl⟩
 rw [hcv] at hF kD hx hci0
 obtain ⟨sw, hsw⟩ : ∃ sw, decide (0 < cv) = sw := ⟨_, rfl⟩
 rw [hsw] at hF kD hx hci0
 obtain ⟨b1, hb1⟩ : ∃ b1, cond sw m a = b1 := ⟨_, rfl⟩
 rw [hb1] at hx hci0
 obtain ⟨dv, hdv⟩ : ∃ dv, cmpI b1.v 0 = dv := ⟨_, rfl⟩
 rw [hdv] at hx hci0
 obtain ⟨ng, hng⟩ : ∃ ng, decide (dv < 0) = ng := ⟨_, rfl⟩
 rw [hng] at hx hci0
 obtain ⟨b2, hb2⟩ : ∃ b2, cond ng (⟨0, b1.r⟩ : Bl) b1 = b2 := ⟨_, rfl⟩
 rw [hb2] at hx hci0
 obtain ⟨c0, hc0⟩ : ∃ c0, decide (q % 2 = 1) = c0 := ⟨_, rfl⟩
 rw [hc0] at hF kD
 obtain ⟨c1, hc1⟩ : ∃ c1, (c0 ^^ sw) = c1 := ⟨_, rfl⟩
 rw [hc1] at hF kD
 obtain ⟨D, hD⟩ : ∃ D, cond c1 C S = D := ⟨_, rfl⟩
 rw [hD] at hF kD
 obtain ⟨hi, hhi⟩ : ∃ hi, decide (q / 2 % 2 = 1) = hi := ⟨_, rfl⟩
 rw [hhi] at hF
 obtain ⟨h, hh⟩ : ∃ h, P.v / 2 = h := ⟨_, rfl⟩
 rw [hh] at hmv kh
 have kb1 : okN b1.v = true ∧ 0 ≤ b1.r ∧ b1.r ≤ 11000000000000 := by
  rw [← hb1]
  cases sw
  ·exact ⟨ka, ka0, by show a.r ≤ _; omega⟩
  ·exact ⟨km, by show 0 ≤ m.r; omega, by show m.r ≤ _; omega⟩
 have kb2 : 0 ≤ b2.r ∧ b2.r ≤ 11000000000000 := by
  rw [← hb2]
  cases ng
  ·exact kb1.2
  ·exact kb1.2
 have hhf : ∀ (w1 : World) (u1 : Value), Wid w1 u1 P.v → Calls Tryz.prog 169 #[u1, .int .i64 (-1)] w1 fun e w' => ∃ u, e = .returned u ∧ Wid w' u h ∧ Ext w1 w' := fun w1 u1 k => by
  have := t_shiftD u1 P.v 1 w1 k (okN.sz kP) (by decide) (by decide)
  rw [Int.pow_one, hh] at this
  exact this
 have hms : ∀ (w1 : World) (u1 u2 : Value), Wid w1 u1 h → Wid w1 u2 a.v → Calls Tryz.prog 131 #[u1, u2] w1 fun e w' => ∃ u, e = .returned u ∧ Wid w' u m.v ∧ Ext w1 w' := fun w1 u1 u2 k1 k2 => by
  have := t_subZ u1 u2 _ _ w1 k1 k2 (okN.sz kh) (okN.sz ka) (by rw [hmv]; exact okN.sz km)
  rw [hmv] at this
  exact this
 have hcp : ∀ (w1 : World) (u1 u2 : Value), Wid w1 u1 a.v → Wid w1 u2 m.v → Calls Tryz.prog 52 #[u1, u2] w1 fun e w' => ∃ u, e = .returned u ∧ u = .tuple #[.int .i64 cv, .int .i64 0] ∧ Ext w1 w' := fun w1 u1 u2 k1 k2 => by
  have := z_Cmp u1 u2 _ _ w1 k1 k2 (okN.sz ka) (okN.sz km)
  rw [hcv] at this
  exact calls_eq this
 have hsg : ∀ (w1 : World) (u1 : Value), Wid w1 u1 b1.v → Calls Tryz.prog 73 #[u1] w1 fun e w' => ∃ u, e = .returned u ∧ u = .int .i64 dv ∧ Ext w1 w' := fun w1 u1 k1 => by
  have := t_sign u1 _ w1 k1 (okN.sz kb1.1)
  rw [hdv] at this
  exact calls_eq this
 have hci : ∀ (w1 : World) (u1 u2 : Value), Ball w1 u1 b2.v b2.r → u2 = .int .i64 (p : Int) → Calls Tryz.prog 170 #[u1, u2] w1 fun e w' => ∃ u v, e = .returned (.tuple #[u, v]) ∧ Ball w' u S.v S.r ∧ Ball w' v C.v C.r ∧ Ext w1 w' := fun w1 u1 u2 k1 k2 => by
  subst k2
  rw [show b2.v = ((b2.v.toNat : Nat) : Int) by omega] at k1
  exact t_circ u1 _ _ p S C w1 k1 kb2.1 (by omega) hp2 hp hci0
 have hne : ∀ (w1 : World) (u1 : Value), Wid w1 u1 D.v → Calls Tryz.prog 74 #[u1] w1 fun e w' => ∃ u, e = .returned (.tuple #[u, .int .i64 0]) ∧ Wid w' u (-D.v) ∧ Ext w1 w' := fun w1 u1 k1 => t_neg u1 _ w1 k1 (okN.sz kD)
 have hhi2 : (q / 2 % 2 * 2 == 2) = hi := by rw [← hhi]; rcases hq4 with rfl | rfl | rfl | rfl <;> rfl
 clear hhi hci0 hx hh hmv hcv hdv kb1 kb2 km kh ka kD kP
 obtain ⟨sb, aob, nb, capb, rfl, hWx⟩ := ha.open
 have I0 : KBd w [] w := ⟨Ext.refl w, trivial, by simp, by simp⟩
 have I := ((I0.push ((Ext.refl w).alloc (.cells #[.bool sb, .slice aob nb capb, .int .i64 a.r] 137)) (BF.bat a.v a.r) (BatP.new hWx)).new [.bool false, .slice none 0 0, .int .i64 0] 137 (by simp))
 simp only [World.size_alloc, List.nil_append, List.cons_append] at I
 clear I0 hWx ha
 replace hb1 := Lib.hid hb1
 replace hb2 := Lib.hid hb2
 replace hc1 := Lib.hid hc1
 replace hD := Lib.hid hD
 replace hF := Lib.hid hF
 go_enter Tryz.func146, Tryz.ntmps146
 go_upto_region 1 with fail
 refine wp_regB [] [⟨2, some 3, BF.own [.bool false, .slice none 0 0, .int .i64 0], (BF.bat P.v P.r)⟩] (fun z_ => ([VF.eq (.int .i64 (p)), VF.ball (P.v) (P.r)] : List VF).getD z_ VF.any) I (fun hc => ⟨?_, ?_, ?_, ?_, trivial⟩) (fun vs gl W hK0 hv hp => ?_)
 ·exact ob_mv hc (.inl rfl)
 ·exact ob_call (fun v => [v 0]) hc rfl fun vs gs w1 c => hpi _ _ (c.v 0)
 ·exact b_28
 ·exact ob_putB (n := 2) rfl 1 hc rfl 0
 have p0 : vs 2 = .pointer (some ⟨gl 0, 0, none⟩) := hp 0 _ rfl
 simp only [putS, Nat.reduceAdd, Act.put, List.setIfInBounds_toArray, List.set_cons_zero, List.set_cons_succ, p0]
 obtain ⟨gh, e90⟩ : ∃ n, gl 0 = n := ⟨_, rfl⟩
 simp only [kb_, e90] at hK0
 rw [e90]
 replace I := hK0
 clear hK0 hv hp gl p0 e90
 go_upto_region 2 with fail
 refine wp_regB [[], [], [(6, BF.bat h P.r)]] [] (fun z_ => ([VF.eq (.pointer (some ⟨gh, 0, none⟩)), VF.wid (P.v), VF.wid (h), VF.eq (.pointer (some ⟨gh, 2, none⟩)), VF.eq (.int .i64 (P.r)), VF.ball (h) (P.r)] : List VF).getD z_ VF.any) I (fun hc => ⟨?_, ?_, ?_, ?_, ?_, ?_, ?_, trivial⟩) (fun vs gl W hK0 hv hp => ?_)
 ·exact ob_e1 (x := .tmp 7) (a := .pointer (some ⟨gh, 0, none⟩)) (u := .pointer (some ⟨gh, 0, none⟩)) none hc
 ·exact ob_getN gh P.v P.r (some 0) hc rfl fun vs gs w1 c => c.b0 2
 ·exact ob_call (fun v => [v 1, .int .i64 (-1)]) hc rfl fun vs gs w1 c => hhf _ _ (c.v 1)
 ·exact ob_e1 (x := .tmp 7) (a := .pointer (some ⟨gh, 0, none⟩)) (u := .pointer (some ⟨gh, 2, none⟩)) none hc
 ·exact ob_ld (x := .tmp 19) (g := gh) (f := 2) (u := .int .i64 (P.r)) (some 3) hc fun vs gs w1 c => BatP.r (c.b0 2)
 ·exact ob_buildB (q := h) (r := P.r) 2 (some 4) hc rfl
 ·exact ob_putB (n := 2) rfl 5 hc rfl 0
 simp only [putS, Nat.reduceAdd, Act.put, List.setIfInBounds_toArray, List.set_cons_zero, List.set_cons_succ]
 simp only [kb_] at hK0
 replace I := hK0
 clear hK0 hv hp gl
 go_upto_region 3 with fail
 refine wp_regB [] [⟨12, some 13, BF.own [.bool false, .slice none 0 0, .int .i64 0], (BF.bat m.v m.r)⟩] (fun z_ => ([VF.eq (.pointer (some ⟨gh, 0, none⟩)), VF.wid (h), VF.eq (.pointer (some ⟨w.heap.size, 0, none⟩)), VF.wid (a.v), VF.wid (m.v), VF.eq (.pointer (some ⟨gh, 2, none⟩)), VF.eq (.int .i64 (P.r)), VF.eq (.pointer (some ⟨w.heap.size, 2, none⟩)), VF.eq (.int .i64 (a.r)), VF.eq (.int .i64 (P.r + a.r)), VF.eq (.int .i64 (m.r)), VF.ball (m.v) (m.r)] : List VF).getD z_ VF.any) I (fun hc => ⟨?_, ?_, ?_, ?_, ?_, ?_, ?_, ?_, ?_, ?_, ?_, ?_, ?_, ?_, trivial⟩) (fun vs gl W hK0 hv hp => ?_)
 ·exact ob_e1 (x := .tmp 7) (a := .pointer (some ⟨gh, 0, none⟩)) (u := .pointer (some ⟨gh, 0, none⟩)) none hc
 ·exact ob_getN gh h P.r (some 0) hc rfl fun vs gs w1 c => c.b0 2
 ·exact T_TTU_1
 ·exact ob_getN w.heap.size a.v a.r (some 2) hc rfl fun vs gs w1 c => c.b0 0
 ·exact ob_call (fun v => [v 1, v 3]) hc rfl fun vs gs w1 c => hms _ _ _ (c.v 1) (c.v 3)
 ·exact ob_e1 (x := .tmp 7) (a := .pointer (some ⟨gh, 0, none⟩)) (u := .pointer (some ⟨gh, 2, none⟩)) none hc
 ·exact ob_ld (x := .tmp 27) (g := gh) (f := 2) (u := .int .i64 (P.r)) (some 5) hc fun vs gs w1 c => BatP.r (c.b0 2)
 ·exact T_TTU_2
 ·exact ob_ld (x := .tmp 29) (g := w.heap.size) (f := 2) (u := .int .i64 (a.r)) (some 7) hc fun vs gs w1 c => BatP.r (c.b0 0)
 ·exact ob_e2 (x := .tmp 28) (y := .tmp 30) (a := (.int .i64 (P.r))) (b := (.int .i64 (a.r))) (u := .int .i64 (P.r + a.r)) (some 6) (some 8) hc (hs := by intro ρ w1 h k; go_simp; first | done | (simp only [IntKind.wrap_i64]; omega))
 ·exact ob_e2 (x := .tmp 31) (y := .const (.int .i64 1)) (a := (.int .i64 (P.r + a.r))) (b := .int .i64 1) (u := .int .i64 (m.r)) (some 9) none hc (hs := by intro ρ w1 h k; go_simp; first | done | (simp only [IntKind.wrap_i64]; omega))
 ·exact ob_buildB (q := m.v) (r := m.r) 4 (some 10) hc rfl
 ·exact ob_new (n := 3) [.bool false, .slice none 0 0, .int .i64 0] 137 rfl hc rfl rfl rfl
 ·exact ob_putB (n := 3) rfl 11 hc rfl 0
 have p0 : vs 12 = .pointer (some ⟨gl 0, 0, none⟩) := hp 0 _ rfl
 simp only [putS, Nat.reduceAdd, Act.put, List.setIfInBounds_toArray, List.set_cons_zero, List.set_cons_succ, p0]
 obtain ⟨gm, e90⟩ : ∃ n, gl 0 = n := ⟨_, rfl⟩
 simp only [kb_, e90] at hK0
 rw [e90]
 replace I := hK0
 clear hK0 hv hp gl p0 e90
 go_upto_region 4 with fail
 refine wp_regB [] [] (fun z_ => ([VF.eq (.int .i64 (q)), VF.eq (.int .i64 (q % 2)), VF.eq (.bool c0), VF.eq (.bool c0)] : List VF).getD z_ VF.any) I (fun hc => ⟨?_, ?_, ?_, ?_, trivial⟩) (fun vs gl W hK0 hv hp => ?_)
 ·exact ob_mv hc (.inl rfl)
 ·exact ob_e2 (x := .tmp 34) (y := .const (.int .i64 1)) (a := (.int .i64 (q))) (b := .int .i64 1) (u := .int .i64 (q % 2)) (some 0) none hc (hs := by intro ρ w1 h k; go_simp; rcases hq4 with rfl | rfl | rfl | rfl <;> rfl)
 ·exact ob_e2 (x := .tmp 35) (y := .const (.int .i64 1)) (a := (.int .i64 (q % 2))) (b := .int .i64 1) (u := .bool c0) (some 1) none hc (hs := by intro ρ w1 h k; go_simp; first | done | exact hc0)
 ·exact ob_cp 2 hc (.inr rfl)
 have v3 : vs 3 = .bool c0 := hv 3 (by decide)
 simp only [putS, Nat.reduceAdd, Act.put, List.setIfInBounds_toArray, List.set_cons_zero, List.set_cons_succ, v3]
 simp only [kb_] at hK0
 replace I := hK0
 clear hK0 hv hp gl v3
 go_upto_region 5 with fail
 refine wp_regB [] [] (fun z_ => ([VF.eq (.pointer (some ⟨w.heap.size, 0, none⟩)), VF.wid (a.v), VF.eq (.pointer (some ⟨gm, 0, none⟩)), VF.wid (m.v), VF.eq (.tuple #[.int .i64 cv, .int .i64 0]), VF.eq (.tuple #[.int .i64 cv, .int .i64 0]), VF.eq (.int .i64 (cv)), VF.eq (.int .i64 (0)), VF.eq (.int .i64 (cv)), VF.eq (.int .i64 (0))] : List VF).getD z_ VF.any) I (fun hc => ⟨?_, ?_, ?_, ?_, ?_, ?_, ?_, ?_, ?_, ?_, trivial⟩) (fun vs gl W hK0 hv hp => ?_)
 ·exact T_TTU_1
 ·exact ob_getN w.heap.size a.v a.r (some 0) hc rfl fun vs gs w1 c => c.b0 0
 ·exact ob_e1 (x := .tmp 8) (a := .pointer (some ⟨gm, 0, none⟩)) (u := .pointer (some ⟨gm, 0, none⟩)) none hc
 ·exact ob_getN gm m.v m.r (some 2) hc rfl fun vs gs w1 c => c.b0 3
 ·exact ob_call (fun v => [v 1, v 3]) hc rfl fun vs gs w1 c => hcp _ _ _ (c.v 1) (c.v 3)
 ·exact ob_cp 4 hc (.inl rfl)
 ·exact ob_e1 (x := .tmp 37) (a := (.tuple #[.int .i64 cv, .int .i64 0])) (u := .int .i64 (cv)) (some 5) hc
 ·exact ob_e1 (x := .tmp 37) (a := (.tuple #[.int .i64 cv, .int .i64 0])) (u := .int .i64 (0)) (some 5) hc
 ·exact ob_cp 6 hc (.inr rfl)
 ·exact ob_cp 7 hc (.inr rfl)
 have v8 : vs 8 = .int .i64 cv := hv 8 (by decide)
 have v9 : vs 9 = .int .i64 0 := hv 9 (by decide)
 simp only [putS, Nat.reduceAdd, Act.put, List.setIfInBounds_toArray, List.set_cons_zero, List.set_cons_succ, v8, v9]
 simp only [kb_] at hK0
 replace I := hK0
 clear hK0 hv hp gl v8 v9
 go_upto_region 6 with fail
 refine wp_regB [] [] (fun z_ => ([VF.eq (.int .i64 (cv)), VF.eq (.bool sw)] : List VF).getD z_ VF.any) I (fun hc => ⟨?_, ?_, trivial⟩) (fun vs gl W hK0 hv hp => ?_)
 ·exact ob_mv hc (.inl rfl)
 ·exact ob_e2 (x := .tmp 45) (y := .const (.int .i64 0)) (a := (.int .i64 (cv))) (b := .int .i64 0) (u := .bool sw) (some 0) none hc (hs := by intro ρ w1 h k; go_simp; first | done | exact hsw)
 have v1 : vs 1 = .bool sw := hv 1 (by decide)
 simp only [putS, Nat.reduceAdd, Act.put, List.setIfInBounds_toArray, List.set_cons_zero, List.set_cons_succ, v1]
 simp only [kb_] at hK0
 replace I := hK0
 clear hK0 hv hp gl v1
 clear hhf hms hcp hpi hmr hc0 hsw
 go_upto_if 46 with fail
 go_cut [9] from 47 to 49 (fun s9 wx => s9 = .bool c1 ∧ KBd w [(w.heap.size, BF.bat b1.v b1.r), (w.heap.size + 1, BF.own [.bool false, .slice none 0 0, .int .i64 0]), (gh, BF.bat h P.r), (gm, BF.bat m.v m.r)] wx)
 case first =>
  cases sw
  ·go_wp2_with fail
   go_meet
   case rel => exact ⟨by rw [← hc1.out, Bool.xor_false], by rw [← hb1.out]; exact I⟩
  ·obtain ⟨⟨bs, us, x0, x1, x2⟩, x3, -, -, -⟩ := (show BatP W gm m.v m.r from I.at 3)
   have hA := (show BatP W w.heap.size a.v a.r from I.at 0)
   obtain ⟨ao, k, cap, rfl⟩ : ∃ ao k cap, us = .slice ao k cap := by obtain ⟨_, e, hu⟩ := x2; obtain ⟨ao, _, _, cap, rfl, -⟩ := hu.view; cases e; exact ⟨_, _, _, rfl⟩
   obtain ⟨⟨y0, z0⟩, ⟨y1, z1⟩, ⟨y2, z2⟩, z3, -⟩ := BatP.bx hA
   have hI := KBd.putB (r := m.r) I 0 rfl (BatP.bx hA) x2
   clear I hA
   replace hI := Lib.hid hI
   go_wp2_with fail
   go_meet
   case rel => exact ⟨by rw [← hc1.out, Bool.xor_true], by rw [← hb1.out]; exact hI.out⟩
 case rest =>
  obtain ⟨rfl, hI⟩ := hcut
  clear I hc1 hb1
  have I := hI
  clear hI
  go_upto_region 8 with fail
  refine wp_regB [] [] (fun z_ => ([VF.eq (.pointer (some ⟨w.heap.size, 0, none⟩)), VF.wid (b1.v), VF.eq (.int .i64 (dv)), VF.eq (.bool ng)] : List VF).getD z_ VF.any) I (fun hc => ⟨?_, ?_, ?_, ?_, trivial⟩) (fun vs gl W hK0 hv hp => ?_)
  ·exact T_TTU_1
  ·exact ob_getN w.heap.size b1.v b1.r (some 0) hc rfl fun vs gs w1 c => c.b0 0
  ·exact ob_call (fun v => [v 1]) hc rfl fun vs gs w1 c => hsg _ _ (c.v 1)
  ·exact ob_e2 (x := .tmp 52) (y := .const (.int .i64 0)) (a := (.int .i64 (dv))) (b := .int .i64 0) (u := .bool ng) (some 2) none hc (hs := by intro ρ w1 h k; go_simp; first | done | exact hng)
  have v3 : vs 3 = .bool ng := hv 3 (by decide)
  simp only [putS, Nat.reduceAdd, Act.put, List.setIfInBounds_toArray, List.set_cons_zero, List.set_cons_succ, v3]
  simp only [kb_] at hK0
  replace I := hK0
  clear hK0 hv hp gl v3
  clear hsg hng
  go_upto_if 53 with fail
  go_cut [] from 54 to 57 (fun wx => KBd w [(w.heap.size, BF.bat b2.v b2.r), (w.heap.size + 1, BF.own [.bool false, .slice none 0 0, .int .i64 0]), (gh, BF.bat h P.r), (gm, BF.bat m.v m.r)] wx)
  case first =>
   cases ng
   ·go_wp2_with fail
    go_meet
    case rel => rw [← hb2.out]; exact I
   ·skip
    go_upto_region 9 with fail
    refine wp_regB [[(4, BF.bat 0 b1.r)]] [] (fun z_ => ([VF.wid (0), VF.eq (.pointer (some ⟨w.heap.size, 2, none⟩)), VF.eq (.int .i64 (b1.r)), VF.ball (0) (b1.r)] : List VF).getD z_ VF.any) I (fun hc => ⟨?_, ?_, ?_, ?_, ?_, trivial⟩) (fun vs gl W hK0 hv hp => ?_)
    ·exact ob_call (fun v => [.int .i64 0]) hc rfl fun vs gs w1 c => t_numZ 0 _ (by decide) (by decide)
    ·exact T_TTU_2
    ·exact ob_ld (x := .tmp 55) (g := w.heap.size) (f := 2) (u := .int .i64 (b1.r)) (some 1) hc fun vs gs w1 c => BatP.r (c.b0 0)
    ·exact ob_buildB (q := 0) (r := b1.r) 0 (some 2) hc rfl
    ·exact ob_putB (n := 0) rfl 3 hc rfl 0
    simp only [putS, Nat.reduceAdd, Act.put, List.setIfInBounds_toArray, List.set_cons_zero, List.set_cons_succ]
    simp only [kb_] at hK0
    replace I := hK0
    clear hK0 hv hp gl
    go_wp2_with fail
    go_meet
    case rel => rw [← hb2.out]; exact I
  case rest =>
   clear I hb2
   have I := hcut
   clear hcut
   go_upto_region 10 with fail
   refine wp_regB [] [⟨6, some 8, BF.own [.bool false, .slice none 0 0, .int .i64 0], (BF.bat S.v S.r)⟩, ⟨7, some 9, BF.own [.bool false, .slice none 0 0, .int .i64 0], (BF.bat C.v C.r)⟩] (fun z_ => ([VF.ball (b2.v) (b2.r), VF.eq (.int .i64 (p)), (VF.ball S.v S.r).two (VF.ball C.v C.r), (VF.ball S.v S.r).two (VF.ball C.v C.r), VF.ball (S.v) (S.r), VF.ball (C.v) (C.r)] : List VF).getD z_ VF.any) I (fun hc => ⟨?_, ?_, ?_, ?_, ?_, ?_, ?_, ?_, ?_, ?_, trivial⟩) (fun vs gl W hK0 hv hp => ?_)
   ·exact ob_getB w.heap.size (b2.v) (b2.r) hc rfl fun vs gs w1 c => c.b0 0
   ·exact ob_mv hc (.inl rfl)
   ·exact ob_call (fun v => [v 0, v 1]) hc rfl fun vs gs w1 c => calls_two (hci _ _ _ (c.v 0) (c.v 1))
   ·exact ob_cp 2 hc (.inl rfl)
   ·exact ob_two0 3 hc rfl
   ·exact ob_two1 3 hc rfl
   ·exact ob_new (n := 4) [.bool false, .slice none 0 0, .int .i64 0] 137 rfl hc rfl rfl rfl
   ·exact ob_new (n := 5) [.bool false, .slice none 0 0, .int .i64 0] 137 rfl hc rfl rfl rfl
   ·exact ob_putB (n := 4) rfl 4 hc rfl 0
   ·exact ob_putB (n := 5) rfl 5 hc rfl 0
   have p0 : vs 6 = .pointer (some ⟨gl 0, 0, none⟩) := hp 0 _ rfl
   have p1 : vs 7 = .pointer (some ⟨gl 1, 0, none⟩) := hp 1 _ rfl
   simp only [putS, Nat.reduceAdd, Act.put, List.setIfInBounds_toArray, List.set_cons_zero, List.set_cons_succ, p0, p1]
   obtain ⟨gs, e90⟩ : ∃ n, gl 0 = n := ⟨_, rfl⟩
   obtain ⟨gc, e91⟩ : ∃ n, gl 1 = n := ⟨_, rfl⟩
   simp only [kb_, e90, e91] at hK0
   rw [e90, e91]
   replace I := hK0
   clear hK0 hv hp gl p0 p1 e90 e91
   clear hci
   go_upto_region 11 with fail
   refine wp_regB [] [] (fun z_ => ([VF.eq (.bool c1)] : List VF).getD z_ VF.any) I (fun hc => ⟨?_, trivial⟩) (fun vs gl W hK0 hv hp => ?_)
   ·exact ob_mv hc (.inl rfl)
   have v0 : vs 0 = .bool c1 := hv 0 (by decide)
   simp only [putS, Nat.reduceAdd, Act.put, List.setIfInBounds_toArray, List.set_cons_zero, List.set_cons_succ, v0]
   simp only [kb_] at hK0
   replace I := hK0
   clear hK0 hv hp gl v0
   go_upto_if 64 with fail
   go_cut [] from 65 to 65 (fun wx => KBd w [(w.heap.size, BF.bat b2.v b2.r), (w.heap.size + 1, BF.own [.bool false, .slice none 0 0, .int .i64 0]), (gh, BF.bat h P.r), (gm, BF.bat m.v m.r), (gs, BF.bat D.v D.r), (gc, BF.bat C.v C.r)] wx)
   case first =>
    cases c1
    ·go_wp2_with fail
     go_meet
     case rel => rw [← hD.out]; exact I
    ·skip
     go_upto_region 12 with fail
     refine wp_regB [[], [], [], [], [(1, BF.bat C.v C.r)]] [] (fun z_ => ([VF.ball (C.v) (C.r)] : List VF).getD z_ VF.any) I (fun hc => ⟨?_, ?_, trivial⟩) (fun vs gl W hK0 hv hp => ?_)
     ·exact ob_getB gc (C.v) (C.r) hc rfl fun vs gs w1 c => c.b0 5
     ·exact ob_putB (n := 4) rfl 0 hc rfl 0
     simp only [putS, Nat.reduceAdd, Act.put, List.setIfInBounds_toArray, List.set_cons_zero, List.set_cons_succ]
     simp only [kb_] at hK0
     replace I := hK0
     clear hK0 hv hp gl
     go_wp2_with fail
     go_meet
     case rel => rw [← hD.out]; exact I
   case rest =>
    clear I hD
    have I := hcut
    clear hcut
    go_upto_region 13 with fail
    refine wp_regB [] [] (fun z_ => ([VF.eq (.int .i64 (q)), VF.eq (.int .i64 (q / 2 % 2 * 2)), VF.eq (.bool hi)] : List VF).getD z_ VF.any) I (fun hc => ⟨?_, ?_, ?_, trivial⟩) (fun vs gl W hK0 hv hp => ?_)
    ·exact ob_mv hc (.inl rfl)
    ·exact ob_e2 (x := .tmp 66) (y := .const (.int .i64 2)) (a := (.int .i64 (q))) (b := .int .i64 2) (u := .int .i64 (q / 2 % 2 * 2)) (some 0) none hc (hs := by intro ρ w1 h k; go_simp; rcases hq4 with rfl | rfl | rfl | rfl <;> rfl)
    ·exact ob_e2 (x := .tmp 67) (y := .const (.int .i64 2)) (a := (.int .i64 (q / 2 % 2 * 2))) (b := .int .i64 2) (u := .bool hi) (some 1) none hc (hs := by intro ρ w1 h k; go_simp; first | done | exact hhi2)
    have v2 : vs 2 = .bool hi := hv 2 (by decide)
    simp only [putS, Nat.reduceAdd, Act.put, List.setIfInBounds_toArray, List.set_cons_zero, List.set_cons_succ, v2]
    simp only [kb_] at hK0
    replace I := hK0
    clear hK0 hv hp gl v2
    clear hhi2
    go_upto_if 68 with fail
    go_cut [] from 69 to 75 (fun wx => KBd w [(w.heap.size, BF.bat b2.v b2.r), (w.heap.size + 1, BF.own [.bool false, .slice none 0 0, .int .i64 0]), (gh, BF.bat h P.r), (gm, BF.bat m.v m.r), (gs, BF.bat R.v R.r), (gc, BF.bat C.v C.r)] wx)
    case first =>
     cases hi
     ·go_wp2_with fail
      go_meet
      case rel => rw [← hF.out]; exact I
     ·skip
      go_upto_region 14 with fail
      refine wp_regB [[], [], [], [], [(7, BF.bat (-D.v) D.r)]] [] (fun z_ => ([VF.eq (.pointer (some ⟨gs, 0, none⟩)), VF.wid (D.v), (VF.wid (-D.v)).err 0, (VF.wid (-D.v)).err 0, VF.wid (-D.v), VF.eq (.int .i64 (0)), VF.eq (.pointer (some ⟨gs, 0, none⟩))] : List VF).getD z_ VF.any) I (fun hc => ⟨?_, ?_, ?_, ?_, ?_, ?_, ?_, ?_, trivial⟩) (fun vs gl W hK0 hv hp => ?_)
      ·exact ob_e1 (x := .tmp 12) (a := .pointer (some ⟨gs, 0, none⟩)) (u := .pointer (some ⟨gs, 0, none⟩)) none hc
      ·exact ob_getN gs D.v D.r (some 0) hc rfl fun vs gs w1 c => c.b0 4
      ·exact ob_call (fun v => [v 1]) hc rfl fun vs gs w1 c => calls_err (hne _ _ (c.v 1))
      ·exact ob_cp 2 hc (.inl rfl)
      ·exact ob_ext0 3 hc rfl
      ·exact ob_ext1 3 hc rfl
      ·exact ob_e1 (x := .tmp 12) (a := .pointer (some ⟨gs, 0, none⟩)) (u := .pointer (some ⟨gs, 0, none⟩)) none hc
      ·exact ob_putBN (n := 4) (hy := ⟨some 6, fun _ => by kernel_rfl, rfl, by kernel_rfl⟩) rfl 4 hc rfl 0
      simp only [putS, Nat.reduceAdd, Act.put, List.setIfInBounds_toArray, List.set_cons_zero, List.set_cons_succ]
      simp only [kb_] at hK0
      replace I := hK0
      clear hK0 hv hp gl
      go_wp2_with fail
      go_meet
      case rel => rw [← hF.out]; exact I
    case rest =>
     clear I hF hne
     have I := hcut
     clear hcut
     go_upto_region 15 with fail
     refine wp_regB [[], [(1, BF.bat R.v R.r)]] [] (fun z_ => ([VF.ball (R.v) (R.r)] : List VF).getD z_ VF.any) I (fun hc => ⟨?_, ?_, trivial⟩) (fun vs gl W hK0 hv hp => ?_)
     ·exact ob_getB gs (R.v) (R.r) hc rfl fun vs gs w1 c => c.b0 4
     ·exact ob_putB (n := 1) rfl 0 hc rfl 0
     simp only [putS, Nat.reduceAdd, Act.put, List.setIfInBounds_toArray, List.set_cons_zero, List.set_cons_succ]
     simp only [kb_] at hK0
     replace I := hK0
     clear hK0 hv hp gl
     obtain ⟨⟨bs, us, x0, x1, x2⟩, x3, -, -, -⟩ := (show BatP W (w.heap.size + 1) R.v R.r from I.at 1)
     have hEx := I.e
     clear I
     go_wp2_with fail
     refine bodyPost_ret (v := .agg #[.bool bs, us, .int .i64 R.r]) ?_ rfl ⟨_, rfl, ⟨_, _, rfl, x2⟩, hEx⟩
     simp [results, Tryz.results146, go_sem, ↓IntWalk.iteOmega, *]
def sinB (A : Int) (P : Bl) : Bl := ⟨P.v * (2 * (A % 324000000000)) / 1296000000000, P.r + 1⟩
def sineF (a : Int) (p : Nat) : Option Bl := (piF p).bind fun P =>
 if okN (P.v * (2 * (a % 1296000000000 % 324000000000))) = true ∧ 2 ≤ p then turnF (a % 1296000000000 / 324000000000) (sinB (a % 1296000000000) P) P p else none
theorem tmod_emod (a : Int) : (if a.tmod 1296000000000 < 0 then a.tmod 1296000000000 + 1296000000000 else a.tmod 1296000000000) = a % 1296000000000 := by
 rcases Int.le_total 0 a with h | h
 ·rw [Int.tmod_eq_emod_of_nonneg h]; split <;> omega
 ·obtain ⟨c, rfl⟩ : ∃ c, a = -c := ⟨-a, by omega⟩
  rw [Int.neg_tmod, Int.tmod_eq_emod_of_nonneg (by omega)]; split <;> omega
theorem t_sine (a : Int) (R : Bl) (p : Nat) (w : World) (h0 : -9223372036854775808 ≤ a) (h1 : a ≤ 9223372036854775807) (hF : sineF a p = some R) :
    Calls Tryz.prog 88 #[.int .i64 a, .int .i64 p] w fun e w' => ∃ u, e = .returned u ∧ Ball w' u R.v R.r ∧ Ext w w' := by
 unfold sineF at hF
 rw [Option.bind_eq_some_iff] at hF
 obtain ⟨P, hP, hF⟩ := hF
 split at hF
 case isFalse => cases hF
 rename_i k0
 obtain ⟨km, hp2⟩ := k0
 obtain ⟨A, hA⟩ : ∃ A, a % 1296000000000 = A := ⟨_, rfl⟩
 rw [hA] at hF km
 have hA0 : 0 ≤ A ∧ A < 1296000000000 := by omega
 obtain ⟨b, hb⟩ : ∃ b, sinB A P = b := ⟨_, rfl⟩
 rw [hb] at hF
 have hbv : P.v * (2 * (A % 324000000000)) / 1296000000000 = b.v := by rw [← hb]; rfl
 have hbr : P.r + 1 = b.r := by rw [← hb]; rfl
 obtain ⟨-, kP, kP0, kr0, kr1, hp⟩ := t_piF w hP
 have hpi : ∀ w1 u, u = .int .i64 (p : Int) → Calls Tryz.prog 124 #[u] w1 fun e w' => ∃ u, e = .returned u ∧ Ball w' u P.v P.r ∧ Ext w1 w' := fun w1 u hu => by subst hu; exact (t_piF w1 hP).1
 have htu : ∀ (w1 : World) (u0 u1 u2 : Value), u0 = .int .i64 (A / 324000000000) → Ball w1 u1 b.v b.r → u2 = .int .i64 (p : Int) → Calls Tryz.prog 146 #[u0, u1, u2] w1 fun e w' => ∃ u, e = .returned u ∧ Ball w' u R.v R.r ∧ Ext w1 w' := fun w1 u0 u1 u2 k0 k1 k2 => by
  subst k0 k2
  exact t_turned u1 _ b P R p w1 k1 (by omega) hp2 hP hF
 have hn2 : ∀ (w1 : World) (u1 : Value), u1 = .int .i64 (2 * (A % 324000000000)) → Calls Tryz.prog 134 #[u1] w1 fun e w' => ∃ u, e = .returned u ∧ Wid w' u (2 * (A % 324000000000)) ∧ Ext w1 w' := fun w1 u1 k => by subst k; exact t_numZ _ _ (by omega) (by omega)
 have hsz2 : Sz (2 * (A % 324000000000)) := dig_bits (k := 64) (L := 4096) (by omega) (by decide)
 have hmu : ∀ (w1 : World) (u1 u2 : Value), Wid w1 u1 P.v → Wid w1 u2 (2 * (A % 324000000000)) → Calls Tryz.prog 132 #[u1, u2] w1 fun e w' => ∃ u, e = .returned u ∧ Wid w' u (P.v * (2 * (A % 324000000000))) ∧ Ext w1 w' := fun w1 u1 u2 k1 k2 => t_mulZ u1 u2 _ _ w1 k1 k2 (okN.sz kP) hsz2 (okN.sz km)
 have hnn : 0 ≤ P.v * (2 * (A % 324000000000)) := Int.mul_nonneg kP0 (by omega)
 have hdv : ∀ (w1 : World) (u1 u2 : Value), Wid w1 u1 (P.v * (2 * (A % 324000000000))) → Wid w1 u2 1296000000000 → Calls Tryz.prog 145 #[u1, u2] w1 fun e w' => ∃ u, e = .returned u ∧ Wid w' u b.v ∧ Ext w1 w' := fun w1 u1 u2 k1 k2 => by
  rw [← hbv]
  obtain ⟨X, hX⟩ := Int.eq_ofNat_of_zero_le hnn
  rw [hX] at k1 ⊢
  have := t_div u1 u2 X 1296000000000 w1 (k1.nn (Int.natCast_nonneg _)) (k2.nn (by decide)) (by have := okN.sz km; rw [hX] at this; exact this) (dig_bits (k := 64) (L := 4096) (by decide) (by decide)) (by decide)
  exact this.mono fun e w' ⟨u, h1, h2, h3⟩ => ⟨u, h1, h2.wid, h3⟩
 have hrm : A.tmod 324000000000 = A % 324000000000 := Int.tmod_eq_emod_of_nonneg hA0.1
 have hqt : A.tdiv 324000000000 = A / 324000000000 := Int.tdiv_eq_ediv_of_nonneg hA0.1
 clear hP hF km hnn hsz2 hb hbv kP
 have I0 : KBd w [] w := ⟨Ext.refl w, trivial, by simp, by simp⟩
 have I := I0.new [.bool false, .slice none 0 0, .int .i64 0] 137 (by simp)
 simp only [List.nil_append] at I
 clear I0
 go_enter Tryz.func88, Tryz.ntmps88
 go_upto_if 10 with fail
 go_cut [0] from 7 to 12 (fun s0 wx => s0 = .int .i64 A ∧ wx = w.alloc (.cells #[.bool false, .slice none 0 0, .int .i64 0] 137))
 case first =>
  have ht := tmod_emod a
  rw [hA] at ht
  by_cases hn : a.tmod 1296000000000 < 0
  ·rw [if_pos hn] at ht
   replace ht := Lib.hid ht
   go_wp2_with fail
   go_meet
   case rel => exact ⟨congrArg (Value.int IntKind.i64) (by have := ht.out; unfold wrap64; omega), rfl⟩
  ·rw [if_neg hn] at ht
   replace ht := Lib.hid ht
   go_wp2_with fail
   go_meet
   case rel => exact ⟨congrArg (Value.int IntKind.i64) ht.out, rfl⟩
 case rest =>
  obtain ⟨rfl, rfl⟩ := hcut
  go_upto_region 4 with fail
  refine wp_regB [] [⟨2, some 3, BF.own [.bool false, .slice none 0 0, .int .i64 0], (BF.bat P.v P.r)⟩] (fun z_ => ([VF.eq (.int .i64 (p)), VF.ball (P.v) (P.r)] : List VF).getD z_ VF.any) I (fun hc => ⟨?_, ?_, ?_, ?_, trivial⟩) (fun vs gl W hK0 hv hp => ?_)
  ·exact ob_mv hc (.inl rfl)
  ·exact ob_call (fun v => [v 0]) hc rfl fun vs gs w1 c => hpi _ _ (c.v 0)
  ·exact ob_new (n := 1) [.bool false, .slice none 0 0, .int .i64 0] 137 rfl hc rfl rfl rfl
  ·exact ob_putB (n := 1) rfl 1 hc rfl 0
  have p0 : vs 2 = .pointer (some ⟨gl 0, 0, none⟩) := hp 0 _ rfl
  simp only [putS, Nat.reduceAdd, Act.put, List.setIfInBounds_toArray, List.set_cons_zero, List.set_cons_succ, p0]
  obtain ⟨gp, e90⟩ : ∃ n, gl 0 = n := ⟨_, rfl⟩
  simp only [kb_, e90] at hK0
  rw [e90]
  replace I := hK0
  clear hK0 hv hp gl p0 e90
  go_upto_region 5 with fail
  refine wp_regB [] [⟨13, some 14, BF.own [.bool false, .slice none 0 0, .int .i64 0], (BF.bat b.v b.r)⟩] (fun z_ => ([VF.eq (.pointer (some ⟨gp, 0, none⟩)), VF.wid (P.v), VF.eq (.int .i64 (A)), VF.eq (.int .i64 (A % 324000000000)), VF.eq (.int .i64 (2 * (A % 324000000000))), VF.wid (2 * (A % 324000000000)), VF.wid (P.v * (2 * (A % 324000000000))), VF.wid (1296000000000), VF.wid (b.v), VF.eq (.pointer (some ⟨gp, 2, none⟩)), VF.eq (.int .i64 (P.r)), VF.eq (.int .i64 (b.r)), VF.ball (b.v) (b.r)] : List VF).getD z_ VF.any) I (fun hc => ⟨?_, ?_, ?_, ?_, ?_, ?_, ?_, ?_, ?_, ?_, ?_, ?_, ?_, ?_, ?_, trivial⟩) (fun vs gl W hK0 hv hp => ?_)
  ·exact ob_e1 (x := .tmp 5) (a := .pointer (some ⟨gp, 0, none⟩)) (u := .pointer (some ⟨gp, 0, none⟩)) none hc
  ·exact ob_getN gp P.v P.r (some 0) hc rfl fun vs gs w1 c => c.b0 1
  ·exact ob_mv hc (.inl rfl)
  ·exact ob_e2 (x := .tmp 17) (y := .const (.int .i64 324000000000)) (a := (.int .i64 (A))) (b := .int .i64 324000000000) (u := .int .i64 (A % 324000000000)) (some 2) none hc (hs := by intro ρ w1 h k; go_simp; first | done | exact hrm)
  ·exact ob_e2 (x := .const (.int .i64 2)) (y := .tmp 18) (a := .int .i64 2) (b := (.int .i64 (A % 324000000000))) (u := .int .i64 (2 * (A % 324000000000))) none (some 3) hc (hs := by intro ρ w1 h k; go_simp; first | done | (simp only [IntKind.wrap_i64]; omega))
  ·exact ob_call (fun v => [v 4]) hc rfl fun vs gs w1 c => hn2 _ _ (c.v 4)
  ·exact ob_call (fun v => [v 1, v 5]) hc rfl fun vs gs w1 c => hmu _ _ _ (c.v 1) (c.v 5)
  ·exact ob_call (fun v => [.int .i64 1296000000000]) hc rfl fun vs gs w1 c => t_numZ 1296000000000 _ (by decide) (by decide)
  ·exact ob_call (fun v => [v 6, v 7]) hc rfl fun vs gs w1 c => hdv _ _ _ (c.v 6) (c.v 7)
  ·exact ob_e1 (x := .tmp 5) (a := .pointer (some ⟨gp, 0, none⟩)) (u := .pointer (some ⟨gp, 2, none⟩)) none hc
  ·exact ob_ld (x := .tmp 24) (g := gp) (f := 2) (u := .int .i64 (P.r)) (some 9) hc fun vs gs w1 c => BatP.r (c.b0 1)
  ·exact ob_e2 (x := .tmp 25) (y := .const (.int .i64 1)) (a := (.int .i64 (P.r))) (b := .int .i64 1) (u := .int .i64 (b.r)) (some 10) none hc (hs := by intro ρ w1 h k; go_simp; first | done | (simp only [IntKind.wrap_i64]; omega))
  ·exact ob_buildB (q := b.v) (r := b.r) 8 (some 11) hc rfl
  ·exact b_28
  ·exact ob_putB (n := 2) rfl 12 hc rfl 0
  have p0 : vs 13 = .pointer (some ⟨gl 0, 0, none⟩) := hp 0 _ rfl
  simp only [putS, Nat.reduceAdd, Act.put, List.setIfInBounds_toArray, List.set_cons_zero, List.set_cons_succ, p0]
  obtain ⟨gb, e90⟩ : ∃ n, gl 0 = n := ⟨_, rfl⟩
  simp only [kb_, e90] at hK0
  rw [e90]
  replace I := hK0
  clear hK0 hv hp gl p0 e90
  go_upto_region 6 with fail
  refine wp_regB [[(5, BF.bat R.v R.r)]] [] (fun z_ => ([VF.eq (.int .i64 (A)), VF.eq (.int .i64 (A / 324000000000)), VF.ball (b.v) (b.r), VF.eq (.int .i64 (p)), VF.ball (R.v) (R.r)] : List VF).getD z_ VF.any) I (fun hc => ⟨?_, ?_, ?_, ?_, ?_, ?_, trivial⟩) (fun vs gl W hK0 hv hp => ?_)
  ·exact ob_mv hc (.inl rfl)
  ·exact ob_e2 (x := .tmp 28) (y := .const (.int .i64 324000000000)) (a := (.int .i64 (A))) (b := .int .i64 324000000000) (u := .int .i64 (A / 324000000000)) (some 0) none hc (hs := by intro ρ w1 h k; go_simp; first | done | (simp only [IntKind.wrap_i64]; omega))
  ·exact ob_getB gb (b.v) (b.r) hc rfl fun vs gs w1 c => c.b0 2
  ·exact ob_mv hc (.inl rfl)
  ·exact ob_call (fun v => [v 1, v 2, v 3]) hc rfl fun vs gs w1 c => htu _ _ _ _ (c.v 1) (c.v 2) (c.v 3)
  ·exact ob_putB (n := 0) rfl 4 hc rfl 0
  simp only [putS, Nat.reduceAdd, Act.put, List.setIfInBounds_toArray, List.set_cons_zero, List.set_cons_succ]
  simp only [kb_] at hK0
  replace I := hK0
  clear hK0 hv hp gl
  obtain ⟨⟨bs, us, x0, x1, x2⟩, x3, -, -, -⟩ := (show BatP W w.heap.size R.v R.r from I.at 0)
  have hEx := I.e
  clear I hA0
  go_wp2_with fail
  refine bodyPost_ret (v := .agg #[.bool bs, us, .int .i64 R.r]) ?_ rfl ⟨_, rfl, ⟨_, _, rfl, x2⟩, hEx⟩
  simp [results, Tryz.results88, go_sem, ↓IntWalk.iteOmega, *]
end Go.Proofs.YtaoioncjmfcolaaGreat
