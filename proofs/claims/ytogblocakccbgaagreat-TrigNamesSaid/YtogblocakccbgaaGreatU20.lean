/- trig: circular. -/
import Derived.Test.YtogblocakccbgaaGreatU19
import Derived.Test.YtogblocakccbgaaGreatU14
set_option linter.unusedSimpArgs false
set_option linter.unusedVariables false
set_option maxRecDepth 100000
set_option maxHeartbeats 4000000
namespace Go.Proofs.YtogblocakccbgaaGreat
open Go.RowKit
theorem T_TCI_3 {p : Prop} (h : p := by
 exact ob_e1 (x := .tmp 4) (a := .pointer (some ⟨(w.heap.size + 1 + 1), 0, none⟩)) (u := .pointer (some ⟨(w.heap.size + 1 + 1), 2, none⟩)) none hc) : p := h
theorem T_TCI_2 {p : Prop} (h : p := by
 exact ob_e1 (x := .tmp 4) (a := .pointer (some ⟨(w.heap.size + 1 + 1), 0, none⟩)) (u := .pointer (some ⟨(w.heap.size + 1 + 1), 0, none⟩)) none hc) : p := h
theorem T_TCI_1 {p : Prop} (h : p := by
 exact ob_ld (x := .tmp 3) (g := (w.heap.size + 1)) (f := 0) (u := .int .i64 (p)) none hc fun vs gs w1 c => c.own 1 0) : p := h
structure Bl where
 v : Int
 r : Int
def okB (b : Bl) : Bool := okN b.v && (decide (0 ≤ b.r) && decide (b.r ≤ 1000000000000000))
theorem okB_spec {b : Bl} (h : okB b = true) : okN b.v = true ∧ 0 ≤ b.r ∧ b.r ≤ 1000000000000000 := by
 unfold okB at h
 rw [Bool.and_eq_true, Bool.and_eq_true, decide_eq_true_eq, decide_eq_true_eq] at h
 exact ⟨h.1, h.2.1, h.2.2⟩
def dbS (p : Nat) (s c : Bl) : Bl := ⟨s.v * c.v / 2 ^ (p - 1), 2 * (s.r + c.r) + 4⟩
def dbC (p : Nat) (s : Bl) : Bl := ⟨((2 ^ p : Nat) : Int) - s.v * s.v / 2 ^ (p - 1), 4 * s.r + 4⟩
def dblF (p : Nat) : Nat → Bl → Bl → Option (Bl × Bl)
 | 0, s, c => if (okB s && okB c) = true then some (s, c) else none
 | n + 1, s, c => if (okB s && okB c) = true then dblF p n (dbS p s c) (dbC p s) else none
theorem dblF_ok {p n : Nat} {s c : Bl} {r : Bl × Bl} (h : dblF p n s c = some r) : okB s = true ∧ okB c = true := by
 rw [← Bool.and_eq_true]
 cases n with
 | zero => unfold dblF at h; by_cases k : (okB s && okB c) = true; exact k; rw [if_neg k] at h; cases h
 | succ n => unfold dblF at h; by_cases k : (okB s && okB c) = true; exact k; rw [if_neg k] at h; cases h
theorem dblF_zero {p : Nat} {s c : Bl} {r : Bl × Bl} (h : dblF p 0 s c = some r) : r = (s, c) := by
 have k := dblF_ok h
 unfold dblF at h
 rw [if_pos (by rw [k.1, k.2]; rfl)] at h
 exact (Option.some.inj h).symm
theorem dblF_succ {p n : Nat} {s c : Bl} {r : Bl × Bl} (h : dblF p (n + 1) s c = some r) : dblF p n (dbS p s c) (dbC p s) = some r := by
 have k := dblF_ok h
 unfold dblF at h
 rwa [if_pos (by rw [k.1, k.2]; rfl)] at h
theorem okN_mul {a b : Int} (ha : okN a = true) (hb : okN b = true) : Sz (a * b) := by
 unfold okN at ha hb
 rw [decide_eq_true_eq] at ha hb
 obtain ⟨M, hM⟩ : ∃ M : Nat, M = 2001 := ⟨_, rfl⟩
 have h1 : a.natAbs < 2 ^ M := Nat.lt_of_lt_of_le Nat.lt_log2_self (Nat.pow_le_pow_right (by decide) (by omega))
 have h2 : b.natAbs < 2 ^ M := Nat.lt_of_lt_of_le Nat.lt_log2_self (Nat.pow_le_pow_right (by decide) (by omega))
 unfold Sz
 rw [Int.natAbs_mul]
 refine Small.le (small_pow (M + M) (by omega)) ?_
 rw [Nat.pow_add]
 exact Nat.mul_le_mul (Nat.le_of_lt h1) (Nat.le_of_lt h2)
def circF (x : Nat) (r : Int) (p : Nat) : Option (Bl × Bl) :=
 if okN (x : Int) = true ∧ x / 2 ^ 5 ≤ 2 ^ 1001 ∧ x / 2 ^ 5 * (x / 2 ^ 5) / 2 ^ p ≤ 2 ^ p then
  (serF (x / 2 ^ 5 * (x / 2 ^ 5) / 2 ^ p) p 1000 0 (x / 2 ^ 5) 1 0).bind fun s =>
  (serF (x / 2 ^ 5 * (x / 2 ^ 5) / 2 ^ p) p 1000 0 (2 ^ p) 0 0).bind fun c =>
  if s.2 ≤ 100000 ∧ c.2 ≤ 100000 then dblF p 5 ⟨s.1, 4 * (s.2 : Int) + 4 + r⟩ ⟨c.1, 4 * (c.2 : Int) + 4 + r⟩ else none
 else none
theorem circF_spec {x p : Nat} {r : Int} {S : Bl × Bl} (h : circF x r p = some S) : okN (x : Int) = true ∧ x / 2 ^ 5 ≤ 2 ^ 1001 ∧ x / 2 ^ 5 * (x / 2 ^ 5) / 2 ^ p ≤ 2 ^ p ∧ ∃ sv sn cv cn, serF (x / 2 ^ 5 * (x / 2 ^ 5) / 2 ^ p) p 1000 0 (x / 2 ^ 5) 1 0 = some (sv, sn) ∧ serF (x / 2 ^ 5 * (x / 2 ^ 5) / 2 ^ p) p 1000 0 (2 ^ p) 0 0 = some (cv, cn) ∧ sn ≤ 100000 ∧ cn ≤ 100000 ∧ dblF p 5 ⟨sv, 4 * (sn : Int) + 4 + r⟩ ⟨cv, 4 * (cn : Int) + 4 + r⟩ = some S := by
 unfold circF at h
 by_cases k : okN (x : Int) = true ∧ x / 2 ^ 5 ≤ 2 ^ 1001 ∧ x / 2 ^ 5 * (x / 2 ^ 5) / 2 ^ p ≤ 2 ^ p
 ·rw [if_pos k] at h
  refine ⟨k.1, k.2.1, k.2.2, ?_⟩
  rw [Option.bind_eq_some_iff] at h
  obtain ⟨⟨sv, sn⟩, h1, h⟩ := h
  rw [Option.bind_eq_some_iff] at h
  obtain ⟨⟨cv, cn⟩, h2, h⟩ := h
  by_cases k2 : sn ≤ 100000 ∧ cn ≤ 100000
  ·rw [if_pos k2] at h
   exact ⟨sv, sn, cv, cn, h1, h2, k2.1, k2.2, h⟩
  ·rw [if_neg k2] at h; cases h
 ·rw [if_neg k] at h; cases h
theorem t_circ (vx : Value) (x : Nat) (r : Int) (p : Nat) (S C : Bl) (w : World) (hx : Ball w vx (x : Int) r) (hr0 : 0 ≤ r) (hr1 : r ≤ 100000000000000) (hp2 : 2 ≤ p) (hp : p ≤ 1000) (hF : circF x r p = some (S, C)) :
    Calls Tryz.prog 126 #[vx, .int .i64 p] w fun e w' => ∃ u v, e = .returned (.tuple #[u, v]) ∧ Ball w' u S.v S.r ∧ Ball w' v C.v C.r ∧ Ext w w' := by
 obtain ⟨kx, ky1, kq, sv, sn, cv, cn, h1, h2, n1, n2, hD⟩ := circF_spec hF
 clear hF
 obtain ⟨y, hy⟩ : ∃ y, x / 2 ^ 5 = y := ⟨_, rfl⟩
 rw [hy] at ky1 kq h1 h2
 obtain ⟨q, hq⟩ : ∃ q, y * y / 2 ^ p = q := ⟨_, rfl⟩
 rw [hq] at kq h1 h2
 have hsN : ∀ n : Nat, Small n → Sz (n : Int) := fun n h => by unfold Sz; rw [Int.natAbs_natCast]; exact h
 have smy : Small y := Small.le (small_pow 1001 (by decide)) ky1
 have smyy : Small (y * y) := by
  obtain ⟨M, hM⟩ : ∃ M : Nat, M = 1001 := ⟨_, rfl⟩
  rw [← hM] at ky1
  exact Small.le (small_pow (M + M) (by omega)) (by rw [Nat.pow_add]; exact Nat.mul_le_mul ky1 ky1)
 have hpM : ∀ M, p ≤ M → 2 ^ p ≤ 2 ^ M := fun M h => Nat.pow_le_pow_right (by decide) h
 have smp : Small (2 ^ p) := small_pow p (by omega)
 have hsy : ∀ (w1 : World) (u1 : Value), Wid w1 u1 (x : Int) → Calls Tryz.prog 118 #[u1, .int .i64 (-5)] w1 fun e w' => ∃ u, e = .returned u ∧ Wid w' u (y : Int) ∧ Ext w1 w' := fun w1 u1 a => by
  have := t_shiftD u1 _ 5 w1 a (okN.sz kx) (by decide) (by decide)
  have e : (x : Int) / 2 ^ 5 = (y : Int) := by rw [← hy, Int.natCast_ediv, Int.natCast_pow]; rfl
  rw [e] at this
  exact this
 have hyy : ∀ (w1 : World) (u1 u2 : Value), Wid w1 u1 (y : Int) → Wid w1 u2 (y : Int) → Calls Tryz.prog 27 #[u1, u2] w1 fun e w' => ∃ u, e = .returned u ∧ Wid w' u ((y * y : Nat) : Int) ∧ Ext w1 w' := fun w1 u1 u2 a b => by
  have := t_mulZ u1 u2 _ _ w1 a b (hsN _ smy) (hsN _ smy) (by rw [← Int.natCast_mul]; exact hsN _ smyy)
  rw [← Int.natCast_mul] at this
  exact this
 have hsq : ∀ (w1 : World) (u1 u2 : Value), Wid w1 u1 ((y * y : Nat) : Int) → u2 = .int .i64 (-(p : Int)) → Calls Tryz.prog 118 #[u1, u2] w1 fun e w' => ∃ u, e = .returned u ∧ Wid w' u (q : Int) ∧ Ext w1 w' := fun w1 u1 u2 a b => by
  subst b
  have := t_shiftD u1 _ p w1 a (hsN _ smyy) (by omega) (by omega)
  have e : ((y * y : Nat) : Int) / 2 ^ p = (q : Int) := by rw [← hq, Int.natCast_ediv, Int.natCast_pow]; rfl
  rw [e] at this
  exact this
 have hone : ∀ (w1 : World) (u1 u2 : Value), Wid w1 u1 1 → u2 = .int .i64 (p : Int) → Calls Tryz.prog 118 #[u1, u2] w1 fun e w' => ∃ u, e = .returned u ∧ Wid w' u ((2 ^ p : Nat) : Int) ∧ Ext w1 w' := fun w1 u1 u2 a b => by
  subst b
  have e : (1 : Int) * 2 ^ p = ((2 ^ p : Nat) : Int) := by rw [Int.one_mul, Int.natCast_pow]; rfl
  have := t_shiftU u1 1 p w1 a sz1 (by omega) (by rw [e]; exact hsN _ smp)
  rw [e] at this
  exact this
 obtain ⟨S0, hS0⟩ : ∃ S0 : Bl, (⟨sv, 4 * (sn : Int) + 4 + r⟩ : Bl) = S0 := ⟨_, rfl⟩
 obtain ⟨C0, hC0⟩ : ∃ C0 : Bl, (⟨cv, 4 * (cn : Int) + 4 + r⟩ : Bl) = C0 := ⟨_, rfl⟩
 rw [hS0, hC0] at hD
 have hss : ∀ {g7 g3 g2 : Nat} (w1 : World) (u1 : Value), WAt w1 g7 (q : Int) → w1.cell? ⟨g3, 0, none⟩ = some (.int .i64 p) → w1.cell? ⟨g2, 2, none⟩ = some (.int .i64 r) → Wid w1 u1 (y : Int) → Calls Tryz.prog 177 #[u1, .int .i64 1, .pointer (some ⟨g7, 0, none⟩), .pointer (some ⟨g3, 0, none⟩), .pointer (some ⟨g2, 0, none⟩)] w1 fun e w' => ∃ u, e = .returned u ∧ Ball w' u S0.v S0.r ∧ Ext w1 w' := fun w1 u1 a b c d => by
  have := t_ser u1 _ _ _ y q 1 p 1000 r sv sn w1 d a b c ky1 kq (by decide) (by omega) hp (by decide) n1 hr0 (by omega) h1
  rw [← hS0]
  exact this
 have hcc : ∀ {g7 g3 g2 : Nat} (w1 : World) (u1 : Value), WAt w1 g7 (q : Int) → w1.cell? ⟨g3, 0, none⟩ = some (.int .i64 p) → w1.cell? ⟨g2, 2, none⟩ = some (.int .i64 r) → Wid w1 u1 ((2 ^ p : Nat) : Int) → Calls Tryz.prog 177 #[u1, .int .i64 0, .pointer (some ⟨g7, 0, none⟩), .pointer (some ⟨g3, 0, none⟩), .pointer (some ⟨g2, 0, none⟩)] w1 fun e w' => ∃ u, e = .returned u ∧ Ball w' u C0.v C0.r ∧ Ext w1 w' := fun w1 u1 a b c d => by
  have := t_ser u1 _ _ _ (2 ^ p) q 0 p 1000 r cv cn w1 d a b c (hpM 1001 (by omega)) kq (by decide) (by omega) hp (by decide) n2 hr0 (by omega) h2
  rw [← hC0]
  exact this
 clear h1 h2 hS0 hC0 kx ky1 kq hy hq
 obtain ⟨sb, aob, nb, capb, rfl, hWx⟩ := hx.open
 have I0 : KBd w [] w := ⟨Ext.refl w, trivial, by simp, by simp⟩
 have I := (((I0.push ((Ext.refl w).alloc (.cells #[.bool sb, .slice aob nb capb, .int .i64 r] 57)) (BF.bat (x : Int) r) (BatP.new hWx)).new [.int .i64 (p : Int)] 3 (by simp)).new [.bool false, .slice none 0 0, .int .i64 0] 57 (by simp)).new [.bool false, .slice none 0 0, .int .i64 0] 57 (by simp)
 simp only [World.size_alloc, List.nil_append, List.cons_append] at I
 clear I0 hWx hx
 have hmf : ∀ (fn : Fn) (first cap : Array Value) (w : World), (Instr.makeFunc fn first cap).run Tryz.prog w = .ok (.func fn first cap) w := fun _ _ _ _ => rfl
 go_enter Tryz.func126, Tryz.ntmps126
 go_upto_region 1 with fail
 refine wp_regB [] [⟨3, some 4, BF.b2, (BF.wat (y : Int))⟩] (fun z_ => ([VF.eq (.pointer (some ⟨w.heap.size, 0, none⟩)), VF.wid ((x : Int)), VF.wid ((y : Int))] : List VF).getD z_ VF.any) I (fun hc => ⟨?_, ?_, ?_, ?_, ?_, trivial⟩) (fun vs gl W hK0 hv hp => ?_)
 ·exact b_16
 ·exact ob_getN w.heap.size (x : Int) r (some 0) hc rfl fun vs gs w1 c => c.b0 0
 ·exact ob_call (fun v => [v 1, .int .i64 (-5)]) hc rfl fun vs gs w1 c => hsy _ _ (c.v 1)
 ·exact ob_allocW (n := 4) rfl hc rfl rfl rfl
 ·exact ob_putW (n := 4) rfl 2 hc rfl 0
 have p0 : vs 3 = .pointer (some ⟨gl 0, 0, none⟩) := hp 0 _ rfl
 simp only [putS, Nat.reduceAdd, Act.put, List.setIfInBounds_toArray, List.set_cons_zero, List.set_cons_succ, p0]
 obtain ⟨g6, e90⟩ : ∃ n, gl 0 = n := ⟨_, rfl⟩
 simp only [kb_, e90] at hK0
 rw [e90]
 replace I := hK0
 clear hK0 hv hp gl p0 e90
 go_upto_region 2 with fail
 refine wp_regB [] [⟨6, some 7, BF.b2, (BF.wat (q : Int))⟩] (fun z_ => ([VF.wid ((y : Int)), VF.wid ((y : Int)), VF.wid (((y * y : Nat) : Int)), VF.eq (.int .i64 (p)), VF.eq (.int .i64 (-(p : Int))), VF.wid ((q : Int))] : List VF).getD z_ VF.any) I (fun hc => ⟨?_, ?_, ?_, ?_, ?_, ?_, ?_, ?_, trivial⟩) (fun vs gl W hK0 hv hp => ?_)
 ·exact ob_getW g6 ((y : Int)) hc rfl fun vs gs w1 c => c.b0 4
 ·exact ob_getW g6 ((y : Int)) hc rfl fun vs gs w1 c => c.b0 4
 ·exact ob_call (fun v => [v 0, v 1]) hc rfl fun vs gs w1 c => hyy _ _ _ (c.v 0) (c.v 1)
 ·exact T_TCI_1
 ·exact ob_e1 (x := .tmp 18) (a := (.int .i64 (p))) (u := .int .i64 (-(p : Int))) (some 3) hc (hs := by intro ρ w1 h; go_simp; first | done | (simp only [IntKind.wrap_i64]; omega))
 ·exact ob_call (fun v => [v 2, v 4]) hc rfl fun vs gs w1 c => hsq _ _ _ (c.v 2) (c.v 4)
 ·exact b_17
 ·exact ob_putW (n := 5) rfl 5 hc rfl 0
 have p0 : vs 6 = .pointer (some ⟨gl 0, 0, none⟩) := hp 0 _ rfl
 simp only [putS, Nat.reduceAdd, Act.put, List.setIfInBounds_toArray, List.set_cons_zero, List.set_cons_succ, p0]
 obtain ⟨g7, e90⟩ : ∃ n, gl 0 = n := ⟨_, rfl⟩
 simp only [kb_, e90] at hK0
 rw [e90]
 replace I := hK0
 clear hK0 hv hp gl p0 e90
 go_upto_region 3 with fail
 refine wp_regB [] [⟨3, some 4, BF.b2, (BF.wat ((2 ^ p : Nat) : Int))⟩] (fun z_ => ([VF.wid (1), VF.eq (.int .i64 (p)), VF.wid (((2 ^ p : Nat) : Int))] : List VF).getD z_ VF.any) I (fun hc => ⟨?_, ?_, ?_, ?_, ?_, trivial⟩) (fun vs gl W hK0 hv hp => ?_)
 ·exact ob_call (fun v => [.int .i64 1]) hc rfl fun vs gs w1 c => t_numZ 1 _ (by decide) (by decide)
 ·exact T_TCI_1
 ·exact ob_call (fun v => [v 0, v 1]) hc rfl fun vs gs w1 c => hone _ _ _ (c.v 0) (c.v 1)
 ·exact ob_allocW (n := 6) rfl hc rfl rfl rfl
 ·exact ob_putW (n := 6) rfl 2 hc rfl 0
 have p0 : vs 3 = .pointer (some ⟨gl 0, 0, none⟩) := hp 0 _ rfl
 simp only [putS, Nat.reduceAdd, Act.put, List.setIfInBounds_toArray, List.set_cons_zero, List.set_cons_succ, p0]
 obtain ⟨g8, e90⟩ : ∃ n, gl 0 = n := ⟨_, rfl⟩
 simp only [kb_, e90] at hK0
 rw [e90]
 replace I := hK0
 clear hK0 hv hp gl p0 e90
 go_upto_region 5 with fail
 refine wp_regB [[], [], [(6, BF.bat S0.v S0.r)], [(7, BF.bat C0.v C0.r)]] [] (fun z_ => ([VF.eq (.func (.func 177) #[] #[.pointer (some ⟨g7, 0, none⟩), .pointer (some ⟨(w.heap.size + 1), 0, none⟩), .pointer (some ⟨w.heap.size, 0, none⟩)]), VF.wid ((y : Int)), VF.ball (S0.v) (S0.r), VF.eq (.func (.func 177) #[] #[.pointer (some ⟨g7, 0, none⟩), .pointer (some ⟨(w.heap.size + 1), 0, none⟩), .pointer (some ⟨w.heap.size, 0, none⟩)]), VF.wid (((2 ^ p : Nat) : Int)), VF.ball (C0.v) (C0.r)] : List VF).getD z_ VF.any) I (fun hc => ⟨?_, ?_, ?_, ?_, ?_, ?_, ?_, ?_, trivial⟩) (fun vs gl W hK0 hv hp => ?_)
 ·exact ob_mv hc (.inl rfl)
 ·exact ob_getW g6 ((y : Int)) hc rfl fun vs gs w1 c => c.b0 4
 ·exact ob_callF (caps := [.pointer (some ⟨g7, 0, none⟩), .pointer (some ⟨(w.heap.size + 1), 0, none⟩), .pointer (some ⟨w.heap.size, 0, none⟩)]) 0 (fun v => [v 1, .int .i64 1]) hc rfl (h := fun vs gs w1 c => hss _ _ (c.b0 5) (c.own 1 0) (BatP.r (c.b0 0)) (c.v 1))
 ·exact ob_mv hc (.inl rfl)
 ·exact ob_getW g8 (((2 ^ p : Nat) : Int)) hc rfl fun vs gs w1 c => c.b0 6
 ·exact ob_callF (caps := [.pointer (some ⟨g7, 0, none⟩), .pointer (some ⟨(w.heap.size + 1), 0, none⟩), .pointer (some ⟨w.heap.size, 0, none⟩)]) 3 (fun v => [v 4, .int .i64 0]) hc rfl (h := fun vs gs w1 c => hcc _ _ (c.b0 5) (c.own 1 0) (BatP.r (c.b0 0)) (c.v 4))
 ·exact ob_putB (n := 2) rfl 2 hc rfl 0
 ·exact ob_putB (n := 3) rfl 5 hc rfl 0
 simp only [putS, Nat.reduceAdd, Act.put, List.setIfInBounds_toArray, List.set_cons_zero, List.set_cons_succ]
 simp only [kb_] at hK0
 replace I := hK0
 clear hK0 hv hp gl
 clear hss hcc hsy hyy hsq hone hmf smy smyy
 go_wp2_with fail
 go_loopw [31] (fun s31 wr => ∃ (j : Nat) (s c : Bl), s31 = .int .i64 j ∧ j ≤ 5 ∧ Hid (dblF p (5 - j) s c = some (S, C)) ∧ Hid (KBd w [(w.heap.size, BF.bat (x : Int) r), (w.heap.size + 1, BF.own [.int .i64 (p : Int)]), (w.heap.size + 1 + 1, BF.bat s.v s.r), (w.heap.size + 1 + 1 + 1, BF.bat c.v c.r), (g6, BF.wat (y : Int)), (g7, BF.wat (q : Int)), (g8, BF.wat ((2 ^ p : Nat) : Int))] wr)) (fun s31 _ => 5 - (intOf s31).toNat)
 case atStart => exact ⟨0, S0, C0, rfl, by omega, hD, I⟩
 case round =>
  obtain ⟨j, s, c, rfl, hj, HD, HI⟩ := hrel
  clear I
  have I := HI.out
  clear HI
  by_cases hj2 : j < 5
  ·have hd := HD.out
   rw [show 5 - j = (5 - (j + 1)) + 1 by omega] at hd
   obtain ⟨ks, kc⟩ := dblF_ok hd
   have hd2 := dblF_succ hd
   obtain ⟨ks1, ks2, ks3⟩ := okB_spec ks
   obtain ⟨kc1, kc2, kc3⟩ := okB_spec kc
   clear hd HD ks kc
   have hmm : ∀ (a b : Int), okN a = true → okN b = true → ∀ (w1 : World) (u1 u2 : Value), Wid w1 u1 a → Wid w1 u2 b → Calls Tryz.prog 27 #[u1, u2] w1 fun e w' => ∃ u, e = .returned u ∧ Wid w' u (a * b) ∧ Ext w1 w' := fun a b ha hb w1 u1 u2 h k => t_mulZ u1 u2 _ _ w1 h k (okN.sz ha) (okN.sz hb) (okN_mul ha hb)
   have hdn : ∀ (a : Int), Sz a → ∀ (w1 : World) (u1 u2 : Value), Wid w1 u1 a → u2 = .int .i64 (1 - (p : Int)) → Calls Tryz.prog 118 #[u1, u2] w1 fun e w' => ∃ u, e = .returned u ∧ Wid w' u (a / 2 ^ (p - 1)) ∧ Ext w1 w' := fun a ha w1 u1 u2 h k => by
    subst k
    rw [show 1 - (p : Int) = -((p - 1 : Nat) : Int) by omega]
    exact t_shiftD u1 a (p - 1) w1 h ha (by omega) (by omega)
   have hm1 := hmm s.v c.v ks1 kc1
   have hm2 := hmm s.v s.v ks1 ks1
   have hd1 := hdn (s.v * c.v) (okN_mul ks1 kc1)
   have hd3 := hdn (s.v * s.v) (okN_mul ks1 ks1)
   have hsq2 : Sz (s.v * s.v / 2 ^ (p - 1)) := by
    have h0 := okN_mul ks1 ks1
    unfold Sz at h0 ⊢
    refine Small.le h0 ?_
    have hnn : (0 : Int) ≤ s.v * s.v := by rw [← Int.natAbs_mul_self]; exact Int.natCast_nonneg _
    obtain ⟨m, hm⟩ := Int.eq_ofNat_of_zero_le hnn
    rw [hm, show ((m : Int) / 2 ^ (p - 1)) = ((m / 2 ^ (p - 1) : Nat) : Int) by rw [Int.natCast_ediv, Int.natCast_pow]; rfl, Int.natAbs_natCast, Int.natAbs_natCast]
    exact Nat.div_le_self _ _
   have hszc : Sz (dbC p s).v := okN.sz (okB_spec (dblF_ok hd2).2).1
   have hdif : ∀ (w1 : World) (u1 u2 : Value), Wid w1 u1 ((2 ^ p : Nat) : Int) → Wid w1 u2 (s.v * s.v / 2 ^ (p - 1)) → Calls Tryz.prog 57 #[u1, u2] w1 fun e w' => ∃ u, e = .returned u ∧ Wid w' u (dbC p s).v ∧ Ext w1 w' := fun w1 u1 u2 h k => t_subZ u1 u2 _ _ w1 h k (hsN _ smp) hsq2 hszc
   clear hmm hdn
   go_upto_region 8 with fail
   refine wp_regB [] [⟨8, some 9, BF.b2, (BF.wat (s.v * c.v / 2 ^ (p - 1)))⟩] (fun z_ => ([VF.eq (.pointer (some ⟨(w.heap.size + 1 + 1), 0, none⟩)), VF.wid (s.v), VF.eq (.pointer (some ⟨(w.heap.size + 1 + 1 + 1), 0, none⟩)), VF.wid (c.v), VF.wid (s.v * c.v), VF.eq (.int .i64 (p)), VF.eq (.int .i64 (1 - (p : Int))), VF.wid (s.v * c.v / 2 ^ (p - 1))] : List VF).getD z_ VF.any) I (fun hc => ⟨?_, ?_, ?_, ?_, ?_, ?_, ?_, ?_, ?_, ?_, trivial⟩) (fun vs gl W hK0 hv hp => ?_)
   ·exact T_TCI_2
   ·exact ob_getN (w.heap.size + 1 + 1) s.v s.r (some 0) hc rfl fun vs gs w1 c => c.b0 2
   ·exact ob_e1 (x := .tmp 5) (a := .pointer (some ⟨(w.heap.size + 1 + 1 + 1), 0, none⟩)) (u := .pointer (some ⟨(w.heap.size + 1 + 1 + 1), 0, none⟩)) none hc
   ·exact ob_getN (w.heap.size + 1 + 1 + 1) c.v c.r (some 2) hc rfl fun vs gs w1 c => c.b0 3
   ·exact ob_call (fun v => [v 1, v 3]) hc rfl fun vs gs w1 c => hm1 _ _ _ (c.v 1) (c.v 3)
   ·exact T_TCI_1
   ·exact ob_e2 (x := .const (.int .i64 1)) (y := .tmp 38) (a := .int .i64 1) (b := (.int .i64 (p))) (u := .int .i64 (1 - (p : Int))) none (some 5) hc (hs := by intro ρ w1 h k; go_simp; first | done | (simp only [IntKind.wrap_i64]; omega))
   ·exact ob_call (fun v => [v 4, v 6]) hc rfl fun vs gs w1 c => hd1 _ _ _ (c.v 4) (c.v 6)
   ·exact ob_allocW (n := 7) rfl hc rfl rfl rfl
   ·exact ob_putW (n := 7) rfl 7 hc rfl 0
   have p0 : vs 8 = .pointer (some ⟨gl 0, 0, none⟩) := hp 0 _ rfl
   simp only [putS, Nat.reduceAdd, Act.put, List.setIfInBounds_toArray, List.set_cons_zero, List.set_cons_succ, p0]
   obtain ⟨g10, e90⟩ : ∃ n, gl 0 = n := ⟨_, rfl⟩
   simp only [kb_, e90] at hK0
   rw [e90]
   replace I := hK0
   clear hK0 hv hp gl p0 e90
   go_upto_region 9 with fail
   refine wp_regB [] [⟨8, some 9, BF.b2, (BF.wat (s.v * s.v / 2 ^ (p - 1)))⟩] (fun z_ => ([VF.eq (.pointer (some ⟨(w.heap.size + 1 + 1), 0, none⟩)), VF.wid (s.v), VF.eq (.pointer (some ⟨(w.heap.size + 1 + 1), 0, none⟩)), VF.wid (s.v), VF.wid (s.v * s.v), VF.eq (.int .i64 (p)), VF.eq (.int .i64 (1 - (p : Int))), VF.wid (s.v * s.v / 2 ^ (p - 1))] : List VF).getD z_ VF.any) I (fun hc => ⟨?_, ?_, ?_, ?_, ?_, ?_, ?_, ?_, ?_, ?_, trivial⟩) (fun vs gl W hK0 hv hp => ?_)
   ·exact T_TCI_2
   ·exact ob_getN (w.heap.size + 1 + 1) s.v s.r (some 0) hc rfl fun vs gs w1 c => c.b0 2
   ·exact T_TCI_2
   ·exact ob_getN (w.heap.size + 1 + 1) s.v s.r (some 2) hc rfl fun vs gs w1 c => c.b0 2
   ·exact ob_call (fun v => [v 1, v 3]) hc rfl fun vs gs w1 c => hm2 _ _ _ (c.v 1) (c.v 3)
   ·exact T_TCI_1
   ·exact ob_e2 (x := .const (.int .i64 1)) (y := .tmp 46) (a := .int .i64 1) (b := (.int .i64 (p))) (u := .int .i64 (1 - (p : Int))) none (some 5) hc (hs := by intro ρ w1 h k; go_simp; first | done | (simp only [IntKind.wrap_i64]; omega))
   ·exact ob_call (fun v => [v 4, v 6]) hc rfl fun vs gs w1 c => hd3 _ _ _ (c.v 4) (c.v 6)
   ·exact ob_allocW (n := 8) rfl hc rfl rfl rfl
   ·exact ob_putW (n := 8) rfl 7 hc rfl 0
   have p0 : vs 8 = .pointer (some ⟨gl 0, 0, none⟩) := hp 0 _ rfl
   simp only [putS, Nat.reduceAdd, Act.put, List.setIfInBounds_toArray, List.set_cons_zero, List.set_cons_succ, p0]
   obtain ⟨g11, e90⟩ : ∃ n, gl 0 = n := ⟨_, rfl⟩
   simp only [kb_, e90] at hK0
   rw [e90]
   replace I := hK0
   clear hK0 hv hp gl p0 e90
   go_upto_region 10 with fail
   refine wp_regB [[], [], [(17, BF.bat (dbS p s c).v (dbS p s c).r)], [(18, BF.bat (dbC p s).v (dbC p s).r)]] [] (fun z_ => ([VF.wid (s.v * c.v / 2 ^ (p - 1)), VF.eq (.pointer (some ⟨(w.heap.size + 1 + 1), 2, none⟩)), VF.eq (.int .i64 (s.r)), VF.eq (.pointer (some ⟨(w.heap.size + 1 + 1 + 1), 2, none⟩)), VF.eq (.int .i64 (c.r)), VF.eq (.int .i64 (s.r + c.r)), VF.eq (.int .i64 (2 * (s.r + c.r))), VF.eq (.int .i64 (2 * (s.r + c.r) + 4)), VF.ball ((dbS p s c).v) ((dbS p s c).r), VF.wid (((2 ^ p : Nat) : Int)), VF.wid (s.v * s.v / 2 ^ (p - 1)), VF.wid ((dbC p s).v), VF.eq (.pointer (some ⟨(w.heap.size + 1 + 1), 2, none⟩)), VF.eq (.int .i64 (s.r)), VF.eq (.int .i64 (4 * s.r)), VF.eq (.int .i64 (4 * s.r + 4)), VF.ball ((dbC p s).v) ((dbC p s).r)] : List VF).getD z_ VF.any) I (fun hc => ⟨?_, ?_, ?_, ?_, ?_, ?_, ?_, ?_, ?_, ?_, ?_, ?_, ?_, ?_, ?_, ?_, ?_, ?_, ?_, trivial⟩) (fun vs gl W hK0 hv hp => ?_)
   ·exact ob_getW g10 (s.v * c.v / 2 ^ (p - 1)) hc rfl fun vs gs w1 c => c.b0 7
   ·exact T_TCI_3
   ·exact ob_ld (x := .tmp 50) (g := (w.heap.size + 1 + 1)) (f := 2) (u := .int .i64 (s.r)) (some 1) hc fun vs gs w1 c => BatP.r (c.b0 2)
   ·exact ob_e1 (x := .tmp 5) (a := .pointer (some ⟨(w.heap.size + 1 + 1 + 1), 0, none⟩)) (u := .pointer (some ⟨(w.heap.size + 1 + 1 + 1), 2, none⟩)) none hc
   ·exact ob_ld (x := .tmp 52) (g := (w.heap.size + 1 + 1 + 1)) (f := 2) (u := .int .i64 (c.r)) (some 3) hc fun vs gs w1 c => BatP.r (c.b0 3)
   ·exact ob_e2 (x := .tmp 51) (y := .tmp 53) (a := (.int .i64 (s.r))) (b := (.int .i64 (c.r))) (u := .int .i64 (s.r + c.r)) (some 2) (some 4) hc (hs := by intro ρ w1 h k; go_simp; first | done | (simp only [IntKind.wrap_i64]; omega))
   ·exact ob_e2 (x := .const (.int .i64 2)) (y := .tmp 54) (a := .int .i64 2) (b := (.int .i64 (s.r + c.r))) (u := .int .i64 (2 * (s.r + c.r))) none (some 5) hc (hs := by intro ρ w1 h k; go_simp; first | done | (simp only [IntKind.wrap_i64]; omega))
   ·exact ob_e2 (x := .tmp 55) (y := .const (.int .i64 4)) (a := (.int .i64 (2 * (s.r + c.r)))) (b := .int .i64 4) (u := .int .i64 (2 * (s.r + c.r) + 4)) (some 6) none hc (hs := by intro ρ w1 h k; go_simp; first | done | (simp only [IntKind.wrap_i64]; omega))
   ·exact ob_buildB (q := (dbS p s c).v) (r := (dbS p s c).r) 0 (some 7) hc rfl
   ·exact ob_getW g8 (((2 ^ p : Nat) : Int)) hc rfl fun vs gs w1 c => c.b0 6
   ·exact ob_getW g11 (s.v * s.v / 2 ^ (p - 1)) hc rfl fun vs gs w1 c => c.b0 8
   ·exact ob_call (fun v => [v 9, v 10]) hc rfl fun vs gs w1 c => hdif _ _ _ (c.v 9) (c.v 10)
   ·exact T_TCI_3
   ·exact ob_ld (x := .tmp 61) (g := (w.heap.size + 1 + 1)) (f := 2) (u := .int .i64 (s.r)) (some 12) hc fun vs gs w1 c => BatP.r (c.b0 2)
   ·exact ob_e2 (x := .const (.int .i64 4)) (y := .tmp 62) (a := .int .i64 4) (b := (.int .i64 (s.r))) (u := .int .i64 (4 * s.r)) none (some 13) hc (hs := by intro ρ w1 h k; go_simp; first | done | (simp only [IntKind.wrap_i64]; omega))
   ·exact ob_e2 (x := .tmp 63) (y := .const (.int .i64 4)) (a := (.int .i64 (4 * s.r))) (b := .int .i64 4) (u := .int .i64 (4 * s.r + 4)) (some 14) none hc (hs := by intro ρ w1 h k; go_simp; first | done | (simp only [IntKind.wrap_i64]; omega))
   ·exact ob_buildB (q := (dbC p s).v) (r := (dbC p s).r) 11 (some 15) hc rfl
   ·exact ob_putB (n := 2) rfl 8 hc rfl 0
   ·exact ob_putB (n := 3) rfl 16 hc rfl 0
   simp only [putS, Nat.reduceAdd, Act.put, List.setIfInBounds_toArray, List.set_cons_zero, List.set_cons_succ]
   simp only [kb_] at hK0
   replace I := hK0
   clear hK0 hv hp gl
   replace I := I.take 7
   go_wp2_with fail
   go_roundw
   case rel => exact ⟨j + 1, dbS p s c, dbC p s, by go_num, by omega, hd2, I⟩
   case measure => simp [intOf]; omega
  ·obtain rfl : j = 5 := by omega
   obtain ⟨rfl, rfl⟩ : S = s ∧ C = c := by simpa using dblF_zero HD.out
   go_upto_region 12 with fail
   refine wp_regB [[], [], [(2, BF.bat S.v S.r)], [(3, BF.bat C.v C.r)]] [] (fun z_ => ([VF.ball (S.v) (S.r), VF.ball (C.v) (C.r)] : List VF).getD z_ VF.any) I (fun hc => ⟨?_, ?_, ?_, ?_, trivial⟩) (fun vs gl W hK0 hv hp => ?_)
   ·exact ob_getB (w.heap.size + 1 + 1) (S.v) (S.r) hc rfl fun vs gs w1 c => c.b0 2
   ·exact ob_getB (w.heap.size + 1 + 1 + 1) (C.v) (C.r) hc rfl fun vs gs w1 c => c.b0 3
   ·exact ob_putB (n := 2) rfl 0 hc rfl 0
   ·exact ob_putB (n := 3) rfl 1 hc rfl 0
   simp only [putS, Nat.reduceAdd, Act.put, List.setIfInBounds_toArray, List.set_cons_zero, List.set_cons_succ]
   simp only [kb_] at hK0
   replace I := hK0
   clear hK0 hv hp gl
   obtain ⟨⟨bs, us, x0, x1, x2⟩, x3, -, -, -⟩ := (show BatP W (w.heap.size + 1 + 1) S.v S.r from I.at 2)
   obtain ⟨⟨bc, uc, z0, z1, z2⟩, z3, -, -, -⟩ := (show BatP W (w.heap.size + 1 + 1 + 1) C.v C.r from I.at 3)
   have hEx := I.e
   clear I HD
   go_wp2_with fail
   refine bodyPost_ret (v := .tuple #[.agg #[.bool bs, us, .int .i64 S.r], .agg #[.bool bc, uc, .int .i64 C.r]]) ?_ rfl ⟨_, _, rfl, ⟨_, _, rfl, x2⟩, ⟨_, _, rfl, z2⟩, hEx⟩
   simp [results, Tryz.results126, go_sem, ↓IntWalk.iteOmega, *]
theorem t_unit (vb : Value) (x r q : Int) (p : Nat) (w : World) (hb0 : Ball w vb x r) (hr0 : 0 ≤ r) (hr1 : r ≤ 9000000000000000000) (hp0 : 41 ≤ p) (hp : p ≤ 1000) (hF : floorF x r p = some q) :
    Calls Tryz.prog 29 #[vb, .int .i64 p] w fun e w' => e = .returned (.tuple #[.agg #[.int .i64 q, .int .i64 (q + 1)], .bool true]) ∧ Ext w w' := by
 obtain ⟨-, -, -, -, -, hq3⟩ := floorF_spec hF
 obtain ⟨sb, aob, nb, capb, rfl, hWx⟩ := hb0.open
 have hfl := fun w1 (k1 : Ext w w1) => t_floor _ x r q p w1 (hb0.ext k1) hr0 hr1 hp0 hp hF
 clear hF hWx hb0
 go_enter Tryz.func29, Tryz.ntmps29
 go_wp2_with (go_at_call 66; (with_reducible refine (hfl _ ex_).mono ?_); rintro e w1 ⟨rfl, hb⟩; obtain ⟨_, _, ⟨hc, hf⟩, hz⟩ := hb.c3; (try simp only [wsz] at hz hc hf))
 refine bodyPost_ret (v := .tuple #[.agg #[.int .i64 q, .int .i64 (q + 1)], .bool true]) ?_ rfl ⟨rfl, ?_⟩
 ·simp [results, Tryz.results29, go_sem, ↓IntWalk.iteOmega, *]
 ·exact b_0
def piF (p : Nat) : Option Bl :=
 (atanF 18 1000 0 (2 ^ p / 18) 0).bind fun a => (atanF 57 1000 0 (2 ^ p / 57) 0).bind fun b => (atanF 239 1000 0 (2 ^ p / 239) 0).bind fun c =>
 if p ≤ 1000 ∧ a.2 ≤ 100000 ∧ b.2 ≤ 100000 ∧ c.2 ≤ 100000 ∧ okN (48 * a.1) = true ∧ okN (32 * b.1) = true ∧ okN (48 * a.1 + 32 * b.1) = true ∧ okN (20 * c.1) = true ∧ okN (48 * a.1 + 32 * b.1 - 20 * c.1) = true ∧ 0 ≤ 48 * a.1 + 32 * b.1 - 20 * c.1 then
  some ⟨48 * a.1 + 32 * b.1 - 20 * c.1, 48 * (2 * (a.2 : Int) + 4) + 32 * (2 * (b.2 : Int) + 4) + 20 * (2 * (c.2 : Int) + 4)⟩ else none
theorem t_piF {p : Nat} {S : Bl} (w : World) (h : piF p = some S) : (Calls Tryz.prog 25 #[.int .i64 p] w fun e w' => ∃ u, e = .returned u ∧ Ball w' u S.v S.r ∧ Ext w w') ∧ okN S.v = true ∧ 0 ≤ S.v ∧ 0 ≤ S.r ∧ S.r ≤ 30000000 ∧ p ≤ 1000 := by
 unfold piF at h
 rw [Option.bind_eq_some_iff] at h
 obtain ⟨⟨a, ca⟩, h1, h⟩ := h
 rw [Option.bind_eq_some_iff] at h
 obtain ⟨⟨b, cb⟩, h2, h⟩ := h
 rw [Option.bind_eq_some_iff] at h
 obtain ⟨⟨c, cc⟩, h3, h⟩ := h
 dsimp only at h
 split at h
 ·rename_i k
  obtain ⟨k1, k2, k3, k4, k5, k6, k7, k8, k9, k10⟩ := k
  obtain rfl := Option.some.inj h
  exact ⟨t_pi p 1000 a b c ca cb cc w k1 (by decide) k2 k3 k4 h1 h2 h3 k5 k6 k7 k8 k9, k9, k10, by dsimp only; omega, by dsimp only; omega, k1⟩
 ·cases h
def VF.lim (xs : List Int) : VF := ⟨fun v w => Lim w v xs, fun _ _ _ h k => h.ext k, fun _ _ _ _ h hT k => h.grown hT k⟩
theorem sg_opp (n : Int) : sg (!decide (n < 0)) n.natAbs = -n := by
 unfold sg
 by_cases h : n < 0
 ·rw [decide_eq_true h]; simp; omega
 ·rw [decide_eq_false h]; simp; omega
theorem t_neg (va : Value) (n : Int) (w : World) (ha : Wid w va n) (hs : Sz n) :
    Calls Tryz.prog 21 #[va] w fun e w' => ∃ u, e = .returned (.tuple #[u, .int .i64 0]) ∧ Wid w' u (-n) ∧ Ext w w' := by
 obtain ⟨s, hsd, ao, cap1, rfl, hu⟩ : ∃ s, decide (n < 0) = s ∧ ∃ ao cap1, va = .agg #[.bool s, .slice ao (dig n.natAbs).length cap1] ∧ Lim w (.slice ao (dig n.natAbs).length cap1) (dig n.natAbs) := by
  obtain ⟨u, rfl, hu⟩ := ha
  obtain ⟨ao, b1, o1, cap1, rfl, -⟩ := hu.view
  exact ⟨_, rfl, ao, cap1, rfl, hu⟩
 have hz : n.natAbs = 0 → s = false := fun h => by rw [← hsd]; exact decide_eq_false (by omega)
 have hl : (dig n.natAbs).length ≤ 4096 := hs
 have hk := z_check_one ((w.alloc (.cells #[.bool s, .slice ao (dig n.natAbs).length cap1] 24)).alloc (.cells #[.bool false, .slice none 0 0] 24)) _ s n.natAbs ((hu.alloc _).alloc _) hl hz
 simp only [World.size_alloc] at hk
 have hcl : ∀ w1 v, v = .slice ao (dig n.natAbs).length cap1 → Ext w w1 → Calls Tryz.prog 55 #[v] w1 fun e w' => ∃ u, e = .returned u ∧ Lim w' u (dig n.natAbs) ∧ Ext w1 w' := fun w1 v hv k1 => by subst hv; exact w_Clone _ _ w1 (hu.ext k1) (by omega)
 have hmd : ∀ b u w1, b = .bool (!s) → Lim w1 u (dig n.natAbs) → Calls Tryz.prog 54 #[b, u] w1 fun e w' => ∃ u, e = .returned (.tuple #[u, .int .i64 0]) ∧ Wid w' u (sg (!s) n.natAbs) ∧ Ext w1 w' := fun b u w1 hb h => by subst hb; exact w_made (!s) u _ n.natAbs w1 h (dig_val _) hl
 have hop := sg_opp n
 rw [hsd] at hop
 rw [hop] at hmd
 clear hz hop hu hl
 obtain ⟨D, hD⟩ : ∃ D, dig n.natAbs = D := ⟨_, rfl⟩
 rw [hD] at hcl hmd hk
 obtain ⟨l1, hl1⟩ : ∃ l1, D.length = l1 := ⟨_, rfl⟩
 rw [hl1] at hcl hk
 rw [hD, hl1]
 clear ha hD hl1
 have I0 : KBd w [] w := ⟨Ext.refl w, trivial, by simp, by simp⟩
 have I := (I0.new [.bool s, .slice ao l1 cap1] 24 (by simp)).new [.bool false, .slice none 0 0] 24 (by simp)
 simp only [World.size_alloc, List.nil_append, List.cons_append] at I
 clear I0
 go_enter Tryz.func21, Tryz.ntmps21
 go_upto_region 4 with (go_at_call 52; (with_reducible refine hk.mono ?_); rintro e w1 ⟨rfl, hb⟩; replace I := (I.ext ((Ext.refl _).alloc _)).ext hb)
 go_upto_region 4 with fail
 refine wp_regB [[], [(9, BF.wat (-n))]] [] (fun z_ => ([VF.eq (.pointer (some ⟨w.heap.size, 0, none⟩)), VF.eq (.bool s), VF.eq (.bool (!s)), VF.eq (.pointer (some ⟨w.heap.size, 1, none⟩)), VF.eq (.slice ao l1 cap1), VF.lim D, (VF.wid (-n)).err 0, VF.wid (-n), VF.eq (.int .i64 0), VF.any, VF.eq (.int .i64 0)] : List VF).getD z_ VF.any) I (fun hc => ⟨?_, ?_, ?_, ?_, ?_, ?_, ?_, ?_, ?_, ?_, ?_, trivial⟩) (fun vs gl W hK0 hv hp => ?_)
 ·exact b_18
 ·exact ob_ld (x := .tmp 12) (g := w.heap.size) (f := 0) (u := .bool s) (some 0) hc fun vs gs w1 c => c.own 0 0
 ·exact ob_e1 (x := .tmp 13) (a := (.bool s)) (u := .bool (!s)) (some 1) hc
 ·exact ob_e1 (x := .tmp 1) (a := .pointer (some ⟨w.heap.size, 0, none⟩)) (u := .pointer (some ⟨w.heap.size, 1, none⟩)) none hc
 ·exact ob_ld (x := .tmp 15) (g := w.heap.size) (f := 1) (u := .slice ao l1 cap1) (some 3) hc fun vs gs w1 c => c.own 0 1
 ·exact ob_call (fun v => [v 4]) hc rfl fun vs gs w1 c => hcl _ _ (c.v 4) c.k.1
 ·exact ob_call (fun v => [v 2, v 5]) hc rfl fun vs gs w1 c => calls_err (hmd _ _ _ (c.v 2) (c.v 5))
 ·exact ob_ext0 6 hc rfl
 ·exact ob_ext1 6 hc rfl
 ·exact ob_putW (n := 1) rfl 7 hc rfl 0 (h4 := fun _ _ h => own_bx2 h)
 ·exact ob_cp 8 hc (.inr rfl)
 have v10 : vs 10 = .int .i64 0 := hv 10 (by decide)
 simp only [putS, Nat.reduceAdd, Act.put, List.setIfInBounds_toArray, List.set_cons_zero, List.set_cons_succ, v10]
 simp only [kb_] at hK0
 replace I := hK0
 clear hK0 hv hp gl v10
 clear hcl hmd hk
 obtain ⟨bs, us, x0, x1, x2, -⟩ := (show WAt W (w.heap.size + 1) (-n) from I.at 1)
 have hEx := I.e
 clear I hb
 go_wp2_with fail
 refine bodyPost_ret (v := .tuple #[.agg #[.bool bs, us], .int .i64 0]) ?_ rfl ⟨_, rfl, x2, hEx⟩
 simp [results, Tryz.results21, go_sem, ↓IntWalk.iteOmega, *]
end Go.Proofs.YtogblocakccbgaaGreat
