/- trig: arcs. -/
import Derived.Test.YtogblocakccbgaaGreatU25
set_option linter.unusedSimpArgs false
set_option linter.unusedVariables false
set_option maxRecDepth 100000
set_option maxHeartbeats 4000000
namespace Go.Proofs.YtogblocakccbgaaGreat
open Go.RowKit
theorem T_TAR_2 {p : Prop} (h : p := by
 exact ob_e1 (x := .tmp 2) (a := .pointer (some ⟨w.heap.size, 0, none⟩)) (u := .pointer (some ⟨w.heap.size, 1, none⟩)) none hc) : p := h
theorem T_TAR_1 {p : Prop} (h : p := by
 exact ob_e1 (x := .tmp 2) (a := .pointer (some ⟨w.heap.size, 0, none⟩)) (u := .pointer (some ⟨w.heap.size, 0, none⟩)) none hc) : p := h
structure Rad where
 q : Int
 a : Int
 b : Int
def radR (q f : Int) : Option Rad := if -100000000000 ≤ q ∧ q ≤ 100000000000 then some ⟨q, f, f + 1⟩ else none
def radU (n m : Int) : Option Rad := (radT 130 n m).bind fun x => if floorN x.2.v x.2.r 130 = true then (radT 260 n m).bind fun y => (floorF y.2.v y.2.r 260).bind fun f => radR y.1 f else none
def radA (n m : Int) : Option Rad := if n = 0 then some ⟨0, m * 1099511627776, m * 1099511627776⟩ else match radF n m with
 | some x => radR x.1 x.2
 | none => radU n m
theorem radR_q {q f : Int} {R : Rad} (h : radR q f = some R) : R = ⟨q, f, f + 1⟩ ∧ -100000000000 ≤ q ∧ q ≤ 100000000000 := by
 unfold radR at h
 split at h
 ·rename_i k; exact ⟨(Option.some.inj h).symm, k⟩
 ·cases h
theorem radU_q {n m : Int} {R : Rad} (h : radU n m = some R) : ∃ q T q2 T2 f, radT 130 n m = some (q, T) ∧ floorN T.v T.r 130 = true ∧ radT 260 n m = some (q2, T2) ∧ floorF T2.v T2.r 260 = some f ∧ radR q2 f = some R := by
 unfold radU at h
 rw [Option.bind_eq_some_iff] at h
 obtain ⟨⟨q, T⟩, h1, h⟩ := h
 split at h
 ·rename_i h2
  rw [Option.bind_eq_some_iff] at h
  obtain ⟨⟨q2, T2⟩, h3, h⟩ := h
  rw [Option.bind_eq_some_iff] at h
  obtain ⟨f, h4, h⟩ := h
  exact ⟨q, T, q2, T2, f, h1, h2, h3, h4, h⟩
 ·cases h
theorem radA_q {n m : Int} {R : Rad} (h : radA n m = some R) : -100000000000 ≤ R.q ∧ R.q ≤ 100000000000 := by
 unfold radA at h
 split at h
 ·obtain rfl := Option.some.inj h; exact ⟨by show (-100000000000 : Int) ≤ 0; decide, by show (0 : Int) ≤ 100000000000; decide⟩
 ·split at h
  ·obtain ⟨rfl, k⟩ := radR_q h; exact k
  ·obtain ⟨_, _, _, _, _, _, _, _, _, h⟩ := radU_q h
   obtain ⟨rfl, k⟩ := radR_q h; exact k
theorem t_radian0 (m : Int) (w : World) (hm : m = 0 ∨ m = 1) :
    Calls Tryz.prog 61 #[.int .i64 0, .int .i64 m] w fun e w' => e = .returned (.tuple #[.int .i64 0, .agg #[.int .i64 (m * 1099511627776), .int .i64 (m * 1099511627776)]]) ∧ Ext w w' := by
 have hmm : IntKind.i64.wrap (m * 1099511627776) = m * 1099511627776 := by rw [IntKind.wrap_i64]; omega
 go_enter Tryz.func61, Tryz.ntmps61
 go_upto_region 1 with fail
 go_step3
 go_wp2_with fail
 try rw [Exit.noGoto_ret]
 refine bodyPost_ret (v := .tuple #[.int .i64 0, .agg #[.int .i64 (m * 1099511627776), .int .i64 (m * 1099511627776)]]) ?_ rfl ⟨rfl, ?_⟩
 ·simp [results, Tryz.results61, go_sem, ↓IntWalk.iteOmega, *]
 ·exact b_0
theorem t_radA (n m : Int) (R : Rad) (w : World) (h0 : -9000000000000000000 ≤ n) (h1 : n ≤ 9000000000000000000) (hm : m = 0 ∨ m = 1) (hF : radA n m = some R) :
    Calls Tryz.prog 61 #[.int .i64 n, .int .i64 m] w fun e w' => e = .returned (.tuple #[.int .i64 R.q, .agg #[.int .i64 R.a, .int .i64 R.b]]) ∧ Ext w w' := by
 unfold radA at hF
 split at hF
 ·rename_i hn
  subst hn
  obtain rfl := Option.some.inj hF
  exact t_radian0 m w hm
 ·rename_i hn
  split at hF
  ·rename_i x hx
   obtain ⟨rfl, -⟩ := radR_q hF
   exact t_radian n m x.1 x.2 w h0 h1 hn hm hx
  ·obtain ⟨q, T, q2, T2, f, e1, e2, e3, e4, hF⟩ := radU_q hF
   obtain ⟨rfl, -⟩ := radR_q hF
   exact t_radian2 n m q q2 f T T2 w h0 h1 hn hm e1 e2 e3 e4
def arcS (j : Int) (x : Int × Int) : Int × Int := if j % 4 = 1 then (x.1, 1099511627776) else if j % 4 = 3 then (-1099511627776, x.2) else x
def arcL (m : Int) : Nat → Int → Int × Int → Int × Int
 | 0, _, x => x
 | k + 1, i, x => arcL m k (i + 1) (arcS (i + m) x)
def arcT (R0 R1 : Rad) (lo m : Int) : Int × Int :=
 arcL m (min R1.q ((if lo = 0 then R0.q - 1 else R0.q) + 4) - (if lo = 0 then R0.q - 1 else R0.q)).toNat ((if lo = 0 then R0.q - 1 else R0.q) + 1) (min R0.a R1.a, max R0.b R1.b)
def arcF (lo hi m : Int) : Option (Int × Int) := (radA lo m).bind fun R0 => (if hi = lo then some R0 else radA hi m).bind fun R1 => some (arcT R0 R1 lo m)
theorem t_arcsBad (lo hi m : Int) (w : World) (h : hi < lo) :
    Calls Tryz.prog 24 #[.agg #[.int .i64 lo, .int .i64 hi], .int .i64 m] w fun e w' => e = .returned (.tuple #[.agg #[.int .i64 0, .int .i64 0], .int .i64 8]) ∧ Ext w w' := by
 have hck := fun w => k_span lo hi w
 rw [show ckI lo hi = 8 by unfold ckI; rw [if_pos (Or.inl h)]] at hck
 go_enter Tryz.func24, Tryz.ntmps24
 go_wp2_with (go_at_call 60; (with_reducible refine (hck _).mono ?_); rintro e w1 ⟨rfl, hb⟩; obtain ⟨_, _, ⟨hc, hf⟩, hz⟩ := hb.c3; (try simp only [wsz] at hz hc hf))
 refine bodyPost_ret (v := .tuple #[.agg #[.int .i64 0, .int .i64 0], .int .i64 8]) ?_ rfl ⟨rfl, ?_⟩
 ·simp [results, Tryz.results24, go_sem, ↓IntWalk.iteOmega, *]
 ·exact b_0
theorem t_arcsFar (lo hi m : Int) (w : World) (h0 : lo ≤ hi) (h1 : -70368744177664 ≤ lo) (h2 : 70368744177664 < hi) (h3 : hi ≤ 2305843009213693952) :
    Calls Tryz.prog 24 #[.agg #[.int .i64 lo, .int .i64 hi], .int .i64 m] w fun e w' => e = .returned (.tuple #[.agg #[.int .i64 0, .int .i64 0], .int .i64 2]) ∧ Ext w w' := by
 have hck := fun w => k_span lo hi w
 rw [show ckI lo hi = 0 by unfold ckI; rw [if_neg (by omega)]] at hck
 have hn : ¬ lo < -70368744177664 := by omega
 go_enter Tryz.func24, Tryz.ntmps24
 go_wp2_with (go_at_call 60; (with_reducible refine (hck _).mono ?_); rintro e w1 ⟨rfl, hb⟩; obtain ⟨_, _, ⟨hc, hf⟩, hz⟩ := hb.c3; (try simp only [wsz] at hz hc hf))
 refine bodyPost_ret (v := .tuple #[.agg #[.int .i64 0, .int .i64 0], .int .i64 2]) ?_ rfl ⟨rfl, ?_⟩
 ·simp [results, Tryz.results24, go_sem, ↓IntWalk.iteOmega, *]
 ·exact b_0
theorem t_arcs (lo hi m : Int) (y : Int × Int) (w : World) (h0 : lo ≤ hi) (h1 : -70368744177664 ≤ lo) (h2 : hi ≤ 70368744177664) (hm : m = 0 ∨ m = 1) (hF : arcF lo hi m = some y) :
    Calls Tryz.prog 24 #[.agg #[.int .i64 lo, .int .i64 hi], .int .i64 m] w fun e w' => e = .returned (.tuple #[.agg #[.int .i64 y.1, .int .i64 y.2], .int .i64 0]) ∧ Ext w w' := by
 unfold arcF at hF
 rw [Option.bind_eq_some_iff] at hF
 obtain ⟨R0, hR0, hF⟩ := hF
 rw [Option.bind_eq_some_iff] at hF
 obtain ⟨R1, hR1, hF⟩ := hF
 replace hF := Option.some.inj hF
 have b0 := radA_q hR0
 have hr0 : ∀ (w1 : World) (u1 u2 : Value), u1 = .int .i64 lo → u2 = .int .i64 m → Calls Tryz.prog 61 #[u1, u2] w1 fun e w' => ∃ u, e = .returned u ∧ u = .tuple #[.int .i64 R0.q, .agg #[.int .i64 R0.a, .int .i64 R0.b]] ∧ Ext w1 w' := fun w1 u1 u2 k1 k2 => by
  subst k1 k2
  exact calls_eq (t_radA lo m R0 w1 (by omega) (by omega) hm hR0)
 obtain ⟨ne, hne0⟩ : ∃ ne, (!(hi == lo)) = ne := ⟨_, rfl⟩
 have b1 : -100000000000 ≤ R1.q ∧ R1.q ≤ 100000000000 := by
  split at hR1
  ·obtain rfl := Option.some.inj hR1; exact b0
  ·exact radA_q hR1
 have hr1 : ne = true → ∀ (w1 : World) (u1 u2 : Value), u1 = .int .i64 hi → u2 = .int .i64 m → Calls Tryz.prog 61 #[u1, u2] w1 fun e w' => ∃ u, e = .returned u ∧ u = .tuple #[.int .i64 R1.q, .agg #[.int .i64 R1.a, .int .i64 R1.b]] ∧ Ext w1 w' := fun hn w1 u1 u2 k1 k2 => by
  subst k1 k2
  rw [← hne0] at hn
  rw [if_neg (by simpa using hn)] at hR1
  exact calls_eq (t_radA hi m R1 w1 (by omega) (by omega) hm hR1)
 have hq1 : ne = false → R1 = R0 := fun hn => by
  rw [← hne0] at hn
  rw [if_pos (by simpa using hn)] at hR1
  exact (Option.some.inj hR1).symm
 have hne := hne0
 clear hR0 hR1 hne0
 have hck := fun w => k_span lo hi w
 rw [show ckI lo hi = 0 by unfold ckI; rw [if_neg (by omega)]] at hck
 have hn1 : ¬ lo < -70368744177664 := by omega
 have hn2 : ¬ 70368744177664 < hi := by omega
 have I0 : KBd w [] w := ⟨Ext.refl w, trivial, by simp, by simp⟩
 have I := (I0.new [.int .i64 lo, .int .i64 hi] 31 (by simp)).new [.int .i64 0, .int .i64 0] 31 (by simp)
 simp only [List.nil_append, World.size_alloc, List.cons_append] at I
 clear I0
 go_enter Tryz.func24, Tryz.ntmps24
 go_upto_region 6 with (go_at_call 60; (with_reducible refine (hck _).mono ?_); rintro e w1 ⟨rfl, hb⟩; replace I := I.ext hb; have d0 := I.own 0 0; have d1 := I.own 0 1)
 clear hck hn1 hn2 d0 d1 hb
 go_upto_region 6 with fail
 refine wp_regB [] [⟨7, some 9, BF.own [.int .i64 0, .int .i64 0], (BF.own [.int .i64 R0.a, .int .i64 R0.b])⟩] (fun z_ => ([VF.eq (.pointer (some ⟨w.heap.size, 0, none⟩)), VF.eq (.int .i64 (lo)), VF.eq (.int .i64 (m)), VF.eq (.tuple #[.int .i64 R0.q, .agg #[.int .i64 R0.a, .int .i64 R0.b]]), VF.eq (.tuple #[.int .i64 R0.q, .agg #[.int .i64 R0.a, .int .i64 R0.b]]), VF.eq (.int .i64 (R0.q)), VF.eq (.agg #[.int .i64 R0.a, .int .i64 R0.b]), VF.any, VF.eq (.int .i64 (R0.q))] : List VF).getD z_ VF.any) I (fun hc => ⟨?_, ?_, ?_, ?_, ?_, ?_, ?_, ?_, ?_, ?_, trivial⟩) (fun vs gl W hK0 hv hp => ?_)
 ·exact T_TAR_1
 ·exact ob_ld (x := .tmp 29) (g := w.heap.size) (f := 0) (u := .int .i64 (lo)) (some 0) hc fun vs gs w1 c => c.own 0 0
 ·exact ob_mv hc (.inl rfl)
 ·exact ob_call (fun v => [v 1, v 2]) hc rfl fun vs gs w1 c => hr0 _ _ _ (c.v 1) (c.v 2)
 ·exact ob_cp 3 hc (.inl rfl)
 ·exact ob_e1 (x := .tmp 28) (a := (.tuple #[.int .i64 R0.q, .agg #[.int .i64 R0.a, .int .i64 R0.b]])) (u := .int .i64 (R0.q)) (some 4) hc
 ·exact ob_e1 (x := .tmp 28) (a := (.tuple #[.int .i64 R0.q, .agg #[.int .i64 R0.a, .int .i64 R0.b]])) (u := .agg #[.int .i64 R0.a, .int .i64 R0.b]) (some 4) hc
 ·exact ob_new (n := 2) [.int .i64 0, .int .i64 0] 31 rfl hc rfl rfl rfl
 ·exact ob_cp 5 hc (.inr rfl)
 ·exact ob_put2 (n := 2) 0 rfl (some 6) hc rfl
 have p0 : vs 7 = .pointer (some ⟨gl 0, 0, none⟩) := hp 0 _ rfl
 have v8 : vs 8 = .int .i64 R0.q := hv 8 (by decide)
 simp only [putS, Nat.reduceAdd, Act.put, List.setIfInBounds_toArray, List.set_cons_zero, List.set_cons_succ, p0, v8]
 obtain ⟨g8, e90⟩ : ∃ n, gl 0 = n := ⟨_, rfl⟩
 simp only [kb_, e90] at hK0
 rw [e90]
 replace I := hK0
 clear hK0 hv hp gl p0 v8 e90
 go_upto_region 7 with fail
 refine wp_regB [] [⟨2, some 4, BF.own [.int .i64 0, .int .i64 0], (BF.own [.int .i64 R0.a, .int .i64 R0.b])⟩] (fun z_ => ([VF.eq (.int .i64 (R0.q)), VF.eq (.agg #[.int .i64 R0.a, .int .i64 R0.b]), VF.any, VF.eq (.int .i64 (R0.q))] : List VF).getD z_ VF.any) I (fun hc => ⟨?_, ?_, ?_, ?_, ?_, trivial⟩) (fun vs gl W hK0 hv hp => ?_)
 ·exact ob_mv hc (.inl rfl)
 ·exact ob_ld2 (x := .tmp 8) (g := g8) (f := 0) none hc rfl fun vs gs w1 c => ⟨c.own 2 0, c.own 2 1⟩
 ·exact ob_new (n := 3) [.int .i64 0, .int .i64 0] 31 rfl hc rfl rfl rfl
 ·exact ob_cp 0 hc (.inr rfl)
 ·exact ob_put2 (n := 3) 0 rfl (some 1) hc rfl
 have p0 : vs 2 = .pointer (some ⟨gl 0, 0, none⟩) := hp 0 _ rfl
 have v3 : vs 3 = .int .i64 R0.q := hv 3 (by decide)
 simp only [putS, Nat.reduceAdd, Act.put, List.setIfInBounds_toArray, List.set_cons_zero, List.set_cons_succ, p0, v3]
 obtain ⟨g10, e90⟩ : ∃ n, gl 0 = n := ⟨_, rfl⟩
 simp only [kb_, e90] at hK0
 rw [e90]
 replace I := hK0
 clear hK0 hv hp gl p0 v3 e90
 go_upto_region 8 with fail
 refine wp_regB [] [] (fun z_ => ([VF.eq (.pointer (some ⟨w.heap.size, 1, none⟩)), VF.eq (.int .i64 (hi)), VF.eq (.pointer (some ⟨w.heap.size, 0, none⟩)), VF.eq (.int .i64 (lo)), VF.eq (.bool ne)] : List VF).getD z_ VF.any) I (fun hc => ⟨?_, ?_, ?_, ?_, ?_, trivial⟩) (fun vs gl W hK0 hv hp => ?_)
 ·exact T_TAR_2
 ·exact ob_ld (x := .tmp 37) (g := w.heap.size) (f := 1) (u := .int .i64 (hi)) (some 0) hc fun vs gs w1 c => c.own 0 1
 ·exact T_TAR_1
 ·exact ob_ld (x := .tmp 39) (g := w.heap.size) (f := 0) (u := .int .i64 (lo)) (some 2) hc fun vs gs w1 c => c.own 0 0
 ·exact ob_e2 (x := .tmp 38) (y := .tmp 40) (a := (.int .i64 (hi))) (b := (.int .i64 (lo))) (u := .bool ne) (some 1) (some 3) hc (hs := by intro ρ w1 h k; go_simp; first | done | exact hne)
 have v4 : vs 4 = .bool ne := hv 4 (by decide)
 simp only [putS, Nat.reduceAdd, Act.put, List.setIfInBounds_toArray, List.set_cons_zero, List.set_cons_succ, v4]
 simp only [kb_] at hK0
 replace I := hK0
 clear hK0 hv hp gl v4
 go_upto_if 41 with fail
 go_cut [9] from 42 to 48 (fun s9 wx => s9 = .int .i64 R1.q ∧ KBd w [(w.heap.size, BF.own [.int .i64 lo, .int .i64 hi]), (w.heap.size + 1, BF.own [.int .i64 0, .int .i64 0]), (g8, BF.own [.int .i64 R0.a, .int .i64 R0.b]), (g10, BF.own [.int .i64 R1.a, .int .i64 R1.b])] wx)
 case first =>
  cases ne
  ·obtain rfl := hq1 rfl
   go_wp2_with fail
   go_meet
   case rel => exact ⟨rfl, I⟩
  ·replace hr1 := hr1 rfl
   go_upto_region 9 with fail
   refine wp_regB [[], [], [], [(8, BF.own [.int .i64 R1.a, .int .i64 R1.b])]] [] (fun z_ => ([VF.eq (.pointer (some ⟨w.heap.size, 1, none⟩)), VF.eq (.int .i64 (hi)), VF.eq (.int .i64 (m)), VF.eq (.tuple #[.int .i64 R1.q, .agg #[.int .i64 R1.a, .int .i64 R1.b]]), VF.eq (.tuple #[.int .i64 R1.q, .agg #[.int .i64 R1.a, .int .i64 R1.b]]), VF.eq (.int .i64 (R1.q)), VF.eq (.agg #[.int .i64 R1.a, .int .i64 R1.b]), VF.eq (.int .i64 (R1.q))] : List VF).getD z_ VF.any) I (fun hc => ⟨?_, ?_, ?_, ?_, ?_, ?_, ?_, ?_, ?_, trivial⟩) (fun vs gl W hK0 hv hp => ?_)
   ·exact T_TAR_2
   ·exact ob_ld (x := .tmp 43) (g := w.heap.size) (f := 1) (u := .int .i64 (hi)) (some 0) hc fun vs gs w1 c => c.own 0 1
   ·exact ob_mv hc (.inl rfl)
   ·exact ob_call (fun v => [v 1, v 2]) hc rfl fun vs gs w1 c => hr1 _ _ _ (c.v 1) (c.v 2)
   ·exact ob_cp 3 hc (.inl rfl)
   ·exact ob_e1 (x := .tmp 42) (a := (.tuple #[.int .i64 R1.q, .agg #[.int .i64 R1.a, .int .i64 R1.b]])) (u := .int .i64 (R1.q)) (some 4) hc
   ·exact ob_e1 (x := .tmp 42) (a := (.tuple #[.int .i64 R1.q, .agg #[.int .i64 R1.a, .int .i64 R1.b]])) (u := .agg #[.int .i64 R1.a, .int .i64 R1.b]) (some 4) hc
   ·exact ob_cp 5 hc (.inr rfl)
   ·exact ob_put2 (n := 3) 0 rfl (some 6) hc rfl (hf := by simp)
   have v7 : vs 7 = .int .i64 R1.q := hv 7 (by decide)
   simp only [putS, Nat.reduceAdd, Act.put, List.setIfInBounds_toArray, List.set_cons_zero, List.set_cons_succ, v7]
   simp only [kb_] at hK0
   replace I := hK0
   clear hK0 hv hp gl v7
   go_wp2_with fail
   go_meet
   case rel => exact ⟨rfl, I⟩
 case rest =>
  obtain ⟨rfl, hI⟩ := hcut
  clear I hr0 hr1 hq1 hne
  have I := hI
  clear hI
  obtain ⟨z, hz⟩ : ∃ z, (lo == 0) = z := ⟨_, rfl⟩
  obtain ⟨p0, hp0⟩ : ∃ p0, (if lo = 0 then R0.q - 1 else R0.q) = p0 := ⟨_, rfl⟩
  have hpz : p0 = (if z = true then R0.q - 1 else R0.q) := by rw [← hp0, ← hz]; simp
  have hpb : -200000000000 ≤ p0 ∧ p0 ≤ 200000000000 := by rw [← hp0]; split <;> omega
  go_upto_region 10 with fail
  refine wp_regB [] [] (fun z_ => ([VF.eq (.pointer (some ⟨w.heap.size, 0, none⟩)), VF.eq (.int .i64 (lo)), VF.eq (.bool z)] : List VF).getD z_ VF.any) I (fun hc => ⟨?_, ?_, ?_, trivial⟩) (fun vs gl W hK0 hv hp => ?_)
  ·exact T_TAR_1
  ·exact ob_ld (x := .tmp 49) (g := w.heap.size) (f := 0) (u := .int .i64 (lo)) (some 0) hc fun vs gs w1 c => c.own 0 0
  ·exact ob_e2 (x := .tmp 50) (y := .const (.int .i64 0)) (a := (.int .i64 (lo))) (b := .int .i64 0) (u := .bool z) (some 1) none hc (hs := by intro ρ w1 h k; go_simp; first | done | exact hz)
  have v2 : vs 2 = .bool z := hv 2 (by decide)
  simp only [putS, Nat.reduceAdd, Act.put, List.setIfInBounds_toArray, List.set_cons_zero, List.set_cons_succ, v2]
  simp only [kb_] at hK0
  replace I := hK0
  clear hK0 hv hp gl v2
  go_upto_if 51 with fail
  go_cut [7] from 52 to 53 (fun s7 wx => s7 = .int .i64 p0 ∧ wx = W)
  case first =>
   cases z
   ·go_wp2_with fail
    go_meet
    case rel => exact ⟨by rw [hpz]; rfl, rfl⟩
   ·go_wp2_with fail
    go_meet
    case rel => exact ⟨by rw [hpz]; exact congrArg (Value.int IntKind.i64) (by simp), rfl⟩
  case rest =>
   obtain ⟨rfl, rfl⟩ := hcut
   clear hz hpz
   unfold arcT at hF
   rw [hp0] at hF
   clear hp0
   obtain ⟨mn, hmn⟩ : ∃ mn, min R0.a R1.a = mn := ⟨_, rfl⟩
   obtain ⟨mx, hmx⟩ : ∃ mx, max R0.b R1.b = mx := ⟨_, rfl⟩
   rw [hmn, hmx] at hF
   go_upto_region 12 with fail
   refine wp_regB [] [⟨11, some 12, BF.own [.int .i64 0, .int .i64 0], (BF.own [.int .i64 mn, .int .i64 mx])⟩] (fun z_ => ([VF.eq (.pointer (some ⟨g8, 0, none⟩)), VF.eq (.int .i64 (R0.a)), VF.eq (.pointer (some ⟨g10, 0, none⟩)), VF.eq (.int .i64 (R1.a)), VF.eq (.int .i64 (mn)), VF.eq (.pointer (some ⟨g8, 1, none⟩)), VF.eq (.int .i64 (R0.b)), VF.eq (.pointer (some ⟨g10, 1, none⟩)), VF.eq (.int .i64 (R1.b)), VF.eq (.int .i64 (mx)), VF.eq (.agg #[.int .i64 mn, .int .i64 mx])] : List VF).getD z_ VF.any) I (fun hc => ⟨?_, ?_, ?_, ?_, ?_, ?_, ?_, ?_, ?_, ?_, ?_, ?_, ?_, trivial⟩) (fun vs gl W hK0 hv hp => ?_)
   ·exact ob_e1 (x := .tmp 8) (a := .pointer (some ⟨g8, 0, none⟩)) (u := .pointer (some ⟨g8, 0, none⟩)) none hc
   ·exact ob_ld (x := .tmp 54) (g := g8) (f := 0) (u := .int .i64 (R0.a)) (some 0) hc fun vs gs w1 c => c.own 2 0
   ·exact ob_e1 (x := .tmp 10) (a := .pointer (some ⟨g10, 0, none⟩)) (u := .pointer (some ⟨g10, 0, none⟩)) none hc
   ·exact ob_ld (x := .tmp 56) (g := g10) (f := 0) (u := .int .i64 (R1.a)) (some 2) hc fun vs gs w1 c => c.own 3 0
   ·exact ob_e2 (x := .tmp 55) (y := .tmp 57) (a := (.int .i64 (R0.a))) (b := (.int .i64 (R1.a))) (u := .int .i64 (mn)) (some 1) (some 3) hc
   ·exact ob_e1 (x := .tmp 8) (a := .pointer (some ⟨g8, 0, none⟩)) (u := .pointer (some ⟨g8, 1, none⟩)) none hc
   ·exact ob_ld (x := .tmp 59) (g := g8) (f := 1) (u := .int .i64 (R0.b)) (some 5) hc fun vs gs w1 c => c.own 2 1
   ·exact ob_e1 (x := .tmp 10) (a := .pointer (some ⟨g10, 0, none⟩)) (u := .pointer (some ⟨g10, 1, none⟩)) none hc
   ·exact ob_ld (x := .tmp 61) (g := g10) (f := 1) (u := .int .i64 (R1.b)) (some 7) hc fun vs gs w1 c => c.own 3 1
   ·exact ob_e2 (x := .tmp 60) (y := .tmp 62) (a := (.int .i64 (R0.b))) (b := (.int .i64 (R1.b))) (u := .int .i64 (mx)) (some 6) (some 8) hc
   ·exact ob_e2 (x := .tmp 58) (y := .tmp 63) (a := (.int .i64 (mn))) (b := (.int .i64 (mx))) (u := .agg #[.int .i64 mn, .int .i64 mx]) (some 4) (some 9) hc
   ·exact ob_new (n := 4) [.int .i64 0, .int .i64 0] 31 rfl hc rfl rfl rfl
   ·exact ob_put2 (n := 4) 0 rfl (some 10) hc rfl
   have p0 : vs 11 = .pointer (some ⟨gl 0, 0, none⟩) := hp 0 _ rfl
   simp only [putS, Nat.reduceAdd, Act.put, List.setIfInBounds_toArray, List.set_cons_zero, List.set_cons_succ, p0]
   obtain ⟨g11, e90⟩ : ∃ n, gl 0 = n := ⟨_, rfl⟩
   simp only [kb_, e90] at hK0
   rw [e90]
   replace I := hK0
   clear hK0 hv hp gl p0 e90
   clear hmn hmx
   obtain ⟨top, htop⟩ : ∃ top, min R1.q (p0 + 4) = top := ⟨_, rfl⟩
   have ht1 : top ≤ p0 + 4 := by rw [← htop]; exact Int.min_le_right _ _
   rw [htop] at hF
   go_wp2_with fail
   go_loopw [12] (fun s12 wr => ∃ (i : Int) (x : Int × Int) (k : Nat), s12 = .int .i64 i ∧ p0 + 1 ≤ i ∧ i ≤ p0 + 5 ∧ (top + 1 - i).toNat = k ∧ Hid (arcL m k i x = y) ∧ Hid (KBd w [(w.heap.size, BF.own [.int .i64 lo, .int .i64 hi]), (w.heap.size + 1, BF.own [.int .i64 0, .int .i64 0]), (g8, BF.own [.int .i64 R0.a, .int .i64 R0.b]), (g10, BF.own [.int .i64 R1.a, .int .i64 R1.b]), (g11, BF.own [.int .i64 x.1, .int .i64 x.2])] wr)) (fun s12 _ => (p0 + 5 - intOf s12).toNat)
   case atStart => exact ⟨p0 + 1, (mn, mx), _, (by go_num), by omega, by omega, rfl, Lib.hid (by rw [show (top + 1 - (p0 + 1)).toNat = (top - p0).toNat by omega]; exact hF), Lib.hid I⟩
   case round =>
    obtain ⟨i, x, k, rfl, hi0, hi1, hk, HF, HI⟩ := hrel
    clear I hF
    have I := HI.out
    clear HI
    obtain ⟨le, hle⟩ : ∃ le, decide (i ≤ top) = le := ⟨_, rfl⟩
    go_upto_region 14 with fail
    refine wp_regB [] [] (fun z_ => ([VF.eq (.int .i64 (i)), VF.eq (.int .i64 (R1.q)), VF.eq (.int .i64 (p0)), VF.eq (.int .i64 (p0 + 4)), VF.eq (.int .i64 (top)), VF.eq (.bool le)] : List VF).getD z_ VF.any) I (fun hc => ⟨?_, ?_, ?_, ?_, ?_, ?_, trivial⟩) (fun vs gl W hK0 hv hp => ?_)
    ·exact ob_mv hc (.inl rfl)
    ·exact ob_mv hc (.inl rfl)
    ·exact ob_mv hc (.inl rfl)
    ·exact ob_e2 (x := .tmp 69) (y := .const (.int .i64 4)) (a := (.int .i64 (p0))) (b := .int .i64 4) (u := .int .i64 (p0 + 4)) (some 2) none hc (hs := by intro ρ w1 h k; go_simp; first | done | (simp only [IntKind.wrap_i64]; omega))
    ·exact ob_e2 (x := .tmp 68) (y := .tmp 70) (a := (.int .i64 (R1.q))) (b := (.int .i64 (p0 + 4))) (u := .int .i64 (top)) (some 1) (some 3) hc
    ·exact ob_e2 (x := .tmp 67) (y := .tmp 71) (a := (.int .i64 (i))) (b := (.int .i64 (top))) (u := .bool le) (some 0) (some 4) hc (hs := by intro ρ w1 h k; go_simp; first | done | exact hle)
    have v5 : vs 5 = .bool le := hv 5 (by decide)
    simp only [putS, Nat.reduceAdd, Act.put, List.setIfInBounds_toArray, List.set_cons_zero, List.set_cons_succ, v5]
    simp only [kb_] at hK0
    replace I := hK0
    clear hK0 hv hp gl v5
    clear htop
    cases le
    ·have hx : x = y := by
      have : k = 0 := by have := of_decide_eq_false hle; omega
      subst this
      exact HF.out
     clear hle HF
     go_upto_region 21 with fail
     refine wp_regB [[], [(1, BF.own [.int .i64 x.1, .int .i64 x.2])]] [] (fun z_ => ([VF.eq (.agg #[.int .i64 x.1, .int .i64 x.2]), VF.any, VF.eq (.int .i64 (0))] : List VF).getD z_ VF.any) I (fun hc => ⟨?_, ?_, ?_, trivial⟩) (fun vs gl W hK0 hv hp => ?_)
     ·exact ob_ld2 (x := .tmp 11) (g := g11) (f := 0) none hc rfl fun vs gs w1 c => ⟨c.own 4 0, c.own 4 1⟩
     ·exact ob_put2 (n := 1) 0 rfl (some 0) hc rfl
     ·exact ob_mv hc (.inr rfl)
     have v2 : vs 2 = .int .i64 0 := hv 2 (by decide)
     simp only [putS, Nat.reduceAdd, Act.put, List.setIfInBounds_toArray, List.set_cons_zero, List.set_cons_succ, v2]
     simp only [kb_] at hK0
     replace I := hK0
     clear hK0 hv hp gl v2
     have d0 := I.own 1 0
     have d1 := I.own 1 1
     have hE := I.e
     clear I
     go_wp2_with fail
     refine bodyPost_ret (v := .tuple #[.agg #[.int .i64 x.1, .int .i64 x.2], .int .i64 0]) ?_ rfl ⟨by rw [hx], ?_⟩
     ·simp [results, Tryz.results24, go_sem, ↓IntWalk.iteOmega, d0, d1]
     ·exact b_0
    ·have hit := of_decide_eq_true hle
     clear hle
     obtain ⟨k, rfl⟩ : ∃ k', k = k' + 1 := ⟨k - 1, by omega⟩
     have hL : Hid (arcL m k (i + 1) (arcS (i + m) x) = y) := Lib.hid HF.out
     clear HF
     obtain ⟨r1, hr1⟩ : ∃ r1, (i + m).tmod 4 = r1 := ⟨_, rfl⟩
     obtain ⟨k4, hk4⟩ : ∃ k4, (r1 + 4).tmod 4 = k4 := ⟨_, rfl⟩
     obtain ⟨t4, hr4⟩ := tmod4 (i + m)
     rw [hr1] at t4 hr4
     rw [hk4] at t4
     go_upto_region 16 with fail
     refine wp_regB [] [] (fun z_ => ([VF.eq (.int .i64 (i)), VF.eq (.int .i64 (m)), VF.eq (.int .i64 (i + m)), VF.eq (.int .i64 (r1)), VF.eq (.int .i64 (r1 + 4)), VF.eq (.int .i64 (k4))] : List VF).getD z_ VF.any) I (fun hc => ⟨?_, ?_, ?_, ?_, ?_, ?_, trivial⟩) (fun vs gl W hK0 hv hp => ?_)
     ·exact ob_mv hc (.inl rfl)
     ·exact ob_mv hc (.inl rfl)
     ·exact ob_e2 (x := .tmp 75) (y := .tmp 76) (a := (.int .i64 (i))) (b := (.int .i64 (m))) (u := .int .i64 (i + m)) (some 0) (some 1) hc (hs := by intro ρ w1 h k; go_simp; first | done | (simp only [IntKind.wrap_i64]; omega))
     ·exact ob_e2 (x := .tmp 77) (y := .const (.int .i64 4)) (a := (.int .i64 (i + m))) (b := .int .i64 4) (u := .int .i64 (r1)) (some 2) none hc (hs := by intro ρ w1 h k; go_simp; first | done | exact hr1)
     ·exact ob_e2 (x := .tmp 78) (y := .const (.int .i64 4)) (a := (.int .i64 (r1))) (b := .int .i64 4) (u := .int .i64 (r1 + 4)) (some 3) none hc (hs := by intro ρ w1 h k; go_simp; first | done | (simp only [IntKind.wrap_i64]; omega))
     ·exact ob_e2 (x := .tmp 79) (y := .const (.int .i64 4)) (a := (.int .i64 (r1 + 4))) (b := .int .i64 4) (u := .int .i64 (k4)) (some 4) none hc (hs := by intro ρ w1 h k; go_simp; first | done | exact hk4)
     have v5 : vs 5 = .int .i64 k4 := hv 5 (by decide)
     simp only [putS, Nat.reduceAdd, Act.put, List.setIfInBounds_toArray, List.set_cons_zero, List.set_cons_succ, v5]
     simp only [kb_] at hK0
     replace I := hK0
     clear hK0 hv hp gl v5
     clear hr1 hk4 hr4
     by_cases j1 : k4 = 1
     ·subst j1
      rw [show arcS (i + m) x = (x.1, 1099511627776) by unfold arcS; rw [if_pos t4.symm]] at hL
      clear t4
      go_upto_region 18 with fail
      refine wp_regB [[], [], [], [], [(1, BF.own [.int .i64 x.1, .int .i64 1099511627776])]] [] (fun z_ => ([VF.eq (.pointer (some ⟨g11, 1, none⟩))] : List VF).getD z_ VF.any) I (fun hc => ⟨?_, ?_, trivial⟩) (fun vs gl W hK0 hv hp => ?_)
      ·exact ob_e1 (x := .tmp 11) (a := .pointer (some ⟨g11, 0, none⟩)) (u := .pointer (some ⟨g11, 1, none⟩)) none hc
      ·exact ob_put1 (n := 4) 1 rfl none hc rfl 0 (hy := ⟨some 0, fun _ => by kernel_rfl, rfl, by kernel_rfl⟩) (hf := by simp)
      simp only [putS, Nat.reduceAdd, Act.put, List.setIfInBounds_toArray, List.set_cons_zero, List.set_cons_succ]
      simp only [kb_] at hK0
      replace I := hK0
      clear hK0 hv hp gl
      go_wp2_with fail
      go_roundw
      case rel => exact ⟨i + 1, (x.1, 1099511627776), k, (by go_num), by omega, by omega, by omega, hL, Lib.hid I⟩
      case measure => simp [intOf]; omega
     ·by_cases j3 : k4 = 3
      ·subst j3
       rw [show arcS (i + m) x = (-1099511627776, x.2) by unfold arcS; rw [if_neg (by omega), if_pos t4.symm]] at hL
       clear t4
       go_upto_region 20 with fail
       refine wp_regB [[], [], [], [], [(1, BF.own [.int .i64 (-1099511627776), .int .i64 x.2])]] [] (fun z_ => ([VF.eq (.pointer (some ⟨g11, 0, none⟩))] : List VF).getD z_ VF.any) I (fun hc => ⟨?_, ?_, trivial⟩) (fun vs gl W hK0 hv hp => ?_)
       ·exact ob_e1 (x := .tmp 11) (a := .pointer (some ⟨g11, 0, none⟩)) (u := .pointer (some ⟨g11, 0, none⟩)) none hc
       ·exact ob_put1 (n := 4) 0 rfl none hc rfl 0 (hy := ⟨some 0, fun _ => by kernel_rfl, rfl, by kernel_rfl⟩) (hf := by simp)
       simp only [putS, Nat.reduceAdd, Act.put, List.setIfInBounds_toArray, List.set_cons_zero, List.set_cons_succ]
       simp only [kb_] at hK0
       replace I := hK0
       clear hK0 hv hp gl
       go_wp2_with fail
       go_roundw
       case rel => exact ⟨i + 1, (-1099511627776, x.2), k, (by go_num), by omega, by omega, by omega, hL, Lib.hid I⟩
       case measure => simp [intOf]; omega
      ·rw [show arcS (i + m) x = x by unfold arcS; rw [if_neg (by omega), if_neg (by omega)]] at hL
       clear t4
       go_wp2_with fail
       go_roundw
       case rel => exact ⟨i + 1, x, k, (by go_num), by omega, by omega, by omega, hL, Lib.hid I⟩
       case measure => simp [intOf]; omega
theorem t_SinIv {lo hi a b c : Int} (w : World) (h : ∀ w, Calls Tryz.prog 24 #[.agg #[.int .i64 lo, .int .i64 hi], .int .i64 0] w fun e w' => e = .returned (.tuple #[.agg #[.int .i64 a, .int .i64 b], .int .i64 c]) ∧ Ext w w') :
    Calls Tryz.prog 7 #[.agg #[.int .i64 lo, .int .i64 hi]] w fun e w' => e = .returned (.tuple #[.agg #[.int .i64 a, .int .i64 b], .int .i64 c]) ∧ Ext w w' := by
 go_enter Tryz.func7, Tryz.ntmps7
 go_wp2_with (go_at_call 24; (with_reducible refine (h _).mono ?_); rintro e w1 ⟨rfl, hb⟩; obtain ⟨_, _, ⟨hc, hf⟩, hz⟩ := hb.c3; (try simp only [wsz] at hz hc hf))
 refine bodyPost_ret (v := .tuple #[.agg #[.int .i64 a, .int .i64 b], .int .i64 c]) ?_ rfl ⟨rfl, ?_⟩
 ·simp [results, Tryz.results7, go_sem, ↓IntWalk.iteOmega, *]
 ·exact b_0
theorem t_CosIv {lo hi a b c : Int} (w : World) (h : ∀ w, Calls Tryz.prog 24 #[.agg #[.int .i64 lo, .int .i64 hi], .int .i64 1] w fun e w' => e = .returned (.tuple #[.agg #[.int .i64 a, .int .i64 b], .int .i64 c]) ∧ Ext w w') :
    Calls Tryz.prog 9 #[.agg #[.int .i64 lo, .int .i64 hi]] w fun e w' => e = .returned (.tuple #[.agg #[.int .i64 a, .int .i64 b], .int .i64 c]) ∧ Ext w w' := by
 go_enter Tryz.func9, Tryz.ntmps9
 go_wp2_with (go_at_call 24; (with_reducible refine (h _).mono ?_); rintro e w1 ⟨rfl, hb⟩; obtain ⟨_, _, ⟨hc, hf⟩, hz⟩ := hb.c3; (try simp only [wsz] at hz hc hf))
 refine bodyPost_ret (v := .tuple #[.agg #[.int .i64 a, .int .i64 b], .int .i64 c]) ?_ rfl ⟨rfl, ?_⟩
 ·simp [results, Tryz.results9, go_sem, ↓IntWalk.iteOmega, *]
 ·exact b_0
end Go.Proofs.YtogblocakccbgaaGreat
