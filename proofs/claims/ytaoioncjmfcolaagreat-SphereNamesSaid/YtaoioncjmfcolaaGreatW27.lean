/- trig: radian, two rounds. -/
import Derived.Test.YtaoioncjmfcolaaGreatW26
set_option linter.unusedSimpArgs false
set_option linter.unusedVariables false
set_option maxRecDepth 100000
set_option maxHeartbeats 4000000
namespace Go.Proofs.YtaoioncjmfcolaaGreat
open Go.RowKit
def radQ2 (p : Nat) (n : Int) (P : Bl) : Int := n * 2 ^ (p - 40) * 2 ^ 1 / P.v
def radB2 (p : Nat) (n : Int) (P : Bl) : Bl := ⟨n * 2 ^ (p - 40) - radQ2 p n P * P.v / 2, 100 * P.r + 1⟩
def radT (p : Nat) (n m : Int) : Option (Int × Bl) := (piF p).bind fun P =>
 if 0 < P.v ∧ -100000000000 ≤ radQ2 p n P ∧ radQ2 p n P ≤ 100000000000 ∧ okN (n * 2 ^ (p - 40)) = true ∧ okN (n * 2 ^ (p - 40) * 2 ^ 1) = true ∧ okN (radQ2 p n P * P.v) = true ∧ okN (radQ2 p n P * P.v / 2) = true ∧ okN (radB2 p n P).v = true ∧ okN (P.v / 2) = true ∧ okN (P.v / 2 - (radB2 p n P).v) = true ∧ (radB2 p n P).r < (radB2 p n P).v ∧ 2 * (radB2 p n P).r < P.v / 2 - (radB2 p n P).v then
  (turnF ((radQ2 p n P + m) % 4) (radB2 p n P) P p).bind fun T => if 0 ≤ T.r ∧ T.r ≤ 9000000000000000000 then some (radQ2 p n P, T) else none
 else none
structure RadC (p : Nat) (n m q : Int) (P b T : Bl) (x h ph o k r1 : Int) : Prop where
 hpi : ∀ w1 u, u = .int .i64 (p : Int) → Calls Tryz.prog 124 #[u] w1 fun e w' => ∃ u, e = .returned u ∧ Ball w' u P.v P.r ∧ Ext w1 w'
 hnn : ∀ (w1 : World) (u1 : Value), u1 = .int .i64 n → Calls Tryz.prog 134 #[u1] w1 fun e w' => ∃ u, e = .returned u ∧ Wid w' u n ∧ Ext w1 w'
 hbr : ∀ (w1 : World) (u1 : Value), u1 = .int .i64 b.r → Calls Tryz.prog 134 #[u1] w1 fun e w' => ∃ u, e = .returned u ∧ Wid w' u b.r ∧ Ext w1 w'
 hb2 : ∀ (w1 : World) (u1 : Value), u1 = .int .i64 (2 * b.r) → Calls Tryz.prog 134 #[u1] w1 fun e w' => ∃ u, e = .returned u ∧ Wid w' u (2 * b.r) ∧ Ext w1 w'
 hxs : ∀ (w1 : World) (u1 u2 : Value), Wid w1 u1 n → u2 = .int .i64 ((p : Int) - 40) → Calls Tryz.prog 169 #[u1, u2] w1 fun e w' => ∃ u, e = .returned u ∧ Wid w' u x ∧ Ext w1 w'
 hx2 : ∀ (w1 : World) (u1 : Value), Wid w1 u1 x → Calls Tryz.prog 169 #[u1, .int .i64 1] w1 fun e w' => ∃ u, e = .returned u ∧ Wid w' u (x * 2 ^ 1) ∧ Ext w1 w'
 hqd : ∀ (w1 : World) (u1 u2 : Value), Wid w1 u1 (x * 2 ^ 1) → Wid w1 u2 P.v → Calls Tryz.prog 145 #[u1, u2] w1 fun e w' => ∃ u, e = .returned u ∧ Wid w' u q ∧ Ext w1 w'
 hqi : ∀ (w1 : World) (u1 : Value), Wid w1 u1 q → Calls Tryz.prog 99 #[u1] w1 fun e w' => ∃ u, e = .returned u ∧ u = .tuple #[.int .i64 q, .int .i64 0] ∧ Ext w1 w'
 hqp : ∀ (w1 : World) (u1 u2 : Value), Wid w1 u1 q → Wid w1 u2 P.v → Calls Tryz.prog 132 #[u1, u2] w1 fun e w' => ∃ u, e = .returned u ∧ Wid w' u (q * P.v) ∧ Ext w1 w'
 hhf : ∀ (w1 : World) (u1 : Value), Wid w1 u1 (q * P.v) → Calls Tryz.prog 169 #[u1, .int .i64 (-1)] w1 fun e w' => ∃ u, e = .returned u ∧ Wid w' u h ∧ Ext w1 w'
 hbs : ∀ (w1 : World) (u1 u2 : Value), Wid w1 u1 x → Wid w1 u2 h → Calls Tryz.prog 131 #[u1, u2] w1 fun e w' => ∃ u, e = .returned u ∧ Wid w' u b.v ∧ Ext w1 w'
 hph : ∀ (w1 : World) (u1 : Value), Wid w1 u1 P.v → Calls Tryz.prog 169 #[u1, .int .i64 (-1)] w1 fun e w' => ∃ u, e = .returned u ∧ Wid w' u ph ∧ Ext w1 w'
 hos : ∀ (w1 : World) (u1 u2 : Value), Wid w1 u1 ph → Wid w1 u2 b.v → Calls Tryz.prog 131 #[u1, u2] w1 fun e w' => ∃ u, e = .returned u ∧ Wid w' u o ∧ Ext w1 w'
 hc1 : ∀ (w1 : World) (u1 u2 : Value), Wid w1 u1 b.v → Wid w1 u2 b.r → Calls Tryz.prog 52 #[u1, u2] w1 fun e w' => ∃ u, e = .returned u ∧ u = .tuple #[.int .i64 1, .int .i64 0] ∧ Ext w1 w'
 hc2 : ∀ (w1 : World) (u1 u2 : Value), Wid w1 u1 o → Wid w1 u2 (2 * b.r) → Calls Tryz.prog 52 #[u1, u2] w1 fun e w' => ∃ u, e = .returned u ∧ u = .tuple #[.int .i64 1, .int .i64 0] ∧ Ext w1 w'
 htu : ∀ (w1 : World) (u0 u1 u2 : Value), u0 = .int .i64 k → Ball w1 u1 b.v b.r → u2 = .int .i64 (p : Int) → Calls Tryz.prog 146 #[u0, u1, u2] w1 fun e w' => ∃ u, e = .returned u ∧ Ball w' u T.v T.r ∧ Ext w1 w'
 hr1 : (q + m).tmod 4 = r1
 hk : (r1 + 4).tmod 4 = k
 hr4 : -4 < r1 ∧ r1 < 4
 kr : 0 ≤ P.r ∧ P.r ≤ 30000000 ∧ 100 * P.r + 1 = b.r
 qb : -100000000000 ≤ q ∧ q ≤ 100000000000
structure Rad where
 q : Int
 a : Int
 b : Int
def radR (q f : Int) : Option Rad := if -100000000000 ≤ q ∧ q ≤ 100000000000 then some ⟨q, f, f + 1⟩ else none
def radU (n m : Int) : Option Rad := (radT 130 n m).bind fun x => if floorN x.2.v x.2.r 130 = true then (radT 260 n m).bind fun y => (floorF y.2.v y.2.r 260).bind fun f => radR y.1 f else none
def radA (n m : Int) : Option Rad := if n = 0 then some ⟨0, m * 1099511627776, m * 1099511627776⟩ else match radF n m with
 | some x => radR x.1 x.2
 | none => radU n m
def arcS (j : Int) (x : Int × Int) : Int × Int := if j % 4 = 1 then (x.1, 1099511627776) else if j % 4 = 3 then (-1099511627776, x.2) else x
def arcL (m : Int) : Nat → Int → Int × Int → Int × Int
 | 0, _, x => x
 | k + 1, i, x => arcL m k (i + 1) (arcS (i + m) x)
def arcT (R0 R1 : Rad) (lo m : Int) : Int × Int :=
 arcL m (min R1.q ((if lo = 0 then R0.q - 1 else R0.q) + 4) - (if lo = 0 then R0.q - 1 else R0.q)).toNat ((if lo = 0 then R0.q - 1 else R0.q) + 1) (min R0.a R1.a, max R0.b R1.b)
def arcF (lo hi m : Int) : Option (Int × Int) := (radA lo m).bind fun R0 => (if hi = lo then some R0 else radA hi m).bind fun R1 => some (arcT R0 R1 lo m)
theorem T_TBY_1 {p : Prop} (h : p := by
 go_wp2_with fail
 try rw [Exit.noGoto_ret]
 refine bodyPost_ret (v := .bool true) ?_ rfl ⟨rfl, hE⟩
 simp [results, Tryz.results75, go_sem, ↓IntWalk.iteOmega]) : p := h
def beyF (x y a : Int) : Option Bool :=
 if okN x = true ∧ okN y = true ∧ 0 ≤ a ∧ a ≤ 324000000000 then
  if a = 0 then some true else if a = 162000000000 then some (decide (0 ≤ cmpI y x)) else
  (sineF a 110).bind fun S => (sineF (a + 324000000000) 110).bind fun C =>
  if 0 ≤ S.r ∧ S.r ≤ 9000000000000000000 ∧ 0 ≤ C.r ∧ C.r ≤ 9000000000000000000 ∧ okN S.v = true ∧ okN C.v = true ∧ okN (y * C.v) = true ∧ okN (x * S.v) = true ∧ okN (y * C.v - x * S.v) = true ∧ okN (y * C.r) = true ∧ okN (x * S.r) = true ∧ okN (y * C.r + x * S.r) = true ∧ okN (y * C.v - x * S.v - (y * C.r + x * S.r)) = true ∧ okN (y * C.v - x * S.v + (y * C.r + x * S.r)) = true then
   if 0 < cmpI (y * C.v - x * S.v - (y * C.r + x * S.r)) 0 then some true else if cmpI (y * C.v - x * S.v + (y * C.r + x * S.r)) 0 < 0 then some false else none
  else none
 else none
theorem t_beyond (vx vy : Value) (x y a : Int) (t : Bool) (w : World) (hx : Wid w vx x) (hy : Wid w vy y) (hF : beyF x y a = some t) :
    Calls Tryz.prog 75 #[vx, vy, .int .i64 a] w fun e w' => e = .returned (.bool t) ∧ Ext w w' := by
 unfold beyF at hF
 split at hF
 case isFalse => cases hF
 rename_i k0
 obtain ⟨kx, ky, a0, a1⟩ := k0
 obtain ⟨sx, ax, lx, cx, rfl⟩ : ∃ sa ao la cap1, vx = .agg #[.bool sa, .slice ao la cap1] := by
  obtain ⟨u, rfl, hu⟩ := hx; obtain ⟨ao, b1, o1, cap1, rfl, -⟩ := hu.view; exact ⟨_, _, _, _, rfl⟩
 obtain ⟨sy, ay, ly, cy, rfl⟩ : ∃ sa ao la cap1, vy = .agg #[.bool sa, .slice ao la cap1] := by
  obtain ⟨u, rfl, hu⟩ := hy; obtain ⟨ao, b1, o1, cap1, rfl, -⟩ := hu.view; exact ⟨_, _, _, _, rfl⟩
 have I0 : KBd w [] w := ⟨Ext.refl w, trivial, by simp, by simp⟩
 have I := (I0.push ((Ext.refl w).alloc (.cells #[.bool sx, .slice ax lx cx] 24)) (BF.wat x) (WAt.lit hx)).push ((Ext.refl _).alloc (.cells #[.bool sy, .slice ay ly cy] 24)) (BF.wat y) (WAt.lit (hy.ext ((Ext.refl w).alloc _)))
 simp only [List.nil_append, World.size_alloc, List.cons_append] at I
 clear I0
 split at hF
 ·rename_i ha
  subst ha
  obtain rfl := Option.some.inj hF
  have hE := I.e
  clear I hF
  go_enter Tryz.func75, Tryz.ntmps75
  go_upto_region 1 with fail
  try go_step3
  exact T_TBY_1
 rename_i hn0
 split at hF
 ·rename_i ha
  subst ha
  obtain ⟨cv, hcv⟩ : ∃ cv, cmpI y x = cv := ⟨_, rfl⟩
  rw [hcv] at hF
  replace hF := Option.some.inj hF
  have hcp : ∀ (w1 : World) (u1 u2 : Value), Wid w1 u1 y → Wid w1 u2 x → Calls Tryz.prog 52 #[u1, u2] w1 fun e w' => ∃ u, e = .returned u ∧ u = .tuple #[.int .i64 cv, .int .i64 0] ∧ Ext w1 w' := fun w1 u1 u2 k1 k2 => by
   have := z_Cmp u1 u2 _ _ w1 k1 k2 (okN.sz ky) (okN.sz kx)
   rw [hcv] at this
   exact calls_eq this
  clear hcv hx hy
  go_enter Tryz.func75, Tryz.ntmps75
  go_upto_region 1 with fail
  try go_step3
  go_upto_region 5 with fail
  refine wp_regB [] [] (fun z_ => ([VF.wid (y), VF.wid (x), VF.eq (.tuple #[.int .i64 cv, .int .i64 0]), VF.eq (.tuple #[.int .i64 cv, .int .i64 0]), VF.eq (.int .i64 (cv)), VF.eq (.int .i64 (0)), VF.eq (.int .i64 (cv)), VF.eq (.int .i64 (0))] : List VF).getD z_ VF.any) I (fun hc => ⟨?_, ?_, ?_, ?_, ?_, ?_, ?_, ?_, trivial⟩) (fun vs gl W hK0 hv hp => ?_)
  ·exact ob_getW (w.heap.size + 1) (y) hc rfl fun vs gs w1 c => c.b0 1
  ·exact ob_getW w.heap.size (x) hc rfl fun vs gs w1 c => c.b0 0
  ·exact ob_call (fun v => [v 0, v 1]) hc rfl fun vs gs w1 c => hcp _ _ _ (c.v 0) (c.v 1)
  ·exact ob_cp 2 hc (.inl rfl)
  ·exact ob_e1 (x := .tmp 19) (a := (.tuple #[.int .i64 cv, .int .i64 0])) (u := .int .i64 (cv)) (some 3) hc
  ·exact ob_e1 (x := .tmp 19) (a := (.tuple #[.int .i64 cv, .int .i64 0])) (u := .int .i64 (0)) (some 3) hc
  ·exact ob_cp 4 hc (.inr rfl)
  ·exact ob_cp 5 hc (.inr rfl)
  have v6 : vs 6 = .int .i64 cv := hv 6 (by decide)
  have v7 : vs 7 = .int .i64 0 := hv 7 (by decide)
  simp only [putS, Nat.reduceAdd, Act.put, List.setIfInBounds_toArray, List.set_cons_zero, List.set_cons_succ, v6, v7]
  simp only [kb_] at hK0
  replace I := hK0
  clear hK0 hv hp gl v6 v7
  have hE := I.e
  clear I hcp
  go_wp2_with fail
  try rw [Exit.noGoto_ret]
  refine bodyPost_ret (v := .bool t) ?_ rfl ⟨rfl, hE⟩
  simp [results, Tryz.results75, go_sem, ↓IntWalk.iteOmega, hF]
 rename_i hn1
 rw [Option.bind_eq_some_iff] at hF
 obtain ⟨S, hS, hF⟩ := hF
 rw [Option.bind_eq_some_iff] at hF
 obtain ⟨C, hC, hF⟩ := hF
 split at hF
 case isFalse => cases hF
 rename_i k0
 obtain ⟨r0, r1, r2, r3, z1, z2, z3, z4, z5, z6, z7, z8, z9, z10⟩ := k0
 obtain ⟨d, hdd⟩ : ∃ d, y * C.v - x * S.v = d := ⟨_, rfl⟩
 obtain ⟨e0, hee⟩ : ∃ e, y * C.r + x * S.r = e := ⟨_, rfl⟩
 rw [hdd, hee] at hF z9 z10
 rw [hdd] at z5
 rw [hee] at z8
 have szS : Sz S.r := dig_bits (k := 64) (L := 4096) (by omega) (by decide)
 have szC : Sz C.r := dig_bits (k := 64) (L := 4096) (by omega) (by decide)
 have hs1 : ∀ (w1 : World) (u1 u2 : Value), u1 = .int .i64 a → u2 = .int .i64 110 → Calls Tryz.prog 88 #[u1, u2] w1 fun e w' => ∃ u, e = .returned u ∧ Ball w' u S.v S.r ∧ Ext w1 w' := fun w1 u1 u2 k1 k2 => by subst k1 k2; exact t_sine a S 110 w1 (by omega) (by omega) hS
 have hs2 : ∀ (w1 : World) (u1 u2 : Value), u1 = .int .i64 (a + 324000000000) → u2 = .int .i64 110 → Calls Tryz.prog 88 #[u1, u2] w1 fun e w' => ∃ u, e = .returned u ∧ Ball w' u C.v C.r ∧ Ext w1 w' := fun w1 u1 u2 k1 k2 => by subst k1 k2; exact t_sine _ C 110 w1 (by omega) (by omega) hC
 have hm1 : ∀ (w1 : World) (u1 u2 : Value), Wid w1 u1 y → Wid w1 u2 C.v → Calls Tryz.prog 132 #[u1, u2] w1 fun e w' => ∃ u, e = .returned u ∧ Wid w' u (y * C.v) ∧ Ext w1 w' := fun w1 u1 u2 k1 k2 => t_mulZ u1 u2 _ _ w1 k1 k2 (okN.sz ky) (okN.sz z2) (okN.sz z3)
 have hm2 : ∀ (w1 : World) (u1 u2 : Value), Wid w1 u1 x → Wid w1 u2 S.v → Calls Tryz.prog 132 #[u1, u2] w1 fun e w' => ∃ u, e = .returned u ∧ Wid w' u (x * S.v) ∧ Ext w1 w' := fun w1 u1 u2 k1 k2 => t_mulZ u1 u2 _ _ w1 k1 k2 (okN.sz kx) (okN.sz z1) (okN.sz z4)
 have hd : ∀ (w1 : World) (u1 u2 : Value), Wid w1 u1 (y * C.v) → Wid w1 u2 (x * S.v) → Calls Tryz.prog 131 #[u1, u2] w1 fun e w' => ∃ u, e = .returned u ∧ Wid w' u d ∧ Ext w1 w' := fun w1 u1 u2 k1 k2 => by
  have := t_subZ u1 u2 _ _ w1 k1 k2 (okN.sz z3) (okN.sz z4) (by rw [hdd]; exact okN.sz z5)
  rw [hdd] at this; exact this
 have hn1' : ∀ (w1 : World) (u1 : Value), u1 = .int .i64 C.r → Calls Tryz.prog 134 #[u1] w1 fun e w' => ∃ u, e = .returned u ∧ Wid w' u C.r ∧ Ext w1 w' := fun w1 u1 k => by subst k; exact t_numZ _ _ (by omega) (by omega)
 have hn2 : ∀ (w1 : World) (u1 : Value), u1 = .int .i64 S.r → Calls Tryz.prog 134 #[u1] w1 fun e w' => ∃ u, e = .returned u ∧ Wid w' u S.r ∧ Ext w1 w' := fun w1 u1 k => by subst k; exact t_numZ _ _ (by omega) (by omega)
 have hm3 : ∀ (w1 : World) (u1 u2 : Value), Wid w1 u1 y → Wid w1 u2 C.r → Calls Tryz.prog 132 #[u1, u2] w1 fun e w' => ∃ u, e = .returned u ∧ Wid w' u (y * C.r) ∧ Ext w1 w' := fun w1 u1 u2 k1 k2 => t_mulZ u1 u2 _ _ w1 k1 k2 (okN.sz ky) szC (okN.sz z6)
 have hm4 : ∀ (w1 : World) (u1 u2 : Value), Wid w1 u1 x → Wid w1 u2 S.r → Calls Tryz.prog 132 #[u1, u2] w1 fun e w' => ∃ u, e = .returned u ∧ Wid w' u (x * S.r) ∧ Ext w1 w' := fun w1 u1 u2 k1 k2 => t_mulZ u1 u2 _ _ w1 k1 k2 (okN.sz kx) szS (okN.sz z7)
 have he : ∀ (w1 : World) (u1 u2 : Value), Wid w1 u1 (y * C.r) → Wid w1 u2 (x * S.r) → Calls Tryz.prog 133 #[u1, u2] w1 fun e w' => ∃ u, e = .returned u ∧ Wid w' u e0 ∧ Ext w1 w' := fun w1 u1 u2 k1 k2 => by
  have := t_addZ u1 u2 _ _ w1 k1 k2 (okN.sz z6) (okN.sz z7) (by rw [hee]; exact okN.sz z8)
  rw [hee] at this; exact this
 obtain ⟨c1, hc1⟩ : ∃ c, cmpI (d - e0) 0 = c := ⟨_, rfl⟩
 obtain ⟨c2, hc2⟩ : ∃ c, cmpI (d + e0) 0 = c := ⟨_, rfl⟩
 rw [hc1, hc2] at hF
 have hu1 : ∀ (w1 : World) (u1 u2 : Value), Wid w1 u1 d → Wid w1 u2 e0 → Calls Tryz.prog 131 #[u1, u2] w1 fun e w' => ∃ u, e = .returned u ∧ Wid w' u (d - e0) ∧ Ext w1 w' := fun w1 u1 u2 k1 k2 => t_subZ u1 u2 _ _ w1 k1 k2 (okN.sz z5) (okN.sz z8) (okN.sz z9)
 have hu2 : ∀ (w1 : World) (u1 : Value), Wid w1 u1 (d - e0) → Calls Tryz.prog 73 #[u1] w1 fun e w' => ∃ u, e = .returned u ∧ u = .int .i64 c1 ∧ Ext w1 w' := fun w1 u1 k1 => by
  have := t_sign u1 _ w1 k1 (okN.sz z9)
  rw [hc1] at this; exact calls_eq this
 have ht1 : ∀ (w1 : World) (u1 u2 : Value), Wid w1 u1 d → Wid w1 u2 e0 → Calls Tryz.prog 133 #[u1, u2] w1 fun e w' => ∃ u, e = .returned u ∧ Wid w' u (d + e0) ∧ Ext w1 w' := fun w1 u1 u2 k1 k2 => t_addZ u1 u2 _ _ w1 k1 k2 (okN.sz z5) (okN.sz z8) (okN.sz z10)
 have ht2 : ∀ (w1 : World) (u1 : Value), Wid w1 u1 (d + e0) → Calls Tryz.prog 73 #[u1] w1 fun e w' => ∃ u, e = .returned u ∧ u = .int .i64 c2 ∧ Ext w1 w' := fun w1 u1 k1 => by
  have := t_sign u1 _ w1 k1 (okN.sz z10)
  rw [hc2] at this; exact calls_eq this
 obtain ⟨g1, hg1⟩ : ∃ g, decide (0 < c1) = g := ⟨_, rfl⟩
 obtain ⟨g2, hg2⟩ : ∃ g, decide (c2 < 0) = g := ⟨_, rfl⟩
 have hR : (g1 = true ∧ t = true) ∨ (g1 = false ∧ g2 = true ∧ t = false) := by
  rw [← hg1, ← hg2]
  split at hF
  ·rename_i k; exact .inl ⟨decide_eq_true k, (Option.some.inj hF).symm⟩
  ·rename_i k
   split at hF
   ·rename_i k2; exact .inr ⟨decide_eq_false k, decide_eq_true k2, (Option.some.inj hF).symm⟩
   ·cases hF
 have hn1 := hn1'
 have han : ¬ a = 162000000000 := by assumption
 clear hn1' hF hc1 hc2 hdd hee hS hC szS szC z1 z2 z3 z4 z5 z6 z7 z8 z9 z10 kx ky hx hy r0 r1 r2 r3
 go_enter Tryz.func75, Tryz.ntmps75
 go_upto_region 1 with fail
 try go_step3
 go_wp2_with fail
 try go_step3
 go_upto_region 8 with fail
 refine wp_regB [] [⟨7, some 9, BF.own [.bool false, .slice none 0 0, .int .i64 0], (BF.bat S.v S.r)⟩, ⟨8, some 10, BF.own [.bool false, .slice none 0 0, .int .i64 0], (BF.bat C.v C.r)⟩] (fun z_ => ([VF.eq (.int .i64 (a)), VF.eq (.int .i64 (110)), VF.ball (S.v) (S.r), VF.eq (.int .i64 (a)), VF.eq (.int .i64 (a + 324000000000)), VF.eq (.int .i64 (110)), VF.ball (C.v) (C.r)] : List VF).getD z_ VF.any) I (fun hc => ⟨?_, ?_, ?_, ?_, ?_, ?_, ?_, ?_, ?_, ?_, ?_, trivial⟩) (fun vs gl W hK0 hv hp => ?_)
 ·exact ob_mv hc (.inl rfl)
 ·exact ob_mv hc (.inl rfl)
 ·exact ob_call (fun v => [v 0, v 1]) hc rfl fun vs gs w1 c => hs1 _ _ _ (c.v 0) (c.v 1)
 ·exact ob_mv hc (.inl rfl)
 ·exact ob_e2 (x := .tmp 30) (y := .const (.int .i64 324000000000)) (a := (.int .i64 (a))) (b := .int .i64 324000000000) (u := .int .i64 (a + 324000000000)) (some 3) none hc (hs := by intro ρ w1 h k; go_simp; first | done | (simp only [IntKind.wrap_i64]; omega))
 ·exact ob_mv hc (.inl rfl)
 ·exact ob_call (fun v => [v 4, v 5]) hc rfl fun vs gs w1 c => hs2 _ _ _ (c.v 4) (c.v 5)
 ·exact b_28
 ·exact ob_new (n := 3) [.bool false, .slice none 0 0, .int .i64 0] 137 rfl hc rfl rfl rfl
 ·exact ob_putB (n := 2) rfl 2 hc rfl 0
 ·exact ob_putB (n := 3) rfl 6 hc rfl 0
 have p0 : vs 7 = .pointer (some ⟨gl 0, 0, none⟩) := hp 0 _ rfl
 have p1 : vs 8 = .pointer (some ⟨gl 1, 0, none⟩) := hp 1 _ rfl
 simp only [putS, Nat.reduceAdd, Act.put, List.setIfInBounds_toArray, List.set_cons_zero, List.set_cons_succ, p0, p1]
 obtain ⟨g10, e90⟩ : ∃ n, gl 0 = n := ⟨_, rfl⟩
 obtain ⟨g11, e91⟩ : ∃ n, gl 1 = n := ⟨_, rfl⟩
 simp only [kb_, e90, e91] at hK0
 rw [e90, e91]
 replace I := hK0
 clear hK0 hv hp gl p0 p1 e90 e91
 go_upto_region 9 with fail
 refine wp_regB [] [⟨9, some 10, BF.b2, (BF.wat d)⟩] (fun z_ => ([VF.wid (y), VF.eq (.pointer (some ⟨g11, 0, none⟩)), VF.wid (C.v), VF.wid (y * C.v), VF.wid (x), VF.eq (.pointer (some ⟨g10, 0, none⟩)), VF.wid (S.v), VF.wid (x * S.v), VF.wid (d)] : List VF).getD z_ VF.any) I (fun hc => ⟨?_, ?_, ?_, ?_, ?_, ?_, ?_, ?_, ?_, ?_, ?_, trivial⟩) (fun vs gl W hK0 hv hp => ?_)
 ·exact ob_getW (w.heap.size + 1) (y) hc rfl fun vs gs w1 c => c.b0 1
 ·exact ob_e1 (x := .tmp 11) (a := .pointer (some ⟨g11, 0, none⟩)) (u := .pointer (some ⟨g11, 0, none⟩)) none hc
 ·exact ob_getN g11 C.v C.r (some 1) hc rfl fun vs gs w1 c => c.b0 3
 ·exact ob_call (fun v => [v 0, v 2]) hc rfl fun vs gs w1 c => hm1 _ _ _ (c.v 0) (c.v 2)
 ·exact ob_getW w.heap.size (x) hc rfl fun vs gs w1 c => c.b0 0
 ·exact ob_e1 (x := .tmp 10) (a := .pointer (some ⟨g10, 0, none⟩)) (u := .pointer (some ⟨g10, 0, none⟩)) none hc
 ·exact ob_getN g10 S.v S.r (some 5) hc rfl fun vs gs w1 c => c.b0 2
 ·exact ob_call (fun v => [v 4, v 6]) hc rfl fun vs gs w1 c => hm2 _ _ _ (c.v 4) (c.v 6)
 ·exact ob_call (fun v => [v 3, v 7]) hc rfl fun vs gs w1 c => hd _ _ _ (c.v 3) (c.v 7)
 ·exact ob_allocW (n := 4) rfl hc rfl rfl rfl
 ·exact ob_putW (n := 4) rfl 8 hc rfl 0
 have p0 : vs 9 = .pointer (some ⟨gl 0, 0, none⟩) := hp 0 _ rfl
 simp only [putS, Nat.reduceAdd, Act.put, List.setIfInBounds_toArray, List.set_cons_zero, List.set_cons_succ, p0]
 obtain ⟨g12, e90⟩ : ∃ n, gl 0 = n := ⟨_, rfl⟩
 simp only [kb_, e90] at hK0
 rw [e90]
 replace I := hK0
 clear hK0 hv hp gl p0 e90
 go_upto_region 10 with fail
 refine wp_regB [] [⟨11, some 12, BF.b2, (BF.wat e0)⟩] (fun z_ => ([VF.wid (y), VF.eq (.pointer (some ⟨g11, 2, none⟩)), VF.eq (.int .i64 (C.r)), VF.wid (C.r), VF.wid (y * C.r), VF.wid (x), VF.eq (.pointer (some ⟨g10, 2, none⟩)), VF.eq (.int .i64 (S.r)), VF.wid (S.r), VF.wid (x * S.r), VF.wid (e0)] : List VF).getD z_ VF.any) I (fun hc => ⟨?_, ?_, ?_, ?_, ?_, ?_, ?_, ?_, ?_, ?_, ?_, ?_, ?_, trivial⟩) (fun vs gl W hK0 hv hp => ?_)
 ·exact ob_getW (w.heap.size + 1) (y) hc rfl fun vs gs w1 c => c.b0 1
 ·exact ob_e1 (x := .tmp 11) (a := .pointer (some ⟨g11, 0, none⟩)) (u := .pointer (some ⟨g11, 2, none⟩)) none hc
 ·exact ob_ld (x := .tmp 44) (g := g11) (f := 2) (u := .int .i64 (C.r)) (some 1) hc fun vs gs w1 c => BatP.r (c.b0 3)
 ·exact ob_call (fun v => [v 2]) hc rfl fun vs gs w1 c => hn1 _ _ (c.v 2)
 ·exact ob_call (fun v => [v 0, v 3]) hc rfl fun vs gs w1 c => hm3 _ _ _ (c.v 0) (c.v 3)
 ·exact ob_getW w.heap.size (x) hc rfl fun vs gs w1 c => c.b0 0
 ·exact ob_e1 (x := .tmp 10) (a := .pointer (some ⟨g10, 0, none⟩)) (u := .pointer (some ⟨g10, 2, none⟩)) none hc
 ·exact ob_ld (x := .tmp 49) (g := g10) (f := 2) (u := .int .i64 (S.r)) (some 6) hc fun vs gs w1 c => BatP.r (c.b0 2)
 ·exact ob_call (fun v => [v 7]) hc rfl fun vs gs w1 c => hn2 _ _ (c.v 7)
 ·exact ob_call (fun v => [v 5, v 8]) hc rfl fun vs gs w1 c => hm4 _ _ _ (c.v 5) (c.v 8)
 ·exact ob_call (fun v => [v 4, v 9]) hc rfl fun vs gs w1 c => he _ _ _ (c.v 4) (c.v 9)
 ·exact ob_allocW (n := 5) rfl hc rfl rfl rfl
 ·exact ob_putW (n := 5) rfl 10 hc rfl 0
 have p0 : vs 11 = .pointer (some ⟨gl 0, 0, none⟩) := hp 0 _ rfl
 simp only [putS, Nat.reduceAdd, Act.put, List.setIfInBounds_toArray, List.set_cons_zero, List.set_cons_succ, p0]
 obtain ⟨g13, e90⟩ : ∃ n, gl 0 = n := ⟨_, rfl⟩
 simp only [kb_, e90] at hK0
 rw [e90]
 replace I := hK0
 clear hK0 hv hp gl p0 e90
 clear hs1 hs2 hm1 hm2 hm3 hm4 hd he hn1 hn2
 go_upto_region 11 with fail
 refine wp_regB [] [] (fun z_ => ([VF.wid (d), VF.wid (e0), VF.wid (d - e0), VF.eq (.int .i64 (c1)), VF.eq (.bool g1)] : List VF).getD z_ VF.any) I (fun hc => ⟨?_, ?_, ?_, ?_, ?_, trivial⟩) (fun vs gl W hK0 hv hp => ?_)
 ·exact ob_getW g12 (d) hc rfl fun vs gs w1 c => c.b0 4
 ·exact ob_getW g13 (e0) hc rfl fun vs gs w1 c => c.b0 5
 ·exact ob_call (fun v => [v 0, v 1]) hc rfl fun vs gs w1 c => hu1 _ _ _ (c.v 0) (c.v 1)
 ·exact ob_call (fun v => [v 2]) hc rfl fun vs gs w1 c => hu2 _ _ (c.v 2)
 ·exact ob_e2 (x := .tmp 57) (y := .const (.int .i64 0)) (a := (.int .i64 (c1))) (b := .int .i64 0) (u := .bool g1) (some 3) none hc (hs := by intro ρ w1 h k; go_simp; first | done | exact hg1)
 have v4 : vs 4 = .bool g1 := hv 4 (by decide)
 simp only [putS, Nat.reduceAdd, Act.put, List.setIfInBounds_toArray, List.set_cons_zero, List.set_cons_succ, v4]
 simp only [kb_] at hK0
 replace I := hK0
 clear hK0 hv hp gl v4
 rcases hR with ⟨rfl, rfl⟩ | ⟨rfl, rfl, rfl⟩
 ·have hE := I.e
  clear I hu1 hu2 ht1 ht2
  exact T_TBY_1
 ·skip
  go_upto_region 13 with fail
  refine wp_regB [] [] (fun z_ => ([VF.wid (d), VF.wid (e0), VF.wid (d + e0), VF.eq (.int .i64 (c2)), VF.eq (.bool true)] : List VF).getD z_ VF.any) I (fun hc => ⟨?_, ?_, ?_, ?_, ?_, trivial⟩) (fun vs gl W hK0 hv hp => ?_)
  ·exact ob_getW g12 (d) hc rfl fun vs gs w1 c => c.b0 4
  ·exact ob_getW g13 (e0) hc rfl fun vs gs w1 c => c.b0 5
  ·exact ob_call (fun v => [v 0, v 1]) hc rfl fun vs gs w1 c => ht1 _ _ _ (c.v 0) (c.v 1)
  ·exact ob_call (fun v => [v 2]) hc rfl fun vs gs w1 c => ht2 _ _ (c.v 2)
  ·exact ob_e2 (x := .tmp 62) (y := .const (.int .i64 0)) (a := (.int .i64 (c2))) (b := .int .i64 0) (u := .bool true) (some 3) none hc (hs := by intro ρ w1 h k; go_simp; first | done | exact hg2)
  have v4 : vs 4 = .bool true := hv 4 (by decide)
  simp only [putS, Nat.reduceAdd, Act.put, List.setIfInBounds_toArray, List.set_cons_zero, List.set_cons_succ, v4]
  simp only [kb_] at hK0
  replace I := hK0
  clear hK0 hv hp gl v4
  have hE := I.e
  clear I hu1 hu2 ht1 ht2
  go_wp2_with fail
  try rw [Exit.noGoto_ret]
  refine bodyPost_ret (v := .bool false) ?_ rfl ⟨rfl, hE⟩
  simp [results, Tryz.results75, go_sem, ↓IntWalk.iteOmega]
end Go.Proofs.YtaoioncjmfcolaaGreat
