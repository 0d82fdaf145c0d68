/- flow: a try of a step. -/
import Derived.Test.YtbkgakgdbmjmjaaGreatP26
import Derived.Deep.WholeRow
set_option linter.unusedSimpArgs false
set_option linter.unusedVariables false
set_option maxRecDepth 100000
set_option maxHeartbeats 4000000
namespace Go.Proofs.YtbkgakgdbmjmjaaGreat
open Go.RowKit
theorem T_FLD_1 {p : Prop} (h : p := by
 exact (by unfold tvs; exact ⟨by repeat (first | exact range_nil _ _ _ | refine range_cons c_27 ?_), fun q => by simp [go_sem, ↓IntWalk.iteOmega, *], by (try simp only [wsz]); omega⟩)) : p := h
theorem R3.I {r s u : R3} (h : r.W) (k : s.W) (l : u.W) : (v3 r s u).I := ⟨h, k, l⟩
theorem V3.O_I : V3.O.I := ⟨⟨I64_0, I64_0⟩, ⟨I64_0, I64_0⟩, ⟨I64_0, I64_0⟩⟩
theorem eachV_I {f : Int → Int → Int → Int → R3} (hf : ∀ a b c d, (f a b c d).W) (a b : V3) : (eachV f a b).v.I := by
 unfold eachV vecV
 split
 ·exact V3.O_I
 ·split
  ·exact V3.O_I
  ·exact R3.I (doI_W (hf _ _ _ _)) (doI_W (hf _ _ _ _)) (doI_W (hf _ _ _ _))
theorem goR_I (a b : V3) (x y : Int) : (goR a b x y).v.I := by
 unfold goR
 split
 ·exact V3.O_I
 ·exact eachV_I addI_W _ _
structure Tu where
 (fr ti : Int)
 (h f p v : V3)
def Tu.O : Tu := ⟨0, 0, V3.O, V3.O, V3.O, V3.O⟩
def tvs (t : Tu) : List Value := [.int .i64 t.fr, .int .i64 t.ti, .int .i64 t.h.a, .int .i64 t.h.b, .int .i64 t.h.c, .int .i64 t.h.d, .int .i64 t.h.e, .int .i64 t.h.f, .int .i64 t.f.a, .int .i64 t.f.b, .int .i64 t.f.c, .int .i64 t.f.d, .int .i64 t.f.e, .int .i64 t.f.f, .int .i64 t.p.a, .int .i64 t.p.b, .int .i64 t.p.c, .int .i64 t.p.d, .int .i64 t.p.e, .int .i64 t.p.f, .int .i64 t.v.a, .int .i64 t.v.b, .int .i64 t.v.c, .int .i64 t.v.d, .int .i64 t.v.e, .int .i64 t.v.f]
def tv (t : Tu) : Value := .agg (tvs t).toArray
theorem rg_at {w : World} {b k : Nat} {vs : List Value} {v : Value} (h : w.rangeAt b 0 vs) (hk : vs[k]? = some v) : w.cell? ⟨b, k, none⟩ = some v := by
 have := h k v hk; rwa [Nat.zero_add] at this
theorem Fresh.gb {T b : Nat} {a w : World} {vs : List Value} (h : Fresh a b vs) (k : GB T a w) (hne : b ≠ T) : Fresh w b vs :=
 ⟨fun j v hv => (k.cell h.2.2 hne).trans (h.1 j v hv), fun q => (k.frozen h.2.2 hne).trans (h.2.1 q), Nat.lt_of_lt_of_le h.2.2 k.size⟩
def trE (A : V7) (p v : V3) (hi : Int) : Int := if A.e ≠ 0 then A.e else if (goR v A.v 0 hi).e ≠ 0 then 24 else if (goR p (goR v A.v 0 hi).v 0 hi).e ≠ 0 then 24 else 0
theorem fl_try (be bf bt bb bv ba bp T : Nat) (ao : Option Addr) (n cap : Nat) (fr ti hi : Int) (A : V7) (b p v : V3) (t : Tu) (w : World)
    (hA : ∀ w1, Ext w w1 → Calls Tryz.prog 14 #[.agg #[.slice ao n cap], .int .i64 fr, .int .i64 ti, .agg #[.int .i64 b.a, .int .i64 b.b, .int .i64 b.c, .int .i64 b.d, .int .i64 b.e, .int .i64 b.f]] w1 fun e w' => e = .returned (.tuple #[.agg #[.int .i64 A.v.a, .int .i64 A.v.b, .int .i64 A.v.c, .int .i64 A.v.d, .int .i64 A.v.e, .int .i64 A.v.f], .int .i64 A.e]) ∧ Ext w1 w') (hAI : A.v.I) (hh : I64 hi)
    (h1 : w.cell? ⟨be, 0, none⟩ = some (.slice ao n cap)) (h2 : w.cell? ⟨bf, 0, none⟩ = some (.int .i64 fr)) (h3 : w.cell? ⟨bt, 0, none⟩ = some (.int .i64 ti))
    (h4 : Fresh w bb [.int .i64 b.a, .int .i64 b.b, .int .i64 b.c, .int .i64 b.d, .int .i64 b.e, .int .i64 b.f]) (h5 : Fresh w bv [.int .i64 v.a, .int .i64 v.b, .int .i64 v.c, .int .i64 v.d, .int .i64 v.e, .int .i64 v.f]) (h6 : w.cell? ⟨ba, 0, none⟩ = some (.int .i64 0)) (h7 : w.cell? ⟨ba, 1, none⟩ = some (.int .i64 hi)) (h8 : Fresh w bp [.int .i64 p.a, .int .i64 p.b, .int .i64 p.c, .int .i64 p.d, .int .i64 p.e, .int .i64 p.f]) (hT : Fresh w T (tvs t))
    (hne : be ≠ T ∧ bf ≠ T ∧ bt ≠ T ∧ bb ≠ T ∧ bv ≠ T ∧ ba ≠ T ∧ bp ≠ T) :
    Calls Tryz.prog 75 #[.pointer (some ⟨be, 0, none⟩), .pointer (some ⟨bf, 0, none⟩), .pointer (some ⟨bt, 0, none⟩), .pointer (some ⟨bb, 0, none⟩), .pointer (some ⟨bv, 0, none⟩), .pointer (some ⟨ba, 0, none⟩), .pointer (some ⟨T, 0, none⟩), .pointer (some ⟨bp, 0, none⟩)] w fun e w' => ∃ u t', e = .returned (.tuple #[.agg #[.int .i64 u.a, .int .i64 u.b, .int .i64 u.c, .int .i64 u.d, .int .i64 u.e, .int .i64 u.f], .int .i64 (trE A p v hi)]) ∧ GB T w w' ∧ Fresh w' T (tvs t') ∧ (trE A p v hi = 0 → u = A.v ∧ t' = { t with h := (goR p (goR v A.v 0 hi).v 0 hi).v, f := (goR v A.v 0 hi).v }) := by
 have cb0 := rg_at (k := 0) h4.1 rfl
 have cb1 := rg_at (k := 1) h4.1 rfl
 have cb2 := rg_at (k := 2) h4.1 rfl
 have cb3 := rg_at (k := 3) h4.1 rfl
 have cb4 := rg_at (k := 4) h4.1 rfl
 have cb5 := rg_at (k := 5) h4.1 rfl
 have cv0 := rg_at (k := 0) h5.1 rfl
 have cv1 := rg_at (k := 1) h5.1 rfl
 have cv2 := rg_at (k := 2) h5.1 rfl
 have cv3 := rg_at (k := 3) h5.1 rfl
 have cv4 := rg_at (k := 4) h5.1 rfl
 have cv5 := rg_at (k := 5) h5.1 rfl
 have cp0 := rg_at (k := 0) h8.1 rfl
 have cp1 := rg_at (k := 1) h8.1 rfl
 have cp2 := rg_at (k := 2) h8.1 rfl
 have cp3 := rg_at (k := 3) h8.1 rfl
 have cp4 := rg_at (k := 4) h8.1 rfl
 have cp5 := rg_at (k := 5) h8.1 rfl
 have ct0 : w.cell? ⟨T, 0, none⟩ = some (.int .i64 t.fr) := rg_at (k := 0) hT.1 rfl
 have ct1 : w.cell? ⟨T, 1, none⟩ = some (.int .i64 t.ti) := rg_at (k := 1) hT.1 rfl
 have ct2 : w.cell? ⟨T, 2, none⟩ = some (.int .i64 t.h.a) := rg_at (k := 2) hT.1 rfl
 have ct3 : w.cell? ⟨T, 3, none⟩ = some (.int .i64 t.h.b) := rg_at (k := 3) hT.1 rfl
 have ct4 : w.cell? ⟨T, 4, none⟩ = some (.int .i64 t.h.c) := rg_at (k := 4) hT.1 rfl
 have ct5 : w.cell? ⟨T, 5, none⟩ = some (.int .i64 t.h.d) := rg_at (k := 5) hT.1 rfl
 have ct6 : w.cell? ⟨T, 6, none⟩ = some (.int .i64 t.h.e) := rg_at (k := 6) hT.1 rfl
 have ct7 : w.cell? ⟨T, 7, none⟩ = some (.int .i64 t.h.f) := rg_at (k := 7) hT.1 rfl
 have ct8 : w.cell? ⟨T, 8, none⟩ = some (.int .i64 t.f.a) := rg_at (k := 8) hT.1 rfl
 have ct9 : w.cell? ⟨T, 9, none⟩ = some (.int .i64 t.f.b) := rg_at (k := 9) hT.1 rfl
 have ct10 : w.cell? ⟨T, 10, none⟩ = some (.int .i64 t.f.c) := rg_at (k := 10) hT.1 rfl
 have ct11 : w.cell? ⟨T, 11, none⟩ = some (.int .i64 t.f.d) := rg_at (k := 11) hT.1 rfl
 have ct12 : w.cell? ⟨T, 12, none⟩ = some (.int .i64 t.f.e) := rg_at (k := 12) hT.1 rfl
 have ct13 : w.cell? ⟨T, 13, none⟩ = some (.int .i64 t.f.f) := rg_at (k := 13) hT.1 rfl
 have ct14 : w.cell? ⟨T, 14, none⟩ = some (.int .i64 t.p.a) := rg_at (k := 14) hT.1 rfl
 have ct15 : w.cell? ⟨T, 15, none⟩ = some (.int .i64 t.p.b) := rg_at (k := 15) hT.1 rfl
 have ct16 : w.cell? ⟨T, 16, none⟩ = some (.int .i64 t.p.c) := rg_at (k := 16) hT.1 rfl
 have ct17 : w.cell? ⟨T, 17, none⟩ = some (.int .i64 t.p.d) := rg_at (k := 17) hT.1 rfl
 have ct18 : w.cell? ⟨T, 18, none⟩ = some (.int .i64 t.p.e) := rg_at (k := 18) hT.1 rfl
 have ct19 : w.cell? ⟨T, 19, none⟩ = some (.int .i64 t.p.f) := rg_at (k := 19) hT.1 rfl
 have ct20 : w.cell? ⟨T, 20, none⟩ = some (.int .i64 t.v.a) := rg_at (k := 20) hT.1 rfl
 have ct21 : w.cell? ⟨T, 21, none⟩ = some (.int .i64 t.v.b) := rg_at (k := 21) hT.1 rfl
 have ct22 : w.cell? ⟨T, 22, none⟩ = some (.int .i64 t.v.c) := rg_at (k := 22) hT.1 rfl
 have ct23 : w.cell? ⟨T, 23, none⟩ = some (.int .i64 t.v.d) := rg_at (k := 23) hT.1 rfl
 have ct24 : w.cell? ⟨T, 24, none⟩ = some (.int .i64 t.v.e) := rg_at (k := 24) hT.1 rfl
 have ct25 : w.cell? ⟨T, 25, none⟩ = some (.int .i64 t.v.f) := rg_at (k := 25) hT.1 rfl
 have hl0 : be < w.heap.size := World.block_lt_of_cell? w _ h1
 have hl1 : bf < w.heap.size := World.block_lt_of_cell? w _ h2
 have hl2 : bt < w.heap.size := World.block_lt_of_cell? w _ h3
 have hl3 : bb < w.heap.size := World.block_lt_of_cell? w _ cb0
 have hl4 : bv < w.heap.size := World.block_lt_of_cell? w _ cv0
 have hl5 : ba < w.heap.size := World.block_lt_of_cell? w _ h6
 have hl6 : bp < w.heap.size := World.block_lt_of_cell? w _ cp0
 have hlT := hT.2.2
 have fT := hT.2.1
 obtain ⟨n1, n2, n3, n4, n5, n6, n7⟩ := hne
 have hk1 := hA
 have hk2 := fun w1 => fl_goes v A.v 0 hi w1 hAI ⟨I64_0, hh⟩
 have hk3 := fun w1 => fl_goes p (goR v A.v 0 hi).v 0 hi w1 (goR_I _ _ _ _) ⟨I64_0, hh⟩
 clear h4 h5 h8 hT hA hAI
 unfold trE
 generalize goR p (goR v A.v 0 hi).v 0 hi = H at *
 generalize goR v A.v 0 hi = G at *
 by_cases e0 : A.e = 0
 ·rw [if_neg (by omega)]
  by_cases e1 : G.e = 0
  ·rw [if_neg (by omega)]
   rw [decide_eq_true e1] at hk2
   by_cases e2 : H.e = 0
   ·rw [if_neg (by omega)]
    rw [decide_eq_true e2] at hk3
    go_enter Tryz.func75, Tryz.ntmps75
    go_wp2_with (first | (go_at_call 14; (with_reducible refine (hk1 _ ex_).mono ?_); rintro e w1 ⟨rfl, hb1⟩; obtain ⟨_, _, ⟨hc1, hf1⟩, hz1⟩ := hb1.c3; (try simp only [wsz] at hz1 hc1 hf1)) | (go_at_call 69; (with_reducible refine (hk2 _).mono ?_); rintro e w2 ⟨rfl, hb2⟩; obtain ⟨_, _, ⟨hc2, hf2⟩, hz2⟩ := hb2.c3; (try simp only [wsz] at hz2 hc2 hf2)) | (go_at_call 69; (with_reducible refine (hk3 _).mono ?_); rintro e w3 ⟨rfl, hb3⟩; obtain ⟨_, _, ⟨hc3, hf3⟩, hz3⟩ := hb3.c3; (try simp only [wsz] at hz3 hc3 hf3)))
    refine bodyPost_ret (v := .tuple #[.agg #[.int .i64 A.v.a, .int .i64 A.v.b, .int .i64 A.v.c, .int .i64 A.v.d, .int .i64 A.v.e, .int .i64 A.v.f], .int .i64 0]) ?_ rfl ⟨_, { t with h := H.v, f := G.v }, rfl, ?_, ?_, ?_⟩
    ·exact b_18
    ·exact b_19
    ·exact T_FLD_1
    ·exact fun _ => ⟨rfl, rfl⟩
   ·rw [if_pos e2]
    rw [decide_eq_false e2] at hk3
    go_enter Tryz.func75, Tryz.ntmps75
    go_wp2_with (first | (go_at_call 14; (with_reducible refine (hk1 _ ex_).mono ?_); rintro e w1 ⟨rfl, hb1⟩; obtain ⟨_, _, ⟨hc1, hf1⟩, hz1⟩ := hb1.c3; (try simp only [wsz] at hz1 hc1 hf1)) | (go_at_call 69; (with_reducible refine (hk2 _).mono ?_); rintro e w2 ⟨rfl, hb2⟩; obtain ⟨_, _, ⟨hc2, hf2⟩, hz2⟩ := hb2.c3; (try simp only [wsz] at hz2 hc2 hf2)) | (go_at_call 69; (with_reducible refine (hk3 _).mono ?_); rintro e w3 ⟨rfl, hb3⟩; obtain ⟨_, _, ⟨hc3, hf3⟩, hz3⟩ := hb3.c3; (try simp only [wsz] at hz3 hc3 hf3)))
    refine bodyPost_ret (v := .tuple #[.agg #[.int .i64 V3.O.a, .int .i64 V3.O.b, .int .i64 V3.O.c, .int .i64 V3.O.d, .int .i64 V3.O.e, .int .i64 V3.O.f], .int .i64 24]) ?_ rfl ⟨_, { t with h := H.v, f := G.v }, rfl, ?_, ?_, ?_⟩
    ·exact b_18
    ·exact b_19
    ·exact T_FLD_1
    ·exact fun h => absurd h (by decide)
  ·rw [if_pos e1]
   rw [decide_eq_false e1] at hk2
   go_enter Tryz.func75, Tryz.ntmps75
   go_wp2_with (first | (go_at_call 14; (with_reducible refine (hk1 _ ex_).mono ?_); rintro e w1 ⟨rfl, hb1⟩; obtain ⟨_, _, ⟨hc1, hf1⟩, hz1⟩ := hb1.c3; (try simp only [wsz] at hz1 hc1 hf1)) | (go_at_call 69; (with_reducible refine (hk2 _).mono ?_); rintro e w2 ⟨rfl, hb2⟩; obtain ⟨_, _, ⟨hc2, hf2⟩, hz2⟩ := hb2.c3; (try simp only [wsz] at hz2 hc2 hf2)) | (go_at_call 69; (with_reducible refine (hk3 _).mono ?_); rintro e w3 ⟨rfl, hb3⟩; obtain ⟨_, _, ⟨hc3, hf3⟩, hz3⟩ := hb3.c3; (try simp only [wsz] at hz3 hc3 hf3)))
   refine bodyPost_ret (v := .tuple #[.agg #[.int .i64 V3.O.a, .int .i64 V3.O.b, .int .i64 V3.O.c, .int .i64 V3.O.d, .int .i64 V3.O.e, .int .i64 V3.O.f], .int .i64 24]) ?_ rfl ⟨_, { t with f := G.v }, rfl, ?_, ?_, ?_⟩
   ·exact b_18
   ·exact b_19
   ·exact T_FLD_1
   ·exact fun h => absurd h (by decide)
 ·rw [if_pos e0]
  go_enter Tryz.func75, Tryz.ntmps75
  go_wp2_with (first | (go_at_call 14; (with_reducible refine (hk1 _ ex_).mono ?_); rintro e w1 ⟨rfl, hb1⟩; obtain ⟨_, _, ⟨hc1, hf1⟩, hz1⟩ := hb1.c3; (try simp only [wsz] at hz1 hc1 hf1)) | (go_at_call 69; (with_reducible refine (hk2 _).mono ?_); rintro e w2 ⟨rfl, hb2⟩; obtain ⟨_, _, ⟨hc2, hf2⟩, hz2⟩ := hb2.c3; (try simp only [wsz] at hz2 hc2 hf2)) | (go_at_call 69; (with_reducible refine (hk3 _).mono ?_); rintro e w3 ⟨rfl, hb3⟩; obtain ⟨_, _, ⟨hc3, hf3⟩, hz3⟩ := hb3.c3; (try simp only [wsz] at hz3 hc3 hf3)))
  refine bodyPost_ret (v := .tuple #[.agg #[.int .i64 V3.O.a, .int .i64 V3.O.b, .int .i64 V3.O.c, .int .i64 V3.O.d, .int .i64 V3.O.e, .int .i64 V3.O.f], .int .i64 A.e]) ?_ rfl ⟨_, t, rfl, ?_, ?_, ?_⟩
  ·exact b_18
  ·exact b_19
  ·exact T_FLD_1
  ·exact fun h => absurd h e0
/-! The functions. -/
def wdL (a b c d : Int) : Int := min a c - (1024 + (max b d - min a c) / 8)
def wdH (a b c d : Int) : Int := max b d + (1024 + (max b d - min a c) / 8)
def wdV (h b : V3) : V3 := ⟨wdL h.a h.b b.a b.b, wdH h.a h.b b.a b.b, wdL h.c h.d b.c b.d, wdH h.c h.d b.c b.d, wdL h.e h.f b.e b.f, wdH h.e h.f b.e b.f⟩
def hfI (dl dh : Int) : R3 := scI (sqI dl dh).lo (sqI dl dh).hi 1 2
noncomputable def fiR (dl dh fr ti : Int) (h f p v a : V3) : Tu × Int :=
 if (sqI dl dh).e ≠ 0 then (Tu.O, 24) else if (goR p v dl dh).e ≠ 0 ∨ (goR (goR p v dl dh).v a (hfI dl dh).lo (hfI dl dh).hi).e ≠ 0 ∨ (goR v a dl dh).e ≠ 0 then (Tu.O, 24)
 else (⟨fr, ti, h, f, (goR (goR p v dl dh).v a (hfI dl dh).lo (hfI dl dh).hi).v, (goR v a dl dh).v⟩, 0)
noncomputable def fsV (acc : V3 → V7) (v b : V3) (dh : Int) : V3 := (goR v (acc b).v 0 dh).v
noncomputable def huV (acc : V3 → V7) (p v b : V3) (dh : Int) : V3 := (goR p (fsV acc v b dh) 0 dh).v
noncomputable def stT (acc : V3 → V7) (dl dh fr ti : Int) (p v : V3) : Nat → V3 → Tu × Int
 | 0, _ => (Tu.O, 24)
 | k + 1, b => if trE (acc b) p v dh ≠ 0 then (Tu.O, trE (acc b) p v dh) else if inV (huV acc p v b dh) b then fiR dl dh fr ti (huV acc p v b dh) (fsV acc v b dh) p v (acc b).v
  else if ckV (wdV (huV acc p v b dh) b) ≠ 0 then (Tu.O, 24) else stT acc dl dh fr ti p v k (wdV (huV acc p v b dh) b)
noncomputable def acL (L : List SrcD) (p : V3) : V7 := acN p L (ac0 p)
theorem acL_pt {L M : List SrcD} {p P : V3} (hp : PtV p P) (h : LPt L M) : VPt (acL L p) (acL M P) := acN_pt hp h (ac0_pt hp)
/-! What a tube has. -/
structure Q3 where
 (x y z : Rat)
def HqV (v : V3) (q : Q3) : Prop := Hq v.a v.b q.x ∧ Hq v.c v.d q.y ∧ Hq v.e v.f q.z
def goQ (q w : Q3) (t : Rat) : Q3 := ⟨q.x + w.x * t / UQ, q.y + w.y * t / UQ, q.z + w.z * t / UQ⟩
theorem HqV.sub {u v : V3} {q : Q3} (h : HqV u q) (k : PtV u v) : HqV v q := ⟨h.1.sub k.1, h.2.1.sub k.2.1, h.2.2.sub k.2.2⟩
def mt1 (a b c d : Int) : Bool := decide (a ≤ d) && decide (c ≤ b)
def mtV (u v : V3) : Bool := mt1 u.a u.b v.a v.b && (mt1 u.c u.d v.c v.d && mt1 u.e u.f v.e v.f)
theorem mt_of {u v : V3} {q : Q3} (h : HqV u q) (k : HqV v q) : mtV u v = true := by
 obtain ⟨a1, a2⟩ := h.1.meet k.1
 obtain ⟨b1, b2⟩ := h.2.1.meet k.2.1
 obtain ⟨c1, c2⟩ := h.2.2.meet k.2.2
 simp [mtV, mt1, a1, a2, b1, b2, c1, c2]
theorem each_ok {f : Int → Int → Int → Int → R3} {a b : V3} (h : (eachV f a b).e = 0) :
    (f a.a a.b b.a b.b).e = 0 ∧ (f a.c a.d b.c b.d).e = 0 ∧ (f a.e a.f b.e b.f).e = 0 ∧ (eachV f a b).v = v3 (f a.a a.b b.a b.b) (f a.c a.d b.c b.d) (f a.e a.f b.e b.f) := by
 unfold eachV at h ⊢
 by_cases c : ck2V a b = 0
 ·have hn : ¬ ck2V a b ≠ 0 := by omega
  rw [if_neg hn] at h ⊢
  unfold vecV at h ⊢
  by_cases e : (each2 f a b).e = 0
  ·have hm : ¬ (each2 f a b).e ≠ 0 := by omega
   rw [if_neg hm]
   obtain ⟨g1, g2, g3⟩ := do_ok e
   obtain ⟨g4, g5, g6⟩ := do_ok g1
   obtain ⟨g7, g8, g9⟩ := do_ok g4
   refine ⟨g8, g5, g2, ?_⟩
   show v3 (each0 f a b) (each1 f a b) (each2 f a b) = _
   rw [show each0 f a b = _ from g9, show each1 f a b = _ from g6, show each2 f a b = _ from g3]
  ·rw [if_pos e] at h; exact absurd h e
 ·rw [if_pos c] at h; exact absurd h c
theorem goR_ok2 {a b : V3} {x y : Int} (h : (goR a b x y).e = 0) : (scaV b x y).e = 0 ∧ (eachV addI a (scaV b x y).v).e = 0 ∧ goR a b x y = eachV addI a (scaV b x y).v := by
 by_cases k : (scaV b x y).e = 0
 ·rw [goR_ok k] at h ⊢; exact ⟨k, h, rfl⟩
 ·rw [goR_bad k] at h; exact absurd h (by decide)
theorem goR_hq {a b : V3} {x y : Int} {q w : Q3} {t : Rat} (h : (goR a b x y).e = 0) (h1 : HqV a q) (h2 : HqV b w) (h3 : Hq x y t) : HqV (goR a b x y).v (goQ q w t) := by
 obtain ⟨e1, e2, e3⟩ := goR_ok2 h
 obtain ⟨m0, m1, m2, m3⟩ := each_ok (f := mulI) (a := b) (b := ⟨x, y, x, y, x, y⟩) e1
 obtain ⟨s0, s1, s2, s3⟩ := each_ok e2
 rw [e3, s3]
 have ev : (scaV b x y).v = v3 (mulI b.a b.b x y) (mulI b.c b.d x y) (mulI b.e b.f x y) := m3
 rw [ev] at s0 s1 s2 ⊢
 exact ⟨add_hq s0 h1.1 (mul_hq m0 h2.1 h3), add_hq s1 h1.2.1 (mul_hq m1 h2.2.1 h3), add_hq s2 h1.2.2 (mul_hq m2 h2.2.2 h3)⟩
theorem sq_hq {a b : Int} {x : Rat} (h0 : 0 ≤ a) (h : (sqI a b).e = 0) (k : Hq a b x) : Hq (sqI a b).lo (sqI a b).hi (x * x / UQ) := by
 rw [sqI_mul] at h ⊢
 unfold sqR at h ⊢
 by_cases e : (absI a b).e = 0
 ·have hn : ¬ (absI a b).e ≠ 0 := by omega
  rw [if_neg hn] at h ⊢
  have ea : absI a b = ⟨a, b, 0⟩ := by
   unfold absI at e ⊢
   by_cases c : ckI a b = 0
   ·have hm : ¬ ckI a b ≠ 0 := by omega
    rw [if_neg hm, if_pos h0]
   ·rw [if_pos c] at e; exact absurd e c
  rw [ea] at h ⊢
  exact mul_hq h k k
 ·rw [if_pos e] at h; exact absurd h e
theorem inV_pt {u v : V3} (h : inV u v = true) (k : ckV u = 0) : PtV u v := by
 obtain ⟨k1, k2, k3⟩ := ckV_ok k
 simp only [inV, in1, Bool.and_eq_true, decide_eq_true_eq] at h
 obtain ⟨⟨a1, a2⟩, ⟨b1, b2⟩, c1, c2⟩ := h
 exact ⟨⟨a1, (ckI_ok k1).1, a2⟩, ⟨b1, (ckI_ok k2).1, b2⟩, ⟨c1, (ckI_ok k3).1, c2⟩⟩
theorem wd1_pt {a b c d : Int} (h : a ≤ b) (k : c ≤ d) : wdL a b c d ≤ c ∧ d ≤ wdH a b c d := by
 have : 0 ≤ (max b d - min a c) / 8 := Int.ediv_nonneg (by omega) (by decide)
 unfold wdL wdH; omega
theorem wdV_pt {h b p : V3} (hh : ckV h = 0) (hb : PtV p b) : PtV p (wdV h b) := by
 obtain ⟨k1, k2, k3⟩ := ckV_ok hh
 obtain ⟨⟨a1, a2, a3⟩, ⟨b1, b2, b3⟩, ⟨c1, c2, c3⟩⟩ := hb
 have w0 := wd1_pt (ckI_ok k1).1 (show b.a ≤ b.b by omega)
 have w1 := wd1_pt (ckI_ok k2).1 (show b.c ≤ b.d by omega)
 have w2 := wd1_pt (ckI_ok k3).1 (show b.e ≤ b.f by omega)
 exact ⟨⟨by have := w0.1; show wdL _ _ _ _ ≤ _; omega, a2, by have := w0.2; show _ ≤ wdH _ _ _ _; omega⟩, ⟨by have := w1.1; show wdL _ _ _ _ ≤ _; omega, b2, by have := w1.2; show _ ≤ wdH _ _ _ _; omega⟩, ⟨by have := w2.1; show wdL _ _ _ _ ≤ _; omega, c2, by have := w2.2; show _ ≤ wdH _ _ _ _; omega⟩⟩
theorem trE_ok {A : V7} {p v : V3} {hi : Int} (h : trE A p v hi = 0) : A.e = 0 ∧ (goR v A.v 0 hi).e = 0 ∧ (goR p (goR v A.v 0 hi).v 0 hi).e = 0 := by
 unfold trE at h
 by_cases a : A.e = 0
 ·have a' : ¬ A.e ≠ 0 := by omega
  rw [if_neg a'] at h
  by_cases b : (goR v A.v 0 hi).e = 0
  ·have b' : ¬ (goR v A.v 0 hi).e ≠ 0 := by omega
   rw [if_neg b'] at h
   by_cases c : (goR p (goR v A.v 0 hi).v 0 hi).e = 0
   ·exact ⟨a, b, c⟩
   ·rw [if_pos c] at h; exact absurd h (by decide)
  ·rw [if_pos b] at h; exact absurd h (by decide)
 ·rw [if_pos a] at h; exact absurd h a
theorem st_facts {acc : V3 → V7} {dl dh fr ti : Int} {p v : V3} (hp : ckV p = 0) {t : Tu} : ∀ (k : Nat) (b : V3), PtV p b → stT acc dl dh fr ti p v k b = (t, 0) →
    ∃ b, PtV p b ∧ trE (acc b) p v dh = 0 ∧ inV (huV acc p v b dh) b = true ∧ fiR dl dh fr ti (huV acc p v b dh) (fsV acc v b dh) p v (acc b).v = (t, 0)
  | 0, b, _, h => absurd (congrArg Prod.snd h) (by simp [stT])
  | k + 1, b, hb, h => by
    unfold stT at h
    by_cases e : trE (acc b) p v dh = 0
    · have e' : ¬ trE (acc b) p v dh ≠ 0 := by omega
      rw [if_neg e'] at h
      by_cases i : inV (huV acc p v b dh) b = true
      · rw [if_pos i] at h; exact ⟨b, hb, e, i, h⟩
      · rw [if_neg i] at h
        by_cases c : ckV (wdV (huV acc p v b dh) b) = 0
        · have c' : ¬ ckV (wdV (huV acc p v b dh) b) ≠ 0 := by omega
          rw [if_neg c'] at h
          refine st_facts hp k _ (wdV_pt ?_ hb) h
          obtain ⟨g1, g2, g3⟩ := trE_ok e
          obtain ⟨_, s2, s3⟩ := goR_ok2 g3
          unfold huV fsV
          -- the hull is valid
          obtain ⟨m0, m1, m2, m3⟩ := each_ok s2
          rw [s3, m3]
          have val : ∀ {a b c d : Int}, (addI a b c d).e = 0 → ckI (addI a b c d).lo (addI a b c d).hi = 0 := by
            intro a b c d h
            have hh := h
            unfold addI at hh
            by_cases q : ck2 a b c d = 0
            · obtain ⟨q1, q2⟩ := ck2_ok q
              exact (add_pt (Pt.refl (ckI_ok q1).1) (Pt.refl (ckI_ok q2).1)).ck h
            · rw [if_pos q] at hh; exact absurd hh q
          exact ckV_of (val m0) (val m1) (val m2)
        · rw [if_pos c] at h; exact absurd (congrArg Prod.snd h) (by simp)
    · rw [if_pos e] at h; exact absurd (congrArg Prod.snd h) e
theorem add_val {a b c d : Int} (h : (addI a b c d).e = 0) : ckI (addI a b c d).lo (addI a b c d).hi = 0 := by
 have hh := h
 unfold addI at hh
 by_cases q : ck2 a b c d = 0
 ·obtain ⟨q1, q2⟩ := ck2_ok q
  exact (add_pt (Pt.refl (ckI_ok q1).1) (Pt.refl (ckI_ok q2).1)).ck h
 ·rw [if_pos q] at hh; exact absurd hh q
theorem goR_val {a b : V3} {x y : Int} (h : (goR a b x y).e = 0) : ckV (goR a b x y).v = 0 := by
 obtain ⟨_, s2, s3⟩ := goR_ok2 h
 obtain ⟨m0, m1, m2, m3⟩ := each_ok s2
 rw [s3, m3]
 exact ckV_of (add_val m0) (add_val m1) (add_val m2)
theorem fiR_ok {dl dh fr ti : Int} {h f p v a : V3} {t : Tu} (e : fiR dl dh fr ti h f p v a = (t, 0)) :
    (sqI dl dh).e = 0 ∧ (goR p v dl dh).e = 0 ∧ (goR (goR p v dl dh).v a (hfI dl dh).lo (hfI dl dh).hi).e = 0 ∧ (goR v a dl dh).e = 0 ∧ t = ⟨fr, ti, h, f, (goR (goR p v dl dh).v a (hfI dl dh).lo (hfI dl dh).hi).v, (goR v a dl dh).v⟩ := by
 unfold fiR at e
 by_cases s : (sqI dl dh).e = 0
 ·have s' : ¬ (sqI dl dh).e ≠ 0 := by omega
  rw [if_neg s'] at e
  by_cases g : (goR p v dl dh).e ≠ 0 ∨ (goR (goR p v dl dh).v a (hfI dl dh).lo (hfI dl dh).hi).e ≠ 0 ∨ (goR v a dl dh).e ≠ 0
  ·rw [if_pos g] at e; exact absurd (congrArg Prod.snd e) (by simp)
  ·rw [if_neg g] at e
   exact ⟨s, by omega, by omega, by omega, (congrArg Prod.fst e).symm⟩
 ·rw [if_pos s] at e; exact absurd (congrArg Prod.snd e) (by simp)
structure StOk (L : List SrcD) (dl dh fr ti : Int) (p v : V3) (t : Tu) (A : V3) : Prop where
 kfr : t.fr = fr
 kti : t.ti = ti
 kh : ckV t.h = 0
 kf : ckV t.f = 0
 kp : ckV t.p = 0
 kv : ckV t.v = 0
 accp : ∀ x R, PtV x p → LPt R L → (acL R x).e = 0 ∧ PtV (acL R x).v A
 acch : ∀ x R, PtV x t.h → LPt R L → (acL R x).e = 0 ∧ PtV (acL R x).v A
 goF : (goR v A 0 dh).e = 0 ∧ (goR v A 0 dh).v = t.f
 goH : (goR p t.f 0 dh).e = 0 ∧ (goR p t.f 0 dh).v = t.h
 hull : ∀ q w a s u, HqV p q → HqV v w → HqV A a → Hq 0 dh s → Hq 0 dh u → HqV t.h (goQ q (goQ w a u) s)
 fast : ∀ w a u, HqV v w → HqV A a → Hq 0 dh u → HqV t.f (goQ w a u)
 endP : ∀ q w a s, HqV p q → HqV v w → HqV A a → Hq dl dh s → HqV t.p (goQ (goQ q w s) a (s * s / UQ * (1 : Int) / (2 : Int)))
 endV : ∀ w a s, HqV v w → HqV A a → Hq dl dh s → HqV t.v (goQ w a s)
theorem st_ok {acc : V3 → V7} {L : List SrcD} {dl dh fr ti : Int} {p v : V3} {t : Tu} {k : Nat} (hp : ckV p = 0) (d0 : 0 ≤ dl)
    (hacc : ∀ b, (acc b).e = 0 → (acL L b).e = 0 ∧ (acc b).v = (acL L b).v) (h : stT acc dl dh fr ti p v k p = (t, 0)) : ∃ A, StOk L dl dh fr ti p v t A := by
 obtain ⟨b, hb, e, i, hf⟩ := st_facts hp k p (PtV.refl hp) h
 obtain ⟨g1, g2, g3⟩ := trE_ok e
 obtain ⟨f1, f2, f3, f4, f5⟩ := fiR_ok hf
 obtain ⟨a1, a2⟩ := hacc b g1
 have hh : ckV (huV acc p v b dh) = 0 := goR_val g3
 have hHb : PtV (huV acc p v b dh) b := inV_pt i hh
 subst f5
 refine ⟨(acc b).v, ⟨rfl, rfl, hh, goR_val g2, goR_val f3, goR_val f4, ?_, ?_, ⟨g2, rfl⟩, ⟨g3, rfl⟩, ?_, ?_, ?_, ?_⟩⟩
 ·intro x R hx hR
  obtain ⟨r1, r2, _⟩ := acL_pt (hx.trans hb) hR a1
  rw [a2]; exact ⟨r1, r2⟩
 ·intro x R hx hR
  obtain ⟨r1, r2, _⟩ := acL_pt (PtV.trans hx hHb) hR a1
  rw [a2]; exact ⟨r1, r2⟩
 ·intro q w a s u h1 h2 h3 h4 h5
  exact goR_hq g3 h1 (goR_hq g2 h2 h3 h5) h4
 ·intro w a u h2 h3 h5
  exact goR_hq g2 h2 h3 h5
 ·intro q w a s h1 h2 h3 h4
  have hs := sq_hq d0 f1 h4
  have hg : (hfI dl dh).e = 0 ∨ ¬ (hfI dl dh).e = 0 := Classical.em _
  rcases hg with hg | hg
  ·exact goR_hq f3 (goR_hq f2 h1 h2 h4) h3 (sc_hq hg (by decide) (by decide) hs)
  ·exfalso
   -- the half of a valid square is valid
   refine hg ?_
   have hv : ckI (sqI dl dh).lo (sqI dl dh).hi = 0 := by
    have hd : dl ≤ dh := h4.le
    exact (sq_pt (Pt.refl hd)).ck f1
   obtain ⟨v1, v2, v3⟩ := ckI_ok hv
   unfold hfI scI
   have hn : ¬ ckI (sqI dl dh).lo (sqI dl dh).hi ≠ 0 := by omega
   rw [if_neg hn]
   unfold madeI
   generalize (sqI dl dh).lo = x at *
   generalize (sqI dl dh).hi = y at *
   rw [if_neg (by unfold upT dnT; omega)]
 ·intro w a s h2 h3 h4
  exact goR_hq f4 h2 h3 h4
theorem eqB (d : Nat) (a b c : Bool) (w : World) : (Op.equalIn (d + 1 + 1) 180 (.agg #[.bool a, .bool b, .bool c]) (.agg #[.bool true, .bool true, .bool true])).run Tryz.prog w = .ok (a && (b && c)) w := by
 have h180 : Tryz.prog.underlying 180 = some (.array 3 4) := by kernel_rfl
 have h4 : Tryz.prog.underlying 4 = some .bool := by kernel_rfl
 rw [Op.equalIn]
 have hs : ∀ w, (sizeOf 4).run Tryz.prog w = .ok 1 w := fun w => by kernel_rfl
 have hp0 : ∀ (a b c : Bool) w, (part 4 #[.bool a, .bool b, .bool c] 0).run Tryz.prog w = .ok (.bool a) w := fun a b c w => by kernel_rfl
 have hp1 : ∀ (a b c : Bool) w, (part 4 #[.bool a, .bool b, .bool c] 1).run Tryz.prog w = .ok (.bool b) w := fun a b c w => by kernel_rfl
 have hp2 : ∀ (a b c : Bool) w, (part 4 #[.bool a, .bool b, .bool c] 2).run Tryz.prog w = .ok (.bool c) w := fun a b c w => by kernel_rfl
 have he : ∀ (a b : Bool) w, (Op.equalIn (d + 1) 4 (.bool a) (.bool b)).run Tryz.prog w = .ok (a == b) w := fun a b w => by
  rw [Op.equalIn]
  simp [Sem.run_bind, run_underlying h4, Result.andThen_ok]
 simp only [Sem.run_bind, run_underlying h180, Result.andThen_ok, hs, Nat.mul_one]
 simp only [Std.Legacy.Range.forIn_eq_forIn_range', Std.Legacy.Range.size]
 have hr : List.range' 0 3 = [0, 1, 2] := rfl
 simp [List.range', hp0, hp1, hp2, he]
 cases a <;> cases b <;> cases c <;> (try simp [he, hp1, hp2])
theorem eqB4 (a b c : Bool) (w : World) : (Op.equalIn 10000 180 (.agg #[.bool a, .bool b, .bool c]) (.agg #[.bool true, .bool true, .bool true])).run Tryz.prog w = .ok (a && (b && c)) w := eqB 9998 a b c w
def tuL (t : Tu) : List Int := [t.fr, t.ti, t.h.a, t.h.b, t.h.c, t.h.d, t.h.e, t.h.f, t.f.a, t.f.b, t.f.c, t.f.d, t.f.e, t.f.f, t.p.a, t.p.b, t.p.c, t.p.d, t.p.e, t.p.f, t.v.a, t.v.b, t.v.c, t.v.d, t.v.e, t.v.f]
def six (v : V3) : List Int := [v.a, v.b, v.c, v.d, v.e, v.f]
def setsL : List Int → Nat → List Int → List Int
 | l, _, [] => l
 | l, o, x :: m => setsL (l.set o x) (o + 1) m
theorem VB.sets {g : Nat} : ∀ (m : List Int) (o : Nat) (l : List Int) (w : World), VB w g l → o + m.length ≤ l.length → VB (w.setCells g o (m.map (Value.int .i64))) g (setsL l o m)
 | [], _, _, _, h, _ => h
 | x :: m, o, l, w, h, hl => VB.sets m (o + 1) (l.set o x) _ (h.set o x (by simp only [List.length_cons] at hl; omega)) (by simp only [List.length_cons] at hl; rw [List.length_set]; omega)
theorem GB.sets {T : Nat} {a : World} : ∀ (vs : List Value) (o : Nat) (b : World), GB T a b → GB T a (b.setCells T o vs)
 | [], _, _, h => h
 | v :: r, o, b, h => GB.sets r (o + 1) _ (h.set v)
theorem VB.mid {w : World} {g : Nat} {l : List Int} (h : VB w g l) (o n : Nat) (hn : o + n ≤ l.length) : w.there g o n := fun j hj =>
 ⟨by rw [h.1 (o + j) _ (List.getElem?_eq_getElem (by omega))]; rfl, h.2.1 _⟩
def RowAt (W w : World) (b o : Nat) (vs : List Value) : Prop := W = w.setCells b o vs
theorem store_at {P : Program} {ops : Array Oper} {rest : List Oper} {op : Oper} {a : Act} {w : World} {Q : Exit → Act → World → Prop} (hgd : op.guard = none) (ty : TypeId) (x y : Operand) (ho : op.op = .store ty x y)
    (b o : Nat) (cells : Array Value) (hx : a.eval x = .pointer (some ⟨b, o, none⟩)) (hy : a.eval y = .agg cells)
    (ht : w.there b o cells.size) (hi : (P.info? ty).map (·.size) = some cells.size) (h1 : cells.all (·.oneCell') = true)
    (h : ∀ W, RowAt W w b o cells.toList → wpList P ops Q rest (a.put op.dst undef) W) : wpList P ops Q (op :: rest) a w :=
  wpList_store_mid hgd ty x y ho b o cells hx hy ht hi h1 (h _ rfl)
theorem RowAt.vb {W w : World} {g o : Nat} {l m : List Int} (k : RowAt W w g o (m.map (Value.int .i64))) (h : VB w g l) (hl : o + m.length ≤ l.length) : VB W g (setsL l o m) := by
 rw [show W = _ from k]; exact VB.sets m o l w h hl
theorem RowAt.gb {a W w : World} {g o : Nat} {vs : List Value} (k : RowAt W w g o vs) (h : GB g a w) : GB g a W := by
 rw [show W = _ from k]; exact GB.sets vs o w h
theorem cell_sets {g B j : Nat} (hne : B ≠ g) : ∀ (vs : List Value) (o : Nat) (w : World), (w.setCells g o vs).cell? ⟨B, j, none⟩ = w.cell? ⟨B, j, none⟩
 | [], _, _ => rfl
 | v :: r, o, w => (cell_sets hne r (o + 1) _).trans (by rw [cell_sc, if_neg (fun e => hne c_58)])
theorem frozen_sets {g : Nat} {p : Addr} : ∀ (vs : List Value) (o : Nat) (w : World), (w.setCells g o vs).frozen? p = w.frozen? p
 | [], _, _ => rfl
 | v :: r, o, w => (frozen_sets r (o + 1) _).trans (World.frozen?_setCell ..)
theorem size_sets {g : Nat} : ∀ (vs : List Value) (o : Nat) (w : World), (w.setCells g o vs).heap.size = w.heap.size
 | [], _, _ => rfl
 | v :: r, o, w => (size_sets r (o + 1) _).trans (World.size_setCell ..)
def B3 (w : World) (g : Nat) (x y z : Bool) : Prop := w.cell? ⟨g, 0, none⟩ = some (.bool x) ∧ w.cell? ⟨g, 1, none⟩ = some (.bool y) ∧ w.cell? ⟨g, 2, none⟩ = some (.bool z) ∧ (∀ o, w.frozen? ⟨g, o, none⟩ = false) ∧ g < w.heap.size
theorem B3.ext {a w : World} {g : Nat} {x y z : Bool} (h : B3 a g x y z) (k : Ext a w) : B3 w g x y z := by
 obtain ⟨c0, c1, c2, cf, cl⟩ := h
 exact ⟨(k.cells.1 g 0 cl).trans c0, (k.cells.1 g 1 cl).trans c1, (k.cells.1 g 2 cl).trans c2, fun o => (k.cells.2 g o cl).trans (cf o), Nat.lt_of_lt_of_le cl k.size⟩
theorem RowAt.b3 {W w : World} {g B o : Nat} {vs : List Value} {x y z : Bool} (k : RowAt W w g o vs) (h : B3 w B x y z) (hne : B ≠ g) : B3 W B x y z := by
 rw [show W = _ from k]
 obtain ⟨c0, c1, c2, cf, cl⟩ := h
 exact ⟨(cell_sets hne vs o w).trans c0, (cell_sets hne vs o w).trans c1, (cell_sets hne vs o w).trans c2, fun q => (frozen_sets vs o w).trans (cf q), by rw [size_sets]; exact cl⟩
theorem RowAt.other {W w : World} {g B o : Nat} {vs : List Value} {l : List Int} (k : RowAt W w g o vs) (h : VB w B l) (hne : B ≠ g) : VB W B l := by
 rw [show W = _ from k]
 exact ⟨fun j x hj => (cell_sets hne vs o w).trans (h.1 j x hj), fun q => (frozen_sets vs o w).trans (h.2.1 q), by rw [size_sets]; exact h.2.2⟩
theorem B3.lit (w : World) (x y z : Bool) (t : TypeId) : B3 (w.alloc (.cells #[.bool x, .bool y, .bool z] t)) w.heap.size x y z := by
 simp [B3, go_sem, ↓IntWalk.iteOmega]
theorem b3_ne {w : World} {g i j : Nat} {v : Value} (h : i ≠ j) : (w.setCell ⟨g, j, none⟩ v).cell? ⟨g, i, none⟩ = w.cell? ⟨g, i, none⟩ := by
 rw [cell_sc, if_neg (fun e => h (by have := congrArg Addr.off e; simpa using this))]
theorem b3_eq {w : World} {g i : Nat} {u v : Value} (h : w.cell? ⟨g, i, none⟩ = some u) : (w.setCell ⟨g, i, none⟩ v).cell? ⟨g, i, none⟩ = some v := by
 rw [cell_sc, if_pos rfl, h]; rfl
theorem B3.s0 {w : World} {g : Nat} {x y z : Bool} (h : B3 w g x y z) (b : Bool) : B3 (w.setCell ⟨g, 0, none⟩ (.bool b)) g b y z :=
 ⟨b3_eq h.1, (b3_ne (by decide)).trans h.2.1, (b3_ne (by decide)).trans h.2.2.1, fun o => by rw [World.frozen?_setCell]; exact h.2.2.2.1 o, by simpa using h.2.2.2.2⟩
theorem B3.s1 {w : World} {g : Nat} {x y z : Bool} (h : B3 w g x y z) (b : Bool) : B3 (w.setCell ⟨g, 1, none⟩ (.bool b)) g x b z :=
 ⟨(b3_ne (by decide)).trans h.1, b3_eq h.2.1, (b3_ne (by decide)).trans h.2.2.1, fun o => by rw [World.frozen?_setCell]; exact h.2.2.2.1 o, by simpa using h.2.2.2.2⟩
theorem B3.s2 {w : World} {g : Nat} {x y z : Bool} (h : B3 w g x y z) (b : Bool) : B3 (w.setCell ⟨g, 2, none⟩ (.bool b)) g x y b :=
 ⟨(b3_ne (by decide)).trans h.1, (b3_ne (by decide)).trans h.2.1, b3_eq h.2.2.1, fun o => by rw [World.frozen?_setCell]; exact h.2.2.2.1 o, by simpa using h.2.2.2.2⟩
theorem tyI65 : (Tryz.prog.info? 65).map (·.size) = some 26 := by kernel_rfl
theorem tyU65 : ∃ d, Tryz.prog.underlying 65 = some d ∧ d.isRow = true := by
 have h : (Tryz.prog.underlying 65).map (·.isRow) = some true := by kernel_rfl
 cases e : Tryz.prog.underlying 65 with
 | none => rw [e] at h; cases h
 | some d => exact ⟨d, rfl, by rw [e] at h; exact Option.some.inj h⟩
theorem fi_boxes (w : World) (t : Tu) (p v a : V3) (dl dh : Int) (U : World) (hU : U = ((((((w.alloc (.cells (tvs t).toArray 65)).alloc (.cells #[.int .i64 p.a, .int .i64 p.b, .int .i64 p.c, .int .i64 p.d, .int .i64 p.e, .int .i64 p.f] 28)).alloc (.cells #[.int .i64 v.a, .int .i64 v.b, .int .i64 v.c, .int .i64 v.d, .int .i64 v.e, .int .i64 v.f] 28)).alloc (.cells #[.int .i64 a.a, .int .i64 a.b, .int .i64 a.c, .int .i64 a.d, .int .i64 a.e, .int .i64 a.f] 28)).alloc (.cells #[.int .i64 dl, .int .i64 dh] 26)).alloc (.cells (tvs Tu.O).toArray 65))) :
    Ext w U ∧ VB U w.heap.size (tuL t) ∧ VB U (w.heap.size + 1) (six p) ∧ VB U (w.heap.size + 1 + 1) (six v) ∧ VB U (w.heap.size + 1 + 1 + 1) (six a) ∧ VB U (w.heap.size + 1 + 1 + 1 + 1) [dl, dh] ∧ VB U (w.heap.size + 1 + 1 + 1 + 1 + 1) (tuL Tu.O) := by
 subst hU
 have e := fun (x : World) (o : Obj) => (Ext.refl x).alloc o
 refine ⟨((((((Ext.refl w).alloc _).alloc _).alloc _).alloc _).alloc _).alloc _, ?_, ?_, ?_, ?_, ?_, ?_⟩
 ·exact (VB.lit w (tuL t) 65).ext ((((((Ext.refl _).alloc _).alloc _).alloc _).alloc _).alloc _)
 ·have h := (VB.lit (w.alloc (.cells (tvs t).toArray 65)) (six p) 28).ext (((((Ext.refl _).alloc (.cells #[.int .i64 v.a, .int .i64 v.b, .int .i64 v.c, .int .i64 v.d, .int .i64 v.e, .int .i64 v.f] 28)).alloc (.cells #[.int .i64 a.a, .int .i64 a.b, .int .i64 a.c, .int .i64 a.d, .int .i64 a.e, .int .i64 a.f] 28)).alloc (.cells #[.int .i64 dl, .int .i64 dh] 26)).alloc (.cells (tvs Tu.O).toArray 65))
  rw [World.size_alloc] at h; exact h
 ·have h := (VB.lit ((w.alloc (.cells (tvs t).toArray 65)).alloc (.cells #[.int .i64 p.a, .int .i64 p.b, .int .i64 p.c, .int .i64 p.d, .int .i64 p.e, .int .i64 p.f] 28)) (six v) 28).ext ((((Ext.refl _).alloc (.cells #[.int .i64 a.a, .int .i64 a.b, .int .i64 a.c, .int .i64 a.d, .int .i64 a.e, .int .i64 a.f] 28)).alloc (.cells #[.int .i64 dl, .int .i64 dh] 26)).alloc (.cells (tvs Tu.O).toArray 65))
  rw [World.size_alloc, World.size_alloc] at h; exact h
 ·have h := (VB.lit (((w.alloc (.cells (tvs t).toArray 65)).alloc (.cells #[.int .i64 p.a, .int .i64 p.b, .int .i64 p.c, .int .i64 p.d, .int .i64 p.e, .int .i64 p.f] 28)).alloc (.cells #[.int .i64 v.a, .int .i64 v.b, .int .i64 v.c, .int .i64 v.d, .int .i64 v.e, .int .i64 v.f] 28)) (six a) 28).ext (((Ext.refl _).alloc (.cells #[.int .i64 dl, .int .i64 dh] 26)).alloc (.cells (tvs Tu.O).toArray 65))
  rw [World.size_alloc, World.size_alloc, World.size_alloc] at h; exact h
 ·have h := (VB.lit ((((w.alloc (.cells (tvs t).toArray 65)).alloc (.cells #[.int .i64 p.a, .int .i64 p.b, .int .i64 p.c, .int .i64 p.d, .int .i64 p.e, .int .i64 p.f] 28)).alloc (.cells #[.int .i64 v.a, .int .i64 v.b, .int .i64 v.c, .int .i64 v.d, .int .i64 v.e, .int .i64 v.f] 28)).alloc (.cells #[.int .i64 a.a, .int .i64 a.b, .int .i64 a.c, .int .i64 a.d, .int .i64 a.e, .int .i64 a.f] 28)) [dl, dh] 26).ext ((Ext.refl _).alloc (.cells (tvs Tu.O).toArray 65))
  rw [World.size_alloc, World.size_alloc, World.size_alloc, World.size_alloc] at h; exact h
 ·have h := VB.lit (((((w.alloc (.cells (tvs t).toArray 65)).alloc (.cells #[.int .i64 p.a, .int .i64 p.b, .int .i64 p.c, .int .i64 p.d, .int .i64 p.e, .int .i64 p.f] 28)).alloc (.cells #[.int .i64 v.a, .int .i64 v.b, .int .i64 v.c, .int .i64 v.d, .int .i64 v.e, .int .i64 v.f] 28)).alloc (.cells #[.int .i64 a.a, .int .i64 a.b, .int .i64 a.c, .int .i64 a.d, .int .i64 a.e, .int .i64 a.f] 28)).alloc (.cells #[.int .i64 dl, .int .i64 dh] 26)) (tuL Tu.O) 65
  rw [World.size_alloc, World.size_alloc, World.size_alloc, World.size_alloc, World.size_alloc] at h; exact h
theorem c_check (v : V3) (w : World) :
    Calls Tryz.prog 22 #[.agg #[.int .i64 v.a, .int .i64 v.b, .int .i64 v.c, .int .i64 v.d, .int .i64 v.e, .int .i64 v.f]] w fun e w' => e = .returned (.int .i64 (ckV v)) ∧ Ext w w' := by
 have l0 : IntKind.i64.wrap 0 = 0 := rfl
 have l1 : IntKind.i64.wrap 1 = 1 := rfl
 have l2 : IntKind.i64.wrap 2 = 2 := rfl
 have l3 : IntKind.i64.wrap 3 = 3 := rfl
 go_enter Tryz.func22, Tryz.ntmps22
 go_wp2_with fail
 refine wp_loop_rounds 4 ?_
 repeat
  any_goals
   rw [rounds_succ]
   go_wp2_with (first | (go_at_call 60; (with_reducible refine (ref_check _ _ _).mono ?_); rintro e w1 ⟨rfl, hb⟩; obtain ⟨_, _, ⟨hc, hf⟩, hz⟩ := hb.c3; (try simp only [wsz] at hz hc hf)))
 all_goals
  go_ret
  refine ⟨?_, ?_⟩
  ·(try simp only [bn_, bm_] at *)
   first | (simp [ckV, ck2, *]; done) | (simp [ckV, ck2, *]; omega)
  ·exact b_6
end Go.Proofs.YtbkgakgdbmjmjaaGreat
