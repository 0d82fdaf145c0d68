/- flow.Stays: the walk. -/
import Derived.Test.YtbkgakgdbmjmjaaGreatP34
import Derived.Test.YtbkgakgdbmjmjaaGreatP30
set_option linter.unusedSimpArgs false
set_option linter.unusedVariables false
set_option maxRecDepth 100000
set_option maxHeartbeats 4000000
namespace Go.Proofs.YtbkgakgdbmjmjaaGreat
open Go.RowKit
def syR (C : Int) (A W N : V7) (t : Tu) : Bool × Int :=
 if C ≠ 0 then (false, C) else if A.e ≠ 0 then (false, A.e) else if W.e ≠ 0 ∨ N.e ≠ 0 then (false, 24) else (inV W.v t.f && inV N.v t.h, 0)
theorem ckF_ok {E fr ti : Int} {l : List V3} (h : ckF E l fr ti = 0) : E = 0 ∧ ckL l = 0 ∧ fr < ti ∧ -5000000000000000 ≤ fr ∧ ti ≤ 5000000000000000 := by
 unfold ckF at h
 split at h
 ·rename_i h1; exact absurd h h1
 ·rename_i h1
  split at h
  ·rename_i h2; exact absurd h h2
  ·rename_i h2
   split at h
   ·exact absurd h (by decide)
   ·split at h
    ·exact absurd h (by decide)
    ·exact ⟨Classical.not_not.1 h1, Classical.not_not.1 h2, by omega, by omega, by omega⟩
theorem pa_I {fr ti : Int} (h1 : fr < ti) (h2 : -5000000000000000 ≤ fr) (h3 : ti ≤ 5000000000000000) : (I64 (ofLo (paX fr ti)) ∧ I64 (ofHi (paX fr ti))) ∧ 0 ≤ ofLo (paX fr ti) ∧ ofLo (paX fr ti) ≤ ofHi (paX fr ti) := by
 have hfl : 0 ≤ (paX fr ti).num / ((paX fr ti).den : Int) ∧ (paX fr ti).num / ((paX fr ti).den : Int) ≤ 200000 := pace_fl (n := ti - fr) (d := 86400000000) (by decide) (a := 0) (b := 200000) (by omega) (by omega)
 obtain ⟨k1, k2, k3, k4⟩ := ofLo_le hfl.1 hfl.2
 unfold I64
 omega
def paL (C fr ti : Int) : Int := if C = 0 then ofLo (paX fr ti) else 0
def paH (C fr ti : Int) : Int := if C = 0 then ofHi (paX fr ti) else 0
theorem pa_IC {E fr ti : Int} {l : List V3} : I64 (paL (ckF E l fr ti) fr ti) ∧ I64 (paH (ckF E l fr ti) fr ti) := by
 unfold paL paH
 by_cases h : ckF E l fr ti = 0
 ·obtain ⟨_, _, k1, k2, k3⟩ := ckF_ok h
  rw [if_pos h, if_pos h]
  exact (pa_I k1 k2 k3).1
 ·rw [if_neg h, if_neg h]
  exact ⟨I64_0, I64_0⟩
theorem pa_call {E fr ti : Int} {l : List V3} (h : ckF E l fr ti = 0) (w1 : World) : Calls Tryz.prog 68 #[.int .i64 fr, .int .i64 ti] w1 fun e w' => e = .returned (.tuple #[.agg #[.int .i64 (paL (ckF E l fr ti) fr ti), .int .i64 (paH (ckF E l fr ti) fr ti)], .agg #[.int .i64 0, .int .i64 (paH (ckF E l fr ti) fr ti)]]) ∧ Ext w1 w' := by
 obtain ⟨_, _, k1, k2, k3⟩ := ckF_ok h
 unfold paL paH
 rw [if_pos h, if_pos h]
 exact fl_pace fr ti w1 k1 k2 k3
noncomputable def syV (E : Int) (l : List BodyD) (t : Tu) (p v : V3) : Bool × Int :=
 syR (ckF E [p, v, t.h, t.f, t.p, t.v] t.fr t.ti) (acR E l t.fr t.ti t.h) (goR v (acR E l t.fr t.ti t.h).v 0 (paH (ckF E [p, v, t.h, t.f, t.p, t.v] t.fr t.ti) t.fr t.ti)) (goR p t.f 0 (paH (ckF E [p, v, t.h, t.f, t.p, t.v] t.fr t.ti) t.fr t.ti)) t
noncomputable def stR (E : Int) (l : List BodyD) (fr ti : Int) (p v : V3) : Tu × Int :=
 if ckF E [p, v] fr ti ≠ 0 then (Tu.O, ckF E [p, v] fr ti) else stT (fun b => acR E l fr ti b) (paL (ckF E [p, v] fr ti) fr ti) (paH (ckF E [p, v] fr ti) fr ti) fr ti p v 20 p
theorem p_Step (u : Value) (l : List BodyD) (E : Int) (fr ti : Int) (p v : V3) (w : World) (hB : Bds w u l) (hE : CkE l E) (hS : E = 0 → Sml l) (hv : v.I) :
    Calls Tryz.prog 30 #[.agg #[u], .int .i64 fr, .int .i64 ti, .agg #[.int .i64 p.a, .int .i64 p.b, .int .i64 p.c, .int .i64 p.d, .int .i64 p.e, .int .i64 p.f], .agg #[.int .i64 v.a, .int .i64 v.b, .int .i64 v.c, .int .i64 v.d, .int .i64 v.e, .int .i64 v.f]] w fun e w' => e = .returned (.tuple #[tv (stR E l fr ti p v).1, .int .i64 (stR E l fr ti p v).2]) ∧ Ext w w' := by
 obtain ⟨ao, b, o, cap, rfl, _, _, _⟩ := hB.len
 exact st_walk (fun b => acR E l fr ti b) (ckF E [p, v] fr ti) (stR E l fr ti p v) ao l.length cap fr ti (paL (ckF E [p, v] fr ti) fr ti) (paH (ckF E [p, v] fr ti) fr ti) p v w
  (fun b w1 hb k => p_Accel _ l E fr ti b w1 (hB.ext k) hE hS (ckV_I hb)) (fun b => acR_I ..) hv pa_IC
  (fun u w1 hv k => fl_check E ao l.length cap u [p, v] fr ti w1 hv (fun w2 k2 => p_eCheck _ l E w2 (hB.ext (k.trans k2)) hE))
  (fun h w1 => pa_call h w1)
  (fun h => by
   have h2 := (ckF_ok h).2.1
   unfold ckL at h2
   split at h2
   ·rename_i h3; exact absurd h2 h3
   ·rename_i h3; exact Classical.not_not.1 h3) rfl
def loQ (v : V3) : Q3 := ⟨(v.a : Rat), (v.c : Rat), (v.e : Rat)⟩
theorem loQ_in {v : V3} (h : ckV v = 0) : HqV v (loQ v) := by
 obtain ⟨k1, k2, k3⟩ := ckV_ok h
 exact ⟨Hq.pt (Int.le_refl _) (ckI_ok k1).1, Hq.pt (Int.le_refl _) (ckI_ok k2).1, Hq.pt (Int.le_refl _) (ckI_ok k3).1⟩
theorem loQ_pt {u v : V3} (h : PtV u v) : HqV v (loQ u) :=
 ⟨⟨Rat.intCast_le_intCast.2 h.1.1, Rat.intCast_le_intCast.2 (Int.le_trans h.1.2.1 h.1.2.2)⟩, ⟨Rat.intCast_le_intCast.2 h.2.1.1, Rat.intCast_le_intCast.2 (Int.le_trans h.2.1.2.1 h.2.1.2.2)⟩, ⟨Rat.intCast_le_intCast.2 h.2.2.1, Rat.intCast_le_intCast.2 (Int.le_trans h.2.2.2.1 h.2.2.2.2)⟩⟩
theorem goQ_zero (q w : Q3) : goQ q w 0 = q := by
 unfold goQ
 have h : ∀ a b : Rat, a + b * 0 / UQ = a := fun a b => by rw [Rat.mul_zero]; grind
 rw [h, h, h]
theorem half_eq (x w a s : Rat) : x + w * s / UQ + a * (s * s / UQ * ((1 : Int) : Rat) / ((2 : Int) : Rat)) / UQ = x + (w + a * (s / 2) / UQ) * s / UQ := by
 have h1 : ((1 : Int) : Rat) = 1 := rfl
 have h2 : ((2 : Int) : Rat) = 2 := rfl
 rw [h1, h2]
 grind
theorem goQ_half (q w a : Q3) (s : Rat) : goQ (goQ q w s) a (s * s / UQ * ((1 : Int) : Rat) / ((2 : Int) : Rat)) = goQ q (goQ w a (s / 2)) s := by
 unfold goQ
 simp only [half_eq]
theorem hq_zero {d : Int} (h : 0 ≤ d) : Hq 0 d 0 := ⟨Rat.intCast_le_intCast.2 (Int.le_refl 0), by have := Rat.intCast_le_intCast.2 h; simpa using this⟩
theorem hq_half {a b : Int} {s : Rat} (h0 : 0 ≤ a) (h : Hq a b s) : Hq 0 b s ∧ Hq 0 b (s / 2) := by
 have g : (0 : Rat) ≤ (a : Rat) := by have := Rat.intCast_le_intCast.2 h0; simpa using this
 obtain ⟨h1, h2⟩ := h
 have e : ((0 : Int) : Rat) = 0 := rfl
 refine ⟨⟨?_, h2⟩, ⟨?_, ?_⟩⟩ <;> (try rw [e]) <;> grind
variable {L : List SrcD} {dl dh fr ti : Int} {p v : V3} {t : Tu} {A : V3}
theorem st_meets (S : StOk L dl dh fr ti p v t A) (hp : ckV p = 0) (hv : ckV v = 0) (d0 : 0 ≤ dl) (d1 : dl ≤ dh) (hL : LPt L L) :
    mtV t.h p = true ∧ mtV t.f v = true ∧ mtV t.h t.p = true ∧ mtV t.f t.v = true := by
 have ha := loQ_pt (S.acch t.h L (PtV.refl S.kh) hL).2
 have hq := loQ_in hp
 have hw := loQ_in hv
 have z := hq_zero (show (0 : Int) ≤ dh by omega)
 have hs : Hq dl dh (dl : Rat) := Hq.pt (Int.le_refl _) d1
 obtain ⟨s1, s2⟩ := hq_half d0 hs
 have h1 := S.hull _ _ _ _ _ hq hw ha z z
 rw [goQ_zero] at h1
 have h2 := S.fast _ _ _ hw ha z
 rw [goQ_zero] at h2
 have h3 := S.hull _ _ _ _ _ hq hw ha s1 s2
 have h4 := S.endP _ _ _ _ hq hw ha hs
 rw [goQ_half] at h4
 exact ⟨mt_of h1 hq, mt_of h2 hw, mt_of h3 h4, mt_of (S.fast _ _ _ hw ha s1) (S.endV _ _ _ hw ha hs)⟩
def mdV (p : V3) : V3 := ⟨p.a + (p.b - p.a) / 2, p.a + (p.b - p.a) / 2, p.c + (p.d - p.c) / 2, p.c + (p.d - p.c) / 2, p.e + (p.f - p.e) / 2, p.e + (p.f - p.e) / 2⟩
theorem ga_src {l : List BodyD} {fr ti : Int} {b : V3} (h : (gaR 0 l fr ti b).2 = 0) : (gaR 0 l fr ti b).1 = (srN l fr ti l.length).1 ∧ (srN l fr ti l.length).2 = 0 := by
 unfold gaR at h ⊢
 rw [if_neg (by simp)] at h ⊢
 by_cases e : ckV b = 0
 ·have e1 : ¬ (ckV b ≠ 0) := fun c => c e
  rw [if_neg e1] at h ⊢
  by_cases f : ti < fr
  ·rw [if_pos f] at h; exact absurd h (by decide)
  ·rw [if_neg f] at h ⊢
   by_cases g : (srN l fr ti l.length).2 = 0
   ·have g1 : ¬ ((srN l fr ti l.length).2 ≠ 0) := fun c => c g
    rw [if_neg g1]
    exact ⟨rfl, g⟩
   ·rw [if_pos g] at h; exact absurd h g
 ·rw [if_pos e] at h; exact absurd h e
theorem ac_src {l : List BodyD} {fr ti : Int} {b : V3} (h : (acR 0 l fr ti b).e = 0) : (gaR 0 l fr ti b).2 = 0 ∧ (acL (srN l fr ti l.length).1 b).e = 0 ∧ (acR 0 l fr ti b).v = (acL (srN l fr ti l.length).1 b).v := by
 by_cases g : (gaR 0 l fr ti b).2 = 0
 ·obtain ⟨s1, -⟩ := ga_src g
  unfold acR at h ⊢
  rw [s1] at h ⊢
  have g1 : ¬ ((gaR 0 l fr ti b).2 ≠ 0) := fun c => c g
  simp only [if_neg g1] at h ⊢
  unfold acL
  by_cases k : (acN b (srN l fr ti l.length).1 (ac0 b)).e = 0
  ·have k1 : ¬ ((acN b (srN l fr ti l.length).1 (ac0 b)).e ≠ 0) := fun c => c k
   rw [if_neg k1]
   exact ⟨g, k, rfl⟩
  ·rw [if_pos k] at h; exact absurd h (by decide)
 ·unfold acR at h
  rw [if_pos g] at h; exact absurd h g
theorem ckL2 {p v : V3} (h : ckL [p, v] = 0) : ckV p = 0 ∧ ckV v = 0 := by
 unfold ckL at h
 split at h
 ·rename_i h1; exact absurd h h1
 ·rename_i h1
  refine ⟨Classical.not_not.1 h1, ?_⟩
  unfold ckL at h
  split at h
  ·rename_i h2; exact absurd h h2
  ·rename_i h2; exact Classical.not_not.1 h2
theorem st_made {E : Int} {l : List BodyD} {fr ti : Int} {p v : V3} {t : Tu} (hE : CkE l E) (h : stR E l fr ti p v = (t, 0)) :
    E = 0 ∧ (ckV p = 0 ∧ ckV v = 0) ∧ fr < ti ∧ -5000000000000000 ≤ fr ∧ ti ≤ 5000000000000000 ∧ (srN l fr ti l.length).2 = 0 ∧ LPt (srN l fr ti l.length).1 (srN l fr ti l.length).1 ∧
      ∃ A, StOk (srN l fr ti l.length).1 (ofLo (paX fr ti)) (ofHi (paX fr ti)) fr ti p v t A := by
 unfold stR at h
 by_cases hc : ckF E [p, v] fr ti = 0
 ·have hc1 : ¬ (ckF E [p, v] fr ti ≠ 0) := fun c => c hc
  rw [if_neg hc1] at h
  obtain ⟨rfl, k1, k2, k3, k4⟩ := ckF_ok hc
  obtain ⟨kp, kv⟩ := ckL2 k1
  unfold paL paH at h
  rw [if_pos hc, if_pos hc] at h
  have hd := (pa_I k2 k3 k4).2
  have hacc : ∀ b, (acR 0 l fr ti b).e = 0 → (acL (srN l fr ti l.length).1 b).e = 0 ∧ (acR 0 l fr ti b).v = (acL (srN l fr ti l.length).1 b).v := fun b hb => (ac_src hb).2
  obtain ⟨b, -, eb, -, -⟩ := st_facts kp 20 p (PtV.refl kp) h
  have hg := (ac_src (trE_ok eb).1).1
  obtain ⟨s1, s2⟩ := ga_src hg
  have hL := lpt_refl (gaR_pt (fr := fr) (ti := ti) (p := b) hE)
  rw [s1] at hL
  obtain ⟨A, S⟩ := st_ok (acc := fun b => acR 0 l fr ti b) kp hd.1 hacc h
  exact ⟨rfl, ⟨kp, kv⟩, k2, k3, k4, s2, hL, A, S⟩
 ·rw [if_pos hc] at h
  exact absurd (congrArg Prod.snd h) hc
theorem sd_true {L : List SrcD} {dl dh fr ti : Int} {p v : V3} {t : Tu} {A : V3} (S : StOk L dl dh fr ti p v t A) : sdB t = true := by
 unfold sdB
 rw [decide_eq_true S.kh, decide_eq_true S.kf, decide_eq_true S.kp, decide_eq_true S.kv]; rfl
theorem fs_one {E : Int} {l : List BodyD} {fr ti : Int} {p v : V3} {t : Tu} (hE : CkE l E) (h : stR E l fr ti p v = (t, 0)) :
    (ckV p = 0 ∧ ckV v = 0) ∧ (t.fr = fr ∧ t.ti = ti) ∧ sdB t = true ∧ mtV t.h p = true ∧ mtV t.f v = true ∧ mtV t.h t.p = true ∧ mtV t.f t.v = true := by
 obtain ⟨-, ⟨kp, kv⟩, k2, k3, k4, -, hL, A, S⟩ := st_made hE h
 have hd := (pa_I k2 k3 k4).2
 obtain ⟨m1, m2, m3, m4⟩ := st_meets S kp kv hd.1 hd.2 hL
 exact ⟨⟨kp, kv⟩, ⟨S.kfr, S.kti⟩, sd_true S, m1, m2, m3, m4⟩
theorem stR_I {E : Int} {l : List BodyD} {fr ti : Int} {p v : V3} (hE : CkE l E) (h : (stR E l fr ti p v).2 = 0) : (stR E l fr ti p v).1.v.I := by
 have e : stR E l fr ti p v = ((stR E l fr ti p v).1, 0) := Prod.ext rfl h
 obtain ⟨-, -, -, -, -, -, -, A, S⟩ := st_made hE e
 exact ckV_I S.kv
theorem p_Run (u : Value) (l : List BodyD) (E : Int) (s : StD) (te n : Int) (w : World) (hB : Bds w u l) (hE : CkE l E) (hS : E = 0 → Sml l) :
    Calls Tryz.prog 37 #[.agg #[u], .agg #[.int .i64 s.t, .int .i64 s.x, .int .i64 s.y, .int .i64 s.z, .int .i64 s.u, .int .i64 s.v, .int .i64 s.r], .int .i64 te, .int .i64 n] w fun e w' => ∃ v, e = .returned (.tuple #[v, .int .i64 (rnR (stR E l) s te n).2]) ∧ TuS w' v (rnR (stR E l) s te n).1 ∧ Ext w w' := by
 obtain ⟨ao, b, o, cap, rfl, _, _, _⟩ := hB.len
 exact rn_walk (stR E l) ao l.length cap s te n w (fun fr ti p v w1 hv k => p_Step _ l E fr ti p v w1 (hB.ext k) hE hS hv) (fun fr ti p v h => stR_I hE h)
theorem sq_nn (x : Rat) : 0 ≤ x * x := by
 by_cases h : 0 ≤ x
 ·exact Rat.mul_nonneg h h
 ·have := Rat.mul_nonneg (show 0 ≤ -x by grind) (show 0 ≤ -x by grind)
  grind
theorem q5_le {s v : Rat} (h0 : 0 ≤ s) (h2 : s ≤ 2) (v1 : -s ≤ 2 * v) (v2 : 2 * v ≤ s) (hc : 0 ≤ 1 - s + v * v) :
    -25 ≤ 16 * (s * s) + 16 * (v * s) - 16 * (v * v) - 20 * s - 20 * v + 5 ∧ 16 * (s * s) + 16 * (v * s) - 16 * (v * v) - 20 * s - 20 * v + 5 ≤ 25 := by
 have vv := sq_nn v
 have e := Rat.mul_nonneg h0 (show 0 ≤ 2 - s by grind)
 constructor
 ·by_cases hv : 0 ≤ v
  ·have p := Rat.mul_nonneg hv (show 0 ≤ s - v by grind)
   have r := sq_nn (s - 15 / 16)
   grind
  ·have p := Rat.mul_nonneg (show 0 ≤ s + 2 * v by grind) (show 0 ≤ s - 2 * v by grind)
   have r := Rat.mul_nonneg h0 (show 0 ≤ s + 2 * v by grind)
   have t := sq_nn (2 - s)
   grind
 ·by_cases hs : 5 / 4 ≤ s
  ·have p := Rat.mul_nonneg (show 0 ≤ s - 2 * v by grind) (show 0 ≤ 16 * s - 20 by grind)
   have r := Rat.mul_nonneg (show 0 ≤ 2 - s by grind) (show 0 ≤ 24 * s + 2 by grind)
   grind
  ·have p := Rat.mul_nonneg (show 0 ≤ s + 2 * v by grind) (show 0 ≤ 20 - 16 * s by grind)
   have r := Rat.mul_nonneg h0 (show 0 ≤ 5 / 4 - s by grind)
   grind
theorem ch_lip {x y : Rat} (x1 : -1 ≤ x) (x2 : x ≤ 1) (y1 : -1 ≤ y) (y2 : y ≤ 1) : ∀ k : Nat, k ≤ 5 → ∃ Q : Rat, chT x k - chT y k = (x - y) * Q ∧ -((((k : Int) * k : Int)) : Rat) ≤ Q ∧ Q ≤ (((k : Int) * k : Int) : Rat)
  | 0, _ => ⟨0, by simp only [chT]; grind, by decide, by decide⟩
  | 1, _ => ⟨1, by simp only [chT]; grind, by decide, by decide⟩
  | 2, _ => ⟨2 * (x + y), by simp only [chT]; grind, by show -(4 : Rat) ≤ _; grind, by show _ ≤ (4 : Rat); grind⟩
  | 3, _ => ⟨4 * (x * x + x * y + y * y) - 3, by simp only [chT]; grind, by
      show -(9 : Rat) ≤ _
      have a := sq_nn (x + y)
      have b := sq_nn x
      have c := sq_nn y
      grind, by
      show _ ≤ (9 : Rat)
      have a := Rat.mul_nonneg (show 0 ≤ 1 - x by grind) (show 0 ≤ 1 + x by grind)
      have b := Rat.mul_nonneg (show 0 ≤ 1 - y by grind) (show 0 ≤ 1 + y by grind)
      have c := sq_nn (x - y)
      grind⟩
  | 4, _ => ⟨8 * ((x + y) * (x * x + y * y - 1)), by simp only [chT]; grind, by
      show -(16 : Rat) ≤ _
      have a := Rat.mul_nonneg (show 0 ≤ 1 - x by grind) (show 0 ≤ 1 + x by grind)
      have b := Rat.mul_nonneg (show 0 ≤ 1 - y by grind) (show 0 ≤ 1 + y by grind)
      have c := sq_nn x
      have d := sq_nn y
      have m := (mul_leB (A := 2) (B := 1) (c := x + y) (t := x * x + y * y - 1) (by decide) (by decide) (by grind) (by grind) (by grind) (by grind)).1
      grind, by
      show _ ≤ (16 : Rat)
      have a := Rat.mul_nonneg (show 0 ≤ 1 - x by grind) (show 0 ≤ 1 + x by grind)
      have b := Rat.mul_nonneg (show 0 ≤ 1 - y by grind) (show 0 ≤ 1 + y by grind)
      have c := sq_nn x
      have d := sq_nn y
      have m := (mul_leB (A := 2) (B := 1) (c := x + y) (t := x * x + y * y - 1) (by decide) (by decide) (by grind) (by grind) (by grind) (by grind)).2
      grind⟩
  | 5, _ => by
      have a := Rat.mul_nonneg (show 0 ≤ 1 - x by grind) (show 0 ≤ 1 + x by grind)
      have b := Rat.mul_nonneg (show 0 ≤ 1 - y by grind) (show 0 ≤ 1 + y by grind)
      have c := sq_nn (x + y)
      have d := sq_nn (x - y)
      have e := sq_nn x
      have f := sq_nn y
      have g := Rat.mul_nonneg a b
      have m := q5_le (s := x * x + y * y) (v := x * y) (by grind) (by grind) (by grind) (by grind) (by grind)
      refine ⟨16 * ((x * x + y * y) * (x * x + y * y)) + 16 * (x * y * (x * x + y * y)) - 16 * (x * y * (x * y)) - 20 * (x * x + y * y) - 20 * (x * y) + 5, ?_, m.1, m.2⟩
      simp only [chT]
      grind
  | k + 6, h => absurd h (by omega)
theorem cs_lip {l : List Int} {x y D : Rat} (x1 : -1 ≤ x) (x2 : x ≤ 1) (y1 : -1 ≤ y) (y2 : y ≤ 1) (D0 : 0 ≤ D) (d1 : -D ≤ x - y) (d2 : x - y ≤ D) : ∀ n : Nat, n ≤ 6 →
    -(D * ((swS l n : Int) : Rat)) ≤ chS (cN l) x n - chS (cN l) y n ∧ chS (cN l) x n - chS (cN l) y n ≤ D * ((swS l n : Int) : Rat)
  | 0, _ => by
      have e : ((swS l 0 : Int) : Rat) = 0 := rfl
      rw [e]
      simp only [chS]
      constructor <;> grind
  | n + 1, h => by
      obtain ⟨i1, i2⟩ := cs_lip x1 x2 y1 y2 D0 d1 d2 n (by omega) (l := l)
      obtain ⟨Q, q0, q1, q2⟩ := ch_lip x1 x2 y1 y2 n (by omega)
      have e : ((swS l (n + 1) : Int) : Rat) = ((swS l n : Int) : Rat) + (((n : Int) * n : Int) : Rat) * (((cN l n).natAbs : Int) : Rat) := by
        show ((swS l n + (n : Int) * n * (cN l n).natAbs : Int) : Rat) = _
        rw [Rat.intCast_add, Rat.intCast_mul]
      have nn : (0 : Rat) ≤ (((n : Int) * n : Int) : Rat) := by
        have : (0 : Int) ≤ (n : Int) * n := Int.mul_nonneg (by omega) (by omega)
        exact Rat.intCast_le_intCast.2 this
      have ca : (0 : Rat) ≤ (((cN l n).natAbs : Int) : Rat) := Rat.intCast_le_intCast.2 (show (0 : Int) ≤ ((cN l n).natAbs : Int) by omega)
      have c1 : -(((cN l n).natAbs : Int) : Rat) ≤ (cN l n : Rat) := by
        rw [← Rat.intCast_neg]; exact Rat.intCast_le_intCast.2 (by omega)
      have c2 : (cN l n : Rat) ≤ (((cN l n).natAbs : Int) : Rat) := Rat.intCast_le_intCast.2 (by omega)
      obtain ⟨m1, m2⟩ := mul_leB D0 nn d1 d2 q1 q2
      obtain ⟨p1, p2⟩ := mul_leB ca (Rat.mul_nonneg D0 nn) c1 c2 m1 m2
      have t : chS (cN l) x (n + 1) - chS (cN l) y (n + 1) = (chS (cN l) x n - chS (cN l) y n) + (cN l n : Rat) * ((x - y) * Q) := by
        rw [← q0]
        simp only [chS]
        grind
      rw [t, e]
      generalize (((n : Int) * n : Int) : Rat) = N at *
      generalize (((cN l n).natAbs : Int) : Rat) = C at *
      generalize ((swS l n : Int) : Rat) = S at *
      generalize (cN l n : Rat) * ((x - y) * Q) = z at *
      constructor <;> grind
theorem T_UNI_1 {p : Prop} (h : p := by
 obtain ⟨⟨a1, a2, a3⟩, ⟨b1, b2, b3⟩, c1, c2, c3⟩ := h
 unfold hullV
 refine ⟨⟨?_, a2, ?_⟩, ⟨?_, b2, ?_⟩, ?_, c2, ?_⟩ <;> dsimp only <;> omega) : p := h
theorem sgX_mul {s : SegD} (h : s.fr < s.ti) (t : Int) : sgX s t * ((s.ti - s.fr : Int) : Rat) = ((2 * t - s.fr - s.ti : Int) : Rat) := by
 unfold sgX
 rw [Rat.mkRat_eq_div]
 have e : (((s.ti - s.fr).toNat : Nat) : Rat) = ((s.ti - s.fr : Int) : Rat) := by
  rw [← Rat.intCast_natCast]
  rw [show (((s.ti - s.fr).toNat : Nat) : Int) = s.ti - s.fr by omega]
 rw [e]
 have hd := ratpos (show 0 < s.ti - s.fr by omega)
 exact Rat.div_mul_cancel (by intro c; rw [c] at hd; exact absurd hd (by decide))
theorem sgX_in {s : SegD} {t : Int} (h : s.fr < s.ti) (h1 : s.fr ≤ t) (h2 : t ≤ s.ti) : -1 ≤ sgX s t ∧ sgX s t ≤ 1 := by
 have e := sgX_mul h t
 have hd := ratpos (show 0 < s.ti - s.fr by omega)
 have a : ((-(s.ti - s.fr) : Int) : Rat) ≤ ((2 * t - s.fr - s.ti : Int) : Rat) := Rat.intCast_le_intCast.2 (by omega)
 have b : ((2 * t - s.fr - s.ti : Int) : Rat) ≤ ((s.ti - s.fr : Int) : Rat) := Rat.intCast_le_intCast.2 (by omega)
 rw [Rat.intCast_neg] at a
 rw [← e] at a b
 constructor
 ·refine Rat.le_of_mul_le_mul_right (c := ((s.ti - s.fr : Int) : Rat)) ?_ hd
  grind
 ·refine Rat.le_of_mul_le_mul_right (c := ((s.ti - s.fr : Int) : Rat)) ?_ hd
  grind
theorem lt_of_mul {a b d : Rat} (hd : 0 < d) (h : a * d < b * d) : a < b := by
 by_cases k : a < b
 ·exact k
 ·have := Rat.mul_le_mul_of_nonneg_right (show b ≤ a by grind) (Rat.le_of_lt hd)
  grind
theorem of_hq (x : Rat) : ((ofLo x : Int) : Rat) ≤ x * UQ ∧ x * UQ < ((ofLo x : Int) : Rat) + 1 ∧ x * UQ ≤ ((ofHi x : Int) : Rat) ∧ ((ofHi x : Int) : Rat) < x * UQ + 1 := by
 have d0 : (0 : Int) < x.den := by have := den_pos' x; omega
 have hd := ratpos d0
 have en := num_den x
 have eU : x * UQ * ((x.den : Int) : Rat) = ((x.num * 1099511627776 : Int) : Rat) := by
  rw [Rat.intCast_mul, ← en]
  have : ((1099511627776 : Int) : Rat) = UQ := rfl
  rw [this]
  grind
 have m1 := Int.ediv_mul_le (x.num * 1099511627776) (show (x.den : Int) ≠ 0 by omega)
 have m2 := Int.mul_ediv_add_emod (x.num * 1099511627776) (x.den : Int)
 have m3 := Int.emod_nonneg (x.num * 1099511627776) (show (x.den : Int) ≠ 0 by omega)
 have m4 := Int.emod_lt_of_pos (x.num * 1099511627776) d0
 have lo : ((ofLo x : Int) : Rat) * ((x.den : Int) : Rat) = ((x.num * 1099511627776 - x.num * 1099511627776 % (x.den : Int) : Int) : Rat) := by
  rw [← Rat.intCast_mul]
  unfold ofLo
  congr 1
  rw [Int.mul_comm]; omega
 generalize hN : x.num * 1099511627776 = N at *
 have g1 : ((N - N % (x.den : Int) : Int) : Rat) ≤ (N : Rat) := Rat.intCast_le_intCast.2 (by omega)
 have g2 : (N : Rat) < ((N - N % (x.den : Int) : Int) : Rat) + ((x.den : Int) : Rat) := by
  rw [← Rat.intCast_add]; exact Rat.intCast_lt_intCast.2 (by omega)
 have a1 : ((ofLo x : Int) : Rat) ≤ x * UQ := Rat.le_of_mul_le_mul_right (by rw [lo, eU]; exact g1) hd
 have ed : (((ofLo x : Int) : Rat) + 1) * ((x.den : Int) : Rat) = ((ofLo x : Int) : Rat) * ((x.den : Int) : Rat) + ((x.den : Int) : Rat) := by grind
 have a2 : x * UQ < ((ofLo x : Int) : Rat) + 1 := lt_of_mul hd (by rw [eU, ed, lo]; exact g2)
 refine ⟨a1, a2, ?_⟩
 unfold ofHi
 rw [hN]
 by_cases c : N % (x.den : Int) = 0
 ·rw [if_pos c]
  have e : ((ofLo x : Int) : Rat) = x * UQ := by
   have l1 : x * UQ ≤ ((ofLo x : Int) : Rat) := Rat.le_of_mul_le_mul_right (by rw [lo, eU, c]; exact Rat.intCast_le_intCast.2 (by omega)) hd
   exact Rat.le_antisymm a1 l1
  rw [e]
  constructor <;> grind
 ·rw [if_neg c, Rat.intCast_add]
  have h1 : ((1 : Int) : Rat) = 1 := rfl
  rw [h1]
  have a3 : ((ofLo x : Int) : Rat) < x * UQ := lt_of_mul hd (by rw [lo, eU]; exact Rat.intCast_lt_intCast.2 (by omega))
  constructor <;> grind
theorem hq_of_rat (x : Rat) : Hq (ofLo x) (ofHi x) (x * UQ) := ⟨(of_hq x).1, (of_hq x).2.2.1⟩
theorem of_unit {x y : Rat} {W : Int} (h : x * UQ ≤ y * UQ + (W : Rat)) : ofLo x ≤ ofLo y + W ∧ ofHi x ≤ ofHi y + W := by
 obtain ⟨x1, x2, x3, x4⟩ := of_hq x
 obtain ⟨y1, y2, y3, y4⟩ := of_hq y
 have a : ((ofLo x : Int) : Rat) < ((ofLo y + W + 1 : Int) : Rat) := by
  rw [Rat.intCast_add, Rat.intCast_add]
  have h1 : ((1 : Int) : Rat) = 1 := rfl
  rw [h1]; grind
 have b : ((ofHi x : Int) : Rat) < ((ofHi y + W + 1 : Int) : Rat) := by
  rw [Rat.intCast_add, Rat.intCast_add]
  have h1 : ((1 : Int) : Rat) = 1 := rfl
  rw [h1]; grind
 have a' := Rat.intCast_lt_intCast.1 a
 have b' := Rat.intCast_lt_intCast.1 b
 omega
theorem plU_mul (l : List Int) (x : Rat) : plU l x * UQ = plX l x := by
 unfold plU
 have : mkRat 1 1099511627776 * UQ = 1 := by decide +kernel
 rw [Rat.mul_assoc, this, Rat.mul_one]
theorem oe_unit {s : SegD} {l : List Int} {fr ti r : Int} (hs : s.fr < s.ti) (hl : l.length ≤ 6) (h1 : s.fr ≤ r) (h2 : r ≤ s.ti) (h3 : fr ≤ r) (h4 : r ≤ ti) :
    oeL s l fr ti ≤ ofLo (plU l (sgX s r)) ∧ ofHi (plU l (sgX s r)) ≤ oeH s l fr ti := by
 have X1 : oeX s fr ≤ r := by unfold oeX; omega
 have Y1 : r ≤ oeY s ti := by unfold oeY; omega
 have X0 : s.fr ≤ oeX s fr := by unfold oeX; omega
 have Y0 : oeY s ti ≤ s.ti := by unfold oeY; omega
 have M1 : oeX s fr ≤ oeM s fr ti ∧ oeM s fr ti ≤ oeY s ti ∧ 2 * (r - oeM s fr ti) ≤ oeY s ti - oeX s fr + 1 ∧ -(oeY s ti - oeX s fr + 1) ≤ 2 * (r - oeM s fr ti) := by unfold oeM; omega
 unfold oeL oeH oeW
 generalize oeM s fr ti = M at *
 generalize hn : oeY s ti - oeX s fr + 1 = n at *
 obtain ⟨x1, x2⟩ := sgX_in hs h1 h2
 obtain ⟨y1, y2⟩ := sgX_in (t := M) hs (by omega) (by omega)
 have hd := ratpos (show 0 < s.ti - s.fr by omega)
 have ex := sgX_mul hs r
 have ey := sgX_mul hs M
 have S0 : ∀ k : Nat, 0 ≤ swS l k := by
  intro k
  induction k with
  | zero => exact Int.le_refl 0
  | succ k ih =>
   have : 0 ≤ (k : Int) * k * (cN l k).natAbs := Int.mul_nonneg (Int.mul_nonneg (by omega) (by omega)) (by omega)
   show 0 ≤ swS l k + (k : Int) * k * (cN l k).natAbs
   omega
 have SS := S0 l.length
 have n0 : 0 ≤ n := by omega
 obtain ⟨D, hD⟩ : ∃ D : Rat, D * ((s.ti - s.fr : Int) : Rat) = (n : Rat) := ⟨(n : Rat) / ((s.ti - s.fr : Int) : Rat), Rat.div_mul_cancel (by intro c; rw [c] at hd; exact absurd hd (by decide))⟩
 have D0 : 0 ≤ D := Rat.le_of_mul_le_mul_right (c := ((s.ti - s.fr : Int) : Rat)) (by rw [hD, Rat.zero_mul]; exact Rat.intCast_le_intCast.2 n0) hd
 have df : (sgX s r - sgX s M) * ((s.ti - s.fr : Int) : Rat) = ((2 * (r - M) : Int) : Rat) := by
  have : (sgX s r - sgX s M) * ((s.ti - s.fr : Int) : Rat) = sgX s r * ((s.ti - s.fr : Int) : Rat) - sgX s M * ((s.ti - s.fr : Int) : Rat) := by grind
  rw [this, ex, ey, ← Rat.intCast_sub]
  congr 1; omega
 have d2 : sgX s r - sgX s M ≤ D := Rat.le_of_mul_le_mul_right (by rw [df, hD]; exact Rat.intCast_le_intCast.2 (by omega)) hd
 have d1 : -D ≤ sgX s r - sgX s M := Rat.le_of_mul_le_mul_right (by rw [df, Rat.neg_mul, hD, ← Rat.intCast_neg]; exact Rat.intCast_le_intCast.2 (by omega)) hd
 obtain ⟨c1, c2⟩ := cs_lip (l := l) x1 x2 y1 y2 D0 d1 d2 l.length hl
 have hW : D * ((swS l l.length : Int) : Rat) ≤ ((swI l n (s.ti - s.fr) : Int) : Rat) := by
  refine Rat.le_of_mul_le_mul_right (c := ((s.ti - s.fr : Int) : Rat)) ?_ hd
  have e1 : D * ((swS l l.length : Int) : Rat) * ((s.ti - s.fr : Int) : Rat) = ((swS l l.length * n : Int) : Rat) := by
   rw [Rat.intCast_mul, ← hD]; grind
  rw [e1, ← Rat.intCast_mul]
  refine Rat.intCast_le_intCast.2 ?_
  unfold swI
  have := Int.ediv_mul_le (-(swS l l.length * n)) (show s.ti - s.fr ≠ 0 by omega)
  rw [Int.neg_mul]; omega
 generalize swI l n (s.ti - s.fr) = W at *
 have p1 := plU_mul l (sgX s r)
 have p2 := plU_mul l (sgX s M)
 have q1 : plX l (sgX s r) = chS (cN l) (sgX s r) l.length := rfl
 have q2 : plX l (sgX s M) = chS (cN l) (sgX s M) l.length := rfl
 have u1 := of_unit (x := plU l (sgX s r)) (y := plU l (sgX s M)) (W := W) (by rw [p1, p2, q1, q2]; grind)
 have u2 := of_unit (x := plU l (sgX s M)) (y := plU l (sgX s r)) (W := W) (by rw [p1, p2, q1, q2]; grind)
 omega
theorem of_le (x : Rat) : ofLo x ≤ ofHi x := by unfold ofHi; split <;> omega
def unS (s : SegD) (r : Int) : V3 := ⟨ofLo (plU s.c0 (sgX s r)), ofHi (plU s.c0 (sgX s r)), ofLo (plU s.c1 (sgX s r)), ofHi (plU s.c1 (sgX s r)), ofLo (plU s.c2 (sgX s r)), ofHi (plU s.c2 (sgX s r))⟩
theorem unS_pt {s : SegD} {fr ti r : Int} (hs : SOk s) (h1 : s.fr ≤ r) (h2 : r ≤ s.ti) (h3 : fr ≤ r) (h4 : r ≤ ti) : PtV (unS s r) (oeS s fr ti) := by
 obtain ⟨k, -, -, k0, k1, k2⟩ := hs
 have a := oe_unit (l := s.c0) k k0.2.1 h1 h2 h3 h4
 have b := oe_unit (l := s.c1) k k1.2.1 h1 h2 h3 h4
 have c := oe_unit (l := s.c2) k k2.2.1 h1 h2 h3 h4
 exact ⟨⟨a.1, of_le _, a.2⟩, ⟨b.1, of_le _, b.2⟩, c.1, of_le _, c.2⟩
theorem hull_l {u a b : V3} (h : PtV u a) : PtV u (hullV a b) := by
 exact T_UNI_1
theorem hull_r {u a b : V3} (h : PtV u b) : PtV u (hullV a b) := by
 exact T_UNI_1
theorem oeN_pt {b : BodyD} {fr ti : Int} {u : V3} {j : Nat} (hi : inS (sgA b j) fr ti = true) (hu : PtV u (oeS (sgA b j) fr ti)) : ∀ k, j < k → 0 < (oeN b fr ti k).1 ∧ PtV u (oeN b fr ti k).2
 | 0, h => absurd h (by omega)
 | k + 1, h => by
  unfold oeN
  by_cases e : j = k
  ·subst e
   rw [if_pos hi]
   refine ⟨by dsimp only; omega, ?_⟩
   dsimp only
   split
   ·exact hull_l hu
   ·exact hu
  ·obtain ⟨i1, i2⟩ := oeN_pt hi hu k (by omega)
   split
   ·refine ⟨by dsimp only; omega, ?_⟩
    dsimp only
    first
     | (rw [if_pos i1]; exact hull_r i2)
     | exact hull_r i2
   ·exact ⟨i1, i2⟩
theorem sg_at {b : BodyD} {r : Int} : ∀ n, 0 < n → SgsOk b n → (sgA b 0).fr ≤ r → r ≤ (sgA b (n - 1)).ti → ∃ j, j < n ∧ (sgA b j).fr ≤ r ∧ r ≤ (sgA b j).ti
 | 0, h, _, _, _ => absurd h (by omega)
 | 1, _, _, h1, h2 => ⟨0, by omega, h1, h2⟩
 | n + 2, _, h, h1, h2 => by
  by_cases c : r ≤ (sgA b n).ti
  ·obtain ⟨j, j1, j2, j3⟩ := sg_at (n + 1) (by omega) ⟨fun k hk => h.1 k (by omega), fun k hk => h.2 k (by omega)⟩ h1 c
   exact ⟨j, by omega, j2, j3⟩
  ·refine ⟨n + 1, by omega, ?_, h2⟩
   rw [h.2 n (by omega)]; omega
theorem body_unit {b : BodyD} (hb : BdOk b) (hs : ∀ k, k < b.segs.length → SOk (sgA b k)) {r f0 g0 : Int} (h1 : f0 ≤ r) (h2 : r ≤ g0) (h0 : (oeR b f0 g0).e = 0) :
    ∃ u, ∀ fr ti, fr ≤ r → r ≤ ti → (oeR b fr ti).e = 0 → PtV u (oeR b fr ti).v := by
 have hn := hb.2.2.2.2.2.1
 have hg := hb.2.2.2.2.2.2
 have fact : ∀ fr ti, (oeR b fr ti).e = 0 → ¬ outR b fr ti ∧ (oeR b fr ti).v = oeV b fr ti := by
  intro fr ti h
  unfold oeR at h ⊢
  by_cases c1 : ti < fr
  ·rw [if_pos c1] at h; exact absurd h (by decide)
  ·rw [if_neg c1] at h ⊢
   by_cases c2 : outR b fr ti
   ·rw [if_pos c2] at h; exact absurd h (by decide)
   ·rw [if_neg c2] at h ⊢
    by_cases c3 : ckV (oeV b fr ti) ≠ 0
    ·rw [if_pos c3] at h; exact absurd h (by decide)
    ·rw [if_neg c3]; exact ⟨c2, rfl⟩
 obtain ⟨o1, -⟩ := fact _ _ h0
 unfold outR at o1
 obtain ⟨j, j1, j2, j3⟩ := sg_at (r := r) b.segs.length hn hg (by omega) (by omega)
 refine ⟨unS (sgA b j) r, fun fr ti k1 k2 he => ?_⟩
 rw [(fact _ _ he).2]
 exact (oeN_pt (by simp only [inS, Bool.and_eq_true, decide_eq_true_eq]; omega) (unS_pt (hs j j1) j2 j3 k1 k2) _ j1).2
theorem lpt_app {s t : SrcD} (h : SPt s t) : ∀ {l m : List SrcD}, LPt l m → LPt (l ++ [s]) (m ++ [t])
 | [], [], _ => ⟨h, trivial⟩
 | _ :: l, _ :: m, k => ⟨k.1, lpt_app h (l := l) (m := m) k.2⟩
 | [], _ :: _, k => absurd k id
 | _ :: _, [], k => absurd k id
theorem src_unit {l : List BodyD} (hl : EpOk l l.length) (hs : Sml l) {r f0 g0 : Int} (h1 : f0 ≤ r) (h2 : r ≤ g0) : ∀ k, k ≤ l.length → (srN l f0 g0 k).2 = 0 →
    ∃ R, ∀ fr ti, fr ≤ r → r ≤ ti → (srN l fr ti k).2 = 0 → LPt R (srN l fr ti k).1
  | 0, _, _ => ⟨[], fun _ _ _ _ _ => trivial⟩
  | k + 1, hk, h0 => by
    have back : ∀ fr ti, (srN l fr ti (k + 1)).2 = 0 → (srN l fr ti k).2 = 0 := by
      intro fr ti h
      by_cases c : (srN l fr ti k).2 = 0
      · exact c
      · unfold srN at h; rw [if_pos c] at h; exact absurd h c
    obtain ⟨R, hR⟩ := src_unit hl hs h1 h2 k (by omega) (back _ _ h0)
    by_cases hg : (bd l k).gm = 0
    · refine ⟨R, fun fr ti k1 k2 h => ?_⟩
      have e := back _ _ h
      have : srN l fr ti (k + 1) = srN l fr ti k := by
        rw [srN]; rw [if_neg (fun c => c e), if_pos hg]
      rw [this]
      exact hR fr ti k1 k2 e
    · have st : ∀ fr ti, (srN l fr ti (k + 1)).2 = 0 → (oeR (bd l k) fr ti).e = 0 ∧ srN l fr ti (k + 1) = ((srN l fr ti k).1 ++ [srcO (bd l k) fr ti], 0) := by
        intro fr ti h
        have e := back _ _ h
        have h' : srN l fr ti (k + 1) = if (oeR (bd l k) fr ti).e ≠ 0 then ([], (oeR (bd l k) fr ti).e) else ((srN l fr ti k).1 ++ [srcO (bd l k) fr ti], 0) := by
          rw [srN]; rw [if_neg (fun c => c e), if_neg hg]
        by_cases c : (oeR (bd l k) fr ti).e = 0
        · rw [if_neg (fun d => d c)] at h'; exact ⟨c, h'⟩
        · rw [if_pos c] at h'; rw [h'] at h; exact absurd h c
      obtain ⟨u, hu⟩ := body_unit (hl.1 k (by omega)) (fun i hi => sml_sok hl hs (i := k) (by omega) hi) h1 h2 (st _ _ h0).1
      refine ⟨R ++ [⟨ofLo (gmX (bd l k)), ofHi (gmX (bd l k)), u⟩], fun fr ti k1 k2 h => ?_⟩
      obtain ⟨e1, e2⟩ := st _ _ h
      rw [e2]
      exact lpt_app (s := ⟨ofLo (gmX (bd l k)), ofHi (gmX (bd l k)), u⟩) (t := srcO (bd l k) fr ti) ⟨Pt.refl (of_le _), hu fr ti k1 k2 e1⟩ (hR fr ti k1 k2 (back _ _ h))
/-! Units of places. -/
def flI (x : Rat) : Int := x.num / (x.den : Int)
def ceI (x : Rat) : Int := -(-x.num / (x.den : Int))
theorem un1 {a b : Int} {x : Rat} (h : Hq a b x) : Pt (flI x) (ceI x) a b := by
 obtain ⟨h1, h2⟩ := hq_num h
 have d0 : (0 : Int) < x.den := by have := den_pos' x; omega
 have a1 := Int.le_ediv_of_mul_le d0 h1
 have a2 : -b ≤ -x.num / (x.den : Int) := Int.le_ediv_of_mul_le d0 (by rw [Int.neg_mul]; omega)
 have m1 := Int.ediv_mul_le x.num (show (x.den : Int) ≠ 0 by omega)
 have m2 := Int.ediv_mul_le (-x.num) (show (x.den : Int) ≠ 0 by omega)
 have m3 : (x.num / (x.den : Int) + -x.num / (x.den : Int)) * (x.den : Int) ≤ 0 := by rw [Int.add_mul]; omega
 have m4 : x.num / (x.den : Int) + -x.num / (x.den : Int) ≤ 0 := Int.le_of_mul_le_mul_right (by simpa using m3) d0
 unfold flI ceI Pt
 omega
def unQ (q : Q3) : V3 := ⟨flI q.x, ceI q.x, flI q.y, ceI q.y, flI q.z, ceI q.z⟩
theorem unQ_pt {q : Q3} {v : V3} (h : HqV v q) : PtV (unQ q) v := ⟨un1 h.1, un1 h.2.1, un1 h.2.2⟩
theorem two_eq (x w a s t : Rat) : x + (w + a * (s / 2) / UQ) * s / UQ + (w + a * s / UQ + a * (t / 2) / UQ) * t / UQ = x + (w + a * ((s + t) / 2) / UQ) * (s + t) / UQ := by grind
theorem goQ_two (q w a : Q3) (s t : Rat) : goQ (goQ q (goQ w a (s / 2)) s) (goQ (goQ w a s) a (t / 2)) t = goQ q (goQ w a ((s + t) / 2)) (s + t) := by
 unfold goQ
 simp only [two_eq]
theorem goQ_sum (w a : Q3) (s t : Rat) : goQ (goQ w a s) a t = goQ w a (s + t) := by
 unfold goQ
 have h : ∀ x a : Rat, x + a * s / UQ + a * t / UQ = x + a * (s + t) / UQ := fun x a => by grind
 simp only [h]
theorem tw_step {L M N R : List SrcD} {dl dh bl bh cl ch t0 t2 f0 f1 g1 g2 : Int} {p v p1 v1 : V3} {t u x : Tu} {A B C : V3}
    (S : StOk L dl dh t0 t2 p v t A) (S1 : StOk M bl bh f0 f1 p1 v1 u B) (S2 : StOk N cl ch g1 g2 u.p u.v x C) {s1 s2 : Rat} (b0 : 0 ≤ bl) (c0 : 0 ≤ cl)
    (hs : Hq dl dh (s1 + s2)) (h1 : Hq bl bh s1) (h2 : Hq cl ch s2) (r1 : LPt R L) (r2 : LPt R M) (r3 : LPt R N) {q w : Q3}
    (q1 : HqV p q) (q2 : HqV p1 q) (w1 : HqV v w) (w2 : HqV v1 w) : ∃ q' w', HqV t.p q' ∧ HqV x.p q' ∧ HqV t.v w' ∧ HqV x.v w' := by
 have z0 : (0 : Rat) ≤ ((bl : Int) : Rat) := Rat.intCast_le_intCast.2 b0
 have z1 : (0 : Rat) ≤ ((cl : Int) : Rat) := Rat.intCast_le_intCast.2 c0
 have e0 : ((0 : Int) : Rat) = 0 := rfl
 have k1 : Hq 0 dh s1 := by
  unfold Hq at *; rw [e0]; constructor <;> grind
 have k2 : Hq 0 dh (s1 / 2) := by
  unfold Hq at *; rw [e0]; constructor <;> grind
 -- an acceleration that is in the first two
 obtain ⟨-, a1⟩ := S.accp _ R (unQ_pt q1) r1
 obtain ⟨-, a2⟩ := S1.accp _ R (unQ_pt q2) r2
 have g1 := loQ_pt a1
 have g2 := loQ_pt a2
 generalize loQ (acL R (unQ q)).v = a at g1 g2
 obtain ⟨l1, l2⟩ := hq_half b0 h1
 have y1 := S.hull _ _ _ _ _ q1 w1 g1 k1 k2
 have y2 := S1.hull _ _ _ _ _ q2 w2 g2 l1 l2
 have y3 := S1.endP _ _ _ _ q2 w2 g2 h1
 rw [goQ_half] at y3
 -- an acceleration that is in all three
 obtain ⟨-, b1⟩ := S.acch _ R (unQ_pt y1) r1
 obtain ⟨-, b2⟩ := S1.acch _ R (unQ_pt y2) r2
 obtain ⟨-, b3⟩ := S2.accp _ R (unQ_pt y3) r3
 have i1 := loQ_pt b1
 have i2 := loQ_pt b2
 have i3 := loQ_pt b3
 generalize loQ (acL R (unQ (goQ q (goQ w a (s1 / 2)) s1))).v = c at i1 i2 i3
 have e1 := S1.endP _ _ _ _ q2 w2 i2 h1
 rw [goQ_half] at e1
 have e2 := S1.endV _ _ _ w2 i2 h1
 have e3 := S2.endP _ _ _ _ e1 e2 i3 h2
 rw [goQ_half, goQ_two] at e3
 have e4 := S2.endV _ _ _ e2 i3 h2
 rw [goQ_sum] at e4
 have e5 := S.endP _ _ _ _ q1 w1 i1 hs
 rw [goQ_half] at e5
 exact ⟨_, _, e5, e3, S.endV _ _ _ w1 i1 hs, e4⟩
theorem rat_mk {n : Int} {d : Nat} : mkRat n d = (n : Rat) / ((d : Nat) : Rat) := Rat.mkRat_eq_div _ _
theorem paX_add (a b c : Int) : paX a b * UQ + paX b c * UQ = paX a c * UQ := by
 unfold paX
 rw [rat_mk, rat_mk, rat_mk]
 have e : ((c - a : Int) : Rat) = ((b - a : Int) : Rat) + ((c - b : Int) : Rat) := by
  rw [← Rat.intCast_add]; congr 1; omega
 rw [e]
 grind
variable {E : Int} {l : List BodyD} {t0 te n : Int} {p v : V3}
theorem rn_each {m k : Nat} (hE : CkE l E) (h : (rnU (stR E l) t0 te n p v m).2 = 0) (hk : k < m) :
    sdB (rnU (stR E l) t0 te n p v (k + 1)).1 = true ∧ (rnU (stR E l) t0 te n p v (k + 1)).1.fr = rnT t0 te n k ∧ (rnU (stR E l) t0 te n p v (k + 1)).1.ti = rnT t0 te n (k + 1) ∧ rnT t0 te n k < rnT t0 te n (k + 1) ∧
      mtV (rnU (stR E l) t0 te n p v (k + 1)).1.h (rnU (stR E l) t0 te n p v k).1.p = true ∧ mtV (rnU (stR E l) t0 te n p v (k + 1)).1.f (rnU (stR E l) t0 te n p v k).1.v = true := by
 have st := rnU_st h hk
 obtain ⟨-, ⟨a1, a2⟩, a3, a4, a5, -, -⟩ := fs_one hE st
 obtain ⟨-, -, b1, -⟩ := st_made hE st
 exact ⟨a3, a1, a2, b1, a4, a5⟩
theorem rn_common {m : Nat} (hE : CkE l E) (hS : E = 0 → Sml l) (hn : 0 < n) (hp : ckV p = 0) (hv : ckV v = 0) (h : (rnU (stR E l) t0 te n p v m).2 = 0) (g : (rnU (stR E l) t0 te (2 * n) p v (2 * m)).2 = 0) : ∀ k, k ≤ m →
    ∃ q w, HqV (rnU (stR E l) t0 te n p v k).1.p q ∧ HqV (rnU (stR E l) t0 te (2 * n) p v (2 * k)).1.p q ∧ HqV (rnU (stR E l) t0 te n p v k).1.v w ∧ HqV (rnU (stR E l) t0 te (2 * n) p v (2 * k)).1.v w
  | 0, _ => ⟨loQ p, loQ v, loQ_in hp, loQ_in hp, loQ_in hv, loQ_in hv⟩
  | k + 1, hk => by
    obtain ⟨q, w, i1, i2, i3, i4⟩ := rn_common hE hS hn hp hv h g k (by omega)
    have s0 := rnU_st h (show k < m by omega)
    have s1 := rnU_st g (show 2 * k < 2 * m by omega)
    have s2 := rnU_st g (show 2 * k + 1 < 2 * m by omega)
    rw [rnT_two hn k] at s1
    rw [show 2 * k + 1 + 1 = 2 * (k + 1) by omega, rnT_two hn (k + 1)] at s2
    obtain ⟨h0, -, a1, a2, a3, a4, -, A, S⟩ := st_made hE s0
    obtain ⟨-, -, b1, b2, b3, b4, -, B, S1⟩ := st_made hE s1
    obtain ⟨-, -, c1, c2, c3, c4, -, C, S2⟩ := st_made hE s2
    have hEp := (hE.zero h0).2
    obtain ⟨R, hR⟩ := src_unit hEp (hS h0) (r := rnT t0 te (2 * n) (2 * k + 1)) (Int.le_of_lt b1) (Int.le_of_lt c1 |> fun _ => Int.le_refl _) l.length (Nat.le_refl _) b4
    have db := (pa_I b1 b2 b3).2
    have dc := (pa_I c1 c2 c3).2
    have hs : Hq (ofLo (paX (rnT t0 te n k) (rnT t0 te n (k + 1)))) (ofHi (paX (rnT t0 te n k) (rnT t0 te n (k + 1)))) (paX (rnT t0 te n k) (rnT t0 te (2 * n) (2 * k + 1)) * UQ + paX (rnT t0 te (2 * n) (2 * k + 1)) (rnT t0 te n (k + 1)) * UQ) := by
      rw [paX_add]; exact hq_of_rat _
    obtain ⟨q', w', j1, j2, j3, j4⟩ := tw_step S S1 S2 db.1 dc.1 hs (hq_of_rat _) (hq_of_rat _) (hR _ _ (Int.le_of_lt b1) (Int.le_of_lt c1) a4) (hR _ _ (Int.le_of_lt b1) (Int.le_refl _) b4) (hR _ _ (Int.le_refl _) (Int.le_of_lt c1) c4) i1 i2 i3 i4
    exact ⟨q', w', j1, j2, j3, j4⟩
structure SpF (s : StD) (te n : Int) (L : List Tu) : Prop where
 len : (L.length : Int) = n
 n1 : 1 ≤ n
 n2 : n ≤ 200
 fr0 : (L.getD 0 Tu.O).fr = s.t
 end' : (L.getD (n.toNat - 1) Tu.O).ti = te
 each : ∀ i, i < L.length → sdB (L.getD i Tu.O) = true ∧ (L.getD i Tu.O).fr < (L.getD i Tu.O).ti
 next : ∀ i, i + 1 < L.length → (L.getD (i + 1) Tu.O).fr = (L.getD i Tu.O).ti ∧ mtV (L.getD (i + 1) Tu.O).h (L.getD i Tu.O).p = true
 m0 : mtV (L.getD 0 Tu.O).h (alP s) = true
 m1 : mtV (L.getD 0 Tu.O).f (alV s) = true
theorem sp_one {s : StD} {L : List Tu} (hE : CkE l E) (h : rnR (stR E l) s te n = (L, 0)) : SpF s te n L := by
 obtain ⟨h1, h2, h3, h4, h5, h6, h7, rfl⟩ := rnR_ok h
 have at' : ∀ i, i < n.toNat → (rnL (stR E l) s.t te n (alP s) (alV s) n.toNat).getD i Tu.O = (rnU (stR E l) s.t te n (alP s) (alV s) (i + 1)).1 := fun i hi => rnL_at _ hi
 have z := rn_each hE h7 (show 0 < n.toNat by omega)
 have y := rn_each hE h7 (show n.toNat - 1 < n.toNat by omega)
 refine ⟨by rw [rnL_len]; omega, h4, h5, ?_, ?_, ?_, ?_, ?_, ?_⟩
 ·rw [at' 0 (by omega), z.2.1, rnT_zero]
 ·rw [at' _ (by omega), y.2.2.1, show n.toNat - 1 + 1 = n.toNat by omega, rnT_end (by omega)]
 ·intro i hi
  rw [rnL_len] at hi
  have w := rn_each hE h7 hi
  rw [at' i hi]
  exact ⟨w.1, by rw [w.2.1, w.2.2.1]; exact w.2.2.2.1⟩
 ·intro i hi
  rw [rnL_len] at hi
  have w := rn_each hE h7 (show i < n.toNat by omega)
  have w1 := rn_each hE h7 hi
  rw [at' i (by omega), at' (i + 1) hi]
  exact ⟨by rw [w1.2.1, w.2.2.1], w1.2.2.2.2.1⟩
 ·rw [at' 0 (by omega)]; exact z.2.2.2.2.1
 ·rw [at' 0 (by omega)]; exact z.2.2.2.2.2
theorem sp_two {s : StD} {L M : List Tu} (hE : CkE l E) (hS : E = 0 → Sml l) (h : rnR (stR E l) s te n = (L, 0)) (g : rnR (stR E l) s te (2 * n) = (M, 0)) : ∀ i, i < L.length →
    (M.getD (2 * i + 1) Tu.O).ti = (L.getD i Tu.O).ti ∧ mtV (M.getD (2 * i + 1) Tu.O).p (L.getD i Tu.O).p = true ∧ mtV (M.getD (2 * i + 1) Tu.O).v (L.getD i Tu.O).v = true := by
 obtain ⟨h1, h2, h3, h4, h5, h6, h7, rfl⟩ := rnR_ok h
 obtain ⟨g1, g2, g3, g4, g5, g6, g7, rfl⟩ := rnR_ok g
 have e : (2 * n).toNat = 2 * n.toNat := by omega
 rw [e] at g7 ⊢
 obtain ⟨k1, k2, -, -⟩ := st_val h1
 intro i hi
 rw [rnL_len] at hi
 obtain ⟨q, w, i1, i2, i3, i4⟩ := rn_common hE hS (show 0 < n by omega) k1 k2 h7 g7 (i + 1) (by omega)
 rw [rnL_at _ (show 2 * i + 1 < 2 * n.toNat by omega), rnL_at _ hi]
 have w1 := rn_each hE g7 (show 2 * i + 1 < 2 * n.toNat by omega)
 have w2 := rn_each hE h7 hi
 refine ⟨?_, mt_of i2 i1, mt_of i4 i3⟩
 rw [w1.2.2.1, w2.2.2.1, show 2 * i + 1 + 1 = 2 * (i + 1) by omega, rnT_two (by omega)]
theorem T_RCK_5 {p : Prop} (h : p := by
 have hE : E = 8 := by omega
 subst hE
 clear hR hz
 go_enter Tryz.func36, Tryz.ntmps36
 exact T_RCK_1) : p := h
theorem T_RCK_4 {p : Prop} (h : p := by
 have hE : E = 8 := by omega
 subst hE
 clear hR hz
 go_enter Tryz.func36, Tryz.ntmps36
 go_wp2_with fail
 refine wp_loop_rounds 4 ?_
 rw [rounds_succ]
 exact T_RCK_1) : p := h
theorem T_RCK_3 {p : Prop} (h : p := by
 have hE : E = 8 := by omega
 subst hE
 clear hR hz
 go_enter Tryz.func36, Tryz.ntmps36
 go_wp2_with fail
 refine wp_loop_rounds 4 ?_
 rw [rounds_succ]
 go_wp2_with fail
 rw [rounds_succ]
 exact T_RCK_1) : p := h
theorem T_RCK_2 {p : Prop} (h : p := by
 have hE : E = 8 := by omega
 subst hE
 clear hR hz
 go_enter Tryz.func36, Tryz.ntmps36
 go_wp2_with fail
 refine wp_loop_rounds 4 ?_
 rw [rounds_succ]
 go_wp2_with fail
 rw [rounds_succ]
 go_wp2_with fail
 rw [rounds_succ]
 exact T_RCK_1) : p := h
theorem T_RCK_1 {p : Prop} (h : p := by
 go_wp2_with fail
 refine bodyPost_ret (v := .int .i64 8) ?_ rfl ⟨by simp [*], ?_⟩
 ·simp [results, Tryz.results36, go_sem, ↓IntWalk.iteOmega, *]
 ·repeat (first | with_reducible exact Ext.refl _ | with_reducible assumption | with_reducible refine Ext.alloc ?_ _ | with_reducible refine Ext.setCell ?_ c_19 _ | with_reducible refine Ext.drewN ?_ _ | with_reducible refine Ext.drew ?_ | with_reducible refine Ext.trans ?_ c_9)) : p := h
def stN (t p1 p2 p3 v1 v2 v3 : Int) : Prop := t < -5000000000000000 ∨ 5000000000000000 < t ∨ (p1 = 0 ∧ p2 = 0 ∧ p3 = 0) ∨ (p1 < -8796093022208 ∨ 8796093022208 < p1 ∨ v1 < -1099511627776 ∨ 1099511627776 < v1) ∨ (p2 < -8796093022208 ∨ 8796093022208 < p2 ∨ v2 < -1099511627776 ∨ 1099511627776 < v2) ∨ (p3 < -8796093022208 ∨ 8796093022208 < p3 ∨ v3 < -1099511627776 ∨ 1099511627776 < v3)
theorem stE_R (t p1 p2 p3 v1 v2 v3 : Int) : (stE t p1 p2 p3 v1 v2 v3 = 8 ∧ stN t p1 p2 p3 v1 v2 v3) ∨ (stE t p1 p2 p3 v1 v2 v3 = 0 ∧ ¬ stN t p1 p2 p3 v1 v2 v3) := by
 unfold stE stB outB stN
 simp only [Bool.or_eq_true, decide_eq_true_eq]
 split
 ·left; refine ⟨rfl, ?_⟩; omega
 ·right; refine ⟨rfl, ?_⟩; omega
theorem r_CheckS (t p1 p2 p3 v1 v2 v3 : Int) (w : World) : Calls Tryz.prog 36 #[.agg #[.int .i64 t, .int .i64 p1, .int .i64 p2, .int .i64 p3, .int .i64 v1, .int .i64 v2, .int .i64 v3]] w fun e w' => e = .returned (.int .i64 (stE t p1 p2 p3 v1 v2 v3)) ∧ Ext w w' := by
 have l0 : IntKind.i64.wrap 0 = 0 := rfl
 have l1 : IntKind.i64.wrap 1 = 1 := rfl
 have l2 : IntKind.i64.wrap 2 = 2 := rfl
 have hR := stE_R t p1 p2 p3 v1 v2 v3
 unfold stN at hR
 generalize stE t p1 p2 p3 v1 v2 v3 = E at hR ⊢
 have hq := eqA4 p1 p2 p3
 obtain ⟨o3, ho3⟩ : ∃ o, decide (p1 = 0 ∧ p2 = 0 ∧ p3 = 0) = o := ⟨_, rfl⟩
 rw [ho3] at hq
 have hz : (o3 = true ∧ (p1 = 0 ∧ p2 = 0 ∧ p3 = 0)) ∨ (o3 = false ∧ ¬ (p1 = 0 ∧ p2 = 0 ∧ p3 = 0)) := by
  rw [← ho3]; by_cases hh : p1 = 0 ∧ p2 = 0 ∧ p3 = 0 <;> simp [hh]
 clear ho3
 by_cases h1 : t < -5000000000000000
 ·exact T_RCK_5
 by_cases h2 : 5000000000000000 < t
 ·exact T_RCK_5
 rcases hz with ⟨rfl, hz⟩ | ⟨rfl, hz⟩
 ·exact T_RCK_5
 ·by_cases g1 : p1 < -8796093022208
  ·exact T_RCK_4
  by_cases g2 : 8796093022208 < p1
  ·exact T_RCK_4
  by_cases g3 : v1 < -1099511627776
  ·exact T_RCK_4
  by_cases g4 : 1099511627776 < v1
  ·exact T_RCK_4
  by_cases g5 : p2 < -8796093022208
  ·exact T_RCK_3
  by_cases g6 : 8796093022208 < p2
  ·exact T_RCK_3
  by_cases g7 : v2 < -1099511627776
  ·exact T_RCK_3
  by_cases g8 : 1099511627776 < v2
  ·exact T_RCK_3
  by_cases g9 : p3 < -8796093022208
  ·exact T_RCK_2
  by_cases g10 : 8796093022208 < p3
  ·exact T_RCK_2
  by_cases g11 : v3 < -1099511627776
  ·exact T_RCK_2
  by_cases g12 : 1099511627776 < v3
  ·exact T_RCK_2
  have hE : E = 0 := by omega
  subst hE
  clear hR hz
  go_enter Tryz.func36, Tryz.ntmps36
  go_wp2_with fail
  refine wp_loop_rounds 4 ?_
  rw [rounds_succ]
  go_wp2_with fail
  rw [rounds_succ]
  go_wp2_with fail
  rw [rounds_succ]
  go_wp2_with fail
  rw [rounds_succ]
  go_wp2_with fail
  refine bodyPost_ret (v := .int .i64 0) ?_ rfl ⟨by simp [*], ?_⟩
  ·simp [results, Tryz.results36, go_sem, ↓IntWalk.iteOmega, *]
  ·exact b_6
end Go.Proofs.YtbkgakgdbmjmjaaGreat
