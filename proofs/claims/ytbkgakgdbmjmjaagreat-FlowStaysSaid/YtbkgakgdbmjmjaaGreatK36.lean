/- The tube of a step encloses what it should: plain laws. -/
import Derived.Test.YtbkgakgdbmjmjaaGreatK33
set_option linter.unusedSimpArgs false
set_option linter.unusedVariables false
namespace Go.Proofs.YtbkgakgdbmjmjaaGreat
open Go.RowKit
def loQ (v : V3) : Q3 := ⟨(v.a : Rat), (v.c : Rat), (v.e : Rat)⟩
theorem loQ_in {v : V3} (h : ckV v = 0) : HqV v (loQ v) := by
 obtain ⟨k1, k2, k3⟩ := ckV_ok h
 exact ⟨Hq.pt (Int.le_refl _) (ckI_ok k1).1, Hq.pt (Int.le_refl _) (ckI_ok k2).1, Hq.pt (Int.le_refl _) (ckI_ok k3).1⟩
theorem loQ_pt {u v : V3} (h : PtV u v) : HqV v (loQ u) :=
 ⟨⟨Rat.intCast_le_intCast.2 h.1.1, Rat.intCast_le_intCast.2 (Int.le_trans h.1.2.1 h.1.2.2)⟩, ⟨Rat.intCast_le_intCast.2 h.2.1.1, Rat.intCast_le_intCast.2 (Int.le_trans h.2.1.2.1 h.2.1.2.2)⟩, ⟨Rat.intCast_le_intCast.2 h.2.2.1, Rat.intCast_le_intCast.2 (Int.le_trans h.2.2.2.1 h.2.2.2.2)⟩⟩
theorem goQ_zero (q w : Q3) : goQ q w 0 = q := by
 unfold goQ
 have h : ∀ a b : Rat, a + b * 0 / UQ = a := fun a b => by rw [Rat.mul_zero]; grind
 rw [h, h, h]
theorem half_eq (x w a s : Rat) : x + w * s / UQ + a * (s * s / UQ * ((1 : Int) : Rat) / ((2 : Int) : Rat)) / UQ = x + (w + a * (s / 2) / UQ) * s / UQ := by
 have h1 : ((1 : Int) : Rat) = 1 := rfl
 have h2 : ((2 : Int) : Rat) = 2 := rfl
 rw [h1, h2]
 grind
theorem goQ_half (q w a : Q3) (s : Rat) : goQ (goQ q w s) a (s * s / UQ * ((1 : Int) : Rat) / ((2 : Int) : Rat)) = goQ q (goQ w a (s / 2)) s := by
 unfold goQ
 simp only [half_eq]
theorem hq_zero {d : Int} (h : 0 ≤ d) : Hq 0 d 0 := ⟨Rat.intCast_le_intCast.2 (Int.le_refl 0), by have := Rat.intCast_le_intCast.2 h; simpa using this⟩
theorem hq_half {a b : Int} {s : Rat} (h0 : 0 ≤ a) (h : Hq a b s) : Hq 0 b s ∧ Hq 0 b (s / 2) := by
 have g : (0 : Rat) ≤ (a : Rat) := by have := Rat.intCast_le_intCast.2 h0; simpa using this
 obtain ⟨h1, h2⟩ := h
 have e : ((0 : Int) : Rat) = 0 := rfl
 refine ⟨⟨?_, h2⟩, ⟨?_, ?_⟩⟩ <;> (try rw [e]) <;> grind
variable {L : List SrcD} {dl dh fr ti : Int} {p v : V3} {t : Tu} {A : V3}
theorem st_stays (S : StOk L dl dh fr ti p v t A) (hp : ckV p = 0) (hv : ckV v = 0) (d0 : 0 ≤ dl) (d1 : dl ≤ dh) (hL : LPt L L) :
    (acL L t.h).e = 0 ∧ (goR v (acL L t.h).v 0 dh).e = 0 ∧ (goR p t.f 0 dh).e = 0 ∧ inV (goR v (acL L t.h).v 0 dh).v t.f = true ∧ inV (goR p t.f 0 dh).v t.h = true := by
 obtain ⟨a1, a2⟩ := S.acch t.h L (PtV.refl S.kh) hL
 obtain ⟨g1, g2, _⟩ := goR_pt (PtV.refl hv) a2 (Pt.refl (show (0 : Int) ≤ dh by omega)) S.goF.1
 rw [S.goF.2] at g2
 refine ⟨a1, g1, S.goH.1, pt_inV g2, ?_⟩
 rw [S.goH.2]
 exact pt_inV (PtV.refl S.kh)
theorem st_meets (S : StOk L dl dh fr ti p v t A) (hp : ckV p = 0) (hv : ckV v = 0) (d0 : 0 ≤ dl) (d1 : dl ≤ dh) (hL : LPt L L) :
    mtV t.h p = true ∧ mtV t.f v = true ∧ mtV t.h t.p = true ∧ mtV t.f t.v = true := by
 have ha := loQ_pt (S.acch t.h L (PtV.refl S.kh) hL).2
 have hq := loQ_in hp
 have hw := loQ_in hv
 have z := hq_zero (show (0 : Int) ≤ dh by omega)
 have hs : Hq dl dh (dl : Rat) := Hq.pt (Int.le_refl _) d1
 obtain ⟨s1, s2⟩ := hq_half d0 hs
 have h1 := S.hull _ _ _ _ _ hq hw ha z z
 rw [goQ_zero] at h1
 have h2 := S.fast _ _ _ hw ha z
 rw [goQ_zero] at h2
 have h3 := S.hull _ _ _ _ _ hq hw ha s1 s2
 have h4 := S.endP _ _ _ _ hq hw ha hs
 rw [goQ_half] at h4
 exact ⟨mt_of h1 hq, mt_of h2 hw, mt_of h3 h4, mt_of (S.fast _ _ _ hw ha s1) (S.endV _ _ _ hw ha hs)⟩
theorem st_part {q w : V3} {u : Tu} {B : V3} (S : StOk L dl dh fr ti p v t A) (T : StOk L dl dh fr ti q w u B) (hq : ckV q = 0) (hw : ckV w = 0) (kq : PtV q p) (kw : PtV w v) (d0 : 0 ≤ dl) (d1 : dl ≤ dh) (hL : LPt L L) :
    mtV t.h u.h = true ∧ mtV t.p u.p = true ∧ mtV t.v u.v = true := by
 have ha := loQ_pt (S.accp q L kq hL).2
 have hb := loQ_pt (T.accp q L (PtV.refl hq) hL).2
 have h1 := loQ_in hq
 have h2 := loQ_in hw
 have z := hq_zero (show (0 : Int) ≤ dh by omega)
 have hs : Hq dl dh (dl : Rat) := Hq.pt (Int.le_refl _) d1
 exact ⟨mt_of (S.hull _ _ _ _ _ (h1.sub kq) (h2.sub kw) ha z z) (T.hull _ _ _ _ _ h1 h2 hb z z), mt_of (S.endP _ _ _ _ (h1.sub kq) (h2.sub kw) ha hs) (T.endP _ _ _ _ h1 h2 hb hs), mt_of (S.endV _ _ _ (h2.sub kw) ha hs) (T.endV _ _ _ h2 hb hs)⟩
def mdV (p : V3) : V3 := ⟨p.a + (p.b - p.a) / 2, p.a + (p.b - p.a) / 2, p.c + (p.d - p.c) / 2, p.c + (p.d - p.c) / 2, p.e + (p.f - p.e) / 2, p.e + (p.f - p.e) / 2⟩
theorem md_ck {p : V3} (h : ckV p = 0) : ckV (mdV p) = 0 ∧ PtV (mdV p) p := by
 obtain ⟨h0, h1, h2⟩ := ckV_ok h
 obtain ⟨a0, a1, a2⟩ := ckI_ok h0
 obtain ⟨b0, b1, b2⟩ := ckI_ok h1
 obtain ⟨c0, c1, c2⟩ := ckI_ok h2
 have hp : PtV (mdV p) p := by
  unfold mdV PtV Pt
  dsimp only
  omega
 exact ⟨hp.ck h, hp⟩
theorem ga_src {l : List BodyD} {fr ti : Int} {b : V3} (h : (gaR 0 l fr ti b).2 = 0) : (gaR 0 l fr ti b).1 = (srN l fr ti l.length).1 ∧ (srN l fr ti l.length).2 = 0 := by
 unfold gaR at h ⊢
 rw [if_neg (by simp)] at h ⊢
 by_cases e : ckV b = 0
 ·have e1 : ¬ (ckV b ≠ 0) := fun c => c e
  rw [if_neg e1] at h ⊢
  by_cases f : ti < fr
  ·rw [if_pos f] at h; exact absurd h (by decide)
  ·rw [if_neg f] at h ⊢
   by_cases g : (srN l fr ti l.length).2 = 0
   ·have g1 : ¬ ((srN l fr ti l.length).2 ≠ 0) := fun c => c g
    rw [if_neg g1]
    exact ⟨rfl, g⟩
   ·rw [if_pos g] at h; exact absurd h g
 ·rw [if_pos e] at h; exact absurd h e
theorem ac_src {l : List BodyD} {fr ti : Int} {b : V3} (h : (acR 0 l fr ti b).e = 0) : (gaR 0 l fr ti b).2 = 0 ∧ (acL (srN l fr ti l.length).1 b).e = 0 ∧ (acR 0 l fr ti b).v = (acL (srN l fr ti l.length).1 b).v := by
 by_cases g : (gaR 0 l fr ti b).2 = 0
 ·obtain ⟨s1, -⟩ := ga_src g
  unfold acR at h ⊢
  rw [s1] at h ⊢
  have g1 : ¬ ((gaR 0 l fr ti b).2 ≠ 0) := fun c => c g
  simp only [if_neg g1] at h ⊢
  unfold acL
  by_cases k : (acN b (srN l fr ti l.length).1 (ac0 b)).e = 0
  ·have k1 : ¬ ((acN b (srN l fr ti l.length).1 (ac0 b)).e ≠ 0) := fun c => c k
   rw [if_neg k1]
   exact ⟨g, k, rfl⟩
  ·rw [if_pos k] at h; exact absurd h (by decide)
 ·unfold acR at h
  rw [if_pos g] at h; exact absurd h g
theorem sr_ac {l : List BodyD} {fr ti : Int} {b : V3} (hb : ckV b = 0) (hft : fr ≤ ti) (hs : (srN l fr ti l.length).2 = 0) (h : (acL (srN l fr ti l.length).1 b).e = 0) : acR 0 l fr ti b = ⟨(acL (srN l fr ti l.length).1 b).v, 0⟩ := by
 have hg : gaR 0 l fr ti b = srN l fr ti l.length := by
  unfold gaR
  rw [if_neg (by simp), if_neg (fun c => c hb), if_neg (by omega), if_neg (fun c => c hs)]
 unfold acR
 rw [hg, if_neg (fun c => c hs)]
 unfold acL at h ⊢
 rw [if_neg (fun c => c h)]
theorem ckL2 {p v : V3} (h : ckL [p, v] = 0) : ckV p = 0 ∧ ckV v = 0 := by
 unfold ckL at h
 split at h
 ·rename_i h1; exact absurd h h1
 ·rename_i h1
  refine ⟨Classical.not_not.1 h1, ?_⟩
  unfold ckL at h
  split at h
  ·rename_i h2; exact absurd h h2
  ·rename_i h2; exact Classical.not_not.1 h2
theorem st_made {E : Int} {l : List BodyD} {fr ti : Int} {p v : V3} {t : Tu} (hE : CkE l E) (h : stR E l fr ti p v = (t, 0)) :
    E = 0 ∧ (ckV p = 0 ∧ ckV v = 0) ∧ fr < ti ∧ -5000000000000000 ≤ fr ∧ ti ≤ 5000000000000000 ∧ (srN l fr ti l.length).2 = 0 ∧ LPt (srN l fr ti l.length).1 (srN l fr ti l.length).1 ∧
      ∃ A, StOk (srN l fr ti l.length).1 (ofLo (paX fr ti)) (ofHi (paX fr ti)) fr ti p v t A := by
 unfold stR at h
 by_cases hc : ckF E [p, v] fr ti = 0
 ·have hc1 : ¬ (ckF E [p, v] fr ti ≠ 0) := fun c => c hc
  rw [if_neg hc1] at h
  obtain ⟨rfl, k1, k2, k3, k4⟩ := ckF_ok hc
  obtain ⟨kp, kv⟩ := ckL2 k1
  unfold paL paH at h
  rw [if_pos hc, if_pos hc] at h
  have hd := (pa_I k2 k3 k4).2
  have hacc : ∀ b, (acR 0 l fr ti b).e = 0 → (acL (srN l fr ti l.length).1 b).e = 0 ∧ (acR 0 l fr ti b).v = (acL (srN l fr ti l.length).1 b).v := fun b hb => (ac_src hb).2
  obtain ⟨b, -, eb, -, -⟩ := st_facts kp 20 p (PtV.refl kp) h
  have hg := (ac_src (trE_ok eb).1).1
  obtain ⟨s1, s2⟩ := ga_src hg
  have hL := lpt_refl (gaR_pt (fr := fr) (ti := ti) (p := b) hE)
  rw [s1] at hL
  obtain ⟨A, S⟩ := st_ok (acc := fun b => acR 0 l fr ti b) kp hd.1 hacc h
  exact ⟨rfl, ⟨kp, kv⟩, k2, k3, k4, s2, hL, A, S⟩
 ·rw [if_pos hc] at h
  exact absurd (congrArg Prod.snd h) hc
theorem sd_true {L : List SrcD} {dl dh fr ti : Int} {p v : V3} {t : Tu} {A : V3} (S : StOk L dl dh fr ti p v t A) : sdB t = true := by
 unfold sdB
 rw [decide_eq_true S.kh, decide_eq_true S.kf, decide_eq_true S.kp, decide_eq_true S.kv]; rfl
theorem fs_one {E : Int} {l : List BodyD} {fr ti : Int} {p v : V3} {t : Tu} (hE : CkE l E) (h : stR E l fr ti p v = (t, 0)) :
    (ckV p = 0 ∧ ckV v = 0) ∧ (t.fr = fr ∧ t.ti = ti) ∧ sdB t = true ∧ mtV t.h p = true ∧ mtV t.f v = true ∧ mtV t.h t.p = true ∧ mtV t.f t.v = true := by
 obtain ⟨-, ⟨kp, kv⟩, k2, k3, k4, -, hL, A, S⟩ := st_made hE h
 have hd := (pa_I k2 k3 k4).2
 obtain ⟨m1, m2, m3, m4⟩ := st_meets S kp kv hd.1 hd.2 hL
 exact ⟨⟨kp, kv⟩, ⟨S.kfr, S.kti⟩, sd_true S, m1, m2, m3, m4⟩
theorem fs_stays {E : Int} {l : List BodyD} {fr ti : Int} {p v : V3} {t : Tu} (hE : CkE l E) (h : stR E l fr ti p v = (t, 0)) : syV E l t p v = (true, 0) := by
 obtain ⟨rfl, ⟨kp, kv⟩, k2, k3, k4, s2, hL, A, S⟩ := st_made hE h
 have hd := (pa_I k2 k3 k4).2
 obtain ⟨a1, a2, a3, a4, a5⟩ := st_stays S kp kv hd.1 hd.2 hL
 have hC : ckF 0 [p, v, t.h, t.f, t.p, t.v] t.fr t.ti = 0 := by
  have hl : ckL [p, v, t.h, t.f, t.p, t.v] = 0 := by
   simp [ckL, kp, kv, S.kh, S.kf, S.kp, S.kv]
  unfold ckF
  rw [if_neg (by simp), if_neg (fun c => c hl), S.kfr, S.kti, if_neg (by omega), if_neg (by omega)]
 have hA : acR 0 l t.fr t.ti t.h = ⟨(acL (srN l fr ti l.length).1 t.h).v, 0⟩ := by
  rw [S.kfr, S.kti]
  exact sr_ac S.kh (by omega) s2 a1
 unfold syV
 rw [hC, hA]
 unfold paH
 rw [if_pos rfl, S.kfr, S.kti]
 unfold syR
 rw [if_neg (by simp), if_neg (by simp), if_neg (by rintro (c | c); exact c a2; exact c a3), a4, a5]
 rfl
theorem fs_two {E : Int} {l : List BodyD} {fr ti : Int} {p v : V3} {t u : Tu} (hE : CkE l E) (h : stR E l fr ti p v = (t, 0)) (k : stR E l fr ti (mdV p) (mdV v) = (u, 0)) :
    sdB u = true ∧ mtV t.h u.h = true ∧ mtV t.p u.p = true ∧ mtV t.v u.v = true := by
 obtain ⟨-, ⟨kp, kv⟩, k2, k3, k4, -, hL, A, S⟩ := st_made hE h
 obtain ⟨-, ⟨kq, kw⟩, -, -, -, -, -, B, T⟩ := st_made hE k
 have hd := (pa_I k2 k3 k4).2
 obtain ⟨m1, m2, m3⟩ := st_part S T kq kw (md_ck kp).2 (md_ck kv).2 hd.1 hd.2 hL
 exact ⟨sd_true T, m1, m2, m3⟩
end Go.Proofs.YtbkgakgdbmjmjaaGreat
