/- A tide's trace has 0. -/
import Derived.Test.YtomgcjeahkmhiaaCen2
set_option linter.unusedSimpArgs false
set_option linter.unusedVariables false
namespace Go.Proofs.Ytomgcjeahkmhiaa
open Go.RowKit

theorem dg_hs {n m : R3} {a b u v s t : Int} (h : (dgI n m 0 a b).e = 0) (hm : Hs m.lo m.hi u s) (hn : Hs n.lo n.hi v t) (s0 : 0 < s) (t0 : 0 < t) :
    Hs (dgI n m 0 a b).lo (dgI n m 0 a b).hi (u * (a * a) * t - v * (s * U * U)) (s * U * U * t) := by
  unfold dgI at h ⊢
  obtain ⟨h2, g2, e2⟩ := doI_ok h
  rw [e2]
  unfold dxI at h2 g2 ⊢
  obtain ⟨h1, g1, e1⟩ := doI_ok h2
  rw [e1] at g2 ⊢
  unfold dsI at h1 g1 g2 ⊢
  obtain ⟨_, g0, e0⟩ := doI_ok h1
  rw [e0] at g1 g2 ⊢
  have x := mul_hs g1 hm (sq_hs g0) s0 U0
  exact sub_hs g2 x hn (Int.mul_pos (Int.mul_pos s0 U0) U0) t0
theorem ring_trace (X C A B E V Q Q2 : Int) (hQ : Q = ((A * V + B * V) * V + E * (V * V))) (hQ2 : Q2 = V * V * V) :
    (X * 1 * V * 3 * Q2 * V * A * (1 * C) - X * 1 * V * (1 * C * Q * V * V)) + (X * 1 * V * 3 * Q2 * V * B * (1 * C) - X * 1 * V * (1 * C * Q * V * V)) + (X * 1 * V * 3 * Q2 * V * E * (1 * C) - X * 1 * V * (1 * C * Q * V * V)) = 0 := by
  subst hQ; subst hQ2; grind
theorem trace {x y : Int} {d : V3} (hk : lkI x y d = 0) (h0 : TdOK (tnI (sz2 (nrmI 0 d)) x y) (tmI (nrmI 0 d) (tnI (sz2 (nrmI 0 d)) x y)) d) :
    ∀ n m s t : R3, n = tnI (sz2 (nrmI 0 d)) x y → m = tmI (nrmI 0 d) n → s = addI (dgI n m 0 d.a d.b).lo (dgI n m 0 d.a d.b).hi (dgI n m 0 d.c d.d).lo (dgI n m 0 d.c d.d).hi → t = addI s.lo s.hi (dgI n m 0 d.e d.f).lo (dgI n m 0 d.e d.f).hi →
      s.e = 0 → t.e = 0 → t.lo ≤ 0 ∧ 0 ≤ t.hi := by
  intro n m s t hn hm hs ht es et
  rw [← hn] at h0
  rw [← hm] at h0
  obtain ⟨em, g0, g1, g2, _⟩ := h0
  obtain ⟨kx, _⟩ := lkI_ok hk
  have xy := (ckI_ok kx).1
  generalize hq : nrmI 0 d = q at *
  rw [hm] at em
  unfold tmI at em
  obtain ⟨b1, b2, b3⟩ := doI_ok em
  unfold ttI at b1 b2 b3
  obtain ⟨a1, a2, a3⟩ := doI_ok b1
  rw [a3] at b2 b3
  rw [hn] at a1
  unfold tnI at a1
  obtain ⟨c1, c2, c3⟩ := doI_ok a1
  have eq : q.e = 0 := by
    unfold sz2 at c1; obtain ⟨f1, _, _⟩ := doI_ok c1
    unfold sz1 at f1; exact (doI_ok f1).1
  have nq := nrm_hs (d := d) (by rw [hq]; exact eq)
  rw [hq] at nq
  have cz := (sz_ok nq.1 c1).2
  obtain ⟨_, kc, kc2⟩ := div_ck c2
  have cc := (ckI_ok kc).1
  have cl : 0 < (sz2 q).lo := by omega
  obtain ⟨_, kq, kq2⟩ := div_ck b2
  have qq := (ckI_ok kq).1
  have ql : 0 < q.lo := by have := nq.1; omega
  generalize sz2 q = c at *
  have nh : Hs n.lo n.hi (x * 1 * U) (1 * c.lo) := by
    have e : n = divI x y c.lo c.hi := by rw [hn]; unfold tnI; exact c3
    rw [e]
    exact div_hs c2 cl (Hs.pt x y xy) (Hs.pt c.lo c.hi cc) (by decide) (by decide) cl
  have C0 : 0 < 1 * c.lo := by omega
  have th := sc3_hs a2 nh C0
  have U3 : 0 < U * U * U := Int.mul_pos (Int.mul_pos U0 U0) U0
  have Qp : 0 < (d.a * d.a * U + d.c * d.c * U) * U + d.e * d.e * (U * U) := by
    have := Int.mul_pos ql U3
    have := nq.2.1
    omega
  have mh : Hs m.lo m.hi (x * 1 * U * 3 * (U * U * U) * U) (1 * c.lo * ((d.a * d.a * U + d.c * d.c * U) * U + d.e * d.e * (U * U))) := by
    have e : m = divI (scI n.lo n.hi 3 1).lo (scI n.lo n.hi 3 1).hi q.lo q.hi := by rw [hm]; unfold tmI ttI; rw [a3]; exact b3
    rw [e]
    exact div_hs b2 ql th nq.2 C0 U3 Qp
  have hR := fun A B E => ring_trace x c.lo A B E U _ _ rfl rfl
  have R := hR (d.a * d.a) (d.c * d.c) (d.e * d.e)
  generalize hQ : (d.a * d.a * U + d.c * d.c * U) * U + d.e * d.e * (U * U) = Q at *
  have S0 : 0 < 1 * c.lo * Q := Int.mul_pos C0 Qp
  have d0 := dg_hs g0 mh nh S0 C0
  have d1 := dg_hs g1 mh nh S0 C0
  have d2 := dg_hs g2 mh nh S0 C0
  have D0 : 0 < 1 * c.lo * Q * U * U * (1 * c.lo) := Int.mul_pos (Int.mul_pos (Int.mul_pos S0 U0) U0) C0
  rw [hs] at es
  have sh := add_hs es d0 d1 D0 D0
  rw [← hs] at sh
  rw [ht] at et
  have th2 := add_hs et sh d2 (Int.mul_pos D0 D0) D0
  rw [← ht] at th2
  generalize x * 1 * U * 3 * (U * U * U) * U * (d.a * d.a) * (1 * c.lo) - x * 1 * U * (1 * c.lo * Q * U * U) = n0 at *
  generalize x * 1 * U * 3 * (U * U * U) * U * (d.c * d.c) * (1 * c.lo) - x * 1 * U * (1 * c.lo * Q * U * U) = n1 at *
  generalize x * 1 * U * 3 * (U * U * U) * U * (d.e * d.e) * (1 * c.lo) - x * 1 * U * (1 * c.lo * Q * U * U) = n2 at *
  generalize 1 * c.lo * Q * U * U * (1 * c.lo) = D at *
  have e : (n0 * D + n1 * D) * D + n2 * (D * D) = (n0 + n1 + n2) * (D * D) := by grind
  rw [e, R, Int.zero_mul] at th2
  exact hs_zero th2 (Int.mul_pos (Int.mul_pos D0 D0) D0)
end Go.Proofs.Ytomgcjeahkmhiaa
