/- law35.FlowSplits: what the walk holds. -/
import Derived.Test.YtbkgakgdbmjmjaaGreatP36
import Derived.Test.YtbkgakgdbmjmjaaGreatP37
set_option linter.unusedSimpArgs false
set_option linter.unusedVariables false
set_option maxRecDepth 100000
namespace Go.Proofs.YtbkgakgdbmjmjaaGreat
open Go.RowKit
structure FpI (w : World) (ao : Option Addr) (m cap : Nat) (s : StD) (b1 o1 b2 o2 N Q : Nat) (L M : List Tu) (U : World) : Prop where
 b : RnB w ao m cap s U
 l : ∀ i, i < N → U.rangeAt b1 (o1 + i * 26) (tvs (L.getD i Tu.O))
 r : ∀ i, i < Q → U.rangeAt b2 (o2 + i * 26) (tvs (M.getD i Tu.O))
 k1 : b1 < U.heap.size
 k2 : b2 < U.heap.size
section
variable {w U W : World} {ao : Option Addr} {m cap : Nat} {s : StD} {b1 o1 b2 o2 N Q : Nat} {L M : List Tu}
theorem FpI.ext (h : FpI w ao m cap s b1 o1 b2 o2 N Q L M U) (k : Ext U W) : FpI w ao m cap s b1 o1 b2 o2 N Q L M W :=
 ⟨h.b.ext k, fun i hi => Ext.rg k h.k1 (h.l i hi), fun i hi => Ext.rg k h.k2 (h.r i hi), Nat.lt_of_lt_of_le h.k1 k.size, Nat.lt_of_lt_of_le h.k2 k.size⟩
theorem FpI.lfr (h : FpI w ao m cap s b1 o1 b2 o2 N Q L M U) {i : Nat} (hi : i < N) : U.cell? ⟨b1, o1 + i * 26, none⟩ = some (.int .i64 (L.getD i Tu.O).fr) := h.l i hi 0 _ rfl
theorem FpI.lti (h : FpI w ao m cap s b1 o1 b2 o2 N Q L M U) {i : Nat} (hi : i < N) : U.cell? ⟨b1, o1 + i * 26 + 1, none⟩ = some (.int .i64 (L.getD i Tu.O).ti) := h.l i hi 1 _ rfl
theorem FpI.rti (h : FpI w ao m cap s b1 o1 b2 o2 N Q L M U) {i : Nat} (hi : i < Q) : U.cell? ⟨b2, o2 + i * 26 + 1, none⟩ = some (.int .i64 (M.getD i Tu.O).ti) := h.r i hi 1 _ rfl
theorem rg_part {b o n : Nat} {l : List Value} (h : U.rangeAt b o l) (m : List Value) (hm : ∀ k v, m[k]? = some v → l[n + k]? = some v) : U.rangeAt b (o + n) m := fun k v hk => by
 have := h (n + k) v (hm k v hk)
 rwa [show o + n + k = o + (n + k) by omega]
def sixV (v : V3) : List Value := [.int .i64 v.a, .int .i64 v.b, .int .i64 v.c, .int .i64 v.d, .int .i64 v.e, .int .i64 v.f]
theorem six_at {l : List Value} {v : V3} {n : Nat} (h0 : l[n]? = some (.int .i64 v.a)) (h1 : l[n + 1]? = some (.int .i64 v.b)) (h2 : l[n + 2]? = some (.int .i64 v.c)) (h3 : l[n + 3]? = some (.int .i64 v.d)) (h4 : l[n + 4]? = some (.int .i64 v.e)) (h5 : l[n + 5]? = some (.int .i64 v.f)) :
    ∀ k u, (sixV v)[k]? = some u → l[n + k]? = some u
  | 0, _, h => h0.trans h
  | 1, _, h => h1.trans h
  | 2, _, h => h2.trans h
  | 3, _, h => h3.trans h
  | 4, _, h => h4.trans h
  | 5, _, h => h5.trans h
  | k + 6, _, h => by simp [sixV] at h
theorem rg_h {b o : Nat} {t : Tu} (h : U.rangeAt b o (tvs t)) : U.rangeAt b (o + 2) (sixV t.h) := rg_part h _ (six_at rfl rfl rfl rfl rfl rfl)
theorem rg_f {b o : Nat} {t : Tu} (h : U.rangeAt b o (tvs t)) : U.rangeAt b (o + 8) (sixV t.f) := rg_part h _ (six_at rfl rfl rfl rfl rfl rfl)
theorem rg_p {b o : Nat} {t : Tu} (h : U.rangeAt b o (tvs t)) : U.rangeAt b (o + 14) (sixV t.p) := rg_part h _ (six_at rfl rfl rfl rfl rfl rfl)
theorem rg_v {b o : Nat} {t : Tu} (h : U.rangeAt b o (tvs t)) : U.rangeAt b (o + 20) (sixV t.v) := rg_part h _ (six_at rfl rfl rfl rfl rfl rfl)
end
section
variable {ops : Array Oper} {S : World → Prop} {op : Oper} {a : Act}
theorem y_65 (x : Operand) (b o : Nat) (t : Tu) (hS : ∀ w, S w → w.rangeAt b o (tvs t)) (hx : a.eval x = .pointer (some ⟨b, o, none⟩) := by rfl) (ho : op.op = .load 65 x := by rfl) (hw : Region.wanted op (yielded ops a.tmps) = true := by rfl) : YieldsIf Tryz.prog ops S op (.agg (tvs t).toArray) a := by
 obtain ⟨d, h1, h2⟩ := tyU65
 exact yieldsIf_load_mid hw 65 x ho b o hx (tvs t) d hS h1 h2 tyI65
theorem y_28 (x : Operand) (b o : Nat) (v : V3) (hS : ∀ w, S w → w.rangeAt b o (sixV v)) (hx : a.eval x = .pointer (some ⟨b, o, none⟩) := by rfl) (ho : op.op = .load 28 x := by rfl) (hw : Region.wanted op (yielded ops a.tmps) = true := by rfl) : YieldsIf Tryz.prog ops S op (.agg #[.int .i64 v.a, .int .i64 v.b, .int .i64 v.c, .int .i64 v.d, .int .i64 v.e, .int .i64 v.f]) a := by
 exact yieldsIf_load_mid hw 28 x ho b o hx (sixV v) _ hS tyU28 rfl tyI28
theorem y_2 (x : Operand) (b o : Nat) (k : Int) (hS : ∀ w, S w → w.cell? ⟨b, o, none⟩ = some (.int .i64 k)) (hx : a.eval x = .pointer (some ⟨b, o, none⟩) := by rfl) (ho : op.op = .load 2 x := by rfl) (hw : Region.wanted op (yielded ops a.tmps) = true := by rfl) : YieldsIf Tryz.prog ops S op (.int .i64 k) a := by
 refine .inl ⟨hw, fun w h => ?_⟩
 have c := hS w h
 unfold execOp
 simp only [ho, hx]
 go_simp
variable {P : Program} {Q : Exit → Act → World → Prop} {md : Region.Mode} {T : Nat → Bool}
theorem tG (i : Nat) {oi : Oper} {v : Value} {fuel : Nat} {listed : Array Bool} {w : World} (hi : ops[i]? = some oi) (hy : YieldsIf P ops S oi v a) (h : wpAnyB P md ops Q S T fuel (listed.setIfInBounds i true) (a.put oi.dst v) w)
    (hs : Region.noSelect ops = true := by kernel_rfl) (hf : Region.free md ops listed i = true := by kernel_rfl) (hr : (Region.ready md ops listed).contains i = true := by kernel_rfl) (hT : (T i == false && tillB md ops T i) = true := by kernel_rfl)
    (hQ : ∀ c a w, Q (.panic c) (a.put oi.dst v) w → Q (.panic c) a w := by exact fun _ _ _ h => h) (hS : S w := by assumption) : wpAnyB P md ops Q S T (fuel + 1) listed a w := wpAnyB_take hi hs hf hr hT hQ hy hS h
theorem tV (i : Nat) (v : Value) {oi : Oper} {fuel : Nat} {listed : Array Bool} {w : World} (h : wpAnyB P md ops Q S T fuel (listed.setIfInBounds i true) (a.put oi.dst v) w) (hi : ops[i]? = some oi := by rfl)
    (hy : ∀ w, S w → (execOp a.eval oi).run P w = .ok (.value v) w := by intro w0 _; go_simp; first | done | rfl | omega | (congr 1; omega) | (simp; omega) | (simp only [IntWalk.i64_left]; exact w64_in (by omega)) | simp)
    (hg : Region.wanted oi (yielded ops a.tmps) = true := by rfl) (hs : Region.noSelect ops = true := by kernel_rfl) (hf : Region.free md ops listed i = true := by kernel_rfl) (hr : (Region.ready md ops listed).contains i = true := by kernel_rfl) (hT : (T i == false && tillB md ops T i) = true := by kernel_rfl)
    (hQ : ∀ c a w, Q (.panic c) (a.put oi.dst v) w → Q (.panic c) a w := by exact fun _ _ _ h => h) (hS : S w := by assumption) : wpAnyB P md ops Q S T (fuel + 1) listed a w := tG i hi (.inl ⟨hg, hy⟩) h hs hf hr hT hQ hS
theorem y_no (hw : Region.wanted op (yielded ops a.tmps) = false := by rfl) : YieldsIf Tryz.prog ops S op undef a := .inr ⟨hw, rfl⟩
end
end Go.Proofs.YtbkgakgdbmjmjaaGreat
