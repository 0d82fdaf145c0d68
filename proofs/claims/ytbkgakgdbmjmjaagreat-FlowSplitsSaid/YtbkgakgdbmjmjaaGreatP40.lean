/- law35.FlowSplits: it returns true. -/
import Derived.Test.YtbkgakgdbmjmjaaGreatP39
import Derived.Test.YtbkgakgdbmjmjaaGreatRows
set_option linter.unusedSimpArgs false
set_option linter.unusedVariables false
set_option maxRecDepth 100000
namespace Go.Proofs.YtbkgakgdbmjmjaaGreat
open Go.RowKit
theorem law_flowSplits (u : Value) (l : List BodyD) (s : StD) (te n : Int) (w : World) (hB : Bds w u l) :
    Calls Tryz.prog 10 #[.agg #[u], .agg #[.int .i64 s.t, .int .i64 s.x, .int .i64 s.y, .int .i64 s.z, .int .i64 s.u, .int .i64 s.v, .int .i64 s.r], .int .i64 te, .int .i64 n] w fun e w' => e = .returned (.bool true) ∧ Ext w w' := by
 obtain ⟨E, hE⟩ := CkE.ex l
 obtain ⟨ao, b, o, cap, rfl, _, _, _⟩ := hB.len
 have hs : (¬ Many l → Sml l) → E = 0 → Sml l := fun hg h => hg (hE.zero h).1
 exact fp_walk (rnR (stR E l) s te n).1 (rnR (stR E l) s te (2 * n)).1 (rnR (stR E l) s te n).2 (rnR (stR E l) s te (2 * n)).2 (stC8 s) (¬ Many l → Sml l) ao l.length cap s te n w
  (fun w1 k => (g_Great _ l w1 (hB.ext k)).mono fun e w' h => h)
  (fun w1 => r_CheckS _ _ _ _ _ _ _ w1)
  (fun hg w1 k => p_Run _ l E s te n w1 (hB.ext k) hE (hs hg))
  (fun hg w1 k => p_Run _ l E s te (2 * n) w1 (hB.ext k) hE (hs hg))
  (fun hg he => sp_one hE (Prod.ext rfl he))
  (fun hg he hf => ⟨sp_one hE (Prod.ext rfl hf), sp_two hE (hs hg) (Prod.ext rfl he) (Prod.ext rfl hf)⟩)
end Go.Proofs.YtbkgakgdbmjmjaaGreat
namespace Go.Proofs.YtbkgakgdbmjmjaaGreat
open Go.ChangeShapes Go.WideShapes Go.ChangeAt Go.RowKit
theorem T_OPE_3 {p : Prop} (h : p := by
 subst e
 exact ⟨[], some a, 0, 0, cap, rfl, fun e => absurd e (by simp), Nat.zero_le _, hm2, fun e => absurd e (by simp), fun i hi => absurd hi (by simp)⟩) : p := h
theorem T_OPE_2 {p : Prop} (h : p := by
 have hi' := hel i hi
 rw [List.getElem?_eq_getElem (by omega), Option.bind_eq_some_iff] at hi'
 obtain ⟨cs, h1, h2⟩ := hi'
 exact ⟨cs, _, h1, h2⟩) : p := h
theorem T_OPE_1 {p : Prop} (h : p := by
 simp at hcs
 subst hcs
 exact ⟨[], none, 0, 0, 0, rfl, fun e => absurd e (by simp), Nat.le_refl _, by omega, fun e => absurd e (by simp), fun i hi => absurd hi (by simp)⟩) : p := h
theorem cells44 : Tryz.prog.cellsOf 44 = 1 := by kernel_rfl
theorem cells45 : Tryz.prog.cellsOf 45 = 3 := by kernel_rfl
theorem cells47 : Tryz.prog.cellsOf 47 = 5 := by kernel_rfl
theorem cells48 : Tryz.prog.cellsOf 48 = 1 := by kernel_rfl
theorem cells50 : Tryz.prog.cellsOf 50 = 4 := by kernel_rfl
theorem cells22 : Tryz.prog.cellsOf 22 = 1 := by kernel_rfl
theorem cells24 : Tryz.prog.cellsOf 24 = 1 := by kernel_rfl
theorem cells2 : Tryz.prog.cellsOf 2 = 1 := by kernel_rfl
theorem cells9 : Tryz.prog.cellsOf 9 = 1 := by kernel_rfl
theorem list_ex {α : Type} (d : α) (P : Nat → α → Prop) : ∀ n, (∀ i, i < n → ∃ x, P i x) → ∃ l : List α, l.length = n ∧ ∀ i, i < n → P i (l.getD i d)
 | 0, _ => ⟨[], rfl, fun i h => absurd h (by omega)⟩
 | n + 1, h => by
  obtain ⟨l, hl, hp⟩ := list_ex d P n (fun i hi => h i (by omega))
  obtain ⟨x, hx⟩ := h n (by omega)
  refine ⟨l ++ [x], by simp [hl], fun i hi => ?_⟩
  rcases Nat.lt_or_ge i n with q | q
  ·rw [List.getD_eq_getElem?_getD, List.getElem?_append_left (by omega), ← List.getD_eq_getElem?_getD]; exact hp i q
  ·have : i = n := by omega
   subst this
   rw [List.getD_eq_getElem?_getD, List.getElem?_append_right (by omega), hl]
   simpa using hx
theorem len3 {α : Type} {l : List α} (h : l.length = 3) : ∃ a b c, l = [a, b, c] := by
 match l, h with
 | [a, b, c], _ => exact ⟨a, b, c, rfl⟩
theorem len4 {α : Type} {l : List α} (h : l.length = 4) : ∃ a b c d, l = [a, b, c, d] := by
 match l, h with
 | [a, b, c, d], _ => exact ⟨a, b, c, d, rfl⟩
theorem len5 {α : Type} {l : List α} (h : l.length = 5) : ∃ a b c d e, l = [a, b, c, d, e] := by
 match l, h with
 | [a, b, c, d, e], _ => exact ⟨a, b, c, d, e, rfl⟩
theorem wf_i64_in {n : Int} (h : (Lit.int .i64 n).wf = true) : I64 n := by
 have e1 : IntKind.i64.min = -9223372036854775808 := by decide
 have e2 : IntKind.i64.max = 9223372036854775807 := by decide
 simp only [Lit.wf, e1, e2, Bool.and_eq_true, decide_eq_true_eq] at h
 unfold I64
 omega
theorem take_getDz (zs : List Int) {len i : Nat} (h : i < len) : (zs.take len).getD i 0 = zs.getD i 0 := by
 rw [List.getD_eq_getElem?_getD, List.getD_eq_getElem?_getD, List.getElem?_take_of_lt h]
section
variable {H : Type} {enc : TypeId × Value → H} {W : World} {base : Nat} {spare : Nat → Bool} {held : Bool}
theorem cells_at {a : Addr} {n : Nat} {cs : List Value} (h : W.cells? base a n = some cs) (hn : 0 < n) : ∃ b o, a = ⟨b, o, none⟩ ∧ b < W.heap.size ∧ ∀ j, j < n → W.cell? ⟨b, o + j, none⟩ = cs[j]? := by
 obtain ⟨_, hl, hc⟩ := World.cells?_some h
 obtain ⟨b, o, spot⟩ := a
 have h0 := hc 0 hn
 have e0 : cs[0]? = some cs[0] := List.getElem?_eq_getElem (by omega)
 rw [e0] at h0
 have hspot : spot = none := by simpa [Addr.add] using World.cell?_spot h0
 subst hspot
 refine ⟨b, o, rfl, ?_, fun j hj => by rw [← Go.WideShapes.add_plain]; exact hc j hj⟩
 have := World.block_lt_of_cell? W _ h0
 simpa [Addr.add] using this
theorem ox_xs {fuel : Nat} {v : Value} {x : DataW H × List MemPlace} (h : DataW.trod enc Tryz.prog W base spare held fuel 44 [v] = some x) : ∃ l, Xs W v l := by
 rcases open_ints Tryz.underlying44 Tryz.underlying2 cells2 h with ⟨hcs, hx⟩ | ⟨a, len, cap, zs, hcs, _, hl, hm, hz, hx, hcell, hwz⟩
 ·simp at hcs
  subst hcs
  exact ⟨[], none, 0, 0, 0, rfl, fun e => absurd e (by simp), Nat.le_refl _, by omega, fun e => absurd e (by simp), fun i hi => absurd hi (by simp), fun i hi => absurd hi (by simp)⟩
 ·simp at hcs
  subst hcs
  have hm2 : cap ≤ 9223372036854775807 := by unfold maxLen at hm; omega
  have hzl : len ≤ zs.length := by rw [hz]; split <;> omega
  have hlen : (zs.take len).length = len := by rw [List.length_take]; omega
  rcases Nat.eq_zero_or_pos len with e | e
  ·subst e
   exact ⟨[], some a, 0, 0, cap, rfl, fun e => absurd e (by simp), Nat.zero_le _, hm2, fun e => absurd e (by simp), fun i hi => absurd hi (by simp), fun i hi => absurd hi (by simp)⟩
  ·obtain ⟨b, off, rfl, hc⟩ := ints_at hcell (by omega)
   refine ⟨zs.take len, some ⟨b, off, none⟩, b, off, cap, by rw [hlen], fun _ => rfl, by rw [hlen]; exact hl, hm2, fun _ => ?_, fun i hi => ?_, fun i hi => ?_⟩
   ·exact World.block_lt_of_cell? W _ (hc 0 (by omega))
   ·rw [hlen] at hi
    rw [take_getDz zs hi]; exact hc i (by omega)
   ·rw [hlen] at hi
    rw [take_getDz zs hi]
    have hi2 : i < zs.length := by omega
    rw [List.getD_eq_getElem?_getD, List.getElem?_eq_getElem hi2]
    exact wf_i64_in (hwz _ (List.getElem_mem hi2))
theorem ox_seg {fuel : Nat} {cs : List Value} {x : DataW H × List MemPlace} (h : DataW.trod enc Tryz.prog W base spare held fuel 47 cs = some x) :
    ∃ (s : SegD) (v0 v1 v2 : Value), cs = [.int .i64 s.fr, .int .i64 s.ti, v0, v1, v2] ∧ I64 s.fr ∧ I64 s.ti ∧ Xs W v0 s.c0 ∧ Xs W v1 s.c1 ∧ Xs W v2 s.c2 := by
 obtain ⟨xs, n, rfl, rfl, hlen, hxs, hf⟩ := DataW.trod_struct Tryz.underlying47 h
 rw [cells47] at hlen
 obtain ⟨c0, c1, c2, c3, c4, rfl⟩ := len5 hlen
 obtain ⟨y0, y1, y2, rfl⟩ := len3 hxs
 have h0 : DataW.trod enc Tryz.prog W base spare held n 2 (List.take (Tryz.prog.cellsOf 2) (List.drop 0 [c0, c1, c2, c3, c4])) = some y0 := hf 0 _ rfl
 have h1 : DataW.trod enc Tryz.prog W base spare held n 2 (List.take (Tryz.prog.cellsOf 2) (List.drop 1 [c0, c1, c2, c3, c4])) = some y1 := hf 1 _ rfl
 have h2 : DataW.trod enc Tryz.prog W base spare held n 45 (List.take (Tryz.prog.cellsOf 45) (List.drop 2 [c0, c1, c2, c3, c4])) = some y2 := hf 2 _ rfl
 rw [cells2] at h0 h1
 rw [cells45] at h2
 obtain ⟨a0, e0, -, w0⟩ := DataW.trod_int Tryz.underlying2 h0
 obtain ⟨a1, e1, -, w1⟩ := DataW.trod_int Tryz.underlying2 h1
 simp at e0 e1
 subst e0 e1
 obtain ⟨zs, m, rfl, hz, hzl, hzn, hzf⟩ := DataW.trod_array Tryz.underlying45 h2
 obtain ⟨z0, z1, z2, rfl⟩ := len3 hzn
 have k0 := hzf 0 (by decide)
 have k1 := hzf 1 (by decide)
 have k2 := hzf 2 (by decide)
 rw [cells44] at k0 k1 k2
 obtain ⟨l0, q0⟩ := ox_xs (by simpa using k0)
 obtain ⟨l1, q1⟩ := ox_xs (by simpa using k1)
 obtain ⟨l2, q2⟩ := ox_xs (by simpa using k2)
 exact ⟨⟨a0, a1, l0, l1, l2⟩, c2, c3, c4, rfl, wf_i64_in w0, wf_i64_in w1, q0, q1, q2⟩
theorem ox_segs {fuel : Nat} {v : Value} {x : DataW H × List MemPlace} (h : DataW.trod enc Tryz.prog W base spare held fuel 48 [v] = some x) : ∃ l, Sgs W v l := by
 rcases DataW.trod_slice Tryz.underlying48 h with ⟨hcs, hx⟩ | ⟨a, len, cap, elems, rest, n, _, hcs, rfl, hb, hl, hm, hlen, hel, -, -⟩
 ·exact T_OPE_1
 ·simp at hcs
  subst hcs
  have hm2 : cap ≤ 9223372036854775807 := by unfold maxLen at hm; omega
  rcases Nat.eq_zero_or_pos len with e | e
  ·exact T_OPE_3
  ·rw [cells47] at hel
   have each : ∀ i, i < len → ∃ cs y, W.cells? base (a.add (i * 5)) 5 = some cs ∧ DataW.trod enc Tryz.prog W base spare held n 47 cs = some y := fun i hi => by
    exact T_OPE_2
   obtain ⟨cs0, y0, hc0, -⟩ := each 0 e
   obtain ⟨b, o, ha, hbs, -⟩ := cells_at hc0 (by decide)
   have ha' : a = ⟨b, o, none⟩ := by
    obtain ⟨ab, ao, asp⟩ := a
    simpa [Addr.add] using ha
   subst ha'
   obtain ⟨l, hll, hp⟩ := list_ex seg0 (fun i s => ∃ v0 v1 v2, (W.cell? ⟨b, o + i * 5, none⟩ = some (.int .i64 s.fr) ∧ W.cell? ⟨b, o + i * 5 + 1, none⟩ = some (.int .i64 s.ti) ∧ W.cell? ⟨b, o + i * 5 + 2, none⟩ = some v0 ∧ W.cell? ⟨b, o + i * 5 + 3, none⟩ = some v1 ∧ W.cell? ⟨b, o + i * 5 + 4, none⟩ = some v2) ∧ I64 s.fr ∧ I64 s.ti ∧ Xs W v0 s.c0 ∧ Xs W v1 s.c1 ∧ Xs W v2 s.c2) len (fun i hi => by
    obtain ⟨cs, y, h1, h2⟩ := each i hi
    obtain ⟨s, v0, v1, v2, rfl, f⟩ := ox_seg h2
    obtain ⟨b', o', e', -, hc⟩ := cells_at h1 (by decide)
    rw [Go.WideShapes.add_plain] at e'
    cases e'
    exact ⟨s, v0, v1, v2, ⟨hc 0 (by decide), hc 1 (by decide), hc 2 (by decide), hc 3 (by decide), hc 4 (by decide)⟩, f⟩)
   subst hll
   exact ⟨l, some ⟨b, o, none⟩, b, o, cap, rfl, fun _ => rfl, hl, hm2, fun _ => hbs, hp⟩
theorem ox_body {fuel : Nat} {cs : List Value} {x : DataW H × List MemPlace} (h : DataW.trod enc Tryz.prog W base spare held fuel 50 cs = some x) :
    ∃ (d : BodyD) (vs : Value), cs = [.string d.name, .int .i64 d.gm, .int .i64 d.rad, vs] ∧ d.name.size ≤ 9223372036854775807 ∧ I64 d.gm ∧ I64 d.rad ∧ Sgs W vs d.segs := by
 obtain ⟨xs, n, rfl, rfl, hlen, hxs, hf⟩ := DataW.trod_struct Tryz.underlying50 h
 rw [cells50] at hlen
 obtain ⟨c0, c1, c2, c3, rfl⟩ := len4 hlen
 obtain ⟨y0, y1, y2, y3, rfl⟩ := len4 hxs
 have h0 : DataW.trod enc Tryz.prog W base spare held n 9 (List.take (Tryz.prog.cellsOf 9) (List.drop 0 [c0, c1, c2, c3])) = some y0 := hf 0 _ rfl
 have h1 : DataW.trod enc Tryz.prog W base spare held n 2 (List.take (Tryz.prog.cellsOf 2) (List.drop 1 [c0, c1, c2, c3])) = some y1 := hf 1 _ rfl
 have h2 : DataW.trod enc Tryz.prog W base spare held n 2 (List.take (Tryz.prog.cellsOf 2) (List.drop 2 [c0, c1, c2, c3])) = some y2 := hf 2 _ rfl
 have h3 : DataW.trod enc Tryz.prog W base spare held n 48 (List.take (Tryz.prog.cellsOf 48) (List.drop 3 [c0, c1, c2, c3])) = some y3 := hf 3 _ rfl
 rw [cells9] at h0
 rw [cells2] at h1 h2
 rw [cells48] at h3
 obtain ⟨a0, e0, -, w0⟩ := DataW.trod_string Tryz.underlying9 h0
 obtain ⟨a1, e1, -, w1⟩ := DataW.trod_int Tryz.underlying2 h1
 obtain ⟨a2, e2, -, w2⟩ := DataW.trod_int Tryz.underlying2 h2
 simp at e0 e1 e2
 subst e0 e1 e2
 obtain ⟨l, hl⟩ := ox_segs (by simpa using h3)
 exact ⟨⟨a0, a1, a2, l⟩, c3, rfl, by unfold maxLen at w0; exact w0, wf_i64_in w1, wf_i64_in w2, hl⟩
theorem ox_bodies {fuel : Nat} {v : Value} {x : DataW H × List MemPlace} (h : DataW.trod enc Tryz.prog W base spare held fuel 22 [v] = some x) : ∃ l, Bds W v l := by
 rcases DataW.trod_slice Tryz.underlying22 h with ⟨hcs, hx⟩ | ⟨a, len, cap, elems, rest, n, _, hcs, rfl, hb, hl, hm, hlen, hel, -, -⟩
 ·exact T_OPE_1
 ·simp at hcs
  subst hcs
  have hm2 : cap ≤ 9223372036854775807 := by unfold maxLen at hm; omega
  rcases Nat.eq_zero_or_pos len with e | e
  ·exact T_OPE_3
  ·rw [cells50] at hel
   have each : ∀ i, i < len → ∃ cs y, W.cells? base (a.add (i * 4)) 4 = some cs ∧ DataW.trod enc Tryz.prog W base spare held n 50 cs = some y := fun i hi => by
    exact T_OPE_2
   obtain ⟨cs0, y0, hc0, -⟩ := each 0 e
   obtain ⟨b, o, ha, hbs, -⟩ := cells_at hc0 (by decide)
   have ha' : a = ⟨b, o, none⟩ := by
    obtain ⟨ab, ao, asp⟩ := a
    simpa [Addr.add] using ha
   subst ha'
   obtain ⟨l, hll, hp⟩ := list_ex body0 (fun i d => ∃ vs, (W.cell? ⟨b, o + i * 4, none⟩ = some (.string d.name) ∧ W.cell? ⟨b, o + i * 4 + 1, none⟩ = some (.int .i64 d.gm) ∧ W.cell? ⟨b, o + i * 4 + 2, none⟩ = some (.int .i64 d.rad) ∧ W.cell? ⟨b, o + i * 4 + 3, none⟩ = some vs) ∧ d.name.size ≤ 9223372036854775807 ∧ I64 d.gm ∧ I64 d.rad ∧ Sgs W vs d.segs) len (fun i hi => by
    obtain ⟨cs, y, h1, h2⟩ := each i hi
    obtain ⟨d, vs, rfl, f⟩ := ox_body h2
    obtain ⟨b', o', e', -, hc⟩ := cells_at h1 (by decide)
    rw [Go.WideShapes.add_plain] at e'
    cases e'
    exact ⟨d, vs, ⟨hc 0 (by decide), hc 1 (by decide), hc 2 (by decide), hc 3 (by decide)⟩, f⟩)
   subst hll
   exact ⟨l, some ⟨b, o, none⟩, b, o, cap, rfl, fun _ => rfl, hl, hm2, fun _ => hbs, hp⟩
theorem open_eph {v : Value} {r : Reach} {d : DataW H} {p : List MemPlace} (hok : Value.okWide Tryz.prog W r base 24 v) (h : DataW.Trod enc Tryz.prog W 0 spare held 24 v d p) : ∃ u l, v = .agg #[u] ∧ Bds W u l := by
 obtain ⟨cs, rfl, hcs⟩ := okWide_struct Tryz.underlying24 hok
 rw [cells24] at hcs
 obtain ⟨fuel, hf⟩ := h
 obtain ⟨u, hu⟩ : ∃ u, cs = #[u] := by
  obtain ⟨l⟩ := cs
  match l, hcs with
  | [u], _ => exact ⟨u, rfl⟩
 subst hu
 obtain ⟨xs, n, rfl, -, hlen, hxs, hg⟩ := DataW.trod_struct Tryz.underlying24 hf
 obtain ⟨y, hy⟩ : ∃ y, xs[0]? = some y := ⟨_, List.getElem?_eq_getElem (by rw [hxs]; decide)⟩
 have h0 : DataW.trod enc Tryz.prog W 0 spare held n 22 (List.take (Tryz.prog.cellsOf 22) (List.drop 0 [u])) = xs[0]? := hg 0 _ rfl
 rw [cells22, hy] at h0
 obtain ⟨l, hl⟩ := ox_bodies (v := u) (by simpa [Value.cells] using h0)
 exact ⟨u, l, rfl, hl⟩
end
end Go.Proofs.YtbkgakgdbmjmjaaGreat
namespace Go.Proofs.YtbkgakgdbmjmjaaGreat
open Go.RowKit
theorem open_cell {w : World} {r : Reach} {b : Nat} {v : Value} (h : Cell.okWide Tryz.prog w r b 2 v) : ∃ x, v = .int .i64 x ∧ I64 x := by
 simp only [Cell.okWide, Tryz.underlying2, Cell.ok] at h
 cases v <;> simp_all
 rename_i k n
 obtain ⟨rfl, h2⟩ := h
 have e1 : IntKind.i64.min = -9223372036854775808 := by decide
 have e2 : IntKind.i64.max = 9223372036854775807 := by decide
 simp only [IntKind.has, e1, e2] at h2
 unfold I64; omega
end Go.Proofs.YtbkgakgdbmjmjaaGreat
namespace Go.Proofs.YtbkgakgdbmjmjaaGreat
open Go.ChangeShapes Go.WideShapes Go.ChangeAt Go.RowKit
section
variable {H : Type} {enc : TypeId × Value → H} {W : World} {base : Nat} {spare : Nat → Bool} {held : Bool}
theorem open_i64 {v : Value} {r : Reach} {d : DataW H} {p : List MemPlace} (hok : Value.okWide Tryz.prog W r base 2 v) (h : DataW.Trod enc Tryz.prog W 0 spare held 2 v d p) : ∃ x, v = .int .i64 x ∧ I64 x := by
 obtain ⟨n, rfl⟩ := okWide_int Tryz.underlying2 hok
 obtain ⟨m, hm⟩ := h
 obtain ⟨x, e, -, w⟩ := DataW.trod_int Tryz.underlying2 hm
 simp [Value.cells] at e
 subst e
 exact ⟨_, rfl, wf_i64_in w⟩
theorem open_int3 {v : Value} {r : Reach} {d : DataW H} {p : List MemPlace} (hok : Value.okWide Tryz.prog W r base 3 v) (h : DataW.Trod enc Tryz.prog W 0 spare held 3 v d p) : ∃ x, v = .int .i64 x ∧ I64 x := by
 obtain ⟨n, rfl⟩ := okWide_int Tryz.underlying3 hok
 obtain ⟨m, hm⟩ := h
 obtain ⟨x, e, -, w⟩ := DataW.trod_int Tryz.underlying3 hm
 simp [Value.cells] at e
 subst e
 exact ⟨_, rfl, wf_i64_in w⟩
end
theorem types79 : Tryz.prog.cellTypes Tryz.prog.depth 79 = some [2, 2, 2, 2, 2, 2, 2] := by kernel_rfl
theorem size79 : Tryz.prog.cellsOf 79 = 7 := by kernel_rfl
theorem open_state {w : World} {r : Reach} {b : Nat} {v : Value} (h : Value.okWide Tryz.prog w r b 79 v) : ∃ s : StD, v = .agg #[.int .i64 s.t, .int .i64 s.x, .int .i64 s.y, .int .i64 s.z, .int .i64 s.u, .int .i64 s.v, .int .i64 s.r] := by
 simp only [Value.okWide, Tryz.underlying79] at h
 obtain ⟨cs, rfl, hsz, ts, hts, -, hc⟩ := h
 rw [types79] at hts
 obtain rfl : [2, 2, 2, 2, 2, 2, 2] = ts := by injection hts
 rw [size79] at hsz
 obtain ⟨l⟩ := cs
 match l, hsz with
 | [c0, c1, c2, c3, c4, c5, c6], _ =>
  obtain ⟨u, hu, h0⟩ := hc 0 c0 (by simp)
  obtain rfl : 2 = u := by simpa using hu
  obtain ⟨x0, rfl, -⟩ := open_cell h0
  obtain ⟨u, hu, h1⟩ := hc 1 c1 (by simp)
  obtain rfl : 2 = u := by simpa using hu
  obtain ⟨x1, rfl, -⟩ := open_cell h1
  obtain ⟨u, hu, h2⟩ := hc 2 c2 (by simp)
  obtain rfl : 2 = u := by simpa using hu
  obtain ⟨x2, rfl, -⟩ := open_cell h2
  obtain ⟨u, hu, h3⟩ := hc 3 c3 (by simp)
  obtain rfl : 2 = u := by simpa using hu
  obtain ⟨x3, rfl, -⟩ := open_cell h3
  obtain ⟨u, hu, h4⟩ := hc 4 c4 (by simp)
  obtain rfl : 2 = u := by simpa using hu
  obtain ⟨x4, rfl, -⟩ := open_cell h4
  obtain ⟨u, hu, h5⟩ := hc 5 c5 (by simp)
  obtain rfl : 2 = u := by simpa using hu
  obtain ⟨x5, rfl, -⟩ := open_cell h5
  obtain ⟨u, hu, h6⟩ := hc 6 c6 (by simp)
  obtain rfl : 2 = u := by simpa using hu
  obtain ⟨x6, rfl, -⟩ := open_cell h6
  exact ⟨⟨x0, x1, x2, x3, x4, x5, x6⟩, rfl⟩
end Go.Proofs.YtbkgakgdbmjmjaaGreat
namespace Go.Proofs.YtbkgakgdbmjmjaaGreat
theorem jf10_inPlace : Tryz.prog.inPlace 10 = Rows.flowSplitsRow.inPlace := by kernel_rfl
theorem jf10_unf : Tryz.prog.unfollowed 10 = Rows.flowSplitsRow.unfollowed := by kernel_rfl
theorem jf10_rec : Tryz.prog.recurses 10 = Rows.flowSplitsRow.recurses := by kernel_rfl
theorem jf10_named : Tryz.prog.varsNamed 10 = Rows.flowSplitsRow.named := by kernel_rfl
theorem jf10_closed : joinedFacts Tryz.pinned.checked.prog 10 Tryz.f10 Rows.flowSplitsSpec Rows.flowSplitsRow = true := by
 show joinedFacts Tryz.prog 10 Tryz.f10 Rows.flowSplitsSpec Rows.flowSplitsRow = true
 unfold joinedFacts
 rw [jf10_inPlace, jf10_unf, jf10_rec, jf10_named]
 kernel_rfl
end Go.Proofs.YtbkgakgdbmjmjaaGreat
