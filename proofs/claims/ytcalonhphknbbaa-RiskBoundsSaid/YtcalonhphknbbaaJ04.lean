/- Limbs: compared. -/
import Derived.Test.YtcalonhphknbbaaJ03
set_option linter.unusedSimpArgs false
set_option linter.unusedVariables false
namespace Go.Proofs.Ytcalonhphknbbaa
open Go.RowKit Go.Shelf

attribute [local go_sem] Oper.semAt_some
/-- Between two rounds: those that have come are alike. -/
def CI (s : Nat) (vb : Value) (X Y : List Int) (pre : List (DN X.length)) (W : World) : Prop :=
  (∀ y ∈ pre, X.getD y.1 0 = Y.getD y.1 0) ∧ W.cell? ⟨s, 0, none⟩ = some vb ∧ W.cell? ⟨s + 1, 0, none⟩ = some (.int .i64 0) ∧ W.frozen? ⟨s + 1, 0, none⟩ = false
/-- A round has returned. -/
def CX (s : Nat) (X Y : List Int) (c : Code) (pre : List (DN X.length)) (W : World) : Prop :=
  c = .ret ∧ ∃ q x, pre = q ++ [x] ∧ (∀ y ∈ q, X.getD y.1 0 = Y.getD y.1 0) ∧ ((X.getD x.1 0 < Y.getD x.1 0 ∧ W.cell? ⟨s + 1, 0, none⟩ = some (.int .i64 (-1))) ∨ (Y.getD x.1 0 < X.getD x.1 0 ∧ W.cell? ⟨s + 1, 0, none⟩ = some (.int .i64 1)))
set_option maxRecDepth 100000 in
set_option maxHeartbeats 4000000 in
theorem compare_in (F : Fence) (n : Nat) (hC : F.fn 74) (hD : F.fn 82) (hK : F.fn 91) (hro : F.round = none) (hn : 4 ≤ n) (va vb : Value) (X Y : List Int) (w : World) (ha : Lim w va X) (hb : Lim w vb Y) (hl : X.length = Y.length) :
    CallsIn F n Try.prog 74 #[va, vb] w fun e w' => e = .returned (.int .i64 (cmpI (val X) (val Y))) ∧ Ext w w' := by
  obtain ⟨aoA, bA, oA, cA, rfl, a1, a2, a3, a4, a5, a6⟩ := ha.view
  obtain ⟨aoB, bB, oB, cB, rfl, b1, b2, b3, b4, b5, b6⟩ := hb.view
  have h1 : 1 ≤ n := by omega
  have lX := ha.lb
  have lY := hb.lb
  have HL : Hid (X.length = Y.length) := hl
  rw [hl] at ha
  refine callsIn_of_wp_marks Try.func74 rfl hC ?_ hro
  simp only [Try.ntmps74, List.size_toArray, List.length_cons, List.length_nil, Nat.reduceAdd, Nat.reduceSub, Array.replicate_succ, Array.replicate_zero, List.push_toArray, List.append_toArray, List.nil_append, List.cons_append]
  gi_wp2_with (gi_at_call 82; refine (down_in F (n - 1) hD hro _ _ _ _).mono ?_; rintro e w' ⟨rfl, rfl⟩)
  have c0 := cell_new_l w (.slice aoB Y.length cB) 23
  have c1 := cell_new_l (w.alloc (.cells #[.slice aoB Y.length cB] 23)) (.int .i64 0) 3
  have c2 := cell_new_l ((w.alloc (.cells #[.slice aoB Y.length cB] 23)).alloc (.cells #[.int .i64 0] 3)) (.slice aoA Y.length cA) 23
  simp only [World.size_alloc] at c1 c2
  have hB0 : Below w.heap.size w (((w.alloc (.cells #[.slice aoB Y.length cB] 23)).alloc (.cells #[.int .i64 0] 3)).alloc (.cells #[.slice aoA Y.length cA] 23)) := (((Below.refl _ w).alloc (Nat.le_refl _) _).alloc (by simp) _).alloc (by simp; omega) _
  refine wpIn_rangeFunc_ownF hro h1 (gf := 91) (lb := #[.pointer (some ⟨w.heap.size + 1 + 1, 0, none⟩)]) rfl hK (enters_of Try.func91 (by kernel_rfl) rfl)
    (down_stops F (n - 1) hK hro (by omega) (w.heap.size + 1 + 1) w.heap.size w _ _ X ha rfl hB0 (by simp) c2.1) K2.trans (k2_b (by simp; omega) (by simp)) (Below.refl _ _) (fun _ => rfl)
    (fun pre W => CI w.heap.size (.slice aoB Y.length cB) X Y pre W ∧ Below w.heap.size w W) (fun c pre W => CX w.heap.size X Y c pre W ∧ Below w.heap.size w W)
    (OwnFrom.and (Own.from (fun s A B row hs hg hr => ⟨hs.1, cell_kept hs.2.1 hg hr, cell_kept hs.2.2.1 hg hr, (frozen_kept hs.2.2.1 hg hr).trans hs.2.2.2⟩) _) (ownFrom_below (Nat.le_refl _) (by simp; omega)))
    (fun c => OwnFrom.and (Own.from (fun s A B row hs hg hr => ⟨hs.1, by
        obtain ⟨q, x, e, he, h | h⟩ := hs.2
        · exact ⟨q, x, e, he, .inl ⟨h.1, cell_kept h.2 hg hr⟩⟩
        · exact ⟨q, x, e, he, .inr ⟨h.1, cell_kept h.2 hg hr⟩⟩⟩) _) (ownFrom_below (Nat.le_refl _) (by simp; omega)))
    ⟨⟨by simp, cell_alloc_l _ (cell_alloc_l _ c0.1), cell_alloc_l _ c1.1, frozen_alloc_l _ c1.1 c1.2⟩, hB0⟩
    (fun x => { tmps := #[.slice aoA Y.length cA, .slice aoB Y.length cB, undef, .pointer (some ⟨w.heap.size, 0, none⟩), .pointer (some ⟨w.heap.size + 1, 0, none⟩), .int .i64 (x.1 : Int), .int .u32 (X.getD x.1 0), .slice aoA Y.length cA, .int .i64 Y.length, .slice aoB Y.length cB, .int .i64 Y.length, .bool false, undef, undef, undef, undef, undef, .slice aoA Y.length cA, .func (.func 91) #[] #[.pointer (some ⟨w.heap.size + 1 + 1, 0, none⟩)], .int .i64 (x.1 : Int), .int .u32 (X.getD x.1 0), undef, undef, undef, undef, undef, undef, undef, undef, undef, undef, undef, undef], defers := [] }) ?assign ?body ?done ?stop
  case assign =>
    intro l x W K hK
    gi_wp2
    exact hK
  case body =>
    rintro l pre x W ⟨⟨hp, hcb, hcr, hfr⟩, hB⟩ hlen
    obtain ⟨j, hj⟩ := x
    have hjl : j < X.length := hj (by omega)
    have hjy : j < Y.length := by have := HL.out; omega
    have eB := b1 (by omega)
    subst eB
    have hcy := (hB.cell (p := ⟨bB, oB + j, none⟩) (b4 (by omega))).trans (b5 j hjy)
    have hex : (fun j => X.getD j 0) j = X.getD j 0 := rfl
    obtain ⟨z, ez⟩ : ∃ z, X.getD j 0 = z := ⟨_, rfl⟩
    obtain ⟨y, ey⟩ : ∃ y, Y.getD j 0 = y := ⟨_, rfl⟩
    dsimp only
    rw [ez]
    rw [ey] at hcy
    clear hl hex b5 a5
    gi_wp2
    · rename_i hz
      exact ⟨KeepsOthers.setCell _ _ _, ⟨rfl, pre, ⟨j, hj⟩, rfl, hp, .inl ⟨by dsimp only; rw [ez, ey]; exact hz, World.cell?_setCell_same' _ _ _ (by rw [hcr]; rfl)⟩⟩, hB.setCell (p := ⟨w.heap.size + 1, 0, none⟩) (by simp) _⟩
    · rename_i hz1 hz
      exact ⟨KeepsOthers.setCell _ _ _, ⟨rfl, pre, ⟨j, hj⟩, rfl, hp, .inr ⟨by dsimp only; rw [ez, ey]; exact hz, World.cell?_setCell_same' _ _ _ (by rw [hcr]; rfl)⟩⟩, hB.setCell (p := ⟨w.heap.size + 1, 0, none⟩) (by simp) _⟩
    · rename_i hz1 hz
      exact ⟨KeepsOthers.refl _, K2.refl _ _ _, ⟨fun u hu => (List.mem_append.1 hu).elim (hp u) (fun e => by have e2 := List.mem_singleton.1 e; subst e2; dsimp only; rw [ez, ey]; omega), hcb, hcr, hfr⟩, hB⟩
  case done =>
    rintro D ys W hD hys ⟨⟨hne, _, hcr, hfr⟩, hB⟩ hK2
    have hv : cmpI (val X) (val Y) = 0 := cmp_eq (by rw [all_eq HL.out hys hne])
    clear hl
    gi_wp2
    have hK' := (KeepsOthers.setCell W ⟨w.heap.size + 1, 0, none⟩ (.int .i64 0)).same D _ hK2 rfl
    refine ⟨by simp, .inl ⟨_, _, rfl, run_takeDeferred hK', ?_⟩⟩
    have hc5 := cell_kept (World.cell?_setCell_same' W ⟨w.heap.size + 1, 0, none⟩ (.int .i64 0) (by rw [hcr]; rfl)) (grownBy_putObj' _ D (.deferred none)) (fun r e => by cases e; exact ⟨_, hK', rfl⟩)
    refine ⟨.int .i64 0, ?_, by rw [hv], (hB.setCell (p := ⟨w.heap.size + 1, 0, none⟩) (by simp) _).trans (belowK_b (w := w) (Nat.le_refl _) _ D _ _ (by simp at hD; omega) hK' rfl rfl)⟩
    simp [results, Try.f74, go_sem, hc5]
  case stop =>
    rintro D c pre W hD ⟨k, hk, hpre⟩ ⟨⟨rfl, q, x, rfl, he, h | h⟩, hB⟩ hK2
    · have hv : cmpI (val X) (val Y) = -1 := cmp_lt ((stop_lt HL.out lX lY hk hpre he).1 h.1)
      have hcr := h.2
      clear hl
      gi_wp2
      refine ⟨by simp, .inl ⟨_, _, rfl, run_takeDeferred hK2, ?_⟩⟩
      have hc5 := cell_kept hcr (grownBy_putObj' _ D (.deferred none)) (fun r e => by cases e; exact ⟨_, hK2, rfl⟩)
      refine ⟨.int .i64 (-1), ?_, by rw [hv], hB.trans (belowK_b (w := w) (Nat.le_refl _) W D _ _ (by simp at hD; omega) hK2 rfl rfl)⟩
      simp [results, Try.f74, go_sem, hc5]
    · have hv : cmpI (val X) (val Y) = 1 := cmp_gt ((stop_lt HL.out lX lY hk hpre he).2 h.1)
      have hcr := h.2
      clear hl
      gi_wp2
      refine ⟨by simp, .inl ⟨_, _, rfl, run_takeDeferred hK2, ?_⟩⟩
      have hc5 := cell_kept hcr (grownBy_putObj' _ D (.deferred none)) (fun r e => by cases e; exact ⟨_, hK2, rfl⟩)
      refine ⟨.int .i64 1, ?_, by rw [hv], hB.trans (belowK_b (w := w) (Nat.le_refl _) W D _ _ (by simp at hD; omega) hK2 rfl rfl)⟩
      simp [results, Try.f74, go_sem, hc5]

end Go.Proofs.Ytcalonhphknbbaa

/- Limbs: compared, copied. -/
namespace Go.Proofs.Ytcalonhphknbbaa
open Go.RowKit

set_option maxRecDepth 100000 in
set_option maxHeartbeats 2000000 in
theorem w_compare (va vb : Value) (X Y : List Int) (w : World) (ha : Lim w va X) (hb : Lim w vb Y) (hX : Nz X) (hY : Nz Y) :
    Calls Try.prog 74 #[va, vb] w fun e w' => e = .returned (.int .i64 (cmpI (val X) (val Y))) ∧ Ext w w' := by
  by_cases hl : X.length = Y.length
  · exact (callsIn_wide (n := 6)).1 (compare_in Fence.wide 6 trivial trivial trivial rfl (by omega) va vb X Y w ha hb hl)
  have lX := ha.lb
  have lY := hb.lb
  obtain ⟨aoA, bA, oA, cA, rfl, a1, a2, a3, a4, a5, a6⟩ := ha.view
  obtain ⟨aoB, bB, oB, cB, rfl, b1, b2, b3, b4, b5, b6⟩ := hb.view
  rcases Nat.lt_or_ge X.length Y.length with h | h
  · have hv : cmpI (val X) (val Y) = -1 := cmp_lt (val_lt_of_len lX lY hY h)
    go_enter Try.func74, Try.ntmps74
    go_wp2_with fail
    refine bodyPost_ret (v := .int .i64 (-1)) ?_ rfl ⟨by rw [hv], ?_⟩
    · simp [results, Try.results74, go_sem, ↓IntWalk.iteOmega]
    · repeat (first | with_reducible exact Ext.refl _ | with_reducible assumption | with_reducible refine Ext.alloc ?_ _ | with_reducible refine Ext.setCell ?_ (by (try simp only [World.size_alloc, World.size_setCell]); omega) _ | with_reducible refine Ext.drewN ?_ _ | with_reducible refine Ext.drew ?_ | with_reducible refine Ext.trans ?_ (by with_reducible assumption))
  · have hv : cmpI (val X) (val Y) = 1 := cmp_gt (val_lt_of_len lY lX hX (by omega))
    go_enter Try.func74, Try.ntmps74
    go_wp2_with fail
    refine bodyPost_ret (v := .int .i64 1) ?_ rfl ⟨by rw [hv], ?_⟩
    · simp [results, Try.results74, go_sem, ↓IntWalk.iteOmega]
    · repeat (first | with_reducible exact Ext.refl _ | with_reducible assumption | with_reducible refine Ext.alloc ?_ _ | with_reducible refine Ext.setCell ?_ (by (try simp only [World.size_alloc, World.size_setCell]); omega) _ | with_reducible refine Ext.drewN ?_ _ | with_reducible refine Ext.drew ?_ | with_reducible refine Ext.trans ?_ (by with_reducible assumption))
set_option maxRecDepth 100000 in
set_option maxHeartbeats 2000000 in
theorem w_Clone (va : Value) (X : List Int) (w : World) (ha : Lim w va X) (hx : X.length ≤ 100000) :
    Calls Try.prog 79 #[va] w fun e w' => ∃ u, e = .returned u ∧ Lim w' u X ∧ Ext w w' := by
  have lX := ha.lb
  rcases ha.2 with ⟨rfl, rfl⟩ | ⟨b, o, cap, rfl, h1, h2, h3, h4⟩
  · have hq : ∀ w, (binOp .eql 23 (.slice none 0 0) (.slice none 0 0)).run Try.prog w = .ok (.bool true) w := fun _ => rfl
    go_enter Try.func79, Try.ntmps79
    go_wp2
    go_ret
    exact ⟨_, rfl, Lim.nil w, Ext.refl w⟩
  · obtain ⟨i0, hi, hz0, hz1, hz2⟩ := info_parts info81
    go_enter Try.func79, Try.ntmps79
    have hq : ∀ w, (binOp .eql 23 (.slice (some ⟨b, o, none⟩) X.length cap) (.slice none 0 0)).run Try.prog w = .ok (.bool false) w := fun _ => rfl
    have hown : (w.alloc (.cells #[] 81)).ownsRow w.heap.size 81 1 (.slice (some ⟨w.heap.size, 0, none⟩) 0 0) 0 [] := World.ownsRow_lit w #[] 0 (Nat.le_refl _) (by decide) rfl
    have hnews : ∀ j u, (X.map (Value.int .u32))[j]? = some u → (w.alloc (.cells #[] 81)).cell? ((⟨b, o, none⟩ : Addr).add j) = some u := fun j u hu => by
      rw [List.getElem?_map] at hu
      cases hj : X[j]? with
      | none => rw [hj] at hu; cases hu
      | some x =>
        rw [hj] at hu
        have hjl : j < X.length := (List.getElem?_eq_some_iff.1 hj).1
        have := h4 j hjl
        rw [List.getD_eq_getElem?_getD, hj] at this
        rw [show (⟨b, o, none⟩ : Addr).add j = ⟨b, o + j, none⟩ from by simp [Addr.add], cell_al, if_neg (by omega), this]
        simpa using hu
    go_wp2_with (at_builtin; refine wpList_append_own _ rfl _ _ 23 rfl w.heap.size 81 i0 (.int .u32 0) 1 4 Try.underlying23 hi hz0 hz1 hz2 rfl (by decide) _ _ _ rfl hown ⟨b, o, none⟩ X.length cap (X.map (Value.int .u32)) rfl (by simp) hnews (ints_oneCell .u32 X) (by unfold maxLen; omega) (by omega) (by simp) ?_; intro v' w1 hown' hgrow hnil)
    have hE : Ext w w1 := Below.grown (row := some w.heap.size) ((Ext.refl w).alloc _) hgrow (by simp) (fun k e => by cases e; exact Nat.le_refl _)
    rw [Nat.zero_add, List.nil_append] at hown'
    have hL := Lim.own' hown' lX (by omega)
    go_ret
    exact ⟨_, rfl, hL, hE⟩

end Go.Proofs.Ytcalonhphknbbaa

/- Limbs divided by one limb: what the rounds do. -/
namespace Go.Proofs.Ytcalonhphknbbaa
open Go.RowKit

def stp (X : List Int) (d : Int) (s : List Int × Int) (j : Nat) : List Int × Int := (s.1.set j ((s.2 * 4294967296 + X.getD j 0) / d), (s.2 * 4294967296 + X.getD j 0) % d)
/-- The quotients and the rest behind some rounds. -/
def stA (X : List Int) (d : Int) (pre : List (DN X.length)) : List Int × Int := (pre.map (·.1)).foldl (stp X d) (List.replicate X.length 0, 0)
theorem stA_nil (X : List Int) (d : Int) : stA X d [] = (List.replicate X.length 0, 0) := rfl
theorem stA_snoc (X : List Int) (d : Int) (pre : List (DN X.length)) (x : DN X.length) : stA X d (pre ++ [x]) = stp X d (stA X d pre) x.1 := by simp [stA]
theorem quot_lim {r x d : Int} (h0 : 0 ≤ r) (h1 : r < d) (hx : U32 x) : U32 ((r * 4294967296 + x) / d) ∧ 0 ≤ (r * 4294967296 + x) % d ∧ (r * 4294967296 + x) % d < d := by
  unfold U32 at hx
  obtain ⟨a, b⟩ := div_small (x := r * 4294967296 + x) (d := d) (by omega) (by omega) (by omega)
  exact ⟨⟨a, b⟩, Int.emod_nonneg _ (by omega), Int.emod_lt_of_pos _ (by omega)⟩
theorem Lb.set {a : List Int} (h : Lb a) (j : Nat) {z : Int} (hz : U32 z) : Lb (a.set j z) := fun y hy => by
  rcases List.mem_or_eq_of_mem_set hy with h1 | h1
  · exact h y h1
  · exact h1 ▸ hz
theorem foldl_ok {X : List Int} {d : Int} (hX : Lb X) (hd : 0 < d) : ∀ (l : List Nat) (s : List Int × Int), s.1.length = X.length ∧ Lb s.1 ∧ 0 ≤ s.2 ∧ s.2 < d → (l.foldl (stp X d) s).1.length = X.length ∧ Lb (l.foldl (stp X d) s).1 ∧ 0 ≤ (l.foldl (stp X d) s).2 ∧ (l.foldl (stp X d) s).2 < d
  | [], _, h => h
  | j :: l, s, h => foldl_ok hX hd l (stp X d s j) (by
      have q := quot_lim (x := X.getD j 0) h.2.2.1 h.2.2.2 (hX.getD j)
      exact ⟨by simp [stp, h.1], h.2.1.set j q.1, q.2.1, q.2.2⟩)
theorem stA_ok {X : List Int} {d : Int} (hX : Lb X) (hd : 0 < d) (pre : List (DN X.length)) : (stA X d pre).1.length = X.length ∧ Lb (stA X d pre).1 ∧ 0 ≤ (stA X d pre).2 ∧ (stA X d pre).2 < d :=
  foldl_ok hX hd _ _ ⟨by simp, fun x hx => by rw [List.eq_of_mem_replicate hx]; exact ⟨by decide, by decide⟩, Int.le_refl _, hd⟩
theorem short_val {X : List Int} {d : Int} (hX : Lb X) (hd : 0 < d) : ∀ k, k ≤ X.length → val ((stA X d (upto (dn X.length) k)).1.drop (X.length - k)) * d + (stA X d (upto (dn X.length) k)).2 = val (X.drop (X.length - k))
  | 0, _ => by
    show val ((List.replicate X.length 0).drop (X.length - 0)) * d + 0 = _
    rw [Nat.sub_zero, List.drop_eq_nil_of_le (by simp), List.drop_eq_nil_of_le (Nat.le_refl _)]; simp [val]
  | k + 1, hk => by
    have ih := short_val hX hd k (by omega)
    have ok := stA_ok hX hd (upto (dn X.length) k)
    rw [upto_succ, stA_snoc]
    generalize stA X d (upto (dn X.length) k) = s at *
    have hj : (dn X.length k).1 = X.length - (k + 1) := by show X.length - 1 - k = _; omega
    rw [hj]
    obtain ⟨j, ej⟩ : ∃ j, X.length - (k + 1) = j := ⟨_, rfl⟩
    have ej2 : X.length - k = j + 1 := by omega
    rw [ej2] at ih
    rw [ej]
    have hjl : j < s.1.length := by rw [ok.1]; omega
    have hjx : j < X.length := by omega
    unfold stp
    simp only
    rw [List.drop_eq_getElem_cons (by rw [List.length_set]; exact hjl), List.getElem_set_self, List.drop_set_of_lt (by omega), List.drop_eq_getElem_cons hjx]
    have ex : X.getD j 0 = X[j] := by rw [List.getD_eq_getElem?_getD, List.getElem?_eq_getElem hjx]; rfl
    rw [ex]
    simp only [val]
    have e := Int.emod_add_mul_ediv (s.2 * 4294967296 + X[j]) d
    generalize (s.2 * 4294967296 + X[j]) / d = q at *
    generalize (s.2 * 4294967296 + X[j]) % d = r at *
    rw [← ih]
    unfold BB
    grind
theorem short_all {X : List Int} {d : Int} (hX : Lb X) (hd : 0 < d) {ys : List (DN X.length)} (hy : ys = upto (dn X.length) X.length) : val (stA X d ys).1 * d + (stA X d ys).2 = val X := by
  have := short_val hX hd X.length (Nat.le_refl _)
  rw [Nat.sub_self, List.drop_zero, List.drop_zero] at this
  rw [hy]; exact this
theorem R32.kept {A B : World} {base g n : Nat} {xs : List Int} {row : Option Nat} (h : R32 A base g n xs) (hg : A.grownBy B row) (hr : ∀ r, row = some r → ∃ o : Obj, A.heap[r]? = some o ∧ o.isCells = false) : R32 B base g n xs :=
  World.ownsRow.kept (row := row) h hg (Or.inr (by
    intro e
    simp only [Value.ownBlock] at e
    obtain ⟨o, ho, hc⟩ := hr g e.symm
    rcases h.2 with ⟨e1, _⟩ | ⟨g', cap', cur, hv, hb, hgg, _⟩
    · cases e1
    · cases hv
      rw [hgg] at ho
      cases ho
      cases hc))
end Go.Proofs.Ytcalonhphknbbaa

/- A drawn region in the body of a range over a function: walked as if it stood in no round. -/
namespace Go.Proofs.Ytcalonhphknbbaa
open Go.RowKit

section
variable {n : Nat} {P : Program} {md : Region.Mode} {ops : Array Oper} {Q : Exit → Act → World → Prop}
theorem uponIn_inRound (l : Nat) (o : Oper) (a : Act) (next : Act → World → Prop) (r : Result Next) : Oper.uponIn (Fence.wide.inRound l) n P o a next Q r = Oper.uponIn Fence.wide n P o a next Q r := rfl
theorem wpOpIn_inRound (l : Nat) (hd : ∀ (i : Nat) (o : Oper), ops[i]? = some o → ∀ c, o.op ≠ .defer c) {i : Nat} {K K' : Act → World → Prop} {a : Act} {w : World} (hK : ∀ a w, K a w → K' a w) (h : wpOpIn Fence.wide n P ops Q i K a w) : wpOpIn (Fence.wide.inRound l) n P ops Q i K' a w := by
  have h' := wpOpIn_mono (K' := K') hK h
  unfold wpOpIn at h' ⊢
  cases ho : ops[i]? with
  | none => rw [ho] at h'; exact h'
  | some o =>
    rw [ho] at h'
    simp only at h' ⊢
    split
    · rename_i hw
      rw [if_pos hw] at h'
      refine ⟨h'.1, ?_⟩
      have := h'.2
      rw [Fence.inRound_round, Oper.semAt_some l _ o (hd i o ho), uponIn_inRound]
      exact this
    · rename_i hw
      rw [if_neg hw] at h'
      exact h'
theorem wpAnyIn_inRound (l : Nat) (hd : ∀ (i : Nat) (o : Oper), ops[i]? = some o → ∀ c, o.op ≠ .defer c) : ∀ (fuel : Nat) (listed : Array Bool) (a : Act) (w : World), wpAnyIn Fence.wide n P md ops Q fuel listed a w → wpAnyIn (Fence.wide.inRound l) n P md ops Q fuel listed a w
  | 0, _, _, _, h => h
  | fuel + 1, listed, a, w, h => ⟨h.1, fun i hi => wpOpIn_inRound l hd (fun a w => wpAnyIn_inRound l hd fuel _ a w) (h.2 i hi)⟩
theorem region_inRound {l id : Nat} {a : Act} {w : World} (hm : P.follows .mixedOrders = true) (hd : ∀ (i : Nat) (o : Oper), ops[i]? = some o → ∀ c, o.op ≠ .defer c)
    (h : wpAnyIn Fence.wide n P .any ops Q ops.size (Array.replicate ops.size false) a w.drew) : (Code.region id ops true).wpIn (Fence.wide.inRound l) n P Q a w :=
  wpIn_region_any hm (wpAnyIn_inRound l hd _ _ _ _ h)
end
def noDefer (ops : List Oper) : Bool := ops.all fun o => match o.op with | .defer _ => false | _ => true
theorem noDefer_ok {ops : Array Oper} (h : noDefer ops.toList = true) : ∀ (i : Nat) (o : Oper), ops[i]? = some o → ∀ c, o.op ≠ .defer c := fun i o ho c e => by
  have := List.all_eq_true.1 h o (List.mem_of_getElem? (by simpa using ho))
  rw [e] at this
  cases this
theorem Lim.kept {A B : World} {v : Value} {xs : List Int} {row : Option Nat} (h : Lim A v xs) (hg : A.grownBy B row) (hr : ∀ r, row = some r → ∃ o : Obj, A.heap[r]? = some o ∧ o.isCells = false) : Lim B v xs := by
  refine ⟨h.1, ?_⟩
  rcases h.2 with h | ⟨b, o, cap, hv, h1, h2, h3, h4⟩
  · exact Or.inl h
  · exact Or.inr ⟨b, o, cap, hv, h1, h2, Nat.lt_of_lt_of_le h3 hg.size, fun i hi => cell_kept (h4 i hi) hg hr⟩
theorem KeepsOthers.drewN (W : World) (m : Nat) : KeepsOthers W (W.drewN m) := ⟨Nat.le_refl _, fun _ _ h _ => h⟩
theorem R32.other {w : World} {base g n B j : Nat} {xs : List Int} {x : Value} (h : R32 w base g n xs) (hB : B ≠ g) : R32 (w.setCell ⟨B, j, none⟩ x) base g n xs :=
  World.ownsRow.kept (row := some B) h ⟨rfl, rfl, rfl, by simp [World.setCell], fun k hk hne => Below.heap_setCell _ _ _ _ (fun e => hne (by rw [e]))⟩ (Or.inr (by simp only [Value.ownBlock]; intro e; cases e; exact hB rfl))
end Go.Proofs.Ytcalonhphknbbaa
