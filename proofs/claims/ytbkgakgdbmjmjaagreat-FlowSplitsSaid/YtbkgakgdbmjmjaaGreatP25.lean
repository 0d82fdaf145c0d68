/- force.gather. -/
import Derived.Test.YtbkgakgdbmjmjaaGreatP24
set_option linter.unusedSimpArgs false
set_option linter.unusedVariables false
set_option maxRecDepth 100000
set_option maxHeartbeats 4000000
namespace Go.Proofs.YtbkgakgdbmjmjaaGreat
open Go.RowKit Go.Shelf
attribute [local go_sem] Oper.semAt_some
theorem cells_new_l (w : World) (cs : Array Value) (t : TypeId) (b : Nat) (hb : b = w.heap.size) : ∀ j u, cs.toList[j]? = some u → (w.alloc (.cells cs t)).cell? (Addr.add ⟨b, 0, none⟩ j) = some u := by
 subst hb
 intro j u h
 rw [Addr.add_lit, World.cell?_alloc_new, Nat.zero_add]
 simpa using h
theorem grown_below {A B : World} {base : Nat} {e : TypeId} {size : Nat} {v : Value} {n : Nat} {xs : List Value} (h : A.ownsRow base e size v n xs) (hg : A.grownBy B v.ownBlock) (hb : base ≤ A.heap.size) : Below base A B ∧ KeepsOthers A B := by
 refine ⟨⟨hg.os, hg.tape, hg.output, hg.size, fun k hk => hg.block k (by omega) (fun e => ?_)⟩, hg.size, fun k o hk ho => (hg.block k (Array.getElem?_eq_some_iff.1 hk).1 (fun e => ?_)).trans hk⟩
 ·rcases h.2 with ⟨rfl, _⟩ | ⟨g, cap, cur, rfl, h1, _⟩
  ·cases e
  ·simp [Value.ownBlock] at e; omega
 ·rcases h.2 with ⟨rfl, _⟩ | ⟨g, cap, cur, rfl, h1, h2, _⟩
  ·cases e
  ·simp [Value.ownBlock] at e
   subst e
   rw [h2] at hk
   cases hk
   cases ho
theorem info106 : (Tryz.prog.info? 106).map (fun i => (i.zero, i.size, i.bytes)) = some (some (.agg #[.int .i64 0, .int .i64 0, .int .i64 0, .int .i64 0, .int .i64 0, .int .i64 0, .int .i64 0, .int .i64 0]), 8, 64) := by kernel_rfl
theorem p_heavy (ao : Option Addr) (n cap : Nat) (w : World) :
    Calls Tryz.prog 86 #[.agg #[.slice ao n cap]] w fun e w' => e = .returned (.func (.func 129) #[] #[.pointer (some ⟨w.heap.size, 0, none⟩)]) ∧ w' = w.alloc (.cells #[.slice ao n cap] 24) := by
 go_enter Tryz.func86, Tryz.ntmps86
 go_wp2_with fail
 refine bodyPost_ret ?_ rfl ⟨rfl, rfl⟩
 simp [results, Tryz.results86, go_sem, ↓IntWalk.iteOmega]
theorem heavy_stops (n : Nat) (hn : 1 ≤ n) (B0 n₁ : Nat) (v : Value) (l : List BodyD) (w0 w : World) (hw0 : w0.heap.size = n₁) (hB : Bds w0 v l) (hE : CkE l 0) (hEx : Ext w0 w) (c0 : w.cell? ⟨B0, 0, none⟩ = some v) :
    SeqStopsK Fence.wide n Tryz.prog 129 #[.pointer (some ⟨B0, 0, none⟩)] (fun x : DH l => #[.int .i64 (x.1 : Int), .agg #[.int .i64 (ofLo (gmX (bd l x.1))), .int .i64 (ofHi (gmX (bd l x.1)))]]) (K2 n₁ B0)
      (fun ys => ys = selH l l.length) (fun pre => ∃ k, k < l.length ∧ (bd l k).gm ≠ 0 ∧ pre = selH l (k + 1)) l.length w := fun lr J Jx W hW hJ _ hY h0 =>
  heavy1_in n hn lr B0 n₁ v l w0 hw0 hB hE J Jx W hJ hY (hEx.trans hW) ((hW.cell (World.block_lt_of_cell? w _ c0)).trans c0) h0
def GI (l : List BodyD) (fr ti : Int) (s g : Nat) (ev : Value) (pre : List (DH l)) (W : World) : Prop :=
 (∀ x ∈ pre, (oeR (bd l x.1) fr ti).e = 0) ∧
 (∃ v, W.cell? ⟨s + 4, 0, none⟩ = some v ∧ W.ownsRow (g + 1) 106 8 v pre.length ((pre.map (srD l fr ti)).flatMap srV)) ∧ W.frozen? ⟨s + 4, 0, none⟩ = false ∧
 W.cell? ⟨s + 5, 0, none⟩ = some (.int .i64 0) ∧ W.frozen? ⟨s + 5, 0, none⟩ = false ∧
 W.cell? ⟨s, 0, none⟩ = some ev ∧ W.cell? ⟨s + 1, 0, none⟩ = some (.int .i64 fr) ∧ W.cell? ⟨s + 2, 0, none⟩ = some (.int .i64 ti) ∧ W.cell? ⟨g, 0, none⟩ = some ev ∧ g + 1 ≤ W.heap.size
theorem ownsRow_kept {A B : World} {base : Nat} {e : TypeId} {size : Nat} {v : Value} {n : Nat} {xs : List Value} {row : Option Nat} (h : A.ownsRow base e size v n xs) (hg : A.grownBy B row) (hr : ∀ r, row = some r → ∃ o : Obj, A.heap[r]? = some o ∧ o.isCells = false) : B.ownsRow base e size v n xs := by
 refine ⟨h.1, ?_⟩
 rcases h.2 with h2 | ⟨g, cap, cur, hv, hb, hgc, h1, h3, h4, h5⟩
 ·exact .inl h2
 ·refine .inr ⟨g, cap, cur, hv, hb, ?_, h1, h3, h4, h5⟩
  have hlt := (Array.getElem?_eq_some_iff.1 hgc).1
  refine (hg.block g hlt (fun e => ?_)).trans hgc
  obtain ⟨o, ho, hc⟩ := hr g e.symm
  rw [hgc] at ho
  cases ho
  cases hc
theorem GI.kept {l : List BodyD} {fr ti : Int} {s g : Nat} {ev : Value} {pre : List (DH l)} {A B : World} {row : Option Nat} (h : GI l fr ti s g ev pre A) (hg : A.grownBy B row) (hr : ∀ r, row = some r → ∃ o : Obj, A.heap[r]? = some o ∧ o.isCells = false) : GI l fr ti s g ev pre B := by
 obtain ⟨h0, ⟨v, h1, h2⟩, h3, h4, h5, h6, h7, h8, h9, h10⟩ := h
 exact ⟨h0, ⟨v, cell_kept h1 hg hr, ownsRow_kept h2 hg hr⟩, (frozen_kept h1 hg hr).trans h3, cell_kept h4 hg hr, (frozen_kept h4 hg hr).trans h5, cell_kept h6 hg hr, cell_kept h7 hg hr, cell_kept h8 hg hr, cell_kept h9 hg hr, Nat.le_trans h10 hg.size⟩
def GX (l : List BodyD) (fr ti : Int) (s : Nat) (c : Code) (pre : List (DH l)) (W : World) : Prop :=
 c = .ret ∧ ∃ q x, pre = q ++ [x] ∧ (∀ y ∈ q, (oeR (bd l y.1) fr ti).e = 0) ∧ (oeR (bd l x.1) fr ti).e ≠ 0 ∧ W.cell? ⟨s + 4, 0, none⟩ = some (.slice none 0 0) ∧ W.cell? ⟨s + 5, 0, none⟩ = some (.int .i64 (oeR (bd l x.1) fr ti).e)
theorem GX.kept {l : List BodyD} {fr ti : Int} {s : Nat} {c : Code} {pre : List (DH l)} {A B : World} {row : Option Nat} (h : GX l fr ti s c pre A) (hg : A.grownBy B row) (hr : ∀ r, row = some r → ∃ o : Obj, A.heap[r]? = some o ∧ o.isCells = false) : GX l fr ti s c pre B := by
 obtain ⟨h0, q, x, h1, h2, h3, h4, h5⟩ := h
 exact ⟨h0, q, x, h1, h2, h3, cell_kept h4 hg hr, cell_kept h5 hg hr⟩
theorem p_gather_in (v : Value) (l : List BodyD) (E : Int) (fr ti : Int) (p : V3) (w : World) (hB : Bds w v l) (hE : CkE l E) (hS : E = 0 → Sml l) :
    CallsIn Fence.wide 7 Tryz.prog 44 #[.agg #[v], .int .i64 fr, .int .i64 ti, .agg #[.int .i64 p.a, .int .i64 p.b, .int .i64 p.c, .int .i64 p.d, .int .i64 p.e, .int .i64 p.f]] w fun e w' => ∃ vs, e = .returned (.tuple #[vs, .int .i64 (gaR E l fr ti p).2]) ∧ Srs w' vs (gaR E l fr ti p).1 ∧ Ext w w' := by
  have hck := fun w1 (k1 : Ext w w1) => p_eCheck v l E w1 (hB.ext k1) hE
  have hkp := fun w1 => s_check p w1
  obtain ⟨ao, b, o, cap, rfl, ha, hl, hm⟩ := hB.len
  have hgR : gaR E l fr ti p = if E ≠ 0 then ([], E) else if ckV p ≠ 0 then ([], ckV p) else if ti < fr then ([], 2) else if (srN l fr ti l.length).2 ≠ 0 then ([], (srN l fr ti l.length).2) else srN l fr ti l.length := rfl
  obtain ⟨G, hG⟩ : ∃ G, gaR E l fr ti p = G := ⟨_, rfl⟩
  rw [hG] at hgR ⊢
  obtain ⟨C, hC⟩ : ∃ C, ckV p = C := ⟨_, rfl⟩
  rw [hC] at hgR hkp
  refine callsIn_of_wp_marks Tryz.func44 rfl trivial ?_ rfl
  simp only [Tryz.ntmps44, List.size_toArray, List.length_cons, List.length_nil, Nat.reduceAdd, Nat.reduceSub, Array.replicate_succ, Array.replicate_zero, List.push_toArray, List.append_toArray, List.nil_append, List.cons_append]
  by_cases h0 : E = 0
  · subst h0
    rw [if_neg (by simp)] at hgR
    by_cases h1 : C = 0
    · subst h1
      rw [if_neg (by simp)] at hgR
      by_cases h2 : ti < fr
      · rw [if_pos h2] at hgR
        subst hgR
        gi_wp2_with (first
          | (refine ⟨trivial, ?_⟩; gi_at_call 85; (with_reducible refine (callsIn_wide.2 (hck _ ex_)).mono ?_); rintro e w4 ⟨rfl, hb4⟩; obtain ⟨_, _, ⟨hc4, hf4⟩, hz4⟩ := hb4.c3; (try simp only [wsz] at hz4 hc4 hf4))
          | (refine ⟨trivial, ?_⟩; gi_at_call 77; (with_reducible refine (callsIn_wide.2 (hkp _)).mono ?_); rintro e w5 ⟨rfl, hb5⟩; obtain ⟨_, _, ⟨hc5, hf5⟩, hz5⟩ := hb5.c3; (try simp only [wsz] at hz5 hc5 hf5)))
        refine ⟨.tuple #[.slice none 0 0, .int .i64 2], ?_, ⟨.slice none 0 0, rfl, Srs.nil _, ?_⟩⟩
        · simp [results, Tryz.f44, go_sem, ↓IntWalk.iteOmega, *]
        · exact ex_
      · rw [if_neg h2] at hgR
        have hl12 : l.length ≤ 12 := by
          rcases Nat.lt_or_ge 12 l.length with h | h
          · exact absurd (Or.inl h) (hE.zero rfl).1
          · exact h
        have hpo := fun w1 (k1 : Ext w w1) i (hi : i < l.length) => p_Over _ l i fr ti w1 (hB.ext k1) hE (hS rfl) hi
        gi_wp2_with (first
          | (refine ⟨trivial, ?_⟩; gi_at_call 85; (with_reducible refine (callsIn_wide.2 (hck _ ex_)).mono ?_); rintro e w4 ⟨rfl, hb4⟩; obtain ⟨_, _, ⟨hc4, hf4⟩, hz4⟩ := hb4.c3; (try simp only [wsz] at hz4 hc4 hf4))
          | (refine ⟨trivial, ?_⟩; gi_at_call 77; (with_reducible refine (callsIn_wide.2 (hkp _)).mono ?_); rintro e w5 ⟨rfl, hb5⟩; obtain ⟨_, _, ⟨hc5, hf5⟩, hz5⟩ := hb5.c3; (try simp only [wsz] at hz5 hc5 hf5))
          | (refine ⟨trivial, ?_⟩; gi_at_call 86; (with_reducible refine (callsIn_wide.2 (p_heavy _ _ _ _)).mono ?_); rintro e w6 ⟨rfl, rfl⟩))
        refine wpIn_nmA fun b0 hb0 => ?_
        refine wpIn_nm fun W0 hW0 => ?_
        obtain ⟨g, hg⟩ : ∃ g, w5.heap.size = g := ⟨_, rfl⟩
        obtain ⟨s, hs⟩ : ∃ s, w.heap.size = s := ⟨_, rfl⟩
        have hgs : s + 6 ≤ g := by omega
        have hX5 : Ext w w5 := by repeat (first | with_reducible exact Ext.refl _ | with_reducible assumption | with_reducible refine Ext.alloc ?_ _ | with_reducible refine Ext.setCell ?_ c_19 _ | with_reducible refine Ext.drewN ?_ _ | with_reducible refine Ext.drew ?_ | with_reducible refine Ext.trans ?_ c_9)
        have hX0 : Ext w W0 := by rw [hW0]; exact hX5.alloc _
        have hs0 : W0.heap.size = g + 1 := by rw [hW0, ← hg]; simp
        have hK0 := (hb4.trans hb5).alloc (.cells #[.slice ao l.length cap] 24)
        rw [← hW0] at hK0
        have hq : ∀ k, k < s + 6 → ∀ o, W0.cell? ⟨k, o, none⟩ = _ := fun k hk o => hK0.cells.1 k o c_46
        have hqf : ∀ k, k < s + 6 → ∀ o, W0.frozen? ⟨k, o, none⟩ = _ := fun k hk o => hK0.cells.2 k o c_46
        have hcg : W0.cell? ⟨g, 0, none⟩ = some (.slice ao l.length cap) := by rw [hW0, ← hg]; simp [go_sem, ↓IntWalk.iteOmega]
        have hI0 : GI l fr ti s g (.slice ao l.length cap) [] W0 := by
          refine ⟨by simp, ⟨.slice none 0 0, ?_, ⟨rfl, .inl ⟨rfl, rfl⟩⟩⟩, ?_, ?_, ?_, ?_, ?_, ?_, hcg, by omega⟩
          · rw [hq _ (by omega)]; simp [go_sem, ↓IntWalk.iteOmega, hs]
          · rw [hqf _ (by omega)]; simp [go_sem, ↓IntWalk.iteOmega, hs]
          · rw [hq _ (by omega)]; simp [go_sem, ↓IntWalk.iteOmega, hs]
          · rw [hqf _ (by omega)]; simp [go_sem, ↓IntWalk.iteOmega, hs]
          · rw [hq _ (by omega)]; simp [go_sem, ↓IntWalk.iteOmega, hs]
          · rw [hq _ (by omega)]; simp [go_sem, ↓IntWalk.iteOmega, hs]
          · rw [hq _ (by omega)]; simp [go_sem, ↓IntWalk.iteOmega, hs]
        rw [hg] at hb0
        rw [hs] at hb0
        clear hck hkp hq hqf hK0 hb4 hb5 hc4 hf4 hc5 hf5 hW0
        refine wpIn_rangeFunc_ownH rfl (by omega) (gf := 129) (lb := #[.pointer (some ⟨g, 0, none⟩)]) (by rw [hb0]; rfl) trivial (enters_of Tryz.func129 c_16 rfl)
          (heavy_stops 6 (by omega) g s _ l w W0 hs hB hE hX0 hcg) K2.trans (k2_b (by omega) (by omega)) (Below.refl _ _) (fun _ => rfl)
          (fun pre W => GI l fr ti s g (.slice ao l.length cap) pre W ∧ Below s w W) (fun c pre W => GX l fr ti s c pre W ∧ Below s w W)
          (OwnFrom.and (Own.from (fun s A B row hs hg hr => hs.kept hg hr) _) (ownFrom_below (by omega) (by omega)))
          (fun c => OwnFrom.and (Own.from (fun s A B row hs hg hr => hs.kept hg hr) _) (ownFrom_below (by omega) (by omega)))
          ⟨hI0, by rw [← hs]; exact hX0⟩
          (fun x a' W => ∃ Bg, W.cell? ⟨Bg, 0, none⟩ = some (.int .i64 (ofLo (gmX (bd l x.1)))) ∧ W.cell? ⟨Bg, 1, none⟩ = some (.int .i64 (ofHi (gmX (bd l x.1)))) ∧ a' = { tmps := (((b0.tmps.setIfInBounds 31 (.int .i64 (x.1 : Int))).setIfInBounds 32 (.agg #[.int .i64 (ofLo (gmX (bd l x.1))), .int .i64 (ofHi (gmX (bd l x.1)))])).setIfInBounds 12 (.int .i64 (x.1 : Int))).setIfInBounds 13 (.pointer (some ⟨Bg, 0, none⟩)), defers := [] })
          (fun x a' _ X Y row hs hg hr => by obtain ⟨Bg, h1, h2, h3⟩ := hs; exact ⟨Bg, cell_kept h1 hg (fun r e => (hr r e).2), cell_kept h2 hg (fun r e => (hr r e).2), h3⟩)
          ?assign ?body ?done ?stop
        case assign =>
          rintro lr pre ⟨j, hjl, hjg⟩ W K ⟨hI, hB⟩ hK
          rw [hb0] at hK ⊢
          dsimp only at hK ⊢
          have hgW := hI.2.2.2.2.2.2.2.2.2
          generalize ofLo (gmX (bd l j)) = G0 at *
          generalize ofHi (gmX (bd l j)) = G1 at *
          gi_wp2
          have hEE : Ext W (W.alloc (.cells #[.int .i64 G0, .int .i64 G1] 26)) := (Ext.refl _).alloc _
          exact hK _ _ ((KeepsOthers.alloc _ _).from _) ⟨hEE.mono (by omega), hEE.cells.1 _ _ (by omega)⟩ ⟨hI.kept hEE.grown0 (fun r e => by cases e), hB.trans (hEE.mono (by omega))⟩ ⟨W.heap.size, by simp [go_sem, ↓IntWalk.iteOmega], by simp [go_sem, ↓IntWalk.iteOmega], rfl⟩
        case body =>
          rintro lr pre ⟨j, hjl, hjg⟩ a' W hlr - ⟨hGI, hB2⟩ ⟨Bg, hA0, hA1, rfl⟩ hlt
          obtain ⟨he0, ⟨vv, h1, h2r⟩, h3, h4, h5, h6, h7, h8, h9, h10⟩ := id hGI
          rw [hb0]
          have hBg : Bg < W.heap.size := World.block_lt_of_cell? W _ hA0
          have hXW : Ext w W := by rw [← hs] at hB2; exact hB2
          have hpj := fun w1 (k1 : Ext W w1) => hpo w1 (hXW.trans k1) j hjl
          dsimp only at hA0 hA1 ⊢
          have hsn : (pre ++ [(⟨j, hjl, hjg⟩ : DH l)]).map (srD l fr ti) = pre.map (srD l fr ti) ++ [srD l fr ti ⟨j, hjl, hjg⟩] := by simp
          have hsd : srV (srD l fr ti ⟨j, hjl, hjg⟩) = [.int .i64 (ofLo (gmX (bd l j))), .int .i64 (ofHi (gmX (bd l j))), .int .i64 (oeR (bd l j) fr ti).v.a, .int .i64 (oeR (bd l j) fr ti).v.b, .int .i64 (oeR (bd l j) fr ti).v.c, .int .i64 (oeR (bd l j) fr ti).v.d, .int .i64 (oeR (bd l j) fr ti).v.e, .int .i64 (oeR (bd l j) fr ti).v.f] := rfl
          clear hpo
          obtain ⟨i0, hi, hz0, hz1, hz2⟩ := info_parts info106
          have hp12 : pre.length ≤ 12 := by omega
          by_cases hej : (oeR (bd l j) fr ti).e = 0
          · have hGI2 : ∀ W' v', W'.cell? ⟨s + 4, 0, none⟩ = some v' → W'.ownsRow (g + 1) 106 8 v' (pre.length + 1) ((pre.map (srD l fr ti)).flatMap srV ++ srV (srD l fr ti ⟨j, hjl, hjg⟩)) → W'.frozen? ⟨s + 4, 0, none⟩ = false →
                W'.cell? ⟨s + 5, 0, none⟩ = some (.int .i64 0) → W'.frozen? ⟨s + 5, 0, none⟩ = false → W'.cell? ⟨s, 0, none⟩ = some (.slice ao l.length cap) → W'.cell? ⟨s + 1, 0, none⟩ = some (.int .i64 fr) → W'.cell? ⟨s + 2, 0, none⟩ = some (.int .i64 ti) → W'.cell? ⟨g, 0, none⟩ = some (.slice ao l.length cap) → g + 1 ≤ W'.heap.size →
                GI l fr ti s g (.slice ao l.length cap) (pre ++ [⟨j, hjl, hjg⟩]) W' := fun W' v' a1 a2 a3 a4 a5 a6 a7 a8 a9 a10 => by
              refine ⟨fun x hx => ?_, ⟨v', a1, ?_⟩, a3, a4, a5, a6, a7, a8, a9, a10⟩
              · rcases List.mem_append.1 hx with hx | hx
                · exact he0 x hx
                · rw [List.mem_singleton.1 hx]; exact hej
              · rw [hsn, List.flatMap_append, List.length_append]
                simpa using a2
            rw [hsd] at hGI2
            clear hsd hsn
            generalize oeR (bd l j) fr ti = R at *
            obtain ⟨⟨ra, rb, rc, rd, re, rf⟩, rr⟩ := R
            dsimp only at hej hpj hGI2
            subst hej
            generalize ofLo (gmX (bd l j)) = G0 at *
            generalize ofHi (gmX (bd l j)) = G1 at *
            obtain ⟨va, vn, vc, rfl⟩ := ownsRow_slice h2r
            gi_wp2_with (first
              | (refine ⟨trivial, ?_⟩; gi_at_call 87; (with_reducible refine (CallsIn.inRound lr (callsIn_wide.2 (hpj _ ex_))).mono ?_); rintro e w6 ⟨rfl, hb6⟩; obtain ⟨_, _, ⟨hc6, hf6⟩, hz6⟩ := hb6.c3; (try simp only [wsz] at hz6 hc6 hf6); have hown := ownsRow_kept h2r (Ext.grown0 ((hb6.alloc (.cells #[.int .i64 ra, .int .i64 rb, .int .i64 rc, .int .i64 rd, .int .i64 re, .int .i64 rf] 28)).alloc (.cells #[.int .i64 G0, .int .i64 G1, .int .i64 ra, .int .i64 rb, .int .i64 rc, .int .i64 rd, .int .i64 re, .int .i64 rf] 106))) (fun r e => by cases e); have hb68 := (hb6.alloc (.cells #[.int .i64 ra, .int .i64 rb, .int .i64 rc, .int .i64 rd, .int .i64 re, .int .i64 rf] 28)).alloc (.cells #[.int .i64 G0, .int .i64 G1, .int .i64 ra, .int .i64 rb, .int .i64 rc, .int .i64 rd, .int .i64 re, .int .i64 rf] 106))
              | (gi_at_builtin; refine wpListIn_append_own _ rfl _ _ 96 rfl (g + 1) 106 i0 (.agg #[.int .i64 0, .int .i64 0, .int .i64 0, .int .i64 0, .int .i64 0, .int .i64 0, .int .i64 0, .int .i64 0]) 8 64 Tryz.underlying96 hi hz0 hz1 hz2 rfl (by decide) _ _ _ rfl hown ⟨w6.heap.size + 1, 0, none⟩ 1 1 [.int .i64 G0, .int .i64 G1, .int .i64 ra, .int .i64 rb, .int .i64 rc, .int .i64 rd, .int .i64 re, .int .i64 rf] rfl rfl (cells_new_l _ #[.int .i64 G0, .int .i64 G1, .int .i64 ra, .int .i64 rb, .int .i64 rc, .int .i64 rd, .int .i64 re, .int .i64 rf] 106 _ (by simp)) (by intro u hu; simp at hu; rcases hu with rfl | rfl | rfl | rfl | rfl | rfl | rfl | rfl <;> rfl) c_55 (by omega) c_46 ?_; intro v' w7 hown7 hgrow7 hnil7; obtain ⟨hbl7, hko7⟩ := grown_below hown hgrow7 c_46; have hB7 := (hb68.mono (show g + 1 ≤ W.heap.size from h10)).trans hbl7; have hK7 := hb68.keeps.trans hko7; have f4 := (hB7.cell (p := ⟨s + 4, 0, none⟩) c_45).trans h1; have f4f : w7.frozen? ⟨s + 4, 0, none⟩ = false := (World.frozen?_of_block (hB7.block _ c_45)).trans h3; obtain ⟨v7a, v7n, v7c, rfl⟩ := ownsRow_slice hown7))
            have k8 := ownsRow_setCell_below hown7 (a := ⟨s + 1 + 1 + 1 + 1, 0, none⟩) c_45 (.slice v7a v7n v7c)
            have f5 := (hB7.cell (p := ⟨s + 5, 0, none⟩) c_45).trans h4
            have f5f : w7.frozen? ⟨s + 5, 0, none⟩ = false := (World.frozen?_of_block (hB7.block _ c_45)).trans h5
            have f6 := (hB7.cell (p := ⟨s, 0, none⟩) c_45).trans h6
            have f7 := (hB7.cell (p := ⟨s + 1, 0, none⟩) c_45).trans h7
            have f8 := (hB7.cell (p := ⟨s + 2, 0, none⟩) c_45).trans h8
            have f9 := (hB7.cell (p := ⟨g, 0, none⟩) c_45).trans h9
            have ng : g ≠ s + 4 := by omega
            have hsz7 := hB7.size
            have hBs : Below s W (w7.setCell ⟨s + 1 + 1 + 1 + 1, 0, none⟩ (.slice v7a v7n v7c)) := (hB7.mono (by omega)).setCell (p := ⟨s + 1 + 1 + 1 + 1, 0, none⟩) c_45 _
            refine ⟨(hK7.trans (KeepsOthers.setCell _ _ _)).from _, ⟨hBs, ?_⟩, hGI2 _ (.slice v7a v7n v7c) ?_ k8 ?_ ?_ ?_ ?_ ?_ ?_ ?_ ?_, hB2.trans hBs⟩
            · rw [h9]; simp [go_sem, ↓IntWalk.iteOmega, f9, ng]
            · simp [go_sem, ↓IntWalk.iteOmega, f4]
            · simp only [World.frozen?_setCell]; exact f4f
            · simp [go_sem, ↓IntWalk.iteOmega, f5]
            · simp only [World.frozen?_setCell]; exact f5f
            · simp [go_sem, ↓IntWalk.iteOmega, f6]
            · simp [go_sem, ↓IntWalk.iteOmega, f7]
            · simp [go_sem, ↓IntWalk.iteOmega, f8]
            · simp [go_sem, ↓IntWalk.iteOmega, f9, ng]
            · simp; omega
          · have hGX : ∀ W', W'.cell? ⟨s + 4, 0, none⟩ = some (.slice none 0 0) → W'.cell? ⟨s + 5, 0, none⟩ = some (.int .i64 (oeR (bd l j) fr ti).e) → GX l fr ti s .ret (pre ++ [⟨j, hjl, hjg⟩]) W' := fun W' a b => ⟨rfl, pre, ⟨j, hjl, hjg⟩, rfl, he0, hej, a, b⟩
            clear hsd hsn
            generalize oeR (bd l j) fr ti = R at *
            obtain ⟨⟨ra, rb, rc, rd, re, rf⟩, rr⟩ := R
            dsimp only at hej hpj hGX
            generalize ofLo (gmX (bd l j)) = G0 at *
            generalize ofHi (gmX (bd l j)) = G1 at *
            obtain ⟨va, vn, vc, rfl⟩ := ownsRow_slice h2r
            gi_wp2_with (refine ⟨trivial, ?_⟩; gi_at_call 87; (with_reducible refine (CallsIn.inRound lr (callsIn_wide.2 (hpj _ ex_))).mono ?_); rintro e w6 ⟨rfl, hb6⟩; obtain ⟨_, _, ⟨hc6, hf6⟩, hz6⟩ := hb6.c3; (try simp only [wsz] at hz6 hc6 hf6))
            have hEE : Ext W (w6.alloc (.cells #[.int .i64 ra, .int .i64 rb, .int .i64 rc, .int .i64 rd, .int .i64 re, .int .i64 rf] 28)) := hb6.alloc _
            have g4 := (hEE.cells.1 (s + 4) 0 (by omega)).trans h1
            have g5 := (hEE.cells.1 (s + 5) 0 (by omega)).trans h4
            generalize w6.alloc (.cells #[.int .i64 ra, .int .i64 rb, .int .i64 rc, .int .i64 rd, .int .i64 re, .int .i64 rf] 28) = Z at *
            have hBl : Below s W ((Z.setCell ⟨s + 1 + 1 + 1 + 1, 0, none⟩ (.slice none 0 0)).setCell ⟨s + 1 + 1 + 1 + 1 + 1, 0, none⟩ (.int .i64 rr)) := ((hEE.mono (show s ≤ W.heap.size by omega)).setCell (p := ⟨s + 1 + 1 + 1 + 1, 0, none⟩) c_45 _).setCell (p := ⟨s + 1 + 1 + 1 + 1 + 1, 0, none⟩) c_45 _
            exact ⟨((hEE.keeps.trans (KeepsOthers.setCell _ _ _)).trans (KeepsOthers.setCell _ _ _)).from _, hGX _ (by simp [go_sem, ↓IntWalk.iteOmega, g4]) (by simp [go_sem, ↓IntWalk.iteOmega, g5]), hB2.trans hBl⟩
        case done =>
          rintro Dd zs Wd hD rfl ⟨⟨he0, ⟨vv, h1, h2⟩, h3, h4, h5, -, -, -, -, h10⟩, hB2⟩ hK
          have hsr := srN_sel (l := l) (fr := fr) (ti := ti) l.length (Nat.le_refl _) he0
          rw [hsr, if_neg (by simp)] at hgR
          subst hgR
          have h2' : Wd.ownsRow (g + 1) 106 8 vv ((selH l l.length).map (srD l fr ti)).length (((selH l l.length).map (srD l fr ti)).flatMap srV) := by rw [List.length_map]; exact h2
          have hsrs := ownsRow_srs h2'
          obtain ⟨va, vn, vc, rfl⟩ := ownsRow_slice h2
          rw [hb0]
          clear h2 hsrs hpo
          gi_wp2
          have hsz : s + 5 < Wd.heap.size := by omega
          have hXd : Ext w Wd := by rw [← hs] at hB2; exact hB2
          have k1 : KeepsOthers Wd ((Wd.setCell ⟨s + 1 + 1 + 1 + 1, 0, none⟩ (.slice va vn vc)).setCell ⟨s + 1 + 1 + 1 + 1 + 1, 0, none⟩ (.int .i64 0)) := (KeepsOthers.setCell _ _ _).trans (KeepsOthers.setCell _ _ _)
          have k2 : Ext w ((Wd.setCell ⟨s + 1 + 1 + 1 + 1, 0, none⟩ (.slice va vn vc)).setCell ⟨s + 1 + 1 + 1 + 1 + 1, 0, none⟩ (.int .i64 0)) := (hXd.setCell c_45 _).setCell c_45 _
          have k3 := ownsRow_setCell_below (ownsRow_setCell_below h2' (a := ⟨s + 1 + 1 + 1 + 1, 0, none⟩) c_45 (.slice va vn vc)) (a := ⟨s + 1 + 1 + 1 + 1 + 1, 0, none⟩) c_45 (.int .i64 0)
          have k4 : World.cell? ((Wd.setCell ⟨s + 1 + 1 + 1 + 1, 0, none⟩ (.slice va vn vc)).setCell ⟨s + 1 + 1 + 1 + 1 + 1, 0, none⟩ (.int .i64 0)) ⟨s + 1 + 1 + 1 + 1, 0, none⟩ = some (.slice va vn vc) := by simp [go_sem, ↓IntWalk.iteOmega, h1]
          have k5 : World.cell? ((Wd.setCell ⟨s + 1 + 1 + 1 + 1, 0, none⟩ (.slice va vn vc)).setCell ⟨s + 1 + 1 + 1 + 1 + 1, 0, none⟩ (.int .i64 0)) ⟨s + 1 + 1 + 1 + 1 + 1, 0, none⟩ = some (.int .i64 0) := by simp [go_sem, ↓IntWalk.iteOmega, h4]
          generalize (Wd.setCell ⟨s + 1 + 1 + 1 + 1, 0, none⟩ (.slice va vn vc)).setCell ⟨s + 1 + 1 + 1 + 1 + 1, 0, none⟩ (.int .i64 0) = Z at *
          have hK' := k1.same Dd _ hK rfl
          have hgr := grownBy_putObj' Z Dd (.deferred none)
          have hr : ∀ r, some Dd = some r → ∃ o : Obj, Z.heap[r]? = some o ∧ o.isCells = false := fun r e => by cases e; exact ⟨_, hK', rfl⟩
          refine ⟨by simp, .inl ⟨_, _, rfl, run_takeDeferred hK', ?_⟩⟩
          have m4 := cell_kept k4 hgr hr
          have m5 := cell_kept k5 hgr hr
          refine ⟨.tuple #[.slice va vn vc, .int .i64 0], ?_, ⟨_, rfl, ownsRow_srs (ownsRow_kept k3 hgr hr), Below.trans k2 (belowK_b (w := w) (Nat.le_refl _) Z Dd _ _ (by omega) hK' rfl rfl)⟩⟩
          simp [results, Tryz.f44, go_sem, m4, m5]
        case stop =>
          rintro Dd c pre Wd hD ⟨k, hk, hkg, hpre⟩ ⟨⟨rfl, q, x, rfl, hq, hxe, hc1, hc2⟩, hB2⟩ hK
          have hse : selH l (k + 1) = selH l k ++ [⟨k, hk, hkg⟩] := by rw [selH, dif_pos ⟨hk, hkg⟩]
          rw [hse] at hpre
          obtain ⟨rfl, hx⟩ := List.append_inj' hpre rfl
          simp only [List.cons.injEq, and_true] at hx
          subst hx
          have hsr := srN_stop hk hq hkg hxe
          dsimp only at hxe hsr hc2
          rw [hsr, if_pos hxe] at hgR
          generalize (oeR (bd l k) fr ti).e = E2 at *
          subst hgR
          clear hpo
          rw [hb0]
          gi_wp2
          refine ⟨by simp, .inl ⟨_, _, rfl, run_takeDeferred hK, ?_⟩⟩
          have hgr := grownBy_putObj' Wd Dd (.deferred none)
          have hr : ∀ r, some Dd = some r → ∃ o : Obj, Wd.heap[r]? = some o ∧ o.isCells = false := fun r e => by cases e; exact ⟨_, hK, rfl⟩
          have m4 := cell_kept hc1 hgr hr
          have m5 := cell_kept hc2 hgr hr
          have hXd : Ext w Wd := by rw [← hs] at hB2; exact hB2
          refine ⟨.tuple #[.slice none 0 0, .int .i64 E2], ?_, ⟨_, rfl, Srs.nil _, Below.trans hXd (belowK_b (w := w) (Nat.le_refl _) Wd Dd _ _ (by omega) hK rfl rfl)⟩⟩
          simp [results, Tryz.f44, go_sem, m4, m5]
    · rw [if_pos h1] at hgR
      subst hgR
      gi_wp2_with (first
          | (refine ⟨trivial, ?_⟩; gi_at_call 85; (with_reducible refine (callsIn_wide.2 (hck _ ex_)).mono ?_); rintro e w4 ⟨rfl, hb4⟩; obtain ⟨_, _, ⟨hc4, hf4⟩, hz4⟩ := hb4.c3; (try simp only [wsz] at hz4 hc4 hf4))
          | (refine ⟨trivial, ?_⟩; gi_at_call 77; (with_reducible refine (callsIn_wide.2 (hkp _)).mono ?_); rintro e w5 ⟨rfl, hb5⟩; obtain ⟨_, _, ⟨hc5, hf5⟩, hz5⟩ := hb5.c3; (try simp only [wsz] at hz5 hc5 hf5)))
      refine ⟨.tuple #[.slice none 0 0, .int .i64 C], ?_, ⟨.slice none 0 0, rfl, Srs.nil _, ?_⟩⟩
      · simp [results, Tryz.f44, go_sem, ↓IntWalk.iteOmega, *]
      · exact ex_
  · rw [if_pos h0] at hgR
    subst hgR
    gi_wp2_with (refine ⟨trivial, ?_⟩; gi_at_call 85; (with_reducible refine (callsIn_wide.2 (hck _ ex_)).mono ?_); rintro e w4 ⟨rfl, hb4⟩; obtain ⟨_, _, ⟨hc4, hf4⟩, hz4⟩ := hb4.c3; (try simp only [wsz] at hz4 hc4 hf4))
    refine ⟨.tuple #[.slice none 0 0, .int .i64 E], ?_, ⟨.slice none 0 0, rfl, Srs.nil _, ?_⟩⟩
    · simp [results, Tryz.f44, go_sem, ↓IntWalk.iteOmega, *]
    · exact ex_
theorem p_gather (v : Value) (l : List BodyD) (E : Int) (fr ti : Int) (p : V3) (w : World) (hB : Bds w v l) (hE : CkE l E) (hS : E = 0 → Sml l) :
    Calls Tryz.prog 44 #[.agg #[v], .int .i64 fr, .int .i64 ti, .agg #[.int .i64 p.a, .int .i64 p.b, .int .i64 p.c, .int .i64 p.d, .int .i64 p.e, .int .i64 p.f]] w fun e w' => ∃ vs, e = .returned (.tuple #[vs, .int .i64 (gaR E l fr ti p).2]) ∧ Srs w' vs (gaR E l fr ti p).1 ∧ Ext w w' :=
  callsIn_wide.1 (p_gather_in v l E fr ti p w hB hE hS)
end Go.Proofs.YtbkgakgdbmjmjaaGreat
namespace Go.Proofs.YtbkgakgdbmjmjaaGreat
open Go.RowKit
theorem sun_lo : ofLo (mkRat 295912208285591 1000000000000000000) = 325358913 ∧ ofHi (mkRat 295912208285591 1000000000000000000) = 325358914 := by decide
theorem sun_fl : (mkRat 295912208285591 1000000000000000000).num / ((mkRat 295912208285591 1000000000000000000).den : Int) = 0 := by decide
theorem p_sun (w : World) :
    Calls Tryz.prog 46 #[] w fun e w' => e = .returned (.agg #[.int .i64 325358913, .int .i64 325358914]) ∧ Ext w w' := by
 have hof : ∀ w1, Calls Tryz.prog 93 #[.int .i64 295912208285591, .int .i64 1000000000000000000] w1 fun e w' => ∃ u, e = .returned (.tuple #[u, .int .i64 0]) ∧ Fr w' u (mkRat 295912208285591 1000000000000000000) ∧ Ext w1 w' := fun w1 => z_Of 295912208285591 1000000000000000000 w1 (by decide) (by decide) (by decide) (by decide)
 have hfb : Fb (mkRat 295912208285591 1000000000000000000) 62 := fb_mk (by decide) (by decide) (by decide)
 have hso := fun w1 u (h : Fr w1 u (mkRat 295912208285591 1000000000000000000)) => z_SOf u _ 62 w1 h hfb (by omega) (by rw [sun_fl]; decide) (by rw [sun_fl]; decide)
 rw [sun_lo.1, sun_lo.2] at hso
 generalize mkRat 295912208285591 1000000000000000000 = X at *
 go_enter Tryz.func46, Tryz.ntmps46
 go_wp2_with (first
  | (go_at_call 93; (with_reducible refine (hof _).mono ?_); rintro e w4 ⟨y4, rfl, hn4, hb4⟩; obtain ⟨s4, ao4, l4, cap4, bo4, l9, cap9, rfl⟩ := hn4.shape; obtain ⟨_, _, ⟨hc4, hf4⟩, hz4⟩ := hb4.c3; (try simp only [wsz] at hz4 hc4 hf4))
  | (go_at_call 94; (with_reducible refine (hso _ _ (hn4.ext ((Ext.refl _).alloc _))).mono ?_); rintro e w5 ⟨rfl, hb5⟩; obtain ⟨_, _, ⟨hc5, hf5⟩, hz5⟩ := hb5.c3; (try simp only [wsz] at hz5 hc5 hf5)))
 refine bodyPost_ret (v := .agg #[.int .i64 325358913, .int .i64 325358914]) ?_ rfl ⟨rfl, ?_⟩
 ·simp [results, Tryz.results46, go_sem, ↓IntWalk.iteOmega, *]
 ·exact b_6
theorem chV_sub_I (E : Int) (a b : V3) : (chV subI E a b).v.I := ⟨doI_W (subI_W _ _ _ _), doI_W (subI_W _ _ _ _), doI_W (subI_W _ _ _ _)⟩
theorem ckI_I64 {a b : Int} (h : ckI a b = 0) : I64 a ∧ I64 b := by
 obtain ⟨h1, h2, h3⟩ := ckI_ok h
 unfold I64
 constructor <;> omega
theorem ckV_I {v : V3} (h : ckV v = 0) : v.I := by
 obtain ⟨h1, h2, h3⟩ := ckV_ok h
 exact ⟨ckI_I64 h1, ckI_I64 h2, ckI_I64 h3⟩
theorem oeR_ck {b : BodyD} {fr ti : Int} (h : (oeR b fr ti).e = 0) : ckV (oeR b fr ti).v = 0 := by
 unfold oeR at h ⊢
 split
 ·rename_i h1; rw [if_pos h1] at h; exact absurd h (by simp)
 ·rename_i h1
  rw [if_neg h1] at h
  split
  ·rename_i h2; rw [if_pos h2] at h; exact absurd h (by simp)
  ·rename_i h2
   rw [if_neg h2] at h
   split
   ·rename_i h3; rw [if_pos h3] at h; exact absurd h (by simp)
   ·rename_i h3; exact Classical.not_not.1 h3
theorem gmX_I {b : BodyD} (h0 : 0 ≤ b.gm) (h1 : b.gm ≤ 1152921504606846976) : I64 (ofLo (gmX b)) ∧ I64 (ofHi (gmX b)) := by
 obtain ⟨-, g2, g3⟩ := gmX_in h0 h1
 obtain ⟨q1, q2, q3, q4⟩ := ofLo_le g2 g3
 unfold I64
 constructor <;> omega
def SrI (s : SrcD) : Prop := (I64 s.x ∧ I64 s.y) ∧ s.v.I
theorem srN_I {l : List BodyD} {fr ti : Int} (h : EpOk l l.length) : ∀ k, k ≤ l.length → ∀ s ∈ (srN l fr ti k).1, SrI s
 | 0, _, s, hs => by cases hs
 | k + 1, hk, s, hs => by
  unfold srN at hs
  have ih := srN_I h (fr := fr) (ti := ti) k (by omega)
  split at hs
  ·exact ih s hs
  ·split at hs
   ·exact ih s hs
   ·split at hs
    ·cases hs
    ·rename_i he
     rcases List.mem_append.1 hs with hs | hs
     ·exact ih s hs
     ·rw [List.mem_singleton.1 hs]
      have hb := h.1 k (by omega)
      exact ⟨gmX_I hb.2.1 hb.2.2.1, ckV_I (oeR_ck (Classical.not_not.1 he))⟩
theorem gaR_I {l : List BodyD} {E fr ti : Int} {p : V3} (hE : CkE l E) : ∀ s ∈ (gaR E l fr ti p).1, SrI s := by
 intro s hs
 unfold gaR at hs
 split at hs
 ·cases hs
 ·rename_i h0
  have h0' : E = 0 := Classical.not_not.1 h0
  split at hs
  ·cases hs
  ·split at hs
   ·cases hs
   ·split at hs
    ·cases hs
    ·exact srN_I (hE.zero h0').2 _ (Nat.le_refl _) s hs
def Hq (lo hi : Int) (x : Rat) : Prop := (lo : Rat) ≤ x ∧ x ≤ (hi : Rat)
theorem Hq.pt {a b c : Int} (h1 : a ≤ c) (h2 : c ≤ b) : Hq a b (c : Rat) := ⟨Rat.intCast_le_intCast.2 h1, Rat.intCast_le_intCast.2 h2⟩
theorem Hq.sub {a b c d : Int} {x : Rat} (h : Hq a b x) (k : Pt a b c d) : Hq c d x := by
 have h1 : (c : Rat) ≤ (a : Rat) := Rat.intCast_le_intCast.2 k.1
 have h2 : (b : Rat) ≤ (d : Rat) := Rat.intCast_le_intCast.2 k.2.2
 exact ⟨Rat.le_trans h1 h.1, Rat.le_trans h.2 h2⟩
theorem Hq.meet {a b c d : Int} {x : Rat} (h : Hq a b x) (k : Hq c d x) : a ≤ d ∧ c ≤ b :=
 ⟨Rat.intCast_le_intCast.1 (Rat.le_trans h.1 k.2), Rat.intCast_le_intCast.1 (Rat.le_trans k.1 h.2)⟩
theorem Hq.le {a b : Int} {x : Rat} (h : Hq a b x) : a ≤ b := (h.meet h).1
theorem ratpos {s : Int} (h : 0 < s) : (0 : Rat) < (s : Rat) := by
 have := Rat.intCast_lt_intCast.2 h
 simpa using this
theorem hq_of {lo hi p s : Int} {x : Rat} (s0 : 0 < s) (h1 : lo * s ≤ p) (h2 : p ≤ hi * s) (e : x * (s : Rat) = (p : Rat)) : Hq lo hi x := by
 have hs := ratpos s0
 have g1 : (lo : Rat) * (s : Rat) ≤ x * (s : Rat) := by rw [e, ← Rat.intCast_mul]; exact Rat.intCast_le_intCast.2 h1
 have g2 : x * (s : Rat) ≤ (hi : Rat) * (s : Rat) := by rw [e, ← Rat.intCast_mul]; exact Rat.intCast_le_intCast.2 h2
 exact ⟨Rat.le_of_mul_le_mul_right g1 hs, Rat.le_of_mul_le_mul_right g2 hs⟩
theorem num_den (x : Rat) : x * ((x.den : Int) : Rat) = (x.num : Rat) := by
 rw [Rat.intCast_natCast]
 have := Rat.mkRat_self x
 rw [Rat.mkRat_eq_div] at this
 conv => lhs; lhs; rw [← this]
 have h : (x.den : Rat) ≠ 0 := by intro e; have := Rat.natCast_eq_zero_iff.1 e; exact x.den_nz this
 exact Rat.div_mul_cancel h
theorem hq_num {lo hi : Int} {x : Rat} (h : Hq lo hi x) : lo * x.den ≤ x.num ∧ x.num ≤ hi * x.den := by
 have hd : (0 : Rat) < ((x.den : Int) : Rat) := ratpos (by have := den_pos' x; omega)
 have e := num_den x
 refine ⟨Rat.intCast_le_intCast.1 ?_, Rat.intCast_le_intCast.1 ?_⟩
 ·rw [Rat.intCast_mul, ← e]
  exact Rat.mul_le_mul_of_nonneg_right h.1 (Rat.le_of_lt hd)
 ·rw [Rat.intCast_mul, ← e]
  exact Rat.mul_le_mul_of_nonneg_right h.2 (Rat.le_of_lt hd)
theorem made_e0 {lo hi : Int} (h : (madeI lo hi).e = 0) : madeI lo hi = ⟨lo, hi, 0⟩ ∧ -2305843009213693952 ≤ lo ∧ hi ≤ 2305843009213693952 := by
 unfold madeI at h ⊢; split at h
 ·exact absurd h (by decide)
 ·rename_i k; rw [if_neg k]; exact ⟨rfl, by omega, by omega⟩
theorem dnT_le {T d : Int} (d0 : 0 < d) (h : -2305843009213693952 ≤ dnT T d) : dnT T d * d ≤ T := by
 have e : dnT T d ≤ T / d := by unfold dnT at h ⊢; omega
 exact Int.le_trans (Int.mul_le_mul_of_nonneg_right e (by omega)) (Int.ediv_mul_le T (by omega))
theorem le_upT {T d : Int} (d0 : 0 < d) (h : upT T d ≤ 2305843009213693952) : T ≤ upT T d * d := by
 have k := dnT_le (T := -T) d0 (by unfold upT at h; omega)
 unfold upT
 rw [Int.neg_mul]; omega
abbrev UQ : Rat := 1099511627776
theorem mul_hq {a b c d : Int} {x y : Rat} (h : (mulI a b c d).e = 0) (h1 : Hq a b x) (h2 : Hq c d y) : Hq (mulI a b c d).lo (mulI a b c d).hi (x * y / UQ) := by
 unfold mulI at h ⊢
 split at h
 ·rename_i k; exact absurd h k
 ·rename_i k
  rw [if_neg k]
  obtain ⟨e, l1, l2⟩ := made_e0 h
  rw [e]
  have d1 := dnT_le (by decide) l1
  have d2 := le_upT (by decide) l2
  obtain ⟨p1, p2⟩ := hq_num h1
  obtain ⟨q1, q2⟩ := hq_num h2
  have s0 : (0 : Int) < x.den := by have := den_pos' x; omega
  have t0 : (0 : Int) < y.den := by have := den_pos' y; omega
  have st : (0 : Int) < x.den * y.den := Int.mul_pos s0 t0
  have f := four_mul p1 p2 q1 q2
  have g : ∀ u v : Int, u * x.den * (v * y.den) = u * v * (x.den * y.den) := fun u v => by grind
  rw [g, g, g, g] at f
  generalize ha : a * c = ac at *
  generalize hb : a * d = ad at *
  generalize hc : b * c = bc at *
  generalize hd : b * d = bd at *
  have st' : (0 : Int) ≤ x.den * y.den := by omega
  have m1 : min4 ac ad bc bd * (x.den * y.den) ≤ min4 (ac * (x.den * y.den)) (ad * (x.den * y.den)) (bc * (x.den * y.den)) (bd * (x.den * y.den)) := by
   have i1 := Int.mul_le_mul_of_nonneg_right (show min4 ac ad bc bd ≤ ac by unfold min4; omega) st'
   have i2 := Int.mul_le_mul_of_nonneg_right (show min4 ac ad bc bd ≤ ad by unfold min4; omega) st'
   have i3 := Int.mul_le_mul_of_nonneg_right (show min4 ac ad bc bd ≤ bc by unfold min4; omega) st'
   have i4 := Int.mul_le_mul_of_nonneg_right (show min4 ac ad bc bd ≤ bd by unfold min4; omega) st'
   generalize min4 ac ad bc bd = M at *
   unfold min4; omega
  have m2 : max4 (ac * (x.den * y.den)) (ad * (x.den * y.den)) (bc * (x.den * y.den)) (bd * (x.den * y.den)) ≤ max4 ac ad bc bd * (x.den * y.den) := by
   have i1 := Int.mul_le_mul_of_nonneg_right (show ac ≤ max4 ac ad bc bd by unfold max4; omega) st'
   have i2 := Int.mul_le_mul_of_nonneg_right (show ad ≤ max4 ac ad bc bd by unfold max4; omega) st'
   have i3 := Int.mul_le_mul_of_nonneg_right (show bc ≤ max4 ac ad bc bd by unfold max4; omega) st'
   have i4 := Int.mul_le_mul_of_nonneg_right (show bd ≤ max4 ac ad bc bd by unfold max4; omega) st'
   generalize max4 ac ad bc bd = M at *
   unfold max4; omega
  refine hq_of (p := x.num * y.num) (s := x.den * y.den * 1099511627776) (by omega) ?_ ?_ ?_
  ·have j := Int.mul_le_mul_of_nonneg_right d1 st'
   dsimp only
   generalize dnT (min4 ac ad bc bd) 1099511627776 = D at *
   have : D * (x.den * y.den * 1099511627776) = D * 1099511627776 * (x.den * y.den) := by grind
   omega
  ·have j := Int.mul_le_mul_of_nonneg_right d2 st'
   dsimp only
   generalize upT (max4 ac ad bc bd) 1099511627776 = D at *
   have : D * (x.den * y.den * 1099511627776) = D * 1099511627776 * (x.den * y.den) := by grind
   omega
  ·have ex := num_den x
   have ey := num_den y
   rw [Rat.intCast_mul, Rat.intCast_mul, Rat.intCast_mul, ← ex, ← ey]
   have : ((1099511627776 : Int) : Rat) = UQ := rfl
   rw [this]
   have hu : x * y / UQ * UQ = x * y := Rat.div_mul_cancel (by decide)
   generalize x * y / UQ = z at *
   grind
theorem add_hq {a b c d : Int} {x y : Rat} (h : (addI a b c d).e = 0) (h1 : Hq a b x) (h2 : Hq c d y) : Hq (addI a b c d).lo (addI a b c d).hi (x + y) := by
 unfold addI at h ⊢
 split at h
 ·rename_i k; exact absurd h k
 ·rename_i k
  rw [if_neg k]
  obtain ⟨e1, e2⟩ := ck2_ok (Decidable.not_not.1 k)
  obtain ⟨x1, x2, x3⟩ := ckI_ok e1
  obtain ⟨y1, y2, y3⟩ := ckI_ok e2
  rw [w64_in (x := a + c) (by omega), w64_in (x := b + d) (by omega)] at h ⊢
  obtain ⟨e, l1, l2⟩ := made_e0 h
  rw [e]
  unfold Hq at *
  rw [Rat.intCast_add, Rat.intCast_add]
  constructor <;> grind
theorem sc_hq {a b n d : Int} {x : Rat} (h : (scI a b n d).e = 0) (n0 : 0 ≤ n) (d0 : 0 < d) (h1 : Hq a b x) : Hq (scI a b n d).lo (scI a b n d).hi (x * n / d) := by
 unfold scI at h ⊢
 split at h
 ·rename_i k; exact absurd h k
 ·rename_i k
  rw [if_neg k]
  obtain ⟨e, l1, l2⟩ := made_e0 h
  rw [e]
  have d1 := dnT_le d0 l1
  have d2 := le_upT d0 l2
  obtain ⟨p1, p2⟩ := hq_num h1
  have s0 : (0 : Int) < x.den := by have := den_pos' x; omega
  have a1 := Int.mul_le_mul_of_nonneg_right p1 n0
  have a2 := Int.mul_le_mul_of_nonneg_right p2 n0
  have b1 := Int.mul_le_mul_of_nonneg_right d1 (show (0 : Int) ≤ x.den by omega)
  have b2 := Int.mul_le_mul_of_nonneg_right d2 (show (0 : Int) ≤ x.den by omega)
  have ep : 0 < (x.den : Int) * d := Int.mul_pos s0 d0
  refine hq_of (p := x.num * n) (s := x.den * d) ep ?_ ?_ ?_
  ·dsimp only
   have e1 : dnT (a * n) d * (x.den * d) = dnT (a * n) d * d * x.den := by grind
   have e2 : a * n * x.den = a * x.den * n := by grind
   omega
  ·dsimp only
   have e1 : upT (b * n) d * (x.den * d) = upT (b * n) d * d * x.den := by grind
   have e2 : b * n * x.den = b * x.den * n := by grind
   omega
  ·have ex := num_den x
   have hd : (d : Rat) ≠ 0 := by have := ratpos d0; intro e; rw [e] at this; exact absurd this (by decide)
   have hz : x * n / d * d = x * n := Rat.div_mul_cancel hd
   rw [Rat.intCast_mul, Rat.intCast_mul, ← ex]
   generalize x * n / d = z at *
   grind
structure M3 where
 (r0 r1 r2 : V3)
def M3.O : M3 := ⟨V3.O, V3.O, V3.O⟩
structure M10 where
 (m : M3)
 (e : Int)
noncomputable def tiC (E : Int) (d : V3) : R3 := sz2 (doI E (nrmV d))
noncomputable def tiN (E x y : Int) (d : V3) : R3 := tnI (tiC E d) x y
noncomputable def tiM (E x y : Int) (d : V3) : R3 := tmI (doI E (nrmV d)) (tiN E x y d)
def tiV (n m : R3) (d : V3) : M3 := ⟨v3 (pg0 n m d) (pz1 n m d) (pz2 n m d), v3 (pz1 n m d) (pg1 n m d) (pz3 n m d), v3 (pz2 n m d) (pz3 n m d) (pg2 n m d)⟩
noncomputable def tiR (E x y : Int) (d : V3) : M10 := ⟨tiV (tiN E x y d) (tiM E x y d) d, (pz3 (tiN E x y d) (tiM E x y d) d).e⟩
def maR (T : M10) (A : M3) : M10 :=
 ⟨⟨(chV addI T.e A.r0 T.m.r0).v, (chV addI (chV addI T.e A.r0 T.m.r0).e A.r1 T.m.r1).v, (chV addI (chV addI (chV addI T.e A.r0 T.m.r0).e A.r1 T.m.r1).e A.r2 T.m.r2).v⟩, (chV addI (chV addI (chV addI T.e A.r0 T.m.r0).e A.r1 T.m.r1).e A.r2 T.m.r2).e⟩
noncomputable def shT (p : V3) (s : SrcD) (A : M10) : M10 := tiR (chV subI A.e p s.v).e s.x s.y (chV subI A.e p s.v).v
noncomputable def shS (p : V3) (s : SrcD) (A : M10) : M10 := maR (shT p s A) A.m
noncomputable def sh0 (p : V3) : M10 := tiR 0 325358913 325358914 p
noncomputable def shN (p : V3) : List SrcD → M10 → M10
 | [], A => A
 | s :: l, A => shN p l (shS p s A)
noncomputable def shR (E : Int) (l : List BodyD) (fr ti : Int) (p : V3) : M10 :=
 if (gaR E l fr ti p).2 ≠ 0 then ⟨M3.O, (gaR E l fr ti p).2⟩ else if (shN p (gaR E l fr ti p).1 (sh0 p)).e ≠ 0 then ⟨M3.O, 24⟩ else ⟨(shN p (gaR E l fr ti p).1 (sh0 p)).m, 0⟩
/-! Parts. -/
def PtM (a b : M3) : Prop := PtV a.r0 b.r0 ∧ PtV a.r1 b.r1 ∧ PtV a.r2 b.r2
def MPt (r s : M10) : Prop := s.e = 0 → r.e = 0 ∧ PtM r.m s.m
/-! The sources of a valid ephemeris are parts of themselves. -/
theorem srN_pt {l : List BodyD} {fr ti : Int} (h : EpOk l l.length) : ∀ k, k ≤ l.length → ∀ s ∈ (srN l fr ti k).1, SPt s s
 | 0, _, s, hs => by cases hs
 | k + 1, hk, s, hs => by
  unfold srN at hs
  have ih := srN_pt h (fr := fr) (ti := ti) k (by omega)
  split at hs
  ·exact ih s hs
  ·split at hs
   ·exact ih s hs
   ·split at hs
    ·cases hs
    ·rename_i he
     rcases List.mem_append.1 hs with hs | hs
     ·exact ih s hs
     ·rw [List.mem_singleton.1 hs]
      have hb := h.1 k (by omega)
      obtain ⟨-, g2, g3⟩ := gmX_in hb.2.1 hb.2.2.1
      obtain ⟨q1, q2, q3, q4⟩ := ofLo_le g2 g3
      exact ⟨Pt.refl q3, PtV.refl (oeR_ck (Classical.not_not.1 he))⟩
theorem gaR_pt {l : List BodyD} {E fr ti : Int} {p : V3} (hE : CkE l E) : ∀ s ∈ (gaR E l fr ti p).1, SPt s s := by
 intro s hs
 unfold gaR at hs
 split at hs
 ·cases hs
 ·rename_i h0
  have h0' : E = 0 := Classical.not_not.1 h0
  split at hs
  ·cases hs
  ·split at hs
   ·cases hs
   ·split at hs
    ·cases hs
    ·exact srN_pt (hE.zero h0').2 _ (Nat.le_refl _) s hs
theorem lpt_refl : ∀ {l : List SrcD}, (∀ s ∈ l, SPt s s) → LPt l l
 | [], _ => trivial
 | s :: l, h => ⟨h s (List.mem_cons_self ..), lpt_refl (fun t ht => h t (List.mem_cons_of_mem _ ht))⟩
end Go.Proofs.YtbkgakgdbmjmjaaGreat
