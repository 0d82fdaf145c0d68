/- trig: Atan2. -/
import Derived.Test.YtaoioncjmfcolaaGreatW27
set_option linter.unusedSimpArgs false
set_option linter.unusedVariables false
set_option maxRecDepth 100000
set_option maxHeartbeats 4000000
namespace Go.Proofs.YtaoioncjmfcolaaGreat
open Go.RowKit
theorem own_wat {g : Nat} {w : World} {s : Bool} {u : Value} {x : Int} (h : (BF.own [.bool s, u]).p g w) (hw : Wid w (.agg #[.bool s, u]) x) : WAt w g x := ⟨s, u, h.1 0 _ rfl, h.1 1 _ rfl, hw, h.2.1, h.2.2.1, h.2.2.2⟩
def quadF : Nat → Int → Int → Int → Option (Int × Int × Int)
 | 0, _, _, _ => none
 | k + 1, q, y, x => if okN y = true ∧ okN x = true ∧ 0 ≤ q ∧ q ≤ 2000000000000 then (if cmpI x 0 ≤ 0 ∨ cmpI y 0 < 0 then quadF k (q + 324000000000) (-x) y else some (q, y, x)) else none
def binF (x y : Int) : Nat → Int → Int → Option Int
 | 0, _, _ => none
 | k + 1, lo, hi => if lo + 1 < hi then (beyF x y ((lo + hi) / 2)).bind fun b => (if b = true then binF x y k ((lo + hi) / 2) hi else binF x y k lo ((lo + hi) / 2)) else some lo
def atF (y x : Int) : Option Int := (quadF 6 0 y x).bind fun s => (binF s.2.2 s.2.1 60 0 324000000000).bind fun l => some (s.1 + l)
theorem t_check (v : Value) (n : Int) (w : World) (h : Wid w v n) (hs : Sz n) :
    Calls Tryz.prog 72 #[v] w fun e w' => e = .returned (.int .i64 0) ∧ Ext w w' := by
 obtain ⟨u, rfl, hu⟩ := h
 have hz : n.natAbs = 0 → decide (n < 0) = false := fun h => decide_eq_false (by omega)
 obtain ⟨sa, hsa⟩ : ∃ sa, decide (n < 0) = sa := ⟨_, rfl⟩
 rw [hsa] at hz ⊢
 obtain ⟨ao, b1, o1, cap1, rfl, v1, v2, v3, v4, v5, v6⟩ := hu.view
 have hk := z_check_one (w.alloc (.cells #[.bool sa, .slice ao (dig n.natAbs).length cap1] 24)) _ sa n.natAbs (hu.alloc _) hs hz
 rw [World.size_alloc] at hk
 clear v1 v4 v5 hu hz
 go_enter Tryz.func72, Tryz.ntmps72
 go_wp2_with (go_at_call 77; (with_reducible refine hk.mono ?_); rintro e w1 ⟨rfl, hb⟩; obtain ⟨_, _, ⟨hc, hf⟩, hz⟩ := hb.c3; (try simp only [wsz] at hz hc hf))
 go_ret
 exact ⟨rfl, ex_⟩
theorem t_atan (vy vx : Value) (y x r : Int) (w : World) (hy : Wid w vy y) (hx : Wid w vx x) (ky : okN y = true) (kx : okN x = true) (l0 : (dig y.natAbs).length ≤ 16) (l1 : (dig x.natAbs).length ≤ 16) (hy0 : ¬ cmpI y 0 = 0) (hF : atF y x = some r) :
    Calls Tryz.prog 33 #[vy, vx] w fun e w' => e = .returned (.tuple #[.int .i64 r, .int .i64 0]) ∧ Ext w w' := by
 obtain ⟨sy, ay, ly, cy, rfl, ely⟩ : ∃ sa ao la cap1, vy = .agg #[.bool sa, .slice ao (la : Nat) cap1] ∧ la ≤ 16 := by
  obtain ⟨u, rfl, hu⟩ := hy; obtain ⟨ao, b1, o1, cap1, rfl, -⟩ := hu.view; exact ⟨_, _, _, _, rfl, l0⟩
 obtain ⟨sx, ax, lx, cx, rfl, elx⟩ : ∃ sa ao la cap1, vx = .agg #[.bool sa, .slice ao (la : Nat) cap1] ∧ la ≤ 16 := by
  obtain ⟨u, rfl, hu⟩ := hx; obtain ⟨ao, b1, o1, cap1, rfl, -⟩ := hu.view; exact ⟨_, _, _, _, rfl, l1⟩
 unfold atF at hF
 rw [Option.bind_eq_some_iff] at hF
 obtain ⟨⟨q1, y1, x1⟩, hQ, hF⟩ := hF
 rw [Option.bind_eq_some_iff] at hF
 obtain ⟨L, hB, hF⟩ := hF
 replace hF := Option.some.inj hF
 dsimp only at hB hF
 have hcky := fun w1 (k1 : Ext w w1) => t_check _ y w1 (hy.ext k1) (okN.sz ky)
 have hckx := fun w1 (k1 : Ext w w1) => t_check _ x w1 (hx.ext k1) (okN.sz kx)
 have i0 : ∀ w, (Instr.index 119 (.agg #[.bool sy, .slice ay ly cy, .bool sx, .slice ax lx cx]) (.int .i64 0)).run Tryz.prog w = .ok (.agg #[.bool sy, .slice ay ly cy]) w := fun _ => by kernel_rfl
 have i1 : ∀ w, (Instr.index 119 (.agg #[.bool sy, .slice ay ly cy, .bool sx, .slice ax lx cx]) (.int .i64 1)).run Tryz.prog w = .ok (.agg #[.bool sx, .slice ax lx cx]) w := fun _ => by kernel_rfl
 obtain ⟨M, hM⟩ : ∃ M : Int, max (ly : Int) (lx : Int) = M := ⟨_, rfl⟩
 have hM6 : M ≤ 16 := by rw [← hM]; exact Int.max_le.2 ⟨by omega, by omega⟩
 obtain ⟨cy0, hcy0⟩ : ∃ c, cmpI y 0 = c := ⟨_, rfl⟩
 rw [hcy0] at hy0
 have hcy : (cy0 == 0) = false := by simpa using hy0
 have hsy : ∀ (w1 : World) (u1 : Value), Wid w1 u1 y → Calls Tryz.prog 73 #[u1] w1 fun e w' => ∃ u, e = .returned u ∧ u = .int .i64 cy0 ∧ Ext w1 w' := fun w1 u1 k1 => by
  have := t_sign u1 _ w1 k1 (okN.sz ky)
  rw [hcy0] at this; exact calls_eq this
 clear hcy0 ky kx l0 l1
 have I0 : KBd w [] w := ⟨Ext.refl w, trivial, by simp, by simp⟩
 have I := (I0.new [.bool sy, .slice ay ly cy] 24 (by simp)).new [.bool sx, .slice ax lx cx] 24 (by simp)
 simp only [List.nil_append, World.size_alloc, List.cons_append] at I
 clear I0
 go_enter Tryz.func33, Tryz.ntmps33
 go_wp2_with fail
 refine wp_loop_rounds 3 ?_
 rw [rounds_succ]
 go_wp2_with (go_at_call 72; (with_reducible refine (hcky _ ex_).mono ?_); rintro e w1 ⟨rfl, hb1⟩; obtain ⟨_, _, ⟨hc1, hf1⟩, hz1⟩ := hb1.c3; (try simp only [wsz] at hz1 hc1 hf1))
 rw [rounds_succ]
 go_wp2_with (go_at_call 72; (with_reducible refine (hckx _ ex_).mono ?_); rintro e w2 ⟨rfl, hb2⟩; obtain ⟨_, _, ⟨hc2, hf2⟩, hz2⟩ := hb2.c3; (try simp only [wsz] at hz2 hc2 hf2))
 rw [rounds_succ]
 go_upto_region 8 with fail
 refine wp_regB [] [] (fun z_ => ([VF.eq (.pointer (some ⟨w.heap.size, 1, none⟩)), VF.eq (.slice ay ly cy), VF.eq (.int .i64 (ly)), VF.eq (.pointer (some ⟨(w.heap.size + 1), 1, none⟩)), VF.eq (.slice ax lx cx), VF.eq (.int .i64 (lx)), VF.eq (.int .i64 (M)), VF.eq (.bool false)] : List VF).getD z_ VF.any) (KBd.ext I ex_) (fun hc => ⟨?_, ?_, ?_, ?_, ?_, ?_, ?_, ?_, trivial⟩) (fun vs gl W hK0 hv hp => ?_)
 ·exact ob_e1 (x := .tmp 2) (a := .pointer (some ⟨w.heap.size, 0, none⟩)) (u := .pointer (some ⟨w.heap.size, 1, none⟩)) none hc
 ·exact ob_ld (x := .tmp 27) (g := w.heap.size) (f := 1) (u := .slice ay ly cy) (some 0) hc fun vs gs w1 c => c.own 0 1
 ·exact ob_e1 (x := .tmp 28) (a := (.slice ay ly cy)) (u := .int .i64 (ly)) (some 1) hc
 ·exact ob_e1 (x := .tmp 3) (a := .pointer (some ⟨(w.heap.size + 1), 0, none⟩)) (u := .pointer (some ⟨(w.heap.size + 1), 1, none⟩)) none hc
 ·exact ob_ld (x := .tmp 30) (g := (w.heap.size + 1)) (f := 1) (u := .slice ax lx cx) (some 3) hc fun vs gs w1 c => c.own 1 1
 ·exact ob_e1 (x := .tmp 31) (a := (.slice ax lx cx)) (u := .int .i64 (lx)) (some 4) hc
 ·exact ob_e2 (x := .tmp 29) (y := .tmp 32) (a := (.int .i64 (ly))) (b := (.int .i64 (lx))) (u := .int .i64 (M)) (some 2) (some 5) hc (hs := by intro ρ w1 h k; go_simp; first | done | exact hM)
 ·exact ob_e2 (x := .tmp 33) (y := .const (.int .i64 16)) (a := (.int .i64 (M))) (b := .int .i64 16) (u := .bool false) (some 6) none hc (hs := by intro ρ w1 h k; go_simp; first | done | omega | (simp; omega))
 have v7 : vs 7 = .bool false := hv 7 (by decide)
 simp only [putS, Nat.reduceAdd, Act.put, List.setIfInBounds_toArray, List.set_cons_zero, List.set_cons_succ, v7]
 simp only [kb_] at hK0
 replace I := hK0
 clear hK0 hv hp gl v7
 clear hcky hckx i0 i1
 go_upto_region 10 with fail
 refine wp_regB [] [] (fun z_ => ([VF.wid (y), VF.eq (.int .i64 (cy0)), VF.eq (.bool false), VF.eq (.bool false), VF.eq undef, VF.eq undef, VF.eq undef, VF.eq (.bool false)] : List VF).getD z_ VF.any) I (fun hc => ⟨?_, ?_, ?_, ?_, ?_, ?_, ?_, ?_, trivial⟩) (fun vs gl W hK0 hv hp => ?_)
 ·exact ob_getW w.heap.size (y) hc rfl fun vs gs w1 c => own_wat (c.b0 0) (hy.ext c.k.1)
 ·exact ob_call (fun v => [v 0]) hc rfl fun vs gs w1 c => hsy _ _ (c.v 0)
 ·exact ob_e2 (x := .tmp 36) (y := .const (.int .i64 0)) (a := (.int .i64 (cy0))) (b := .int .i64 0) (u := .bool false) (some 1) none hc (hs := by intro ρ w1 h k; go_simp; first | done | exact hcy)
 ·exact ob_cp 2 hc (.inl rfl)
 ·exact ob_skip hc
 ·exact ob_skip hc
 ·exact ob_skip hc
 ·exact ob_pickF (some 3) none hc rfl
 have v7 : vs 7 = .bool false := hv 7 (by decide)
 simp only [putS, Nat.reduceAdd, Act.put, List.setIfInBounds_toArray, List.set_cons_zero, List.set_cons_succ, v7]
 simp only [kb_] at hK0
 replace I := hK0
 clear hK0 hv hp gl v7
 have J := KBd.re (l' := [(w.heap.size, BF.wat y), (w.heap.size + 1, BF.wat x)]) I ⟨own_wat (I.at 0) (hy.ext I.e), own_wat (I.at 1) (hx.ext I.e), trivial⟩
 clear I hy hx hsy
 have I := J
 clear J
 go_wp2_with fail
 go_loopw [9] (fun s9 wr => ∃ (q y' x' : Int) (k : Nat), s9 = .int .i64 q ∧ Hid (quadF k q y' x' = some (q1, y1, x1)) ∧ Hid (KBd w [(w.heap.size, BF.wat y'), (w.heap.size + 1, BF.wat x')] wr)) (fun s9 _ => (3000000000000 - intOf s9).toNat)
 case atStart => exact ⟨0, y, x, 6, rfl, Lib.hid hQ, Lib.hid I⟩
 case round =>
  obtain ⟨q, y', x', k, rfl, HQ, HI⟩ := hrel
  clear I hQ
  have I := HI.out
  clear HI
  have hQ := HQ.out
  clear HQ
  cases k with
  | zero => cases hQ
  | succ k =>
   unfold quadF at hQ
   split at hQ
   case isFalse => cases hQ
   rename_i kq
   obtain ⟨ky, kx, q0, q9⟩ := kq
   obtain ⟨cx1, hcx1⟩ : ∃ c, cmpI x' 0 = c := ⟨_, rfl⟩
   obtain ⟨cy1, hcy1⟩ : ∃ c, cmpI y' 0 = c := ⟨_, rfl⟩
   rw [hcx1, hcy1] at hQ
   have hsx1 : ∀ (w1 : World) (u1 : Value), Wid w1 u1 x' → Calls Tryz.prog 73 #[u1] w1 fun e w' => ∃ u, e = .returned u ∧ u = .int .i64 cx1 ∧ Ext w1 w' := fun w1 u1 k1 => by
    have := t_sign u1 _ w1 k1 (okN.sz kx)
    rw [hcx1] at this; exact calls_eq this
   have hsy1 : ∀ (w1 : World) (u1 : Value), Wid w1 u1 y' → Calls Tryz.prog 73 #[u1] w1 fun e w' => ∃ u, e = .returned u ∧ u = .int .i64 cy1 ∧ Ext w1 w' := fun w1 u1 k1 => by
    have := t_sign u1 _ w1 k1 (okN.sz ky)
    rw [hcy1] at this; exact calls_eq this
   have hne : ∀ (w1 : World) (u1 : Value), Wid w1 u1 x' → Calls Tryz.prog 74 #[u1] w1 fun e w' => ∃ u, e = .returned (.tuple #[u, .int .i64 0]) ∧ Wid w' u (-x') ∧ Ext w1 w' := fun w1 u1 k1 => t_neg u1 _ w1 k1 (okN.sz kx)
   clear hcx1 hcy1 ky kx
   by_cases hl : cx1 ≤ 0
   ·have hlx : decide (cx1 ≤ 0) = true := decide_eq_true hl
    rw [if_pos (Or.inl hl)] at hQ
    have hQ2 := Lib.hid hQ
    clear hQ hl hF hB
    go_upto_region 13 with fail
    refine wp_regB [] [] (fun z_ => ([VF.wid (x'), VF.eq (.int .i64 (cx1)), VF.eq (.bool true), VF.eq (.bool true), VF.eq undef, VF.eq undef, VF.eq undef, VF.eq (.bool true)] : List VF).getD z_ VF.any) I (fun hc => ⟨?_, ?_, ?_, ?_, ?_, ?_, ?_, ?_, trivial⟩) (fun vs gl W hK0 hv hp => ?_)
    ·exact b_29
    ·exact ob_call (fun v => [v 0]) hc rfl fun vs gs w1 c => hsx1 _ _ (c.v 0)
    ·exact ob_e2 (x := .tmp 44) (y := .const (.int .i64 0)) (a := (.int .i64 (cx1))) (b := .int .i64 0) (u := .bool true) (some 1) none hc (hs := by intro ρ w1 h k; go_simp; first | done | exact hlx)
    ·exact ob_cp 2 hc (.inl rfl)
    ·exact ob_skip hc
    ·exact ob_skip hc
    ·exact ob_skip hc
    ·exact ob_pickT (some 3) none hc rfl
    have v7 : vs 7 = .bool true := hv 7 (by decide)
    simp only [putS, Nat.reduceAdd, Act.put, List.setIfInBounds_toArray, List.set_cons_zero, List.set_cons_succ, v7]
    simp only [kb_] at hK0
    replace I := hK0
    clear hK0 hv hp gl v7
    clear hsx1 hsy1
    go_upto_region 14 with fail
    refine wp_regB [] [⟨5, some 6, BF.b2, (BF.wat (-x'))⟩] (fun z_ => ([VF.wid (x'), (VF.wid (-x')).err 0, (VF.wid (-x')).err 0, VF.wid (-x'), VF.eq (.int .i64 (0)), VF.any, VF.any, VF.eq (.int .i64 (0))] : List VF).getD z_ VF.any) I (fun hc => ⟨?_, ?_, ?_, ?_, ?_, ?_, ?_, ?_, trivial⟩) (fun vs gl W hK0 hv hp => ?_)
    ·exact b_29
    ·exact ob_call (fun v => [v 0]) hc rfl fun vs gs w1 c => calls_err (hne _ _ (c.v 0))
    ·exact ob_cp 1 hc (.inl rfl)
    ·exact ob_ext0 2 hc rfl
    ·exact ob_ext1 2 hc rfl
    ·exact b_26
    ·exact ob_putW (n := 2) rfl 3 hc rfl 0
    ·exact ob_cp 4 hc (.inr rfl)
    have p0 : vs 5 = .pointer (some ⟨gl 0, 0, none⟩) := hp 0 _ rfl
    have v7 : vs 7 = .int .i64 0 := hv 7 (by decide)
    simp only [putS, Nat.reduceAdd, Act.put, List.setIfInBounds_toArray, List.set_cons_zero, List.set_cons_succ, p0, v7]
    obtain ⟨g10, e90⟩ : ∃ n, gl 0 = n := ⟨_, rfl⟩
    simp only [kb_, e90] at hK0
    rw [e90]
    replace I := hK0
    clear hK0 hv hp gl p0 v7 e90
    go_upto_region 15 with fail
    refine wp_regB [[(3, BF.wat (-x'))], [(2, BF.wat y')]] [] (fun z_ => ([VF.wid (y'), VF.wid (-x')] : List VF).getD z_ VF.any) I (fun hc => ⟨?_, ?_, ?_, ?_, trivial⟩) (fun vs gl W hK0 hv hp => ?_)
    ·exact b_30
    ·exact ob_getW g10 (-x') hc rfl fun vs gs w1 c => c.b0 2
    ·exact ob_putW (n := 1) rfl 0 hc rfl 0
    ·exact ob_putW (n := 0) rfl 1 hc rfl 0
    simp only [putS, Nat.reduceAdd, Act.put, List.setIfInBounds_toArray, List.set_cons_zero, List.set_cons_succ]
    simp only [kb_] at hK0
    replace I := hK0
    clear hK0 hv hp gl
    replace I := I.take 2
    go_wp2_with fail
    go_roundw
    case rel => exact ⟨q + 324000000000, -x', y', k, (by go_num), hQ2, Lib.hid I⟩
    case measure => simp [intOf]; omega
   ·have hlx : decide (cx1 ≤ 0) = false := decide_eq_false hl
    obtain ⟨ny, hny⟩ : ∃ n, decide (cy1 < 0) = n := ⟨_, rfl⟩
    go_upto_region 13 with fail
    refine wp_regB [] [] (fun z_ => ([VF.wid (x'), VF.eq (.int .i64 (cx1)), VF.eq (.bool false), VF.eq (.bool false), VF.wid (y'), VF.eq (.int .i64 (cy1)), VF.eq (.bool ny), VF.eq (.bool ny)] : List VF).getD z_ VF.any) I (fun hc => ⟨?_, ?_, ?_, ?_, ?_, ?_, ?_, ?_, trivial⟩) (fun vs gl W hK0 hv hp => ?_)
    ·exact b_29
    ·exact ob_call (fun v => [v 0]) hc rfl fun vs gs w1 c => hsx1 _ _ (c.v 0)
    ·exact ob_e2 (x := .tmp 44) (y := .const (.int .i64 0)) (a := (.int .i64 (cx1))) (b := .int .i64 0) (u := .bool false) (some 1) none hc (hs := by intro ρ w1 h k; go_simp; first | done | exact hlx)
    ·exact ob_cp 2 hc (.inl rfl)
    ·exact b_30
    ·exact ob_call (fun v => [v 4]) hc rfl fun vs gs w1 c => hsy1 _ _ (c.v 4)
    ·exact ob_e2 (x := .tmp 48) (y := .const (.int .i64 0)) (a := (.int .i64 (cy1))) (b := .int .i64 0) (u := .bool ny) (some 5) none hc (hs := by intro ρ w1 h k; go_simp; first | done | exact hny)
    ·exact ob_pickF (some 3) (some 6) hc rfl
    have v7 : vs 7 = .bool ny := hv 7 (by decide)
    simp only [putS, Nat.reduceAdd, Act.put, List.setIfInBounds_toArray, List.set_cons_zero, List.set_cons_succ, v7]
    simp only [kb_] at hK0
    replace I := hK0
    clear hK0 hv hp gl v7
    clear hsx1 hsy1 hlx
    cases ny
    ·have hn := of_decide_eq_false hny
     rw [if_neg (by omega)] at hQ
     obtain ⟨rfl, rfl, rfl⟩ : q = q1 ∧ y' = y1 ∧ x' = x1 := by
      have := Option.some.inj hQ
      exact ⟨congrArg (·.1) this, congrArg (·.2.1) this, congrArg (·.2.2) this⟩
     clear hQ hne hny hn hl
     go_wp2_with fail
     go_loopw [12, 13] (fun s12 s13 wr => ∃ (lo hi : Int) (k : Nat), s12 = .int .i64 lo ∧ s13 = .int .i64 hi ∧ 0 ≤ lo ∧ lo < hi ∧ hi ≤ 324000000000 ∧ Hid (binF x' y' k lo hi = some L) ∧ Hid (KBd w [(w.heap.size, BF.wat y'), (w.heap.size + 1, BF.wat x')] wr)) (fun s12 s13 _ => (intOf s13 - intOf s12).toNat)
     case atStart => exact ⟨0, 324000000000, 60, rfl, rfl, by omega, by omega, by omega, Lib.hid hB, Lib.hid I⟩
     case round =>
      obtain ⟨lo, hi, k, rfl, rfl, b0, b1, b2, HB, HI⟩ := hrel
      clear I hB
      have I := HI.out
      clear HI
      have hB := HB.out
      clear HB
      cases k with
      | zero => cases hB
      | succ k =>
       unfold binF at hB
       obtain ⟨ls, hls⟩ : ∃ ls, decide (lo + 1 < hi) = ls := ⟨_, rfl⟩
       go_upto_region 18 with fail
       refine wp_regB [] [] (fun z_ => ([VF.eq (.int .i64 (lo)), VF.eq (.int .i64 (lo + 1)), VF.eq (.int .i64 (hi)), VF.eq (.bool ls)] : List VF).getD z_ VF.any) I (fun hc => ⟨?_, ?_, ?_, ?_, trivial⟩) (fun vs gl W hK0 hv hp => ?_)
       ·exact ob_mv hc (.inl rfl)
       ·exact ob_e2 (x := .tmp 60) (y := .const (.int .i64 1)) (a := (.int .i64 (lo))) (b := .int .i64 1) (u := .int .i64 (lo + 1)) (some 0) none hc (hs := by intro ρ w1 h k; go_simp; first | done | (simp only [IntKind.wrap_i64]; omega))
       ·exact ob_mv hc (.inl rfl)
       ·exact ob_e2 (x := .tmp 61) (y := .tmp 62) (a := (.int .i64 (lo + 1))) (b := (.int .i64 (hi))) (u := .bool ls) (some 1) (some 2) hc (hs := by intro ρ w1 h k; go_simp; first | done | exact hls)
       have v3 : vs 3 = .bool ls := hv 3 (by decide)
       simp only [putS, Nat.reduceAdd, Act.put, List.setIfInBounds_toArray, List.set_cons_zero, List.set_cons_succ, v3]
       simp only [kb_] at hK0
       replace I := hK0
       clear hK0 hv hp gl v3
       cases ls
       ·rw [if_neg (of_decide_eq_false hls)] at hB
        obtain rfl := Option.some.inj hB
        have hE := I.e
        have hlr : IntKind.i64.wrap (q + lo) = r := by rw [IntKind.wrap_i64]; omega
        clear I hls hB
        go_wp2_with fail
        refine bodyPost_ret (v := .tuple #[.int .i64 r, .int .i64 0]) ?_ rfl ⟨rfl, hE⟩
        simp [results, Tryz.results33, go_sem, ↓IntWalk.iteOmega, hF]
       ·have hl := of_decide_eq_true hls
        rw [if_pos hl] at hB
        clear hls
        have hmid : (lo + hi).tdiv 2 = (lo + hi) / 2 := Int.tdiv_eq_ediv_of_nonneg (by omega)
        obtain ⟨mid, hmd⟩ : ∃ m, (lo + hi) / 2 = m := ⟨_, rfl⟩
        rw [hmd] at hB hmid
        rw [Option.bind_eq_some_iff] at hB
        obtain ⟨b, hb, hB⟩ := hB
        have hm1 : lo < mid ∧ mid < hi := by omega
        have hbe : ∀ (w1 : World) (u1 u2 u3 : Value), Wid w1 u1 x' → Wid w1 u2 y' → u3 = .int .i64 mid → Calls Tryz.prog 75 #[u1, u2, u3] w1 fun e w' => ∃ u, e = .returned u ∧ u = .bool b ∧ Ext w1 w' := fun w1 u1 u2 u3 k1 k2 k3 => by
         subst k3
         exact calls_eq (t_beyond u1 u2 x' y' mid b w1 k1 k2 hb)
        clear hb hmd
        go_upto_region 19 with fail
        refine wp_regB [] [] (fun z_ => ([VF.eq (.int .i64 (lo)), VF.eq (.int .i64 (hi)), VF.eq (.int .i64 (lo + hi)), VF.eq (.int .i64 (mid)), VF.eq (.int .i64 (mid))] : List VF).getD z_ VF.any) I (fun hc => ⟨?_, ?_, ?_, ?_, ?_, trivial⟩) (fun vs gl W hK0 hv hp => ?_)
        ·exact ob_mv hc (.inl rfl)
        ·exact ob_mv hc (.inl rfl)
        ·exact ob_e2 (x := .tmp 64) (y := .tmp 65) (a := (.int .i64 (lo))) (b := (.int .i64 (hi))) (u := .int .i64 (lo + hi)) (some 0) (some 1) hc (hs := by intro ρ w1 h k; go_simp; first | done | (simp only [IntKind.wrap_i64]; omega))
        ·exact ob_e2 (x := .tmp 66) (y := .const (.int .i64 2)) (a := (.int .i64 (lo + hi))) (b := .int .i64 2) (u := .int .i64 (mid)) (some 2) none hc (hs := by intro ρ w1 h k; go_simp; first | done | exact hmid | (simp only [IntKind.wrap_i64]; omega))
        ·exact ob_cp 3 hc (.inr rfl)
        have v4 : vs 4 = .int .i64 mid := hv 4 (by decide)
        simp only [putS, Nat.reduceAdd, Act.put, List.setIfInBounds_toArray, List.set_cons_zero, List.set_cons_succ, v4]
        simp only [kb_] at hK0
        replace I := hK0
        clear hK0 hv hp gl v4
        go_upto_region 20 with fail
        refine wp_regB [] [] (fun z_ => ([VF.wid (x'), VF.wid (y'), VF.eq (.int .i64 (mid)), VF.eq (.bool b)] : List VF).getD z_ VF.any) I (fun hc => ⟨?_, ?_, ?_, ?_, trivial⟩) (fun vs gl W hK0 hv hp => ?_)
        ·exact b_29
        ·exact b_30
        ·exact ob_mv hc (.inl rfl)
        ·exact ob_call (fun v => [v 0, v 1, v 2]) hc rfl fun vs gs w1 c => hbe _ _ _ _ (c.v 0) (c.v 1) (c.v 2)
        have v3 : vs 3 = .bool b := hv 3 (by decide)
        simp only [putS, Nat.reduceAdd, Act.put, List.setIfInBounds_toArray, List.set_cons_zero, List.set_cons_succ, v3]
        simp only [kb_] at hK0
        replace I := hK0
        clear hK0 hv hp gl v3
        clear hbe hmid
        cases b
        ·replace hB := Lib.hid hB
         go_wp2_with fail
         go_roundw
         case rel => exact ⟨lo, mid, k, rfl, rfl, by omega, by omega, by omega, hB, Lib.hid I⟩
         case measure => simp [intOf]; omega
        ·replace hB := Lib.hid hB
         go_wp2_with fail
         go_roundw
         case rel => exact ⟨mid, hi, k, rfl, rfl, by omega, by omega, by omega, hB, Lib.hid I⟩
         case measure => simp [intOf]; omega
    ·have hn := of_decide_eq_true hny
     rw [if_pos (Or.inr hn)] at hQ
     have hQ2 := Lib.hid hQ
     clear hQ hny hn hl hF hB
     go_upto_region 14 with fail
     refine wp_regB [] [⟨5, some 6, BF.b2, (BF.wat (-x'))⟩] (fun z_ => ([VF.wid (x'), (VF.wid (-x')).err 0, (VF.wid (-x')).err 0, VF.wid (-x'), VF.eq (.int .i64 (0)), VF.any, VF.any, VF.eq (.int .i64 (0))] : List VF).getD z_ VF.any) I (fun hc => ⟨?_, ?_, ?_, ?_, ?_, ?_, ?_, ?_, trivial⟩) (fun vs gl W hK0 hv hp => ?_)
     ·exact b_29
     ·exact ob_call (fun v => [v 0]) hc rfl fun vs gs w1 c => calls_err (hne _ _ (c.v 0))
     ·exact ob_cp 1 hc (.inl rfl)
     ·exact ob_ext0 2 hc rfl
     ·exact ob_ext1 2 hc rfl
     ·exact b_26
     ·exact ob_putW (n := 2) rfl 3 hc rfl 0
     ·exact ob_cp 4 hc (.inr rfl)
     have p0 : vs 5 = .pointer (some ⟨gl 0, 0, none⟩) := hp 0 _ rfl
     have v7 : vs 7 = .int .i64 0 := hv 7 (by decide)
     simp only [putS, Nat.reduceAdd, Act.put, List.setIfInBounds_toArray, List.set_cons_zero, List.set_cons_succ, p0, v7]
     obtain ⟨g10, e90⟩ : ∃ n, gl 0 = n := ⟨_, rfl⟩
     simp only [kb_, e90] at hK0
     rw [e90]
     replace I := hK0
     clear hK0 hv hp gl p0 v7 e90
     go_upto_region 15 with fail
     refine wp_regB [[(3, BF.wat (-x'))], [(2, BF.wat y')]] [] (fun z_ => ([VF.wid (y'), VF.wid (-x')] : List VF).getD z_ VF.any) I (fun hc => ⟨?_, ?_, ?_, ?_, trivial⟩) (fun vs gl W hK0 hv hp => ?_)
     ·exact b_30
     ·exact ob_getW g10 (-x') hc rfl fun vs gs w1 c => c.b0 2
     ·exact ob_putW (n := 1) rfl 0 hc rfl 0
     ·exact ob_putW (n := 0) rfl 1 hc rfl 0
     simp only [putS, Nat.reduceAdd, Act.put, List.setIfInBounds_toArray, List.set_cons_zero, List.set_cons_succ]
     simp only [kb_] at hK0
     replace I := hK0
     clear hK0 hv hp gl
     replace I := I.take 2
     go_wp2_with fail
     go_roundw
     case rel => exact ⟨q + 324000000000, -x', y', k, (by go_num), hQ2, Lib.hid I⟩
     case measure => simp [intOf]; omega
theorem eqA (d : Nat) (a b c : Int) (w : World) : (Op.equalIn (d + 1 + 1) 41 (.agg #[.int .i64 a, .int .i64 b, .int .i64 c]) (.agg #[.int .i64 0, .int .i64 0, .int .i64 0])).run Tryz.prog w = .ok (a == 0 && (b == 0 && c == 0)) w := by
 have h38 : Tryz.prog.underlying 41 = some (.array 3 2) := by kernel_rfl
 have h2 : Tryz.prog.underlying 2 = some (.int .i64) := by kernel_rfl
 rw [Op.equalIn]
 have hs : ∀ w, (sizeOf 2).run Tryz.prog w = .ok 1 w := fun w => by kernel_rfl
 have hp0 : ∀ (a b c : Int) w, (part 2 #[.int .i64 a, .int .i64 b, .int .i64 c] 0).run Tryz.prog w = .ok (.int .i64 a) w := fun a b c w => by kernel_rfl
 have hp1 : ∀ (a b c : Int) w, (part 2 #[.int .i64 a, .int .i64 b, .int .i64 c] 1).run Tryz.prog w = .ok (.int .i64 b) w := fun a b c w => by kernel_rfl
 have hp2 : ∀ (a b c : Int) w, (part 2 #[.int .i64 a, .int .i64 b, .int .i64 c] 2).run Tryz.prog w = .ok (.int .i64 c) w := fun a b c w => by kernel_rfl
 have he : ∀ (a b : Int) w, (Op.equalIn (d + 1) 2 (.int .i64 a) (.int .i64 b)).run Tryz.prog w = .ok (a == b) w := fun a b w => run_equalIn_int w d 2 .i64 .i64 a b h2
 simp only [Sem.run_bind, run_underlying h38, Result.andThen_ok, hs, Nat.mul_one]
 simp only [Std.Legacy.Range.forIn_eq_forIn_range', Std.Legacy.Range.size]
 have hr : List.range' 0 3 = [0, 1, 2] := rfl
 simp [List.range', hp0, hp1, hp2, he]
 by_cases h0 : a = 0 <;> by_cases h1 : b = 0 <;> by_cases h3 : c = 0 <;> (try simp [h0, h1, h3, he, hp1, hp2])
theorem eqA4 (a b c : Int) (w : World) : (Op.equalIn 10000 41 (.agg #[.int .i64 a, .int .i64 b, .int .i64 c]) (.agg #[.int .i64 0, .int .i64 0, .int .i64 0])).run Tryz.prog w = .ok (decide (a = 0 ∧ b = 0 ∧ c = 0)) w := (eqA 9998 a b c w).trans (by congr 1; by_cases h0 : a = 0 <;> by_cases h1 : b = 0 <;> by_cases h3 : c = 0 <;> simp [h0, h1, h3])
theorem p_Dir0 (w : World) : Calls Tryz.prog 9 #[.agg #[.int .i64 0, .int .i64 0, .int .i64 0]] w fun e w' => e = .returned (.tuple #[.int .i64 0, .int .i64 0, .int .i64 18]) ∧ Ext w w' := by
 have heq := fun w => eqA4 0 0 0 w
 rw [decide_eq_true (show (0 : Int) = 0 ∧ (0 : Int) = 0 ∧ (0 : Int) = 0 from ⟨rfl, rfl, rfl⟩)] at heq
 go_enter Tryz.func9, Tryz.ntmps9
 go_wp2_with fail
 refine bodyPost_ret (v := .tuple #[.int .i64 0, .int .i64 0, .int .i64 18]) ?_ rfl ⟨rfl, ex_⟩
 simp [results, Tryz.results9, go_sem, ↓IntWalk.iteOmega]
theorem p_DirZ (z r : Int) (w : World) (hz : ¬ z = 0) (h0 : -9223372036854775808 ≤ z) (h1 : z ≤ 9223372036854775807) (hr : 324000000000 < r) (hr2 : r ≤ 1296000000000) (hF : atF z 0 = some r) : Calls Tryz.prog 9 #[.agg #[.int .i64 0, .int .i64 0, .int .i64 z]] w fun e w' => e = .returned (.tuple #[.int .i64 0, .int .i64 (r - 1296000000000), .int .i64 0]) ∧ Ext w w' := by
 have heq := fun w => eqA4 0 0 z w
 rw [decide_eq_false (show ¬ ((0 : Int) = 0 ∧ (0 : Int) = 0 ∧ z = 0) from fun h => hz h.2.2)] at heq
 have hsq : ∀ (w1 : World) (u1 : Value), u1 = .int .i64 0 → Calls Tryz.prog 36 #[u1] w1 fun e w' => ∃ u, e = .returned u ∧ Wid w' u 0 ∧ Ext w1 w' := fun w1 u1 k => by subst k; exact p_square 0 w1 (by decide) (by decide)
 have s0 : Sz 0 := dig_bits (k := 64) (L := 4096) (by decide) (by decide)
 have had : ∀ (w1 : World) (u1 u2 : Value), Wid w1 u1 0 → Wid w1 u2 0 → Calls Tryz.prog 35 #[u1, u2] w1 fun e w' => ∃ u, e = .returned u ∧ ((VF.wid 0).err 0).p u w' ∧ Ext w1 w' := fun w1 u1 u2 a b => calls_err (z_Add u1 u2 0 0 w1 a b s0 s0 s0)
 have hsr : ∀ (w1 : World) (u1 : Value), Wid w1 u1 0 → Calls Tryz.prog 37 #[u1] w1 fun e w' => ∃ u, e = .returned u ∧ ((VF.wid 0).err 0).p u w' ∧ Ext w1 w' := fun w1 u1 a => calls_err (p_Sqrt0 u1 w1 a)
 have hfr : ∀ (w1 : World) (u1 : Value), u1 = .int .i64 z → Calls Tryz.prog 34 #[u1] w1 fun e w' => ∃ u, e = .returned u ∧ Wid w' u z ∧ Ext w1 w' := fun w1 u1 k => by subst k; exact z_From z w1 h0 h1
 have oz : okN z = true := by
  unfold okN
  by_cases hn : z.natAbs = 0
  ·rw [hn]; rfl
  ·exact decide_eq_true (Nat.lt_trans ((Nat.log2_lt hn).2 (show z.natAbs < 2 ^ 64 by omega)) (by decide))
 have hl : (dig z.natAbs).length ≤ 16 := dig_bits (k := 64) (L := 16) (by omega) (by decide)
 have hat : ∀ (w1 : World) (u1 u2 : Value), Wid w1 u1 z → Wid w1 u2 0 → Calls Tryz.prog 33 #[u1, u2] w1 fun e w' => ∃ u, e = .returned u ∧ u = .tuple #[.int .i64 r, .int .i64 0] ∧ Ext w1 w' := fun w1 u1 u2 a b => calls_eq (t_atan u1 u2 z 0 r w1 a b oz rfl hl (Nat.zero_le _) (by unfold cmpI; split <;> (try split) <;> omega) hF)
 clear hF s0 oz hl hz
 have I0 : KBd w [] w := ⟨Ext.refl w, trivial, by simp, by simp⟩
 have I := I0.new [.int .i64 0, .int .i64 0, .int .i64 z] 41 (by simp)
 simp only [World.size_alloc, List.nil_append, List.cons_append] at I
 clear I0
 go_enter Tryz.func9, Tryz.ntmps9
 go_upto_region 5 with fail
 go_upto_region 5 with fail
 refine wp_regB [] [⟨10, some 11, BF.b2, (BF.wat 0)⟩] (fun z_ => ([VF.eq (.pointer (some ⟨w.heap.size, 0, none⟩)), VF.eq (.int .i64 (0)), VF.wid (0), VF.eq (.pointer (some ⟨w.heap.size, 1, none⟩)), VF.eq (.int .i64 (0)), VF.wid (0), (VF.wid 0).err 0, (VF.wid 0).err 0, VF.wid (0), VF.eq (.int .i64 (0)), VF.any, VF.any, VF.eq (.int .i64 (0))] : List VF).getD z_ VF.any) I (fun hc => ⟨?_, ?_, ?_, ?_, ?_, ?_, ?_, ?_, ?_, ?_, ?_, ?_, ?_, trivial⟩) (fun vs gl W hK0 hv hp => ?_)
 ·exact ob_e2 (x := .tmp 1) (y := .const (.int .i64 0)) (a := .pointer (some ⟨w.heap.size, 0, none⟩)) (b := .int .i64 0) (u := .pointer (some ⟨w.heap.size, 0, none⟩)) none none hc
 ·exact ob_ld (x := .tmp 31) (g := w.heap.size) (f := 0) (u := .int .i64 (0)) (some 0) hc fun vs gs w1 c => c.own 0 0
 ·exact ob_call (fun v => [v 1]) hc rfl fun vs gs w1 c => hsq _ _ (c.v 1)
 ·exact ob_e2 (x := .tmp 1) (y := .const (.int .i64 1)) (a := .pointer (some ⟨w.heap.size, 0, none⟩)) (b := .int .i64 1) (u := .pointer (some ⟨w.heap.size, 1, none⟩)) none none hc
 ·exact ob_ld (x := .tmp 34) (g := w.heap.size) (f := 1) (u := .int .i64 (0)) (some 3) hc fun vs gs w1 c => c.own 0 1
 ·exact ob_call (fun v => [v 4]) hc rfl fun vs gs w1 c => hsq _ _ (c.v 4)
 ·exact ob_call (fun v => [v 2, v 5]) hc rfl fun vs gs w1 c => had _ _ _ (c.v 2) (c.v 5)
 ·exact ob_cp 6 hc (.inl rfl)
 ·exact ob_ext0 7 hc rfl
 ·exact ob_ext1 7 hc rfl
 ·exact ob_allocW (n := 1) rfl hc rfl rfl rfl
 ·exact ob_putW (n := 1) rfl 8 hc rfl 0
 ·exact ob_cp 9 hc (.inr rfl)
 have p0 : vs 10 = .pointer (some ⟨gl 0, 0, none⟩) := hp 0 _ rfl
 simp only [putS, Nat.reduceAdd, Act.put, List.setIfInBounds_toArray, List.set_cons_zero, List.set_cons_succ, p0]
 obtain ⟨g5, e90⟩ : ∃ n, gl 0 = n := ⟨_, rfl⟩
 simp only [kb_, e90] at hK0
 rw [e90]
 replace I := hK0
 clear hK0 hv hp gl p0 e90
 go_upto_region 6 with fail
 refine wp_regB [] [⟨5, some 6, BF.b2, (BF.wat 0)⟩] (fun z_ => ([VF.wid (0), (VF.wid 0).err 0, (VF.wid 0).err 0, VF.wid (0), VF.eq (.int .i64 (0)), VF.any, VF.any, VF.eq (.int .i64 (0))] : List VF).getD z_ VF.any) I (fun hc => ⟨?_, ?_, ?_, ?_, ?_, ?_, ?_, ?_, trivial⟩) (fun vs gl W hK0 hv hp => ?_)
 ·exact ob_getW g5 (0) hc rfl fun vs gs w1 c => c.b0 1
 ·exact ob_call (fun v => [v 0]) hc rfl fun vs gs w1 c => hsr _ _ (c.v 0)
 ·exact ob_cp 1 hc (.inl rfl)
 ·exact ob_ext0 2 hc rfl
 ·exact ob_ext1 2 hc rfl
 ·exact b_26
 ·exact ob_putW (n := 2) rfl 3 hc rfl 0
 ·exact ob_cp 4 hc (.inr rfl)
 have p0 : vs 5 = .pointer (some ⟨gl 0, 0, none⟩) := hp 0 _ rfl
 simp only [putS, Nat.reduceAdd, Act.put, List.setIfInBounds_toArray, List.set_cons_zero, List.set_cons_succ, p0]
 obtain ⟨g7, e90⟩ : ∃ n, gl 0 = n := ⟨_, rfl⟩
 simp only [kb_, e90] at hK0
 rw [e90]
 replace I := hK0
 clear hK0 hv hp gl p0 e90
 go_upto_region 7 with fail
 refine wp_regB [] [] (fun z_ => ([VF.eq (.pointer (some ⟨w.heap.size, 2, none⟩)), VF.eq (.int .i64 (z)), VF.wid (z), VF.wid (0), VF.eq (.tuple #[.int .i64 r, .int .i64 0]), VF.eq (.tuple #[.int .i64 r, .int .i64 0]), VF.eq (.int .i64 (r)), VF.eq (.int .i64 (0)), VF.eq (.int .i64 (r))] : List VF).getD z_ VF.any) I (fun hc => ⟨?_, ?_, ?_, ?_, ?_, ?_, ?_, ?_, ?_, trivial⟩) (fun vs gl W hK0 hv hp => ?_)
 ·exact ob_e2 (x := .tmp 1) (y := .const (.int .i64 2)) (a := .pointer (some ⟨w.heap.size, 0, none⟩)) (b := .int .i64 2) (u := .pointer (some ⟨w.heap.size, 2, none⟩)) none none hc
 ·exact ob_ld (x := .tmp 46) (g := w.heap.size) (f := 2) (u := .int .i64 (z)) (some 0) hc fun vs gs w1 c => c.own 0 2
 ·exact ob_call (fun v => [v 1]) hc rfl fun vs gs w1 c => hfr _ _ (c.v 1)
 ·exact ob_getW g7 (0) hc rfl fun vs gs w1 c => c.b0 2
 ·exact ob_call (fun v => [v 2, v 3]) hc rfl fun vs gs w1 c => hat _ _ _ (c.v 2) (c.v 3)
 ·exact ob_cp 4 hc (.inl rfl)
 ·exact ob_e1 (x := .tmp 45) (a := (.tuple #[.int .i64 r, .int .i64 0])) (u := .int .i64 (r)) (some 5) hc
 ·exact ob_e1 (x := .tmp 45) (a := (.tuple #[.int .i64 r, .int .i64 0])) (u := .int .i64 (0)) (some 5) hc
 ·exact ob_cp 6 hc (.inr rfl)
 have v8 : vs 8 = .int .i64 r := hv 8 (by decide)
 simp only [putS, Nat.reduceAdd, Act.put, List.setIfInBounds_toArray, List.set_cons_zero, List.set_cons_succ, v8]
 simp only [kb_] at hK0
 replace I := hK0
 clear hK0 hv hp gl v8
 have hE := I.e
 clear I heq hsq had hsr hfr hat
 go_wp2_with fail
 refine bodyPost_ret (v := .tuple #[.int .i64 0, .int .i64 (r - 1296000000000), .int .i64 0]) ?_ rfl ⟨rfl, hE⟩
 simp [results, Tryz.results9, go_sem, ↓IntWalk.iteOmega]
end Go.Proofs.YtaoioncjmfcolaaGreat
namespace Go.Proofs.YtaoioncjmfcolaaGreat
open Go.RowKit
def PairV (w : World) (v : Value) (x y : Int) : Prop := ∃ s u t z, v = .agg #[.bool s, u, .bool t, z] ∧ Wid w (.agg #[.bool s, u]) x ∧ Wid w (.agg #[.bool t, z]) y
theorem PairV.ext {a w : World} {v : Value} {x y : Int} (h : PairV a v x y) (k : Ext a w) : PairV w v x y := by
 obtain ⟨s, u, t, z, e, h1, h2⟩ := h; exact ⟨s, u, t, z, e, h1.ext k, h2.ext k⟩
def Bx4 (w : World) (g : Nat) : Prop := (∃ a, w.cell? ⟨g, 0, none⟩ = some a) ∧ (∃ a, w.cell? ⟨g, 1, none⟩ = some a) ∧ (∃ a, w.cell? ⟨g, 2, none⟩ = some a) ∧ (∃ a, w.cell? ⟨g, 3, none⟩ = some a) ∧ (∀ o, w.frozen? ⟨g, o, none⟩ = false) ∧ NoU w g ∧ g < w.heap.size
theorem Bx4.ext {g : Nat} {a b : World} (h : Bx4 a g) (k : Ext a b) : Bx4 b g := by
 obtain ⟨⟨x, h1⟩, ⟨y, h2⟩, ⟨z, h3⟩, ⟨u, h4⟩, h5, h6, h7⟩ := h
 exact ⟨⟨x, (k.cells.1 g 0 h7).trans h1⟩, ⟨y, (k.cells.1 g 1 h7).trans h2⟩, ⟨z, (k.cells.1 g 2 h7).trans h3⟩, ⟨u, (k.cells.1 g 3 h7).trans h4⟩, fun o => (k.cells.2 g o h7).trans (h5 o), h6.ext h7 k, Nat.lt_of_lt_of_le h7 k.size⟩
theorem Bx4.fresh (w : World) : Bx4 (w.alloc (.cells #[.bool false, .slice none 0 0, .bool false, .slice none 0 0] 26)) w.heap.size :=
 ⟨⟨.bool false, by simp [go_sem, ↓IntWalk.iteOmega]⟩, ⟨.slice none 0 0, by simp [go_sem, ↓IntWalk.iteOmega]⟩, ⟨.bool false, by simp [go_sem, ↓IntWalk.iteOmega]⟩, ⟨.slice none 0 0, by simp [go_sem, ↓IntWalk.iteOmega]⟩, fun o => by simp [go_sem, ↓IntWalk.iteOmega], NoU.new w _ _ (noU4 (by simp) (by simp) (by simp) (by simp)), by simp⟩
theorem PairV.grown {T : Nat} {a b : World} {v : Value} {x y : Int} (h : PairV a v x y) (hT : NoU a T) (k : GB T a b) : PairV b v x y := by
 obtain ⟨s, u, t, z, e, h1, h2⟩ := h; exact ⟨s, u, t, z, e, h1.grown hT k, h2.grown hT k⟩
def VF.pair (x y : Int) : VF := ⟨fun v w => PairV w v x y, fun _ _ _ h k => h.ext k, fun _ _ _ _ h hT k => h.grown hT k⟩
theorem PairV.open {w : World} {v : Value} {x y : Int} (h : PairV w v x y) : ∃ s ao n cap t bo m cap2, v = .agg #[.bool s, .slice ao n cap, .bool t, .slice bo m cap2] ∧ Wid w (.agg #[.bool s, .slice ao n cap]) x ∧ Wid w (.agg #[.bool t, .slice bo m cap2]) y := by
 obtain ⟨s, u, t, z, rfl, h1, h2⟩ := h
 obtain ⟨s', ao, n, cap, e, k1⟩ := h1.open
 obtain ⟨t', bo, m, cap2, e2, k2⟩ := h2.open
 cases e
 cases e2
 exact ⟨_, _, _, _, _, _, _, _, rfl, k1, k2⟩
structure PatP (w : World) (g : Nat) (x y : Int) : Prop where
 c : ∃ s u t z, w.cell? ⟨g, 0, none⟩ = some (.bool s) ∧ w.cell? ⟨g, 1, none⟩ = some u ∧ w.cell? ⟨g, 2, none⟩ = some (.bool t) ∧ w.cell? ⟨g, 3, none⟩ = some z ∧ Wid w (.agg #[.bool s, u]) x ∧ Wid w (.agg #[.bool t, z]) y
 f : ∀ o, w.frozen? ⟨g, o, none⟩ = false
 n : NoU w g
 lt : g < w.heap.size
theorem PatP.ext {g : Nat} {a b : World} {x y : Int} (h : PatP a g x y) (k : Ext a b) : PatP b g x y := by
 obtain ⟨s, u, t, z, h0, h1, h2, h3, h4, h5⟩ := h.c
 exact ⟨⟨s, u, t, z, (k.cells.1 g 0 h.lt).trans h0, (k.cells.1 g 1 h.lt).trans h1, (k.cells.1 g 2 h.lt).trans h2, (k.cells.1 g 3 h.lt).trans h3, h4.ext k, h5.ext k⟩, fun o => (k.cells.2 g o h.lt).trans (h.f o), h.n.ext h.lt k, Nat.lt_of_lt_of_le h.lt k.size⟩
theorem PatP.grown {T g : Nat} {a b : World} {x y : Int} (h : PatP a g x y) (hT : NoU a T) (k : GB T a b) (hne : g ≠ T) : PatP b g x y := by
 obtain ⟨s, u, t, z, h0, h1, h2, h3, h4, h5⟩ := h.c
 exact ⟨⟨s, u, t, z, (k.cell h.lt hne).trans h0, (k.cell h.lt hne).trans h1, (k.cell h.lt hne).trans h2, (k.cell h.lt hne).trans h3, h4.grown hT k, h5.grown hT k⟩, fun o => (k.frozen h.lt hne).trans (h.f o), h.n.grown k h.lt hne, Nat.lt_of_lt_of_le h.lt k.size⟩
def BF.pat (x y : Int) : BF := ⟨fun g w => PatP w g x y, fun _ _ _ h k => h.ext k, fun _ _ _ _ h hT k hne => h.grown hT k hne, fun _ _ h => h.n, fun _ _ h => h.lt⟩
theorem PatP.bx {g : Nat} {w : World} {x y : Int} (h : PatP w g x y) : Bx4 w g := by
 obtain ⟨s, u, t, z, h0, h1, h2, h3, -⟩ := h.c
 exact ⟨⟨_, h0⟩, ⟨_, h1⟩, ⟨_, h2⟩, ⟨_, h3⟩, h.f, h.n, h.lt⟩
theorem own_bx4 {g : Nat} {w : World} {a b c d : Value} (h : (BF.own [a, b, c, d]).p g w) : Bx4 w g := ⟨⟨_, h.1 0 _ rfl⟩, ⟨_, h.1 1 _ rfl⟩, ⟨_, h.1 2 _ rfl⟩, ⟨_, h.1 3 _ rfl⟩, h.2.1, h.2.2.1, h.2.2.2⟩
theorem Bx4.put {w : World} {g : Nat} {s t : Bool} {ao bo : Option Addr} {n cap m cap2 : Nat} {x y : Int} (h : Bx4 w g) (hw : Wid w (.agg #[.bool s, .slice ao n cap]) x) (hv : Wid w (.agg #[.bool t, .slice bo m cap2]) y) : PatP ((((w.setCell ⟨g, 0, none⟩ (.bool s)).setCell ⟨g, 1, none⟩ (.slice ao n cap)).setCell ⟨g, 2, none⟩ (.bool t)).setCell ⟨g, 3, none⟩ (.slice bo m cap2)) g x y := by
 obtain ⟨⟨a, h1⟩, ⟨b, h2⟩, ⟨c, h3⟩, ⟨d, h4⟩, h5, h6, h7⟩ := h
 have n1 := NoU.set (j := 0) (B' := g) (x := .bool s) h6 (fun z e => by cases e)
 have n2 := NoU.set (j := 1) (B' := g) (x := .slice ao n cap) n1 (fun z e => by cases e)
 have n3 := NoU.set (j := 2) (B' := g) (x := .bool t) n2 (fun z e => by cases e)
 have n4 := NoU.set (j := 3) (B' := g) (x := .slice bo m cap2) n3 (fun z e => by cases e)
 refine ⟨⟨s, .slice ao n cap, t, .slice bo m cap2, ?_, ?_, ?_, ?_, (((hw.box (j := 0) (x := .bool s) h6).box (j := 1) (x := .slice ao n cap) n1).box (j := 2) (x := .bool t) n2).box (j := 3) (x := .slice bo m cap2) n3, (((hv.box (j := 0) (x := .bool s) h6).box (j := 1) (x := .slice ao n cap) n1).box (j := 2) (x := .bool t) n2).box (j := 3) (x := .slice bo m cap2) n3⟩, fun o => by simp only [World.frozen?_setCell]; exact h5 o, n4, by simpa using h7⟩
 ·simp [go_sem, ↓IntWalk.iteOmega, h1]
 ·simp [go_sem, ↓IntWalk.iteOmega, h2]
 ·simp [go_sem, ↓IntWalk.iteOmega, h3]
 ·simp [go_sem, ↓IntWalk.iteOmega, h4]
section
variable {ops : Array Oper} {V : Nat → VF} {B : List BR} {Kp : World → Prop} {a0 : Act} {n0 : Nat} {i : Nat} {o : Oper}
theorem ob_getP0 {x : Operand} (g : Nat) (q r : Int) (p : Option Nat) (hc : ChkP ops a0 B) (hop : o.op = .load 24 x)
    (h : ∀ (vs : Nat → Value) (gs : Nat → Nat) (w : World), Ctx ops V B Kp n0 i o vs gs w → PatP w g q r) (ha : Opd ops V a0 o x (.pointer (some ⟨g, 0, none⟩)) p := by first | exact ⟨fun _ => by kernel_rfl, rfl, by kernel_rfl⟩ | exact fun _ => by kernel_rfl) (hV : (V i).p = (VF.wid q).p := by rfl)
    (hg : Gd ops V o := by first | exact .inl rfl | exact .inr ⟨_, _, rfl, rfl, by kernel_rfl⟩) (hfr : free (B.map BR.key) i = true := by kernel_rfl) : ObI Tryz.prog ops V B Kp a0 n0 i o :=
  ob_val hc (fun vs gs w ρ hr c => by
    obtain ⟨s, u, t, z, e0, e1, e2, e3, e4, e5⟩ := (h vs gs w c).c
    refine ⟨.agg #[.bool s, u], ?_, by rw [hV]; exact e4⟩
    have h5 := ha.get c hr
    obtain ⟨dst, op, ty, pos, af, gd⟩ := o
    dsimp only at hop
    subst hop
    clear h e4 e5 c hr ha
    go_simp) hg hfr
theorem ob_getP2 {x : Operand} (g : Nat) (q r : Int) (p : Option Nat) (hc : ChkP ops a0 B) (hop : o.op = .load 24 x)
    (h : ∀ (vs : Nat → Value) (gs : Nat → Nat) (w : World), Ctx ops V B Kp n0 i o vs gs w → PatP w g q r) (ha : Opd ops V a0 o x (.pointer (some ⟨g, 2, none⟩)) p := by first | exact ⟨fun _ => by kernel_rfl, rfl, by kernel_rfl⟩ | exact fun _ => by kernel_rfl) (hV : (V i).p = (VF.wid r).p := by rfl)
    (hg : Gd ops V o := by first | exact .inl rfl | exact .inr ⟨_, _, rfl, rfl, by kernel_rfl⟩) (hfr : free (B.map BR.key) i = true := by kernel_rfl) : ObI Tryz.prog ops V B Kp a0 n0 i o :=
  ob_val hc (fun vs gs w ρ hr c => by
    obtain ⟨s, u, t, z, e0, e1, e2, e3, e4, e5⟩ := (h vs gs w c).c
    refine ⟨.agg #[.bool t, z], ?_, by rw [hV]; exact e5⟩
    have h5 := ha.get c hr
    obtain ⟨dst, op, ty, pos, af, gd⟩ := o
    dsimp only at hop
    subst hop
    clear h e4 e5 c hr ha
    go_simp) hg hfr
theorem ob_getPP {x : Operand} (g : Nat) (q r : Int) (hc : ChkP ops a0 B) (hop : o.op = .load 26 x)
    (h : ∀ (vs : Nat → Value) (gs : Nat → Nat) (w : World), Ctx ops V B Kp n0 i o vs gs w → PatP w g q r) (hx : ∀ vs, rho ops a0 o vs x = .pointer (some ⟨g, 0, none⟩) := by intro _; kernel_rfl) (hV : (V i).p = (VF.pair q r).p := by rfl)
    (hg : Gd ops V o := by first | exact .inl rfl | exact .inr ⟨_, _, rfl, rfl, by kernel_rfl⟩) (hfr : free (B.map BR.key) i = true := by kernel_rfl) : ObI Tryz.prog ops V B Kp a0 n0 i o :=
  ob_val hc (fun vs gs w ρ hr c => by
    obtain ⟨s, u, t, z, e0, e1, e2, e3, e4, e5⟩ := (h vs gs w c).c
    refine ⟨.agg #[.bool s, u, .bool t, z], ?_, by rw [hV]; exact ⟨s, u, t, z, rfl, e4, e5⟩⟩
    have h5 := (hr x).trans (hx vs)
    obtain ⟨dst, op, ty, pos, af, gd⟩ := o
    dsimp only at hop
    subst hop
    clear h e4 e5 c hr
    go_simp) hg hfr
theorem ob_putP {y z : Operand} {n : Nat} {x : BR} {q r : Int} (hx : B[n]? = some x) (j : Nat) (hc : ChkP ops a0 B) (hop : o.op = .store 26 y z) (m : Nat := 0) (hst : x.st[m]? = some i := by rfl) (hb : x.bf (m + 1) = BF.pat q r := by rfl) (hl : late o x.st m = true := by kernel_rfl)
    (hy : BoxPtr ops V a0 o x 0 y := by first | exact ⟨rfl, fun _ => by kernel_rfl, by kernel_rfl⟩ | exact ⟨none, fun _ => by kernel_rfl⟩)
    (hz : ∀ vs, rho ops a0 o vs z = vs j := by intro _; kernel_rfl) (hj : (needs o).contains j = true := by kernel_rfl) (hVj : (V j).p = (VF.pair q r).p := by rfl) (h4 : ∀ g w, (x.bf m).p g w → Bx4 w g := by first | exact fun _ _ h => own_bx4 h | exact fun _ _ h => PatP.bx h)
    (hV : ∀ v w, (V i).p v w := by exact fun _ _ => trivial) (hg : Gd ops V o := by first | exact .inl rfl | exact .inr ⟨_, _, rfl, rfl, by kernel_rfl⟩) : ObI Tryz.prog ops V B Kp a0 n0 i o :=
  ob_of hc hg fun vs gs w ρ hr c X hX => by
    obtain ⟨h1, hb0⟩ := hy.get c hx hst hl
    have hv := c.v j hj
    rw [hVj] at hv
    have hz' := (hr z).trans (hz vs)
    obtain ⟨s, ao, l, cap, t, bo, k, cap2, e, hw, hw2⟩ := PairV.open (show PairV w (vs j) q r from hv)
    have e1 := (hr y).trans h1
    have e2 := hz'.trans e
    have hs := (h4 _ _ hb0).put hw hw2
    obtain ⟨⟨xa, ea⟩, ⟨xb, eb⟩, ⟨xc, ec⟩, ⟨xd, ed⟩, ef, en, el⟩ := h4 _ _ hb0
    obtain ⟨dst, op, ty, pos, af, gd⟩ := o
    dsimp only at hop
    subst hop
    have e : (execOp ρ { dst := dst, op := .store 26 y z, type := ty, pos := pos, after := af, guard := gd }).run Tryz.prog w = .ok .skip ((((w.setCell ⟨gs n, 0, none⟩ (.bool s)).setCell ⟨gs n, 1, none⟩ (.slice ao l cap)).setCell ⟨gs n, 2, none⟩ (.bool t)).setCell ⟨gs n, 3, none⟩ (.slice bo k cap2)) := by
      clear hs hw hw2 c hX h1 hr hz' hv
      go_simp
    rw [e]
    exact hX.out _ _ (hV _ _) (.store n m x hx hst (((((GB.refl (gs n) w).set _).set _).set _).set _) (by rw [hb]; exact hs))
end
theorem PatP.new {w : World} {s t : Bool} {u z : Value} {x y : Int} (h : Wid w (.agg #[.bool s, u]) x) (k : Wid w (.agg #[.bool t, z]) y) : PatP (w.alloc (.cells #[.bool s, u, .bool t, z] 26)) w.heap.size x y := by
 obtain ⟨s', ao, n, cap, e, hw⟩ := Wid.open h
 obtain ⟨t', bo, m, cap2, e2, hv⟩ := Wid.open k
 cases e
 cases e2
 exact ⟨⟨s, _, t, _, by simp [go_sem], by simp [go_sem], by simp [go_sem], by simp [go_sem], hw.ext ((Ext.refl w).alloc _), hv.ext ((Ext.refl w).alloc _)⟩, fun o => by simp [go_sem], NoU.new w _ _ (noU4 (by simp) (by simp) (by simp) (by simp)), by simp⟩
end Go.Proofs.YtaoioncjmfcolaaGreat
namespace Go.Proofs.YtaoioncjmfcolaaGreat
def ofF (q : Nat) : Nat → Nat → Nat → Nat × Nat
 | 0, r, lo => (r, lo)
 | k + 1, r, lo => if r < q - r then ofF q k (r + r) lo else ofF q k (r - (q - r)) (lo + 2 ^ k)
end Go.Proofs.YtaoioncjmfcolaaGreat
