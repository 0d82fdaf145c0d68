/- trig: the errors of Atan2. -/
import Derived.Test.YtogblocakccbgaaGreatU27
import Derived.Laws.AppendOwnNone
set_option linter.unusedSimpArgs false
set_option linter.unusedVariables false
set_option maxRecDepth 100000
set_option maxHeartbeats 4000000
namespace Go.Proofs.YtogblocakccbgaaGreat
open Go.RowKit
theorem T_TAE_5 {p : Prop} (h : p := by
 exact ob_ld (x := .tmp 30) (g := (w.heap.size + 1)) (f := 1) (u := .slice ax lx cx) (some 3) hc fun vs gs w1 c => c.own 1 1) : p := h
theorem T_TAE_4 {p : Prop} (h : p := by
 exact ob_e1 (x := .tmp 2) (a := .pointer (some ⟨w.heap.size, 0, none⟩)) (u := .pointer (some ⟨w.heap.size, 1, none⟩)) none hc) : p := h
theorem T_TAE_3 {p : Prop} (h : p := by
 exact ob_e1 (x := .tmp 3) (a := .pointer (some ⟨(w.heap.size + 1), 0, none⟩)) (u := .pointer (some ⟨(w.heap.size + 1), 1, none⟩)) none hc) : p := h
theorem T_TAE_2 {p : Prop} (h : p := by
 exact ob_e2 (x := .tmp 29) (y := .tmp 32) (a := (.int .i64 (ly))) (b := (.int .i64 (lx))) (u := .int .i64 (M)) (some 2) (some 5) hc (hs := by intro ρ w1 h k; go_simp; first | done | exact hM)) : p := h
theorem T_TAE_1 {p : Prop} (h : p := by
 go_ret
 exact ⟨rfl, ex_⟩) : p := h
theorem t_atMany (vy vx : Value) (y x : Int) (w : World) (hy : Wid w vy y) (hx : Wid w vx x) (ky : Sz y) (kx : Sz x) (l0 : 16 < (dig y.natAbs).length) :
    Calls Tryz.prog 5 #[vy, vx] w fun e w' => e = .returned (.tuple #[.int .i64 0, .int .i64 4]) ∧ Ext w w' := by
 obtain ⟨sy, ay, ly, cy, rfl, ely⟩ : ∃ sa ao la cap1, vy = .agg #[.bool sa, .slice ao (la : Nat) cap1] ∧ la = (dig (y).natAbs).length := by
  obtain ⟨u, rfl, hu⟩ := hy; obtain ⟨ao, b1, o1, cap1, rfl, -⟩ := hu.view; exact ⟨_, _, _, _, rfl, rfl⟩
 obtain ⟨sx, ax, lx, cx, rfl, elx⟩ : ∃ sa ao la cap1, vx = .agg #[.bool sa, .slice ao (la : Nat) cap1] ∧ la = (dig (x).natAbs).length := by
  obtain ⟨u, rfl, hu⟩ := hx; obtain ⟨ao, b1, o1, cap1, rfl, -⟩ := hu.view; exact ⟨_, _, _, _, rfl, rfl⟩
 have hcky := fun w1 (k1 : Ext w w1) => t_check _ (y) w1 (hy.ext k1) ky
 have hckx := fun w1 (k1 : Ext w w1) => t_check _ (x) w1 (hx.ext k1) kx
 have i0 : ∀ w, (Instr.index 49 (.agg #[.bool sy, .slice ay ly cy, .bool sx, .slice ax lx cx]) (.int .i64 0)).run Tryz.prog w = .ok (.agg #[.bool sy, .slice ay ly cy]) w := fun _ => by kernel_rfl
 have i1 : ∀ w, (Instr.index 49 (.agg #[.bool sy, .slice ay ly cy, .bool sx, .slice ax lx cx]) (.int .i64 1)).run Tryz.prog w = .ok (.agg #[.bool sx, .slice ax lx cx]) w := fun _ => by kernel_rfl
 obtain ⟨M, hM⟩ : ∃ M : Int, max (ly : Int) (lx : Int) = M := ⟨_, rfl⟩
 have hM6 : 16 < M := by rw [← hM]; have := Int.le_max_left (ly : Int) (lx : Int); omega
 have I0 : KBd w [] w := ⟨Ext.refl w, trivial, by simp, by simp⟩
 have I := (I0.new [.bool sy, .slice ay ly cy] 24 (by simp)).new [.bool sx, .slice ax lx cx] 24 (by simp)
 simp only [List.nil_append, World.size_alloc, List.cons_append] at I
 clear I0 ely elx
 go_enter Tryz.func5, Tryz.ntmps5
 go_wp2_with fail
 refine wp_loop_rounds 3 ?_
 rw [rounds_succ]
 go_wp2_with (go_at_call 19; (with_reducible refine (hcky _ ex_).mono ?_); rintro e w1 ⟨rfl, hb1⟩; obtain ⟨_, _, ⟨hc1, hf1⟩, hz1⟩ := hb1.c3; (try simp only [wsz] at hz1 hc1 hf1))
 rw [rounds_succ]
 go_wp2_with (go_at_call 19; (with_reducible refine (hckx _ ex_).mono ?_); rintro e w2 ⟨rfl, hb2⟩; obtain ⟨_, _, ⟨hc2, hf2⟩, hz2⟩ := hb2.c3; (try simp only [wsz] at hz2 hc2 hf2))
 rw [rounds_succ]
 go_upto_region 8 with fail
 refine wp_regB [] [] (fun z_ => ([VF.eq (.pointer (some ⟨w.heap.size, 1, none⟩)), VF.eq (.slice ay ly cy), VF.eq (.int .i64 (ly)), VF.eq (.pointer (some ⟨(w.heap.size + 1), 1, none⟩)), VF.eq (.slice ax lx cx), VF.eq (.int .i64 (lx)), VF.eq (.int .i64 (M)), VF.eq (.bool true)] : List VF).getD z_ VF.any) (KBd.ext I ex_) (fun hc => ⟨?_, ?_, ?_, ?_, ?_, ?_, ?_, ?_, trivial⟩) (fun vs gl W hK0 hv hp => ?_)
 ·exact T_TAE_4
 ·exact b_56
 ·exact b_57
 ·exact T_TAE_3
 ·exact T_TAE_5
 ·exact b_58
 ·exact T_TAE_2
 ·exact ob_e2 (x := .tmp 33) (y := .const (.int .i64 16)) (a := (.int .i64 (M))) (b := .int .i64 16) (u := .bool true) (some 6) none hc (hs := by intro ρ w1 h k; go_simp; first | done | omega | (simp; omega))
 have v7 : vs 7 = .bool true := hv 7 (by decide)
 simp only [putS, Nat.reduceAdd, Act.put, List.setIfInBounds_toArray, List.set_cons_zero, List.set_cons_succ, v7]
 simp only [kb_] at hK0
 replace I := hK0
 clear hK0 hv hp gl v7
 have hE := I.e
 clear I hcky hckx i0 i1
 go_wp2_with fail
 refine bodyPost_ret (v := .tuple #[.int .i64 0, .int .i64 4]) ?_ rfl ⟨rfl, hE⟩
 simp [results, Tryz.results5, go_sem, ↓IntWalk.iteOmega]
theorem t_atZero (vy vx : Value) (w : World) (hy : Wid w vy 0) (hx : Wid w vx 0) :
    Calls Tryz.prog 5 #[vy, vx] w fun e w' => e = .returned (.tuple #[.int .i64 0, .int .i64 18]) ∧ Ext w w' := by
 have hz : Sz 0 := dig_bits (k := 64) (L := 4096) (by decide) (by decide)
 have hd0 : (dig (0 : Int).natAbs).length = 0 := by kernel_rfl
 have hsy : ∀ (w1 : World) (u1 : Value), Wid w1 u1 0 → Calls Tryz.prog 20 #[u1] w1 fun e w' => ∃ u, e = .returned u ∧ u = .int .i64 0 ∧ Ext w1 w' := fun w1 u1 k1 => calls_eq (t_sign u1 _ w1 k1 hz)
 obtain ⟨sy, ay, ly, cy, rfl, ely⟩ : ∃ sa ao la cap1, vy = .agg #[.bool sa, .slice ao (la : Nat) cap1] ∧ la = (dig (0 : Int).natAbs).length := by
  obtain ⟨u, rfl, hu⟩ := hy; obtain ⟨ao, b1, o1, cap1, rfl, -⟩ := hu.view; exact ⟨_, _, _, _, rfl, rfl⟩
 obtain ⟨sx, ax, lx, cx, rfl, elx⟩ : ∃ sa ao la cap1, vx = .agg #[.bool sa, .slice ao (la : Nat) cap1] ∧ la = (dig (0 : Int).natAbs).length := by
  obtain ⟨u, rfl, hu⟩ := hx; obtain ⟨ao, b1, o1, cap1, rfl, -⟩ := hu.view; exact ⟨_, _, _, _, rfl, rfl⟩
 have hcky := fun w1 (k1 : Ext w w1) => t_check _ (0 : Int) w1 (hy.ext k1) hz
 have hckx := fun w1 (k1 : Ext w w1) => t_check _ (0 : Int) w1 (hx.ext k1) hz
 have i0 : ∀ w, (Instr.index 49 (.agg #[.bool sy, .slice ay ly cy, .bool sx, .slice ax lx cx]) (.int .i64 0)).run Tryz.prog w = .ok (.agg #[.bool sy, .slice ay ly cy]) w := fun _ => by kernel_rfl
 have i1 : ∀ w, (Instr.index 49 (.agg #[.bool sy, .slice ay ly cy, .bool sx, .slice ax lx cx]) (.int .i64 1)).run Tryz.prog w = .ok (.agg #[.bool sx, .slice ax lx cx]) w := fun _ => by kernel_rfl
 obtain ⟨M, hM⟩ : ∃ M : Int, max (ly : Int) (lx : Int) = M := ⟨_, rfl⟩
 have hM6 : M ≤ 16 := by rw [← hM, ely, elx, hd0]; decide
 have I0 : KBd w [] w := ⟨Ext.refl w, trivial, by simp, by simp⟩
 have I := (I0.new [.bool sy, .slice ay ly cy] 24 (by simp)).new [.bool sx, .slice ax lx cx] 24 (by simp)
 simp only [List.nil_append, World.size_alloc, List.cons_append] at I
 clear I0 ely elx
 go_enter Tryz.func5, Tryz.ntmps5
 go_wp2_with fail
 refine wp_loop_rounds 3 ?_
 rw [rounds_succ]
 go_wp2_with (go_at_call 19; (with_reducible refine (hcky _ ex_).mono ?_); rintro e w1 ⟨rfl, hb1⟩; obtain ⟨_, _, ⟨hc1, hf1⟩, hz1⟩ := hb1.c3; (try simp only [wsz] at hz1 hc1 hf1))
 rw [rounds_succ]
 go_wp2_with (go_at_call 19; (with_reducible refine (hckx _ ex_).mono ?_); rintro e w2 ⟨rfl, hb2⟩; obtain ⟨_, _, ⟨hc2, hf2⟩, hz2⟩ := hb2.c3; (try simp only [wsz] at hz2 hc2 hf2))
 rw [rounds_succ]
 go_upto_region 8 with fail
 refine wp_regB [] [] (fun z_ => ([VF.eq (.pointer (some ⟨w.heap.size, 1, none⟩)), VF.eq (.slice ay ly cy), VF.eq (.int .i64 (ly)), VF.eq (.pointer (some ⟨(w.heap.size + 1), 1, none⟩)), VF.eq (.slice ax lx cx), VF.eq (.int .i64 (lx)), VF.eq (.int .i64 (M)), VF.eq (.bool false)] : List VF).getD z_ VF.any) (KBd.ext I ex_) (fun hc => ⟨?_, ?_, ?_, ?_, ?_, ?_, ?_, ?_, trivial⟩) (fun vs gl W hK0 hv hp => ?_)
 ·exact T_TAE_4
 ·exact b_56
 ·exact b_57
 ·exact T_TAE_3
 ·exact T_TAE_5
 ·exact b_58
 ·exact T_TAE_2
 ·exact b_59
 have v7 : vs 7 = .bool false := hv 7 (by decide)
 simp only [putS, Nat.reduceAdd, Act.put, List.setIfInBounds_toArray, List.set_cons_zero, List.set_cons_succ, v7]
 simp only [kb_] at hK0
 replace I := hK0
 clear hK0 hv hp gl v7
 go_upto_region 10 with fail
 refine wp_regB [] [] (fun z_ => ([VF.wid (0), VF.eq (.int .i64 (0)), VF.eq (.bool true), VF.eq (.bool true), VF.wid (0), VF.eq (.int .i64 (0)), VF.eq (.bool true), VF.eq (.bool true)] : List VF).getD z_ VF.any) I (fun hc => ⟨?_, ?_, ?_, ?_, ?_, ?_, ?_, ?_, trivial⟩) (fun vs gl W hK0 hv hp => ?_)
 ·exact ob_getW w.heap.size (0) hc rfl fun vs gs w1 c => own_wat (c.b0 0) (hy.ext c.k.1)
 ·exact ob_call (fun v => [v 0]) hc rfl fun vs gs w1 c => hsy _ _ (c.v 0)
 ·exact ob_e2 (x := .tmp 36) (y := .const (.int .i64 0)) (a := (.int .i64 (0))) (b := .int .i64 0) (u := .bool true) (some 1) none hc (hs := by intro ρ w1 h k; go_simp; first | done | rfl)
 ·exact ob_cp 2 hc (.inl rfl)
 ·exact ob_getW (w.heap.size + 1) (0) hc rfl fun vs gs w1 c => own_wat (c.b0 1) (hx.ext c.k.1)
 ·exact ob_call (fun v => [v 4]) hc rfl fun vs gs w1 c => hsy _ _ (c.v 4)
 ·exact ob_e2 (x := .tmp 40) (y := .const (.int .i64 0)) (a := (.int .i64 (0))) (b := .int .i64 0) (u := .bool true) (some 5) none hc (hs := by intro ρ w1 h k; go_simp; first | done | rfl)
 ·exact ob_pickT (some 3) (some 6) hc rfl
 have v7 : vs 7 = .bool true := hv 7 (by decide)
 simp only [putS, Nat.reduceAdd, Act.put, List.setIfInBounds_toArray, List.set_cons_zero, List.set_cons_succ, v7]
 simp only [kb_] at hK0
 replace I := hK0
 clear hK0 hv hp gl v7
 have hE := I.e
 clear I hcky hckx i0 i1 hsy
 go_wp2_with fail
 refine bodyPost_ret (v := .tuple #[.int .i64 0, .int .i64 18]) ?_ rfl ⟨rfl, hE⟩
 simp [results, Tryz.results5, go_sem, ↓IntWalk.iteOmega]
theorem k_bad (n : Nat) (w : World) (hn : n = w.heap.size) :
    Calls Tryz.prog 52 #[.slice (some ⟨n, 0, none⟩) 1 1] (w.alloc (.cells #[.bool true, .slice none 0 0] 24)) fun e w' => e = .returned (.int .i64 8) ∧ Ext (w.alloc (.cells #[.bool true, .slice none 0 0] 24)) w' := by
 subst hn
 go_enter Tryz.func52, Tryz.ntmps52
 go_wp2
 refine wp_loop_rounds 2 ?_
 rw [rounds_succ]
 go_wp2
 exact T_TAE_1
theorem t_checkBad (w : World) : Calls Tryz.prog 19 #[.agg #[.bool true, .slice none 0 0]] w fun e w' => e = .returned (.int .i64 8) ∧ Ext w w' := by
 go_enter Tryz.func19, Tryz.ntmps19
 go_wp2_with (go_at_call 52; (with_reducible refine (k_bad _ _ (by first | rfl | simp)).mono ?_); rintro e w1 ⟨rfl, hb⟩; obtain ⟨_, _, ⟨hc, hf⟩, hz⟩ := hb.c3; (try simp only [wsz] at hz hc hf))
 exact T_TAE_1
theorem t_atBad (vx : Value) (x : Int) (w : World) (hx : Wid w vx x) :
    Calls Tryz.prog 5 #[.agg #[.bool true, .slice none 0 0], vx] w fun e w' => e = .returned (.tuple #[.int .i64 0, .int .i64 8]) ∧ Ext w w' := by
 obtain ⟨sx, ax, lx, cx, rfl⟩ : ∃ sa ao la cap1, vx = .agg #[.bool sa, .slice ao (la : Nat) cap1] := by
  obtain ⟨u, rfl, hu⟩ := hx; obtain ⟨ao, b1, o1, cap1, rfl, -⟩ := hu.view; exact ⟨_, _, _, _, rfl⟩
 have i0 : ∀ w, (Instr.index 49 (.agg #[.bool true, .slice none 0 0, .bool sx, .slice ax lx cx]) (.int .i64 0)).run Tryz.prog w = .ok (.agg #[.bool true, .slice none 0 0]) w := fun _ => by kernel_rfl
 clear hx
 go_enter Tryz.func5, Tryz.ntmps5
 go_wp2_with fail
 refine wp_loop_rounds 3 ?_
 rw [rounds_succ]
 go_wp2_with (go_at_call 19; (with_reducible refine (t_checkBad _).mono ?_); rintro e w1 ⟨rfl, hb1⟩; obtain ⟨_, _, ⟨hc1, hf1⟩, hz1⟩ := hb1.c3; (try simp only [wsz] at hz1 hc1 hf1))
 refine bodyPost_ret (v := .tuple #[.int .i64 0, .int .i64 8]) ?_ rfl ⟨rfl, ?_⟩
 ·simp [results, Tryz.results5, go_sem, ↓IntWalk.iteOmega]
 ·exact b_0
theorem r_trim (v : Value) (xs : List Int) (w : World) (h : Lim w v xs) :
    Calls Tryz.prog 117 #[v] w fun e w' => ∃ u, e = .returned u ∧ Lim w' u (trimL xs) ∧ Ext w w' := by
 have hlb := h.lb
 rcases h.2 with ⟨rfl, rfl⟩ | ⟨b, o, cap, rfl, h1, h2, h3, h4⟩
 ·obtain ⟨i0, hi, hz0, hz1, hz2⟩ := info_parts info81
  have hown : (w.alloc (.cells #[] 25)).ownsRow w.heap.size 25 1 (.slice (some ⟨w.heap.size, 0, none⟩) 0 0) 0 (([] : List Int).map (Value.int .u32)) := World.ownsRow_lit w #[] 0 (Nat.le_refl _) (by decide) rfl
  have hL := Lim.own' hown Lb.nil (by decide)
  go_enter Tryz.func117, Tryz.ntmps117
  go_wp2
  refine wp_loop_rounds 1 ?_
  rw [rounds_succ]
  go_wp2_with (at_builtin; refine wpList_append_own_none rfl _ _ 22 rfl w.heap.size 25 i0 1 Tryz.underlying22 hi _ _ _ rfl hown rfl ?_)
  go_ret
  exact ⟨_, rfl, hL, (Ext.refl w).alloc _⟩
 ·obtain ⟨i0, hi, hz0, hz1, hz2⟩ := info_parts info81
  go_enter Tryz.func117, Tryz.ntmps117
  go_wp2
  go_loop [3] (fun i => ∃ k : Nat, k ≤ xs.length ∧ i = .int .i64 k ∧ trimL (xs.take k) = trimL xs) (fun i => (intOf i).toNat)
  case atStart => exact ⟨xs.length, Nat.le_refl _, rfl, by rw [List.take_length]⟩
  case round =>
   obtain ⟨k, hk, rfl, ht⟩ := hrel
   cases k with
   | zero =>
    have hT : Hid (xs.take 0 = trimL xs) := ht
    clear ht
    have hown : (w.alloc (.cells #[] 25)).ownsRow w.heap.size 25 1 (.slice (some ⟨w.heap.size, 0, none⟩) 0 0) 0 [] := World.ownsRow_lit w #[] 0 (Nat.le_refl _) (by decide) rfl
    have hnews : ∀ j u, ((xs.take 0).map (Value.int .u32))[j]? = some u → (w.alloc (.cells #[] 25)).cell? ((⟨b, o, none⟩ : Addr).add j) = some u := fun j u hu => by simp at hu
    have lT : Lb (xs.take 0) := hlb.take _
    go_wp2_with (at_builtin; refine wpList_append_own _ rfl _ _ 22 rfl w.heap.size 25 i0 (.int .u32 0) 1 4 Tryz.underlying22 hi hz0 hz1 hz2 rfl (by decide) _ _ _ rfl hown ⟨b, o, none⟩ 0 cap ((xs.take 0).map (Value.int .u32)) rfl (by simp) hnews (ints_oneCell .u32 _) c_4 (by omega) (by simp) ?_; intro v' w1 hown' hgrow hnil)
    have hE : Ext w w1 := Below.grown (row := some w.heap.size) ((Ext.refl w).alloc _) hgrow (by simp) (fun k e => by cases e; exact Nat.le_refl _)
    rw [Nat.zero_add, List.nil_append] at hown'
    have hL := Lim.own' hown' lT (by omega)
    go_ret
    exact ⟨_, rfl, hT.out ▸ hL, hE⟩
   | succ k =>
    have hck := h4 k (by omega)
    by_cases h0 : xs.getD k 0 = 0
    ·rw [h0] at hck
     go_wp2
     go_round
     case rel => exact ⟨k, by omega, by go_num, by rw [← ht]; exact (trim_step (by omega) h0).symm⟩
     case measure => simp [intOf]
    ·have hT : Hid (xs.take (k + 1) = trimL xs) := (trim_stop (by omega) h0).symm.trans ht
     clear ht
     have hown : (w.alloc (.cells #[] 25)).ownsRow w.heap.size 25 1 (.slice (some ⟨w.heap.size, 0, none⟩) 0 0) 0 [] := World.ownsRow_lit w #[] 0 (Nat.le_refl _) (by decide) rfl
     have hnews : ∀ j u, ((xs.take (k + 1)).map (Value.int .u32))[j]? = some u → (w.alloc (.cells #[] 25)).cell? ((⟨b, o, none⟩ : Addr).add j) = some u := fun j u hu => by
      rw [List.getElem?_map] at hu
      cases hj : (xs.take (k + 1))[j]? with
      | none => rw [hj] at hu; cases hu
      | some x =>
       rw [hj] at hu
       have hjl : j < (xs.take (k + 1)).length := (List.getElem?_eq_some_iff.1 hj).1
       rw [List.length_take] at hjl
       have := h4 j (by omega)
       have hx : xs.getD j 0 = x := by rw [← take_getD (k := (k + 1)) (by omega), List.getD_eq_getElem?_getD, hj]; rfl
       rw [show (⟨b, o, none⟩ : Addr).add j = ⟨b, o + j, none⟩ from by simp [Addr.add], cell_al, if_neg (by omega), this, hx]
       simpa using hu
     have hlen : (xs.take (k + 1)).length = (k + 1) := by rw [List.length_take]; omega
     have lT : Lb (xs.take (k + 1)) := hlb.take _
     obtain ⟨z, hz⟩ : ∃ z, xs.getD k 0 = z := ⟨_, rfl⟩
     rw [hz] at hck h0
     go_wp2_with (at_builtin; refine wpList_append_own _ rfl _ _ 22 rfl w.heap.size 25 i0 (.int .u32 0) 1 4 Tryz.underlying22 hi hz0 hz1 hz2 rfl (by decide) _ _ _ rfl hown ⟨b, o, none⟩ (k + 1) cap ((xs.take (k + 1)).map (Value.int .u32)) rfl c_6 hnews (ints_oneCell .u32 _) c_4 (by omega) (by simp) ?_; intro v' w1 hown' hgrow hnil)
     have hE : Ext w w1 := Below.grown (row := some w.heap.size) ((Ext.refl w).alloc _) hgrow (by simp) (fun k e => by cases e; exact Nat.le_refl _)
     rw [Nat.zero_add, List.nil_append] at hown'
     have hL := Lim.own' hown' lT (by omega)
     go_ret
     exact ⟨_, rfl, hT.out ▸ hL, hE⟩
theorem own_ext {a w w' : World} {v : Value} {n : Nat} {xs : List Value} (h : Ext a w) (ho : w.ownsRow a.heap.size 25 1 v n xs) (k : w.grownBy w' v.ownBlock) : Ext a w' :=
 Below.grown h k h.size (fun g e => by
  rcases ho.2 with ⟨e1, _⟩ | ⟨g', cap, cur, e1, hb, _⟩
  ·subst e1; cases e
  ·subst e1; simp only [Value.ownBlock] at e; cases e; exact hb)
def A32 (w : World) (base : Nat) (v : Value) (xs : List Int) : Prop := w.ownsRow base 25 1 v xs.length (xs.map (.int .u32))
theorem A32.nil (w : World) (base : Nat) : A32 w base (.slice none 0 0) [] := ⟨rfl, Or.inl ⟨rfl, rfl⟩⟩
theorem A32.snoc {w : World} {base n : Nat} {v : Value} {xs : List Int} {z : Int} (h : w.ownsRow base 25 1 v (n + 1) (xs.map (.int .u32) ++ [.int .u32 z])) (hn : xs.length = n) : A32 w base v (xs ++ [z]) := by
 unfold A32; rw [List.map_append, List.length_append, hn]; exact h
theorem A32.alloc {w : World} {base : Nat} {v : Value} {xs : List Int} (h : A32 w base v xs) (o : Obj) : A32 (w.alloc o) base v xs := World.ownsRow.alloc h o
theorem A32.own {w : World} {base : Nat} {v : Value} {xs : List Int} (h : A32 w base v xs) (h0 : 0 < xs.length) : ∃ g cap, v = .slice (some ⟨g, 0, none⟩) xs.length cap ∧ O32 w base g xs.length cap xs := by
 have h2 := h
 rcases h.2 with ⟨_, e⟩ | ⟨g, cap, cur, e, _⟩
 ·omega
 ·subst e; exact ⟨g, cap, rfl, h2⟩
theorem A32.lim {w : World} {base : Nat} {v : Value} {xs : List Int} (h : A32 w base v xs) (hl : Lb xs) (hn : xs.length ≤ 1099511627776) : Lim w v xs := Lim.own' h hl hn
theorem A32.ext {a w : World} {base : Nat} {v : Value} {xs : List Int} (h : A32 a base v xs) (k : Ext a w) : A32 w base v xs := by
 rcases h.2 with h2 | ⟨g, cap, cur, e1, hb, hg, h3⟩
 ·exact ⟨h.1, Or.inl h2⟩
 ·exact ⟨h.1, Or.inr ⟨g, cap, cur, e1, hb, (k.block g (Array.getElem?_eq_some_iff.1 hg).1).trans hg, h3⟩⟩
theorem r_left (va : Value) (X : List Int) (s : Nat) (w : World) (ha : Lim w va X) (hx : X.length ≤ 100000) (hs : s < 32) :
    Calls Tryz.prog 179 #[va, .int .u64 s] w fun e w' => ∃ g cap zs, e = .returned (.slice (some ⟨g, 0, none⟩) zs.length cap) ∧ O32 w' w.heap.size g zs.length cap zs ∧ Lb zs ∧ val zs = val X * 2 ^ s ∧ zs.length = X.length + 1 ∧ Ext w w' := by
  obtain ⟨aoA, bA, oA, cA, rfl, a1, a2, a3, a4, a5, a6⟩ := ha.view
  have lA := ha.lb
  obtain ⟨i0, hi, hz0, hz1, hz2⟩ := info_parts info81
  have hA0 : A32 w w.heap.size (.slice none 0 0) [] := A32.nil _ _
  go_enter Tryz.func179, Tryz.ntmps179
  go_wp2_with fail
  go_loopw [5, 6, 7] (fun v c i wr => ∃ (j : Nat) (z : Int) (zs : List Int), j ≤ X.length ∧ c = .int .u64 z ∧ i = .int .i64 j ∧ 0 ≤ z ∧ z < 2 ^ s ∧ zs.length = j ∧ Lb zs ∧ val zs + BB ^ j * z = val (X.take j) * 2 ^ s ∧
      Hid (A32 wr w.heap.size v zs) ∧ Hid (Ext w wr)) (fun _ _ i _ => X.length - (intOf i).toNat)
  case atStart => exact ⟨0, 0, [], Nat.zero_le _, rfl, rfl, by decide, Int.pow_pos (by decide), rfl, Lb.nil, by simp [val], hA0, Ext.refl w⟩
  case round =>
    obtain ⟨j, z, zs, hj, rfl, rfl, z0, z1, hzl, hzb, hv, HR, HE⟩ := hrel
    have hsz := HE.out.size
    by_cases hjx : j < X.length
    · have eA := a1 (by omega)
      subst eA
      have hca := (HE.out.cells.1 _ (oA + j) (a4 (by omega))).trans (a5 j hjx)
      have hxk : U32 (X.getD j 0) := lA.getD j
      obtain ⟨x, ex⟩ : ∃ x, X.getD j 0 = x := ⟨_, rfl⟩
      have hq := left_step (D := 0) (by simpa using hv) (by omega) ex
      rw [ex] at hca hxk
      unfold U32 at hxk
      obtain ⟨o1, o2, o3, o4, o5, o6⟩ := or_low s hs x z hxk.1 z0 z1 hxk.2
      simp only [Nat.zero_add, Int.pow_zero, Int.one_mul] at hq
      replace hq : Hid _ := hq
      have hown : (wr.alloc (.cells #[.int .u32 ((z + x * 2 ^ s) % 4294967296)] 25)).ownsRow w.heap.size 25 1 u5 j (zs.map (Value.int .u32)) := by have := HR.out.alloc (.cells #[.int .u32 ((z + x * 2 ^ s) % 4294967296)] 25); unfold A32 at this; rw [hzl] at this; exact this
      clear ex hv a5
      go_wp2_with (at_builtin; refine wpList_append_own _ rfl _ _ 22 rfl w.heap.size 25 i0 (.int .u32 0) 1 4 Tryz.underlying22 hi hz0 hz1 hz2 rfl (by decide) _ _ _ rfl hown ⟨wr.heap.size, 0, none⟩ 1 1 [Value.int .u32 ((z + x * 2 ^ s) % 4294967296)] rfl rfl (cell_one_l _ _ _) c_7 c_4 (by omega) c_6 ?_; intro v' w1 hown1 hgrow1 hnil)
      have hR1 : Hid (A32 w1 w.heap.size v' (zs ++ [(z + x * 2 ^ s) % 4294967296])) := A32.snoc hown1 hzl
      have hE1 : Hid (Ext w w1) := (own_ext (HE.out.alloc _) hown hgrow1 : Ext w w1)
      go_roundw
      case rel => exact ⟨j + 1, _, zs ++ [(z + x * 2 ^ s) % 4294967296], hjx, rfl, by go_num, Int.ediv_nonneg o3 (by decide), Int.ediv_lt_of_lt_mul (by decide) o2, by simp [hzl], hzb.snoc (U32.mod _), hq.out, hR1, hE1⟩
      case measure => simp [intOf]; omega
    · have hjl : j = X.length := by omega
      subst hjl
      have hz32 : z < 4294967296 := by
        have : (2 : Int) ^ s ≤ 2 ^ 32 := two_pow_le (by omega)
        omega
      have hown : (wr.alloc (.cells #[.int .u32 z] 25)).ownsRow w.heap.size 25 1 u5 X.length (zs.map (Value.int .u32)) := by have := HR.out.alloc (.cells #[.int .u32 z] 25); unfold A32 at this; rw [hzl] at this; exact this
      go_wp2_with (at_builtin; refine wpList_append_own _ rfl _ _ 22 rfl w.heap.size 25 i0 (.int .u32 0) 1 4 Tryz.underlying22 hi hz0 hz1 hz2 rfl (by decide) _ _ _ rfl hown ⟨wr.heap.size, 0, none⟩ 1 1 [Value.int .u32 z] rfl rfl (cell_one_l _ _ _) c_7 c_4 (by omega) c_6 ?_; intro v' w1 hown1 hgrow1 hnil)
      have hR1 : A32 w1 w.heap.size v' (zs ++ [z]) := A32.snoc hown1 hzl
      have hE1 : Ext w w1 := own_ext (HE.out.alloc _) hown hgrow1
      obtain ⟨g, cap, rfl, hO⟩ := hR1.own (by simp)
      have hlen : (zs ++ [z]).length = X.length + 1 := by simp [hzl]
      go_ret
      refine ⟨g, cap, zs ++ [z], rfl, hO, hzb.snoc ⟨z0, hz32⟩, ?_, hlen, hE1⟩
      rw [left_end _ hzl, hv, List.take_length]
theorem r_madeN (v : Value) (xs : List Int) (m : Nat) (w : World) (h : Lim w v xs) (hm : val xs = m) (hl : (dig m).length ≤ 4096) :
    Calls Tryz.prog 59 #[.bool false, v] w fun e w' => ∃ u, e = .returned (.tuple #[.agg #[.bool false, u], .int .i64 0]) ∧ Lim w' u (dig m) ∧ Ext w w' := by
 have ht := trim_dig h.lb hm
 have hk := fun w1 (k : Ext w w1) => r_trim v xs w1 (h.ext k)
 rw [ht] at hk
 clear ht hm
 generalize hd : dig m = ds at hk hl
 go_enter Tryz.func59, Tryz.ntmps59
 go_wp2_with (go_at_call 117; (with_reducible refine (hk _ ex_).mono ?_); rintro e w1 ⟨u, rfl, hu, hb⟩; obtain ⟨ao, b1, o1, cap1, rfl, v1, v2, v3, v4, v5, v6⟩ := hu.view; obtain ⟨_, _, ⟨hc, hf⟩, hz⟩ := hb.c3; (try simp only [wsz] at hz hc hf))
 have hB : NoU w1 w.heap.size := (NoU.new w _ _ (noU2 (by simp) (by simp))).ext (by simp) hb
 refine bodyPost_ret (v := .tuple #[.agg #[.bool false, .slice ao ds.length cap1], .int .i64 0]) ?_ rfl ⟨_, rfl, ?_, ?_⟩
 ·exact b_62
 ·exact b_9
 ·exact b_0
theorem r_From (n : Nat) (w : World) (hn : n < 9223372036854775808) :
    Calls Tryz.prog 23 #[.int .i64 n] w fun e w' => ∃ u, e = .returned u ∧ Nn w' u n ∧ Ext w w' := by
 have hlt : ¬ ((n : Int) < 0) := by omega
 have hd : decide ((n : Int) < 0) = false := decide_eq_false hlt
 have hL := lim_two (w.alloc (.cells #[.bool false, .slice none 0 0] 24)) ((n : Int) % 4294967296) ((n : Int) / 4294967296) c_19 c_19
 rw [World.size_alloc] at hL
 have hv : val [(n : Int) % 4294967296, (n : Int) / 4294967296] = n := by simp only [val]; unfold BB; omega
 go_enter Tryz.func23, Tryz.ntmps23
 go_wp2_with (go_at_call 59; (with_reducible refine (r_madeN _ _ n _ hL hv (dig_len2 hn)).mono ?_); rintro e w1 ⟨s, rfl, hs, hb⟩; obtain ⟨ao, b1, o1, cap1, rfl, v1, v2, v3, v4, v5, v6⟩ := hs.view; obtain ⟨_, _, ⟨hc, hf⟩, hz⟩ := hb.c3; (try simp only [wsz] at hz hc hf))
 have hB : NoU w1 w.heap.size := ((NoU.new w _ _ (noU2 (by simp) (by simp))).alloc (by simp) _ _).ext c_6 hb
 refine bodyPost_ret (v := .agg #[.bool false, .slice ao (dig n).length cap1]) ?_ rfl ⟨_, rfl, ⟨_, rfl, ?_⟩, ?_⟩
 ·simp [results, Tryz.results23, go_sem, ↓IntWalk.iteOmega, *]
 ·have hB3 := hB.alloc (c := #[.bool false, .slice ao (dig n).length cap1]) (t := 24) (by omega)
  exact Lim.box (Lim.box (hs.alloc _) hB3) (NoU.set hB3 (fun z e => by cases e))
 ·exact b_0
theorem T_RA_1 {p : Prop} (h : p := by
 go_enter Tryz.func129, Tryz.ntmps129
 go_wp2_with fail
 go_ret
 exact ⟨rfl, ex_⟩) : p := h
theorem r_Check (v : Value) (m : Nat) (w : World) (h : Nn w v m) (hs : Small m) :
    Calls Tryz.prog 129 #[v] w fun e w' => e = .returned (.int .i64 0) ∧ Ext w w' := by
 obtain ⟨u, rfl, h3⟩ := h
 obtain ⟨ao, b1, o1, cap1, rfl, v1, v2, v3, v4, v5, v6⟩ := h3.view
 unfold Small at hs
 have hln := last_ne (m := m)
 generalize dig m = ds at *
 rcases Nat.eq_zero_or_pos ds.length with h0 | h0
 ·clear v1 v4 v5
  rw [h0]
  exact T_RA_1
 ·have e := v1 h0
  subst e
  have hlw := v4 h0
  obtain ⟨q, eq⟩ : ∃ q, ds.length = q + 1 := ⟨ds.length - 1, by omega⟩
  have hl := v5 q (by omega)
  replace hln := hln h0
  rw [eq, Nat.add_sub_cancel] at hln
  obtain ⟨z, ez⟩ : ∃ z, ds.getD q 0 = z := ⟨_, rfl⟩
  rw [ez] at hl hln
  rw [eq] at hs ⊢
  have z1 : (z == 0) = false := by simpa using hln
  have z2 : decide ((4096 : Int) < (q : Int) + 1) = false := decide_eq_false (by omega)
  have z3 : ((q : Int) + 1 == 0) = false := by simp; omega
  clear v5 v6 v4 v1 h3 v2 eq ez
  exact T_RA_1
theorem r_times (va vb : Value) (X Y : List Int) (w : World) (ha : Lim w va X) (hb : Lim w vb Y) (hx : X.length ≤ 100000 ∧ Y.length ≤ 100000) :
    Calls Tryz.prog 185 #[va, vb] w fun e w' => ∃ u zs, e = .returned u ∧ Lim w' u zs ∧ val zs = val X * val Y ∧ Ext w w' := by
  obtain ⟨aoA, bA, oA, cA, rfl, a1, a2, a3, a4, a5, a6⟩ := ha.view
  obtain ⟨aoB, bB, oB, cB, rfl, b1, b2, b3, b4, b5, b6⟩ := hb.view
  have lA := ha.lb
  have lB := hb.lb
  obtain ⟨i0, hi, hz0, hz1, hz2⟩ := info_parts info81
  go_enter Tryz.func185, Tryz.ntmps185
  go_wp2_with (at_make; refine wpList_make_full _ rfl _ _ 22 rfl w.heap.size 25 i0 (.int .u32 0) 1 Tryz.underlying22 hi hz0 hz1 .i64 .i64 _ _ (X.length + Y.length) rfl rfl (by omega) (by omega) c_11 c_4 (Nat.le_refl _) ?_; intro w0 hown0 hgrow0)
  have hR0 : R32 w0 w.heap.size w.heap.size (X.length + Y.length) (List.replicate (X.length + Y.length) 0) := R32.made hown0
  have hE0 : Ext w w0 := Ext.grown (Ext.refl w) hgrow0
  clear hown0 hgrow0
  have he0 : List.replicate Y.length (0 : Int) ++ List.replicate (X.length - 0) 0 = List.replicate (X.length + Y.length) 0 := by rw [Nat.sub_zero, List.replicate_append_replicate, Nat.add_comm]
  go_loopw [6] (fun j wr => ∃ (i : Nat) (us : List Int), i ≤ X.length ∧ j = .int .i64 i ∧ us.length = i + Y.length ∧ Hid (Lb us) ∧ Hid (val us = val (X.take i) * val Y) ∧
      Hid (R32 wr w.heap.size w.heap.size (X.length + Y.length) (us ++ List.replicate (X.length - i) 0)) ∧ Hid (Ext w wr)) (fun j _ => X.length - (intOf j).toNat)
  case atStart => exact ⟨0, List.replicate Y.length 0, Nat.zero_le _, rfl, by simp, (fun x hx => by rw [List.eq_of_mem_replicate hx]; exact ⟨by decide, by decide⟩ : Lb _), (by rw [val_zeros]; simp [val] : _ = _), (by rw [he0]; exact hR0 : R32 ..), hE0⟩
  case round =>
    obtain ⟨i, us, hil, rfl, hul, HB, HV, HR, HE⟩ := hrel
    by_cases hix : i < X.length
    · have eA := a1 (by omega)
      subst eA
      have hca := (HE.out.cells.1 _ (oA + i) (a4 (by omega))).trans (a5 i hix)
      have hxk : U32 (X.getD i 0) := lA.getD i
      obtain ⟨x, ex⟩ : ∃ x, X.getD i 0 = x := ⟨_, rfl⟩
      rw [ex] at hca hxk
      go_wp2_with fail
      go_loopw [7, 8] (fun q j wi => ∃ (k : Nat) (c : Int) (ps : List Int), k ≤ Y.length ∧ q = .int .u64 c ∧ j = .int .i64 k ∧ 0 ≤ c ∧ c < 4294967296 ∧ ps.length = i + k ∧ Hid (Lb ps) ∧ Hid (val ps + BB ^ (i + k) * c = val (us.take (i + k)) + BB ^ i * (x * val (Y.take k))) ∧
          Hid (R32 wi w.heap.size w.heap.size (X.length + Y.length) (ps ++ (us.drop (i + k) ++ List.replicate (X.length - i) 0))) ∧ Hid (Ext w wi)) (fun _ j _ => Y.length - (intOf j).toNat)
      case atStart => exact ⟨0, 0, us.take i, Nat.zero_le _, rfl, rfl, by decide, by decide, by rw [List.length_take]; omega, HB.out.take _, (by simp [val] : _ = _), (by rw [Nat.add_zero, ← List.append_assoc, List.take_append_drop]; exact HR.out : R32 ..), HE⟩
      case round =>
        obtain ⟨k, c, ps, hky, rfl, rfl, c0, c1, hpl, PB, PV, PR, PE⟩ := hrel
        have hg := PR.out.cell (k := i + k)
        rw [row_get hpl] at hg
        have hgf := PR.out.frozen (i + k)
        have hglt := PR.out.lt
        by_cases hk : k < Y.length
        · have eB := b1 (by omega)
          subst eB
          have hcb := (PE.out.cells.1 _ (oB + k) (b4 (by omega))).trans (b5 k hk)
          have hyk : U32 (Y.getD k 0) := lB.getD k
          have hok : U32 (us.getD (i + k) 0) := HB.out.getD (i + k)
          replace hg := hg (by omega)
          have hcx := (PE.out.cells.1 _ (oA + i) (a4 (by omega))).trans (a5 i hix)
          rw [ex] at hcx
          obtain ⟨y, ey⟩ : ∃ y, Y.getD k 0 = y := ⟨_, rfl⟩
          obtain ⟨o, eo⟩ : ∃ o, us.getD (i + k) 0 = o := ⟨_, rfl⟩
          have hs := inner_step PV.out hpl ey eo
          rw [ey] at hcb hyk
          rw [eo] at hg hok
          have hpb := prod_bound hxk hyk
          have hnx : 0 ≤ (c + (x * y + o)) / 4294967296 ∧ (c + (x * y + o)) / 4294967296 < 4294967296 := by unfold U32 at hok; omega
          replace hs : Hid _ := hs
          have hw1 : IntKind.u64.wrap x = x := u64_small hxk.1 (by unfold U32 at hxk; omega)
          have hw2 : IntKind.u64.wrap y = y := u64_small hyk.1 (by unfold U32 at hyk; omega)
          have hw3 : IntKind.u64.wrap (x * y) = x * y := u64_small hpb.1 (by omega)
          unfold U32 at hok
          have hw4 : IntKind.u64.wrap (x * y + o) = x * y + o := u64_small (by omega) (by omega)
          have hw5 : IntKind.u64.wrap (c + (x * y + o)) = c + (x * y + o) := u64_small (by omega) (by omega)
          clear ey eo a5 b5
          go_wp2_with fail
          go_quiet (fail)
          have PRd : R32 (wr.drewN nq) w.heap.size w.heap.size (X.length + Y.length) (ps ++ (us.drop (i + k) ++ List.replicate (X.length - i) 0)) := PR.out
          have PEd : Ext w (wr.drewN nq) := PE.out.drewN nq
          have hst := PRd.set (i + k) ((c + (x * y + o)) % 4294967296)
          rw [row_set hpl (by omega)] at hst
          have hes : Ext w ((wr.drewN nq).setCell ⟨w.heap.size, i + k, none⟩ (.int .u32 ((c + (x * y + o)) % 4294967296))) := PEd.setCell (p := ⟨w.heap.size, i + k, none⟩) (Nat.le_refl _) _
          replace hst : Hid _ := hst
          replace hes : Hid _ := hes
          clear PRd PEd
          go_wp2_with fail
          go_roundw
          case rel => exact ⟨k + 1, _, _, hk, rfl, by go_num, hnx.1, hnx.2, by simp [hpl]; omega, (PB.out.snoc (U32.mod _) : Lb _), hs, hst, hes⟩
          case measure => simp [intOf]; omega
        · have hkl : k = Y.length := by omega
          subst hkl
          have hu : U32 c := ⟨c0, c1⟩
          have hv := outer_step PV.out hpl hul HV.out ex
          have hst := PR.out
          rw [List.drop_eq_nil_of_le (by omega), List.nil_append, show X.length - i = X.length + Y.length - (i + Y.length) from by omega] at hst
          replace hst := hst.step hpl (by omega) c
          rw [show X.length + Y.length - (i + Y.length + 1) = X.length - (i + 1) from by omega] at hst
          have hes : Ext w (wr.setCell ⟨w.heap.size, i + Y.length, none⟩ (.int .u32 c)) := PE.out.setCell (p := ⟨w.heap.size, i + Y.length, none⟩) (Nat.le_refl _) _
          replace hg := hg (by omega)
          have hps := PB.out.snoc hu
          replace hst : Hid _ := hst
          replace hes : Hid _ := hes
          replace hv : Hid _ := hv
          replace hps : Hid (Lb _) := hps
          clear a5 b5
          go_wp2_with fail
          go_roundw
          case rel => exact ⟨i + 1, ps ++ [c], hix, by go_num, by simp [hpl]; omega, hps, hv, hst, hes⟩
          case measure => simp [intOf]; omega
    · have hil2 : i = X.length := by omega
      subst hil2
      have hst := HR.out
      rw [Nat.sub_self, List.replicate_zero, List.append_nil] at hst
      have hv := HV.out
      rw [List.take_length] at hv
      replace hst : Hid _ := hst
      replace hv : Hid _ := hv
      go_wp2_with fail
      go_ret
      exact ⟨_, us, rfl, R32.lim hst.out HB.out (by omega), hv.out, HE.out⟩
theorem r_both (va vb : Value) (m k : Nat) (w : World) (ha : Nn w va m) (hb0 : Nn w vb k) (hs : Small m) (hs2 : Small k) :
    Calls Tryz.prog 183 #[va, vb] w fun e w' => e = .returned (.int .i64 0) ∧ Ext w w' := by
 obtain ⟨u, rfl, hu⟩ := ha
 obtain ⟨s, rfl, hv⟩ := hb0
 obtain ⟨ao, b1, o1, cap1, rfl, -⟩ := hu.view
 obtain ⟨bo, b2, o2, cap2, rfl, -⟩ := hv.view
 have h1 := fun w1 (k1 : Ext w w1) => r_Check (.agg #[.bool false, .slice ao (dig m).length cap1]) m w1 ⟨_, rfl, hu.ext k1⟩ hs
 have h2 := fun w1 (k1 : Ext w w1) => r_Check (.agg #[.bool false, .slice bo (dig k).length cap2]) k w1 ⟨_, rfl, hv.ext k1⟩ hs2
 go_enter Tryz.func183, Tryz.ntmps183
 go_upto_region 3 with (go_at_call 129; (with_reducible refine (h1 _ ex_).mono ?_); rintro e w1 ⟨rfl, hb⟩; obtain ⟨_, _, ⟨hc, hf⟩, hz⟩ := hb.c3; (try simp only [wsz] at hz hc hf))
 go_wp2_with (go_at_call 129; (with_reducible refine (h2 _ ex_).mono ?_); rintro e w2 ⟨rfl, hb2⟩)
 go_ret
 exact ⟨rfl, ex_⟩
theorem r_Mul (va vb : Value) (m k : Nat) (w : World) (ha : Nn w va m) (hb0 : Nn w vb k) (hs : Small m) (hs2 : Small k) (hs3 : Small (m * k)) :
    Calls Tryz.prog 135 #[va, vb] w fun e w' => ∃ u, e = .returned (.tuple #[u, .int .i64 0]) ∧ Nn w' u (m * k) ∧ Ext w w' := by
 obtain ⟨u, rfl, hu⟩ := ha
 obtain ⟨s, rfl, hv⟩ := hb0
 obtain ⟨ao, b1, o1, cap1, rfl, v1, v2, v3, v4, v5, v6⟩ := hu.view
 obtain ⟨bo, b2, o2, cap2, rfl, y1, y2, y3, y4, y5, y6⟩ := hv.view
 have hlen : (dig m).length ≤ 100000 ∧ (dig k).length ≤ 100000 := by unfold Small at hs hs2; omega
 obtain ⟨W3, hW3⟩ : ∃ W3, ((w.alloc (.cells #[.bool false, .slice ao (dig m).length cap1] 24)).alloc (.cells #[.bool false, .slice bo (dig k).length cap2] 24)).alloc (.cells #[.bool false, .slice none 0 0] 24) = W3 := ⟨_, rfl⟩
 have hWs : W3.heap.size = w.heap.size + 1 + 1 + 1 := by rw [← hW3]; simp
 have hEW : Ext w W3 := by rw [← hW3]; exact (((Ext.refl w).alloc _).alloc _).alloc _
 have hS : BX w (w.heap.size + 1 + 1) [(w.heap.size, 0, .bool false), (w.heap.size, 1, .slice ao (dig m).length cap1), (w.heap.size + 1, 0, .bool false), (w.heap.size + 1, 1, .slice bo (dig k).length cap2)] W3 := by
  rw [← hW3]
  refine ⟨hW3 ▸ hEW, ?_, ?_, ?_, ?_, ?_, by simp⟩
  ·intro p hp
   simp only [List.mem_cons, List.mem_nil_iff, or_false] at hp
   rcases hp with rfl | rfl | rfl | rfl <;> simp [go_sem, ↓IntWalk.iteOmega]
  ·exact b_1
  ·exact b_2
  ·exact b_3
  ·have := NoU.new ((w.alloc (.cells #[.bool false, .slice ao (dig m).length cap1] 24)).alloc (.cells #[.bool false, .slice bo (dig k).length cap2] 24)) #[.bool false, .slice none 0 0] 24 (noU2 (by simp) (by simp))
   simpa using this
 have hLn : ∀ p ∈ ([(w.heap.size, 0, .bool false), (w.heap.size, 1, .slice ao (dig m).length cap1), (w.heap.size + 1, 0, .bool false), (w.heap.size + 1, 1, .slice bo (dig k).length cap2)] : List (Nat × Nat × Value)), p.1 ≠ w.heap.size + 1 + 1 := by
  intro p hp
  simp only [List.mem_cons, List.mem_nil_iff, or_false] at hp
  rcases hp with rfl | rfl | rfl | rfl <;> (dsimp only; omega)
 have nA : Nn W3 (.agg #[.bool false, .slice ao (dig m).length cap1]) m := ⟨_, rfl, hu.ext hEW⟩
 have nB : Nn W3 (.agg #[.bool false, .slice bo (dig k).length cap2]) k := ⟨_, rfl, hv.ext hEW⟩
 have hbo := r_both _ _ m k W3 nA nB hs hs2
 clear nA nB
 subst hW3
 clear v1 v4 v5 y1 y4 y5 hWs
 go_enter Tryz.func135, Tryz.ntmps135
 have hs4 : (dig (m * k)).length ≤ 4096 := hs3
 go_upto_region 3 with (go_at_call 183; (with_reducible refine hbo.mono ?_); rintro e w1 ⟨rfl, hb⟩)
 have hS0 := hS.ext hb
 clear hS hb
 refine wp_region_held_drew (S := (fun w0 => BX w (w.heap.size + 1 + 1) [(w.heap.size, 0, .bool false), (w.heap.size, 1, .slice ao (dig m).length cap1), (w.heap.size + 1, 0, .bool false), (w.heap.size + 1, 1, .slice bo (dig k).length cap2)] w0)) c_2 ?_ (fun hH => ?_)
 ·exact hS0.drew
 try simp only [sx_]
 refine sK 0 ?_
 refine tk 1 rfl c_0 ?_
 try simp only [sx_]
 refine sK 2 ?_
 refine tk 3 rfl c_0 ?_
 try simp only [sx_]
 refine sK 4 ?_
 refine sK 5 ?_
 refine tk 6 rfl c_0 ?_
 try simp only [sx_]
 refine sK 7 ?_
 refine tk 8 rfl c_0 ?_
 try simp only [sx_]
 refine rh1 9 rfl fun K hK => ?_
 go_simp
 (go_at_call 185; (with_reducible refine (r_times _ _ _ _ _ (hu.ext hH.base) (hv.ext hH.base) hlen).mono ?_); rintro e t2 ⟨s2, zs, rfl, hz2, hval, hx2⟩; obtain ⟨ao2, bb2, oo2, cc2, rfl, _⟩ := hz2.view)
 have hv2 : val zs = (((m * k) : Nat) : Int) := by rw [hval, dig_val, dig_val]; exact (Int.natCast_mul m k).symm
 refine hK.out _ _ ?_ fun _ => ?_
 ·exact b_5
 clear hK K hH
 rename_i hH
 try simp only [sx_]
 refine rh1 10 rfl fun K hK => ?_
 go_simp
 (go_at_call 59; (with_reducible refine (r_madeN _ _ (m * k) _ hz2 hv2 hs4).mono ?_); rintro e t3 ⟨s3, rfl, hz3, hx3⟩; obtain ⟨ao3, bb3, oo3, cc3, rfl, _⟩ := hz3.view)
 refine hK.out _ _ ?_ fun _ => ?_
 ·exact b_4
 clear hK K hH
 rename_i hH
 try simp only [sx_]
 refine sK 11 ?_
 refine sK 12 ?_
 refine rh1 13 rfl fun K hK => ?_
 obtain ⟨⟨xa, h3a⟩, ⟨xb, h3b⟩, h3f, hnu, hsl⟩ := hH.box
 go_simp
 refine hK.out _ _ ?_ fun _ => ?_
 ·exact b_8
 clear hK K hH
 rename_i hH
 try simp only [sx_]
 refine sK 14 ?_
 refine wpAnyH_done c_2 ?_ _
 go_wp2_with fail
 refine bodyPost_ret (v := .tuple #[.agg #[.bool false, .slice ao3 (dig (m * k)).length cc3], .int .i64 0]) ?_ rfl ⟨_, rfl, ⟨_, rfl, ?_⟩, ?_⟩
 ·simp [results, Tryz.results135, go_sem, ↓IntWalk.iteOmega, h3a, h3b]
 ·exact b_63
 ·exact hH.base
end Go.Proofs.YtogblocakccbgaaGreat
