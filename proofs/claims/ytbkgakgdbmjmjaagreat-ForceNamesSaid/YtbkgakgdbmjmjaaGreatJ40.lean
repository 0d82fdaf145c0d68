/- law34.ForceNames: its ephemerides and its answers, in plain numbers. -/
import Derived.Test.YtbkgakgdbmjmjaaGreatJ39
import Derived.Test.YtbkgakgdbmjmjaaGreatJ32
import Derived.Test.YtbkgakgdbmjmjaaGreatRows
set_option linter.unusedSimpArgs false
set_option linter.unusedVariables false
set_option maxRecDepth 100000
set_option maxHeartbeats 4000000
namespace Go.Proofs.YtbkgakgdbmjmjaaGreat
open Go.RowKit
theorem T_FNP_1 {p : Prop} (h : p := by
 unfold acR; rw [h]
 show (if (ac0 fnAt).e ≠ 0 then _ else _) = _
 rw [show acN fnAt [] (ac0 fnAt) = ac0 fnAt from rfl, fn_ac0]; rfl) : p := h
def fnAt : V3 := ⟨1099511627776, 1099511627776, 0, 0, 0, 0⟩
def fnFive : V3 := ⟨5497558138880, 5497558138880, 0, 0, 0, 0⟩
theorem fn_cs {x : Int} (h1 : -1125899906842624 ≤ x) (h2 : x ≤ 1125899906842624) : CsOk [x] := ⟨Nat.zero_lt_one, one_lt (P := fun k => -1125899906842624 ≤ cN [x] k ∧ cN [x] k ≤ 1125899906842624) ⟨h1, h2⟩⟩
theorem fn_sg : SgOk fnSeg := ⟨by decide, by decide, by decide, fn_cs (by decide) (by decide), fn_cs (by decide) (by decide), fn_cs (by decide) (by decide)⟩
theorem fn_not (l : List BodyD) (h0 : l.length ≤ 1) (h1 : (bd l 0).segs.length ≤ 1) (h2 : ¬ ManyS (sgA (bd l 0) 0)) : ¬ Many l := by
 rintro (h | ⟨k, hk, h | ⟨j, hj, h⟩⟩)
 ·omega
 ·have : k = 0 := by omega
  subst this; omega
 ·have : k = 0 := by omega
  subst this
  have : j = 0 := by omega
  subst this
  exact h2 h
theorem fn_ck0 : CkE [] 0 := ⟨fun h => absurd h (fn_not [] (by decide) (by decide) (by unfold ManyS; decide)), fun _ _ => rfl, fun _ h => absurd ⟨fun k hk => absurd hk (Nat.not_lt_zero _), fun i k _ hk => absurd hk (Nat.not_lt_zero _)⟩ h⟩
theorem fn_sml0 : Sml [] := ⟨by decide, fun i hi => absurd hi (Nat.not_lt_zero _)⟩
theorem fn_ckZ : CkE [body0] 8 := ⟨fun h => absurd h (fn_not [body0] (by decide) (by decide) (by unfold ManyS; decide)), fun _ h => absurd (h.1 0 (by decide)).2.2.2.2.2.1 (by decide), fun _ _ => rfl⟩
theorem fn_bd {g : Int} (h0 : 0 ≤ g) (h1 : g ≤ 1) : BdOk (fnBd g) := ⟨(show NmOk ⟨#[97]⟩ from by unfold NmOk; decide), h0, by show g ≤ _; omega, by show (0 : Int) ≤ 0; omega, by show (0 : Int) ≤ _; omega, Nat.zero_lt_one, one_lt (P := fun k => SgOk (sgA (fnBd g) k)) fn_sg, fun k hk => absurd hk (by show ¬ k + 1 < 1; omega)⟩
theorem fn_ckB {g : Int} (h0 : 0 ≤ g) (h1 : g ≤ 1) : CkE (fnB g) 0 := ⟨fun h => absurd h (fn_not (fnB g) (Nat.le_refl _) (Nat.le_refl _) (by show ¬ (16 < 1 ∨ 16 < 1 ∨ 16 < 1); decide)), fun _ _ => rfl, fun _ h => absurd ⟨one_lt (P := fun k => BdOk (bd (fnB g) k)) (fn_bd h0 h1), fun i k h hk => by have : k < 1 := hk; omega⟩ h⟩
theorem fn_smlB (g : Int) : Sml (fnB g) := ⟨by show 1 ≤ 4; omega, one_lt (P := fun i => (bd (fnB g) i).segs.length ≤ 4 ∧ ∀ k, k < (bd (fnB g) i).segs.length → (sgA (bd (fnB g) i) k).c0.length ≤ 6 ∧ (sgA (bd (fnB g) i) k).c1.length ≤ 6 ∧ (sgA (bd (fnB g) i) k).c2.length ≤ 6) ⟨by show 1 ≤ 4; omega, one_lt (P := fun k => (sgA (fnBd g) k).c0.length ≤ 6 ∧ (sgA (fnBd g) k).c1.length ≤ 6 ∧ (sgA (fnBd g) k).c2.length ≤ 6) ⟨by show 1 ≤ 6; omega, by show 1 ≤ 6; omega, by show 1 ≤ 6; omega⟩⟩⟩
/-! The answers. -/
theorem fn_ac0 : ac0 fnAt = ⟨⟨-325358914, -325358913, 0, 0, 0, 0⟩, 0⟩ := by unfold ac0; rw [plR_c]; kernel_rfl
theorem fn_open : nz (plR 0 1 1 V3.O).e = true := by rw [plR_c]; kernel_rfl
theorem fn_acA : acR 0 [] 1 0 fnAt = ⟨V3.O, 2⟩ := by
 have h : gaR 0 [] 1 0 fnAt = ([], 2) := by kernel_rfl
 unfold acR; rw [h]; rfl
theorem fn_acZ : acR 8 [body0] 0 0 fnAt = ⟨V3.O, 8⟩ := by
 have h : gaR 8 [body0] 0 0 fnAt = ([], 8) := by kernel_rfl
 unfold acR; rw [h]; rfl
theorem fn_acR : acR 0 (fnB 1) 0 2 fnAt = ⟨V3.O, 16⟩ := by
 have h : gaR 0 (fnB 1) 0 2 fnAt = ([], 16) := by kernel_rfl
 unfold acR; rw [h]; rfl
theorem fn_acS : acR 0 (fnB 0) 0 2 fnAt = ⟨⟨-325358914, -325358913, 0, 0, 0, 0⟩, 0⟩ := by
 have h : gaR 0 (fnB 0) 0 2 fnAt = ([], 0) := by kernel_rfl
 exact T_FNP_1
theorem fn_acO : acR 0 [] 0 0 fnAt = ⟨⟨-325358914, -325358913, 0, 0, 0, 0⟩, 0⟩ := by
 have h : gaR 0 [] 0 0 fnAt = ([], 0) := by kernel_rfl
 exact T_FNP_1
end Go.Proofs.YtbkgakgdbmjmjaaGreat
theorem T_PUE_1 {p : Prop} (h : p := by
 refine bodyPost_ret (v := .int .i64 8) ?_ rfl ⟨rfl, ?_⟩
 ·(try simp only [bn_, bm_] at *)
  simp [results, Tryz.results59, go_sem, ↓IntWalk.iteOmega, *]
 ·repeat (first | with_reducible exact Ext.refl _ | with_reducible assumption | with_reducible refine Ext.alloc ?_ _ | with_reducible refine Ext.setCell ?_ c_22 _ | with_reducible refine Ext.drewN ?_ _ | with_reducible refine Ext.drew ?_ | with_reducible refine Ext.trans ?_ c_12)) : p := h
set_option linter.unusedSimpArgs false
set_option linter.unusedVariables false
namespace Go.Proofs.YtbkgakgdbmjmjaaGreat
open Go.RowKit
theorem f_lk1 (x y : Int) (d : V3) (w : World) (h1 : ckI x y = 8) :
    Calls Tryz.prog 59 #[.agg #[.int .i64 x, .int .i64 y], .agg #[.int .i64 d.a, .int .i64 d.b, .int .i64 d.c, .int .i64 d.d, .int .i64 d.e, .int .i64 d.f]] w fun e w' => e = .returned (.int .i64 8) ∧ Ext w w' := by
 have hk1 := fun w1 => s_check1 x y w1
 rw [h1] at hk1
 go_enter Tryz.func59, Tryz.ntmps59
 go_wp2_with (first
  | (go_at_call 109; (with_reducible refine (hk1 _).mono ?_); rintro e w1 ⟨rfl, hb1⟩; obtain ⟨_, _, ⟨hc1, hf1⟩, hz1⟩ := hb1.c3; (try simp only [wsz] at hz1 hc1 hf1)))
 exact T_PUE_1
theorem f_lk2 (x y : Int) (d : V3) (w : World) (h1 : ckI x y = 0) (h2 : ckV d = 8) :
    Calls Tryz.prog 59 #[.agg #[.int .i64 x, .int .i64 y], .agg #[.int .i64 d.a, .int .i64 d.b, .int .i64 d.c, .int .i64 d.d, .int .i64 d.e, .int .i64 d.f]] w fun e w' => e = .returned (.int .i64 8) ∧ Ext w w' := by
 have hk1 := fun w1 => s_check1 x y w1
 have hk2 := fun w1 => s_check d w1
 rw [h1] at hk1
 rw [h2] at hk2
 go_enter Tryz.func59, Tryz.ntmps59
 go_wp2_with (first
  | (go_at_call 109; (with_reducible refine (hk1 _).mono ?_); rintro e w1 ⟨rfl, hb1⟩; obtain ⟨_, _, ⟨hc1, hf1⟩, hz1⟩ := hb1.c3; (try simp only [wsz] at hz1 hc1 hf1))
  | (go_at_call 77; (with_reducible refine (hk2 _).mono ?_); rintro e w2 ⟨rfl, hb2⟩; obtain ⟨_, _, ⟨hc2, hf2⟩, hz2⟩ := hb2.c3; (try simp only [wsz] at hz2 hc2 hf2)))
 exact T_PUE_1
theorem f_Pull8 (x y : Int) (d : V3) (w : World) (hk : ∀ w1, Calls Tryz.prog 59 #[.agg #[.int .i64 x, .int .i64 y], .agg #[.int .i64 d.a, .int .i64 d.b, .int .i64 d.c, .int .i64 d.d, .int .i64 d.e, .int .i64 d.f]] w1 fun e w' => e = .returned (.int .i64 8) ∧ Ext w1 w') :
    Calls Tryz.prog 19 #[.agg #[.int .i64 x, .int .i64 y], .agg #[.int .i64 d.a, .int .i64 d.b, .int .i64 d.c, .int .i64 d.d, .int .i64 d.e, .int .i64 d.f]] w fun e w' => e = .returned (.tuple #[.agg #[.int .i64 0, .int .i64 0, .int .i64 0, .int .i64 0, .int .i64 0, .int .i64 0], .int .i64 8]) ∧ Ext w w' := by
 go_enter Tryz.func19, Tryz.ntmps19
 go_wp2_with (first
  | (go_at_call 59; (with_reducible refine (hk _).mono ?_); rintro e w1 ⟨rfl, hb1⟩; obtain ⟨_, _, ⟨hc1, hf1⟩, hz1⟩ := hb1.c3; (try simp only [wsz] at hz1 hc1 hf1)))
 refine bodyPost_ret (v := .tuple #[.agg #[.int .i64 0, .int .i64 0, .int .i64 0, .int .i64 0, .int .i64 0, .int .i64 0], .int .i64 8]) ?_ rfl ⟨rfl, ?_⟩
 ·simp [results, Tryz.results19, go_sem, ↓IntWalk.iteOmega, *]
 ·exact b_6
theorem f_Pull24 (x y : Int) (d : V3) (w : World) (hx : I64 x ∧ I64 y) (kd : d.I) (h1 : ckI x y = 0) (h2 : ckV d = 0) (hr : nz (plR 0 x y d).e = true) :
    Calls Tryz.prog 19 #[.agg #[.int .i64 x, .int .i64 y], .agg #[.int .i64 d.a, .int .i64 d.b, .int .i64 d.c, .int .i64 d.d, .int .i64 d.e, .int .i64 d.f]] w fun e w' => e = .returned (.tuple #[.agg #[.int .i64 0, .int .i64 0, .int .i64 0, .int .i64 0, .int .i64 0, .int .i64 0], .int .i64 24]) ∧ Ext w w' := by
 have hk := fun w1 => f_lk0 x y d w1 h1 h2
 have hp : ∃ r : V3, ∀ P w1, w1.cell? ⟨P, 0, none⟩ = some (.bool false) → w1.frozen? ⟨P, 0, none⟩ = false → Calls Tryz.prog 45 #[.pointer (some ⟨P, 0, none⟩), .agg #[.int .i64 x, .int .i64 y], .agg #[.int .i64 d.a, .int .i64 d.b, .int .i64 d.c, .int .i64 d.d, .int .i64 d.e, .int .i64 d.f]] w1 fun e w' => e = .returned (.agg #[.int .i64 r.a, .int .i64 r.b, .int .i64 r.c, .int .i64 r.d, .int .i64 r.e, .int .i64 r.f]) ∧ Ext (w1.setCell ⟨P, 0, none⟩ (.bool true)) w' := ⟨(plR 0 x y d).v, fun P w1 c f => by
  have h : Calls Tryz.prog 45 #[.pointer (some ⟨P, 0, none⟩), .agg #[.int .i64 x, .int .i64 y], .agg #[.int .i64 d.a, .int .i64 d.b, .int .i64 d.c, .int .i64 d.d, .int .i64 d.e, .int .i64 d.f]] w1 fun e w' => e = .returned (.agg #[.int .i64 (plR 0 x y d).v.a, .int .i64 (plR 0 x y d).v.b, .int .i64 (plR 0 x y d).v.c, .int .i64 (plR 0 x y d).v.d, .int .i64 (plR 0 x y d).v.e, .int .i64 (plR 0 x y d).v.f]) ∧ Ext (w1.setCell ⟨P, 0, none⟩ (.bool (nz (plR 0 x y d).e))) w' := f_pull P 0 x y d w1 c f hx kd
  rw [hr] at h
  exact h⟩
 clear hr
 obtain ⟨r, hp⟩ := hp
 go_enter Tryz.func19, Tryz.ntmps19
 go_wp2_with (first
  | (go_at_call 59; (with_reducible refine (hk _).mono ?_); rintro e w1 ⟨rfl, hb1⟩; obtain ⟨_, _, ⟨hc1, hf1⟩, hz1⟩ := hb1.c3; (try simp only [wsz] at hz1 hc1 hf1))
  | (go_at_call 45; (with_reducible refine (hp _ _ c_23 c_23).mono ?_); rintro e w2 ⟨rfl, hb2⟩; obtain ⟨_, _, ⟨hc2, hf2⟩, hz2⟩ := hb2.c3; (try simp only [wsz] at hz2 hc2 hf2)))
 refine bodyPost_ret (v := .tuple #[.agg #[.int .i64 0, .int .i64 0, .int .i64 0, .int .i64 0, .int .i64 0, .int .i64 0], .int .i64 24]) ?_ rfl ⟨rfl, ?_⟩
 ·simp [results, Tryz.results19, go_sem, ↓IntWalk.iteOmega, *]
 ·exact b_6
theorem f_Tide8 (x y : Int) (d : V3) (m : M3) (hV : Hid ((#[.int .i64 0, .int .i64 0, .int .i64 0, .int .i64 0, .int .i64 0, .int .i64 0, .int .i64 0, .int .i64 0, .int .i64 0, .int .i64 0, .int .i64 0, .int .i64 0, .int .i64 0, .int .i64 0, .int .i64 0, .int .i64 0, .int .i64 0, .int .i64 0] : Array Value) = mvs m)) (w : World) (hk : ∀ w1, Calls Tryz.prog 59 #[.agg #[.int .i64 x, .int .i64 y], .agg #[.int .i64 d.a, .int .i64 d.b, .int .i64 d.c, .int .i64 d.d, .int .i64 d.e, .int .i64 d.f]] w1 fun e w' => e = .returned (.int .i64 8) ∧ Ext w1 w') :
    Calls Tryz.prog 20 #[.agg #[.int .i64 x, .int .i64 y], .agg #[.int .i64 d.a, .int .i64 d.b, .int .i64 d.c, .int .i64 d.d, .int .i64 d.e, .int .i64 d.f]] w fun e w' => e = .returned (.tuple #[.agg (mvs m), .int .i64 8]) ∧ Ext w w' := by
 go_enter Tryz.func20, Tryz.ntmps20
 go_upto_region 3 with (go_at_call 59; (with_reducible refine (hk _).mono ?_); rintro e w1 ⟨rfl, hb1⟩; obtain ⟨_, _, ⟨hc1, hf1⟩, hz1⟩ := hb1.c3; (try simp only [wsz] at hz1 hc1 hf1))
 have v9 : VB w1 (w.heap.size + 1 + 1) z18 := by
  have v := (VB.lit ((w.alloc (.cells #[.int .i64 x, .int .i64 y] 26)).alloc (.cells #[.int .i64 d.a, .int .i64 d.b, .int .i64 d.c, .int .i64 d.d, .int .i64 d.e, .int .i64 d.f] 28)) z18 35).ext hb1
  simpa only [World.size_alloc] using v
 have x9 : Ext w w1 := ex_
 have hth : w1.there (w.heap.size + 1 + 1) 0 18 := v9.there 18 rfl
 clear hc1 hf1 hb1 hk v9
 go_wp2_with ((with_reducible show wpList _ _ _ _ _ _); refine store_row rfl 35 (.tmp 4) (.tmp 14) rfl (w.heap.size + 1 + 1) (mvs m) rfl (congrArg Value.agg hV.out) hth tyI35 c_73 (fun W5 hW5 => ?_))
 refine bodyPost_ret (results_cell_tmp (a := ⟨w.heap.size + 1 + 1, 0, none⟩) rfl rfl rfl (run_load_row W5 _ 35 (mvs m).toList (.array 3 27) hW5.range tyU35 rfl tyI35)) rfl ⟨rfl, hW5.ext x9 (by omega)⟩
end Go.Proofs.YtbkgakgdbmjmjaaGreat
namespace Go.Proofs.YtbkgakgdbmjmjaaGreat
open Go.RowKit
theorem fn_I : fnAt.I := ⟨⟨fn_i64 (by decide), fn_i64 (by decide)⟩, ⟨fn_i64 (by decide), fn_i64 (by decide)⟩, ⟨fn_i64 (by decide), fn_i64 (by decide)⟩⟩
theorem fn_I5 : fnFive.I := ⟨⟨fn_i64 (by decide), fn_i64 (by decide)⟩, ⟨fn_i64 (by decide), fn_i64 (by decide)⟩, ⟨fn_i64 (by decide), fn_i64 (by decide)⟩⟩
theorem fn_I0 : V3.O.I := ⟨⟨fn_i64 (by decide), fn_i64 (by decide)⟩, ⟨fn_i64 (by decide), fn_i64 (by decide)⟩, ⟨fn_i64 (by decide), fn_i64 (by decide)⟩⟩
theorem fn_shE : (shR 0 (fnB 1) 0 1 fnFive).e = 24 := by
 have h : gaR 0 (fnB 1) 0 1 fnFive = ([⟨0, 1, fnFive⟩], 0) := by kernel_rfl
 have e : nz (shN fnFive [⟨0, 1, fnFive⟩] (sh0 fnFive)).e = true := by
  unfold shN shN shS shT sh0
  rw [tiR_c]
  kernel_rfl
 have e0 : (shN fnFive [⟨0, 1, fnFive⟩] (sh0 fnFive)).e ≠ 0 := by intro c; rw [c] at e; cases e
 unfold shR
 rw [h]
 dsimp only
 rw [if_neg (fun c => c rfl), if_pos e0]
theorem law_namesF (w : World) : Calls Tryz.prog 4 #[] w fun e w' => e = .returned (.bool true) ∧ Ext w w' := by
 refine law_names w (shR 0 (fnB 1) 0 1 fnFive).m M3.O (fun w1 => g_alive w1)
  (fun w1 => f_Pull24 1 1 V3.O w1 ⟨fn_i64 (by decide), fn_i64 (by decide)⟩ fn_I0 (by decide) (by decide) fn_open)
  (fun w1 => f_Pull8 1 0 fnAt w1 (fun w2 => f_lk1 1 0 fnAt w2 (by decide)))
  (fun w1 => f_Tide8 1 1 ⟨1, 0, 0, 0, 0, 0⟩ M3.O (show Hid _ from rfl) w1 (fun w2 => f_lk2 1 1 ⟨1, 0, 0, 0, 0, 0⟩ w2 (by decide) (by decide)))
  (fun w1 => ?_) (fun v w1 hb => ?_) (fun v w1 hb => ?_) (fun v w1 hb => ?_) (fun v w1 hb => ?_) (fun w1 => ?_)
 ·have h := p_Accel (.slice none 0 0) [] 0 1 0 fnAt w1 (bds_nil w1) fn_ck0 (fun _ => fn_sml0) fn_I
  rw [fn_acA] at h; exact h
 ·have h := p_Accel v [body0] 8 0 0 fnAt w1 hb fn_ckZ (fun h => absurd h (by decide)) fn_I
  rw [fn_acZ] at h; exact h
 ·have h := p_Accel v (fnB 1) 0 0 2 fnAt w1 hb (fn_ckB (by decide) (by decide)) (fun _ => fn_smlB 1) fn_I
  rw [fn_acR] at h; exact h
 ·have h := p_Shear v (fnB 1) 0 0 1 fnFive w1 hb (fn_ckB (by decide) (by decide)) (fun _ => fn_smlB 1) fn_I5
  rw [fn_shE] at h; exact h
 ·have h := p_Accel v (fnB 0) 0 0 2 fnAt w1 hb (fn_ckB (by decide) (by decide)) (fun _ => fn_smlB 0) fn_I
  rw [fn_acS] at h; exact h
 ·have h := p_Accel (.slice none 0 0) [] 0 0 0 fnAt w1 (bds_nil w1) fn_ck0 (fun _ => fn_sml0) fn_I
  rw [fn_acO] at h; exact h
end Go.Proofs.YtbkgakgdbmjmjaaGreat
namespace Go.Proofs.YtbkgakgdbmjmjaaGreat
theorem jf4_inPlace : Tryz.prog.inPlace 4 = Rows.forceNamesRow.inPlace := by kernel_rfl
theorem jf4_unf : Tryz.prog.unfollowed 4 = Rows.forceNamesRow.unfollowed := by kernel_rfl
theorem jf4_rec : Tryz.prog.recurses 4 = Rows.forceNamesRow.recurses := by kernel_rfl
theorem jf4_named : Tryz.prog.varsNamed 4 = Rows.forceNamesRow.named := by kernel_rfl
theorem jf4_closed : joinedFacts Tryz.pinned.checked.prog 4 Tryz.f4 Rows.forceNamesSpec Rows.forceNamesRow = true := by
 show joinedFacts Tryz.prog 4 Tryz.f4 Rows.forceNamesSpec Rows.forceNamesRow = true
 unfold joinedFacts
 rw [jf4_inPlace, jf4_unf, jf4_rec, jf4_named]
 kernel_rfl
end Go.Proofs.YtbkgakgdbmjmjaaGreat
