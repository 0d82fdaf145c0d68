/- The reference: numbers with signs: made, checked, turned. -/
import Derived.Test.YtogblocakccbgaaGreatU28
import Derived.Deep.AppendLies
set_option linter.unusedSimpArgs false
set_option linter.unusedVariables false
set_option maxRecDepth 100000
set_option maxHeartbeats 4000000
namespace Go.Proofs.YtogblocakccbgaaGreat
open Go.RowKit
theorem r_madeS (neg : Bool) (v : Value) (xs : List Int) (m : Nat) (w : World) (h : Lim w v xs) (hm : val xs = m) (hl : (dig m).length ≤ 4096) :
    Calls Tryz.prog 59 #[.bool neg, v] w fun e w' => ∃ u bo, e = .returned (.tuple #[.agg #[.bool bo, u], .int .i64 0]) ∧ Lim w' u (dig m) ∧ bo = (neg && decide (0 < (dig m).length)) ∧ Ext w w' := by
 have ht := trim_dig h.lb hm
 have hk := fun w1 (k : Ext w w1) => r_trim v xs w1 (h.ext k)
 rw [ht] at hk
 clear ht hm
 generalize hd : dig m = ds at hk hl ⊢
 by_cases hpos : 0 < ds.length
 ·have hp1 : decide ((0 : Int) < (ds.length : Int)) = true := decide_eq_true (by omega)
  have hp2 : decide (0 < ds.length) = true := decide_eq_true hpos
  rw [hp2]
  cases neg
  all_goals
   go_enter Tryz.func59, Tryz.ntmps59
   go_wp2_with (go_at_call 117; (with_reducible refine (hk _ ex_).mono ?_); rintro e w1 ⟨u, rfl, hu, hb⟩; obtain ⟨ao, b1, o1, cap1, rfl, v1, v2, v3, v4, v5, v6⟩ := hu.view; obtain ⟨_, _, ⟨hc, hf⟩, hz⟩ := hb.c3; (try simp only [wsz] at hz hc hf))
   have hB : NoU w1 w.heap.size := (NoU.new w _ _ (noU2 (by simp) (by simp))).ext (by simp) hb
  ·refine bodyPost_ret (v := .tuple #[.agg #[.bool false, .slice ao ds.length cap1], .int .i64 0]) ?_ rfl ⟨_, false, rfl, ?_, rfl, ?_⟩
   ·exact b_62
   ·exact b_9
   ·exact b_0
  ·refine bodyPost_ret (v := .tuple #[.agg #[.bool true, .slice ao ds.length cap1], .int .i64 0]) ?_ rfl ⟨_, true, rfl, ?_, rfl, ?_⟩
   ·exact b_62
   ·exact b_9
   ·exact b_0
 ·have hp1 : decide ((0 : Int) < (ds.length : Int)) = false := decide_eq_false (by omega)
  have hp2 : decide (0 < ds.length) = false := decide_eq_false hpos
  rw [hp2]
  cases neg
  all_goals
   go_enter Tryz.func59, Tryz.ntmps59
   go_wp2_with (go_at_call 117; (with_reducible refine (hk _ ex_).mono ?_); rintro e w1 ⟨u, rfl, hu, hb⟩; obtain ⟨ao, b1, o1, cap1, rfl, v1, v2, v3, v4, v5, v6⟩ := hu.view; obtain ⟨_, _, ⟨hc, hf⟩, hz⟩ := hb.c3; (try simp only [wsz] at hz hc hf))
   have hB : NoU w1 w.heap.size := (NoU.new w _ _ (noU2 (by simp) (by simp))).ext (by simp) hb
   refine bodyPost_ret (v := .tuple #[.agg #[.bool false, .slice ao ds.length cap1], .int .i64 0]) ?_ rfl ⟨_, false, rfl, ?_, rfl, ?_⟩
   ·exact b_62
   ·exact b_9
   ·exact b_0
theorem r_CheckZ (v : Value) (n : Int) (w : World) (h : Wid w v n) (hs : Sz n) :
    Calls Tryz.prog 129 #[v] w fun e w' => e = .returned (.int .i64 0) ∧ Ext w w' := by
 by_cases hn : n < 0
 ·obtain ⟨u, rfl, hu⟩ := h
  rw [decide_eq_true hn]
  unfold Sz Small at hs
  have hpos := (dig_pos (m := n.natAbs)).2 (by omega)
  have hln := last_ne (m := n.natAbs) hpos
  obtain ⟨ao, b1, o1, cap1, rfl, v1, v2, v3, v4, v5, v6⟩ := hu.view
  generalize dig n.natAbs = ds at *
  have e := v1 hpos
  subst e
  have hlw := v4 hpos
  obtain ⟨q, eq⟩ : ∃ q, ds.length = q + 1 := ⟨ds.length - 1, by omega⟩
  have hl := v5 q (by omega)
  rw [eq, Nat.add_sub_cancel] at hln
  obtain ⟨z, ez⟩ : ∃ z, ds.getD q 0 = z := ⟨_, rfl⟩
  rw [ez] at hl hln
  rw [eq] at hs ⊢
  have z1 : (z == 0) = false := by simpa using hln
  have z2 : decide ((4096 : Int) < (q : Int) + 1) = false := decide_eq_false (by omega)
  have z3 : ((q : Int) + 1 == 0) = false := by simp; omega
  have z4 : decide ((0 : Int) < (q : Int) + 1) = true := decide_eq_true (by omega)
  clear hu v5 v6 v4 v1 v2 ez eq hpos
  go_enter Tryz.func129, Tryz.ntmps129
  go_wp2_with fail
  go_ret
  exact ⟨rfl, ex_⟩
 ·have h2 := h.nn (by omega)
  exact r_Check v n.natAbs w h2 hs
theorem r_Neg (va : Value) (n : Int) (w : World) (ha : Wid w va n) (hs : Sz n) :
    Calls Tryz.prog 138 #[va] w fun e w' => ∃ u, e = .returned (.tuple #[u, .int .i64 0]) ∧ Wid w' u (-n) ∧ Ext w w' := by
 have hck := fun w1 (k1 : Ext w w1) => r_CheckZ va n w1 (ha.ext k1) hs
 obtain ⟨u, rfl, hu⟩ := ha
 obtain ⟨ao, b1, o1, cap1, rfl, -⟩ := hu.view
 have hsg : sg (!decide (n < 0)) n.natAbs = -n := by
  have h2 := sg_wid (n := n)
  unfold sg at h2 ⊢; cases hk : decide (n < 0) <;> rw [hk] at h2 <;> simp at h2 ⊢ <;> omega
 have hmd := fun w1 (k1 : Ext w w1) => r_madeS (!decide (n < 0)) _ _ n.natAbs w1 (hu.ext k1) (dig_val _) hs
 rw [← hsg]
 clear hsg hu
 generalize decide (n < 0) = sa at *
 generalize n.natAbs = m at *
 generalize hl : (dig m).length = la at *
 go_enter Tryz.func138, Tryz.ntmps138
 go_wp2_with (first
  | (go_at_call 129; (with_reducible refine (hck _ ex_).mono ?_); rintro e w1 ⟨rfl, hb⟩; obtain ⟨_, _, ⟨hc, hf⟩, hz⟩ := hb.c3; (try simp only [wsz] at hz hc hf); clear hck)
  | (go_at_call 59; (with_reducible refine (hmd _ ex_).mono ?_); rintro e w4 ⟨s3, bo3, rfl, hz3, hbo3, hb4⟩; obtain ⟨ao3, bb3, oo3, cc3, rfl, _⟩ := hz3.view; obtain ⟨_, _, ⟨hc4, hf4⟩, hz4⟩ := hb4.c3; (try simp only [wsz] at hz4 hc4 hf4); clear hmd))
 have hE4 : Ext ((w.alloc (.cells #[.bool sa, .slice ao la cap1] 24)).alloc (.cells #[.bool false, .slice none 0 0] 24)) w4 := ex_
 have hnu : NoU w4 (w.heap.size + 1) := by
  have h0 := NoU.new (w.alloc (.cells #[.bool sa, .slice ao la cap1] 24)) #[.bool false, .slice none 0 0] 24 (noU2 (by simp) (by simp))
  simp only [World.size_alloc] at h0
  exact h0.ext (by simp) hE4
 refine bodyPost_ret (v := .tuple #[.agg #[.bool bo3, .slice ao3 (dig m).length cc3], .int .i64 0]) ?_ rfl ⟨_, rfl, Wid.mk' (Lim.box (Lim.box hz3 hnu) (NoU.set hnu (fun z e => by cases e))) (by rw [hbo3, hl]), ?_⟩
 ·simp [results, Tryz.results138, go_sem, ↓IntWalk.iteOmega, *] <;> first | exact hbo3.symm | simp [hbo3]
 ·exact b_0
theorem step_make {P : Program} {ops : Array Oper} {o : Oper} {a : Act} {K : Act → World → Prop} {Q : Exit → Act → World → Prop} {E : Prop} (hgd : o.guard = none) (l c : Operand) (t : TypeId) (hop : o.op = Op.makeSlice t l c) (w : World)
    (base : Nat) (e : TypeId) (i : TypeInfo) (z : Value) (size : Nat) (h1 : P.underlying t = some (.slice e)) (h2 : P.info? e = some i) (h3 : i.zero = some z) (h4 : i.size = size)
    (kl kc : IntKind) (L C : Int) (n : Nat) (hl : a.eval l = .int kl L) (hc : a.eval c = .int kc C) (hL : L = (n : Int)) (hC : C = (n : Int)) (b2 : i.bytes * n ≤ 281474976710656) (b3 : n ≤ maxLen) (b4 : base ≤ w.heap.size)
    (h : ∀ g w', w.heap.size = g → w'.ownsRow base e size (.slice (some ⟨g, 0, none⟩) n n) n (madeCells z.cells (n * size)).toList → w.grownBy w' none → K (a.put o.dst (.slice (some ⟨g, 0, none⟩) n n)) w') :
    if Region.wanted o (yielded ops a.tmps) = true then Oper.wp P o a w K Q else E := by
 have hw : Region.wanted o (yielded ops a.tmps) = true := by simp [Region.wanted, hgd]
 rw [if_pos hw]
 obtain ⟨w', hrun, r1, r2⟩ := run_make_full (P := P) w base t e i z size h1 h2 h3 h4 kl kc n b2 b3 b4
 subst hL
 subst hC
 unfold Oper.wp
 simp [execOp, hop, hl, hc, hrun, Result.andThen]
 exact h _ _ rfl r1 r2
theorem O32.news {w : World} {base g n cap : Nat} {xs : List Int} (h : O32 w base g n cap xs) : ∀ j u, (xs.map (Value.int .u32))[j]? = some u → w.cell? ((⟨g, 0, none⟩ : Addr).add j) = some u := by
 intro j u hj
 rw [List.getElem?_map] at hj
 cases hx : xs[j]? with
 | none => rw [hx] at hj; cases hj
 | some x =>
  rw [hx] at hj
  have hl := (List.getElem?_eq_some_iff.1 hx).1
  have := h.cell (k := j) (by rw [← h.len]; exact hl)
  rw [List.getD_eq_getElem?_getD, hx] at this
  rw [show (⟨g, 0, none⟩ : Addr).add j = ⟨g, j, none⟩ from by unfold Addr.add; split <;> simp_all, this]
  simpa using hj
theorem u32_one' (xs : List Int) : ∀ u ∈ xs.map (Value.int .u32), u.oneCell' = true := by
 intro u hu
 obtain ⟨x, _, rfl⟩ := List.mem_map.1 hu
 rfl
theorem BX.grown {w a w0 : World} {B g : Nat} {L : List (Nat × Nat × Value)} (h : BX w B L a) (k : GB g a w0) (hw : w.heap.size ≤ g) (hB : B ≠ g) (hL : ∀ p ∈ L, p.1 ≠ g) : BX w B L w0 := by
 obtain ⟨h1, h2, ⟨a0, h3⟩, ⟨a1, h4⟩, h5, h6, h7⟩ := h
 exact ⟨GB.pre h1 k hw, fun p hp => (k.cell (World.block_lt_of_cell? _ _ (h2 p hp)) (hL p hp)).trans (h2 p hp), ⟨a0, (k.cell h7 hB).trans h3⟩, ⟨a1, (k.cell h7 hB).trans h4⟩, fun o => (k.frozen h7 hB).trans (h5 o), h6.grown k h7 hB, Nat.lt_of_lt_of_le h7 k.size⟩
theorem val_pad (d : Nat) (zs : List Int) : val (List.replicate d 0 ++ zs) = BB ^ d * val zs := by
 rw [val_append, val_zeros, List.length_replicate, Int.zero_add]
theorem Lb.zeros (d : Nat) : Lb (List.replicate d 0) := fun y hy => by rw [List.eq_of_mem_replicate hy]; decide
theorem lim_app {w : World} {base n m g cap : Nat} {xs ys : List Int} (h : w.ownsRow base 25 1 (.slice (some ⟨g, 0, none⟩) (n + m) cap) (n + m) (xs.map (.int .u32) ++ ys.map (.int .u32))) (hx : Lb xs) (hy : Lb ys) (hc : n + m ≤ 1099511627776) : Lim w (.slice (some ⟨g, 0, none⟩) (n + m) cap) (xs ++ ys) := by
 rw [← List.map_append] at h
 exact Lim.own h (hx.append hy) hc
theorem T_RSH_2 {p : Prop} (h : p := by
 intro p hp
 simp only [List.mem_cons, List.mem_nil_iff, or_false] at hp
 rcases hp with rfl | rfl <;> (dsimp only; omega)) : p := h
theorem T_RSH_1 {p : Prop} (h : p := by
 clear hK K hH
 rename_i hH
 try simp only [sx_]
 refine rh1 11 rfl fun K hK => ?_
 have hzp : zs.length = (dig m).length + 1 := hzl
 refine step_append_lies _ rfl _ _ 22 (by rfl) w.heap.size 25 i0 (.int .u32 0) 1 4 Tryz.underlying22 hi hz0 hz1 hz2 rfl (by decide) (.slice (some ⟨gm, 0, none⟩) d d) d ((List.replicate d 0).map (Value.int .u32)) (by rfl) hR ⟨g2, 0, none⟩ zs.length cc (zs.map (Value.int .u32)) (by rfl) (by simp) hO.news (u32_one' zs) (by omega) c_4 (by omega) hH.base.size _ rfl ?_
 intro ga capa wa howna hgrowa hata hlta
 have hLm : ∀ p ∈ ([(w.heap.size, 0, .bool sa), (w.heap.size, 1, .slice ao (dig m).length cap1)] : List (Nat × Nat × Value)), p.1 ≠ gm := by
  exact T_RSH_2
 have hv2 : val (List.replicate d 0 ++ zs) = ((m * 2 ^ (32 * d + s) : Nat) : Int) := by rw [val_pad, hval, dig_val, bb_two]; simp
 have hLa := lim_app howna (Lb.zeros d) lz (by omega)
 refine hK.out _ _ ?_ fun _ => ?_
 ·exact b_64
 clear hK K hH
 rename_i hH
 try simp only [sx_]
 refine rh1 12 rfl fun K hK => ?_
 rw [hzp] at hLa
 go_simp
 (go_at_call 59; (with_reducible refine (r_madeS sa _ _ (m * 2 ^ (32 * d + s)) _ hLa hv2 hs4).mono ?_); rintro e t3 ⟨s3, bo3, rfl, hz3, hbo3, hx3⟩; obtain ⟨ao3, bb3, oo3, cc3, rfl, _⟩ := hz3.view)
 refine hK.out _ _ ?_ fun _ => ?_
 ·exact b_4
 clear hK K hH
 rename_i hH
 try simp only [sx_]
 refine sK 13 ?_
 refine sK 14 ?_
 refine rh1 15 rfl fun K hK => ?_
 obtain ⟨⟨xa, h3a⟩, ⟨xb, h3b⟩, h3f, hnu, hsl⟩ := hH.box
 go_simp
 refine hK.out _ _ ?_ fun _ => ?_
 ·exact b_8
 clear hK K hH
 rename_i hH
 try simp only [sx_]
 refine sK 16 ?_
 refine wpAnyH_done c_2 ?_ _
 go_wp2_with fail
 refine bodyPost_ret (v := .tuple #[.agg #[.bool bo3, .slice ao3 (dig (m * 2 ^ (32 * d + s))).length cc3], .int .i64 0]) ?_ rfl ⟨_, rfl, Wid.mk' (Lim.box (Lim.box hz3 hnu) (NoU.set hnu (fun z e => by cases e))) hbo3, ?_⟩
 ·simp [results, Tryz.results127, go_sem, ↓IntWalk.iteOmega, h3a, h3b] <;> first | exact hbo3.symm | simp [hbo3]
 ·exact hH.base) : p := h
theorem sm_wid {w : World} {u : Value} {s : Bool} {m : Nat} (h : Lim w u (dig m)) (hz : m = 0 → s = false) : Wid w (.agg #[.bool s, u]) (sg s m) := by
 refine Wid.mk' h ?_
 rcases Nat.eq_zero_or_pos m with h0 | h0
 ·rw [hz h0]; rfl
 ·rw [decide_eq_true (dig_pos.2 h0), Bool.and_true]
theorem r_shiftU0 (va : Value) (sa : Bool) (m d s k : Nat) (w : World) (ha : Sm w va sa m) (hs : Small m) (hz : m = 0 → sa = false) (hs5 : s < 32) (hk : k = 32 * d + s) (hd : k ≤ 131072) (hs3 : Small (m * 2 ^ (32 * d + s))) :
    Calls Tryz.prog 127 #[va, .int .i64 (k : Int)] w fun e w' => ∃ u, e = .returned (.tuple #[u, .int .i64 0]) ∧ Wid w' u (sg sa (m * 2 ^ (32 * d + s))) ∧ Ext w w' := by
 obtain ⟨u, rfl, hu⟩ := ha
 obtain ⟨ao, b1, o1, cap1, rfl, v1, v2, v3, v4, v5, v6⟩ := hu.view
 have hlen : (dig m).length ≤ 4096 := hs
 obtain ⟨W3, hW3⟩ : ∃ W3, (w.alloc (.cells #[.bool sa, .slice ao (dig m).length cap1] 24)).alloc (.cells #[.bool false, .slice none 0 0] 24) = W3 := ⟨_, rfl⟩
 have hWs : W3.heap.size = w.heap.size + 1 + 1 := by rw [← hW3]; simp
 have hEW : Ext w W3 := by rw [← hW3]; exact ((Ext.refl w).alloc _).alloc _
 have hS : BX w (w.heap.size + 1) [(w.heap.size, 0, .bool sa), (w.heap.size, 1, .slice ao (dig m).length cap1)] W3 := by
  rw [← hW3]
  refine ⟨hW3 ▸ hEW, ?_, ?_, ?_, ?_, ?_, by simp⟩
  ·intro p hp
   simp only [List.mem_cons, List.mem_nil_iff, or_false] at hp
   rcases hp with rfl | rfl <;> simp [go_sem, ↓IntWalk.iteOmega]
  ·exact b_1
  ·exact b_2
  ·exact b_3
  ·have := NoU.new (w.alloc (.cells #[.bool sa, .slice ao (dig m).length cap1] 24)) #[.bool false, .slice none 0 0] 24 (noU2 (by simp) (by simp))
   simpa using this
 have hLn : ∀ p ∈ ([(w.heap.size, 0, .bool sa), (w.heap.size, 1, .slice ao (dig m).length cap1)] : List (Nat × Nat × Value)), p.1 ≠ w.heap.size + 1 := by
  exact T_RSH_2
 have hck := fun w1 (k1 : Ext w w1) => r_CheckZ (.agg #[.bool sa, .slice ao (dig m).length cap1]) (sg sa m) w1 (sm_wid (hu.ext k1) hz) (by unfold Sz; rw [sg_abs]; exact hs)
 subst hW3
 clear v1 v4 v5 hWs hEW
 obtain ⟨i0, hi, hz0, hz1, hz2⟩ := info_parts info81
 have hwq : Hid (IntKind.i64.wrap ((k : Int).tdiv 32) = (d : Int)) := by show _ = _; rw [IntKind.wrap_i64, Int.tdiv_eq_ediv_of_nonneg (by omega)]; omega
 have hws : Hid (IntKind.u64.wrap ((k : Int).tmod 32) = (s : Int)) := by show _ = _; rw [IntKind.wrap_u64, Int.tmod_eq_emod_of_nonneg (by omega)]; omega
 have hs4 : (dig (m * 2 ^ (32 * d + s))).length ≤ 4096 := hs3
 have hd1 : d ≤ 5000 := by omega
 clear hk
 go_enter Tryz.func127, Tryz.ntmps127
 go_upto_region 6 with (go_at_call 129; (with_reducible refine (hck _ ex_).mono ?_); rintro e w1 ⟨rfl, hb⟩; have q0 := BX.get (hS.ext hb) 0 rfl)
 have hS0 := hS.ext hb
 clear hS hb hck
 refine wp_region_held_drew (S := (fun w0 => BX w (w.heap.size + 1) [(w.heap.size, 0, .bool sa), (w.heap.size, 1, .slice ao (dig m).length cap1)] w0)) c_2 ?_ (fun hH => ?_)
 ·exact hS0.drew
 try simp only [sx_]
 refine sK 0 ?_
 refine tk 1 rfl c_15 ?_
 try simp only [sx_]
 refine sK 2 ?_
 refine sK 3 ?_
 refine sK 5 ?_
 refine tk 6 rfl c_15 ?_
 try simp only [sx_]
 refine sK 7 ?_
 refine sK 8 ?_
 refine sK 9 ?_
 refine rh2 4 10 rfl rfl (fun K hK => ?_) fun K hK => ?_
 ·refine step_make rfl _ _ 22 (by rfl) _ w.heap.size 25 i0 (.int .u32 0) 1 Tryz.underlying22 hi hz0 hz1 .i64 .i64 _ _ d (by rfl) (by rfl) hwq.out hwq.out c_11 c_4 hH.base.size ?_
  intro gm wm hgm hownm hgrowm
  have hR : O32 wm w.heap.size gm d d (List.replicate d 0) := R32.made hownm
  have hxm := Ext.grown (Ext.refl _) hgrowm
  have hgw : w.heap.size + 1 + 1 ≤ gm := by have := hH.box.2.2.2.2; have := hH.base.size; omega
  have hgs := hR.parts.1
  refine hK.out _ _ ?_ fun _ => ?_
  ·exact b_65
  clear hK K hH
  rename_i hH
  try simp only [sx_]
  refine rh1 10 rfl fun K hK => ?_
  go_simp
  rw [hws.out]
  (go_at_call 179; (with_reducible refine (r_left _ (dig m) s _ (hu.ext hH.base) (by omega) hs5).mono ?_); rintro e t2 ⟨g2, cc, zs, rfl, hO, lz, hval, hzl, hx2⟩)
  replace hR := hR.ext hx2
  replace hgs := Nat.lt_of_lt_of_le hgs hx2.size
  refine hK.out _ _ ?_ fun _ => ?_
  ·exact b_5
  exact T_RSH_1
 ·go_simp
  rw [hws.out]
  (go_at_call 179; (with_reducible refine (r_left _ (dig m) s _ (hu.ext hH.base) (by omega) hs5).mono ?_); rintro e t2 ⟨g2, cc, zs, rfl, hO, lz, hval, hzl, hx2⟩)
  refine hK.out _ _ ?_ fun _ => ?_
  ·exact b_5
  clear hK K hH
  rename_i hH
  try simp only [sx_]
  refine rh1 4 rfl fun K hK => ?_
  refine step_make rfl _ _ 22 (by rfl) _ w.heap.size 25 i0 (.int .u32 0) 1 Tryz.underlying22 hi hz0 hz1 .i64 .i64 _ _ d (by rfl) (by rfl) hwq.out hwq.out c_11 c_4 hH.base.size ?_
  intro gm wm hgm hownm hgrowm
  have hR : O32 wm w.heap.size gm d d (List.replicate d 0) := R32.made hownm
  have hxm := Ext.grown (Ext.refl _) hgrowm
  have hgw : w.heap.size + 1 + 1 ≤ gm := by have := hH.box.2.2.2.2; have := hH.base.size; omega
  have hgs := hR.parts.1
  replace hO := hO.ext hxm
  refine hK.out _ _ ?_ fun _ => ?_
  ·exact b_65
  exact T_RSH_1
theorem top_le {M Y : List Int} {n : Nat} {a v : Int} (hM : M.length = n + 2) (hY : Y.length = n + 1) (lM : Lb M) (lY : Lb Y) (ha : M.getD (n + 1) 0 = a) (hv : Y.getD n 0 = v) (h : val M < BB * val Y) : a ≤ v := by
 have e1 := val_take_succ' M (n + 1)
 rw [List.take_of_length_le (by omega), ha] at e1
 have e2 := val_take_succ' Y n
 rw [List.take_of_length_le (by omega), hv] at e2
 have p1 := val_nonneg (lM.take (n + 1))
 have p2 := val_lt (lY.take n)
 rw [List.length_take, Nat.min_eq_left (by omega)] at p2
 have hP : (0 : Int) < BB ^ n := Int.pow_pos (by decide)
 rw [Int.pow_succ] at e1
 generalize val (M.take (n + 1)) = A at *
 generalize val (Y.take n) = R at *
 have h4 : BB = 4294967296 := rfl
 generalize hC : BB ^ n = C at *
 rw [h4] at h e1
 have h1 : C * a < C * (v + 1) := by
  have e3 : C * 4294967296 * a = 4294967296 * (C * a) := by grind
  have e4 : C * (v + 1) = C * v + C := by grind
  omega
 have := Int.lt_of_mul_lt_mul_left h1 (Int.le_of_lt hP)
 omega
theorem guess_ok2 {M Y : List Int} {n : Nat} {a b v : Int} (hM : M.length = n + 2) (hY : Y.length = n + 1) (lM : Lb M) (lY : Lb Y) (ha : M.getD (n + 1) 0 = a) (hb : M.getD n 0 = b) (hv : Y.getD n 0 = v) (h : 0 < v) :
    val M < ((a * 4294967296 + b) / v + 1) * val Y := by
 have e1 : val M = val (M.take n) + BB ^ n * b + BB ^ n * (BB * a) := by
  have h2 := val_take_succ' M (n + 1)
  rw [List.take_of_length_le (by omega), val_take_succ', ha, hb, Int.pow_succ] at h2
  rw [h2]; grind
 have e2 : val Y = val (Y.take n) + BB ^ n * v := by
  have h2 := val_take_succ' Y n
  rw [List.take_of_length_le (by omega), hv] at h2
  exact h2
 have l1 := val_lt (lM.take n)
 rw [List.length_take, Nat.min_eq_left (by omega)] at l1
 have l2 := val_nonneg (lY.take n)
 have a0 : 0 ≤ a := by rw [← ha]; exact (lM.getD _).1
 have b0 : 0 ≤ b := by rw [← hb]; exact (lM.getD _).1
 have hq := Int.lt_ediv_add_one_mul_self (a * 4294967296 + b) h
 have hq0 : 0 ≤ (a * 4294967296 + b) / v := Int.ediv_nonneg (by omega) (by omega)
 generalize (a * 4294967296 + b) / v = q at *
 rw [e1, e2]
 have hP : (0 : Int) ≤ BB ^ n := Int.pow_nonneg (by decide)
 generalize val (M.take n) = P at *
 generalize val (Y.take n) = R at *
 have m1 : BB ^ n * (a * 4294967296 + b + 1) ≤ BB ^ n * ((q + 1) * v) := Int.mul_le_mul_of_nonneg_left (by omega) hP
 have m2 : 0 ≤ (q + 1) * R := Int.mul_nonneg (by omega) l2
 have h4 : BB = 4294967296 := rfl
 generalize hC : BB ^ n = C at *
 rw [h4]
 have m3 : C * (a * 4294967296 + b + 1) = C * b + C * (4294967296 * a) + C := by grind
 have m4 : (q + 1) * (R + C * v) = (q + 1) * R + C * ((q + 1) * v) := by grind
 omega
theorem guess_less {M Y : List Int} {n : Nat} {a b c v v' q r : Int} (hM : M.length = n + 3) (hY : Y.length = n + 2) (lM : Lb M) (lY : Lb Y) (ha : M.getD (n + 2) 0 = a) (hb : M.getD (n + 1) 0 = b) (hc : M.getD n 0 = c) (hv : Y.getD (n + 1) 0 = v) (hv' : Y.getD n 0 = v')
    (hq : q * v + r = a * 4294967296 + b) (h0 : 0 ≤ q) (h : r * 4294967296 + c < q * v') : val M < q * val Y := by
 have e1 : val M = val (M.take n) + BB ^ n * (c + BB * b + BB * BB * a) := by
  have h2 := val_take_succ' M (n + 2)
  rw [List.take_of_length_le (by omega), val_take_succ', val_take_succ', ha, hb, hc, Int.pow_succ, Int.pow_succ] at h2
  rw [h2]; grind
 have e2 : val Y = val (Y.take n) + BB ^ n * (v' + BB * v) := by
  have h2 := val_take_succ' Y (n + 1)
  rw [List.take_of_length_le (by omega), val_take_succ', hv, hv', Int.pow_succ] at h2
  rw [h2]; grind
 have l1 := val_lt (lM.take n)
 rw [List.length_take, Nat.min_eq_left (by omega)] at l1
 have l2 := val_nonneg (lY.take n)
 have hP : (0 : Int) ≤ BB ^ n := Int.pow_nonneg (by decide)
 rw [e1, e2]
 generalize val (M.take n) = P at *
 generalize val (Y.take n) = R at *
 generalize BB ^ n = C at *
 have h4 : BB = 4294967296 := rfl
 rw [h4]
 have m0 : 1 + c + 4294967296 * b + 4294967296 * 4294967296 * a ≤ q * (v' + 4294967296 * v) := by
  have e3 : q * (v' + 4294967296 * v) = q * v' + 4294967296 * (q * v) := by grind
  omega
 have m1 : C * (1 + c + 4294967296 * b + 4294967296 * 4294967296 * a) ≤ C * (q * (v' + 4294967296 * v)) := Int.mul_le_mul_of_nonneg_left m0 hP
 have m2 : 0 ≤ q * R := Int.mul_nonneg h0 l2
 have m3 : q * (R + C * (v' + 4294967296 * v)) = q * R + C * (q * (v' + 4294967296 * v)) := by grind
 have m4 : C * (1 + c + 4294967296 * b + 4294967296 * 4294967296 * a) = C + C * (c + 4294967296 * b + 4294967296 * 4294967296 * a) := by grind
 omega
theorem row3_get {A ps R C : List Int} {o j : Nat} (hA : A.length = o) (hp : ps.length = j) (hj : j < R.length) : (A ++ (ps ++ (R.drop j ++ C))).getD (o + j) 0 = R.getD j 0 := by
 rw [List.getD_eq_getElem?_getD, List.getElem?_append_right (by omega), List.getElem?_append_right (by omega), List.getElem?_append_left (by rw [List.length_drop]; omega), List.getElem?_drop, ← List.getD_eq_getElem?_getD]
 congr 1; omega
theorem row3_set {A ps R C : List Int} {o j : Nat} {z : Int} (hA : A.length = o) (hp : ps.length = j) (hj : j < R.length) : (A ++ (ps ++ (R.drop j ++ C))).set (o + j) z = A ++ ((ps ++ [z]) ++ (R.drop (j + 1) ++ C)) := by
 rw [List.set_append_right _ _ (by omega), List.set_append_right _ _ (by omega), List.set_append_left _ _ (by rw [List.length_drop]; omega), show o + j - A.length - ps.length = 0 from by omega, List.drop_eq_getElem_cons hj, List.set_cons_zero, List.append_assoc]
 rfl
theorem row_mid {U : List Int} {o m : Nat} : U.take o ++ (((U.drop o).take m).drop 0 ++ U.drop (o + m)) = U := by
 rw [List.drop_zero, ← List.drop_drop, List.take_append_drop, List.take_append_drop]
theorem back_step {R Y ps : List Int} {i : Nat} {c u y : Int} (hv : val ps + BB ^ i * c = val (R.take i) + val (Y.take i)) (hl : ps.length = i) (hu : R.getD i 0 = u) (hy : Y.getD i 0 = y) :
    val (ps ++ [(c + u + y) % 4294967296]) + BB ^ (i + 1) * ((c + u + y) / 4294967296) = val (R.take (i + 1)) + val (Y.take (i + 1)) := by
 rw [val_take_succ', val_take_succ', hu, hy, val_append, hl]
 simp only [val]
 have hm := lim_mod (c + u + y)
 have h4 : BB = 4294967296 := rfl
 rw [h4] at hm hv ⊢
 generalize (c + u + y) % 4294967296 = t at hm ⊢
 generalize (c + u + y) / 4294967296 = c' at hm ⊢
 rw [Int.pow_succ]
 generalize (4294967296 : Int) ^ i = C at *
 generalize val (R.take i) = V at *
 generalize val (Y.take i) = W at *
 generalize val ps = Z at *
 have e1 : C * (t + 4294967296 * c') = C * (c + u + y) := by rw [hm]
 grind
end Go.Proofs.YtogblocakccbgaaGreat
