/- trig: the sum of the arc tangent. -/
import Derived.Test.YtogblocakccbgaaGreatU11
set_option linter.unusedSimpArgs false
set_option linter.unusedVariables false
set_option maxRecDepth 100000
set_option maxHeartbeats 4000000
namespace Go.Proofs.YtogblocakccbgaaGreat
open Go.RowKit
theorem t_sumA (T Bn t n F : Nat) (v : Int) (cnt : Nat) (w : World) (hT : WAt w T (t : Int)) (hBn : w.cell? ⟨Bn, 0, none⟩ = some (.int .i64 n)) (hne : Bn ≠ T) (hs : Small t) (hn0 : 0 < n * n) (hnn : n * n ≤ 1000000) (hF : F ≤ 100000) (hr : atanF n F 0 t 0 = some (v, cnt)) :
    Calls Tryz.prog 120 #[.func (.func 121) #[] #[.pointer (some ⟨T, 0, none⟩), .pointer (some ⟨Bn, 0, none⟩)]] w fun e w' => ∃ u, e = .returned (.tuple #[u, .int .i64 cnt]) ∧ Wid w' u v ∧ GB T w w' := by
 have hTl := hT.lt
 have hBl : Bn < w.heap.size := World.block_lt_of_cell? w _ hBn
 have hb0 := Bx2.fresh w
 have hn1 := hn0
 have hTS : w.heap.size ≠ T := by omega
 have hW0 : WAt (w.alloc (.cells #[.bool false, .slice none 0 0] 24)) w.heap.size 0 := WAt.lit ⟨_, rfl, Lim.nil w⟩
 have hT0 := hT.ext ((Ext.refl w).alloc (.cells #[.bool false, .slice none 0 0] 24))
 go_enter Tryz.func120, Tryz.ntmps120
 go_wp2_with fail
 go_loopw [4, 3] (fun a b wr => ∃ (i t' G : Nat) (s : Int), a = .int .i64 i ∧ b = .int .i64 i ∧ i + G = F ∧ Hid (atanF n G i t' s = some (v, cnt)) ∧ Hid (Small t') ∧ Hid (WAt wr T (t' : Int)) ∧ Hid (WAt wr w.heap.size s) ∧ Hid (GB T w wr)) (fun a _ _ => F - (intOf a).toNat)
 case atStart => exact ⟨0, t, F, 0, rfl, rfl, by omega, hr, hs, hT0, hW0, GB.ext ((Ext.refl w).alloc _)⟩
 case round =>
  obtain ⟨i, t', G, s, rfl, rfl, hiG, hA, hS, hWT, hWS, hG⟩ := hrel
  obtain ⟨G', rfl, hok, hA'⟩ := atanF_succ hA.out
  have hi6 : i ≤ 1000000 := by omega
  have cB := (hG.out.cell (o := 0) hBl hne).trans hBn
  have hS2 : Hid (Small (t' / (n * n))) := Small.le hS.out (Nat.div_le_self _ _)
  have hSlt := hWS.out.lt
  have hTlt := hWT.out.lt
  have hxs : Small (t' / (2 * i + 1)) := Small.le hS.out (Nat.div_le_self _ _)
  obtain ⟨x, ex⟩ : ∃ x, t' / (2 * i + 1) = x := ⟨_, rfl⟩
  rw [ex] at hA' hxs
  have hsx : Sz (x : Int) := by unfold Sz; rw [Int.natAbs_natCast]; exact hxs
  clear hb0 hW0 hT0 hxs hT hBn
  rcases hA' with ⟨h0, hres⟩ | ⟨h0, hA'⟩
  ·subst h0
   obtain ⟨hv1, hv2⟩ : v = s ∧ cnt = i := by simpa using hres
   subst hv1
   subst hv2
   have hsg : ∀ v w2, Wid w2 v ((0 : Nat) : Int) → Calls Tryz.prog 20 #[v] w2 fun e w' => e = .returned (.int .i64 0) ∧ Ext w2 w' := fun v w2 hv => t_sign v _ w2 hv hsx
   go_wp2_with (first
    | (go_at_call 121; go_loud (with_reducible refine (t_arc1 T Bn cnt t' n _ hWT.out cB hne hi6 hS.out hn1 hnn).mono ?_); rintro e w1 ⟨y1, rfl, hy1, hT1, hg1⟩; rw [ex] at hy1; obtain ⟨ao1, cap1, rfl, hy2⟩ := hy1.open; have hS1 := hWS.out.grown hWT.out.noU hg1 hTS; obtain ⟨aoS, capS, s0, s1, hWidS, hfS⟩ := hS1.open; have s1l := hS1.lt; have hzg := hg1.size)
    | (go_at_call 20; go_loud (with_reducible refine (hsg _ _ (hy2.wid.ext ex_)).mono ?_); rintro e w2 ⟨rfl, hb2⟩; obtain ⟨_, _, ⟨hc2, hf2⟩, hz2⟩ := hb2.c3; (try simp only [wsz] at hz2 hc2 hf2)))
   have hE2 : Ext w1 w2 := ex_
   have hS3 := hS1.ext hE2
   have hnS := hS3.noU
   have hWid2 := (hWidS.ext hE2).box (B := w.heap.size) (j := 0) (x := .bool (decide (v < 0))) hnS
   have hWid3 := hWid2.box (B := w.heap.size) (j := 1) (x := .slice aoS (dig v.natAbs).length capS) (NoU.set hnS (fun z e => by cases e))
   have hG4 : GB T w ((w2.setCell ⟨w.heap.size, 0, none⟩ (.bool (decide (v < 0)))).setCell ⟨w.heap.size, 1, none⟩ (.slice aoS (dig v.natAbs).length capS)) := (((hG.out.trans hg1).trans (GB.ext hE2)).new (Nat.le_refl _) _).new (Nat.le_refl _) _
   refine bodyPost_ret (v := .tuple #[.agg #[.bool (decide (v < 0)), .slice aoS (dig v.natAbs).length capS], .int .i64 cnt]) ?_ rfl ⟨_, rfl, hWid3, hG4⟩
   simp [results, Tryz.results120, go_sem, ↓IntWalk.iteOmega, *]
  ·have hsg : ∀ v w2, Wid w2 v (x : Int) → Calls Tryz.prog 20 #[v] w2 fun e w' => e = .returned (.int .i64 1) ∧ Ext w2 w' := fun v w2 hv => by
    have := t_sign v _ w2 hv hsx
    rwa [cmp_gt (show (0 : Int) < (x : Int) by omega)] at this
   by_cases hev : i % 2 = 0
   ·have hevI : ((i : Int) % 2 == 0) = true := by simp; omega
    rw [if_pos hev] at hA'
    have hok2 := atanF_ok hA'
    go_wp2_with (first
     | (go_at_call 121; go_loud (with_reducible refine (t_arc1 T Bn i t' n _ hWT.out cB hne hi6 hS.out hn1 hnn).mono ?_); rintro e w1 ⟨y1, rfl, hy1, hT1, hg1⟩; rw [ex] at hy1; obtain ⟨ao1, cap1, rfl, hy2⟩ := hy1.open; have hS1 := hWS.out.grown hWT.out.noU hg1 hTS; obtain ⟨aoS, capS, s0, s1, hWidS, hfS⟩ := hS1.open; have s1l := hS1.lt; have hzg := hg1.size)
     | (go_at_call 20; go_loud (with_reducible refine (hsg _ _ (hy2.wid.ext ex_)).mono ?_); rintro e w2 ⟨rfl, hb2⟩; obtain ⟨_, _, ⟨hc2, hf2⟩, hz2⟩ := hb2.c3; (try simp only [wsz] at hz2 hc2 hf2))
     | (go_at_call 58; go_loud (with_reducible refine (t_addZ _ _ s (x : Int) _ (hWidS.ext ex_) (hy2.wid.ext ex_) (okN.sz hok) hsx (okN.sz hok2)).mono ?_); rintro e w3 ⟨y3, rfl, hy3, hb3⟩; obtain ⟨s3, ao3, n3, cap3, rfl, hy4⟩ := hy3.open; obtain ⟨_, _, ⟨hc3, hf3⟩, hz3⟩ := hb3.c3; (try simp only [wsz] at hz3 hc3 hf3)))
    have hE3 : Ext w1 w3 := ex_
    have hS3 := hS1.ext hE3
    have hT3 := hT1.ext hE3
    have hst := Bx2.store hS3.box hy4
    have hnS := hS3.noU
    replace hst : Hid _ := hst
    replace hA' : Hid _ := hA'
    have hT4 : Hid (WAt ((w3.setCell ⟨w.heap.size, 0, none⟩ (.bool s3)).setCell ⟨w.heap.size, 1, none⟩ (.slice ao3 n3 cap3)) T ((t' / (n * n) : Nat) : Int)) := WAt.other (WAt.other hT3 (by omega) hnS) (by omega) (NoU.set hnS (fun z e => by cases e))
    have hG4 : Hid (GB T w ((w3.setCell ⟨w.heap.size, 0, none⟩ (.bool s3)).setCell ⟨w.heap.size, 1, none⟩ (.slice ao3 n3 cap3))) := (((hG.out.trans hg1).trans (GB.ext hE3)).new (Nat.le_refl _) _).new (Nat.le_refl _) _
    go_roundw
    case rel => exact ⟨i + 1, t' / (n * n), G', s + (x : Int), by go_num, by go_num, by omega, hA', hS2, hT4, hst, hG4⟩
    case measure => simp [intOf]; omega
   ·have hevI : ((i : Int) % 2 == 0) = false := by simp; omega
    rw [if_neg hev] at hA'
    have hok2 := atanF_ok hA'
    go_wp2_with (first
     | (go_at_call 121; go_loud (with_reducible refine (t_arc1 T Bn i t' n _ hWT.out cB hne hi6 hS.out hn1 hnn).mono ?_); rintro e w1 ⟨y1, rfl, hy1, hT1, hg1⟩; rw [ex] at hy1; obtain ⟨ao1, cap1, rfl, hy2⟩ := hy1.open; have hS1 := hWS.out.grown hWT.out.noU hg1 hTS; obtain ⟨aoS, capS, s0, s1, hWidS, hfS⟩ := hS1.open; have s1l := hS1.lt; have hzg := hg1.size)
     | (go_at_call 20; go_loud (with_reducible refine (hsg _ _ (hy2.wid.ext ex_)).mono ?_); rintro e w2 ⟨rfl, hb2⟩; obtain ⟨_, _, ⟨hc2, hf2⟩, hz2⟩ := hb2.c3; (try simp only [wsz] at hz2 hc2 hf2))
     | (go_at_call 57; go_loud (with_reducible refine (t_subZ _ _ s (x : Int) _ (hWidS.ext ex_) (hy2.wid.ext ex_) (okN.sz hok) hsx (okN.sz hok2)).mono ?_); rintro e w3 ⟨y3, rfl, hy3, hb3⟩; obtain ⟨s3, ao3, n3, cap3, rfl, hy4⟩ := hy3.open; obtain ⟨_, _, ⟨hc3, hf3⟩, hz3⟩ := hb3.c3; (try simp only [wsz] at hz3 hc3 hf3)))
    have hE3 : Ext w1 w3 := ex_
    have hS3 := hS1.ext hE3
    have hT3 := hT1.ext hE3
    have hst := Bx2.store hS3.box hy4
    have hnS := hS3.noU
    replace hst : Hid _ := hst
    replace hA' : Hid _ := hA'
    have hT4 : Hid (WAt ((w3.setCell ⟨w.heap.size, 0, none⟩ (.bool s3)).setCell ⟨w.heap.size, 1, none⟩ (.slice ao3 n3 cap3)) T ((t' / (n * n) : Nat) : Int)) := WAt.other (WAt.other hT3 (by omega) hnS) (by omega) (NoU.set hnS (fun z e => by cases e))
    have hG4 : Hid (GB T w ((w3.setCell ⟨w.heap.size, 0, none⟩ (.bool s3)).setCell ⟨w.heap.size, 1, none⟩ (.slice ao3 n3 cap3))) := (((hG.out.trans hg1).trans (GB.ext hE3)).new (Nat.le_refl _) _).new (Nat.le_refl _) _
    go_roundw
    case rel => exact ⟨i + 1, t' / (n * n), G', s - (x : Int), by go_num, by go_num, by omega, hA', hS2, hT4, hst, hG4⟩
    case measure => simp [intOf]; omega
theorem T_TB_4 {p : Prop} (h : p := by
 clear hK K hH
 rename_i hH
 try simp only [sx_]
 refine wpAnyH_done c_2 ?_ _
 go_wp2_with fail
 go_meet
 exact ⟨_, rfl, hH, c_5, hst⟩) : p := h
theorem T_TB_3 {p : Prop} (h : p := by
 clear hK K hH
 rename_i hH
 try simp only [sx_]
 refine rh1 2 rfl fun K hK => ?_
 go_simp
 (go_at_call 118; (with_reducible refine (t_shiftU _ 1 p _ hf1 sz1 hp2 hp3).mono ?_); rintro e w2 ⟨y2, rfl, hf2, hx⟩)
 replace hf1 := hf1.ext hx
 replace hbk := hbk.ext hx
 refine hK.out _ _ ?_ fun _ => ?_
 ·exact b_10
 exact T_TB_2) : p := h
theorem T_TB_2 {p : Prop} (h : p := by
 clear hK K hH
 rename_i hH
 try simp only [sx_]
 refine rh1 4 rfl fun K hK => ?_
 go_simp
 (go_at_call 28; (with_reducible refine (t_numZ (n : Int) _ (by omega) (by omega)).mono ?_); rintro e w3 ⟨y3, rfl, hf3, hx⟩)
 replace hf1 := hf1.ext hx
 replace hf2 := hf2.ext hx
 replace hbk := hbk.ext hx
 refine hK.out _ _ ?_ fun _ => ?_
 ·exact b_10
 exact T_TB_1) : p := h
theorem T_TB_1 {p : Prop} (h : p := by
 clear hK K hH
 rename_i hH
 try simp only [sx_]
 refine rh1 5 rfl fun K hK => ?_
 go_simp
 (go_at_call 26; (with_reducible refine (t_div _ _ (2 ^ p) n _ (hf2.natE hpw) hf3.nat hps hns hn0).mono ?_); rintro e w4 ⟨y4, rfl, hf4, hx⟩)
 replace hf1 := hf1.ext hx
 replace hf2 := hf2.ext hx
 replace hf3 := hf3.ext hx
 replace hbk := hbk.ext hx
 obtain ⟨ao4, cap4, rfl, hf5⟩ := hf4.open
 refine hK.out _ _ ?_ fun _ => ?_
 ·exact b_10
 clear hK K hH
 rename_i hH
 try simp only [sx_]
 refine rh1 7 rfl fun K hK => ?_
 obtain ⟨⟨xa, h3a⟩, ⟨xb, h3b⟩, h3f, hnu, hsl⟩ := hbk
 have hst := Bx2.store ⟨⟨xa, h3a⟩, ⟨xb, h3b⟩, h3f, hnu, hsl⟩ hf5.wid
 go_simp
 refine hK.out _ _ ?_ fun _ => ?_
 ·exact b_11
 exact T_TB_4) : p := h
theorem sz1 : Sz 1 := small_bits (k := 1) (by decide) (by decide)
def Ball (w : World) (v : Value) (x r : Int) : Prop := ∃ s u, v = .agg #[.bool s, u, .int .i64 r] ∧ Wid w (.agg #[.bool s, u]) x
theorem Ball.ext {a w : World} {v : Value} {x r : Int} (h : Ball a v x r) (k : Ext a w) : Ball w v x r := by
 obtain ⟨s, u, e, hu⟩ := h; exact ⟨s, u, e, hu.ext k⟩
theorem Ball.open {w : World} {v : Value} {x r : Int} (h : Ball w v x r) : ∃ s ao n cap, v = .agg #[.bool s, .slice ao n cap, .int .i64 r] ∧ Wid w (.agg #[.bool s, .slice ao n cap]) x := by
 obtain ⟨s, u, rfl, hu⟩ := h
 obtain ⟨s', ao, n, cap, e, hw⟩ := hu.open
 cases e
 exact ⟨_, ao, n, cap, rfl, hw⟩
theorem noU3 {a b c : Value} (ha : ∀ z, a ≠ .int .u32 z) (hb : ∀ z, b ≠ .int .u32 z) (hc : ∀ z, c ≠ .int .u32 z) (o : Nat) (z : Int) : (#[a, b, c] : Array Value)[o]? ≠ some (.int .u32 z) := by
 match o with
 | 0 => simpa using ha z
 | 1 => simpa using hb z
 | 2 => simpa using hc z
 | o + 3 => simp
theorem t_arctan (n p F : Nat) (v : Int) (cnt : Nat) (w : World) (hn0 : 0 < n) (hn : n ≤ 1000) (hp : p ≤ 1000) (hF : F ≤ 100000) (hcnt : cnt ≤ 100000) (hr : atanF n F 0 (2 ^ p / n) 0 = some (v, cnt)) :
    Calls Tryz.prog 62 #[.int .i64 n, .int .i64 p] w fun e w' => ∃ u, e = .returned u ∧ Ball w' u v (2 * (cnt : Int) + 4) ∧ Ext w w' := by
 have hps : Small (2 ^ p) := small_bits (k := p + 1) (Nat.pow_lt_pow_right (by decide) (by omega)) (by omega)
 have hpw : (1 : Int) * 2 ^ p = ((2 ^ p : Nat) : Int) := by rw [Int.one_mul, Int.natCast_pow]; rfl
 have hp3 : Sz ((1 : Int) * 2 ^ p) := by rw [hpw]; unfold Sz; rw [Int.natAbs_natCast]; exact hps
 have hp2 : p ≤ 131072 := by omega
 have hns : Small n := small_bits (k := 64) (by omega) (by decide)
 have hnn : n * n ≤ 1000000 := Nat.mul_le_mul hn hn
 have hnn0 : 0 < n * n := Nat.mul_pos hn0 hn0
 have hts : Small (2 ^ p / n) := Small.le hps (Nat.div_le_self _ _)
 have cW0 : ((w.alloc (.cells #[.int .i64 n] 2)).alloc (.cells #[.bool false, .slice none 0 0, .int .i64 0] 57)).cell? ⟨w.heap.size, 0, none⟩ = some (.int .i64 n) := by simp [go_sem, ↓IntWalk.iteOmega]
 have hpl : (p : Int) ≤ 1000 := by omega
 clear hp
 go_enter Tryz.func62, Tryz.ntmps62
 have hmf : ∀ (fn : Fn) (first cap : Array Value) (w : World), (Instr.makeFunc fn first cap).run Tryz.prog w = .ok (.func fn first cap) w := fun _ _ _ _ => rfl
 go_upto_region 1 with fail
 go_cut [5, 8, 10, 12, 13] (fun s5 s8 s10 s12 s13 wx => ∃ g, s5 = .pointer (some ⟨g, 0, none⟩) ∧ Ext ((w.alloc (.cells #[.int .i64 n] 2)).alloc (.cells #[.bool false, .slice none 0 0, .int .i64 0] 57)) wx ∧ ((w.alloc (.cells #[.int .i64 n] 2)).alloc (.cells #[.bool false, .slice none 0 0, .int .i64 0] 57)).heap.size ≤ g ∧ WAt wx g ((2 ^ p / n : Nat) : Int))
 case first =>
  refine wp_region_held_drew (S := (fun w0 => Ext ((w.alloc (.cells #[.int .i64 n] 2)).alloc (.cells #[.bool false, .slice none 0 0, .int .i64 0] 57)) w0)) c_2 ?_ (fun hH => ?_)
  ·exact (Ext.refl _).drew
  try simp only [sx_]
  refine sK 1 ?_
  refine tk 3 rfl (by intro w0 hSw; have q0 := (Ext.cells hSw).1 w.heap.size 0 c_6; rw [cW0] at q0; go_simp; try with_reducible rfl) ?_
  try simp only [sx_]
  refine rh2 0 6 rfl rfl (fun K hK => ?_) fun K hK => ?_
  ·go_simp
   (go_at_call 28; (with_reducible refine (t_numZ 1 _ (by omega) (by omega)).mono ?_); rintro e w1 ⟨y1, rfl, hf1, hx⟩)
   refine hK.out _ _ ?_ fun _ => ?_
   ·exact b_10
   clear hK K hH
   rename_i hH
   try simp only [sx_]
   refine rh2 2 6 rfl rfl (fun K hK => ?_) fun K hK => ?_
   ·go_simp
    (go_at_call 118; (with_reducible refine (t_shiftU _ 1 p _ hf1 sz1 hp2 hp3).mono ?_); rintro e w2 ⟨y2, rfl, hf2, hx⟩)
    replace hf1 := hf1.ext hx
    refine hK.out _ _ ?_ fun _ => ?_
    ·exact b_10
    clear hK K hH
    rename_i hH
    try simp only [sx_]
    refine rh2 4 6 rfl rfl (fun K hK => ?_) fun K hK => ?_
    ·go_simp
     (go_at_call 28; (with_reducible refine (t_numZ (n : Int) _ (by omega) (by omega)).mono ?_); rintro e w3 ⟨y3, rfl, hf3, hx⟩)
     replace hf1 := hf1.ext hx
     replace hf2 := hf2.ext hx
     refine hK.out _ _ ?_ fun _ => ?_
     ·exact b_10
     clear hK K hH
     rename_i hH
     try simp only [sx_]
     refine rh2 5 6 rfl rfl (fun K hK => ?_) fun K hK => ?_
     ·go_simp
      (go_at_call 26; (with_reducible refine (t_div _ _ (2 ^ p) n _ (hf2.natE hpw) hf3.nat hps hns hn0).mono ?_); rintro e w4 ⟨y4, rfl, hf4, hx⟩)
      replace hf1 := hf1.ext hx
      replace hf2 := hf2.ext hx
      replace hf3 := hf3.ext hx
      obtain ⟨ao4, cap4, rfl, hf5⟩ := hf4.open
      refine hK.out _ _ ?_ fun _ => ?_
      ·exact b_10
      clear hK K hH
      rename_i hH
      try simp only [sx_]
      refine rh1 6 rfl fun K hK => ?_
      have hold := hH
      obtain ⟨hbk, hge⟩ := fresh_of (W := ((w.alloc (.cells #[.int .i64 n] 2)).alloc (.cells #[.bool false, .slice none 0 0, .int .i64 0] 57))) hH
      (try simp only [size_drew, World.size_alloc] at hbk hge)
      go_simp
      refine hK.out _ _ ?_ fun _ => ?_
      ·exact b_14
      clear hK K hH
      rename_i hH
      try simp only [sx_]
      refine rh1 7 rfl fun K hK => ?_
      have hst := WAt.lit hf5.wid
      go_simp
      refine hK.out _ _ ?_ fun _ => ?_
      ·(try dsimp only); exact Ext.alloc hold _
      exact T_TB_4
     ·have hold := hH
      obtain ⟨hbk, hge⟩ := fresh_of (W := ((w.alloc (.cells #[.int .i64 n] 2)).alloc (.cells #[.bool false, .slice none 0 0, .int .i64 0] 57))) hH
      (try simp only [size_drew, World.size_alloc] at hbk hge)
      replace hf1 := hf1.ext ((Ext.refl _).alloc (.cells #[.bool false, .slice none 0 0] 24))
      replace hf2 := hf2.ext ((Ext.refl _).alloc (.cells #[.bool false, .slice none 0 0] 24))
      replace hf3 := hf3.ext ((Ext.refl _).alloc (.cells #[.bool false, .slice none 0 0] 24))
      go_simp
      refine hK.out _ _ ?_ fun _ => ?_
      ·exact b_14
      exact T_TB_1
    ·have hold := hH
     obtain ⟨hbk, hge⟩ := fresh_of (W := ((w.alloc (.cells #[.int .i64 n] 2)).alloc (.cells #[.bool false, .slice none 0 0, .int .i64 0] 57))) hH
     (try simp only [size_drew, World.size_alloc] at hbk hge)
     replace hf1 := hf1.ext ((Ext.refl _).alloc (.cells #[.bool false, .slice none 0 0] 24))
     replace hf2 := hf2.ext ((Ext.refl _).alloc (.cells #[.bool false, .slice none 0 0] 24))
     go_simp
     refine hK.out _ _ ?_ fun _ => ?_
     ·exact b_14
     exact T_TB_2
   ·have hold := hH
    obtain ⟨hbk, hge⟩ := fresh_of (W := ((w.alloc (.cells #[.int .i64 n] 2)).alloc (.cells #[.bool false, .slice none 0 0, .int .i64 0] 57))) hH
    (try simp only [size_drew, World.size_alloc] at hbk hge)
    replace hf1 := hf1.ext ((Ext.refl _).alloc (.cells #[.bool false, .slice none 0 0] 24))
    go_simp
    refine hK.out _ _ ?_ fun _ => ?_
    ·exact b_14
    exact T_TB_3
  ·have hold := hH
   obtain ⟨hbk, hge⟩ := fresh_of (W := ((w.alloc (.cells #[.int .i64 n] 2)).alloc (.cells #[.bool false, .slice none 0 0, .int .i64 0] 57))) hH
   (try simp only [size_drew, World.size_alloc] at hbk hge)
   go_simp
   refine hK.out _ _ ?_ fun _ => ?_
   ·exact b_14
   clear hK K hH
   rename_i hH
   try simp only [sx_]
   refine rh1 0 rfl fun K hK => ?_
   go_simp
   (go_at_call 28; (with_reducible refine (t_numZ 1 _ (by omega) (by omega)).mono ?_); rintro e w1 ⟨y1, rfl, hf1, hx⟩)
   replace hbk := hbk.ext hx
   refine hK.out _ _ ?_ fun _ => ?_
   ·exact b_10
   exact T_TB_3
 case rest =>
  obtain ⟨g, rfl, hE, hgW, hWg⟩ := hcut
  have hB0 : NoU ((w.alloc (.cells #[.int .i64 n] 2)).alloc (.cells #[.bool false, .slice none 0 0, .int .i64 0] 57)) (w.heap.size + 1) := by
   have := NoU.new (w.alloc (.cells #[.int .i64 n] 2)) #[.bool false, .slice none 0 0, .int .i64 0] 57 (noU3 (by simp) (by simp) (by simp))
   simpa using this
  have hnu := hB0.ext (by simp) hE
  have hgl := hWg.lt
  have hgU := hWg.noU
  have hz := hE.size
  simp only [World.size_alloc] at hz hgW
  have cN : wc.cell? ⟨w.heap.size, 0, none⟩ = some (.int .i64 n) := (hE.cells.1 _ 0 c_6).trans cW0
  have b0 : wc.cell? ⟨w.heap.size + 1, 0, none⟩ = some (.bool false) := (hE.cells.1 _ 0 (by simp)).trans c_8
  have b1 : wc.cell? ⟨w.heap.size + 1, 1, none⟩ = some (.slice none 0 0) := (hE.cells.1 _ 1 (by simp)).trans c_8
  have b2 : wc.cell? ⟨w.heap.size + 1, 2, none⟩ = some (.int .i64 0) := (hE.cells.1 _ 2 (by simp)).trans c_8
  have b3 : ∀ o, wc.frozen? ⟨w.heap.size + 1, o, none⟩ = false := fun o => (hE.cells.2 _ o (by simp)).trans c_8
  have hsum := t_sumA g w.heap.size (2 ^ p / n) n F v cnt wc hWg cN (by omega) hts hnn0 hnn hF hr
  have hEw : Ext w wc := Ext.trans (((Ext.refl w).alloc _).alloc _) hE
  generalize 2 ^ p / n = t0 at *
  go_wp2_with (go_at_call 120; go_loud ((with_reducible refine hsum.mono ?_); rintro e w5 ⟨y5, rfl, hy5, hg5⟩; obtain ⟨s5, ao5, n5, cap5, rfl, hy6⟩ := hy5.open; have k1 := (hg5.cell (by omega) (by omega)).trans b0; have k2 := (hg5.cell (by omega) (by omega)).trans b1; have k3 := (hg5.cell (by omega) (by omega)).trans b2; have k4 := fun o => (hg5.frozen (o := o) (show w.heap.size + 1 < wc.heap.size by omega) (by omega)).trans (b3 o); have k5 := hg5.size; replace hnu := hnu.grown hg5 (by omega) (by omega)))
  have hE5 : Ext w w5 := GB.pre hEw hg5 (by omega)
  refine bodyPost_ret (v := .agg #[.bool s5, .slice ao5 n5 cap5, .int .i64 (2 * (cnt : Int) + 4)]) ?_ rfl ⟨_, rfl, ⟨s5, .slice ao5 n5 cap5, rfl, ?_⟩, ?_⟩
  ·simp [results, Tryz.results62, go_sem, ↓IntWalk.iteOmega, *]
  ·obtain ⟨u6, e6, hu6⟩ := hy6
   cases e6
   refine ⟨_, rfl, ?_⟩
   repeat (first | with_reducible exact hu6 | with_reducible refine Lim.box ?_ ?_ | with_reducible refine NoU.set ?_ (fun z e => by cases e) | with_reducible exact hnu | with_reducible refine NoU.alloc ?_ (by first | omega | (simp only [wsz]; omega)) _ _ | with_reducible refine Lim.alloc ?_ _)
  ·exact ex_
end Go.Proofs.YtogblocakccbgaaGreat
