/- Balls: facts, boxes, obligations. -/
import Derived.Test.YtogblocakccbgaaGreatU17
import Derived.Test.YtogblocakccbgaaGreatU13
set_option linter.unusedSimpArgs false
set_option linter.unusedVariables false
set_option maxRecDepth 100000
set_option maxHeartbeats 4000000
theorem T_REGB_1 {p : Prop} (h : p := by
 rw [List.map_append, List.nodup_append]
 refine ⟨h.nd, by simp, fun x hx y hy => ?_⟩
 obtain ⟨z, hz, rfl⟩ := List.mem_map.1 hx
 have := lt z hz
 simp only [List.map_cons, List.map_nil, List.mem_singleton] at hy
 omega) : p := h
namespace Go.Proofs.YtogblocakccbgaaGreat
open Go.RowKit
theorem Ball.grown {T : Nat} {a b : World} {v : Value} {x r : Int} (h : Ball a v x r) (hT : NoU a T) (k : GB T a b) : Ball b v x r := by
 obtain ⟨s, u, e, hu⟩ := h; exact ⟨s, u, e, hu.grown hT k⟩
def VF.ball (x r : Int) : VF := ⟨fun v w => Ball w v x r, fun _ _ _ h k => h.ext k, fun _ _ _ _ h hT k => h.grown hT k⟩
theorem Bx3.grown {T g : Nat} {a b : World} (h : Bx3 a g) (k : GB T a b) (hne : g ≠ T) : Bx3 b g := by
 obtain ⟨⟨x, h1⟩, ⟨y, h2⟩, ⟨z, h3⟩, h4, h5, h6⟩ := h
 exact ⟨⟨x, (k.cell h6 hne).trans h1⟩, ⟨y, (k.cell h6 hne).trans h2⟩, ⟨z, (k.cell h6 hne).trans h3⟩, fun o => (k.frozen h6 hne).trans (h4 o), h5.grown k h6 hne, Nat.lt_of_lt_of_le h6 k.size⟩
structure BatP (w : World) (g : Nat) (x r : Int) : Prop where
 c : ∃ s u, w.cell? ⟨g, 0, none⟩ = some (.bool s) ∧ w.cell? ⟨g, 1, none⟩ = some u ∧ Wid w (.agg #[.bool s, u]) x
 r : w.cell? ⟨g, 2, none⟩ = some (.int .i64 r)
 f : ∀ o, w.frozen? ⟨g, o, none⟩ = false
 n : NoU w g
 lt : g < w.heap.size
theorem BatP.ext {g : Nat} {a b : World} {x r : Int} (h : BatP a g x r) (k : Ext a b) : BatP b g x r := by
 obtain ⟨s, u, h0, h1, h2⟩ := h.c
 exact ⟨⟨s, u, (k.cells.1 g 0 h.lt).trans h0, (k.cells.1 g 1 h.lt).trans h1, h2.ext k⟩, (k.cells.1 g 2 h.lt).trans h.r, fun o => (k.cells.2 g o h.lt).trans (h.f o), h.n.ext h.lt k, Nat.lt_of_lt_of_le h.lt k.size⟩
theorem BatP.grown {T g : Nat} {a b : World} {x r : Int} (h : BatP a g x r) (hT : NoU a T) (k : GB T a b) (hne : g ≠ T) : BatP b g x r := by
 obtain ⟨s, u, h0, h1, h2⟩ := h.c
 exact ⟨⟨s, u, (k.cell h.lt hne).trans h0, (k.cell h.lt hne).trans h1, h2.grown hT k⟩, (k.cell h.lt hne).trans h.r, fun o => (k.frozen h.lt hne).trans (h.f o), h.n.grown k h.lt hne, Nat.lt_of_lt_of_le h.lt k.size⟩
def BF.bat (x r : Int) : BF := ⟨fun g w => BatP w g x r, fun _ _ _ h k => h.ext k, fun _ _ _ _ h hT k hne => h.grown hT k hne, fun _ _ h => h.n, fun _ _ h => h.lt⟩
theorem BatP.bx {g : Nat} {w : World} {x r : Int} (h : BatP w g x r) : Bx3 w g := by
 obtain ⟨s, u, h0, h1, -⟩ := h.c
 exact ⟨⟨_, h0⟩, ⟨_, h1⟩, ⟨_, h.r⟩, h.f, h.n, h.lt⟩
theorem own_bx3 {g : Nat} {w : World} {a b c : Value} (h : (BF.own [a, b, c]).p g w) : Bx3 w g := ⟨⟨_, h.1 0 _ rfl⟩, ⟨_, h.1 1 _ rfl⟩, ⟨_, h.1 2 _ rfl⟩, h.2.1, h.2.2.1, h.2.2.2⟩
theorem own_bx2 {g : Nat} {w : World} {a b : Value} (h : (BF.own [a, b]).p g w) : Bx2 w g := ⟨⟨_, h.1 0 _ rfl⟩, ⟨_, h.1 1 _ rfl⟩, h.2.1, h.2.2.1, h.2.2.2⟩
theorem Bx3.put {w : World} {g : Nat} {s : Bool} {ao : Option Addr} {n cap : Nat} {x r : Int} (h : Bx3 w g) (hw : Wid w (.agg #[.bool s, .slice ao n cap]) x) : BatP (((w.setCell ⟨g, 0, none⟩ (.bool s)).setCell ⟨g, 1, none⟩ (.slice ao n cap)).setCell ⟨g, 2, none⟩ (.int .i64 r)) g x r := by
 obtain ⟨⟨a, h1⟩, ⟨b, h2⟩, ⟨c, h3⟩, h4, h5, h6⟩ := h
 have n1 := NoU.set (j := 0) (B' := g) (x := .bool s) h5 (fun z e => by cases e)
 have n2 := NoU.set (j := 1) (B' := g) (x := .slice ao n cap) n1 (fun z e => by cases e)
 have n3 := NoU.set (j := 2) (B' := g) (x := .int .i64 r) n2 (fun z e => by cases e)
 refine ⟨⟨s, .slice ao n cap, ?_, ?_, ((hw.box (j := 0) (x := .bool s) h5).box (j := 1) (x := .slice ao n cap) n1).box (j := 2) (x := .int .i64 r) n2⟩, ?_, fun o => by simp only [World.frozen?_setCell]; exact h4 o, n3, by simpa using h6⟩
 ·simp [go_sem, ↓IntWalk.iteOmega, h1]
 ·simp [go_sem, ↓IntWalk.iteOmega, h2]
 ·simp [go_sem, ↓IntWalk.iteOmega, h3]
theorem BatP.putW {w : World} {g : Nat} {s : Bool} {ao : Option Addr} {n cap : Nat} {x y r : Int} (h : BatP w g x r) (hw : Wid w (.agg #[.bool s, .slice ao n cap]) y) : BatP ((w.setCell ⟨g, 0, none⟩ (.bool s)).setCell ⟨g, 1, none⟩ (.slice ao n cap)) g y r := by
 obtain ⟨s0, u0, h1, h2, -⟩ := h.c
 have n1 := NoU.set (j := 0) (B' := g) (x := .bool s) h.n (fun z e => by cases e)
 have n2 := NoU.set (j := 1) (B' := g) (x := .slice ao n cap) n1 (fun z e => by cases e)
 have hr := h.r
 refine ⟨⟨s, .slice ao n cap, ?_, ?_, (hw.box (j := 0) (x := .bool s) h.n).box (j := 1) (x := .slice ao n cap) n1⟩, ?_, fun o => by simp only [World.frozen?_setCell]; exact h.f o, n2, by simpa using h.lt⟩
 ·simp [go_sem, ↓IntWalk.iteOmega, h1]
 ·simp [go_sem, ↓IntWalk.iteOmega, h2]
 ·simp [go_sem, ↓IntWalk.iteOmega, hr]
section
variable {ops : Array Oper} {V : Nat → VF} {B : List BR} {Kp : World → Prop} {a0 : Act} {n0 : Nat} {i : Nat} {o : Oper}
theorem ob_getN {x : Operand} (g : Nat) (q r : Int) (p : Option Nat) (hc : ChkP ops a0 B) (hop : o.op = .load 24 x)
    (h : ∀ (vs : Nat → Value) (gs : Nat → Nat) (w : World), Ctx ops V B Kp n0 i o vs gs w → BatP w g q r) (ha : Opd ops V a0 o x (.pointer (some ⟨g, 0, none⟩)) p := by first | exact ⟨fun _ => by kernel_rfl, rfl, by kernel_rfl⟩ | exact fun _ => by kernel_rfl) (hV : (V i).p = (VF.wid q).p := by rfl)
    (hg : Gd ops V o := by first | exact .inl rfl | exact .inr ⟨_, _, rfl, rfl, by kernel_rfl⟩) (hfr : free (B.map BR.key) i = true := by kernel_rfl) : ObI Tryz.prog ops V B Kp a0 n0 i o :=
  ob_val hc (fun vs gs w ρ hr c => by
    obtain ⟨s, u, e0, e1, e2⟩ := (h vs gs w c).c
    refine ⟨.agg #[.bool s, u], ?_, by rw [hV]; exact e2⟩
    have h5 := ha.get c hr
    obtain ⟨dst, op, ty, pos, af, gd⟩ := o
    dsimp only at hop
    subst hop
    clear h e2 c hr ha
    go_simp) hg hfr
theorem ob_getB {x : Operand} (g : Nat) (q r : Int) (hc : ChkP ops a0 B) (hop : o.op = .load 57 x)
    (h : ∀ (vs : Nat → Value) (gs : Nat → Nat) (w : World), Ctx ops V B Kp n0 i o vs gs w → BatP w g q r) (hx : ∀ vs, rho ops a0 o vs x = .pointer (some ⟨g, 0, none⟩) := by intro _; kernel_rfl) (hV : (V i).p = (VF.ball q r).p := by rfl)
    (hg : Gd ops V o := by first | exact .inl rfl | exact .inr ⟨_, _, rfl, rfl, by kernel_rfl⟩) (hfr : free (B.map BR.key) i = true := by kernel_rfl) : ObI Tryz.prog ops V B Kp a0 n0 i o :=
  ob_val hc (fun vs gs w ρ hr c => by
    have hb := h vs gs w c
    have e3 := hb.r
    obtain ⟨s, u, e0, e1, e2⟩ := hb.c
    refine ⟨.agg #[.bool s, u, .int .i64 r], ?_, by rw [hV]; exact ⟨s, u, rfl, e2⟩⟩
    have h5 := (hr x).trans (hx vs)
    obtain ⟨dst, op, ty, pos, af, gd⟩ := o
    dsimp only at hop
    subst hop
    clear h e2 c hr hb
    go_simp) hg hfr
theorem ob_buildB {y z : Operand} {q r : Int} (j : Nat) (p : Option Nat) (hc : ChkP ops a0 B) (hop : o.op = .build 57 #[(0, y), (1, z)]) (hy : ∀ vs, rho ops a0 o vs y = vs j := by intro _; kernel_rfl) (hj : (needs o).contains j = true := by kernel_rfl) (hVj : (V j).p = (VF.wid q).p := by rfl)
    (hz : Opd ops V a0 o z (.int .i64 r) p := by first | exact ⟨fun _ => by kernel_rfl, rfl, by kernel_rfl⟩ | exact fun _ => by kernel_rfl) (hV : (V i).p = (VF.ball q r).p := by rfl)
    (hg : Gd ops V o := by first | exact .inl rfl | exact .inr ⟨_, _, rfl, rfl, by kernel_rfl⟩) (hfr : free (B.map BR.key) i = true := by kernel_rfl) : ObI Tryz.prog ops V B Kp a0 n0 i o :=
  ob_val hc (fun vs gs w ρ hr c => by
    have h := c.v j hj
    rw [hVj] at h
    obtain ⟨s, ao, l, cap, e, hw⟩ := Wid.open (show Wid w (vs j) q from h)
    have e1 := ((hr y).trans (hy vs)).trans e
    have e2 := hz.get c hr
    refine ⟨.agg #[.bool s, .slice ao l cap, .int .i64 r], ?_, by rw [hV]; exact ⟨s, _, rfl, hw⟩⟩
    obtain ⟨dst, op, ty, pos, af, gd⟩ := o
    dsimp only at hop
    subst hop
    clear c h hw hr hz
    go_simp) hg hfr
theorem ob_putB {y z : Operand} {n : Nat} {x : BR} {q r : Int} (hx : B[n]? = some x) (j : Nat) (hc : ChkP ops a0 B) (hop : o.op = .store 57 y z) (m : Nat := 0) (hst : x.st[m]? = some i := by rfl) (hb : x.bf (m + 1) = BF.bat q r := by rfl) (hl : late o x.st m = true := by kernel_rfl)
    (hy : BoxPtr ops V a0 o x 0 y := by first | exact ⟨rfl, fun _ => by kernel_rfl, by kernel_rfl⟩ | exact ⟨none, fun _ => by kernel_rfl⟩)
    (hz : ∀ vs, rho ops a0 o vs z = vs j := by intro _; kernel_rfl) (hj : (needs o).contains j = true := by kernel_rfl) (hVj : (V j).p = (VF.ball q r).p := by rfl) (h4 : ∀ g w, (x.bf m).p g w → Bx3 w g := by first | exact fun _ _ h => own_bx3 h | exact fun _ _ h => BatP.bx h)
    (hV : ∀ v w, (V i).p v w := by exact fun _ _ => trivial) (hg : Gd ops V o := by first | exact .inl rfl | exact .inr ⟨_, _, rfl, rfl, by kernel_rfl⟩) : ObI Tryz.prog ops V B Kp a0 n0 i o :=
  ob_of hc hg fun vs gs w ρ hr c X hX => by
    obtain ⟨h1, hb0⟩ := hy.get c hx hst hl
    have hv := c.v j hj
    rw [hVj] at hv
    have hz' := (hr z).trans (hz vs)
    obtain ⟨s, ao, l, cap, e, hw⟩ := Ball.open (show Ball w (vs j) q r from hv)
    have e1 := (hr y).trans h1
    have e2 := hz'.trans e
    have hs := (h4 _ _ hb0).put (r := r) hw
    obtain ⟨⟨xa, ea⟩, ⟨xb, eb⟩, ⟨xc, ec⟩, ef, en, el⟩ := h4 _ _ hb0
    obtain ⟨dst, op, ty, pos, af, gd⟩ := o
    dsimp only at hop
    subst hop
    have e : (execOp ρ { dst := dst, op := .store 57 y z, type := ty, pos := pos, after := af, guard := gd }).run Tryz.prog w = .ok .skip (((w.setCell ⟨gs n, 0, none⟩ (.bool s)).setCell ⟨gs n, 1, none⟩ (.slice ao l cap)).setCell ⟨gs n, 2, none⟩ (.int .i64 r)) := by
      clear hs hw c hX h1 hr hz' hv
      go_simp
    rw [e]
    exact hX.out _ _ (hV _ _) (.store n m x hx hst ((((GB.refl (gs n) w).set _).set _).set _) (by rw [hb]; exact hs))
theorem ob_putBN {y z : Operand} {n : Nat} {x : BR} {q q0 r : Int} (hx : B[n]? = some x) (j : Nat) (hc : ChkP ops a0 B) (hop : o.op = .store 24 y z) (m : Nat := 0) (hst : x.st[m]? = some i := by rfl) (hb0 : x.bf m = BF.bat q0 r := by rfl) (hb : x.bf (m + 1) = BF.bat q r := by rfl) (hl : late o x.st m = true := by kernel_rfl)
    (hy : BoxPtr ops V a0 o x 0 y := by first | exact ⟨rfl, fun _ => by kernel_rfl, by kernel_rfl⟩ | exact ⟨none, fun _ => by kernel_rfl⟩)
    (hz : ∀ vs, rho ops a0 o vs z = vs j := by intro _; kernel_rfl) (hj : (needs o).contains j = true := by kernel_rfl) (hVj : (V j).p = (VF.wid q).p := by rfl)
    (hV : ∀ v w, (V i).p v w := by exact fun _ _ => trivial) (hg : Gd ops V o := by first | exact .inl rfl | exact .inr ⟨_, _, rfl, rfl, by kernel_rfl⟩) : ObI Tryz.prog ops V B Kp a0 n0 i o :=
  ob_of hc hg fun vs gs w ρ hr c X hX => by
    obtain ⟨h1, hbx⟩ := hy.get c hx hst hl
    rw [hb0] at hbx
    have hv := c.v j hj
    rw [hVj] at hv
    have hz' := (hr z).trans (hz vs)
    obtain ⟨s, ao, l, cap, e, hw⟩ := Wid.open (show Wid w (vs j) q from hv)
    have e1 := (hr y).trans h1
    have e2 := hz'.trans e
    have hs := BatP.putW hbx hw
    obtain ⟨⟨xa, ea⟩, ⟨xb, eb⟩, ⟨xc, ec⟩, ef, en, el⟩ := BatP.bx hbx
    obtain ⟨dst, op, ty, pos, af, gd⟩ := o
    dsimp only at hop
    subst hop
    have e : (execOp ρ { dst := dst, op := .store 24 y z, type := ty, pos := pos, after := af, guard := gd }).run Tryz.prog w = .ok .skip ((w.setCell ⟨gs n, 0, none⟩ (.bool s)).setCell ⟨gs n, 1, none⟩ (.slice ao l cap)) := by
      clear hs hw c hX h1 hr hz' hv hbx
      go_simp
    rw [e]
    exact hX.out _ _ (hV _ _) (.store n m x hx hst (((GB.refl (gs n) w).set _).set _) (by rw [hb]; exact hs))
end
theorem KBd.push {w W W' : World} {L : List (Nat × BF)} (h : KBd w L W) (k : Ext W W') (bf : BF) (hb : bf.p W.heap.size W') : KBd w (L ++ [(W.heap.size, bf)]) W' := by
 have h2 := h.ext k
 have lt : ∀ x ∈ L, x.1 < W.heap.size := fun x hx => x.2.lt _ _ (h.b.mem x hx)
 refine ⟨h2.e, Bxs.of fun x hx => ?_, ?_, fun x hx => ?_⟩
 ·rcases List.mem_append.1 hx with hx | hx
  ·exact h2.b.mem x hx
  ·rw [List.mem_singleton.1 hx]; exact hb
 ·exact T_REGB_1
 ·rcases List.mem_append.1 hx with hx | hx
  ·exact h.ge x hx
  ·rw [List.mem_singleton.1 hx]; exact h.e.size
theorem BatP.new {w : World} {s : Bool} {u : Value} {x r : Int} (h : Wid w (.agg #[.bool s, u]) x) : BatP (w.alloc (.cells #[.bool s, u, .int .i64 r] 57)) w.heap.size x r := by
 obtain ⟨s', ao, n, cap, e, hw⟩ := Wid.open h
 obtain ⟨rfl, rfl⟩ : s = s' ∧ u = .slice ao n cap := by injection e with e3; simpa using e3
 exact ⟨⟨s, _, by simp [go_sem], by simp [go_sem], hw.ext ((Ext.refl w).alloc _)⟩, by simp [go_sem], fun o => by simp [go_sem], NoU.new w _ _ (noU3 (by simp) (by simp) (by simp)), by simp⟩
section
variable {ops : Array Oper} {V : Nat → VF} {B : List BR} {Kp : World → Prop} {a0 : Act} {n0 : Nat} {i : Nat} {o : Oper}
theorem ob_callF {f : Nat} {x : Operand} {caps : List Value} {args : Array Operand} {tys : Array TypeId} (j : Nat) (av : (Nat → Value) → List Value) (hc : ChkP ops a0 B) (hop : o.op = .call ⟨.value x, args, tys⟩) (hx : ∀ vs, rho ops a0 o vs x = vs j := by intro _; kernel_rfl) (hVj : (V j).p = (VF.eq (.func (.func f) #[] caps.toArray)).p := by rfl) (hj : (needs o).contains j = true := by kernel_rfl)
    (h : ∀ (vs : Nat → Value) (gs : Nat → Nat) (w : World), Ctx ops V B Kp n0 i o vs gs w → Calls Tryz.prog f (av vs ++ caps).toArray w fun e w' => ∃ u, e = .returned u ∧ (V i).p u w' ∧ Ext w w')
    (hg : Gd ops V o := by first | exact .inl rfl | exact .inr ⟨_, _, rfl, rfl, by kernel_rfl⟩) (has : ∀ vs, args.toList.map (rho ops a0 o vs) = av vs := by intro vs; kernel_rfl) (hfr : free (B.map BR.key) i = true := by kernel_rfl) (hp : plainFn Tryz.prog f = true := by kernel_rfl) : ObI Tryz.prog ops V B Kp a0 n0 i o :=
  ob_of hc hg fun vs gs w ρ hr c X hX => by
    have hv := c.v j hj
    rw [hVj] at hv
    have e0 : ρ x = _ := ((hr x).trans (hx vs)).trans hv
    have e : args.map ρ = (av vs).toArray := by
      rw [← has vs, ← List.map_toArray, Array.toArray_toList]
      exact Array.map_congr_left fun y _ => hr y
    have hcl := h vs gs w c
    obtain ⟨dst, op, ty, pos, af, gd⟩ := o
    dsimp only at hop
    subst hop
    clear c hr hv
    go_simp
    rw [run_enter hp]
    refine Calls.mono hcl fun e w' he => ?_
    obtain ⟨u, rfl, hu, hb⟩ := he
    exact hX.out _ _ hu (.plain hfr hb)
end
theorem KBd.new {w W : World} {L : List (Nat × BF)} (h : KBd w L W) (l : List Value) (T : TypeId) (hl : ∀ v ∈ l, ∀ z, v ≠ .int .u32 z) : KBd w (L ++ [(W.heap.size, BF.own l)]) (W.alloc (.cells l.toArray T)) := by
 have h2 := h.ext ((Ext.refl W).alloc (.cells l.toArray T))
 have lt : ∀ x ∈ L, x.1 < W.heap.size := fun x hx => x.2.lt _ _ (h.b.mem x hx)
 refine ⟨h2.e, Bxs.of fun x hx => ?_, ?_, fun x hx => ?_⟩
 ·rcases List.mem_append.1 hx with hx | hx
  ·exact h2.b.mem x hx
  ·rw [List.mem_singleton.1 hx]; exact own_new W l T hl
 ·exact T_REGB_1
 ·rcases List.mem_append.1 hx with hx | hx
  ·exact h.ge x hx
  ·rw [List.mem_singleton.1 hx]; exact h.e.size
theorem KBp.new {p : Nat} {w W : World} {L : List (Nat × BF)} (h : KBp p w L W) (l : List Value) (T : TypeId) (hl : ∀ v ∈ l, ∀ z, v ≠ .int .u32 z) : KBp p w (L ++ [(W.heap.size, BF.own l)]) (W.alloc (.cells l.toArray T)) := by
 have h2 := h.ext ((Ext.refl W).alloc (.cells l.toArray T))
 have lt : ∀ x ∈ L, x.1 < W.heap.size := fun x hx => x.2.lt _ _ (h.b.mem x hx)
 refine ⟨h2.e, Bxs.of fun x hx => ?_, ?_, fun x hx => ?_⟩
 ·rcases List.mem_append.1 hx with hx | hx
  ·exact h2.b.mem x hx
  ·rw [List.mem_singleton.1 hx]; exact own_new W l T hl
 ·exact T_REGB_1
 ·rcases List.mem_append.1 hx with hx | hx
  ·exact h.ge x hx
  ·rw [List.mem_singleton.1 hx]; exact .inl h.e.size
structure Fr2 (T K : Nat) (a b : World) : Prop where
 os : b.os = a.os
 tape : b.tape = a.tape
 output : b.output = a.output
 size : a.heap.size ≤ b.heap.size
 block : ∀ k, k < a.heap.size → k ≠ T → k ≠ K → b.heap[k]? = a.heap[k]?
theorem Fr2.trans {T K : Nat} {a b c : World} (h : Fr2 T K a b) (k : Fr2 T K b c) : Fr2 T K a c :=
 ⟨k.os.trans h.os, k.tape.trans h.tape, k.output.trans h.output, Nat.le_trans h.size k.size, fun j hj h1 h2 => (k.block j (Nat.lt_of_lt_of_le hj h.size) h1 h2).trans (h.block j hj h1 h2)⟩
theorem Fr2.ext {T K : Nat} {a b : World} (h : Ext a b) : Fr2 T K a b := ⟨h.os, h.tape, h.output, h.size, fun j hj _ _ => h.block j hj⟩
theorem Fr2.gbT {T K : Nat} {a b : World} (h : GB T a b) : Fr2 T K a b := ⟨h.os, h.tape, h.output, h.size, fun j hj h1 _ => h.block j hj (by simpa using h1)⟩
theorem Fr2.gbK {T K : Nat} {a b : World} (h : GB K a b) : Fr2 T K a b := ⟨h.os, h.tape, h.output, h.size, fun j hj _ h2 => h.block j hj (by simpa using h2)⟩
theorem Fr2.new {T K B j : Nat} {a b : World} (h : Fr2 T K a b) (hB : a.heap.size ≤ B) (v : Value) : Fr2 T K a (b.setCell ⟨B, j, none⟩ v) := by
 have g : GB B b (b.setCell ⟨B, j, none⟩ v) := (GB.refl B b).set v
 exact ⟨g.os.trans h.os, g.tape.trans h.tape, g.output.trans h.output, Nat.le_trans h.size g.size, fun k hk h1 h2 => (g.block k (Nat.lt_of_lt_of_le hk h.size) c_6).trans (h.block k hk h1 h2)⟩
theorem Fr2.cell {T K B o : Nat} {a b : World} (h : Fr2 T K a b) (hB : B < a.heap.size) (h1 : B ≠ T) (h2 : B ≠ K) : b.cell? ⟨B, o, none⟩ = a.cell? ⟨B, o, none⟩ := World.cell?_of_block (h.block B hB h1 h2)
theorem Fr2.frozen {T K B o : Nat} {a b : World} (h : Fr2 T K a b) (hB : B < a.heap.size) (h1 : B ≠ T) (h2 : B ≠ K) : b.frozen? ⟨B, o, none⟩ = a.frozen? ⟨B, o, none⟩ := World.frozen?_of_block (h.block B hB h1 h2)
theorem Fr2.own {T K g : Nat} {a b : World} {l : List Value} (h : Fr2 T K a b) (hg : (BF.own l).p g a) (h1 : g ≠ T) (h2 : g ≠ K) : (BF.own l).p g b :=
 ⟨fun k v hv => (h.cell hg.2.2.2 h1 h2).trans (hg.1 k v hv), fun o => (h.frozen hg.2.2.2 h1 h2).trans (hg.2.1 o), fun o z e => hg.2.2.1 o z ((h.cell hg.2.2.2 h1 h2).symm.trans e), Nat.lt_of_lt_of_le hg.2.2.2 h.size⟩
theorem Fr2.below {T K : Nat} {a b c : World} (h : Ext a b) (k : Fr2 T K b c) (hT : a.heap.size ≤ T) (hK : a.heap.size ≤ K) : Ext a c :=
 ⟨k.os.trans h.os, k.tape.trans h.tape, k.output.trans h.output, Nat.le_trans h.size k.size, fun j hj => (k.block j (Nat.lt_of_lt_of_le hj h.size) (by omega) (by omega)).trans (h.block j hj)⟩
def KpW (T K : Nat) (a b : World) : Prop := ∀ g z, g ≠ T → g ≠ K → WAt a g z → WAt b g z
end Go.Proofs.YtogblocakccbgaaGreat
namespace Go.Proofs.YtogblocakccbgaaGreat
open Go.RowKit
theorem t_ser1 (T Y Q K i t y k p : Nat) (w : World) (hT0 : WAt w T (t : Int)) (hY : WAt w Y (y : Int)) (hQ : w.cell? ⟨Q, 0, none⟩ = some (.int .i64 p)) (hKb : (BF.own [.int .i64 k]).p K w) (hYT : Y ≠ T) (hQT : Q ≠ T) (hKT : K ≠ T)
    (hs1 : Small t) (hs2 : Small y) (hs3 : Small (t * y)) (hk : k ≤ 1000000) (hp0 : 0 < p) (hp : p ≤ 1000) :
    Calls Tryz.prog 178 #[.int .i64 i, .pointer (some ⟨T, 0, none⟩), .pointer (some ⟨Y, 0, none⟩), .pointer (some ⟨Q, 0, none⟩), .pointer (some ⟨K, 0, none⟩)] w fun e w' => ∃ u, e = .returned u ∧ Wid w' u (t : Int) ∧ WAt w' T ((t * y / 2 ^ p / ((k + 1) * (k + 2)) : Nat) : Int) ∧ (BF.own [.int .i64 ((k + 2 : Nat) : Int)]).p K w' ∧ Fr2 T K w w' ∧ KpW T K w w' := by
 have hQl : Q < w.heap.size := World.block_lt_of_cell? w _ hQ
 have hK0 := hKb.1 0 _ rfl
 have hKf := hKb.2.1
 have hKl := hKb.2.2.2
 have hTl := hT0.lt
 have hsz : ∀ n : Nat, Small n → Sz (n : Int) := fun n h => by unfold Sz; rw [Int.natAbs_natCast]; exact h
 have hkk : (k + 1) * (k + 2) ≤ 1000001 * 1000002 := Nat.mul_le_mul (by omega) (by omega)
 have hw3 : IntKind.i64.wrap (((k : Int) + 1) * ((k : Int) + 2)) = ((k : Int) + 1) * ((k : Int) + 2) := by
  have e : ((k : Int) + 1) * ((k : Int) + 2) = (((k + 1) * (k + 2) : Nat) : Int) := by push_cast; rfl
  rw [e, IntKind.wrap_i64]; omega
 have hmul : ∀ (w1 : World) (u1 u2 : Value), Wid w1 u1 (t : Int) → Wid w1 u2 (y : Int) → Calls Tryz.prog 27 #[u1, u2] w1 fun e w' => ∃ u, e = .returned u ∧ Wid w' u ((t * y : Nat) : Int) ∧ Ext w1 w' := fun w1 u1 u2 a b => by
  have := t_mulZ u1 u2 _ _ w1 a b (hsz _ hs1) (hsz _ hs2) (by rw [← Int.natCast_mul]; exact hsz _ hs3)
  rw [← Int.natCast_mul] at this
  exact this
 have hsh : ∀ (w1 : World) (u1 u2 : Value), Wid w1 u1 ((t * y : Nat) : Int) → u2 = .int .i64 (-(p : Int)) → Calls Tryz.prog 118 #[u1, u2] w1 fun e w' => ∃ u, e = .returned u ∧ Wid w' u ((t * y / 2 ^ p : Nat) : Int) ∧ Ext w1 w' := fun w1 u1 u2 a b => by
  subst b
  have := t_shiftD u1 _ p w1 a (hsz _ hs3) hp0 (by omega)
  have e : ((t * y : Nat) : Int) / 2 ^ p = ((t * y / 2 ^ p : Nat) : Int) := by rw [Int.natCast_ediv, Int.natCast_pow]; rfl
  rw [e] at this
  exact this
 have hnm : ∀ (w1 : World) (u1 : Value), u1 = .int .i64 (((k : Int) + 1) * ((k : Int) + 2)) → Calls Tryz.prog 28 #[u1] w1 fun e w' => ∃ u, e = .returned u ∧ Wid w' u (((k + 1) * (k + 2) : Nat) : Int) ∧ Ext w1 w' := fun w1 u1 a => by
  subst a
  have e : ((k : Int) + 1) * ((k : Int) + 2) = (((k + 1) * (k + 2) : Nat) : Int) := by push_cast; rfl
  rw [e]
  exact t_numZ _ w1 (by omega) (by omega)
 have hdv : ∀ (w1 : World) (u1 u2 : Value), Wid w1 u1 ((t * y / 2 ^ p : Nat) : Int) → Wid w1 u2 (((k + 1) * (k + 2) : Nat) : Int) → Calls Tryz.prog 26 #[u1, u2] w1 fun e w' => ∃ u, e = .returned u ∧ Wid w' u ((t * y / 2 ^ p / ((k + 1) * (k + 2)) : Nat) : Int) ∧ Ext w1 w' := fun w1 u1 u2 a b => by
  refine (t_div u1 u2 _ _ w1 a.nat b.nat (Small.le hs3 (Nat.div_le_self _ _)) (small_bits (k := 64) (by omega) (by decide)) (Nat.mul_pos (by omega) (by omega))).mono ?_
  rintro e w' ⟨u, rfl, hu, h⟩
  exact ⟨u, rfl, hu.wid, h⟩
 have I0 : KBp T w [(T, BF.wat (t : Int))] w := ⟨GB.refl T w, ⟨hT0, trivial⟩, by simp, fun x hx => by rw [List.mem_singleton.1 hx]; exact .inr rfl⟩
 have I := I0.new [.bool false, .slice none 0 0] 24 (by simp)
 simp only [List.nil_append, List.cons_append] at I
 clear I0
 go_enter Tryz.func178, Tryz.ntmps178
 go_upto_region 1 with fail
 refine wp_regP [] [⟨1, some 2, BF.b2, (BF.wat (t : Int))⟩] (fun z_ => ([VF.wid ((t : Int))] : List VF).getD z_ VF.any) I (fun hc => ⟨?_, ?_, ?_, trivial⟩) (fun vs gl W hK0 hv hp => ?_)
 ·exact ob_getW T ((t : Int)) hc rfl fun vs gs w1 c => c.b0 0
 ·exact b_15
 ·exact ob_putW (n := 2) rfl 0 hc rfl 0
 have p0 : vs 1 = .pointer (some ⟨gl 0, 0, none⟩) := hp 0 _ rfl
 simp only [putS, Nat.reduceAdd, Act.put, List.setIfInBounds_toArray, List.set_cons_zero, List.set_cons_succ, p0]
 obtain ⟨g7, e90⟩ : ∃ n, gl 0 = n := ⟨_, rfl⟩
 simp only [kb_, e90] at hK0
 rw [e90]
 replace I := hK0
 clear hK0 hv hp gl p0 e90
 go_upto_region 2 with fail
 refine wp_regP [[(13, BF.wat ((t * y / 2 ^ p / ((k + 1) * (k + 2)) : Nat) : Int))]] [] (fun z_ => ([VF.wid ((t : Int)), VF.wid ((y : Int)), VF.wid (((t * y : Nat) : Int)), VF.eq (.int .i64 (p)), VF.eq (.int .i64 (-(p : Int))), VF.wid (((t * y / 2 ^ p : Nat) : Int)), VF.eq (.int .i64 (k)), VF.eq (.int .i64 ((k : Int) + 1)), VF.eq (.int .i64 (k)), VF.eq (.int .i64 ((k : Int) + 2)), VF.eq (.int .i64 (((k : Int) + 1) * ((k : Int) + 2))), VF.wid ((((k + 1) * (k + 2) : Nat) : Int)), VF.wid (((t * y / 2 ^ p / ((k + 1) * (k + 2)) : Nat) : Int))] : List VF).getD z_ VF.any) I (fun hc => ⟨?_, ?_, ?_, ?_, ?_, ?_, ?_, ?_, ?_, ?_, ?_, ?_, ?_, ?_, trivial⟩) (fun vs gl W hK0 hv hp => ?_)
 ·exact ob_getW T ((t : Int)) hc rfl fun vs gs w1 c => c.b0 0
 ·exact ob_getW Y ((y : Int)) hc rfl fun vs gs w1 c => hY.grown hT0.noU c.k hYT
 ·exact ob_call (fun v => [v 0, v 1]) hc rfl fun vs gs w1 c => hmul _ _ _ (c.v 0) (c.v 1)
 ·exact ob_ld (x := .tmp 3) (g := Q) (f := 0) (u := .int .i64 (p)) none hc fun vs gs w1 c => (c.k.cell hQl hQT).trans hQ
 ·exact ob_e1 (x := .tmp 12) (a := (.int .i64 (p))) (u := .int .i64 (-(p : Int))) (some 3) hc (hs := by intro ρ w1 h; go_simp; first | done | (simp only [IntKind.wrap_i64]; omega))
 ·exact ob_call (fun v => [v 2, v 4]) hc rfl fun vs gs w1 c => hsh _ _ _ (c.v 2) (c.v 4)
 ·exact ob_ld (x := .tmp 4) (g := K) (f := 0) (u := .int .i64 (k)) none hc fun vs gs w1 c => (c.k.cell hKl hKT).trans hK0
 ·exact ob_e2 (x := .tmp 15) (y := .const (.int .i64 1)) (a := (.int .i64 (k))) (b := .int .i64 1) (u := .int .i64 ((k : Int) + 1)) (some 6) none hc (hs := by intro ρ w1 h k; go_simp; first | done | (simp only [IntKind.wrap_i64]; omega))
 ·exact ob_ld (x := .tmp 4) (g := K) (f := 0) (u := .int .i64 (k)) none hc fun vs gs w1 c => (c.k.cell hKl hKT).trans hK0
 ·exact ob_e2 (x := .tmp 17) (y := .const (.int .i64 2)) (a := (.int .i64 (k))) (b := .int .i64 2) (u := .int .i64 ((k : Int) + 2)) (some 8) none hc (hs := by intro ρ w1 h k; go_simp; first | done | (simp only [IntKind.wrap_i64]; omega))
 ·exact ob_e2 (x := .tmp 16) (y := .tmp 18) (a := (.int .i64 ((k : Int) + 1))) (b := (.int .i64 ((k : Int) + 2))) (u := .int .i64 (((k : Int) + 1) * ((k : Int) + 2))) (some 7) (some 9) hc (hs := by intro ρ w1 h k; go_simp; first | done | exact hw3)
 ·exact ob_call (fun v => [v 10]) hc rfl fun vs gs w1 c => hnm _ _ (c.v 10)
 ·exact ob_call (fun v => [v 5, v 11]) hc rfl fun vs gs w1 c => hdv _ _ _ (c.v 5) (c.v 11)
 ·exact ob_putW (n := 0) rfl 12 hc rfl 0
 simp only [putS, Nat.reduceAdd, Act.put, List.setIfInBounds_toArray, List.set_cons_zero, List.set_cons_succ]
 simp only [kb_] at hK0
 replace I := hK0
 clear hK0 hv hp gl
 have hTW : WAt W T _ := I.at 0
 obtain ⟨sx, ux, x0, x1, x2, x3, x4, x5⟩ := (show WAt W g7 (t : Int) from I.at 2)
 obtain ⟨sx', ao, nx, cx, e2, -⟩ := Wid.open x2
 obtain ⟨rfl, rfl⟩ : sx = sx' ∧ ux = .slice ao nx cx := by injection e2 with e3; simpa using e3
 clear e2
 have r0 := I.own 1 0
 have r1 := I.own 1 1
 have rb : (BF.own [.bool false, .slice none 0 0]).p w.heap.size W := I.at 1
 have rf : ∀ o, W.frozen? ⟨w.heap.size, o, none⟩ = false := rb.2.1
 have kn := I.e.frozen (o := 0) hKl hKT
 have hKW : W.cell? ⟨K, 0, none⟩ = some (.int .i64 k) := (I.e.cell hKl hKT).trans hK0
 have hKfW : ∀ o, W.frozen? ⟨K, o, none⟩ = false := fun o => (I.e.frozen hKl hKT).trans (hKf o)
 have hKn : NoU W K := hKb.2.2.1.grown I.e hKl hKT
 have hg7 : w.heap.size ≤ g7 := by
  rcases I.ge _ (List.mem_cons_of_mem _ (List.mem_cons_of_mem _ (List.mem_cons_self ..))) with h | h
  ·exact h
  ·have := I.nd; simp at this; omega
 have hg72 : g7 ≠ w.heap.size := by have := I.nd; simp at this; omega
 have hGB := I.e
 have hlt := rb.2.2.2
 clear I
 have hK2 : IntKind.i64.wrap ((k : Int) + 2) = (k : Int) + 2 := by rw [IntKind.wrap_i64]; omega
 have n0 := rb.2.2.1
 have n1 := NoU.set (j := 0) (B' := K) (x := .int .i64 ((k : Int) + 2)) n0 (fun z e => by cases e)
 have n2 := NoU.set (j := 0) (B' := w.heap.size) (x := .bool sx) n1 (fun z e => by cases e)
 have y1 := ((Wid.box (B := K) (j := 0) (x := .int .i64 ((k : Int) + 2)) x2 hKn).box (B := w.heap.size) (j := 0) (x := .bool sx) n1).box (B := w.heap.size) (j := 1) (x := .slice ao nx cx) n2
 have y2 := ((WAt.other (B := K) (j := 0) (v := .int .i64 ((k : Int) + 2)) hTW (Ne.symm hKT) hKn).other (B := w.heap.size) (j := 0) (v := .bool sx) (by omega) n1).other (B := w.heap.size) (j := 1) (v := .slice ao nx cx) (by omega) n2
 have y3 : (BF.own [.int .i64 ((k : Int) + 2)]).p K (((W.setCell ⟨K, 0, none⟩ (.int .i64 ((k : Int) + 2))).setCell ⟨w.heap.size, 0, none⟩ (.bool sx)).setCell ⟨w.heap.size, 1, none⟩ (.slice ao nx cx)) := by
  have z1 : (BF.own [.int .i64 k]).p K W := (BF.own _).gb _ _ _ _ hKb hT0.noU hGB hKT
  have z2 := own_set z1 (k := 0) (v := .int .i64 ((k : Int) + 2)) (by simp) (by simp)
  exact (BF.own _).gb _ _ _ _ z2 n1 (((GB.refl _ _).set _).set _) (by omega)
 have y4 : Fr2 T K w (((W.setCell ⟨K, 0, none⟩ (.int .i64 ((k : Int) + 2))).setCell ⟨w.heap.size, 0, none⟩ (.bool sx)).setCell ⟨w.heap.size, 1, none⟩ (.slice ao nx cx)) := (((Fr2.gbT hGB).trans (Fr2.gbK ((GB.refl K W).set _))).new (Nat.le_refl _) _).new (Nat.le_refl _) _
 have y5 : KpW T K w (((W.setCell ⟨K, 0, none⟩ (.int .i64 ((k : Int) + 2))).setCell ⟨w.heap.size, 0, none⟩ (.bool sx)).setCell ⟨w.heap.size, 1, none⟩ (.slice ao nx cx)) := fun g z h1 h2 hg => by
  have := hg.lt
  exact (((hg.grown hT0.noU hGB h1).other h2 hKn).other (by omega) n1).other (by omega) n2
 have c1 : ((k + 2 : Nat) : Int) = (k : Int) + 2 := by push_cast; rfl
 clear hTW x2 hGB hKb hT0 hY hmul hsh hnm hdv n0 n1 n2 hKn
 go_wp2_with fail
 refine bodyPost_ret (v := .agg #[.bool sx, .slice ao nx cx]) ?_ rfl ⟨_, rfl, y1, y2, (by first | exact y3 | (rw [c1]; exact y3)), y4, y5⟩
 simp [results, Tryz.results178, go_sem, ↓IntWalk.iteOmega, *]
end Go.Proofs.YtogblocakccbgaaGreat
