/- Limbs: a multiple taken away. -/
import Derived.Test.YtcalonhphknbbaaJ12
import Derived.Test.YtcalonhphknbbaaJ07
import Derived.Test.YtcalonhphknbbaaJ04
import Derived.Laws.CopyOwn
set_option linter.unusedSimpArgs false
set_option linter.unusedVariables false
namespace Go.Proofs.Ytcalonhphknbbaa
open Go.RowKit

theorem O32.grow {w w' : World} {base g n cap : Nat} {xs : List Int} (h : O32 w base g n cap xs) (k : w.grownBy w' none) : O32 w' base g n cap xs :=
  World.ownsRow.kept h k (Or.inr (by simp [Value.ownBlock]))
theorem grown_set {a w : World} {g k : Nat} (h : a.grownBy w (some g)) (x : Value) : a.grownBy (w.setCell ⟨g, k, none⟩ x) (some g) := by
  refine ⟨h.os, h.tape, h.output, by simpa using h.size, fun i hi hne => ?_⟩
  rw [← h.block i hi hne]
  simp only [World.setCell]
  rw [Array.getElem?_modify, if_neg (fun e => hne (by rw [e]))]
theorem grown_ext {a b c : World} {g : Nat} (h : a.grownBy b (some g)) (k : Ext b c) : a.grownBy c (some g) :=
  ⟨k.os.trans h.os, k.tape.trans h.tape, k.output.trans h.output, Nat.le_trans h.size k.size, fun i hi hne => (k.block i (Nat.lt_of_lt_of_le hi h.size)).trans (h.block i hi hne)⟩
/-- No limb of the slice lies in block g. -/
def Off (v : Value) (g : Nat) : Prop := ∀ a n c, v = .slice (some a) n c → a.block ≠ g
theorem Off.mk {b o n c g : Nat} (h : b ≠ g) : Off (.slice (some ⟨b, o, none⟩) n c) g := fun a _ _ e => by cases e; exact h
theorem Off.none {n c g : Nat} : Off (.slice none n c) g := fun a _ _ e => by cases e
theorem Lim.grownAt {w w' : World} {v : Value} {xs : List Int} {g : Nat} (h : Lim w v xs) (k : w.grownBy w' (some g)) (ho : Off v g) : Lim w' v xs := by
  refine ⟨h.1, ?_⟩
  rcases h.2 with h | ⟨b, o, cap, hv, h1, h2, h3, h4⟩
  · exact Or.inl h
  · refine Or.inr ⟨b, o, cap, hv, h1, h2, Nat.lt_of_lt_of_le h3 k.size, fun i hi => ?_⟩
    have hb : b ≠ g := ho _ _ _ hv
    rw [World.cell?_of_block (k.block b h3 (by simpa using hb))]
    exact h4 i hi
theorem drop_set {ps us : List Int} {j : Nat} {z : Int} (hl : ps.length = j) (hj : j < us.length) : (ps ++ us.drop j).set j z = (ps ++ [z]) ++ us.drop (j + 1) := by
  rw [List.set_append_right _ _ (by omega), hl, Nat.sub_self, List.drop_eq_getElem_cons hj, List.set_cons_zero, List.append_assoc]; rfl
theorem drop_get {ps us : List Int} {j : Nat} (hl : ps.length = j) : (ps ++ us.drop j).getD j 0 = us.getD j 0 := by
  rw [List.getD_eq_getElem?_getD, List.getElem?_append_right (by omega), hl, Nat.sub_self, List.getElem?_drop, Nat.add_zero, ← List.getD_eq_getElem?_getD]
/-- One round of 'subtract'. -/
theorem sub_step {U Y ps : List Int} {i : Nat} {q b c u y : Int} (hv : val ps - BB ^ i * (b + c) = val (U.take i) - q * val (Y.take i)) (hl : ps.length = i) (hu : U.getD i 0 = u) (hy : Y.getD i 0 = y) :
    val (ps ++ [(u - (c + q * y) % 4294967296 - b) % 4294967296]) - BB ^ (i + 1) * (-((u - (c + q * y) % 4294967296 - b) / 4294967296) + (c + q * y) / 4294967296) = val (U.take (i + 1)) - q * val (Y.take (i + 1)) := by
  rw [val_take_succ', val_take_succ', hu, hy, val_append, hl]
  simp only [val]
  have hm := lim_mod (c + q * y)
  have h4 : BB = 4294967296 := rfl
  rw [h4] at hm hv ⊢
  generalize (c + q * y) % 4294967296 = t at hm ⊢
  generalize (c + q * y) / 4294967296 = c' at hm ⊢
  have hm2 := lim_mod (u - t - b)
  rw [h4] at hm2
  generalize (u - t - b) % 4294967296 = p at hm2 ⊢
  generalize (u - t - b) / 4294967296 = d at hm2 ⊢
  rw [Int.pow_succ]
  generalize (4294967296 : Int) ^ i = C at *
  generalize val (U.take i) = V at *
  generalize val (Y.take i) = W at *
  generalize val ps = Z at *
  have e1 : C * (t + 4294967296 * c') = C * (c + q * y) := by rw [hm]
  have e2 : C * (p + 4294967296 * d) = C * (u - t - b) := by rw [hm2]
  grind
theorem sub_lim {q y c b u : Int} (hq : U32 q) (hy : U32 y) (hc : U32 c) (hb : 0 ≤ b ∧ b ≤ 1) (hu : U32 u) :
    0 ≤ c + q * y ∧ c + q * y < 18446744073709551616 ∧ U32 ((c + q * y) % 4294967296) ∧ U32 ((c + q * y) / 4294967296) ∧ 0 ≤ -((u - (c + q * y) % 4294967296 - b) / 4294967296) ∧ -((u - (c + q * y) % 4294967296 - b) / 4294967296) ≤ 1 := by
  have h := prod_bound hq hy
  have hm := U32.mod (c + q * y)
  unfold U32 at *
  generalize q * y = Q at *
  refine ⟨by omega, by omega, hm, by omega, by omega, by omega⟩
theorem prod_lim {q y : Int} (hq : U32 q) (hy : U32 y) : 0 ≤ q * y ∧ q * y < 18446744073709551616 := by
  have h := prod_bound hq hy
  omega
set_option maxRecDepth 100000 in
set_option maxHeartbeats 4000000 in
theorem w_subtract (g cap : Nat) (U Y : List Int) (q : Int) (vb : Value) (w : World) (hU : O32 w 0 g (Y.length + 1) cap U) (hb : Lim w vb Y) (ho : Off vb g) (hUb : Lb U) (hq : U32 q) (hY : Y.length ≤ 100000) :
    Calls Try.prog 94 #[.slice (some ⟨g, 0, none⟩) (Y.length + 1) cap, vb, .int .u32 q] w fun e w' => ∃ U', e = .returned (.bool (decide (q * val Y ≤ val U))) ∧ O32 w' 0 g (Y.length + 1) cap U' ∧ Lb U' ∧ (q * val Y ≤ val U → val U' = val U - q * val Y) ∧ w.grownBy w' (some g) := by
  have lY := hb.lb
  have hUl := hU.len
  obtain ⟨aoB, bB, oB, cB, rfl, b1, b2, b3, b4, b5, b6⟩ := hb.view
  have hge : w.grownBy w (some g) := World.grownBy.refl _ _
  go_enter Try.func94, Try.ntmps94
  go_wp2_with fail
  go_loopw [7, 8, 14] (fun c b i wr => ∃ (j : Nat) (z t : Int) (ps : List Int), j ≤ Y.length ∧ c = .int .u64 z ∧ b = .int .u32 t ∧ i = .int .i64 j ∧ U32 z ∧ 0 ≤ t ∧ t ≤ 1 ∧ ps.length = j ∧ Lb ps ∧ val ps - BB ^ j * (t + z) = val (U.take j) - q * val (Y.take j) ∧
      Hid (O32 wr 0 g (Y.length + 1) cap (ps ++ U.drop j)) ∧ Hid (w.grownBy wr (some g))) (fun _ _ i _ => Y.length - (intOf i).toNat)
  case atStart => exact ⟨0, 0, 0, [], Nat.zero_le _, rfl, rfl, rfl, ⟨by decide, by decide⟩, by decide, by decide, rfl, Lb.nil, by simp [val], hU, hge⟩
  case round =>
    obtain ⟨j, z, t, ps, hj, rfl, rfl, rfl, hz, t0, t1, hpl, hpb, hv, HR, HE⟩ := hrel
    have hcu := HR.out.cell (k := j) (by omega)
    rw [drop_get hpl] at hcu
    have hfu := HR.out.frozen j
    have hgl := HR.out.parts
    have huU : U32 (U.getD j 0) := hUb.getD j
    obtain ⟨u, eu⟩ : ∃ u, U.getD j 0 = u := ⟨_, rfl⟩
    rw [eu] at hcu huU
    by_cases hjx : j < Y.length
    · have eB := b1 (by omega)
      subst eB
      have hne : bB ≠ g := ho _ _ _ rfl
      have hcb := (World.cell?_of_block (a := ⟨bB, oB + j, none⟩) (HE.out.block bB (b4 (by omega)) (by simpa using hne))).trans (b5 j hjx)
      have hyU : U32 (Y.getD j 0) := lY.getD j
      obtain ⟨y, ey⟩ : ∃ y, Y.getD j 0 = y := ⟨_, rfl⟩
      rw [ey] at hcb hyU
      have hst := sub_step hv hpl eu ey
      obtain ⟨l1, l2, l3, l4, l5, l6⟩ := sub_lim hq hyU hz ⟨t0, t1⟩ huU
      have l7 := prod_lim hq hyU
      have hw1 : IntKind.u64.wrap q = q := u64_small hq.1 (by unfold U32 at hq; omega)
      have hw2 : IntKind.u64.wrap y = y := u64_small hyU.1 (by unfold U32 at hyU; omega)
      have hw3 : IntKind.u64.wrap (q * y) = q * y := u64_small l7.1 l7.2
      have hw4 : IntKind.u64.wrap (z + q * y) = z + q * y := u64_small l1 l2
      have hz0 := hz
      have hu0 := huU
      have hset := HR.out.set j ((u - (z + q * y) % 4294967296 - t) % 4294967296)
      rw [drop_set hpl (by omega)] at hset
      have hes := grown_set (k := j) HE.out (.int .u32 ((u - (z + q * y) % 4294967296 - t) % 4294967296))
      replace hset : Hid _ := hset
      replace hes : Hid _ := hes
      replace hst : Hid _ := hst
      clear eu ey hv b5
      go_wp2_with (go_at_call 84; (with_reducible refine (w_sub32 u _ t _ huU l3 ⟨t0, t1⟩).mono ?_); rintro e w2 ⟨rfl, rfl⟩)
      go_roundw
      case rel => exact ⟨j + 1, _, _, ps ++ [(u - (z + q * y) % 4294967296 - t) % 4294967296], hjx, rfl, rfl, by go_num, l4, l5, l6, by simp [hpl], (hpb.snoc (U32.mod _) : Lb _), hst.out, hset, hes⟩
      case measure => simp [intOf]; omega
    · have hjl : j = Y.length := by omega
      subst hjl
      have hpn := left_end (zs := ps) (z := (u - z - t) % 4294967296) Y.length hpl
      have hset := HR.out.set Y.length ((u - z - t) % 4294967296)
      rw [drop_set hpl (by omega), List.drop_eq_nil_of_le (by omega), List.append_nil] at hset
      have hes := grown_set (k := Y.length) HE.out (.int .u32 ((u - z - t) % 4294967296))
      have hlb : Lb (ps ++ [(u - z - t) % 4294967296]) := hpb.snoc (U32.mod _)
      have hvU : val U = val (U.take Y.length) + BB ^ Y.length * u := by
        have := val_take_succ' U Y.length
        rw [List.take_of_length_le (by omega), eu] at this; exact this
      have hmod := lim_mod (u - z - t)
      have hlo := val_nonneg hlb
      have hhi := val_lt hlb
      rw [List.length_append, hpl, List.length_singleton] at hhi
      obtain ⟨V, eV⟩ : ∃ V, val (ps ++ [(u - z - t) % 4294967296]) = V := ⟨_, rfl⟩
      have h0 : 0 ≤ -((u - z - t) / 4294967296) ∧ -((u - z - t) / 4294967296) ≤ 1 := by unfold U32 at huU hz; omega
      obtain ⟨bo, ebo⟩ : ∃ bo, -((u - z - t) / 4294967296) = bo := ⟨_, rfl⟩
      have hmain : val (ps ++ [(u - z - t) % 4294967296]) - BB ^ (Y.length + 1) * bo = val U - q * val Y := by
        rw [hpn, hvU, Int.pow_succ]
        rw [List.take_length] at hv
        have h4 : BB = 4294967296 := rfl
        rw [h4] at hmod hv ⊢
        generalize (u - z - t) % 4294967296 = p at hmod ⊢
        have hmm : u - z - t = p - 4294967296 * bo := by omega
        generalize (4294967296 : Int) ^ Y.length = C at *
        have e : C * (u - z - t) = C * (p - 4294967296 * bo) := by rw [hmm]
        grind
      rw [ebo] at h0
      rw [eV] at hmain hlo hhi
      have hdec : decide (q * val Y ≤ val U) = decide (bo = 0) := by
        have p1 : (0 : Int) < BB ^ (Y.length + 1) := Int.pow_pos (by decide)
        rcases (show bo = 0 ∨ bo = 1 by omega) with rfl | rfl
        · simp only [Int.mul_zero] at hmain; simp; omega
        · simp only [Int.mul_one] at hmain
          simp; omega
      have hres : q * val Y ≤ val U → val (ps ++ [(u - z - t) % 4294967296]) = val U - q * val Y := fun h => by
        rw [decide_eq_true h] at hdec
        have : bo = 0 := of_decide_eq_true hdec.symm
        subst this; rw [eV]; simp only [Int.mul_zero] at hmain; omega
      replace hset : Hid _ := hset
      replace hes : Hid _ := hes
      replace hres : Hid _ := hres
      have hzs : z % 4294967296 = z := by unfold U32 at hz; omega
      clear hmain hpn hv hlo hhi hmod hvU eu
      have hz0 := hz
      have hu0 := huU
      unfold U32 at hz
      go_wp2_with (go_at_call 84; (with_reducible refine (w_sub32 u z t _ huU hz0 ⟨t0, t1⟩).mono ?_); rintro e w2 ⟨rfl, rfl⟩)
      have hd2 : decide (q * val Y ≤ val U) = (bo == 0) := hdec
      rw [hd2]
      go_ret
      exact ⟨_, rfl, hset.out, hlb, hres.out, hes.out⟩
end Go.Proofs.Ytcalonhphknbbaa

/- Limbs copied into a row of the call's own; a copy that is the call's own. -/
namespace Go.Proofs.Ytcalonhphknbbaa
open Go.RowKit

theorem row_take {α : Type} {L B : List α} {off m n : Nat} (hn : n ≤ L.length) (hf : off + m ≤ n) (hB : B.length = m) : (L.take off ++ (B ++ L.drop (off + m))).take n = (L.take n).take off ++ (B ++ (L.take n).drop (off + m)) := by
  have h1 : (L.take off).length = off := by rw [List.length_take]; omega
  rw [List.take_append, h1, List.take_take, Nat.min_eq_right (show off ≤ n by omega), List.take_take, Nat.min_eq_left (show off ≤ n by omega), List.take_append, hB, List.take_of_length_le (l := B) (by omega), List.drop_take, Nat.sub_sub]
/-- Only a guard: the next operation is a 'copy'. -/
theorem at_copy {P : Program} {w : World} {ops : Array Oper} {rest : List Oper} {a : Act} {Q : Exit → Act → World → Prop} {x y : Operand} {ts : Array TypeId} {dst : Option Tmp} {ty : TypeId} {pos : String} {af : Array Edge} {g : Option (Nat × Bool)}
    (h : wpList P ops Q (⟨dst, .call ⟨.builtin .copy, #[x, y], ts⟩, ty, pos, af, g⟩ :: rest) a w) : wpList P ops Q (⟨dst, .call ⟨.builtin .copy, #[x, y], ts⟩, ty, pos, af, g⟩ :: rest) a w := h
/-- 'copy' into a row of limbs. -/
theorem wpList_copy32 {w : World} {ops : Array Oper} {rest : List Oper} {o : Oper} {a : Act} {Q : Exit → Act → World → Prop} (hgd : o.guard = none) (d s : Operand)
    (ho : o.op = .call { callee := .builtin .copy, args := #[d, s], argTypes := #[23, 23] })
    (base g off n cap dCap m c : Nat) (ad : Addr) (U R : List Int) (hd : a.eval d = .slice (some ⟨g, off, none⟩) m dCap) (hs : a.eval s = .slice (some ad) m c) (hU : O32 w base g n cap U) (hR : R.length = m)
    (hsrc : ∀ j, j < m → w.cell? (ad.add j) = some (.int .u32 (R.getD j 0))) (hfit : off + m ≤ n)
    (h : ∀ w', O32 w' base g n cap (U.take off ++ (R ++ U.drop (off + m))) → w.grownBy w' (some g) → wpList Try.prog ops Q rest (a.put o.dst (goInt m)) w') :
    wpList Try.prog ops Q (o :: rest) a w := by
  have hUl := hU.len
  rcases hU.2 with ⟨e, _⟩ | ⟨g', cap', cur, hv, hb, hg, hnc, hcm, hcs, ht⟩
  · cases e
  · cases hv
    have hsz : (Try.prog.info? 81).map (·.size) = some 1 := by
      obtain ⟨i, hi, -, h1, -⟩ := info_parts info81
      rw [hi]; simp [h1]
    have hcl : (R.map (Value.int .u32)).length = m := by simp [hR]
    refine wpList_copy_own hgd d s 23 23 ho 81 Try.underlying23 hsz g off m dCap ad m c hd hs cur 81 hg (R.map (Value.int .u32)) (by simp [hR]) ?_ (by rw [hcl]; omega) (ints_oneCell .u32 R) ?_
    · intro j v hj
      rw [List.getElem?_map] at hj
      cases hx : R[j]? with
      | none => rw [hx] at hj; cases hj
      | some x =>
        rw [hx] at hj
        have hjl : j < R.length := (List.getElem?_eq_some_iff.1 hx).1
        rw [hsrc j (by omega), List.getD_eq_getElem?_getD, hx]
        simpa using hj
    · rw [hcl]
      refine h _ ⟨by simp [hR]; omega, Or.inr ⟨g, cap, _, rfl, hb, setRow_heap w g cur _ 81 _ hg, hnc, hcm, ?_, ?_⟩⟩ ⟨rfl, rfl, rfl, by simp [World.setRow], fun k hk hne => setRow_other w g k _ (fun e => hne (by rw [e]))⟩
      · simp [hR]; omega
      · simp only [List.toList_toArray, List.map_append, List.map_take, List.map_drop, ← ht, Nat.mul_one]
        rw [Nat.mul_one] at hcs
        exact row_take (by simp; omega) hfit (by simp [hR])
set_option maxRecDepth 100000 in
set_option maxHeartbeats 2000000 in
/-- A copy that is the call's own. -/
theorem w_CloneO (va : Value) (X : List Int) (w : World) (ha : Lim w va X) (hx : X.length ≤ 100000) (h0 : 0 < X.length) :
    Calls Try.prog 79 #[va] w fun e w' => ∃ g cap, e = .returned (.slice (some ⟨g, 0, none⟩) X.length cap) ∧ O32 w' w.heap.size g X.length cap X ∧ Ext w w' := by
  rcases ha.2 with ⟨rfl, rfl⟩ | ⟨b, o, cap, rfl, h1, h2, h3, h4⟩
  · exact absurd h0 (by simp)
  · obtain ⟨i0, hi, hz0, hz1, hz2⟩ := info_parts info81
    go_enter Try.func79, Try.ntmps79
    have hq : ∀ w, (binOp .eql 23 (.slice (some ⟨b, o, none⟩) X.length cap) (.slice none 0 0)).run Try.prog w = .ok (.bool false) w := fun _ => rfl
    have hown : (w.alloc (.cells #[] 81)).ownsRow w.heap.size 81 1 (.slice (some ⟨w.heap.size, 0, none⟩) 0 0) 0 [] := World.ownsRow_lit w #[] 0 (Nat.le_refl _) (by decide) rfl
    have hnews : ∀ j u, (X.map (Value.int .u32))[j]? = some u → (w.alloc (.cells #[] 81)).cell? ((⟨b, o, none⟩ : Addr).add j) = some u := fun j u hu => by
      rw [List.getElem?_map] at hu
      cases hj : X[j]? with
      | none => rw [hj] at hu; cases hu
      | some x =>
        rw [hj] at hu
        have hjl : j < X.length := (List.getElem?_eq_some_iff.1 hj).1
        have := h4 j hjl
        rw [List.getD_eq_getElem?_getD, hj] at this
        rw [show (⟨b, o, none⟩ : Addr).add j = ⟨b, o + j, none⟩ from by simp [Addr.add], cell_al, if_neg (by omega), this]
        simpa using hu
    go_wp2_with (at_builtin; refine wpList_append_own _ rfl _ _ 23 rfl w.heap.size 81 i0 (.int .u32 0) 1 4 Try.underlying23 hi hz0 hz1 hz2 rfl (by decide) _ _ _ rfl hown ⟨b, o, none⟩ X.length cap (X.map (Value.int .u32)) rfl (by simp) hnews (ints_oneCell .u32 X) (by unfold maxLen; omega) (by omega) (by simp) ?_; intro v' w1 hown' hgrow hnil)
    have hE : Ext w w1 := Below.grown (row := some w.heap.size) ((Ext.refl w).alloc _) hgrow (by simp) (fun k e => by cases e; exact Nat.le_refl _)
    rw [Nat.zero_add, List.nil_append] at hown'
    have hv : ∃ g c, v' = .slice (some ⟨g, 0, none⟩) X.length c := by
      rcases hown'.2 with ⟨_, e⟩ | ⟨g, c, cur, e, _⟩
      · omega
      · exact ⟨g, c, e⟩
    obtain ⟨g, c, rfl⟩ := hv
    go_ret
    exact ⟨g, c, rfl, hown', hE⟩
end Go.Proofs.Ytcalonhphknbbaa
