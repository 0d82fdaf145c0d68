/- Append to a row of the call's own that holds no limbs. -/
import Derived.Test.YtcalonhphknbbaaJ29
import Derived.Test.YtcalonhphknbbaaJ20
set_option linter.unusedSimpArgs false
set_option linter.unusedVariables false
namespace Go.Proofs.Ytcalonhphknbbaa
open Go.RowKit

/-- The slice v lies in no block of limbs. -/
def NoUo (w : World) (v : Value) : Prop := ∀ g, v.ownBlock = some g → NoU w g
theorem zero_mem {z : Array Value} {n q : Nat} {u : Value} (hz : 0 < z.size) (h : (Builtin.zeroCells z n)[q]? = some u) : u ∈ z := by
  unfold Builtin.zeroCells at h
  rw [Array.getElem?_map] at h
  cases hr : (Array.range (n * z.size))[q]? with
  | none => rw [hr] at h; cases h
  | some r =>
    rw [hr] at h
    simp only [Option.map_some, Option.some.injEq] at h
    rw [← h, getElem!_pos z (r % z.size) (Nat.mod_lt _ hz)]
    exact Array.getElem_mem _
theorem noU_grown {w : World} {xs news : List Value} {z : Array Value} {k : Nat} {e : TypeId} (hz : 0 < z.size) (h1 : ∀ u ∈ xs, ∀ y, u ≠ .int .u32 y) (h2 : ∀ u ∈ news, ∀ y, u ≠ .int .u32 y) (h3 : ∀ u ∈ z, ∀ y, u ≠ .int .u32 y) :
    NoU (w.alloc (.cells (xs.toArray ++ news.toArray ++ Builtin.zeroCells z k) e)) w.heap.size := NoU.new w _ _ fun o y h => by
  rw [Array.getElem?_append] at h
  split at h
  · rw [Array.getElem?_append] at h
    split at h
    · have := List.mem_of_getElem? (by simpa using h : xs[o]? = _)
      exact h1 _ this y rfl
    · have := List.mem_of_getElem? (by simpa using h : news[o - xs.toArray.size]? = _)
      exact h2 _ this y rfl
  · exact h3 _ (zero_mem hz h) y rfl
theorem run_append_ownN {P : Program} (w : World) (base : Nat) (t ty e : TypeId) (i : TypeInfo) (z : Value) (size bytes : Nat) (ht : P.underlying t = some (.slice e)) (hi : P.info? e = some i) (hz : i.zero = some z)
    (hsize : i.size = size) (hby : i.bytes = bytes) (hzs : z.cells.size = size) (hsz : 0 < size)
    (v : Value) (n : Nat) (xs : List Value) (hown : w.ownsRow base e size v n xs)
    (a : Addr) (m c : Nat) (news : List Value) (hl : news.length = m * size) (hnews : ∀ j u, news[j]? = some u → w.cell? (a.add j) = some u) (h1 : ∀ u ∈ news, u.oneCell' = true)
    (h63 : n + m ≤ maxLen) (hbytes : (n + m) * bytes ≤ 140737488355328) (hbase : base ≤ w.heap.size) (hno : NoUo w v) (hxn : ∀ u ∈ xs, ∀ y, u ≠ .int .u32 y) (hnn : ∀ u ∈ news, ∀ y, u ≠ .int .u32 y) (hzn : ∀ u ∈ z.cells, ∀ y, u ≠ .int .u32 y) (hm0 : 0 < m) :
    ∃ v' w', (Builtin.append_ #[t, t] ty #[v, .slice (some a) m c]).run P w = .ok v' w' ∧ w'.ownsRow base e size v' (n + m) (xs ++ news) ∧ w.grownBy w' v.ownBlock ∧ NoUo w' v' := by
  subst hsize
  subst hby
  have hsmall : n + m ≤ 9223372036854775807 := by simp only [maxLen] at h63; omega
  have hlen : (xs ++ news).length = (n + m) * i.size := by rw [List.length_append, hown.1, hl, Nat.add_mul]
  have hz0 : 0 < z.cells.size := by rw [hzs]; exact hsz
  have grown : ∀ (old : Nat), old < n + m → ∀ (row : Option Nat),
      (w.drew.alloc (.cells (xs.toArray ++ news.toArray ++ Builtin.zeroCells z.cells (grownCap w (n + m) old e - (n + m))) e)).ownsRow base e i.size
        (.slice (some ⟨w.heap.size, 0, none⟩) (n + m) (grownCap w (n + m) old e)) (n + m) (xs ++ news) ∧
      w.grownBy (w.drew.alloc (.cells (xs.toArray ++ news.toArray ++ Builtin.zeroCells z.cells (grownCap w (n + m) old e - (n + m))) e)) row ∧
      NoU (w.drew.alloc (.cells (xs.toArray ++ news.toArray ++ Builtin.zeroCells z.cells (grownCap w (n + m) old e - (n + m))) e)) w.heap.size := by
    intro old ho row
    have hge := grownCap_ge w (n + m) old e
    have hcm : grownCap w (n + m) old e ≤ maxLen := grownCap_le_maxLen w (n + m) old e h63
    refine ⟨⟨hlen, .inr ⟨w.heap.size, _, _, rfl, hbase, heap_alloc_new w.drew _, hge, hcm, ?_, ?_⟩⟩, ⟨rfl, rfl, rfl, by simp, fun k hk _ => heap_alloc_old w.drew _ hk⟩, noU_grown (w := w.drew) hz0 hxn hnn hzn⟩
    · simp only [Array.size_append, List.size_toArray, size_zeroCells, hzs, hown.1, hl, ← Nat.add_mul]
      congr 1
      omega
    · simp only [Array.toList_append, List.append_assoc]
      rw [← List.append_assoc, ← hlen]
      exact List.take_left
  rcases hown.2 with ⟨rfl, rfl⟩ | ⟨g, cap, cur, rfl, hbg, hg, hnc, hcm, hcs, htake⟩
  · have hx : xs = [] := List.eq_nil_of_length_eq_zero (by simpa using hown.1)
    subst hx
    have hr := run_append_nil (P := P) w t ty e i z ht hi hz a m c news hl hnews (by omega) (by omega) (by have hb := hbytes; simp only [Nat.zero_add] at hb; omega)
    have hgr := grown 0 (by omega) (Value.ownBlock (.slice none 0 0))
    simp only [Nat.zero_add, List.nil_append, Array.empty_append] at hgr ⊢
    exact ⟨_, _, hr, hgr.1, hgr.2.1, fun g hg => by cases hg; exact hgr.2.2⟩
  · by_cases hroom : n + m ≤ cap
    · have hfit : n * i.size + news.length ≤ cur.size := by rw [hl, hcs, ← Nat.add_mul]; exact Nat.mul_le_mul_right _ hroom
      have hr := run_append_room (P := P) w t ty e i ht hi g n cap cur hg a m c news hl hnews h1 hroom hfit
      have hset := setRow_heap w g cur (cur.toList.take (n * i.size) ++ news ++ cur.toList.drop (n * i.size + news.length)).toArray e (0, 0) hg
      refine ⟨_, _, hr, ⟨hlen, .inr ⟨g, cap, _, rfl, hbg, hset, hroom, hcm, ?_, ?_⟩⟩, ⟨rfl, rfl, rfl, by simp, fun k _ hk => setRow_other w g k _ (fun e => hk (by simp [Value.ownBlock, e]))⟩, fun g' hg' => ?_⟩
      · simp only [List.size_toArray, List.length_append, List.length_take, List.length_drop, Array.length_toList]
        omega
      · rw [htake, ← hlen]
        exact List.take_left
      · cases hg'
        intro q y hq
        have hno' : NoU w g := hno g rfl
        have hcell : ∀ (q : Nat) (u : Value), cur[q]? = some u → ∀ y, u ≠ Value.int .u32 y := fun q u hu y e => by
          subst e
          exact hno' q y (by simp only [World.cell?, hg]; simpa using hu)
        simp only [World.cell?, hset] at hq
        have hq2 : (cur.toList.take (n * i.size) ++ news ++ cur.toList.drop (n * i.size + news.length))[q]? = some (Value.int .u32 y) := by simpa using hq
        have hm := List.mem_of_getElem? hq2
        rcases List.mem_append.1 hm with hm | hm
        · rcases List.mem_append.1 hm with hm | hm
          · obtain ⟨j, hj⟩ := List.mem_iff_getElem?.1 (List.mem_of_mem_take hm)
            exact hcell j _ (by simpa using hj) y rfl
          · exact hnn _ hm y rfl
        · obtain ⟨j, hj⟩ := List.mem_iff_getElem?.1 (List.mem_of_mem_drop hm)
          exact hcell j _ (by simpa using hj) y rfl
    · have holds : ∀ j u, xs[j]? = some u → w.cell? ((⟨g, 0, none⟩ : Addr).add j) = some u := hown.cells (g := g) rfl
      have hr := run_append_grow (P := P) w t ty e i z ht hi hz ⟨g, 0, none⟩ n cap xs hown.1 holds a m c news hl hnews (by omega) (by omega) (growslice_fits (by omega) hbytes)
      have hgr := grown cap (by omega) (Value.ownBlock (.slice (some ⟨g, 0, none⟩) n cap))
      exact ⟨_, _, hr, hgr.1, hgr.2.1, fun g' hg' => by cases hg'; exact hgr.2.2⟩
theorem wpList_append_ownN {P : Program} (w : World) {ops : Array Oper} {rest : List Oper} {o : Oper} {a : Act} {Q : Exit → Act → World → Prop} (hgd : o.guard = none) (s x : Operand) (t : TypeId)
    (ho : o.op = .call { callee := .builtin .append, args := #[s, x], argTypes := #[t, t] })
    (base : Nat) (e : TypeId) (i : TypeInfo) (z : Value) (size bytes : Nat) (ht : P.underlying t = some (.slice e)) (hi : P.info? e = some i) (hz : i.zero = some z)
    (hsize : i.size = size) (hby : i.bytes = bytes) (hzs : z.cells.size = size) (hsz : 0 < size)
    (v : Value) (n : Nat) (xs : List Value) (hs : a.eval s = v) (hown : w.ownsRow base e size v n xs)
    (ad : Addr) (m c : Nat) (news : List Value) (hx : a.eval x = .slice (some ad) m c) (hl : news.length = m * size) (hnews : ∀ j u, news[j]? = some u → w.cell? (ad.add j) = some u) (h1 : ∀ u ∈ news, u.oneCell' = true)
    (h63 : n + m ≤ maxLen) (hbytes : (n + m) * bytes ≤ 140737488355328) (hbase : base ≤ w.heap.size) (hno : NoUo w v) (hxn : ∀ u ∈ xs, ∀ y, u ≠ .int .u32 y) (hnn : ∀ u ∈ news, ∀ y, u ≠ .int .u32 y) (hzn : ∀ u ∈ z.cells, ∀ y, u ≠ .int .u32 y) (hm0 : 0 < m)
    (h : ∀ v' w', w'.ownsRow base e size v' (n + m) (xs ++ news) → w.grownBy w' v.ownBlock → NoUo w' v' → wpList P ops Q rest (a.put o.dst v') w') : wpList P ops Q (o :: rest) a w := by
  obtain ⟨v', w', hr, h2, h3, h4⟩ := run_append_ownN (P := P) w base t o.type e i z size bytes ht hi hz hsize hby hzs hsz v n xs hown ad m c news hl hnews h1 h63 hbytes hbase hno hxn hnn hzn hm0
  refine wpList_plain hgd fun K hK => ?_
  unfold Oper.wp execOp
  simp only [ho, resolve, invoke, builtin, Sem.run_bind, Sem.run_pure, Result.andThen_ok, List.map_toArray, List.map_cons, List.map_nil, hs, hx, hr]
  exact hK _ _ (h v' w' h2 h3 h4)
/-- Limbs are kept by such an append. -/
theorem Lim.grownO {w w' : World} {v u : Value} {xs : List Int} (h : Lim w u xs) (k : w.grownBy w' v.ownBlock) (ho : NoUo w v) : Lim w' u xs := by
  cases e : v.ownBlock with
  | none =>
    rw [e] at k
    refine ⟨h.1, ?_⟩
    rcases h.2 with h | ⟨b, o, cap, hv, h1, h2, h3, h4⟩
    · exact Or.inl h
    · exact Or.inr ⟨b, o, cap, hv, h1, h2, Nat.lt_of_lt_of_le h3 k.size, fun i hi => by rw [World.cell?_of_block (k.block b h3 (by simp))]; exact h4 i hi⟩
  | some g => rw [e] at k; exact h.grownN k (ho g e)
end Go.Proofs.Ytcalonhphknbbaa

/- The reference: sums of limbs. -/
namespace Go.Proofs.Ytcalonhphknbbaa
open Go.RowKit

set_option maxRecDepth 100000 in
set_option maxHeartbeats 4000000 in
theorem r_plus (va vb : Value) (X Y : List Int) (w : World) (ha : Lim w va X) (hb : Lim w vb Y) (hx : X.length ≤ 100000 ∧ Y.length ≤ 100000) :
    Calls Try.prog 77 #[va, vb] w fun e w' => ∃ u zs, e = .returned u ∧ Lim w' u zs ∧ val zs = val X + val Y ∧ Ext w w' := by
  obtain ⟨aoA, bA, oA, cA, rfl, a1, a2, a3, a4, a5, a6⟩ := ha.view
  obtain ⟨aoB, bB, oB, cB, rfl, b1, b2, b3, b4, b5, b6⟩ := hb.view
  have lA := ha.lb
  have lB := hb.lb
  obtain ⟨i0, hi, hz0, hz1, hz2⟩ := info_parts info81
  have hA0 : A32 w w.heap.size (.slice none 0 0) [] := A32.nil _ _
  clear a6 b6
  go_enter Try.func77, Try.ntmps77
  go_wp2_with fail
  go_loopw [5, 6, 7] (fun v c i wr => ∃ (k : Nat) (z : Int) (zs : List Int), k ≤ max X.length Y.length ∧ c = .int .u64 z ∧ i = .int .i64 k ∧ 0 ≤ z ∧ z ≤ 1 ∧ zs.length = k ∧ Lb zs ∧ val zs + BB ^ k * z = val (X.take k) + val (Y.take k) ∧
      Hid (A32 wr w.heap.size v zs) ∧ Hid (Ext w wr)) (fun _ _ i _ => max X.length Y.length - (intOf i).toNat)
  case atStart => exact ⟨0, 0, [], Nat.zero_le _, rfl, rfl, by decide, by decide, rfl, Lb.nil, by simp [val], hA0, Ext.refl w⟩
  case round =>
    obtain ⟨k, z, zs, hk, rfl, rfl, z0, z1, hzl, hzb, hv, HR, HE⟩ := hrel
    have hsz := HE.out.size
    have hk1 : k ≤ 100000 := by omega
    have hm1 : Hid (k + 1 ≤ maxLen) := (Nat.le_trans (Nat.succ_le_succ hk1) (by decide) : k + 1 ≤ maxLen)
    have hm2 : Hid ((k + 1) * 4 ≤ 140737488355328) := (Nat.le_trans (Nat.mul_le_mul_right 4 (Nat.succ_le_succ hk1)) (by decide) : (k + 1) * 4 ≤ 140737488355328)
    by_cases hkx : k < X.length
    · by_cases hky : k < Y.length
      · have eA := a1 (by omega)
        subst eA
        have hca := (HE.out.cells.1 _ (oA + k) (a4 (by omega))).trans (a5 k hkx)
        have eB := b1 (by omega)
        subst eB
        have hcb := (HE.out.cells.1 _ (oB + k) (b4 (by omega))).trans (b5 k hky)
        obtain ⟨x, ex⟩ : ∃ x, X.getD k 0 = x := ⟨_, rfl⟩
        obtain ⟨y, ey⟩ : ∃ y, Y.getD k 0 = y := ⟨_, rfl⟩
        have hxk : U32 (X.getD k 0) := lA.getD k
        have hyk : U32 (Y.getD k 0) := lB.getD k
        have hq := plus_step hv hzl ex ey
        rw [ex] at hca
        rw [ey] at hcb
        rw [ex] at hxk
        rw [ey] at hyk
        rw [show x + y + z = z + x + y from by omega] at hq
        unfold U32 at hxk hyk
        have hnx : 0 ≤ (z + x + y) / 4294967296 ∧ (z + x + y) / 4294967296 ≤ 1 := by omega
        have hsum : 0 ≤ z + x + y ∧ z + x + y < 8589934592 := by omega
        have hown : (wr.alloc (.cells #[.int .u32 ((z + x + y) % 4294967296)] 81)).ownsRow w.heap.size 81 1 u5 k (zs.map (Value.int .u32)) := by have := HR.out.alloc (.cells #[.int .u32 ((z + x + y) % 4294967296)] 81); unfold A32 at this; rw [hzl] at this; exact this
        replace hq : Hid _ := hq
        clear ex ey hv a5 b5
        go_wp2_with (at_builtin; refine wpList_append_own _ rfl _ _ 23 rfl w.heap.size 81 i0 (.int .u32 0) 1 4 Try.underlying23 hi hz0 hz1 hz2 rfl (by decide) _ _ _ rfl hown ⟨wr.heap.size, 0, none⟩ 1 1 [Value.int .u32 ((z + x + y) % 4294967296)] rfl rfl (cell_one_l _ _ _) (by intro u hu; simp at hu; subst hu; rfl) hm1.out hm2.out (by simp; omega) ?_; intro v' w1 hown1 hgrow1 hnil)
        have hR1 : Hid (A32 w1 w.heap.size v' (zs ++ [(z + x + y) % 4294967296])) := A32.snoc hown1 hzl
        have hE1 : Hid (Ext w w1) := (own_ext (HE.out.alloc _) hown hgrow1 : Ext w w1)
        go_roundw
        case rel => exact ⟨k + 1, _, zs ++ [(z + x + y) % 4294967296], by omega, rfl, by go_num, hnx.1, hnx.2, by simp [hzl], hzb.snoc (U32.mod _), hq.out, hR1, hE1⟩
        case measure => simp [intOf]; omega
      · have eA := a1 (by omega)
        subst eA
        have hca := (HE.out.cells.1 _ (oA + k) (a4 (by omega))).trans (a5 k hkx)
        obtain ⟨x, ex⟩ : ∃ x, X.getD k 0 = x := ⟨_, rfl⟩
        obtain ⟨y, ey⟩ : ∃ y, Y.getD k 0 = y := ⟨_, rfl⟩
        have hxk : U32 (X.getD k 0) := lA.getD k
        have hyk : U32 (Y.getD k 0) := lB.getD k
        have hq := plus_step hv hzl ex ey
        rw [ex] at hca
        rw [ex] at hxk
        rw [ey] at hyk
        have hy0 : y = 0 := by rw [← ey, List.getD_eq_getElem?_getD, List.getElem?_eq_none (by omega)]; rfl
        subst hy0
        rw [show x + 0 + z = z + x from by omega] at hq
        unfold U32 at hxk hyk
        have hnx : 0 ≤ (z + x) / 4294967296 ∧ (z + x) / 4294967296 ≤ 1 := by omega
        have hsum : 0 ≤ z + x ∧ z + x < 8589934592 := by omega
        have hown : (wr.alloc (.cells #[.int .u32 ((z + x) % 4294967296)] 81)).ownsRow w.heap.size 81 1 u5 k (zs.map (Value.int .u32)) := by have := HR.out.alloc (.cells #[.int .u32 ((z + x) % 4294967296)] 81); unfold A32 at this; rw [hzl] at this; exact this
        replace hq : Hid _ := hq
        clear ex ey hv a5 b5
        go_wp2_with (at_builtin; refine wpList_append_own _ rfl _ _ 23 rfl w.heap.size 81 i0 (.int .u32 0) 1 4 Try.underlying23 hi hz0 hz1 hz2 rfl (by decide) _ _ _ rfl hown ⟨wr.heap.size, 0, none⟩ 1 1 [Value.int .u32 ((z + x) % 4294967296)] rfl rfl (cell_one_l _ _ _) (by intro u hu; simp at hu; subst hu; rfl) hm1.out hm2.out (by simp; omega) ?_; intro v' w1 hown1 hgrow1 hnil)
        have hR1 : Hid (A32 w1 w.heap.size v' (zs ++ [(z + x) % 4294967296])) := A32.snoc hown1 hzl
        have hE1 : Hid (Ext w w1) := (own_ext (HE.out.alloc _) hown hgrow1 : Ext w w1)
        go_roundw
        case rel => exact ⟨k + 1, _, zs ++ [(z + x) % 4294967296], by omega, rfl, by go_num, hnx.1, hnx.2, by simp [hzl], hzb.snoc (U32.mod _), hq.out, hR1, hE1⟩
        case measure => simp [intOf]; omega
    · by_cases hky : k < Y.length
      · have eB := b1 (by omega)
        subst eB
        have hcb := (HE.out.cells.1 _ (oB + k) (b4 (by omega))).trans (b5 k hky)
        obtain ⟨x, ex⟩ : ∃ x, X.getD k 0 = x := ⟨_, rfl⟩
        obtain ⟨y, ey⟩ : ∃ y, Y.getD k 0 = y := ⟨_, rfl⟩
        have hxk : U32 (X.getD k 0) := lA.getD k
        have hyk : U32 (Y.getD k 0) := lB.getD k
        have hq := plus_step hv hzl ex ey
        rw [ey] at hcb
        rw [ex] at hxk
        rw [ey] at hyk
        have hx0 : x = 0 := by rw [← ex, List.getD_eq_getElem?_getD, List.getElem?_eq_none (by omega)]; rfl
        subst hx0
        rw [show 0 + y + z = z + y from by omega] at hq
        unfold U32 at hxk hyk
        have hnx : 0 ≤ (z + y) / 4294967296 ∧ (z + y) / 4294967296 ≤ 1 := by omega
        have hsum : 0 ≤ z + y ∧ z + y < 8589934592 := by omega
        have hown : (wr.alloc (.cells #[.int .u32 ((z + y) % 4294967296)] 81)).ownsRow w.heap.size 81 1 u5 k (zs.map (Value.int .u32)) := by have := HR.out.alloc (.cells #[.int .u32 ((z + y) % 4294967296)] 81); unfold A32 at this; rw [hzl] at this; exact this
        replace hq : Hid _ := hq
        clear ex ey hv a5 b5
        go_wp2_with (at_builtin; refine wpList_append_own _ rfl _ _ 23 rfl w.heap.size 81 i0 (.int .u32 0) 1 4 Try.underlying23 hi hz0 hz1 hz2 rfl (by decide) _ _ _ rfl hown ⟨wr.heap.size, 0, none⟩ 1 1 [Value.int .u32 ((z + y) % 4294967296)] rfl rfl (cell_one_l _ _ _) (by intro u hu; simp at hu; subst hu; rfl) hm1.out hm2.out (by simp; omega) ?_; intro v' w1 hown1 hgrow1 hnil)
        have hR1 : Hid (A32 w1 w.heap.size v' (zs ++ [(z + y) % 4294967296])) := A32.snoc hown1 hzl
        have hE1 : Hid (Ext w w1) := (own_ext (HE.out.alloc _) hown hgrow1 : Ext w w1)
        go_roundw
        case rel => exact ⟨k + 1, _, zs ++ [(z + y) % 4294967296], by omega, rfl, by go_num, hnx.1, hnx.2, by simp [hzl], hzb.snoc (U32.mod _), hq.out, hR1, hE1⟩
        case measure => simp [intOf]; omega
      · have hkm : k = max X.length Y.length := by omega
        have hvv : val (zs ++ [z]) = val X + val Y := by
          rw [val_append, hzl]; simp only [val]
          rw [List.take_of_length_le (by omega), List.take_of_length_le (by omega)] at hv
          simpa using hv
        have hz32 : z % 4294967296 = z := by omega
        have hown : (wr.alloc (.cells #[.int .u32 (z)] 81)).ownsRow w.heap.size 81 1 u5 k (zs.map (Value.int .u32)) := by have := HR.out.alloc (.cells #[.int .u32 (z)] 81); unfold A32 at this; rw [hzl] at this; exact this
        clear hv a5 b5 hz32
        go_wp2_with (at_builtin; refine wpList_append_own _ rfl _ _ 23 rfl w.heap.size 81 i0 (.int .u32 0) 1 4 Try.underlying23 hi hz0 hz1 hz2 rfl (by decide) _ _ _ rfl hown ⟨wr.heap.size, 0, none⟩ 1 1 [Value.int .u32 (z)] rfl rfl (cell_one_l _ _ _) (by intro u hu; simp at hu; subst hu; rfl) hm1.out hm2.out (by simp; omega) ?_; intro v' w1 hown1 hgrow1 hnil)
        have hR1 : A32 w1 w.heap.size v' (zs ++ [z]) := A32.snoc hown1 hzl
        have hE1 : Ext w w1 := own_ext (HE.out.alloc _) hown hgrow1
        go_ret
        exact ⟨_, zs ++ [z], rfl, hR1.lim (hzb.snoc ⟨z0, by omega⟩) (by simp; omega), hvv, hE1⟩

end Go.Proofs.Ytcalonhphknbbaa
