/- Fractions of natural numbers in lowest terms; Pascal's rows; lists of outcomes. Nothing of a program. -/
import Derived.Test.YtcalonhphknbbaaJ28
import Derived.Test.YtcalonhphknbbaaJ10
set_option linter.unusedSimpArgs false
set_option linter.unusedVariables false
namespace Go.Proofs.Ytcalonhphknbbaa
open Go.RowKit

/-- The numbers of the fraction a/b in lowest terms. -/
def rn (a b : Nat) : Nat := a / Nat.gcd a b
def rd (a b : Nat) : Nat := b / Nat.gcd a b
theorem rd_pos {a b : Nat} (hb : 0 < b) : 0 < rd a b := Nat.div_pos (Nat.le_of_dvd hb (Nat.gcd_dvd_right a b)) (Nat.gcd_pos_of_pos_right a hb)
theorem rn_cop {a b : Nat} (hb : 0 < b) : Nat.gcd (rn a b) (rd a b) = 1 := Nat.coprime_div_gcd_div_gcd (Nat.gcd_pos_of_pos_right a hb)
theorem rn_mul (a b : Nat) : rn a b * Nat.gcd a b = a := Nat.div_mul_cancel (Nat.gcd_dvd_left a b)
theorem rd_mul (a b : Nat) : rd a b * Nat.gcd a b = b := Nat.div_mul_cancel (Nat.gcd_dvd_right a b)
theorem rn_rd (a b : Nat) : rn a b * b = a * rd a b := by
  have h1 := rn_mul a b; have h2 := rd_mul a b
  generalize Nat.gcd a b = g at *
  calc rn a b * b = rn a b * (rd a b * g) := by rw [h2]
    _ = (rn a b * g) * rd a b := by rw [Nat.mul_comm (rd a b) g, Nat.mul_assoc]
    _ = a * rd a b := by rw [h1]
theorem rn_le (a b : Nat) : rn a b ≤ a := Nat.div_le_self _ _
theorem rd_le (a b : Nat) : rd a b ≤ b := Nat.div_le_self _ _
/-- Lowest terms are known by the value. -/
theorem low_eq {p q r s : Nat} (hq : 0 < q) (hs : 0 < s) (h1 : Nat.gcd p q = 1) (h2 : Nat.gcd r s = 1) (h : p * s = r * q) : p = r ∧ q = s := by
  have d1 : q ∣ s := by
    have : q ∣ p * s := ⟨r, by rw [h, Nat.mul_comm]⟩
    exact (Nat.Coprime.symm h1).dvd_of_dvd_mul_left this
  have d2 : s ∣ q := by
    have : s ∣ r * q := ⟨p, by rw [← h, Nat.mul_comm]⟩
    exact (Nat.Coprime.symm h2).dvd_of_dvd_mul_left this
  have e := Nat.dvd_antisymm d1 d2
  subst e
  exact ⟨Nat.eq_of_mul_eq_mul_right hq h, rfl⟩
theorem red_eq {a b c d : Nat} (hb : 0 < b) (hd : 0 < d) (h : a * d = c * b) : rn a b = rn c d ∧ rd a b = rd c d := by
  refine low_eq (rd_pos hb) (rd_pos hd) (rn_cop hb) (rn_cop hd) ?_
  have e1 := rn_rd a b
  have e2 := rn_rd c d
  have hbd : 0 < b * d := Nat.mul_pos hb hd
  refine Nat.eq_of_mul_eq_mul_right hbd ?_
  calc rn a b * rd c d * (b * d) = (rn a b * b) * d * rd c d := by
        simp only [Nat.mul_assoc, Nat.mul_comm, Nat.mul_left_comm]
    _ = a * rd a b * d * rd c d := by rw [e1]
    _ = (a * d) * rd a b * rd c d := by simp only [Nat.mul_assoc, Nat.mul_comm, Nat.mul_left_comm]
    _ = (c * b) * rd a b * rd c d := by rw [h]
    _ = (c * rd c d) * b * rd a b := by simp only [Nat.mul_assoc, Nat.mul_comm, Nat.mul_left_comm]
    _ = (rn c d * d) * b * rd a b := by rw [e2]
    _ = rn c d * rd a b * (b * d) := by simp only [Nat.mul_assoc, Nat.mul_comm, Nat.mul_left_comm]
/-- Sums of fractions with one denominator. -/
theorem sum_eq {S W D : Nat} (hD : 0 < D) : rn (rn S D * rd W D + rn W D * rd S D) (rd S D * rd W D) = rn (S + W) D ∧ rd (rn S D * rd W D + rn W D * rd S D) (rd S D * rd W D) = rd (S + W) D := by
  refine red_eq (Nat.mul_pos (rd_pos hD) (rd_pos hD)) hD ?_
  have e1 := rn_rd S D
  have e2 := rn_rd W D
  calc (rn S D * rd W D + rn W D * rd S D) * D = (rn S D * D) * rd W D + (rn W D * D) * rd S D := by
        rw [Nat.add_mul]; simp only [Nat.mul_assoc, Nat.mul_comm, Nat.mul_left_comm]
    _ = (S * rd S D) * rd W D + (W * rd W D) * rd S D := by rw [e1, e2]
    _ = (S + W) * (rd S D * rd W D) := by rw [Nat.add_mul]; simp only [Nat.mul_assoc, Nat.mul_comm, Nat.mul_left_comm]
theorem small_of {m : Nat} (h : m < 340282366920938463463374607431768211456) : Small m := by
  unfold Small
  rcases Nat.lt_or_ge 4 (dig m).length with h2 | h2
  · have h3 := val_pos (dig_lb m) (dig_nz m) (by intro e; rw [e] at h2; simp at h2)
    have h4 := bb_mono (show 4 ≤ (dig m).length - 1 from by omega)
    rw [dig_val] at h3
    have h5 : BB ^ 4 = 340282366920938463463374607431768211456 := by decide
    omega
  · omega
def bin : Nat → Nat → Nat
  | _, 0 => 1
  | 0, _ + 1 => 0
  | n + 1, k + 1 => bin n k + bin n (k + 1)
theorem bin_zero (n : Nat) : bin n 0 = 1 := by cases n <;> rfl
theorem bin_gt : ∀ (n k : Nat), n < k → bin n k = 0
  | 0, 0, h => absurd h (by omega)
  | 0, _ + 1, _ => rfl
  | n + 1, 0, h => absurd h (by omega)
  | n + 1, k + 1, h => by unfold bin; rw [bin_gt n k (by omega), bin_gt n (k + 1) (by omega)]
theorem bin_le : ∀ (n k : Nat), bin n k ≤ 2 ^ n
  | 0, 0 => Nat.le_refl _
  | 0, _ + 1 => Nat.zero_le _
  | n + 1, 0 => by rw [bin_zero]; exact Nat.one_le_two_pow
  | n + 1, k + 1 => by unfold bin; have h1 := bin_le n k; have h2 := bin_le n (k + 1); rw [Nat.pow_succ]; omega
/-- Pascal's row while row i is made of row i - 1, down to place k. -/
def pas (i k m : Nat) : Nat := if k < m then bin i m else bin (i - 1) m
/-- A valid list of outcomes. -/
def okL (l : List Int) : Bool := decide (l.length % 2 = 1) && decide (l.length ≤ 41) && l.all fun x => decide (0 ≤ x ∧ x ≤ 3)
end Go.Proofs.Ytcalonhphknbbaa

/- Lists of outcomes: valid or not. -/
namespace Go.Proofs.Ytcalonhphknbbaa
open Go.RowKit

/-- The slice v of int8 has the elements l. -/
def Oc (w : World) (v : Value) (l : List Int) : Prop :=
  ∃ ao b o cap, v = .slice ao l.length cap ∧ (0 < l.length → ao = some ⟨b, o, none⟩) ∧ l.length ≤ cap ∧ cap ≤ 9223372036854775807 ∧ (0 < l.length → b < w.heap.size) ∧ (∀ i, i < l.length → w.cell? ⟨b, o + i, none⟩ = some (.int .i8 (l.getD i 0))) ∧ ∀ i, i < l.length → -128 ≤ l.getD i 0 ∧ l.getD i 0 ≤ 127
theorem Oc.ext {a w : World} {v : Value} {l : List Int} (h : Oc a v l) (k : Ext a w) : Oc w v l := by
  obtain ⟨ao, b, o, cap, e, h1, h2, h3, h4, h5, h6⟩ := h
  exact ⟨ao, b, o, cap, e, h1, h2, h3, fun h => Nat.lt_of_lt_of_le (h4 h) k.size, fun i hi => (k.cells.1 b _ (h4 (by omega))).trans (h5 i hi), h6⟩
theorem ok_iff (l : List Int) : okL l = true ↔ l.length % 2 = 1 ∧ l.length ≤ 41 ∧ ∀ i, i < l.length → 0 ≤ l.getD i 0 ∧ l.getD i 0 ≤ 3 := by
  unfold okL
  simp only [Bool.and_eq_true, decide_eq_true_eq, List.all_eq_true, and_assoc]
  refine and_congr_right fun _ => and_congr_right fun _ => ⟨fun h i hi => ?_, fun h x hx => ?_⟩
  · have e : l.getD i 0 = l[i] := by rw [List.getD_eq_getElem?_getD, List.getElem?_eq_getElem hi]; rfl
    rw [e]; exact h _ (List.getElem_mem hi)
  · obtain ⟨i, hi, rfl⟩ := List.getElem_of_mem hx
    have := h i hi
    rwa [List.getD_eq_getElem?_getD, List.getElem?_eq_getElem hi] at this
theorem ok_bad {l : List Int} {i : Nat} (hi : i < l.length) (h : ¬ (0 ≤ l.getD i 0 ∧ l.getD i 0 ≤ 3)) : okL l = false := by
  rw [Bool.eq_false_iff]; intro e; exact h ((ok_iff l).1 e |>.2.2 i hi)
set_option maxRecDepth 100000 in
set_option maxHeartbeats 4000000 in
theorem k_check (v : Value) (l : List Int) (w : World) (h : Oc w v l) :
    Calls Try.prog 19 #[v] w fun e w' => e = .returned (.int .i64 (if okL l then 0 else 8)) ∧ w' = w := by
  obtain ⟨ao, b, o, cap, rfl, h1, h2, h3, h4, h5, h6⟩ := h
  by_cases hp : l.length % 2 = 1 ∧ l.length ≤ 41
  · obtain ⟨p1, p2⟩ := hp
    have d1 : ((l.length : Int) % 2 == 0) = false := by simp; omega
    have d2 : decide ((41 : Int) < (l.length : Int)) = false := decide_eq_false (by omega)
    obtain ⟨R, eR⟩ : ∃ R : Int, (if okL l then 0 else 8) = R := ⟨_, rfl⟩
    rw [eR]
    go_enter Try.func19, Try.ntmps19
    go_wp2_with fail
    go_loop [16] (fun i => ∃ k : Nat, k ≤ l.length ∧ i = .int .i64 k ∧ Hid (∀ j, j < k → 0 ≤ l.getD j 0 ∧ l.getD j 0 ≤ 3)) (fun i => l.length - (intOf i).toNat)
    case atStart => exact ⟨0, Nat.zero_le _, rfl, (fun j hj => absurd hj (by omega) : ∀ j, j < 0 → _)⟩
    case round =>
      obtain ⟨k, hk, rfl, hok⟩ := hrel
      rcases Nat.eq_or_lt_of_le hk with rfl | hk2
      · have hR : R = 0 := by rw [← eR, if_pos ((ok_iff l).2 ⟨p1, p2, hok.out⟩)]
        subst hR
        go_wp2_with fail
        go_ret
        exact ⟨rfl, rfl⟩
      · have e := h1 (by omega)
        subst e
        have hc := h5 k hk2
        have hb := h6 k hk2
        have hbad := fun hn => ok_bad hk2 hn
        obtain ⟨x, ex⟩ : ∃ x, l.getD k 0 = x := ⟨_, rfl⟩
        have hnx : x = l.getD k 0 := ex.symm
        rw [ex] at hc hb hbad
        rcases Int.lt_or_le x 0 with c1 | c1
        · have hR : R = 8 := by rw [← eR, if_neg (by rw [hbad (by omega)]; decide)]
          subst hR
          clear ex hnx h5
          go_wp2_with fail
          go_ret
          exact ⟨rfl, rfl⟩
        · rcases Int.lt_or_le 3 x with c2 | c2
          · have hR : R = 8 := by rw [← eR, if_neg (by rw [hbad (by omega)]; decide)]
            subst hR
            clear ex hnx h5
            go_wp2_with fail
            go_ret
            exact ⟨rfl, rfl⟩
          · have hok2 : Hid (∀ j, j < k + 1 → 0 ≤ l.getD j 0 ∧ l.getD j 0 ≤ 3) := fun j hj => by
              rcases Nat.lt_or_ge j k with h | h
              · exact hok.out j h
              · have : j = k := by omega
                subst this; rw [ex]; exact ⟨c1, c2⟩
            clear ex hnx h5
            go_wp2_with fail
            go_round
            case rel => exact ⟨k + 1, hk2, by go_num, hok2⟩
            case measure => simp [intOf]; omega
  · have hR : okL l = false := by rw [Bool.eq_false_iff]; intro e; exact hp ⟨((ok_iff l).1 e).1, ((ok_iff l).1 e).2.1⟩
    rw [hR]
    by_cases p1 : l.length % 2 = 1
    · have d1 : ((l.length : Int) % 2 == 0) = false := by simp; omega
      have d2 : decide ((41 : Int) < (l.length : Int)) = true := decide_eq_true (by omega)
      go_enter Try.func19, Try.ntmps19
      go_wp2_with fail
      go_ret
      exact ⟨rfl, rfl⟩
    · have d1 : ((l.length : Int) % 2 == 0) = true := by simp; omega
      go_enter Try.func19, Try.ntmps19
      go_wp2_with fail
      go_ret
      exact ⟨rfl, rfl⟩
set_option maxRecDepth 100000 in
set_option maxHeartbeats 4000000 in
theorem k_Valid (v : Value) (l : List Int) (w : World) (h : Oc w v l) :
    Calls Try.prog 13 #[v] w fun e w' => e = .returned (.bool (okL l)) ∧ w' = w := by
  obtain ⟨ao, b, o, cap, rfl, h1, h2, h3, h4, h5, h6⟩ := h
  by_cases hp : l.length % 2 = 1 ∧ l.length ≤ 41
  · obtain ⟨p1, p2⟩ := hp
    have d1 : ((l.length : Int) % 2 == 0) = false := by simp; omega
    have d2 : decide ((41 : Int) < (l.length : Int)) = false := decide_eq_false (by omega)
    obtain ⟨R, eR⟩ : ∃ R : Bool, okL l = R := ⟨_, rfl⟩
    rw [eR]
    go_enter Try.func13, Try.ntmps13
    go_wp2_with fail
    go_loop [3] (fun i => ∃ k : Nat, k ≤ l.length ∧ i = .int .i64 k ∧ Hid (∀ j, j < k → 0 ≤ l.getD j 0 ∧ l.getD j 0 ≤ 3)) (fun i => l.length - (intOf i).toNat)
    case atStart => exact ⟨0, Nat.zero_le _, rfl, (fun j hj => absurd hj (by omega) : ∀ j, j < 0 → _)⟩
    case round =>
      obtain ⟨k, hk, rfl, hok⟩ := hrel
      rcases Nat.eq_or_lt_of_le hk with rfl | hk2
      · have hR : R = true := by rw [← eR]; exact (ok_iff l).2 ⟨p1, p2, hok.out⟩
        subst hR
        go_wp2_with fail
        go_ret
        exact ⟨rfl, rfl⟩
      · have e := h1 (by omega)
        subst e
        have hc := h5 k hk2
        have hb := h6 k hk2
        have hbad := fun hn => ok_bad hk2 hn
        obtain ⟨x, ex⟩ : ∃ x, l.getD k 0 = x := ⟨_, rfl⟩
        have hnx : x = l.getD k 0 := ex.symm
        rw [ex] at hc hb hbad
        rcases Int.lt_or_le x 0 with c1 | c1
        · have hR : R = false := by rw [← eR]; exact hbad (by omega)
          subst hR
          clear ex hnx h5
          go_wp2_with fail
          go_ret
          exact ⟨rfl, rfl⟩
        · rcases Int.lt_or_le 3 x with c2 | c2
          · have hR : R = false := by rw [← eR]; exact hbad (by omega)
            subst hR
            clear ex hnx h5
            go_wp2_with fail
            go_ret
            exact ⟨rfl, rfl⟩
          · have hok2 : Hid (∀ j, j < k + 1 → 0 ≤ l.getD j 0 ∧ l.getD j 0 ≤ 3) := fun j hj => by
              rcases Nat.lt_or_ge j k with h | h
              · exact hok.out j h
              · have : j = k := by omega
                subst this; rw [ex]; exact ⟨c1, c2⟩
            clear ex hnx h5
            go_wp2_with fail
            go_round
            case rel => exact ⟨k + 1, hk2, by go_num, hok2⟩
            case measure => simp [intOf]; omega
  · have hR : okL l = false := by rw [Bool.eq_false_iff]; intro e; exact hp ⟨((ok_iff l).1 e).1, ((ok_iff l).1 e).2.1⟩
    rw [hR]
    by_cases p1 : l.length % 2 = 1
    · have d1 : ((l.length : Int) % 2 == 0) = false := by simp; omega
      have d2 : decide ((41 : Int) < (l.length : Int)) = true := decide_eq_true (by omega)
      go_enter Try.func13, Try.ntmps13
      go_wp2_with fail
      go_ret
      exact ⟨rfl, rfl⟩
    · have d1 : ((l.length : Int) % 2 == 0) = true := by simp; omega
      go_enter Try.func13, Try.ntmps13
      go_wp2_with fail
      go_ret
      exact ⟨rfl, rfl⟩
end Go.Proofs.Ytcalonhphknbbaa

/- Rows of fractions that the call itself makes. -/
namespace Go.Proofs.Ytcalonhphknbbaa
open Go.RowKit

theorem info27 : (Try.prog.info? 27).map (fun i => (i.zero, i.size, i.bytes)) = some (some (.agg #[.bool false, .slice none 0 0, .bool false, .slice none 0 0]), 4, 64) := by kernel_rfl
/-- Limbs are kept where a block without limbs changes. -/
theorem Lim.grownN {w w' : World} {v : Value} {xs : List Int} {g : Nat} (h : Lim w v xs) (k : w.grownBy w' (some g)) (ho : NoU w g) : Lim w' v xs := by
  refine ⟨h.1, ?_⟩
  rcases h.2 with h | ⟨b, o, cap, hv, h1, h2, h3, h4⟩
  · exact Or.inl h
  · refine Or.inr ⟨b, o, cap, hv, h1, h2, Nat.lt_of_lt_of_le h3 k.size, fun i hi => ?_⟩
    have hb : b ≠ g := fun e => by subst e; exact ho _ _ (h4 i hi)
    rw [World.cell?_of_block (k.block b h3 (by simpa using hb))]
    exact h4 i hi
/-- 'make' with a capacity: the world written out. -/
theorem wpList_make_world {P : Program} (w : World) {ops : Array Oper} {rest : List Oper} {o : Oper} {a : Act} {Q : Exit → Act → World → Prop}
    (hg : o.guard = none) (l c : Operand) (t : TypeId) (hop : o.op = Op.makeSlice t l c)
    (e : TypeId) (i : TypeInfo) (z : Value) (h1 : P.underlying t = some (.slice e)) (h2 : P.info? e = some i) (h3 : i.zero = some z)
    (kl kc : IntKind) (L C : Int) (n m : Nat) (hl : a.eval l = .int kl L) (hc : a.eval c = .int kc C) (hL : L = (n : Int)) (hC : C = (m : Int)) (hnm : n ≤ m) (b2 : i.bytes * m ≤ 281474976710656) (b3 : m ≤ maxLen)
    (hK : wpList P ops Q rest (a.put o.dst (.slice (some ⟨w.heap.size, 0, none⟩) n m)) (w.alloc (.cells (madeCells z.cells (m * i.size)) e))) :
    wpList P ops Q (o :: rest) a w := by
  have h63 : (m : Int) ≤ 9223372036854775807 := by have h := b3; simp [maxLen] at h; omega
  have hb' : (i.bytes : Int) * (m : Int) ≤ 281474976710656 := by
    have h : ((i.bytes * m : Nat) : Int) ≤ 281474976710656 := by omega
    rwa [Int.natCast_mul] at h
  have hr := run_make (P := P) w t e i z h1 h2 h3 kl kc n m (by omega) (by omega) hb' h63
  simp only [Int.toNat_natCast] at hr
  subst hL
  subst hC
  refine wpList_plain hg fun K hK' => ?_
  unfold Oper.wp
  simp [execOp, hop, hl, hc, hr, Result.andThen]
  exact hK' _ _ hK
/-- 'append' with room, into a block without limbs: it stays so. -/
theorem wpList_append_noU {P : Program} (w : World) {ops : Array Oper} {rest : List Oper} {o : Oper} {a : Act} {Q : Exit → Act → World → Prop}
    (hgd : o.guard = none) (s x : Operand) (t : TypeId) (hop : o.op = Op.call { callee := Callee.builtin Builtin.append, args := #[s, x], argTypes := #[t, t] })
    (base : Nat) (e : TypeId) (i : TypeInfo) (size : Nat) (h1 : P.underlying t = some (.slice e)) (h2 : P.info? e = some i) (h4 : i.size = size)
    (g k cap : Nat) (xs : List Value) (hs : a.eval s = .slice (some ⟨g, 0, none⟩) k cap) (hown : w.ownsRow base e size (.slice (some ⟨g, 0, none⟩) k cap) k xs) (ad : Addr) (m c : Nat) (news : List Value) (hx : a.eval x = .slice (some ad) m c) (hn : news.length = m * size)
    (hc : ∀ j u, news[j]? = some u → w.cell? (ad.add j) = some u) (h1c : ∀ u ∈ news, u.oneCell' = true) (b1 : k + m ≤ cap) (hno : NoU w g) (hnn : ∀ u ∈ news, ∀ z, u ≠ .int .u32 z)
    (hK : ∀ w', w'.ownsRow base e size (.slice (some ⟨g, 0, none⟩) (k + m) cap) (k + m) (xs ++ news) → w.grownBy w' (some g) → NoU w' g → wpList P ops Q rest (a.put o.dst (.slice (some ⟨g, 0, none⟩) (k + m) cap)) w') :
    wpList P ops Q (o :: rest) a w := by
  subst h4
  have hlen : (xs ++ news).length = (k + m) * i.size := by rw [List.length_append, hown.1, hn, Nat.add_mul]
  rcases hown.2 with ⟨h, _⟩ | ⟨g', cap', cur, h, hbg, hg, hnc, hcm, hcs, htake⟩
  · simp at h
  · simp only [Value.slice.injEq, Option.some.injEq, Addr.mk.injEq, and_true, true_and] at h
    obtain ⟨rfl, rfl⟩ := h
    have hfit : k * i.size + news.length ≤ cur.size := by rw [hn, hcs, ← Nat.add_mul]; exact Nat.mul_le_mul_right _ b1
    have hr := run_append_room (P := P) w t o.type e i h1 h2 g k cap cur hg ad m c news hn hc h1c b1 hfit
    have hset := setRow_heap w g cur (cur.toList.take (k * i.size) ++ news ++ cur.toList.drop (k * i.size + news.length)).toArray e (0, 0) hg
    have hgr : w.grownBy (w.setRow g (cur.toList.take (k * i.size) ++ news ++ cur.toList.drop (k * i.size + news.length)).toArray) (some g) := ⟨rfl, rfl, rfl, by simp, fun k _ hk => setRow_other w g k _ (fun e => hk (by simp [e]))⟩
    obtain ⟨W', eW⟩ : ∃ W', w.setRow g (cur.toList.take (k * i.size) ++ news ++ cur.toList.drop (k * i.size + news.length)).toArray = W' := ⟨_, rfl⟩
    rw [eW] at hr hset hgr
    have hown' : W'.ownsRow base e i.size (.slice (some ⟨g, 0, none⟩) (k + m) cap) (k + m) (xs ++ news) := by
      refine ⟨hlen, .inr ⟨g, cap, _, rfl, hbg, hset, b1, hcm, ?_, ?_⟩⟩
      · simp only [List.size_toArray, List.length_append, List.length_take, List.length_drop, Array.length_toList]
        omega
      · rw [htake, ← hlen]
        exact List.take_left
    have hno' : NoU W' g := by
      intro q z hq
      have hcell : ∀ (q : Nat) (u : Value), cur[q]? = some u → ∀ z, u ≠ Value.int .u32 z := fun q u hu z e => by
        subst e
        exact hno q z (by simp only [World.cell?, hg]; simpa using hu)
      simp only [World.cell?, hset] at hq
      have hq2 : (cur.toList.take (k * i.size) ++ news ++ cur.toList.drop (k * i.size + news.length))[q]? = some (Value.int .u32 z) := by simpa using hq
      have hm := List.mem_of_getElem? hq2
      rcases List.mem_append.1 hm with hm | hm
      · rcases List.mem_append.1 hm with hm | hm
        · obtain ⟨j, hj⟩ := List.mem_iff_getElem?.1 (List.mem_of_mem_take hm)
          exact hcell j _ (by simpa using hj) z rfl
        · exact hnn _ hm z rfl
      · obtain ⟨j, hj⟩ := List.mem_iff_getElem?.1 (List.mem_of_mem_drop hm)
        exact hcell j _ (by simpa using hj) z rfl
    refine wpList_plain hgd fun K hK' => ?_
    unfold Oper.wp
    simp [execOp, hop, resolve, invoke, builtin, hs, hx, hr, Result.andThen]
    exact hK' _ _ (hK W' hown' hgr hno')
theorem made_mem {z : Array Value} {n q : Nat} {u : Value} (hz : 0 < z.size) (h : (madeCells z n)[q]? = some u) : u ∈ z := by
  unfold madeCells at h
  rw [Array.getElem?_map] at h
  cases hr : (Array.range n)[q]? with
  | none => rw [hr] at h; cases h
  | some r =>
    rw [hr] at h
    simp only [Option.map_some, Option.some.injEq] at h
    rw [← h, getElem!_pos z (r % z.size) (Nat.mod_lt _ hz)]
    exact Array.getElem_mem _
theorem cell_new_c (w : World) (c : List Value) (t : TypeId) : ∀ j u, c[j]? = some u → (w.alloc (.cells c.toArray t)).cell? ((⟨w.heap.size, 0, none⟩ : Addr).add j) = some u := fun j u hj => by
  rw [Addr.add_lit, Nat.zero_add, cell_al, if_pos rfl]; simpa using hj
theorem own_ext27 {a w : World} {base g n cap e size : Nat} {xs : List Value} (h : a.ownsRow base e size (.slice (some ⟨g, 0, none⟩) n cap) n xs) (k : Ext a w) : w.ownsRow base e size (.slice (some ⟨g, 0, none⟩) n cap) n xs :=
  World.ownsRow.kept (row := none) h ⟨k.os, k.tape, k.output, k.size, fun i hi _ => k.block i hi⟩ (Or.inr (by simp [Value.ownBlock]))
end Go.Proofs.Ytcalonhphknbbaa
