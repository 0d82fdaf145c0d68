/- Limbs: differences with a borrow; leading zeros. -/
import Derived.Test.YtcalonhphknbbaaJ02
import Derived.Test.YtcalonhphknbbaaJ11
import Derived.Test.YtcalonhphknbbaaJ10
import Derived.Test.YtcalonhphknbbaaJ06
import Derived.Laws.BitsAllLaws
set_option linter.unusedSimpArgs false
set_option linter.unusedVariables false
namespace Go.Proofs.Ytcalonhphknbbaa
open Go.RowKit

theorem sub_bits (a b c d : Nat) (ha : a < 4294967296) (hb : b < 4294967296) (hc : c ≤ 1) (hd : d < 4294967296) (h : (d : Int) = ((a : Int) - b - c) % 4294967296) :
    ((((4294967295 ^^^ a) &&& b ||| (4294967295 ^^^ (a ^^^ b)) &&& d) / 2147483648 : Nat) : Int) = -(((a : Int) - b - c) / 4294967296) := by
  have e : ((4294967295 ^^^ a) &&& b ||| (4294967295 ^^^ (a ^^^ b)) &&& d) / 2 ^ 31 = (1 ^^^ (a / 2 ^ 31)) &&& (b / 2 ^ 31) ||| (1 ^^^ ((a / 2 ^ 31) ^^^ (b / 2 ^ 31))) &&& (d / 2 ^ 31) := by
    rw [Nat.or_div_two_pow, Nat.and_div_two_pow, Nat.and_div_two_pow, Nat.xor_div_two_pow, Nat.xor_div_two_pow, Nat.xor_div_two_pow]
  rw [show (2147483648 : Nat) = 2 ^ 31 from rfl, e]
  have hA : a / 2 ^ 31 = 0 ∨ a / 2 ^ 31 = 1 := by omega
  have hB : b / 2 ^ 31 = 0 ∨ b / 2 ^ 31 = 1 := by omega
  have hD : d / 2 ^ 31 = 0 ∨ d / 2 ^ 31 = 1 := by omega
  rcases hA with hA | hA <;> rcases hB with hB | hB <;> rcases hD with hD | hD <;> rw [hA, hB, hD] <;> simp <;> omega
theorem sub_bitsI (x y c : Int) (hx : U32 x) (hy : U32 y) (hc : 0 ≤ c ∧ c ≤ 1) :
    bits .or .u32 (bits .and .u32 (bits .xor .u32 IntKind.u32.max x) y) (bits .and .u32 (bits .xor .u32 IntKind.u32.max (bits .xor .u32 x y)) ((x - y - c) % 4294967296)) / 2147483648 = -((x - y - c) / 4294967296) := by
  unfold U32 at hx hy
  obtain ⟨a, rfl⟩ := Int.eq_ofNat_of_zero_le hx.1
  obtain ⟨b, rfl⟩ := Int.eq_ofNat_of_zero_le hy.1
  obtain ⟨c, rfl⟩ := Int.eq_ofNat_of_zero_le hc.1
  obtain ⟨d, hd⟩ := Int.eq_ofNat_of_zero_le (Int.emod_nonneg ((a : Int) - b - c) (show (4294967296 : Int) ≠ 0 by decide))
  have hd1 := Int.emod_lt_of_pos ((a : Int) - b - c) (show (0 : Int) < 4294967296 by decide)
  rw [hd] at hd1 ⊢
  have xl : a ^^^ b < 2 ^ 32 := Nat.xor_lt_two_pow (by omega) (by omega)
  have x1 : 4294967295 ^^^ a < 2 ^ 32 := Nat.xor_lt_two_pow (by decide) (by omega)
  have x2 : 4294967295 ^^^ (a ^^^ b) < 2 ^ 32 := Nat.xor_lt_two_pow (by decide) xl
  have a1 : (4294967295 ^^^ a) &&& b < 2 ^ 32 := Nat.and_lt_two_pow _ (by omega)
  have a2 : (4294967295 ^^^ (a ^^^ b)) &&& d < 2 ^ 32 := Nat.and_lt_two_pow _ (by omega)
  rw [show IntKind.u32.max = ((4294967295 : Nat) : Int) from rfl, u32_xor_nat _ a (by omega) (by omega), u32_xor_nat a b (by omega) (by omega), u32_and_nat _ _ (by omega) (by omega),
    u32_xor_nat _ _ (by decide) (by omega), u32_and_nat _ _ (by omega) (by omega), u32_or_nat _ _ (by omega) (by omega)]
  exact sub_bits a b c d (by omega) (by omega) (by omega) (by omega) hd.symm
theorem w_sub32 (x y c : Int) (w : World) (hx : U32 x) (hy : U32 y) (hc : 0 ≤ c ∧ c ≤ 1) :
    Calls Try.prog 84 #[.int .u32 x, .int .u32 y, .int .u32 c] w fun e w' => e = .returned (.tuple #[.int .u32 ((x - y - c) % 4294967296), .int .u32 (-((x - y - c) / 4294967296))]) ∧ w' = w := by
  rw [← sub_bitsI x y c hx hy hc]
  unfold U32 at hx hy
  go_enter Try.func84, Try.ntmps84
  go_wp2
  go_ret2
  exact ⟨rfl, rfl⟩
theorem bitLen_spec : ∀ (k n : Nat), n < 2 ^ k → k ≤ 64 → n ≠ 0 → 0 < Lib.bitLen n ∧ n < 2 ^ Lib.bitLen n ∧ 2 ^ (Lib.bitLen n - 1) ≤ n
  | 0, n, h, _, h0 => absurd h (by omega)
  | k + 1, n, h, hk, h0 => by
    have h64 : n < 2 ^ 64 := Nat.lt_of_lt_of_le h (Nat.pow_le_pow_right (by decide) hk)
    rw [Lib.bitLen_half n h0 h64]
    by_cases h2 : n / 2 = 0
    · have : n = 1 := by omega
      subst this
      decide
    · obtain ⟨a, b, c⟩ := bitLen_spec k (n / 2) (by rw [Nat.pow_succ] at h; omega) (by omega) h2
      refine ⟨by omega, ?_, ?_⟩
      · rw [Nat.pow_add]; omega
      · rw [Nat.add_sub_cancel_left, show Lib.bitLen (n / 2) = (Lib.bitLen (n / 2) - 1) + 1 from by omega, Nat.pow_succ]
        omega
/-- How far a limb is from filling 32 bits. -/
theorem w_lead (x : Int) (w : World) (hx : U32 x) (h0 : x ≠ 0) :
    Calls Try.prog 86 #[.int .u32 x] w fun e w' => ∃ s : Nat, e = .returned (.int .i64 s) ∧ s < 32 ∧ x * 2 ^ s < 4294967296 ∧ 2147483648 ≤ x * 2 ^ s ∧ w' = w := by
  unfold U32 at hx
  refine (Try.bits_LeadingZeros32 x w hx.1 (by omega)).mono ?_
  rintro e w' ⟨rfl, rfl⟩
  obtain ⟨n, rfl⟩ := Int.eq_ofNat_of_zero_le hx.1
  have b1 := Lib.bitLen_le n 32 (by omega) (by omega)
  obtain ⟨b0, b2, b3⟩ := bitLen_spec 32 n (by omega) (by decide) (by omega)
  rw [Int.toNat_natCast]
  generalize Lib.bitLen n = L at *
  have e1 : (2 : Nat) ^ L * 2 ^ (32 - L) = 4294967296 := by rw [← Nat.pow_add, Nat.add_sub_cancel' b1]
  have e2 : (2 : Nat) ^ (L - 1) * 2 ^ (32 - L) = 2147483648 := by rw [← Nat.pow_add, show L - 1 + (32 - L) = 31 from by omega]
  have e3 : (n : Int) * 2 ^ (32 - L) = ((n * 2 ^ (32 - L) : Nat) : Int) := by rw [Int.natCast_mul, Int.natCast_pow]; rfl
  refine ⟨32 - L, by rw [Int.ofNat_sub b1]; rfl, by omega, ?_, ?_, rfl⟩
  · have := Nat.mul_lt_mul_of_pos_right b2 (Nat.two_pow_pos (32 - L))
    rw [e1] at this; rw [e3]; exact Int.ofNat_lt.2 this
  · have := Nat.mul_le_mul_right (2 ^ (32 - L)) b3
    rw [e2] at this; rw [e3]; exact Int.ofNat_le.2 this
end Go.Proofs.Ytcalonhphknbbaa

/- Limbs times a power of 2. -/
namespace Go.Proofs.Ytcalonhphknbbaa
open Go.RowKit

/-- Bits that do not meet are added by 'or'. -/
theorem or_low (s : Nat) (hs : s < 32) (hi lo : Int) (h0 : 0 ≤ hi) (l0 : 0 ≤ lo) (l1 : lo < 2 ^ s) (h1 : hi < 4294967296) : bits .or .u64 lo (hi * 2 ^ s) = lo + hi * 2 ^ s ∧ lo + hi * 2 ^ s < 2 ^ s * 4294967296 ∧ 0 ≤ lo + hi * 2 ^ s ∧ hi * 2 ^ s < 18446744073709551616 ∧ lo + hi * 2 ^ s < 18446744073709551616 ∧ 0 ≤ hi * 2 ^ s := by
  obtain ⟨a, rfl⟩ := Int.eq_ofNat_of_zero_le h0
  obtain ⟨b, rfl⟩ := Int.eq_ofNat_of_zero_le l0
  have e3 : (a : Int) * 2 ^ s = ((2 ^ s * a : Nat) : Int) := by rw [Int.natCast_mul, Int.natCast_pow, Int.mul_comm]; rfl
  have e4 : (2 : Int) ^ s * 4294967296 = ((2 ^ s * 4294967296 : Nat) : Int) := by rw [Int.natCast_mul, Int.natCast_pow]; rfl
  have hb : b < 2 ^ s := by
    have : ((b : Nat) : Int) < ((2 ^ s : Nat) : Int) := by rw [Int.natCast_pow]; exact l1
    omega
  have hp : 2 ^ s ≤ 2 ^ 31 := Nat.pow_le_pow_right (by decide) (by omega)
  rw [e3, e4]
  have m1 : 2 ^ s * (a + 1) ≤ 2 ^ s * 4294967296 := Nat.mul_le_mul_left _ (by omega)
  rw [Nat.mul_add] at m1
  have e := Nat.two_pow_add_eq_or_of_lt hb a
  rw [u64_or_nat _ _ (by omega) (by omega), Nat.or_comm, ← e]
  omega
/-- A round: T = carry + limb·2^s; what stays and what is carried on. -/
theorem left_step {X zs : List Int} {j s : Nat} {z x : Int} {D : Nat} (hv : val zs + BB ^ (D + j) * z = BB ^ D * (val (X.take j) * 2 ^ s)) (hl : zs.length = D + j) (hx : X.getD j 0 = x) :
    val (zs ++ [(z + x * 2 ^ s) % 4294967296]) + BB ^ (D + (j + 1)) * ((z + x * 2 ^ s) / 4294967296) = BB ^ D * (val (X.take (j + 1)) * 2 ^ s) := by
  rw [val_take_succ', hx, val_append, hl]
  simp only [val]
  have hm := lim_mod (z + x * 2 ^ s)
  have h4 : BB = 4294967296 := rfl
  rw [h4] at hm hv ⊢
  generalize (z + x * 2 ^ s) % 4294967296 = r at hm ⊢
  generalize (z + x * 2 ^ s) / 4294967296 = q at hm ⊢
  rw [show D + (j + 1) = (D + j) + 1 from rfl, Int.pow_succ, show (4294967296 : Int) ^ (D + j) = 4294967296 ^ D * 4294967296 ^ j from Int.pow_add .. ] at *
  generalize (4294967296 : Int) ^ D = A at *
  generalize (4294967296 : Int) ^ j = C at *
  generalize (2 : Int) ^ s = S at *
  generalize val (X.take j) = V at *
  generalize val zs = U at *
  have h2 : A * C * z = A * (V * S) - U := by omega
  have : A * C * (r + 4294967296 * q) = A * C * (z + x * S) := by rw [hm]
  grind
theorem left_end {zs : List Int} {z : Int} (n : Nat) (hl : zs.length = n) : val (zs ++ [z]) = val zs + BB ^ n * z := by
  rw [val_append, hl]; simp [val]
theorem bb_two (D s : Nat) (v : Int) : BB ^ D * (v * 2 ^ s) = v * 2 ^ (32 * D + s) := by
  have : BB ^ D = 2 ^ (32 * D) := by
    rw [Int.pow_mul]; rfl
  rw [this, Int.pow_add]
  grind
theorem two_pow_le {s t : Nat} (h : s ≤ t) : (2 : Int) ^ s ≤ 2 ^ t := by
  have := Nat.pow_le_pow_right (n := 2) (by decide) h
  have e := fun n : Nat => Int.natCast_pow 2 n
  rw [show ((2 : Nat) : Int) = 2 from rfl] at e
  rw [← e, ← e]
  exact Int.ofNat_le.2 this
theorem cell_one_l (w : World) (x : Value) (t : TypeId) : ∀ j u, [x][j]? = some u → (w.alloc (.cells #[x] t)).cell? ((⟨w.heap.size, 0, none⟩ : Addr).add j) = some u := by
  intro j u hj
  match j, hj with
  | 0, hj =>
    simp at hj
    subst hj
    rw [show (⟨w.heap.size, 0, none⟩ : Addr).add 0 = ⟨w.heap.size, 0, none⟩ from by simp [Addr.add], cell_al, if_pos rfl]
    rfl
  | j + 1, hj => simp at hj
set_option maxRecDepth 100000 in
set_option maxHeartbeats 4000000 in
theorem w_left (va : Value) (X : List Int) (d s : Nat) (w : World) (ha : Lim w va X) (hx : X.length ≤ 100000) (hs : s < 32) (hk : d ≤ 1000000) :
    Calls Try.prog 87 #[va, .int .i64 (32 * d + s)] w fun e w' => ∃ g cap zs, e = .returned (.slice (some ⟨g, 0, none⟩) zs.length cap) ∧ O32 w' w.heap.size g zs.length cap zs ∧ Lb zs ∧ val zs = val X * 2 ^ (32 * d + s) ∧ zs.length = d + X.length + 1 ∧ Ext w w' := by
  obtain ⟨aoA, bA, oA, cA, rfl, a1, a2, a3, a4, a5, a6⟩ := ha.view
  have lA := ha.lb
  obtain ⟨i0, hi, hz0, hz1, hz2⟩ := info_parts info81
  have hq1 : (32 * (d : Int) + s) / 32 = d := by omega
  have hq2 : (32 * (d : Int) + s) % 32 = s := by omega
  go_enter Try.func87, Try.ntmps87
  go_wp2_with (at_make; refine wpList_make_lc _ rfl _ _ 23 rfl w.heap.size 81 i0 (.int .u32 0) 1 Try.underlying23 hi hz0 hz1 .i64 .i64 _ _ d (d + X.length + 1) rfl rfl (by omega) (by omega) (by omega) (by rw [hz2]; omega) (by unfold maxLen; omega) (Nat.le_refl _) ?_; intro w0 hown0 hgrow0)
  have hR0 : O32 w0 w.heap.size w.heap.size d (d + X.length + 1) (List.replicate d 0) := O32.made (by omega) hown0
  have hE0 : Ext w w0 := Ext.grown (Ext.refl w) hgrow0
  clear hown0 hgrow0
  go_loopw [5, 6, 20] (fun v c i wr => ∃ (j : Nat) (z : Int) (zs : List Int), j ≤ X.length ∧ v = .slice (some ⟨w.heap.size, 0, none⟩) (d + j) (d + X.length + 1) ∧ c = .int .u64 z ∧ i = .int .i64 j ∧ 0 ≤ z ∧ z < 2 ^ s ∧ zs.length = d + j ∧ Lb zs ∧ val zs + BB ^ (d + j) * z = BB ^ d * (val (X.take j) * 2 ^ s) ∧
      Hid (O32 wr w.heap.size w.heap.size (d + j) (d + X.length + 1) zs) ∧ Hid (Ext w wr)) (fun _ _ i _ => X.length - (intOf i).toNat)
  case atStart => exact ⟨0, 0, List.replicate d 0, Nat.zero_le _, rfl, rfl, rfl, by decide, Int.pow_pos (by decide), by simp, fun y hy => by rw [List.eq_of_mem_replicate hy]; decide, by simp [val, val_zeros], hR0, hE0⟩
  case round =>
    obtain ⟨j, z, zs, hj, rfl, rfl, rfl, z0, z1, hzl, hzb, hv, HR, HE⟩ := hrel
    by_cases hjx : j < X.length
    · have eA := a1 (by omega)
      subst eA
      have hca := (HE.out.cells.1 _ (oA + j) (a4 (by omega))).trans (a5 j hjx)
      have hxk : U32 (X.getD j 0) := lA.getD j
      obtain ⟨x, ex⟩ : ∃ x, X.getD j 0 = x := ⟨_, rfl⟩
      have hq := left_step hv hzl ex
      rw [ex] at hca hxk
      unfold U32 at hxk
      obtain ⟨o1, o2, o3, o4, o5, o6⟩ := or_low s hs x z hxk.1 z0 z1 hxk.2
      replace hq : Hid _ := hq
      clear ex hv a5
      have hlt := HR.out.parts
      go_wp2_with (at_builtin; refine wpList_append_fits _ rfl _ _ 23 rfl w.heap.size 81 i0 1 Try.underlying23 hi hz1 w.heap.size (d + j) (d + X.length + 1) (zs.map (Value.int .u32)) rfl (O32.alloc HR.out _) ⟨wr.heap.size, 0, none⟩ 1 1 [Value.int .u32 ((z + x * 2 ^ s) % 4294967296)] rfl rfl (cell_one_l _ _ _) (by intro u hu; simp at hu; subst hu; rfl) (by omega) ?_; intro w1 hown1 hgrow1)
      have hR1 := O32.appended hown1
      have hE1 : Ext w w1 := Ext.grownAt (HE.out.alloc _) hgrow1 (Nat.le_refl _)
      clear hown1 hgrow1
      replace hR1 : Hid _ := hR1
      replace hE1 : Hid _ := hE1
      go_roundw
      case rel => exact ⟨j + 1, _, zs ++ [(z + x * 2 ^ s) % 4294967296], hjx, rfl, rfl, by go_num, Int.ediv_nonneg o3 (by decide), Int.ediv_lt_of_lt_mul (by decide) o2, by simp [hzl]; omega, hzb.snoc (U32.mod _), hq.out, hR1, hE1⟩
      case measure => simp [intOf]; omega
    · have hjl : j = X.length := by omega
      subst hjl
      have hz32 : z < 4294967296 := by
        have : (2 : Int) ^ s ≤ 2 ^ 32 := two_pow_le (by omega)
        omega
      have hlt := HR.out.parts
      go_wp2_with (at_builtin; refine wpList_append_fits _ rfl _ _ 23 rfl w.heap.size 81 i0 1 Try.underlying23 hi hz1 w.heap.size (d + X.length) (d + X.length + 1) (zs.map (Value.int .u32)) rfl (O32.alloc HR.out _) ⟨wr.heap.size, 0, none⟩ 1 1 [Value.int .u32 z] rfl rfl (cell_one_l _ _ _) (by intro u hu; simp at hu; subst hu; rfl) (by omega) ?_; intro w1 hown1 hgrow1)
      have hR1 := O32.appended hown1
      have hE1 : Ext w w1 := Ext.grownAt (HE.out.alloc _) hgrow1 (Nat.le_refl _)
      have hlen : (zs ++ [z]).length = d + X.length + 1 := by simp [hzl]
      go_ret
      refine ⟨w.heap.size, d + X.length + 1, zs ++ [z], by rw [hlen]; rfl, by rw [hlen]; exact hR1, hzb.snoc ⟨z0, hz32⟩, ?_, hlen, hE1⟩
      rw [left_end _ hzl, hv, List.take_length, bb_two]
end Go.Proofs.Ytcalonhphknbbaa
