/- Limbs: differences with a borrow; leading zeros.; Limbs times a power of 2.; Limbs: a multiple taken away. -/
import Derived.Test.YtogblocakccbgaaGreatJ00
import Derived.Test.YtogblocakccbgaaGreatProg
import Derived.Test.YtogblocakccbgaaGreatJ02
import Derived.Test.YtogblocakccbgaaGreatJ05
import Derived.Test.YtogblocakccbgaaGreatJ03
import Derived.Shelf.Small.Bits
import Derived.Shelf.Strconv.Itoa0
import Derived.Shelf.Bits.Mul64
import Derived.Laws.BitsAllLaws
set_option linter.unusedSimpArgs false
set_option linter.unusedVariables false
set_option maxRecDepth 100000
set_option maxHeartbeats 4000000
namespace Go.Proofs
open Go.Shelf
def Tryz.lays128_ren : Go.Shelf.Ren := ⟨fun | 128 => 200 | n => n, fun | 51 => 25 | 3 => 3 | 4 => 4 | 46 => 100 | 5 => 5 | 9 => 9 | n => n, fun | n => n⟩
theorem Tryz.lays128 : Go.Proofs.Lays.n128 Tryz.prog Tryz.lays128_ren := {
  mixed := by kernel_rfl
  f128 := Tryz.func200.trans (congrArg some (by kernel_rfl))
  t3 := Tryz.underlying3
  a3 := Tryz.isAgg3
  z3 := Tryz.sizeOf3
  v3 := Tryz.zeroValue3
  t4 := Tryz.underlying4
  a4 := Tryz.isAgg4
  z4 := Tryz.sizeOf4
  v4 := Tryz.zeroValue4
  t5 := Tryz.underlying5
  a5 := Tryz.isAgg5
  z5 := Tryz.sizeOf5
  v5 := Tryz.zeroValue5
  t9 := Tryz.underlying9
  a9 := Tryz.isAgg9
  z9 := Tryz.sizeOf9
  v9 := Tryz.zeroValue9
  t46 := Tryz.underlying100
  a46 := Tryz.isAgg100
  z46 := Tryz.sizeOf100
  v46 := Tryz.zeroValue100
  t51 := Tryz.underlying25
  a51 := Tryz.isAgg25
  z51 := Tryz.sizeOf25
  v51 := Tryz.zeroValue25 }
theorem Tryz.bits_Len32 (x : Int) (w : World) (h0 : 0 ≤ x) (h1 : x ≤ 4294967295) :
    Calls Tryz.prog 200 #[.int .u32 x] w fun e w' => e = .returned (.int .i64 (Lib.bitLen x.toNat)) ∧ w' = w := Any.bits_Len32 Tryz.lays128 x w h0 h1
def Tryz.lays133_ren : Go.Shelf.Ren := ⟨fun | 133 => 171 | 128 => 200 | n => n, fun | 51 => 25 | 3 => 3 | 4 => 4 | 46 => 100 | 5 => 5 | 9 => 9 | n => n, fun | n => n⟩
theorem Tryz.lays133 : Go.Proofs.Lays.n133 Tryz.prog Tryz.lays133_ren := {
  mixed := by kernel_rfl
  f128 := Tryz.func200.trans (congrArg some (by kernel_rfl))
  f133 := Tryz.func171.trans (congrArg some (by kernel_rfl))
  t3 := Tryz.underlying3
  a3 := Tryz.isAgg3
  z3 := Tryz.sizeOf3
  v3 := Tryz.zeroValue3
  t4 := Tryz.underlying4
  a4 := Tryz.isAgg4
  z4 := Tryz.sizeOf4
  v4 := Tryz.zeroValue4
  t5 := Tryz.underlying5
  a5 := Tryz.isAgg5
  z5 := Tryz.sizeOf5
  v5 := Tryz.zeroValue5
  t9 := Tryz.underlying9
  a9 := Tryz.isAgg9
  z9 := Tryz.sizeOf9
  v9 := Tryz.zeroValue9
  t46 := Tryz.underlying100
  a46 := Tryz.isAgg100
  z46 := Tryz.sizeOf100
  v46 := Tryz.zeroValue100
  t51 := Tryz.underlying25
  a51 := Tryz.isAgg25
  z51 := Tryz.sizeOf25
  v51 := Tryz.zeroValue25 }
theorem Tryz.bits_LeadingZeros32 (x : Int) (w : World) (h0 : 0 ≤ x) (h1 : x ≤ 4294967295) :
    Calls Tryz.prog 171 #[.int .u32 x] w fun e w' => e = .returned (.int .i64 (32 - (Lib.bitLen x.toNat : Int))) ∧ w' = w := Any.bits_LeadingZeros32 Tryz.lays133 x w h0 h1
def Tryz.lays134_ren : Go.Shelf.Ren := ⟨fun | 134 => 194 | 129 => 215 | n => n, fun | 53 => 97 | 3 => 3 | 4 => 4 | 46 => 100 | 5 => 5 | 9 => 9 | n => n, fun | n => n⟩
theorem Tryz.lays134 : Go.Proofs.Lays.n134 Tryz.prog Tryz.lays134_ren := {
  mixed := by kernel_rfl
  f129 := Tryz.func215.trans (congrArg some (by kernel_rfl))
  f134 := Tryz.func194.trans (congrArg some (by kernel_rfl))
  t3 := Tryz.underlying3
  a3 := Tryz.isAgg3
  z3 := Tryz.sizeOf3
  v3 := Tryz.zeroValue3
  t4 := Tryz.underlying4
  a4 := Tryz.isAgg4
  z4 := Tryz.sizeOf4
  v4 := Tryz.zeroValue4
  t5 := Tryz.underlying5
  a5 := Tryz.isAgg5
  z5 := Tryz.sizeOf5
  v5 := Tryz.zeroValue5
  t9 := Tryz.underlying9
  a9 := Tryz.isAgg9
  z9 := Tryz.sizeOf9
  v9 := Tryz.zeroValue9
  t46 := Tryz.underlying100
  a46 := Tryz.isAgg100
  z46 := Tryz.sizeOf100
  v46 := Tryz.zeroValue100
  t53 := Tryz.underlying97
  a53 := Tryz.isAgg97
  z53 := Tryz.sizeOf97
  v53 := Tryz.zeroValue97 }
theorem Tryz.bits_LeadingZeros64 (x : Int) (w : World) (h0 : 0 ≤ x) (h1 : x ≤ 18446744073709551615) :
    Calls Tryz.prog 194 #[.int .u64 x] w fun e w' => e = .returned (.int .i64 (64 - (Lib.bitLen x.toNat : Int))) ∧ w' = w := Any.bits_LeadingZeros64 Tryz.lays134 x w h0 h1
def Tryz.lays129_ren : Go.Shelf.Ren := ⟨fun | 129 => 215 | n => n, fun | 53 => 97 | 3 => 3 | 4 => 4 | 46 => 100 | 5 => 5 | 9 => 9 | n => n, fun | n => n⟩
theorem Tryz.lays129 : Go.Proofs.Lays.n129 Tryz.prog Tryz.lays129_ren := {
  mixed := by kernel_rfl
  f129 := Tryz.func215.trans (congrArg some (by kernel_rfl))
  t3 := Tryz.underlying3
  a3 := Tryz.isAgg3
  z3 := Tryz.sizeOf3
  v3 := Tryz.zeroValue3
  t4 := Tryz.underlying4
  a4 := Tryz.isAgg4
  z4 := Tryz.sizeOf4
  v4 := Tryz.zeroValue4
  t5 := Tryz.underlying5
  a5 := Tryz.isAgg5
  z5 := Tryz.sizeOf5
  v5 := Tryz.zeroValue5
  t9 := Tryz.underlying9
  a9 := Tryz.isAgg9
  z9 := Tryz.sizeOf9
  v9 := Tryz.zeroValue9
  t46 := Tryz.underlying100
  a46 := Tryz.isAgg100
  z46 := Tryz.sizeOf100
  v46 := Tryz.zeroValue100
  t53 := Tryz.underlying97
  a53 := Tryz.isAgg97
  z53 := Tryz.sizeOf97
  v53 := Tryz.zeroValue97 }
theorem Tryz.bits_Len64 (x : Int) (w : World) (h0 : 0 ≤ x) (h1 : x ≤ 18446744073709551615) :
    Calls Tryz.prog 215 #[.int .u64 x] w fun e w' => e = .returned (.int .i64 (Lib.bitLen x.toNat)) ∧ w' = w := Any.bits_Len64 Tryz.lays129 x w h0 h1
def Tryz.lays264_ren : Go.Shelf.Ren := ⟨fun | 264 => 157 | n => n, fun | 53 => 97 | 46 => 100 | n => n, fun | n => n⟩
theorem Tryz.lays264 : Go.Proofs.Lays.n264 Tryz.prog Tryz.lays264_ren := {
  mixed := by kernel_rfl
  f264 := Tryz.func157.trans (congrArg some (by kernel_rfl))
  t46 := Tryz.underlying100
  a46 := Tryz.isAgg100
  z46 := Tryz.sizeOf100
  v46 := Tryz.zeroValue100
  t53 := Tryz.underlying97
  a53 := Tryz.isAgg97
  z53 := Tryz.sizeOf97
  v53 := Tryz.zeroValue97 }
open Go.RowKit Go.Lib in
theorem Tryz.bits_Mul64 (x y : Nat) (hx : x < 18446744073709551616) (hy : y < 18446744073709551616) (w : World) :
    Calls Tryz.prog 157 #[.int .u64 x, .int .u64 y] w fun e w' => e = .returned (.tuple #[.int .u64 ((x * y / 18446744073709551616 : Nat) : Int), .int .u64 ((x * y % 18446744073709551616 : Nat) : Int)]) ∧ w' = w := Any.bits_Mul64 Tryz.lays264 x y hx hy w
end Go.Proofs
namespace Go.Proofs.YtogblocakccbgaaGreat
open Go.RowKit
theorem sub_bits (a b c d : Nat) (ha : a < 4294967296) (hb : b < 4294967296) (hc : c ≤ 1) (hd : d < 4294967296) (h : (d : Int) = ((a : Int) - b - c) % 4294967296) :
    ((((4294967295 ^^^ a) &&& b ||| (4294967295 ^^^ (a ^^^ b)) &&& d) / 2147483648 : Nat) : Int) = -(((a : Int) - b - c) / 4294967296) := by
 have e : ((4294967295 ^^^ a) &&& b ||| (4294967295 ^^^ (a ^^^ b)) &&& d) / 2 ^ 31 = (1 ^^^ (a / 2 ^ 31)) &&& (b / 2 ^ 31) ||| (1 ^^^ ((a / 2 ^ 31) ^^^ (b / 2 ^ 31))) &&& (d / 2 ^ 31) := by
  rw [Nat.or_div_two_pow, Nat.and_div_two_pow, Nat.and_div_two_pow, Nat.xor_div_two_pow, Nat.xor_div_two_pow, Nat.xor_div_two_pow]
 rw [show (2147483648 : Nat) = 2 ^ 31 from rfl, e]
 have hA : a / 2 ^ 31 = 0 ∨ a / 2 ^ 31 = 1 := by omega
 have hB : b / 2 ^ 31 = 0 ∨ b / 2 ^ 31 = 1 := by omega
 have hD : d / 2 ^ 31 = 0 ∨ d / 2 ^ 31 = 1 := by omega
 rcases hA with hA | hA <;> rcases hB with hB | hB <;> rcases hD with hD | hD <;> rw [hA, hB, hD] <;> simp <;> omega
theorem sub_bitsI (x y c : Int) (hx : U32 x) (hy : U32 y) (hc : 0 ≤ c ∧ c ≤ 1) :
    bits .or .u32 (bits .and .u32 (bits .xor .u32 IntKind.u32.max x) y) (bits .and .u32 (bits .xor .u32 IntKind.u32.max (bits .xor .u32 x y)) ((x - y - c) % 4294967296)) / 2147483648 = -((x - y - c) / 4294967296) := by
 unfold U32 at hx hy
 obtain ⟨a, rfl⟩ := Int.eq_ofNat_of_zero_le hx.1
 obtain ⟨b, rfl⟩ := Int.eq_ofNat_of_zero_le hy.1
 obtain ⟨c, rfl⟩ := Int.eq_ofNat_of_zero_le hc.1
 obtain ⟨d, hd⟩ := Int.eq_ofNat_of_zero_le (Int.emod_nonneg ((a : Int) - b - c) (show (4294967296 : Int) ≠ 0 by decide))
 have hd1 := Int.emod_lt_of_pos ((a : Int) - b - c) (show (0 : Int) < 4294967296 by decide)
 rw [hd] at hd1 ⊢
 have xl : a ^^^ b < 2 ^ 32 := Nat.xor_lt_two_pow (by omega) (by omega)
 have x1 : 4294967295 ^^^ a < 2 ^ 32 := Nat.xor_lt_two_pow (by decide) (by omega)
 have x2 : 4294967295 ^^^ (a ^^^ b) < 2 ^ 32 := Nat.xor_lt_two_pow (by decide) xl
 have a1 : (4294967295 ^^^ a) &&& b < 2 ^ 32 := Nat.and_lt_two_pow _ (by omega)
 have a2 : (4294967295 ^^^ (a ^^^ b)) &&& d < 2 ^ 32 := Nat.and_lt_two_pow _ (by omega)
 rw [show IntKind.u32.max = ((4294967295 : Nat) : Int) from rfl, u32_xor_nat _ a (by omega) (by omega), u32_xor_nat a b (by omega) (by omega), u32_and_nat _ _ (by omega) (by omega),
  u32_xor_nat _ _ (by decide) (by omega), u32_and_nat _ _ (by omega) (by omega), u32_or_nat _ _ (by omega) (by omega)]
 exact sub_bits a b c d (by omega) (by omega) (by omega) (by omega) hd.symm
theorem w_sub32 (x y c : Int) (w : World) (hx : U32 x) (hy : U32 y) (hc : 0 ≤ c ∧ c ≤ 1) :
    Calls Tryz.prog 176 #[.int .u32 x, .int .u32 y, .int .u32 c] w fun e w' => e = .returned (.tuple #[.int .u32 ((x - y - c) % 4294967296), .int .u32 (-((x - y - c) / 4294967296))]) ∧ w' = w := by
 rw [← sub_bitsI x y c hx hy hc]
 unfold U32 at hx hy
 go_enter Tryz.func176, Tryz.ntmps176
 go_wp2
 go_ret2
 exact ⟨rfl, rfl⟩
theorem bitLen_spec : ∀ (k n : Nat), n < 2 ^ k → k ≤ 64 → n ≠ 0 → 0 < Lib.bitLen n ∧ n < 2 ^ Lib.bitLen n ∧ 2 ^ (Lib.bitLen n - 1) ≤ n
 | 0, n, h, _, h0 => absurd h (by omega)
 | k + 1, n, h, hk, h0 => by
  have h64 : n < 2 ^ 64 := Nat.lt_of_lt_of_le h (Nat.pow_le_pow_right (by decide) hk)
  rw [Lib.bitLen_half n h0 h64]
  by_cases h2 : n / 2 = 0
  ·have : n = 1 := by omega
   subst this
   decide
  ·obtain ⟨a, b, c⟩ := bitLen_spec k (n / 2) (by rw [Nat.pow_succ] at h; omega) (by omega) h2
   refine ⟨by omega, ?_, ?_⟩
   ·rw [Nat.pow_add]; omega
   ·rw [Nat.add_sub_cancel_left, show Lib.bitLen (n / 2) = (Lib.bitLen (n / 2) - 1) + 1 from by omega, Nat.pow_succ]
    omega
theorem w_lead (x : Int) (w : World) (hx : U32 x) (h0 : x ≠ 0) :
    Calls Tryz.prog 171 #[.int .u32 x] w fun e w' => ∃ s : Nat, e = .returned (.int .i64 s) ∧ s < 32 ∧ x * 2 ^ s < 4294967296 ∧ 2147483648 ≤ x * 2 ^ s ∧ w' = w := by
 unfold U32 at hx
 refine (Tryz.bits_LeadingZeros32 x w hx.1 (by omega)).mono ?_
 rintro e w' ⟨rfl, rfl⟩
 obtain ⟨n, rfl⟩ := Int.eq_ofNat_of_zero_le hx.1
 have b1 := Lib.bitLen_le n 32 (by omega) (by omega)
 obtain ⟨b0, b2, b3⟩ := bitLen_spec 32 n (by omega) (by decide) (by omega)
 rw [Int.toNat_natCast]
 generalize Lib.bitLen n = L at *
 have e1 : (2 : Nat) ^ L * 2 ^ (32 - L) = 4294967296 := by rw [← Nat.pow_add, Nat.add_sub_cancel' b1]
 have e2 : (2 : Nat) ^ (L - 1) * 2 ^ (32 - L) = 2147483648 := by rw [← Nat.pow_add, show L - 1 + (32 - L) = 31 from by omega]
 have e3 : (n : Int) * 2 ^ (32 - L) = ((n * 2 ^ (32 - L) : Nat) : Int) := by rw [Int.natCast_mul, Int.natCast_pow]; rfl
 refine ⟨32 - L, by rw [Int.ofNat_sub b1]; rfl, by omega, ?_, ?_, rfl⟩
 ·have := Nat.mul_lt_mul_of_pos_right b2 (Nat.two_pow_pos (32 - L))
  rw [e1] at this; rw [e3]; exact Int.ofNat_lt.2 this
 ·have := Nat.mul_le_mul_right (2 ^ (32 - L)) b3
  rw [e2] at this; rw [e3]; exact Int.ofNat_le.2 this
theorem or_low (s : Nat) (hs : s < 32) (hi lo : Int) (h0 : 0 ≤ hi) (l0 : 0 ≤ lo) (l1 : lo < 2 ^ s) (h1 : hi < 4294967296) : bits .or .u64 lo (hi * 2 ^ s) = lo + hi * 2 ^ s ∧ lo + hi * 2 ^ s < 2 ^ s * 4294967296 ∧ 0 ≤ lo + hi * 2 ^ s ∧ hi * 2 ^ s < 18446744073709551616 ∧ lo + hi * 2 ^ s < 18446744073709551616 ∧ 0 ≤ hi * 2 ^ s := by
 obtain ⟨a, rfl⟩ := Int.eq_ofNat_of_zero_le h0
 obtain ⟨b, rfl⟩ := Int.eq_ofNat_of_zero_le l0
 have e3 : (a : Int) * 2 ^ s = ((2 ^ s * a : Nat) : Int) := by rw [Int.natCast_mul, Int.natCast_pow, Int.mul_comm]; rfl
 have e4 : (2 : Int) ^ s * 4294967296 = ((2 ^ s * 4294967296 : Nat) : Int) := by rw [Int.natCast_mul, Int.natCast_pow]; rfl
 have hb : b < 2 ^ s := by
  have : ((b : Nat) : Int) < ((2 ^ s : Nat) : Int) := by rw [Int.natCast_pow]; exact l1
  omega
 have hp : 2 ^ s ≤ 2 ^ 31 := Nat.pow_le_pow_right (by decide) (by omega)
 rw [e3, e4]
 have m1 : 2 ^ s * (a + 1) ≤ 2 ^ s * 4294967296 := Nat.mul_le_mul_left _ (by omega)
 rw [Nat.mul_add] at m1
 have e := Nat.two_pow_add_eq_or_of_lt hb a
 rw [u64_or_nat _ _ (by omega) (by omega), Nat.or_comm, ← e]
 omega
theorem left_step {X zs : List Int} {j s : Nat} {z x : Int} {D : Nat} (hv : val zs + BB ^ (D + j) * z = BB ^ D * (val (X.take j) * 2 ^ s)) (hl : zs.length = D + j) (hx : X.getD j 0 = x) :
    val (zs ++ [(z + x * 2 ^ s) % 4294967296]) + BB ^ (D + (j + 1)) * ((z + x * 2 ^ s) / 4294967296) = BB ^ D * (val (X.take (j + 1)) * 2 ^ s) := by
 rw [val_take_succ', hx, val_append, hl]
 simp only [val]
 have hm := lim_mod (z + x * 2 ^ s)
 have h4 : BB = 4294967296 := rfl
 rw [h4] at hm hv ⊢
 generalize (z + x * 2 ^ s) % 4294967296 = r at hm ⊢
 generalize (z + x * 2 ^ s) / 4294967296 = q at hm ⊢
 rw [show D + (j + 1) = (D + j) + 1 from rfl, Int.pow_succ, show (4294967296 : Int) ^ (D + j) = 4294967296 ^ D * 4294967296 ^ j from Int.pow_add .. ] at *
 generalize (4294967296 : Int) ^ D = A at *
 generalize (4294967296 : Int) ^ j = C at *
 generalize (2 : Int) ^ s = S at *
 generalize val (X.take j) = V at *
 generalize val zs = U at *
 have h2 : A * C * z = A * (V * S) - U := by omega
 have : A * C * (r + 4294967296 * q) = A * C * (z + x * S) := by rw [hm]
 grind
theorem left_end {zs : List Int} {z : Int} (n : Nat) (hl : zs.length = n) : val (zs ++ [z]) = val zs + BB ^ n * z := by
 rw [val_append, hl]; simp [val]
theorem bb_two (D s : Nat) (v : Int) : BB ^ D * (v * 2 ^ s) = v * 2 ^ (32 * D + s) := by
 have : BB ^ D = 2 ^ (32 * D) := by
  rw [Int.pow_mul]; rfl
 rw [this, Int.pow_add]
 grind
theorem two_pow_le {s t : Nat} (h : s ≤ t) : (2 : Int) ^ s ≤ 2 ^ t := by
 have := Nat.pow_le_pow_right (n := 2) (by decide) h
 have e := fun n : Nat => Int.natCast_pow 2 n
 rw [show ((2 : Nat) : Int) = 2 from rfl] at e
 rw [← e, ← e]
 exact Int.ofNat_le.2 this
theorem cell_one_l (w : World) (x : Value) (t : TypeId) : ∀ j u, [x][j]? = some u → (w.alloc (.cells #[x] t)).cell? ((⟨w.heap.size, 0, none⟩ : Addr).add j) = some u := by
 intro j u hj
 match j, hj with
 | 0, hj =>
  simp at hj
  subst hj
  rw [show (⟨w.heap.size, 0, none⟩ : Addr).add 0 = ⟨w.heap.size, 0, none⟩ from by simp [Addr.add], cell_al, if_pos rfl]
  rfl
 | j + 1, hj => simp at hj
theorem w_left (va : Value) (X : List Int) (d s : Nat) (w : World) (ha : Lim w va X) (hx : X.length ≤ 100000) (hs : s < 32) (hk : d ≤ 1000000) :
    Calls Tryz.prog 172 #[va, .int .i64 (32 * d + s)] w fun e w' => ∃ g cap zs, e = .returned (.slice (some ⟨g, 0, none⟩) zs.length cap) ∧ O32 w' w.heap.size g zs.length cap zs ∧ Lb zs ∧ val zs = val X * 2 ^ (32 * d + s) ∧ zs.length = d + X.length + 1 ∧ Ext w w' := by
  obtain ⟨aoA, bA, oA, cA, rfl, a1, a2, a3, a4, a5, a6⟩ := ha.view
  have lA := ha.lb
  obtain ⟨i0, hi, hz0, hz1, hz2⟩ := info_parts info81
  have hq1 : (32 * (d : Int) + s) / 32 = d := by omega
  have hq2 : (32 * (d : Int) + s) % 32 = s := by omega
  go_enter Tryz.func172, Tryz.ntmps172
  go_wp2_with (at_make; refine wpList_make_lc _ rfl _ _ 22 rfl w.heap.size 25 i0 (.int .u32 0) 1 Tryz.underlying22 hi hz0 hz1 .i64 .i64 _ _ d (d + X.length + 1) rfl rfl (by omega) (by omega) (by omega) c_38 c_21 (Nat.le_refl _) ?_; intro w0 hown0 hgrow0)
  have hR0 : O32 w0 w.heap.size w.heap.size d (d + X.length + 1) (List.replicate d 0) := O32.made (by omega) hown0
  have hE0 : Ext w w0 := Ext.grown (Ext.refl w) hgrow0
  clear hown0 hgrow0
  go_loopw [5, 6, 20] (fun v c i wr => ∃ (j : Nat) (z : Int) (zs : List Int), j ≤ X.length ∧ v = .slice (some ⟨w.heap.size, 0, none⟩) (d + j) (d + X.length + 1) ∧ c = .int .u64 z ∧ i = .int .i64 j ∧ 0 ≤ z ∧ z < 2 ^ s ∧ zs.length = d + j ∧ Lb zs ∧ val zs + BB ^ (d + j) * z = BB ^ d * (val (X.take j) * 2 ^ s) ∧
      Hid (O32 wr w.heap.size w.heap.size (d + j) (d + X.length + 1) zs) ∧ Hid (Ext w wr)) (fun _ _ i _ => X.length - (intOf i).toNat)
  case atStart => exact ⟨0, 0, List.replicate d 0, Nat.zero_le _, rfl, rfl, rfl, by decide, Int.pow_pos (by decide), by simp, fun y hy => by rw [List.eq_of_mem_replicate hy]; decide, by simp [val, val_zeros], hR0, hE0⟩
  case round =>
    obtain ⟨j, z, zs, hj, rfl, rfl, rfl, z0, z1, hzl, hzb, hv, HR, HE⟩ := hrel
    by_cases hjx : j < X.length
    · have eA := a1 (by omega)
      subst eA
      have hca := (HE.out.cells.1 _ (oA + j) (a4 (by omega))).trans (a5 j hjx)
      have hxk : U32 (X.getD j 0) := lA.getD j
      obtain ⟨x, ex⟩ : ∃ x, X.getD j 0 = x := ⟨_, rfl⟩
      have hq := left_step hv hzl ex
      rw [ex] at hca hxk
      unfold U32 at hxk
      obtain ⟨o1, o2, o3, o4, o5, o6⟩ := or_low s hs x z hxk.1 z0 z1 hxk.2
      replace hq : Hid _ := hq
      clear ex hv a5
      have hlt := HR.out.parts
      go_wp2_with (at_builtin; refine wpList_append_fits _ rfl _ _ 22 rfl w.heap.size 25 i0 1 Tryz.underlying22 hi hz1 w.heap.size (d + j) (d + X.length + 1) (zs.map (Value.int .u32)) rfl (O32.alloc HR.out _) ⟨wr.heap.size, 0, none⟩ 1 1 [Value.int .u32 ((z + x * 2 ^ s) % 4294967296)] rfl rfl (cell_one_l _ _ _) c_30 (by omega) ?_; intro w1 hown1 hgrow1)
      have hR1 := O32.appended hown1
      have hE1 : Ext w w1 := Ext.grownAt (HE.out.alloc _) hgrow1 (Nat.le_refl _)
      clear hown1 hgrow1
      replace hR1 : Hid _ := hR1
      replace hE1 : Hid _ := hE1
      go_roundw
      case rel => exact ⟨j + 1, _, zs ++ [(z + x * 2 ^ s) % 4294967296], hjx, rfl, rfl, by go_num, Int.ediv_nonneg o3 (by decide), Int.ediv_lt_of_lt_mul (by decide) o2, by simp [hzl]; omega, hzb.snoc (U32.mod _), hq.out, hR1, hE1⟩
      case measure => simp [intOf]; omega
    · have hjl : j = X.length := by omega
      subst hjl
      have hz32 : z < 4294967296 := by
        have : (2 : Int) ^ s ≤ 2 ^ 32 := two_pow_le (by omega)
        omega
      have hlt := HR.out.parts
      go_wp2_with (at_builtin; refine wpList_append_fits _ rfl _ _ 22 rfl w.heap.size 25 i0 1 Tryz.underlying22 hi hz1 w.heap.size (d + X.length) (d + X.length + 1) (zs.map (Value.int .u32)) rfl (O32.alloc HR.out _) ⟨wr.heap.size, 0, none⟩ 1 1 [Value.int .u32 z] rfl rfl (cell_one_l _ _ _) c_30 (by omega) ?_; intro w1 hown1 hgrow1)
      have hR1 := O32.appended hown1
      have hE1 : Ext w w1 := Ext.grownAt (HE.out.alloc _) hgrow1 (Nat.le_refl _)
      have hlen : (zs ++ [z]).length = d + X.length + 1 := by simp [hzl]
      go_ret
      refine ⟨w.heap.size, d + X.length + 1, zs ++ [z], by rw [hlen]; rfl, by rw [hlen]; exact hR1, hzb.snoc ⟨z0, hz32⟩, ?_, hlen, hE1⟩
      rw [left_end _ hzl, hv, List.take_length, bb_two]
theorem grown_set {a w : World} {g k : Nat} (h : a.grownBy w (some g)) (x : Value) : a.grownBy (w.setCell ⟨g, k, none⟩ x) (some g) := by
 refine ⟨h.os, h.tape, h.output, by simpa using h.size, fun i hi hne => ?_⟩
 rw [← h.block i hi hne]
 simp only [World.setCell]
 rw [Array.getElem?_modify, if_neg (fun e => hne (by rw [e]))]
theorem grown_ext {a b c : World} {g : Nat} (h : a.grownBy b (some g)) (k : Ext b c) : a.grownBy c (some g) :=
 ⟨k.os.trans h.os, k.tape.trans h.tape, k.output.trans h.output, Nat.le_trans h.size k.size, fun i hi hne => (k.block i (Nat.lt_of_lt_of_le hi h.size)).trans (h.block i hi hne)⟩
def Off (v : Value) (g : Nat) : Prop := ∀ a n c, v = .slice (some a) n c → a.block ≠ g
theorem Off.mk {b o n c g : Nat} (h : b ≠ g) : Off (.slice (some ⟨b, o, none⟩) n c) g := fun a _ _ e => by cases e; exact h
theorem Off.none {n c g : Nat} : Off (.slice none n c) g := fun a _ _ e => by cases e
theorem Lim.grownAt {w w' : World} {v : Value} {xs : List Int} {g : Nat} (h : Lim w v xs) (k : w.grownBy w' (some g)) (ho : Off v g) : Lim w' v xs := by
 refine ⟨h.1, ?_⟩
 rcases h.2 with h | ⟨b, o, cap, hv, h1, h2, h3, h4⟩
 ·exact Or.inl h
 ·refine Or.inr ⟨b, o, cap, hv, h1, h2, Nat.lt_of_lt_of_le h3 k.size, fun i hi => ?_⟩
  have hb : b ≠ g := ho _ _ _ hv
  rw [World.cell?_of_block (k.block b h3 (by simpa using hb))]
  exact h4 i hi
theorem drop_set {ps us : List Int} {j : Nat} {z : Int} (hl : ps.length = j) (hj : j < us.length) : (ps ++ us.drop j).set j z = (ps ++ [z]) ++ us.drop (j + 1) := by
 rw [List.set_append_right _ _ (by omega), hl, Nat.sub_self, List.drop_eq_getElem_cons hj, List.set_cons_zero, List.append_assoc]; rfl
theorem drop_get {ps us : List Int} {j : Nat} (hl : ps.length = j) : (ps ++ us.drop j).getD j 0 = us.getD j 0 := by
 rw [List.getD_eq_getElem?_getD, List.getElem?_append_right (by omega), hl, Nat.sub_self, List.getElem?_drop, Nat.add_zero, ← List.getD_eq_getElem?_getD]
theorem sub_step {U Y ps : List Int} {i : Nat} {q b c u y : Int} (hv : val ps - BB ^ i * (b + c) = val (U.take i) - q * val (Y.take i)) (hl : ps.length = i) (hu : U.getD i 0 = u) (hy : Y.getD i 0 = y) :
    val (ps ++ [(u - (c + q * y) % 4294967296 - b) % 4294967296]) - BB ^ (i + 1) * (-((u - (c + q * y) % 4294967296 - b) / 4294967296) + (c + q * y) / 4294967296) = val (U.take (i + 1)) - q * val (Y.take (i + 1)) := by
 rw [val_take_succ', val_take_succ', hu, hy, val_append, hl]
 simp only [val]
 have hm := lim_mod (c + q * y)
 have h4 : BB = 4294967296 := rfl
 rw [h4] at hm hv ⊢
 generalize (c + q * y) % 4294967296 = t at hm ⊢
 generalize (c + q * y) / 4294967296 = c' at hm ⊢
 have hm2 := lim_mod (u - t - b)
 rw [h4] at hm2
 generalize (u - t - b) % 4294967296 = p at hm2 ⊢
 generalize (u - t - b) / 4294967296 = d at hm2 ⊢
 rw [Int.pow_succ]
 generalize (4294967296 : Int) ^ i = C at *
 generalize val (U.take i) = V at *
 generalize val (Y.take i) = W at *
 generalize val ps = Z at *
 have e1 : C * (t + 4294967296 * c') = C * (c + q * y) := by rw [hm]
 have e2 : C * (p + 4294967296 * d) = C * (u - t - b) := by rw [hm2]
 grind
theorem sub_lim {q y c b u : Int} (hq : U32 q) (hy : U32 y) (hc : U32 c) (hb : 0 ≤ b ∧ b ≤ 1) (hu : U32 u) :
    0 ≤ c + q * y ∧ c + q * y < 18446744073709551616 ∧ U32 ((c + q * y) % 4294967296) ∧ U32 ((c + q * y) / 4294967296) ∧ 0 ≤ -((u - (c + q * y) % 4294967296 - b) / 4294967296) ∧ -((u - (c + q * y) % 4294967296 - b) / 4294967296) ≤ 1 := by
 have h := prod_bound hq hy
 have hm := U32.mod (c + q * y)
 unfold U32 at *
 generalize q * y = Q at *
 refine ⟨by omega, by omega, hm, by omega, by omega, by omega⟩
theorem prod_lim {q y : Int} (hq : U32 q) (hy : U32 y) : 0 ≤ q * y ∧ q * y < 18446744073709551616 := by
 have h := prod_bound hq hy
 omega
theorem w_subtract (g cap : Nat) (U Y : List Int) (q : Int) (vb : Value) (w : World) (hU : O32 w 0 g (Y.length + 1) cap U) (hb : Lim w vb Y) (ho : Off vb g) (hUb : Lb U) (hq : U32 q) (hY : Y.length ≤ 100000) :
    Calls Tryz.prog 201 #[.slice (some ⟨g, 0, none⟩) (Y.length + 1) cap, vb, .int .u32 q] w fun e w' => ∃ U', e = .returned (.bool (decide (q * val Y ≤ val U))) ∧ O32 w' 0 g (Y.length + 1) cap U' ∧ Lb U' ∧ (q * val Y ≤ val U → val U' = val U - q * val Y) ∧ w.grownBy w' (some g) := by
  have lY := hb.lb
  have hUl := hU.len
  obtain ⟨aoB, bB, oB, cB, rfl, b1, b2, b3, b4, b5, b6⟩ := hb.view
  have hge : w.grownBy w (some g) := World.grownBy.refl _ _
  go_enter Tryz.func201, Tryz.ntmps201
  go_wp2_with fail
  go_loopw [7, 8, 14] (fun c b i wr => ∃ (j : Nat) (z t : Int) (ps : List Int), j ≤ Y.length ∧ c = .int .u64 z ∧ b = .int .u32 t ∧ i = .int .i64 j ∧ U32 z ∧ 0 ≤ t ∧ t ≤ 1 ∧ ps.length = j ∧ Lb ps ∧ val ps - BB ^ j * (t + z) = val (U.take j) - q * val (Y.take j) ∧
      Hid (O32 wr 0 g (Y.length + 1) cap (ps ++ U.drop j)) ∧ Hid (w.grownBy wr (some g))) (fun _ _ i _ => Y.length - (intOf i).toNat)
  case atStart => exact ⟨0, 0, 0, [], Nat.zero_le _, rfl, rfl, rfl, ⟨by decide, by decide⟩, by decide, by decide, rfl, Lb.nil, by simp [val], hU, hge⟩
  case round =>
    obtain ⟨j, z, t, ps, hj, rfl, rfl, rfl, hz, t0, t1, hpl, hpb, hv, HR, HE⟩ := hrel
    have hcu := HR.out.cell (k := j) (by omega)
    rw [drop_get hpl] at hcu
    have hfu := HR.out.frozen j
    have hgl := HR.out.parts
    have huU : U32 (U.getD j 0) := hUb.getD j
    obtain ⟨u, eu⟩ : ∃ u, U.getD j 0 = u := ⟨_, rfl⟩
    rw [eu] at hcu huU
    by_cases hjx : j < Y.length
    · have eB := b1 (by omega)
      subst eB
      have hne : bB ≠ g := ho _ _ _ rfl
      have hcb := (World.cell?_of_block (a := ⟨bB, oB + j, none⟩) (HE.out.block bB (b4 (by omega)) (by simpa using hne))).trans (b5 j hjx)
      have hyU : U32 (Y.getD j 0) := lY.getD j
      obtain ⟨y, ey⟩ : ∃ y, Y.getD j 0 = y := ⟨_, rfl⟩
      rw [ey] at hcb hyU
      have hst := sub_step hv hpl eu ey
      obtain ⟨l1, l2, l3, l4, l5, l6⟩ := sub_lim hq hyU hz ⟨t0, t1⟩ huU
      have l7 := prod_lim hq hyU
      have hw1 : IntKind.u64.wrap q = q := u64_small hq.1 (by unfold U32 at hq; omega)
      have hw2 : IntKind.u64.wrap y = y := u64_small hyU.1 (by unfold U32 at hyU; omega)
      have hw3 : IntKind.u64.wrap (q * y) = q * y := u64_small l7.1 l7.2
      have hw4 : IntKind.u64.wrap (z + q * y) = z + q * y := u64_small l1 l2
      have hz0 := hz
      have hu0 := huU
      have hset := HR.out.set j ((u - (z + q * y) % 4294967296 - t) % 4294967296)
      rw [drop_set hpl (by omega)] at hset
      have hes := grown_set (k := j) HE.out (.int .u32 ((u - (z + q * y) % 4294967296 - t) % 4294967296))
      replace hset : Hid _ := hset
      replace hes : Hid _ := hes
      replace hst : Hid _ := hst
      clear eu ey hv b5
      go_wp2_with (go_at_call 176; (with_reducible refine (w_sub32 u _ t _ huU l3 ⟨t0, t1⟩).mono ?_); rintro e w2 ⟨rfl, rfl⟩)
      go_roundw
      case rel => exact ⟨j + 1, _, _, ps ++ [(u - (z + q * y) % 4294967296 - t) % 4294967296], hjx, rfl, rfl, by go_num, l4, l5, l6, by simp [hpl], (hpb.snoc (U32.mod _) : Lb _), hst.out, hset, hes⟩
      case measure => simp [intOf]; omega
    · have hjl : j = Y.length := by omega
      subst hjl
      have hpn := left_end (zs := ps) (z := (u - z - t) % 4294967296) Y.length hpl
      have hset := HR.out.set Y.length ((u - z - t) % 4294967296)
      rw [drop_set hpl (by omega), List.drop_eq_nil_of_le (by omega), List.append_nil] at hset
      have hes := grown_set (k := Y.length) HE.out (.int .u32 ((u - z - t) % 4294967296))
      have hlb : Lb (ps ++ [(u - z - t) % 4294967296]) := hpb.snoc (U32.mod _)
      have hvU : val U = val (U.take Y.length) + BB ^ Y.length * u := by
        have := val_take_succ' U Y.length
        rw [List.take_of_length_le (by omega), eu] at this; exact this
      have hmod := lim_mod (u - z - t)
      have hlo := val_nonneg hlb
      have hhi := val_lt hlb
      rw [List.length_append, hpl, List.length_singleton] at hhi
      obtain ⟨V, eV⟩ : ∃ V, val (ps ++ [(u - z - t) % 4294967296]) = V := ⟨_, rfl⟩
      have h0 : 0 ≤ -((u - z - t) / 4294967296) ∧ -((u - z - t) / 4294967296) ≤ 1 := by unfold U32 at huU hz; omega
      obtain ⟨bo, ebo⟩ : ∃ bo, -((u - z - t) / 4294967296) = bo := ⟨_, rfl⟩
      have hmain : val (ps ++ [(u - z - t) % 4294967296]) - BB ^ (Y.length + 1) * bo = val U - q * val Y := by
        rw [hpn, hvU, Int.pow_succ]
        rw [List.take_length] at hv
        have h4 : BB = 4294967296 := rfl
        rw [h4] at hmod hv ⊢
        generalize (u - z - t) % 4294967296 = p at hmod ⊢
        have hmm : u - z - t = p - 4294967296 * bo := by omega
        generalize (4294967296 : Int) ^ Y.length = C at *
        have e : C * (u - z - t) = C * (p - 4294967296 * bo) := by rw [hmm]
        grind
      rw [ebo] at h0
      rw [eV] at hmain hlo hhi
      have hdec : decide (q * val Y ≤ val U) = decide (bo = 0) := by
        have p1 : (0 : Int) < BB ^ (Y.length + 1) := Int.pow_pos (by decide)
        rcases (show bo = 0 ∨ bo = 1 by omega) with rfl | rfl
        · simp only [Int.mul_zero] at hmain; simp; omega
        · simp only [Int.mul_one] at hmain
          simp; omega
      have hres : q * val Y ≤ val U → val (ps ++ [(u - z - t) % 4294967296]) = val U - q * val Y := fun h => by
        rw [decide_eq_true h] at hdec
        have : bo = 0 := of_decide_eq_true hdec.symm
        subst this; rw [eV]; simp only [Int.mul_zero] at hmain; omega
      replace hset : Hid _ := hset
      replace hes : Hid _ := hes
      replace hres : Hid _ := hres
      have hzs : z % 4294967296 = z := by unfold U32 at hz; omega
      clear hmain hpn hv hlo hhi hmod hvU eu
      have hz0 := hz
      have hu0 := huU
      unfold U32 at hz
      go_wp2_with (go_at_call 176; (with_reducible refine (w_sub32 u z t _ huU hz0 ⟨t0, t1⟩).mono ?_); rintro e w2 ⟨rfl, rfl⟩)
      have hd2 : decide (q * val Y ≤ val U) = (bo == 0) := hdec
      rw [hd2]
      go_ret
      exact ⟨_, rfl, hset.out, hlb, hres.out, hes.out⟩
end Go.Proofs.YtogblocakccbgaaGreat
