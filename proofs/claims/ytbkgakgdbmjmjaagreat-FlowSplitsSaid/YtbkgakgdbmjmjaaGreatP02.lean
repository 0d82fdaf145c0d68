/- The plain arithmetic of a division of two words by one. -/
import Derived.Test.YtbkgakgdbmjmjaaGreatP01
import Derived.Shelf.GgClosure.StringsRunes
import Derived.Shelf.Bits.Mul64
import Derived.Shelf.Strings.FuncGrows
import Derived.Shelf.SlicesE.Clone
import Derived.Lib.ItoaNum
import Derived.Deep.CutBlock
import Derived.Deep.DeepCutAuto
set_option linter.unusedSimpArgs false
set_option linter.unusedVariables false
set_option maxRecDepth 100000
set_option maxHeartbeats 2000000
namespace Go.Proofs
open Go.Shelf
def Tryz.lays128_ren : Go.Shelf.Ren := ⟨fun | 128 => 259 | n => n, fun | 51 => 255 | 3 => 3 | 4 => 4 | 46 => 55 | 5 => 5 | 9 => 9 | n => n, fun | n => n⟩
theorem Tryz.lays128 : Go.Proofs.Lays.n128 Tryz.prog Tryz.lays128_ren := {
  mixed := by kernel_rfl
  f128 := Tryz.func259.trans (congrArg some (by kernel_rfl))
  t3 := Tryz.underlying3
  a3 := Tryz.isAgg3
  z3 := Tryz.sizeOf3
  v3 := Tryz.zeroValue3
  t4 := Tryz.underlying4
  a4 := Tryz.isAgg4
  z4 := Tryz.sizeOf4
  v4 := Tryz.zeroValue4
  t5 := Tryz.underlying5
  a5 := Tryz.isAgg5
  z5 := Tryz.sizeOf5
  v5 := Tryz.zeroValue5
  t9 := Tryz.underlying9
  a9 := Tryz.isAgg9
  z9 := Tryz.sizeOf9
  v9 := Tryz.zeroValue9
  t46 := Tryz.underlying55
  a46 := Tryz.isAgg55
  z46 := Tryz.sizeOf55
  v46 := Tryz.zeroValue55
  t51 := Tryz.underlying255
  a51 := Tryz.isAgg255
  z51 := Tryz.sizeOf255
  v51 := Tryz.zeroValue255 }
theorem Tryz.bits_Len32 (x : Int) (w : World) (h0 : 0 ≤ x) (h1 : x ≤ 4294967295) :
    Calls Tryz.prog 259 #[.int .u32 x] w fun e w' => e = .returned (.int .i64 (Lib.bitLen x.toNat)) ∧ w' = w := Any.bits_Len32 Tryz.lays128 x w h0 h1
def Tryz.lays133_ren : Go.Shelf.Ren := ⟨fun | 133 => 238 | 128 => 259 | n => n, fun | 51 => 255 | 3 => 3 | 4 => 4 | 46 => 55 | 5 => 5 | 9 => 9 | n => n, fun | n => n⟩
theorem Tryz.lays133 : Go.Proofs.Lays.n133 Tryz.prog Tryz.lays133_ren := {
  mixed := by kernel_rfl
  f128 := Tryz.func259.trans (congrArg some (by kernel_rfl))
  f133 := Tryz.func238.trans (congrArg some (by kernel_rfl))
  t3 := Tryz.underlying3
  a3 := Tryz.isAgg3
  z3 := Tryz.sizeOf3
  v3 := Tryz.zeroValue3
  t4 := Tryz.underlying4
  a4 := Tryz.isAgg4
  z4 := Tryz.sizeOf4
  v4 := Tryz.zeroValue4
  t5 := Tryz.underlying5
  a5 := Tryz.isAgg5
  z5 := Tryz.sizeOf5
  v5 := Tryz.zeroValue5
  t9 := Tryz.underlying9
  a9 := Tryz.isAgg9
  z9 := Tryz.sizeOf9
  v9 := Tryz.zeroValue9
  t46 := Tryz.underlying55
  a46 := Tryz.isAgg55
  z46 := Tryz.sizeOf55
  v46 := Tryz.zeroValue55
  t51 := Tryz.underlying255
  a51 := Tryz.isAgg255
  z51 := Tryz.sizeOf255
  v51 := Tryz.zeroValue255 }
theorem Tryz.bits_LeadingZeros32 (x : Int) (w : World) (h0 : 0 ≤ x) (h1 : x ≤ 4294967295) :
    Calls Tryz.prog 238 #[.int .u32 x] w fun e w' => e = .returned (.int .i64 (32 - (Lib.bitLen x.toNat : Int))) ∧ w' = w := Any.bits_LeadingZeros32 Tryz.lays133 x w h0 h1
def Tryz.lays134_ren : Go.Shelf.Ren := ⟨fun | 134 => 223 | 129 => 252 | n => n, fun | 53 => 52 | 3 => 3 | 4 => 4 | 46 => 55 | 5 => 5 | 9 => 9 | n => n, fun | n => n⟩
theorem Tryz.lays134 : Go.Proofs.Lays.n134 Tryz.prog Tryz.lays134_ren := {
  mixed := by kernel_rfl
  f129 := Tryz.func252.trans (congrArg some (by kernel_rfl))
  f134 := Tryz.func223.trans (congrArg some (by kernel_rfl))
  t3 := Tryz.underlying3
  a3 := Tryz.isAgg3
  z3 := Tryz.sizeOf3
  v3 := Tryz.zeroValue3
  t4 := Tryz.underlying4
  a4 := Tryz.isAgg4
  z4 := Tryz.sizeOf4
  v4 := Tryz.zeroValue4
  t5 := Tryz.underlying5
  a5 := Tryz.isAgg5
  z5 := Tryz.sizeOf5
  v5 := Tryz.zeroValue5
  t9 := Tryz.underlying9
  a9 := Tryz.isAgg9
  z9 := Tryz.sizeOf9
  v9 := Tryz.zeroValue9
  t46 := Tryz.underlying55
  a46 := Tryz.isAgg55
  z46 := Tryz.sizeOf55
  v46 := Tryz.zeroValue55
  t53 := Tryz.underlying52
  a53 := Tryz.isAgg52
  z53 := Tryz.sizeOf52
  v53 := Tryz.zeroValue52 }
theorem Tryz.bits_LeadingZeros64 (x : Int) (w : World) (h0 : 0 ≤ x) (h1 : x ≤ 18446744073709551615) :
    Calls Tryz.prog 223 #[.int .u64 x] w fun e w' => e = .returned (.int .i64 (64 - (Lib.bitLen x.toNat : Int))) ∧ w' = w := Any.bits_LeadingZeros64 Tryz.lays134 x w h0 h1
def Tryz.lays129_ren : Go.Shelf.Ren := ⟨fun | 129 => 252 | n => n, fun | 53 => 52 | 3 => 3 | 4 => 4 | 46 => 55 | 5 => 5 | 9 => 9 | n => n, fun | n => n⟩
theorem Tryz.lays129 : Go.Proofs.Lays.n129 Tryz.prog Tryz.lays129_ren := {
  mixed := by kernel_rfl
  f129 := Tryz.func252.trans (congrArg some (by kernel_rfl))
  t3 := Tryz.underlying3
  a3 := Tryz.isAgg3
  z3 := Tryz.sizeOf3
  v3 := Tryz.zeroValue3
  t4 := Tryz.underlying4
  a4 := Tryz.isAgg4
  z4 := Tryz.sizeOf4
  v4 := Tryz.zeroValue4
  t5 := Tryz.underlying5
  a5 := Tryz.isAgg5
  z5 := Tryz.sizeOf5
  v5 := Tryz.zeroValue5
  t9 := Tryz.underlying9
  a9 := Tryz.isAgg9
  z9 := Tryz.sizeOf9
  v9 := Tryz.zeroValue9
  t46 := Tryz.underlying55
  a46 := Tryz.isAgg55
  z46 := Tryz.sizeOf55
  v46 := Tryz.zeroValue55
  t53 := Tryz.underlying52
  a53 := Tryz.isAgg52
  z53 := Tryz.sizeOf52
  v53 := Tryz.zeroValue52 }
theorem Tryz.bits_Len64 (x : Int) (w : World) (h0 : 0 ≤ x) (h1 : x ≤ 18446744073709551615) :
    Calls Tryz.prog 252 #[.int .u64 x] w fun e w' => e = .returned (.int .i64 (Lib.bitLen x.toNat)) ∧ w' = w := Any.bits_Len64 Tryz.lays129 x w h0 h1
def Tryz.lays315_ren : Go.Shelf.Ren := ⟨fun | 315 => 253 | n => n, fun | 9 => 9 | 40 => 242 | 4 => 4 | 3 => 3 | 0 => 0 | 21 => 21 | n => n, fun | n => n⟩
theorem Tryz.lays315 : Go.Proofs.Lays.n315 Tryz.prog Tryz.lays315_ren := {
  mixed := by kernel_rfl
  f315 := Tryz.func253.trans (congrArg some (by kernel_rfl))
  t0 := Tryz.underlying0
  a0 := Tryz.isAgg0
  z0 := Tryz.sizeOf0
  v0 := Tryz.zeroValue0
  t3 := Tryz.underlying3
  a3 := Tryz.isAgg3
  z3 := Tryz.sizeOf3
  v3 := Tryz.zeroValue3
  t4 := Tryz.underlying4
  a4 := Tryz.isAgg4
  z4 := Tryz.sizeOf4
  v4 := Tryz.zeroValue4
  t9 := Tryz.underlying9
  a9 := Tryz.isAgg9
  z9 := Tryz.sizeOf9
  v9 := Tryz.zeroValue9
  t21 := Tryz.underlying21
  a21 := Tryz.isAgg21
  z21 := Tryz.sizeOf21
  v21 := Tryz.zeroValue21
  t40 := Tryz.underlying242
  a40 := Tryz.isAgg242
  z40 := Tryz.sizeOf242
  v40 := Tryz.zeroValue242 }
open Go.RowKit Go.Lib in
theorem Tryz.strings_indexFunc (g : Nat) (lb : Array Value) (eg : ∀ args w, (callFunc g args).run Tryz.prog w = .ok (.enter g args) w) (p : Nat → Bool) (truth : Bool) (s : ByteArray) (w : World) (hp : PredAt Tryz.prog g lb encR p w) :
    Calls Tryz.prog 253 #[.string s, .func (.func g) #[] lb, .bool truth] w fun e w' => e = .returned (.int .i64 (Lib.idxFunc p truth s)) ∧ Below w.heap.size w w' := Any.strings_indexFunc Tryz.lays315 g lb eg p truth s w hp
def Tryz.laysGw15_ren : Go.Shelf.Ren := ⟨fun | 15 => 224 | 20 => 253 | n => n, fun | 9 => 9 | 23 => 242 | 3 => 3 | 4 => 4 | 0 => 0 | 21 => 21 | n => n, fun | n => n⟩
theorem Tryz.laysGw15 : Go.Proofs.LaysGw.n15 Tryz.prog Tryz.laysGw15_ren := {
  mixed := by kernel_rfl
  f15 := Tryz.func224.trans (congrArg some (by kernel_rfl))
  f20 := Tryz.func253.trans (congrArg some (by kernel_rfl))
  t0 := Tryz.underlying0
  a0 := Tryz.isAgg0
  z0 := Tryz.sizeOf0
  v0 := Tryz.zeroValue0
  i0 := by kernel_rfl
  t3 := Tryz.underlying3
  a3 := Tryz.isAgg3
  z3 := Tryz.sizeOf3
  v3 := Tryz.zeroValue3
  i3 := by kernel_rfl
  t4 := Tryz.underlying4
  a4 := Tryz.isAgg4
  z4 := Tryz.sizeOf4
  v4 := Tryz.zeroValue4
  i4 := by kernel_rfl
  t9 := Tryz.underlying9
  a9 := Tryz.isAgg9
  z9 := Tryz.sizeOf9
  v9 := Tryz.zeroValue9
  i9 := by kernel_rfl
  t21 := Tryz.underlying21
  a21 := Tryz.isAgg21
  z21 := Tryz.sizeOf21
  v21 := Tryz.zeroValue21
  i21 := by kernel_rfl
  t23 := Tryz.underlying242
  a23 := Tryz.isAgg242
  z23 := Tryz.sizeOf242
  v23 := Tryz.zeroValue242
  i23 := by kernel_rfl }
open Go.RowKit Go.Lib in
theorem Tryz.strings_IndexFunc (g : Nat) (lb : Array Value) (eg : ∀ args w, (callFunc g args).run Tryz.prog w = .ok (.enter g args) w) (p : Nat → Bool) (s : ByteArray) (w : World) (hp : PredAt Tryz.prog g lb encR p w) :
    Calls Tryz.prog 224 #[.string s, .func (.func g) #[] lb] w fun e w' => e = .returned (.int .i64 (Lib.idxFunc p true s)) ∧ Below w.heap.size w w' := Any.strings_IndexFunc Tryz.laysGw15 g lb eg p s w hp
def Tryz.laysGw17_ren : Go.Shelf.Ren := ⟨fun | 17 => 174 | 15 => 224 | 20 => 253 | n => n, fun | 9 => 9 | 23 => 242 | 4 => 4 | 3 => 3 | 0 => 0 | 21 => 21 | n => n, fun | n => n⟩
theorem Tryz.laysGw17 : Go.Proofs.LaysGw.n17 Tryz.prog Tryz.laysGw17_ren := {
  mixed := by kernel_rfl
  f15 := Tryz.func224.trans (congrArg some (by kernel_rfl))
  f17 := Tryz.func174.trans (congrArg some (by kernel_rfl))
  f20 := Tryz.func253.trans (congrArg some (by kernel_rfl))
  t0 := Tryz.underlying0
  a0 := Tryz.isAgg0
  z0 := Tryz.sizeOf0
  v0 := Tryz.zeroValue0
  i0 := by kernel_rfl
  t3 := Tryz.underlying3
  a3 := Tryz.isAgg3
  z3 := Tryz.sizeOf3
  v3 := Tryz.zeroValue3
  i3 := by kernel_rfl
  t4 := Tryz.underlying4
  a4 := Tryz.isAgg4
  z4 := Tryz.sizeOf4
  v4 := Tryz.zeroValue4
  i4 := by kernel_rfl
  t9 := Tryz.underlying9
  a9 := Tryz.isAgg9
  z9 := Tryz.sizeOf9
  v9 := Tryz.zeroValue9
  i9 := by kernel_rfl
  t21 := Tryz.underlying21
  a21 := Tryz.isAgg21
  z21 := Tryz.sizeOf21
  v21 := Tryz.zeroValue21
  i21 := by kernel_rfl
  t23 := Tryz.underlying242
  a23 := Tryz.isAgg242
  z23 := Tryz.sizeOf242
  v23 := Tryz.zeroValue242
  i23 := by kernel_rfl }
open Go.RowKit Go.Lib in
theorem Tryz.strings_ContainsFunc (g : Nat) (lb : Array Value) (eg : ∀ args w, (callFunc g args).run Tryz.prog w = .ok (.enter g args) w) (p : Nat → Bool) (s : ByteArray) (w : World) (hp : PredAt Tryz.prog g lb encR p w) :
    Calls Tryz.prog 174 #[.string s, .func (.func g) #[] lb] w fun e w' => e = .returned (.bool (decide (0 ≤ Lib.idxFunc p true s))) ∧ Below w.heap.size w w' := Any.strings_ContainsFunc Tryz.laysGw17 g lb eg p s w hp
open Go.RowKit Go.Lib in
theorem Tryz.strings_indexFunc_runes (g : Nat) (lb : Array Value) (eg : ∀ args w, (callFunc g args).run Tryz.prog w = .ok (.enter g args) w) (p : Nat → Bool) (truth : Bool) (s : ByteArray) (w : World) (hp : PredAtRunes Tryz.prog g lb p w) :
    Calls Tryz.prog 253 #[.string s, .func (.func g) #[] lb, .bool truth] w fun e w' => e = .returned (.int .i64 (Lib.idxFunc p truth s)) ∧ Below w.heap.size w w' := Any.strings_indexFunc_runes Tryz.lays315 g lb eg p truth s w hp
open Go.RowKit Go.Lib in
theorem Tryz.strings_IndexFunc_runes (g : Nat) (lb : Array Value) (eg : ∀ args w, (callFunc g args).run Tryz.prog w = .ok (.enter g args) w) (p : Nat → Bool) (s : ByteArray) (w : World) (hp : PredAtRunes Tryz.prog g lb p w) :
    Calls Tryz.prog 224 #[.string s, .func (.func g) #[] lb] w fun e w' => e = .returned (.int .i64 (Lib.idxFunc p true s)) ∧ Below w.heap.size w w' := Any.strings_IndexFunc_runes Tryz.laysGw15 g lb eg p s w hp
open Go.RowKit Go.Lib in
theorem Tryz.strings_ContainsFunc_runes (g : Nat) (lb : Array Value) (eg : ∀ args w, (callFunc g args).run Tryz.prog w = .ok (.enter g args) w) (p : Nat → Bool) (s : ByteArray) (w : World) (hp : PredAtRunes Tryz.prog g lb p w) :
    Calls Tryz.prog 174 #[.string s, .func (.func g) #[] lb] w fun e w' => e = .returned (.bool (decide (0 ≤ Lib.idxFunc p true s))) ∧ Below w.heap.size w w' := Any.strings_ContainsFunc_runes Tryz.laysGw17 g lb eg p s w hp
def Tryz.lays264_ren : Go.Shelf.Ren := ⟨fun | 264 => 171 | n => n, fun | 53 => 52 | 46 => 55 | n => n, fun | n => n⟩
theorem Tryz.lays264 : Go.Proofs.Lays.n264 Tryz.prog Tryz.lays264_ren := {
  mixed := by kernel_rfl
  f264 := Tryz.func171.trans (congrArg some (by kernel_rfl))
  t46 := Tryz.underlying55
  a46 := Tryz.isAgg55
  z46 := Tryz.sizeOf55
  v46 := Tryz.zeroValue55
  t53 := Tryz.underlying52
  a53 := Tryz.isAgg52
  z53 := Tryz.sizeOf52
  v53 := Tryz.zeroValue52 }
open Go.RowKit Go.Lib in
theorem Tryz.bits_Mul64 (x y : Nat) (hx : x < 18446744073709551616) (hy : y < 18446744073709551616) (w : World) :
    Calls Tryz.prog 171 #[.int .u64 x, .int .u64 y] w fun e w' => e = .returned (.tuple #[.int .u64 ((x * y / 18446744073709551616 : Nat) : Int), .int .u64 ((x * y % 18446744073709551616 : Nat) : Int)]) ∧ w' = w := Any.bits_Mul64 Tryz.lays264 x y hx hy w
open Go.RowKit Go.Lib in
theorem Tryz.strings_indexFunc_grows (g : Nat) (lb : Array Value) (eg : ∀ args w, (callFunc g args).run Tryz.prog w = .ok (.enter g args) w) (p : Nat → Bool) (truth : Bool) (s : ByteArray) (w : World) (hp : PredGrows Tryz.prog g lb p w) :
    Calls Tryz.prog 253 #[.string s, .func (.func g) #[] lb, .bool truth] w fun e w' => e = .returned (.int .i64 (Lib.idxFunc p truth s)) ∧ Below w.heap.size w w' := Any.strings_indexFunc_grows Tryz.lays315 g lb eg p truth s w hp
open Go.RowKit Go.Lib in
theorem Tryz.strings_IndexFunc_grows (g : Nat) (lb : Array Value) (eg : ∀ args w, (callFunc g args).run Tryz.prog w = .ok (.enter g args) w) (p : Nat → Bool) (s : ByteArray) (w : World) (hp : PredGrows Tryz.prog g lb p w) :
    Calls Tryz.prog 224 #[.string s, .func (.func g) #[] lb] w fun e w' => e = .returned (.int .i64 (Lib.idxFunc p true s)) ∧ Below w.heap.size w w' := Any.strings_IndexFunc_grows Tryz.laysGw15 g lb eg p s w hp
open Go.RowKit Go.Lib in
theorem Tryz.strings_ContainsFunc_grows (g : Nat) (lb : Array Value) (eg : ∀ args w, (callFunc g args).run Tryz.prog w = .ok (.enter g args) w) (p : Nat → Bool) (s : ByteArray) (w : World) (hp : PredGrows Tryz.prog g lb p w) :
    Calls Tryz.prog 174 #[.string s, .func (.func g) #[] lb] w fun e w' => e = .returned (.bool (decide (0 ≤ Lib.idxFunc p true s))) ∧ Below w.heap.size w w' := Any.strings_ContainsFunc_grows Tryz.laysGw17 g lb eg p s w hp
def Tryz.laysSlE041_f235_ren : Go.Shelf.Ren := ⟨fun | 41 => 235 | n => n, fun | 22 => 157 | 23 => 255 | 4 => 4 | n => n, fun | n => n⟩
theorem Tryz.laysSlE041_f235 : Go.Proofs.SlLaysE0.n41 Tryz.prog Tryz.laysSlE041_f235_ren := {
  mixed := by kernel_rfl
  f41 := ⟨Tryz.f235.name, by decide, Tryz.func235.trans (congrArg some (by kernel_rfl))⟩
  t4 := Tryz.underlying4
  a4 := Tryz.isAgg4
  z4 := Tryz.sizeOf4
  v4 := Tryz.zeroValue4
  t22 := Tryz.underlying157
  a22 := Tryz.isAgg157
  z22 := Tryz.sizeOf157
  v22 := Tryz.zeroValue157 }
open Go.RowKit Go.Lib in
theorem Tryz.slices_Clone (i0 : TypeInfo) (z : Value) (size bytes : Nat) (hi : Tryz.prog.info? 255 = some i0) (hz0 : i0.zero = some z) (hz1 : i0.size = size) (hz2 : i0.bytes = bytes) (hzs : z.cells.size = size) (hsz : 0 < size) (z23 : ∀ w, (Go.sizeOf 255).run Tryz.prog w = .ok size w) (b off n c : Nat) (news : List Value) (w : World) (hl : news.length = n * size) (hn : n ≤ maxLen) (hbig : n * bytes ≤ 140737488355328) (hc : ∀ j u, news[j]? = some u → w.cell? ⟨b, off + j, none⟩ = some u) (h1 : ∀ u ∈ news, u.oneCell' = true) :
    Calls Tryz.prog 235 #[.slice (some ⟨b, off, none⟩) n c] w fun e w' => ∃ v', e = .returned v' ∧ w'.ownsRow w.heap.size 255 size v' n news ∧ v' ≠ .slice none 0 0 ∧ Below w.heap.size w w' := AnyE.slices_Clone Tryz.laysSlE041_f235 i0 z size bytes hi hz0 hz1 hz2 hzs hsz z23 b off n c news w hl hn hbig hc h1
open Go.RowKit Go.Lib in
theorem Tryz.slices_Clone_nil (n c : Nat) (w : World) :
    Calls Tryz.prog 235 #[.slice none n c] w fun e w' => e = .returned (.slice none 0 0) ∧ w' = w := AnyE.slices_Clone_nil Tryz.laysSlE041_f235 n c w
end Go.Proofs
namespace Go.Proofs.YtbkgakgdbmjmjaaGreat
theorem step_stop {Y v1 v0 u c q r : Nat} (hY : Y = v1 * 4294967296 + v0) (hu : q * v1 + r = u) (hle : (u * 4294967296 + c) / Y ≤ q) (h0 : 0 < Y) (ht : q * v0 ≤ 4294967296 * r + c) :
    q = (u * 4294967296 + c) / Y := by
 refine Nat.le_antisymm ?_ hle
 rw [Nat.le_div_iff_mul_le h0]
 have : q * Y = q * v1 * 4294967296 + q * v0 := by rw [hY, Nat.mul_add, Nat.mul_assoc]
 rw [this, ← hu]; omega
theorem step_more {Y v1 v0 u c q r : Nat} (hY : Y = v1 * 4294967296 + v0) (hu : q * v1 + r = u) (h0 : 0 < Y) (ht : 4294967296 * r + c < q * v0) :
    (u * 4294967296 + c) / Y ≤ q - 1 := by
 have h1 : (u * 4294967296 + c) / Y < q := by
  rw [Nat.div_lt_iff_lt_mul h0]
  have : q * Y = q * v1 * 4294967296 + q * v0 := by rw [hY, Nat.mul_add, Nat.mul_assoc]
  rw [this, ← hu]; omega
 omega
theorem step_big {Y u c q : Nat} (h0 : 0 < Y) (hu : u < Y) (hc : c < 4294967296) (hq : 4294967296 ≤ q) : (u * 4294967296 + c) / Y ≤ q - 1 := by
 have h1 : (u * 4294967296 + c) / Y < 4294967296 := by
  rw [Nat.div_lt_iff_lt_mul h0]
  have : (u + 1) * 4294967296 ≤ Y * 4294967296 := Nat.mul_le_mul_right _ hu
  rw [Nat.mul_comm 4294967296 Y]; omega
 omega
theorem step_break {Y v1 v0 u c q r : Nat} (hY : Y = v1 * 4294967296 + v0) (h0 : 0 < Y) (hv0 : v0 < 4294967296) (hu : u < Y) (hq : q * v1 + r = u) (hle : (u * 4294967296 + c) / Y ≤ q) (hr : 4294967296 ≤ r) :
    q = (u * 4294967296 + c) / Y := by
 refine step_stop hY hq hle h0 ?_
 have h1 : q < 4294967296 := by
  refine Nat.lt_of_not_le fun hn => ?_
  have : 4294967296 * v1 ≤ q * v1 := Nat.mul_le_mul_right _ hn
  omega
 have h2 : q * v0 ≤ q * 4294967296 := Nat.mul_le_mul_left _ (Nat.le_of_lt hv0)
 omega
theorem step_first {Y v1 v0 u c : Nat} (hY : Y = v1 * 4294967296 + v0) (h0 : 0 < v1) (hc : c < 4294967296) : (u * 4294967296 + c) / Y ≤ u / v1 := by
 rw [hY, Nat.le_div_iff_mul_le h0]
 have h1 := Nat.div_mul_le_self (u * 4294967296 + c) (v1 * 4294967296 + v0)
 generalize (u * 4294967296 + c) / (v1 * 4294967296 + v0) = q at h1 ⊢
 rw [Nat.mul_add, ← Nat.mul_assoc] at h1
 omega
theorem step_down {q v1 r u : Nat} (hq : q * v1 + r = u) (h : 1 ≤ q) : (q - 1) * v1 + (r + v1) = u := by
 obtain ⟨k, rfl⟩ : ∃ k, q = k + 1 := ⟨q - 1, by omega⟩
 rw [Nat.add_mul] at hq
 simp; omega
theorem pow_split (s : Nat) (hs : s ≤ 64) : 2 ^ (64 - s) * 2 ^ s = 18446744073709551616 := by
 rw [← Nat.pow_add, Nat.sub_add_cancel hs]
theorem norm_facts (hi lo y : Nat) (hy0 : 0 < y) (hy : y < 18446744073709551616) (hh : hi < y) (hl : lo < 18446744073709551616) :
    ∃ s : Nat, s < 64 ∧ Lib.bitLen y + s = 64 ∧ 9223372036854775808 ≤ y * 2 ^ s ∧ y * 2 ^ s < 18446744073709551616 ∧
      (hi * 2 ^ s) ||| (lo / 2 ^ (64 - s)) = hi * 2 ^ s + lo / 2 ^ (64 - s) ∧ hi * 2 ^ s + lo / 2 ^ (64 - s) < y * 2 ^ s ∧ hi * 2 ^ s < 18446744073709551616 ∧
      (hi * 2 ^ s + lo / 2 ^ (64 - s)) * 18446744073709551616 + lo * 2 ^ s % 18446744073709551616 = (hi * 18446744073709551616 + lo) * 2 ^ s := by
 have hb := Lib.bitLenAux_bounds 64 y (by simpa using hy) (by omega)
 have hL : Lib.bitLen y ≤ 64 := Lib.bitLen_le y 64 (by omega) (by simpa using hy)
 obtain ⟨b1, b2, b3⟩ := hb
 change 1 ≤ Lib.bitLen y at b1
 change 2 ^ (Lib.bitLen y - 1) ≤ y at b2
 change y < 2 ^ Lib.bitLen y at b3
 refine ⟨64 - Lib.bitLen y, by omega, by omega, ?_⟩
 generalize hs : 64 - Lib.bitLen y = s
 have hs' : Lib.bitLen y = 64 - s := by omega
 have hp := pow_split s (by omega)
 rw [hs'] at b2 b3
 have hpos : 0 < 2 ^ s := Nat.two_pow_pos s
 have e1 : 9223372036854775808 ≤ y * 2 ^ s := by
  have h2 : 2 ^ (64 - s) = 2 ^ (64 - s - 1) * 2 := by
   rw [← Nat.pow_succ]; congr 1; omega
  have h3 : 2 ^ (64 - s - 1) * 2 ^ s ≤ y * 2 ^ s := Nat.mul_le_mul_right _ b2
  rw [h2, Nat.mul_right_comm] at hp
  omega
 have e2 : y * 2 ^ s < 18446744073709551616 := by
  rw [← hp]; exact Nat.mul_lt_mul_of_pos_right b3 hpos
 have hlo : lo / 2 ^ (64 - s) < 2 ^ s := by
  rw [Nat.div_lt_iff_lt_mul (Nat.two_pow_pos _), Nat.mul_comm, hp]; exact hl
 have hlo2 : lo * 2 ^ s / 18446744073709551616 = lo / 2 ^ (64 - s) := by
  rw [← hp]; exact Nat.mul_div_mul_right _ _ hpos
 have e5 : (hi * 2 ^ s + lo / 2 ^ (64 - s)) * 18446744073709551616 + lo * 2 ^ s % 18446744073709551616 = (hi * 18446744073709551616 + lo) * 2 ^ s := by
  have := Nat.div_add_mod (lo * 2 ^ s) 18446744073709551616
  rw [hlo2] at this
  rw [Nat.add_mul, Nat.add_mul, Nat.mul_right_comm hi]; omega
 have e4 : hi * 2 ^ s + lo / 2 ^ (64 - s) < y * 2 ^ s := by
  have h1 : (hi + 1) * 2 ^ s ≤ y * 2 ^ s := Nat.mul_le_mul_right _ hh
  rw [Nat.add_mul] at h1; omega
 refine ⟨e1, e2, ?_, e4, by omega, e5⟩
 have := Nat.two_pow_add_eq_or_of_lt hlo hi
 rw [Nat.mul_comm hi]
 exact this.symm
theorem wrapN (a : Nat) : IntKind.u64.wrap (a : Int) = ((a % 18446744073709551616 : Nat) : Int) := by rw [IntKind.wrap_u64]; omega
theorem wrapL (a : Nat) (ha : a < 18446744073709551616) : IntKind.u64.wrap (a : Int) = (a : Int) := by rw [IntKind.wrap_u64]; omega
theorem wrap_rest (u c q Y R : Nat) (h : u * 4294967296 + c = q * Y + R) (hR : R < 18446744073709551616) :
    IntKind.u64.wrap (IntKind.u64.wrap (IntKind.u64.wrap ((u : Int) * 4294967296) + (c : Int)) - IntKind.u64.wrap ((q : Int) * (Y : Int))) = (R : Int) := by
 have h' : (u : Int) * 4294967296 + c = (q : Int) * Y + R := by
  have h2 : ((u * 4294967296 + c : Nat) : Int) = ((q * Y + R : Nat) : Int) := by rw [h]
  rw [Int.natCast_add, Int.natCast_mul, Int.natCast_add, Int.natCast_mul] at h2
  exact h2
 rw [IntKind.wrap_u64, IntKind.wrap_u64, IntKind.wrap_u64, IntKind.wrap_u64]
 generalize (q : Int) * (Y : Int) = p at h' ⊢
 omega
theorem maskN (a : Nat) (ha : a < 18446744073709551616) : bits .and .u64 (a : Int) 4294967295 = ((a % 4294967296 : Nat) : Int) := by
 have h := bits_and_u64_nat a 4294967295 ha (by omega)
 have e : a &&& 4294967295 = a % 4294967296 := Nat.and_two_pow_sub_one_eq_mod a 32
 rw [e] at h
 exact h
#print axioms norm_facts
end Go.Proofs.YtbkgakgdbmjmjaaGreat
namespace Go.Proofs.YtbkgakgdbmjmjaaGreat
open Go.RowKit
theorem T_Div_5 {p : Prop} (h : p := by
 have J1 := Lib.hid j1; clear j1
 have K2 := Lib.hid k2; clear k2
 have HM := Lib.hid hm; clear hm
 exact T_Div_1) : p := h
theorem T_Div_4 {p : Prop} (h : p := by
 have e3 : (q : Int) - 1 = Q1 := by omega
 clear k3
 go_wp2_with fail
 go_meet
 exact ⟨rfl, ⟨_, rfl⟩, rfl⟩) : p := h
theorem T_Div_3 {p : Prop} (h : p := by
 have e3 : (q : Int) - 1 = Q0 := by omega
 clear k3
 go_wp2_with fail
 go_meet
 exact ⟨rfl, ⟨_, rfl⟩, rfl⟩) : p := h
theorem T_Div_2 {p : Prop} (h : p := by
 subst k3
 have J1 := Lib.hid j1; clear j1
 have HM := Lib.hid hm; clear hm
 go_wp2_with fail
 go_meet
 exact ⟨rfl, ⟨_, rfl⟩, rfl⟩) : p := h
theorem T_Div_1 {p : Prop} (h : p := by
 go_wp2_with fail
 go_round
 case rel => exact ⟨q - 1, r + v1, by omega, ⟨K2.out, k1, by omega⟩, by go_num, by go_num⟩
 case measure => simp [intOf]; omega) : p := h
def StepInv (v1 u Q q r : Nat) : Prop := q * v1 + r = u ∧ Q ≤ q ∧ r < 4294967296
theorem div64_core (hi lo y : Nat) (w : World) (_h2 : (lo : Int) < 18446744073709551616) (h3 : (y : Int) < 18446744073709551616) (h0 : ((hi : Int) == 0) = false) (hy : ((y : Int) == 0) = false)
   (hy' : ¬ (y ≤ hi)) (s : Nat) (hs : s < 64) (hs' : 64 - (Lib.bitLen y : Int) = (s : Int)) (Y v1 v0 u l l1 l0 qa pa ra Q1 u2 qb pb rb Q0 : Nat)
   (eY : IntKind.u64.wrap (↑y * 2 ^ s) = (Y : Int)) (hv1 : (0:Int) < v1) (hv1' : (v1 : Int) < 4294967296) (e1 : (Y : Int) / 4294967296 = v1)
   (hv0 : (v0 : Int) < 4294967296) (e0 : bits BinOp.and IntKind.u64 (Y : Int) 4294967295 = v0)
   (eU : bits BinOp.or IntKind.u64 (IntKind.u64.wrap (↑hi * 2 ^ s)) (↑lo / 2 ^ (64 - s)) = (u : Int))
   (eL : IntKind.u64.wrap (↑lo * 2 ^ s) = (l : Int)) (eL1 : (l : Int) / 4294967296 = l1) (eL0 : bits BinOp.and IntKind.u64 (l : Int) 4294967295 = l0)
   (hl1 : (l1 : Int) < 4294967296) (hl0 : (l0 : Int) < 4294967296)
   (eqa : (u : Int) / v1 = qa) (epa : IntKind.u64.wrap ((qa : Int) * v1) = pa) (hpa : pa ≤ u) (hu64 : (u : Int) < 18446744073709551616) (era : (u : Int) - pa = ra)
   (eu2 : IntKind.u64.wrap (IntKind.u64.wrap (IntKind.u64.wrap ((u : Int) * 4294967296) + (l1 : Int)) - IntKind.u64.wrap ((Q1 : Int) * (Y : Int))) = (u2 : Int))
   (eqb : (u2 : Int) / v1 = qb) (epb : IntKind.u64.wrap ((qb : Int) * v1) = pb) (hpb : pb ≤ u2) (hu264 : (u2 : Int) < 18446744073709551616) (erb : (u2 : Int) - pb = rb)
   (hqa : (qa : Int) < 18446744073709551616) (hqb : (qb : Int) < 18446744073709551616)
   (hQ1 : (Q1 : Int) < 4294967296) (hQ0 : (Q0 : Int) < 4294967296)
   (I1 : StepInv v1 u Q1 qa ra) (I2 : StepInv v1 u2 Q0 qb rb)
   (big1 : ∀ q, 4294967296 ≤ q → Q1 ≤ q - 1) (more1 : ∀ q r, q * v1 + r = u → 4294967296 * r + l1 < q * v0 → Q1 ≤ q - 1)
   (stop1 : ∀ q r, q * v1 + r = u → Q1 ≤ q → q * v0 ≤ 4294967296 * r + l1 → q = Q1) (break1 : ∀ q r, q * v1 + r = u → Q1 ≤ q → 4294967296 ≤ r → q = Q1)
   (R : Nat) (eR : IntKind.u64.wrap (IntKind.u64.wrap (IntKind.u64.wrap ((u2 : Int) * 4294967296) + (l0 : Int)) - IntKind.u64.wrap ((Q0 : Int) * (Y : Int))) = (R : Int))
   (big2 : ∀ q, 4294967296 ≤ q → Q0 ≤ q - 1) (more2 : ∀ q r, q * v1 + r = u2 → 4294967296 * r + l0 < q * v0 → Q0 ≤ q - 1)
   (stop2 : ∀ q r, q * v1 + r = u2 → Q0 ≤ q → q * v0 ≤ 4294967296 * r + l0 → q = Q0) (break2 : ∀ q r, q * v1 + r = u2 → Q0 ≤ q → 4294967296 ≤ r → q = Q0) :
    Calls Tryz.prog 172 #[.int .u64 hi, .int .u64 lo, .int .u64 y] w fun e w' => e = .returned (.tuple #[.int .u64 ((Q1 : Int) * 4294967296 + Q0), .int .u64 ((R : Int) / 2 ^ s)]) ∧ Ext w w' := by
 have Hb1 := Lib.hid big1; clear big1
 have Hb2 := Lib.hid big2; clear big2
 have Hm1 := Lib.hid more1; clear more1
 have Hm2 := Lib.hid more2; clear more2
 have Hs1 := Lib.hid stop1; clear stop1
 have Hs2 := Lib.hid stop2; clear stop2
 have Hk1 := Lib.hid break1; clear break1
 have Hk2 := Lib.hid break2; clear break2
 go_enter Tryz.func172, Tryz.ntmps172
 go_upto_block 0 with (go_at_call 223; refine (Tryz.bits_LeadingZeros64 _ _ (by omega) (by omega)).mono ?_; rintro e w' ⟨rfl, hw⟩; rw [hw]; clear hw; simp only [Int.toNat_natCast]; rw [hs'])
 go_cut [15, 16] (fun a b wx => a = .int .u64 Q1 ∧ (∃ r : Nat, b = .int .u64 r) ∧ wx = w)
 case first =>
  go_wp2_with fail
  go_loop [15, 16] (fun a b => ∃ q r : Nat, (q : Int) < 18446744073709551616 ∧ StepInv v1 u Q1 q r ∧ a = .int .u64 q ∧ b = .int .u64 r) (fun a _ => (intOf a).toNat)
  case atStart => exact ⟨qa, ra, hqa, I1, rfl, rfl⟩
  case round =>
   obtain ⟨q, r, hq64, ⟨j1, j2, j3⟩, rfl, rfl⟩ := hrel
   have j3' : (r : Int) < 4294967296 := by omega
   clear j3
   by_cases hbig : (4294967296 : Int) ≤ q
   ·have k1 := Hb1.out q (by omega)
    have k2 := step_down j1 (by omega)
    by_cases hr : (4294967296 : Int) ≤ (r : Int) + v1
    ·have k3 := Hk1.out _ _ k2 k1 (by omega)
     have J1 := Lib.hid j1; clear j1
     have K2 := Lib.hid k2; clear k2
     exact T_Div_4
    ·have J1 := Lib.hid j1; clear j1
     have K2 := Lib.hid k2; clear k2
     exact T_Div_1
   ·obtain ⟨m, hm⟩ : ∃ m, m = q * v0 := ⟨_, rfl⟩
    have hm64 : (m : Int) < 18446744073709551616 := by
     have h5 : q * v0 ≤ 4294967295 * 4294967295 := Nat.mul_le_mul (by omega) (by omega)
     omega
    have em : IntKind.u64.wrap ((q : Int) * v0) = (m : Int) := by
     rw [← Int.natCast_mul, ← hm]; exact wrapL m (by omega)
    by_cases ht : 4294967296 * (r : Int) + l1 < m
    ·have k1 := Hm1.out q r j1 (by omega)
     have hq1 : 1 ≤ q := by
      refine Nat.pos_of_ne_zero fun h => ?_
      subst h; simp at hm; omega
     have k2 := step_down j1 hq1
     by_cases hr : (4294967296 : Int) ≤ (r : Int) + v1
     ·have k3 := Hk1.out _ _ k2 k1 (by omega)
      have J1 := Lib.hid j1; clear j1
      have K2 := Lib.hid k2; clear k2
      have HM := Lib.hid hm; clear hm
      exact T_Div_4
     ·exact T_Div_5
    ·have k3 := Hs1.out q r j1 j2 (by omega)
     exact T_Div_2
 case rest =>
  obtain ⟨rfl, ⟨r1, rfl⟩, rfl⟩ := hcut
  go_upto_block 2 with fail
  go_cut [18, 16] (fun a b wx => a = .int .u64 Q0 ∧ (∃ r : Nat, b = .int .u64 r) ∧ wx = wc)
  case first =>
   go_wp2_with fail
   go_loop [18, 16] (fun a b => ∃ q r : Nat, (q : Int) < 18446744073709551616 ∧ StepInv v1 u2 Q0 q r ∧ a = .int .u64 q ∧ b = .int .u64 r) (fun a _ => (intOf a).toNat)
   case atStart => exact ⟨qb, rb, hqb, I2, rfl, rfl⟩
   case round =>
    obtain ⟨q, r, hq64, ⟨j1, j2, j3⟩, rfl, rfl⟩ := hrel
    have j3' : (r : Int) < 4294967296 := by omega
    clear j3
    by_cases hbig : (4294967296 : Int) ≤ q
    ·have k1 := Hb2.out q (by omega)
     have k2 := step_down j1 (by omega)
     by_cases hr : (4294967296 : Int) ≤ (r : Int) + v1
     ·have k3 := Hk2.out _ _ k2 k1 (by omega)
      have J1 := Lib.hid j1; clear j1
      have K2 := Lib.hid k2; clear k2
      exact T_Div_3
     ·have J1 := Lib.hid j1; clear j1
      have K2 := Lib.hid k2; clear k2
      exact T_Div_1
    ·obtain ⟨m, hm⟩ : ∃ m, m = q * v0 := ⟨_, rfl⟩
     have hm64 : (m : Int) < 18446744073709551616 := by
      have h5 : q * v0 ≤ 4294967295 * 4294967295 := Nat.mul_le_mul (by omega) (by omega)
      omega
     have em : IntKind.u64.wrap ((q : Int) * v0) = (m : Int) := by
      rw [← Int.natCast_mul, ← hm]; exact wrapL m (by omega)
     by_cases ht : 4294967296 * (r : Int) + l0 < m
     ·have k1 := Hm2.out q r j1 (by omega)
      have hq1 : 1 ≤ q := by
       refine Nat.pos_of_ne_zero fun h => ?_
       subst h; simp at hm; omega
      have k2 := step_down j1 hq1
      by_cases hr : (4294967296 : Int) ≤ (r : Int) + v1
      ·have k3 := Hk2.out _ _ k2 k1 (by omega)
       have J1 := Lib.hid j1; clear j1
       have K2 := Lib.hid k2; clear k2
       have HM := Lib.hid hm; clear hm
       exact T_Div_3
      ·exact T_Div_5
     ·have k3 := Hs2.out q r j1 j2 (by omega)
      exact T_Div_2
  case rest =>
   obtain ⟨rfl, ⟨r2, rfl⟩, rfl⟩ := hcut
   go_wp2_with fail
   go_ret2
   exact ⟨rfl, Ext.refl _⟩
theorem div64_small (hi lo y : Nat) (w : World) (hh : ((hi : Int) == 0) = true) (h0 : (1 : Int) ≤ y) (h2 : (lo : Int) < 18446744073709551616) (h3 : (y : Int) < 18446744073709551616) (hy : ((y : Int) == 0) = false) (hy' : ¬ y ≤ hi) :
    Calls Tryz.prog 172 #[.int .u64 hi, .int .u64 lo, .int .u64 y] w fun e w' => e = .returned (.tuple #[.int .u64 ((lo : Int) / y), .int .u64 ((lo : Int) % y)]) ∧ Ext w w' := by
 have d1 : 0 ≤ (lo : Int) / y := Int.ediv_nonneg (by omega) (by omega)
 have d2 : (lo : Int) / y ≤ lo := Int.ediv_le_self _ (by omega)
 go_enter Tryz.func172, Tryz.ntmps172
 go_wp2_with fail
 go_quiet (fail)
 go_wp2_with fail
 go_ret2
 exact ⟨rfl, (Ext.refl _).drewN _⟩
theorem step_pack {Y v1 v0 u c : Nat} (hY : Y = v1 * 4294967296 + v0) (hv0 : v0 < 4294967296) (hv1 : 2147483648 ≤ v1) (hv1' : v1 < 4294967296) (hu : u < Y) (hc : c < 4294967296) :
    StepInv v1 u ((u * 4294967296 + c) / Y) (u / v1) (u % v1) ∧ (u * 4294967296 + c) / Y < 4294967296 ∧ (u * 4294967296 + c) % Y < Y ∧ u / v1 * v1 ≤ u ∧
    (∀ q, 4294967296 ≤ q → (u * 4294967296 + c) / Y ≤ q - 1) ∧ (∀ q r, q * v1 + r = u → 4294967296 * r + c < q * v0 → (u * 4294967296 + c) / Y ≤ q - 1) ∧
    (∀ q r, q * v1 + r = u → (u * 4294967296 + c) / Y ≤ q → q * v0 ≤ 4294967296 * r + c → q = (u * 4294967296 + c) / Y) ∧
    (∀ q r, q * v1 + r = u → (u * 4294967296 + c) / Y ≤ q → 4294967296 ≤ r → q = (u * 4294967296 + c) / Y) := by
 have h0 : 0 < Y := by omega
 refine ⟨⟨?_, step_first hY (by omega) hc, ?_⟩, ?_, Nat.mod_lt _ h0, Nat.div_mul_le_self _ _, fun q hq => step_big h0 hu hc hq, fun q r h1 h2 => step_more hY h1 h0 h2, fun q r h1 h2 h3 => step_stop hY h1 h2 h0 h3, fun q r h1 h2 h3 => step_break hY h0 hv0 hu h1 h2 h3⟩
 ·exact Nat.div_add_mod' u v1
 ·have := Nat.mod_lt u (show v1 > 0 by omega); omega
 ·have := step_big (q := 4294967296) h0 hu hc (Nat.le_refl _); omega
theorem step_ex {Y v1 v0 u c : Nat} (hY : Y = v1 * 4294967296 + v0) (hv0 : v0 < 4294967296) (hv1 : 2147483648 ≤ v1) (hv1' : v1 < 4294967296) (hu : u < Y) (hc : c < 4294967296) :
    ∃ Q R qa pa ra : Nat, u * 4294967296 + c = Q * Y + R ∧ R < Y ∧ Q < 4294967296 ∧ qa = u / v1 ∧ pa = qa * v1 ∧ pa + ra = u ∧ qa ≤ u ∧ StepInv v1 u Q qa ra ∧
    (∀ q, 4294967296 ≤ q → Q ≤ q - 1) ∧ (∀ q r, q * v1 + r = u → 4294967296 * r + c < q * v0 → Q ≤ q - 1) ∧
    (∀ q r, q * v1 + r = u → Q ≤ q → q * v0 ≤ 4294967296 * r + c → q = Q) ∧ (∀ q r, q * v1 + r = u → Q ≤ q → 4294967296 ≤ r → q = Q) := by
 obtain ⟨a1, a2, a3, a4, a5, a6, a7, a8⟩ := step_pack hY hv0 hv1 hv1' hu hc
 exact ⟨_, _, _, _, _, (Nat.div_add_mod' _ _).symm, a3, a2, rfl, rfl, Nat.div_add_mod' u v1, Nat.div_le_self _ _, a1, a5, a6, a7, a8⟩
theorem back {N y s Y u l Q1 u2 Q0 R l1 l0 B : Nat} (hY : Y = y * 2 ^ s) (hl : l = l1 * B + l0)
    (hU : u * (B * B) + l = N * 2 ^ s) (h1 : u * B + l1 = Q1 * Y + u2) (h2 : u2 * B + l0 = Q0 * Y + R) (hR : R < Y) :
    Q1 * B + Q0 = N / y ∧ R / 2 ^ s = N % y := by
 have hp : 0 < 2 ^ s := Nat.two_pow_pos s
 have e : N * 2 ^ s = (Q1 * B + Q0) * Y + R := by
  have e1 : u * (B * B) + l1 * B = (Q1 * Y + u2) * B := by rw [← h1, Nat.add_mul, Nat.mul_assoc]
  have e2 : (Q1 * Y + u2) * B = Q1 * B * Y + u2 * B := by rw [Nat.add_mul, Nat.mul_right_comm]
  rw [← hU, hl, Nat.add_mul]; omega
 have hd : N * 2 ^ s / Y = Q1 * B + Q0 := by
  rw [e]; exact Nat.div_eq_of_lt_le (by omega) (by rw [Nat.succ_mul]; omega)
 have hm : N * 2 ^ s % Y = R := by
  rw [e, Nat.mul_comm, Nat.mul_add_mod]; exact Nat.mod_eq_of_lt hR
 rw [hY, Nat.mul_div_mul_right _ _ hp] at hd
 rw [hY, Nat.mul_mod_mul_right] at hm
 exact ⟨hd.symm, by rw [← hm, Nat.mul_div_cancel _ hp]⟩
theorem div64 (hi lo y : Nat) (w : World) (hh : hi < y) (hl : lo < 18446744073709551616) (hy : y < 18446744073709551616) :
    Calls Tryz.prog 172 #[.int .u64 hi, .int .u64 lo, .int .u64 y] w fun e w' => e = .returned (.tuple #[.int .u64 (((hi * 18446744073709551616 + lo) / y : Nat) : Int), .int .u64 (((hi * 18446744073709551616 + lo) % y : Nat) : Int)]) ∧ Ext w w' := by
 by_cases h0 : hi = 0
 ·refine (div64_small hi lo y w (by simpa using h0) (by omega) (by omega) (by omega) c_46 (by omega)).mono ?_
  rintro e w' ⟨rfl, hb⟩
  subst h0
  refine ⟨?_, hb⟩
  simp
 ·obtain ⟨s, hs, hL, f1, f2, f3, f4, f5, f6⟩ := norm_facts hi lo y (by omega) hy hh hl
  obtain ⟨Y, hY⟩ : ∃ Y, Y = y * 2 ^ s := ⟨_, rfl⟩
  obtain ⟨u, hU⟩ : ∃ u, u = hi * 2 ^ s + lo / 2 ^ (64 - s) := ⟨_, rfl⟩
  obtain ⟨l, hl'⟩ : ∃ l, l = lo * 2 ^ s % 18446744073709551616 := ⟨_, rfl⟩
  rw [← hY] at f1 f2 f4
  rw [← hU] at f3 f4 f6
  rw [← hl'] at f6
  have hl64 : l < 18446744073709551616 := by rw [hl']; exact Nat.mod_lt _ (by omega)
  have hYs : Y = Y / 4294967296 * 4294967296 + Y % 4294967296 := by omega
  have hls : l = l / 4294967296 * 4294967296 + l % 4294967296 := by omega
  obtain ⟨Q1, u2, qa, pa, ra, r1, a3, a2, aq, ap, ar, al, a1, a5, a6, a7, a8⟩ := step_ex (c := l / 4294967296) hYs (by omega) (by omega) (by omega) f4 (by omega)
  obtain ⟨Q0, R, qb, pb, rb, r2, b3, b2, bq, bp, br, bl, b1, b5, b6, b7, b8⟩ := step_ex (c := l % 4294967296) hYs (by omega) (by omega) (by omega) a3 (by omega)
  have hb := back (B := 4294967296) hY hls f6 r1 r2 b3
  have hwrap : ∀ a : Nat, IntKind.u64.wrap ((a : Int) * 2 ^ s) = ((a * 2 ^ s % 18446744073709551616 : Nat) : Int) := fun a => by
   rw [← wrapN, Int.natCast_mul, Int.natCast_pow]; rfl
  refine (div64_core hi lo y w (by omega) (by omega) (by simpa using h0) c_46 (by omega) s hs (by omega) Y (Y / 4294967296) (Y % 4294967296) u l (l / 4294967296) (l % 4294967296)
   qa pa ra Q1 u2 qb pb rb Q0
   ?_ (by omega) (by omega) (by omega) (by omega) ?_ ?_ ?_ (by omega) ?_ (by omega) (by omega) ?_ ?_ (by omega) (by omega) (by omega) (wrap_rest _ _ _ _ _ r1 (by omega)) ?_ ?_ (by omega) (by omega) (by omega) (by omega) (by omega) (by omega) (by omega) a1 b1 a5 a6 a7 a8 R (wrap_rest _ _ _ _ _ r2 (by omega)) b5 b6 b7 b8).mono ?_
  ·rw [hwrap, ← hY, Nat.mod_eq_of_lt f2]
  ·exact maskN Y f2
  ·rw [hwrap, Nat.mod_eq_of_lt f5]
   have h1 : ((lo : Int) / 2 ^ (64 - s)) = ((lo / 2 ^ (64 - s) : Nat) : Int) := by rw [Int.natCast_ediv, Int.natCast_pow]; rfl
   rw [h1, bits_or_u64_nat _ _ f5 (by have := Nat.div_le_self lo (2 ^ (64 - s)); omega), f3]
  ·rw [hwrap, hl']
  ·exact maskN l hl64
  ·rw [aq]; exact (Int.natCast_ediv u (Y / 4294967296)).symm
  ·rw [← Int.natCast_mul, ← ap]; exact wrapL _ (by omega)
  ·rw [bq]; exact (Int.natCast_ediv u2 (Y / 4294967296)).symm
  ·rw [← Int.natCast_mul, ← bp]; exact wrapL _ (by omega)
  ·rintro e w' ⟨rfl, hx⟩
   refine ⟨?_, hx⟩
   rw [← hb.1, ← hb.2, Int.natCast_ediv, Int.natCast_pow, Int.natCast_add, Int.natCast_mul]
   rfl
#print axioms div64
end Go.Proofs.YtbkgakgdbmjmjaaGreat
