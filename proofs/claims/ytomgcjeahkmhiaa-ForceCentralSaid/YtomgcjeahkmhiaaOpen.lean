/- Arguments that are intervals and vectors of intervals, opened. -/
import Derived.Test.YtomgcjeahkmhiaaEqs
import Derived.Test.YtomgcjeahkmhiaaSph
import Derived.WideShapes
namespace Go.Proofs.Ytomgcjeahkmhiaa
open Go.RowKit
set_option maxRecDepth 100000

theorem open_cell {w : World} {r : Reach} {b : Nat} {v : Value} (h : Cell.okWide Try.prog w r b 2 v) : ∃ x, v = .int .i64 x ∧ I64 x := by
  simp only [Cell.okWide, Try.underlying2, Cell.ok] at h
  cases v <;> simp_all
  rename_i k n
  obtain ⟨rfl, h2⟩ := h
  have e1 : IntKind.i64.min = -9223372036854775808 := by decide
  have e2 : IntKind.i64.max = 9223372036854775807 := by decide
  simp only [IntKind.has, e1, e2] at h2
  unfold I64; omega
theorem types25 : Try.prog.cellTypes Try.prog.depth 25 = some [2, 2, 2, 2, 2, 2] := by kernel_rfl
theorem types23 : Try.prog.cellTypes Try.prog.depth 23 = some [2, 2] := by kernel_rfl
theorem size25 : Try.prog.cellsOf 25 = 6 := by kernel_rfl
theorem open_iv {w : World} {r : Reach} {b : Nat} {v : Value} (h : Value.okWide Try.prog w r b 23 v) : ∃ x y, v = .agg #[.int .i64 x, .int .i64 y] ∧ I64 x ∧ I64 y := by
  simp only [Value.okWide, Try.underlying23] at h
  obtain ⟨cs, rfl, hsz, ts, hts, -, hc⟩ := h
  rw [types23] at hts
  obtain rfl : [2, 2] = ts := by injection hts
  rw [size23] at hsz
  obtain ⟨l⟩ := cs
  match l, hsz with
  | [c0, c1], _ =>
    obtain ⟨u, hu, h0⟩ := hc 0 c0 (by simp)
    obtain rfl : 2 = u := by simpa using hu
    obtain ⟨x, rfl, hx⟩ := open_cell h0
    obtain ⟨u, hu, h1⟩ := hc 1 c1 (by simp)
    obtain rfl : 2 = u := by simpa using hu
    obtain ⟨y, rfl, hy⟩ := open_cell h1
    exact ⟨x, y, rfl, hx, hy⟩
theorem open_vec {w : World} {r : Reach} {b : Nat} {v : Value} (h : Value.okWide Try.prog w r b 25 v) : ∃ a : V3, v = .agg #[.int .i64 a.a, .int .i64 a.b, .int .i64 a.c, .int .i64 a.d, .int .i64 a.e, .int .i64 a.f] ∧ a.I := by
  simp only [Value.okWide, Try.underlying25] at h
  obtain ⟨cs, rfl, hsz, ts, hts, -, hc⟩ := h
  rw [types25] at hts
  obtain rfl : [2, 2, 2, 2, 2, 2] = ts := by injection hts
  rw [size25] at hsz
  obtain ⟨l⟩ := cs
  match l, hsz with
  | [c0, c1, c2, c3, c4, c5], _ =>
    obtain ⟨u, hu, h0⟩ := hc 0 c0 (by simp)
    obtain rfl : 2 = u := by simpa using hu
    obtain ⟨x0, rfl, k0⟩ := open_cell h0
    obtain ⟨u, hu, h1⟩ := hc 1 c1 (by simp)
    obtain rfl : 2 = u := by simpa using hu
    obtain ⟨x1, rfl, k1⟩ := open_cell h1
    obtain ⟨u, hu, h2⟩ := hc 2 c2 (by simp)
    obtain rfl : 2 = u := by simpa using hu
    obtain ⟨x2, rfl, k2⟩ := open_cell h2
    obtain ⟨u, hu, h3⟩ := hc 3 c3 (by simp)
    obtain rfl : 2 = u := by simpa using hu
    obtain ⟨x3, rfl, k3⟩ := open_cell h3
    obtain ⟨u, hu, h4⟩ := hc 4 c4 (by simp)
    obtain rfl : 2 = u := by simpa using hu
    obtain ⟨x4, rfl, k4⟩ := open_cell h4
    obtain ⟨u, hu, h5⟩ := hc 5 c5 (by simp)
    obtain rfl : 2 = u := by simpa using hu
    obtain ⟨x5, rfl, k5⟩ := open_cell h5
    exact ⟨⟨x0, x1, x2, x3, x4, x5⟩, rfl, ⟨k0, k1⟩, ⟨k2, k3⟩, k4, k5⟩
end Go.Proofs.Ytomgcjeahkmhiaa
