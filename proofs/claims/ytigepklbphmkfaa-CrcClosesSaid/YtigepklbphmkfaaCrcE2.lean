/- Small facts: four bytes held against four. -/
import Derived.Test.YtigepklbphmkfaaCrcD
namespace Go.Proofs.Ytigepklbphmkfaa
open Go.RowKit

theorem equalIn5 (d : Nat) (a b : Int) (w : World) : (Op.equalIn (d + 1) 5 (.int .u8 a) (.int .u8 b)).run Try.prog w = .ok (a == b) w := by
  simp [Op.equalIn, run_underlying Try.underlying5]
theorem equalIn44 (d : Nat) (a0 a1 a2 a3 b0 b1 b2 b3 : Int) (w : World) :
    (Op.equalIn (d + 2) 44 (.agg #[.int .u8 a0, .int .u8 a1, .int .u8 a2, .int .u8 a3]) (.agg #[.int .u8 b0, .int .u8 b1, .int .u8 b2, .int .u8 b3])).run Try.prog w = .ok (a0 == b0 && a1 == b1 && a2 == b2 && a3 == b3) w := by
  rw [Op.equalIn]
  simp [run_underlying Try.underlying44, Std.Legacy.Range.forIn_eq_forIn_range', List.range', part, equalIn5]
  by_cases h0 : a0 = b0 <;> by_cases h1 : a1 = b1 <;> by_cases h2 : a2 = b2 <;> by_cases h3 : a3 = b3 <;> simp [h0, h1, h2, h3]
theorem neq44 (a0 a1 a2 a3 b0 b1 b2 b3 : Int) (w : World) :
    (binOp .neq 44 (.agg #[.int .u8 a0, .int .u8 a1, .int .u8 a2, .int .u8 a3]) (.agg #[.int .u8 b0, .int .u8 b1, .int .u8 b2, .int .u8 b3])).run Try.prog w = .ok (.bool (!(a0 == b0 && a1 == b1 && a2 == b2 && a3 == b3))) w := by
  have := equalIn44 9998 a0 a1 a2 a3 b0 b1 b2 b3 w
  simp only [binOp, Op.equal, Op.maxDepth, Sem.run_bind, this, Result.andThen_ok, Sem.run_pure]
theorem arrayAt44 (a : Option Addr) (c : Nat) (w : World) : (Instr.arrayAt 44 (.slice a 4 c)).run Try.prog w = .ok (.pointer a) w := by
  simp [Instr.arrayAt, run_underlying Try.underlying44]
theorem addr_zero (A : Addr) : A.add 0 = A := by simp [Addr.add]
theorem slice_h (A : Addr) (n m c : Nat) (h : m ≤ c) (w : World) : (Instr.slice 23 (.slice (some A) n c) none (some (.int .i64 m)) none).run Try.prog w = .ok (.slice (some A) m c) w := by
  have h5 : (sizeOf 5).run Try.prog w = .ok 1 w := by kernel_rfl
  simp [Instr.slice, run_underlying Try.underlying23, Instr.sliceBounds, Instr.sliceBound, asIntOf, h, h5, addr_zero]
theorem slice_l (A : Addr) (n m c : Nat) (h : m < n) (hc : n ≤ c) (w : World) : (Instr.slice 23 (.slice (some A) n c) (some (.int .i64 m)) none none).run Try.prog w = .ok (.slice (some (A.add m)) (n - m) (c - m)) w := by
  have h5 : (sizeOf 5).run Try.prog w = .ok 1 w := by kernel_rfl
  simp [Instr.slice, run_underlying Try.underlying23, Instr.sliceBounds, Instr.sliceBound, asIntOf, show m ≤ n by omega, h5, show c ≠ m by omega]
end Go.Proofs.Ytigepklbphmkfaa
