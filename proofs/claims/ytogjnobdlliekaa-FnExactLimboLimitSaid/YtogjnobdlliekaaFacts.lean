/- Facts of the program's tables that the walks lean on. -/
import Derived.Test.YtogjnobdlliekaaProg
import Derived.Test.YtogjnobdlliekaaGrow
import Derived.KernelRfl
namespace Go.Proofs.Ytogjnobdlliekaa.Wk
open Go Go.RowKit Sl
theorem ag24 : aggB Try.prog 24 = true := by kernel_rfl
theorem ag26 : aggB Try.prog 26 = true := by kernel_rfl
theorem en19 : enterB Try.prog 19 = true := by kernel_rfl
theorem en20 : enterB Try.prog 20 = true := by kernel_rfl
theorem en21 : enterB Try.prog 21 = true := by kernel_rfl
theorem en22 : enterB Try.prog 22 = true := by kernel_rfl
theorem en23 : enterB Try.prog 23 = true := by kernel_rfl
theorem en24 : enterB Try.prog 24 = true := by kernel_rfl
theorem en25 : enterB Try.prog 25 = true := by kernel_rfl
theorem fo24_0 : offB Try.prog 24 0 = some 0 := by kernel_rfl
theorem fo24_1 : offB Try.prog 24 1 = some 1 := by kernel_rfl
theorem fo24_2 : offB Try.prog 24 2 = some 2 := by kernel_rfl
theorem fo24_3 : offB Try.prog 24 3 = some 3 := by kernel_rfl
theorem fo24_4 : offB Try.prog 24 4 = some 4 := by kernel_rfl
theorem fo24_5 : offB Try.prog 24 5 = some 5 := by kernel_rfl
theorem fo26_0 : offB Try.prog 26 0 = some 0 := by kernel_rfl
theorem fo26_1 : offB Try.prog 26 1 = some 1 := by kernel_rfl
theorem fo26_2 : offB Try.prog 26 2 = some 2 := by kernel_rfl
theorem fo26_3 : offB Try.prog 26 3 = some 3 := by kernel_rfl
theorem fo26_4 : offB Try.prog 26 4 = some 4 := by kernel_rfl
theorem fo26_5 : offB Try.prog 26 5 = some 5 := by kernel_rfl
theorem sc3 : scalB Try.prog 3 = true := by kernel_rfl
theorem sz3 : szB Try.prog 3 = some 1 := by kernel_rfl
theorem sz24 : szB Try.prog 24 = some 6 := by kernel_rfl
theorem sz26 : szB Try.prog 26 = some 6 := by kernel_rfl
theorem zr26 : zeroOf Try.prog 26 = some [.int .i64 0, .int .i64 0, .int .i64 0, .int .i64 0, .int .i64 0, .int .i64 0] := by kernel_rfl
end Go.Proofs.Ytogjnobdlliekaa.Wk
