/- Facts of the program's tables that the walks lean on. -/
import Derived.Test.YtifhfodphoeeoaaGreatFactsC
import Derived.KernelRfl
namespace Go.Proofs.YtifhfodphoeeoaaGreat.Wk
open Go Go.RowKit Sl
theorem ag27 : aggB Tryz.prog 27 = true := by kernel_rfl
theorem bd50 : Tryz.prog.built 50 [] = some [.int .i64 0, .int .i64 0].toArray := by kernel_rfl
theorem bd50_0 (x0) : Tryz.prog.built 50 [(0, .int .i64 x0)] = some [.int .i64 x0, .int .i64 0].toArray := by kernel_rfl
theorem bl4 : Tryz.prog.underlying 4 = some .bool := by kernel_rfl
theorem en9 : enterB Tryz.prog 9 = true := by kernel_rfl
theorem en10 : enterB Tryz.prog 10 = true := by kernel_rfl
theorem en11 : enterB Tryz.prog 11 = true := by kernel_rfl
theorem en12 : enterB Tryz.prog 12 = true := by kernel_rfl
theorem en13 : enterB Tryz.prog 13 = true := by kernel_rfl
theorem en14 : enterB Tryz.prog 14 = true := by kernel_rfl
theorem en15 : enterB Tryz.prog 15 = true := by kernel_rfl
theorem en38 : enterB Tryz.prog 38 = true := by kernel_rfl
theorem en76 : enterB Tryz.prog 76 = true := by kernel_rfl
theorem en77 : enterB Tryz.prog 77 = true := by kernel_rfl
theorem en79 : enterB Tryz.prog 79 = true := by kernel_rfl
theorem en81 : enterB Tryz.prog 81 = true := by kernel_rfl
theorem en82 : enterB Tryz.prog 82 = true := by kernel_rfl
theorem en83 : enterB Tryz.prog 83 = true := by kernel_rfl
theorem sz27 : szB Tryz.prog 27 = some 13 := by kernel_rfl
end Go.Proofs.YtifhfodphoeeoaaGreat.Wk
