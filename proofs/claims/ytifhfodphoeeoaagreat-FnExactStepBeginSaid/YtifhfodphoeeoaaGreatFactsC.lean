/- Facts of the program's tables that the walks lean on. -/
import Derived.Test.YtifhfodphoeeoaaGreatFactsB
import Derived.KernelRfl
namespace Go.Proofs.YtifhfodphoeeoaaGreat.Wk
open Go Go.RowKit Sl
theorem ag63 : aggB Tryz.prog 63 = true := by kernel_rfl
theorem bd50_0_1 (x0) (x1) : Tryz.prog.built 50 [(0, .int .i64 x0), (1, .int .i64 x1)] = some [.int .i64 x0, .int .i64 x1].toArray := by kernel_rfl
theorem bd63_0_1_2 (x0) (x1) (x2) : Tryz.prog.built 63 [(0, .pointer x0), (1, .pointer x1), (2, .int .i64 x2)] = some [.pointer x0, .pointer x1, .int .i64 x2].toArray := by kernel_rfl
theorem en31 : enterB Tryz.prog 31 = true := by kernel_rfl
theorem en32 : enterB Tryz.prog 32 = true := by kernel_rfl
theorem en33 : enterB Tryz.prog 33 = true := by kernel_rfl
theorem en34 : enterB Tryz.prog 34 = true := by kernel_rfl
theorem en66 : enterB Tryz.prog 66 = true := by kernel_rfl
theorem en68 : enterB Tryz.prog 68 = true := by kernel_rfl
theorem en69 : enterB Tryz.prog 69 = true := by kernel_rfl
theorem en70 : enterB Tryz.prog 70 = true := by kernel_rfl
theorem en71 : enterB Tryz.prog 71 = true := by kernel_rfl
theorem en73 : enterB Tryz.prog 73 = true := by kernel_rfl
theorem en74 : enterB Tryz.prog 74 = true := by kernel_rfl
theorem en80 : enterB Tryz.prog 80 = true := by kernel_rfl
theorem en105 : enterB Tryz.prog 105 = true := by kernel_rfl
theorem en131 : enterB Tryz.prog 131 = true := by kernel_rfl
theorem en135 : enterB Tryz.prog 135 = true := by kernel_rfl
theorem en136 : enterB Tryz.prog 136 = true := by kernel_rfl
theorem en138 : enterB Tryz.prog 138 = true := by kernel_rfl
theorem en139 : enterB Tryz.prog 139 = true := by kernel_rfl
theorem en144 : enterB Tryz.prog 144 = true := by kernel_rfl
theorem en178 : enterB Tryz.prog 178 = true := by kernel_rfl
theorem fo63_0 : offB Tryz.prog 63 0 = some 0 := by kernel_rfl
theorem fo63_1 : offB Tryz.prog 63 1 = some 1 := by kernel_rfl
theorem fo63_2 : offB Tryz.prog 63 2 = some 2 := by kernel_rfl
theorem sc55 : scalB Tryz.prog 55 = true := by kernel_rfl
theorem sc61 : scalB Tryz.prog 61 = true := by kernel_rfl
theorem sz63 : szB Tryz.prog 63 = some 3 := by kernel_rfl
end Go.Proofs.YtifhfodphoeeoaaGreat.Wk
