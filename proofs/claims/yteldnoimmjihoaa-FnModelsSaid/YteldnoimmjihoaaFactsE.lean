/- Facts of the program's tables that the walks lean on. -/
import Derived.Test.YteldnoimmjihoaaFactsD
import Derived.KernelRfl
namespace Go.Proofs.Yteldnoimmjihoaa.Wk
open Go Go.RowKit Sl
theorem bd38_0_1_2_3_4_5 (x0) (x1) (x2) (x3) (x4) (x5) : Try.prog.built 38 [(0, .int .i64 x0), (1, .int .i64 x1), (2, .int .i64 x2), (3, .int .i64 x3), (4, .int .i64 x4), (5, .int .i64 x5)] = some [.int .i64 x0, .int .i64 x1, .int .i64 x2, .int .i64 x3, .int .i64 x4, .int .i64 x5].toArray := by kernel_rfl
theorem bd41_0 (x0) : Try.prog.built 41 [(0, .int .i64 x0)] = some [.int .i64 x0, .int .i64 0, .int .i64 0].toArray := by kernel_rfl
theorem bd41_0_1 (x0) (x1) : Try.prog.built 41 [(0, .int .i64 x0), (1, .int .i64 x1)] = some [.int .i64 x0, .int .i64 x1, .int .i64 0].toArray := by kernel_rfl
theorem bd41_0_1_2 (x0) (x1) (x2) : Try.prog.built 41 [(0, .int .i64 x0), (1, .int .i64 x1), (2, .int .i64 x2)] = some [.int .i64 x0, .int .i64 x1, .int .i64 x2].toArray := by kernel_rfl
theorem bd42_0_1 (x0) (x1) : Try.prog.built 42 [(0, .int .i64 x0), (1, .int .i64 x1)] = some [.int .i64 x0, .int .i64 x1].toArray := by kernel_rfl
theorem bd44_0_1_2_3_4 (x0) (x1) (x2) (x3) (x4) (x5) (x6) (x7) : Try.prog.built 44 [(0, .int .i64 x0), (1, .agg #[.int .i64 x1, .int .i64 x2, .int .i64 x3]), (2, .agg #[.int .i64 x4, .int .i64 x5]), (3, .int .i64 x6), (4, .int .i64 x7)] = some [.int .i64 x0, .int .i64 x1, .int .i64 x2, .int .i64 x3, .int .i64 x4, .int .i64 x5, .int .i64 x6, .int .i64 x7].toArray := by kernel_rfl
theorem bd104_0_2 (x0) (x1) (x2) (x3) : Try.prog.built 104 [(0, .slice x0 x1 x2), (2, .int .i64 x3)] = some [.slice x0 x1 x2, .int .i64 0, .int .i64 x3].toArray := by kernel_rfl
theorem en65 : enterB Try.prog 65 = true := by kernel_rfl
theorem en66 : enterB Try.prog 66 = true := by kernel_rfl
theorem en67 : enterB Try.prog 67 = true := by kernel_rfl
theorem en68 : enterB Try.prog 68 = true := by kernel_rfl
theorem en69 : enterB Try.prog 69 = true := by kernel_rfl
theorem en77 : enterB Try.prog 77 = true := by kernel_rfl
theorem en78 : enterB Try.prog 78 = true := by kernel_rfl
theorem en82 : enterB Try.prog 82 = true := by kernel_rfl
theorem en83 : enterB Try.prog 83 = true := by kernel_rfl
theorem en84 : enterB Try.prog 84 = true := by kernel_rfl
theorem en85 : enterB Try.prog 85 = true := by kernel_rfl
theorem fo104_0 : offB Try.prog 104 0 = some 0 := by kernel_rfl
theorem fo104_1 : offB Try.prog 104 1 = some 1 := by kernel_rfl
theorem fo104_2 : offB Try.prog 104 2 = some 2 := by kernel_rfl
theorem iu5 : Try.prog.underlying 5 = some (.int .u8) := by kernel_rfl
theorem sc5 : scalB Try.prog 5 = true := by kernel_rfl
theorem sc64 : scalB Try.prog 64 = true := by kernel_rfl
theorem sl64 : slB Try.prog 64 = some (1, 1) := by kernel_rfl
theorem ul64 : Try.prog.underlying 64 = some (.slice (Try.prog.elem 64)) := by kernel_rfl
end Go.Proofs.Yteldnoimmjihoaa.Wk
