/- Facts of the program's tables that the walks lean on. -/
import Derived.Test.YtjloiphocdaahaaFactsD
import Derived.KernelRfl
namespace Go.Proofs.Ytjloiphocdaahaa.Wk
open Go Go.RowKit Sl
theorem bd37 : Try.prog.built 37 [] = some [.int .i64 0, .int .i64 0, .int .i64 0, .int .i64 0, .int .i64 0, .int .i64 0, .slice none 0 0, .slice none 0 0, .slice none 0 0, .int .i64 0, .int .i64 0, .int .i64 0, .int .i64 0].toArray := by kernel_rfl
theorem bd37_0_1_2 (x0) (x1) (x2) (x3) (x4) (x5) (x6) (x7) (x8) (x9) (x10) (x11) : Try.prog.built 37 [(0, .agg #[.int .i64 x0, .int .i64 x1, .int .i64 x2, .int .i64 x3, .int .i64 x4, .int .i64 x5]), (1, .slice x6 x7 x8), (2, .slice x9 x10 x11)] = some [.int .i64 x0, .int .i64 x1, .int .i64 x2, .int .i64 x3, .int .i64 x4, .int .i64 x5, .slice x6 x7 x8, .slice x9 x10 x11, .slice none 0 0, .int .i64 0, .int .i64 0, .int .i64 0, .int .i64 0].toArray := by kernel_rfl
theorem bd37_0_1_2_3 (x0) (x1) (x2) (x3) (x4) (x5) (x6) (x7) (x8) (x9) (x10) (x11) (x12) (x13) (x14) : Try.prog.built 37 [(0, .agg #[.int .i64 x0, .int .i64 x1, .int .i64 x2, .int .i64 x3, .int .i64 x4, .int .i64 x5]), (1, .slice x6 x7 x8), (2, .slice x9 x10 x11), (3, .slice x12 x13 x14)] = some [.int .i64 x0, .int .i64 x1, .int .i64 x2, .int .i64 x3, .int .i64 x4, .int .i64 x5, .slice x6 x7 x8, .slice x9 x10 x11, .slice x12 x13 x14, .int .i64 0, .int .i64 0, .int .i64 0, .int .i64 0].toArray := by kernel_rfl
theorem bd41 : Try.prog.built 41 [] = some [.int .i64 0, .int .i64 0, .int .i64 0, .int .i64 0, .int .i64 0, .int .i64 0, .slice none 0 0, .slice none 0 0, .slice none 0 0, .int .i64 0, .int .i64 0, .int .i64 0, .int .i64 0, .slice none 0 0, .slice none 0 0, .slice none 0 0, .int .i64 0].toArray := by kernel_rfl
theorem bd41_0_1_2 (x0) (x1) (x2) (x3) (x4) (x5) (x6) (x7) (x8) (x9) (x10) (x11) (x12) (x13) (x14) (x15) (x16) (x17) (x18) (x19) (x20) (x21) (x22) (x23) (x24) : Try.prog.built 41 [(0, .agg #[.int .i64 x0, .int .i64 x1, .int .i64 x2, .int .i64 x3, .int .i64 x4, .int .i64 x5, .slice x6 x7 x8, .slice x9 x10 x11, .slice x12 x13 x14, .int .i64 x15, .int .i64 x16, .int .i64 x17, .int .i64 x18]), (1, .slice x19 x20 x21), (2, .slice x22 x23 x24)] = some [.int .i64 x0, .int .i64 x1, .int .i64 x2, .int .i64 x3, .int .i64 x4, .int .i64 x5, .slice x6 x7 x8, .slice x9 x10 x11, .slice x12 x13 x14, .int .i64 x15, .int .i64 x16, .int .i64 x17, .int .i64 x18, .slice x19 x20 x21, .slice x22 x23 x24, .slice none 0 0, .int .i64 0].toArray := by kernel_rfl
theorem bd41_0_2 (x0) (x1) (x2) (x3) (x4) (x5) (x6) (x7) (x8) (x9) (x10) (x11) (x12) (x13) (x14) (x15) (x16) (x17) (x18) (x19) (x20) (x21) : Try.prog.built 41 [(0, .agg #[.int .i64 x0, .int .i64 x1, .int .i64 x2, .int .i64 x3, .int .i64 x4, .int .i64 x5, .slice x6 x7 x8, .slice x9 x10 x11, .slice x12 x13 x14, .int .i64 x15, .int .i64 x16, .int .i64 x17, .int .i64 x18]), (2, .slice x19 x20 x21)] = some [.int .i64 x0, .int .i64 x1, .int .i64 x2, .int .i64 x3, .int .i64 x4, .int .i64 x5, .slice x6 x7 x8, .slice x9 x10 x11, .slice x12 x13 x14, .int .i64 x15, .int .i64 x16, .int .i64 x17, .int .i64 x18, .slice none 0 0, .slice x19 x20 x21, .slice none 0 0, .int .i64 0].toArray := by kernel_rfl
theorem bd112 : Try.prog.built 112 [] = some [.int .i64 0, .int .i64 0, .int .i64 0, .int .i64 0, .int .i64 0, .int .i64 0, .int .i64 0, .int .i64 0, .int .i64 0, .int .i64 0, .int .i64 0, .int .i64 0, .int .i64 0, .int .i64 0, .slice none 0 0, .slice none 0 0, .slice none 0 0, .slice none 0 0, .slice none 0 0].toArray := by kernel_rfl
theorem en18 : enterB Try.prog 18 = true := by kernel_rfl
theorem en21 : enterB Try.prog 21 = true := by kernel_rfl
theorem en24 : enterB Try.prog 24 = true := by kernel_rfl
theorem en25 : enterB Try.prog 25 = true := by kernel_rfl
theorem en61 : enterB Try.prog 61 = true := by kernel_rfl
theorem en65 : enterB Try.prog 65 = true := by kernel_rfl
theorem en66 : enterB Try.prog 66 = true := by kernel_rfl
theorem en101 : enterB Try.prog 101 = true := by kernel_rfl
theorem en108 : enterB Try.prog 108 = true := by kernel_rfl
theorem en109 : enterB Try.prog 109 = true := by kernel_rfl
theorem en143 : enterB Try.prog 143 = true := by kernel_rfl
end Go.Proofs.Ytjloiphocdaahaa.Wk
