/- Facts of the program's tables that the walks lean on. -/
import Derived.Test.YtjmohafpcjbajaaGreatFactsB
import Derived.KernelRfl
namespace Go.Proofs.YtjmohafpcjbajaaGreat.Wk
open Go Go.RowKit Sl
theorem ag27 : aggB Tryz.prog 27 = true := by kernel_rfl
theorem ag61 : aggB Tryz.prog 61 = true := by kernel_rfl
theorem bd46 : Tryz.prog.built 46 [] = some [.int .i64 0, .int .i64 0].toArray := by kernel_rfl
theorem bd46_0_1 (x0) (x1) : Tryz.prog.built 46 [(0, .int .i64 x0), (1, .int .i64 x1)] = some [.int .i64 x0, .int .i64 x1].toArray := by kernel_rfl
theorem bd61_0_1_2 (x0) (x1) (x2) : Tryz.prog.built 61 [(0, .pointer x0), (1, .pointer x1), (2, .int .i64 x2)] = some [.pointer x0, .pointer x1, .int .i64 x2].toArray := by kernel_rfl
theorem bl4 : Tryz.prog.underlying 4 = some .bool := by kernel_rfl
theorem en7 : enterB Tryz.prog 7 = true := by kernel_rfl
theorem en8 : enterB Tryz.prog 8 = true := by kernel_rfl
theorem en9 : enterB Tryz.prog 9 = true := by kernel_rfl
theorem en10 : enterB Tryz.prog 10 = true := by kernel_rfl
theorem en11 : enterB Tryz.prog 11 = true := by kernel_rfl
theorem en12 : enterB Tryz.prog 12 = true := by kernel_rfl
theorem en13 : enterB Tryz.prog 13 = true := by kernel_rfl
theorem en22 : enterB Tryz.prog 22 = true := by kernel_rfl
theorem en23 : enterB Tryz.prog 23 = true := by kernel_rfl
theorem en24 : enterB Tryz.prog 24 = true := by kernel_rfl
theorem en25 : enterB Tryz.prog 25 = true := by kernel_rfl
theorem en26 : enterB Tryz.prog 26 = true := by kernel_rfl
theorem en30 : enterB Tryz.prog 30 = true := by kernel_rfl
theorem en33 : enterB Tryz.prog 33 = true := by kernel_rfl
theorem en34 : enterB Tryz.prog 34 = true := by kernel_rfl
theorem en35 : enterB Tryz.prog 35 = true := by kernel_rfl
theorem en56 : enterB Tryz.prog 56 = true := by kernel_rfl
theorem en60 : enterB Tryz.prog 60 = true := by kernel_rfl
theorem en62 : enterB Tryz.prog 62 = true := by kernel_rfl
theorem en63 : enterB Tryz.prog 63 = true := by kernel_rfl
theorem en66 : enterB Tryz.prog 66 = true := by kernel_rfl
theorem en101 : enterB Tryz.prog 101 = true := by kernel_rfl
theorem en102 : enterB Tryz.prog 102 = true := by kernel_rfl
theorem en110 : enterB Tryz.prog 110 = true := by kernel_rfl
theorem en121 : enterB Tryz.prog 121 = true := by kernel_rfl
theorem fo61_0 : offB Tryz.prog 61 0 = some 0 := by kernel_rfl
theorem fo61_1 : offB Tryz.prog 61 1 = some 1 := by kernel_rfl
theorem sc51 : scalB Tryz.prog 51 = true := by kernel_rfl
theorem sc59 : scalB Tryz.prog 59 = true := by kernel_rfl
theorem sz27 : szB Tryz.prog 27 = some 13 := by kernel_rfl
theorem sz61 : szB Tryz.prog 61 = some 3 := by kernel_rfl
end Go.Proofs.YtjmohafpcjbajaaGreat.Wk
