/- Facts of the program's tables that the walks lean on. -/
import Derived.Test.YtifhfodphoeeoaaGreatFacts
import Derived.KernelRfl
namespace Go.Proofs.YtifhfodphoeeoaaGreat.Wk
open Go Go.RowKit Sl
theorem en27 : enterB Tryz.prog 27 = true := by kernel_rfl
theorem en28 : enterB Tryz.prog 28 = true := by kernel_rfl
theorem en43 : enterB Tryz.prog 43 = true := by kernel_rfl
theorem en44 : enterB Tryz.prog 44 = true := by kernel_rfl
theorem en85 : enterB Tryz.prog 85 = true := by kernel_rfl
theorem en86 : enterB Tryz.prog 86 = true := by kernel_rfl
end Go.Proofs.YtifhfodphoeeoaaGreat.Wk
