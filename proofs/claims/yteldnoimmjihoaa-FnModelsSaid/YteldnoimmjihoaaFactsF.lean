/- Facts of the program's tables that the walks lean on. -/
import Derived.Test.YteldnoimmjihoaaFactsE
import Derived.KernelRfl
namespace Go.Proofs.Yteldnoimmjihoaa.Wk
open Go Go.RowKit Sl
theorem en31 : enterB Try.prog 31 = true := by kernel_rfl
theorem en32 : enterB Try.prog 32 = true := by kernel_rfl
theorem en35 : enterB Try.prog 35 = true := by kernel_rfl
theorem en38 : enterB Try.prog 38 = true := by kernel_rfl
theorem en40 : enterB Try.prog 40 = true := by kernel_rfl
theorem en71 : enterB Try.prog 71 = true := by kernel_rfl
theorem en72 : enterB Try.prog 72 = true := by kernel_rfl
end Go.Proofs.Yteldnoimmjihoaa.Wk
