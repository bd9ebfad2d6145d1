/- Facts of the program's tables that the walks lean on. -/
import Derived.Test.YteldnoimmjihoaaFactsC
import Derived.KernelRfl
namespace Go.Proofs.Yteldnoimmjihoaa.Wk
open Go Go.RowKit Sl
theorem en28 : enterB Try.prog 28 = true := by kernel_rfl
theorem en30 : enterB Try.prog 30 = true := by kernel_rfl
end Go.Proofs.Yteldnoimmjihoaa.Wk
