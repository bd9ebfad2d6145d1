/- Facts of the program's tables that the walks lean on. -/
import Derived.Test.YteldnoimmjihoaaFacts
import Derived.KernelRfl
namespace Go.Proofs.Yteldnoimmjihoaa.Wk
open Go Go.RowKit Sl
theorem ag23 : aggB Try.prog 23 = true := by kernel_rfl
theorem ag27 : aggB Try.prog 27 = true := by kernel_rfl
theorem bl4 : Try.prog.underlying 4 = some .bool := by kernel_rfl
theorem eg42 : Try.prog.eqGuardType Try.prog.depth 42 = false := by kernel_rfl
theorem en8 : enterB Try.prog 8 = true := by kernel_rfl
theorem en9 : enterB Try.prog 9 = true := by kernel_rfl
theorem en10 : enterB Try.prog 10 = true := by kernel_rfl
theorem en11 : enterB Try.prog 11 = true := by kernel_rfl
theorem en13 : enterB Try.prog 13 = true := by kernel_rfl
theorem en14 : enterB Try.prog 14 = true := by kernel_rfl
theorem en15 : enterB Try.prog 15 = true := by kernel_rfl
theorem en16 : enterB Try.prog 16 = true := by kernel_rfl
theorem en33 : enterB Try.prog 33 = true := by kernel_rfl
theorem en34 : enterB Try.prog 34 = true := by kernel_rfl
theorem fl42 : flN Try.prog 10000 42 = some 2 := by kernel_rfl
theorem sz23 : szB Try.prog 23 = some 6 := by kernel_rfl
theorem sz27 : szB Try.prog 27 = some 2 := by kernel_rfl
end Go.Proofs.Yteldnoimmjihoaa.Wk
