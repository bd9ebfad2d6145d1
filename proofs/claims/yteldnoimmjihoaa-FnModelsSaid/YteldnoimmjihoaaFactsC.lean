/- Facts of the program's tables that the walks lean on. -/
import Derived.Test.YteldnoimmjihoaaFactsB
import Derived.KernelRfl
namespace Go.Proofs.Yteldnoimmjihoaa.Wk
open Go Go.RowKit Sl
theorem en17 : enterB Try.prog 17 = true := by kernel_rfl
theorem en18 : enterB Try.prog 18 = true := by kernel_rfl
theorem en19 : enterB Try.prog 19 = true := by kernel_rfl
theorem en20 : enterB Try.prog 20 = true := by kernel_rfl
theorem en21 : enterB Try.prog 21 = true := by kernel_rfl
theorem en22 : enterB Try.prog 22 = true := by kernel_rfl
theorem en23 : enterB Try.prog 23 = true := by kernel_rfl
theorem en25 : enterB Try.prog 25 = true := by kernel_rfl
theorem en56 : enterB Try.prog 56 = true := by kernel_rfl
theorem en57 : enterB Try.prog 57 = true := by kernel_rfl
theorem en59 : enterB Try.prog 59 = true := by kernel_rfl
theorem en60 : enterB Try.prog 60 = true := by kernel_rfl
theorem en61 : enterB Try.prog 61 = true := by kernel_rfl
theorem en62 : enterB Try.prog 62 = true := by kernel_rfl
theorem en63 : enterB Try.prog 63 = true := by kernel_rfl
theorem en64 : enterB Try.prog 64 = true := by kernel_rfl
theorem mk84 : mkB Try.prog 84 = some ([.bool false], 1, 1) := by kernel_rfl
theorem sc4 : scalB Try.prog 4 = true := by kernel_rfl
theorem sl84 : slB Try.prog 84 = some (1, 1) := by kernel_rfl
theorem sz4 : szB Try.prog 4 = some 1 := by kernel_rfl
theorem ul84 : Try.prog.underlying 84 = some (.slice (Try.prog.elem 84)) := by kernel_rfl
end Go.Proofs.Yteldnoimmjihoaa.Wk
