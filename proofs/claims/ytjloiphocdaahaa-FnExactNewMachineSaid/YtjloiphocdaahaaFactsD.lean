/- Facts of the program's tables that the walks lean on. -/
import Derived.Test.YtjloiphocdaahaaFactsC
import Derived.KernelRfl
namespace Go.Proofs.Ytjloiphocdaahaa.Wk
open Go Go.RowKit Sl
theorem en45 : enterB Try.prog 45 = true := by kernel_rfl
theorem en46 : enterB Try.prog 46 = true := by kernel_rfl
theorem en62 : enterB Try.prog 62 = true := by kernel_rfl
theorem en64 : enterB Try.prog 64 = true := by kernel_rfl
theorem en92 : enterB Try.prog 92 = true := by kernel_rfl
theorem en93 : enterB Try.prog 93 = true := by kernel_rfl
theorem en105 : enterB Try.prog 105 = true := by kernel_rfl
theorem en107 : enterB Try.prog 107 = true := by kernel_rfl
theorem en138 : enterB Try.prog 138 = true := by kernel_rfl
theorem en144 : enterB Try.prog 144 = true := by kernel_rfl
end Go.Proofs.Ytjloiphocdaahaa.Wk
