/- Facts of the program's tables that the walks lean on. -/
import Derived.Test.YthjeeimdgejlhaaFacts
import Derived.KernelRfl
namespace Go.Proofs.Ythjeeimdgejlhaa.Wk
open Go Go.RowKit Sl
theorem en40 : enterB Try.prog 40 = true := by kernel_rfl
theorem en41 : enterB Try.prog 41 = true := by kernel_rfl
theorem en42 : enterB Try.prog 42 = true := by kernel_rfl
theorem en43 : enterB Try.prog 43 = true := by kernel_rfl
theorem en44 : enterB Try.prog 44 = true := by kernel_rfl
theorem en45 : enterB Try.prog 45 = true := by kernel_rfl
theorem en46 : enterB Try.prog 46 = true := by kernel_rfl
theorem en48 : enterB Try.prog 48 = true := by kernel_rfl
theorem en119 : enterB Try.prog 119 = true := by kernel_rfl
theorem en120 : enterB Try.prog 120 = true := by kernel_rfl
theorem en122 : enterB Try.prog 122 = true := by kernel_rfl
theorem en123 : enterB Try.prog 123 = true := by kernel_rfl
theorem en170 : enterB Try.prog 170 = true := by kernel_rfl
end Go.Proofs.Ythjeeimdgejlhaa.Wk
