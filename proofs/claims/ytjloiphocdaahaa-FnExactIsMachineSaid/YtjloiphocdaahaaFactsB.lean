/- Facts of the program's tables that the walks lean on. -/
import Derived.Test.YtjloiphocdaahaaFacts
import Derived.KernelRfl
namespace Go.Proofs.Ytjloiphocdaahaa.Wk
open Go Go.RowKit Sl
theorem ag27 : aggB Try.prog 27 = true := by kernel_rfl
theorem bl4 : Try.prog.underlying 4 = some .bool := by kernel_rfl
theorem en26 : enterB Try.prog 26 = true := by kernel_rfl
theorem en27 : enterB Try.prog 27 = true := by kernel_rfl
theorem en28 : enterB Try.prog 28 = true := by kernel_rfl
theorem en29 : enterB Try.prog 29 = true := by kernel_rfl
theorem en30 : enterB Try.prog 30 = true := by kernel_rfl
theorem en31 : enterB Try.prog 31 = true := by kernel_rfl
theorem en32 : enterB Try.prog 32 = true := by kernel_rfl
theorem en33 : enterB Try.prog 33 = true := by kernel_rfl
theorem en34 : enterB Try.prog 34 = true := by kernel_rfl
theorem en36 : enterB Try.prog 36 = true := by kernel_rfl
theorem en37 : enterB Try.prog 37 = true := by kernel_rfl
theorem en38 : enterB Try.prog 38 = true := by kernel_rfl
theorem en39 : enterB Try.prog 39 = true := by kernel_rfl
theorem en40 : enterB Try.prog 40 = true := by kernel_rfl
theorem en41 : enterB Try.prog 41 = true := by kernel_rfl
theorem en42 : enterB Try.prog 42 = true := by kernel_rfl
theorem en43 : enterB Try.prog 43 = true := by kernel_rfl
theorem en44 : enterB Try.prog 44 = true := by kernel_rfl
theorem en74 : enterB Try.prog 74 = true := by kernel_rfl
theorem en76 : enterB Try.prog 76 = true := by kernel_rfl
theorem en77 : enterB Try.prog 77 = true := by kernel_rfl
theorem en78 : enterB Try.prog 78 = true := by kernel_rfl
theorem en84 : enterB Try.prog 84 = true := by kernel_rfl
theorem en85 : enterB Try.prog 85 = true := by kernel_rfl
theorem en86 : enterB Try.prog 86 = true := by kernel_rfl
theorem en87 : enterB Try.prog 87 = true := by kernel_rfl
theorem en88 : enterB Try.prog 88 = true := by kernel_rfl
theorem en91 : enterB Try.prog 91 = true := by kernel_rfl
theorem en111 : enterB Try.prog 111 = true := by kernel_rfl
theorem en134 : enterB Try.prog 134 = true := by kernel_rfl
theorem en137 : enterB Try.prog 137 = true := by kernel_rfl
theorem en145 : enterB Try.prog 145 = true := by kernel_rfl
theorem sz27 : szB Try.prog 27 = some 13 := by kernel_rfl
end Go.Proofs.Ytjloiphocdaahaa.Wk
