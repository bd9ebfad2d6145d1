/- Facts of the program's tables that the walks lean on. -/
import Derived.Test.YtjmohafpcjbajaaGreatFacts
import Derived.KernelRfl
namespace Go.Proofs.YtjmohafpcjbajaaGreat.Wk
open Go Go.RowKit Sl
theorem en39 : enterB Tryz.prog 39 = true := by kernel_rfl
theorem en40 : enterB Tryz.prog 40 = true := by kernel_rfl
theorem en41 : enterB Tryz.prog 41 = true := by kernel_rfl
theorem en42 : enterB Tryz.prog 42 = true := by kernel_rfl
theorem en68 : enterB Tryz.prog 68 = true := by kernel_rfl
theorem en69 : enterB Tryz.prog 69 = true := by kernel_rfl
end Go.Proofs.YtjmohafpcjbajaaGreat.Wk
