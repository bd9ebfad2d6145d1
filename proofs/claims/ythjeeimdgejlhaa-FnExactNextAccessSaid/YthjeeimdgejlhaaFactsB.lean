/- Facts of the program's tables that the walks lean on. -/
import Derived.Test.YthjeeimdgejlhaaFacts
import Derived.KernelRfl
namespace Go.Proofs.Ythjeeimdgejlhaa.Wk
open Go Go.RowKit Sl
theorem en49 : enterB Try.prog 49 = true := by kernel_rfl
theorem en50 : enterB Try.prog 50 = true := by kernel_rfl
end Go.Proofs.Ythjeeimdgejlhaa.Wk
