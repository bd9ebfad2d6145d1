/- Facts of the program's tables that the walks lean on. -/
import Derived.Test.YtifhfodphoeeoaaGreatFactsD
import Derived.KernelRfl
namespace Go.Proofs.YtifhfodphoeeoaaGreat.Wk
open Go Go.RowKit Sl

end Go.Proofs.YtifhfodphoeeoaaGreat.Wk
