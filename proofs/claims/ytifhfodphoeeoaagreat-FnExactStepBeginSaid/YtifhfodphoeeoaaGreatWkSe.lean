/- Walks: StepEnd. -/
import Derived.Test.YtifhfodphoeeoaaGreatChecked
import Derived.Test.YtifhfodphoeeoaaGreatWkSc
import Derived.Test.YtifhfodphoeeoaaGreatWkSi
import Derived.Test.YtifhfodphoeeoaaGreatFactsC
namespace Go.Proofs.YtifhfodphoeeoaaGreat.Wk
open Go Go.RowKit Sl
set_option linter.unusedVariables false
set_option linter.unusedSimpArgs false
set_option maxRecDepth 20000

def stepped (s : Sl.State) : Sl.State := { s with steps := IntKind.i64.wrap (s.steps + 1) }
def setT (s : Sl.State) (p : Nat) (t : Sl.Thread) : Sl.State := { s with threads := s.threads.set p t }
def endS (s : Sl.State) (p : Nat) : Sl.State := setT (putS (stepped s) (announceCell s.config p) 0) p (endT { at0 s.threads (p : Int) with snapshot := 0 } 0 0)
def stepEnd (s : Sl.State) (p : Int) : Sl.State × Bool := if isRunning s p = true ∧ (at0 s.threads p).pc = 80 then (endS s p.toNat, true) else (s, false)
theorem running_of {s : Sl.State} {p : Int} (h : isRunning s p = true) : stateOk s = true ∧ (0 ≤ p ∧ p < s.threads.length) := by
  unfold isRunning at h
  simp only [Bool.and_eq_true, decide_eq_true_eq] at h
  exact ⟨h.1.1, by omega⟩

end Go.Proofs.YtifhfodphoeeoaaGreat.Wk
