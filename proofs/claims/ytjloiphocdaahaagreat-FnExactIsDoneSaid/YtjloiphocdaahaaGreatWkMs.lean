/- Walks: marks of states. -/
import Derived.Test.YtjloiphocdaahaaGreatChecked
import Derived.Test.YtjloiphocdaahaaGreatWkMk
import Derived.Test.YtjloiphocdaahaaGreatFactsB
namespace Go.Proofs.YtjloiphocdaahaaGreat.Wk
open Go Go.RowKit Sl
set_option linter.unusedVariables false
set_option linter.unusedSimpArgs false
set_option maxRecDepth 20000

def _root_.Go.Proofs.YtjloiphocdaahaaGreat.Sl.State.cnt (s : Sl.State) : Nat := s.cells.length + s.generations.length + crow Sl.Thread.cnt s.threads
def _root_.Go.Proofs.YtjloiphocdaahaaGreat.Sl.State.mark (k : Int) (s : Sl.State) : Sl.State := { s with cells := marks k s.cells.length, generations := marks (k + s.cells.length) s.generations.length, threads := mrow Sl.Thread.mark Sl.Thread.cnt (k + s.cells.length + s.generations.length) s.threads }
theorem crow_four (xs : List Entry) : crow Sl.Entry.cnt xs = 4 * xs.length := by
  induction xs with
  | nil => rfl
  | cons x xs ih => simp only [crow, ih, List.length_cons, Sl.Entry.cnt]; omega
theorem thread_cnt (t : Sl.Thread) : t.cnt ≤ 14 + 4 * t.size := by
  unfold Sl.Thread.cnt Sl.Thread.size
  rw [crow_four, crow_four]; omega
theorem threads_cnt (xs : List Sl.Thread) : crow Sl.Thread.cnt xs ≤ 14 * xs.length + 4 * crow Sl.Thread.size xs := by
  induction xs with
  | nil => simp [crow]
  | cons x xs ih =>
    have := thread_cnt x
    simp only [crow, List.length_cons]; omega
theorem state_cnt (s : Sl.State) : s.cnt ≤ 14 * s.size := by
  have := threads_cnt s.threads
  unfold Sl.State.cnt Sl.State.size; omega

end Go.Proofs.YtjloiphocdaahaaGreat.Wk
