/- Sizes of states behind a step. -/
import Derived.Test.YtifhfodphoeeoaaGreatChecked
import Derived.Test.YtifhfodphoeeoaaGreatWkOf
import Derived.Test.YtifhfodphoeeoaaGreatFactsD
namespace Go.Proofs.YtifhfodphoeeoaaGreat.Wk
open Go Go.RowKit Sl
set_option linter.unusedVariables false
set_option linter.unusedSimpArgs false
set_option maxRecDepth 20000

theorem crow_set_le {α : Type} {c : α → Nat} {y : α} {x : α} {k : Nat} : ∀ {xs : List α} {i : Nat}, xs[i]? = some y → c x ≤ c y + k → crow c (xs.set i x) ≤ crow c xs + k
  | [], i, h, _ => by simp at h
  | z :: xs, 0, h, hl => by simp at h; subst h; simp only [List.set_cons_zero, crow]; omega
  | z :: xs, i + 1, h, hl => by
    have := crow_set_le (xs := xs) (i := i) (by simpa using h) hl
    simp only [List.set_cons_succ, crow]; omega
theorem putC_len {xs : List Int} {a v : Int} : (putC xs a v).length = xs.length := by unfold putC; split <;> simp
theorem endT_size {t : Sl.Thread} {c x : Int} : (endT t c x).size ≤ t.size := by unfold endT clearT Sl.Thread.size; simp only [List.length_nil]; omega
/-- a step makes a state longer by at most k -/
theorem stepOf_size {isf : Int → Bool} {f : Sl.State → Sl.Thread → Int → Sl.State × Sl.Thread} {s : Sl.State} {p : Int} (k : Nat) (hk : ∀ s t p, ((f s t p).1.cells.length = s.cells.length ∧ (f s t p).1.generations.length = s.generations.length) ∧ (f s t p).2.size ≤ t.size + k) : (stepOf isf f s p).1.size ≤ s.size + k := by
  unfold stepOf
  split
  · rename_i h
    have hp := (running_of h.1).2
    have hx : s.threads[p.toNat]? = some (at0 s.threads ((p.toNat : Nat) : Int)) := at0_nat (by omega)
    obtain ⟨⟨h1, h2⟩, h3⟩ := hk (stepped s) (at0 s.threads ((p.toNat : Nat) : Int)) ((p.toNat : Nat) : Int)
    have h4 := crow_set_le (c := Sl.Thread.size) hx h3
    have e1 : (stepBy f (stepped s) p.toNat).size = (f (stepped s) (at0 s.threads ((p.toNat : Nat) : Int)) ((p.toNat : Nat) : Int)).1.cells.length + (f (stepped s) (at0 s.threads ((p.toNat : Nat) : Int)) ((p.toNat : Nat) : Int)).1.generations.length + ((s.threads.set p.toNat (f (stepped s) (at0 s.threads ((p.toNat : Nat) : Int)) ((p.toNat : Nat) : Int)).2).length + crow Sl.Thread.size (s.threads.set p.toNat (f (stepped s) (at0 s.threads ((p.toNat : Nat) : Int)) ((p.toNat : Nat) : Int)).2)) := rfl
    have e2 : s.size = s.cells.length + s.generations.length + (s.threads.length + crow Sl.Thread.size s.threads) := rfl
    have h5 : (stepped s).cells.length = s.cells.length := rfl
    have h6 : (stepped s).generations.length = s.generations.length := rfl
    show (stepBy f (stepped s) p.toNat).size ≤ s.size + k
    rw [e1, e2, List.length_set]
    omega
  · exact Nat.le_add_right _ _

end Go.Proofs.YtifhfodphoeeoaaGreat.Wk
