/- What a step leans on. -/
import Derived.Test.YtifhfodphoeeoaaGreatChecked
import Derived.Test.YtifhfodphoeeoaaGreatWkIf
import Derived.Test.YtifhfodphoeeoaaGreatKeep
import Derived.Test.YtifhfodphoeeoaaGreatFactsC
namespace Go.Proofs.YtifhfodphoeeoaaGreat.Wk
open Go Go.RowKit Sl
set_option linter.unusedVariables false
set_option linter.unusedSimpArgs false
set_option maxRecDepth 20000

/-- a step by what it does to the state and to the thread that steps -/
def stepBy (f : Sl.State → Sl.Thread → Int → Sl.State × Sl.Thread) (s : Sl.State) (p : Nat) : Sl.State := { (f s (at0 s.threads (p : Int)) p).1 with threads := s.threads.set p (f s (at0 s.threads (p : Int)) p).2 }
def stepOf (isf : Int → Bool) (f : Sl.State → Sl.Thread → Int → Sl.State × Sl.Thread) (s : Sl.State) (p : Int) : Sl.State × Bool := if isRunning s p = true ∧ isf (at0 s.threads p).pc = true then (stepBy f (stepped s) p.toNat, true) else (s, false)
theorem cells_two {s : Sl.State} (h : stateOk s = true) : 2 ≤ s.cells.length := by
  obtain ⟨hok, hl, _⟩ := stateOk_shape h
  have := cellCount_eq hok
  unfold Config.ok at hok
  omega
theorem stepI_of {isf : Int → Bool} {f : Sl.State → Sl.Thread → Int → Sl.State × Sl.Thread} (hc : ∀ s t p, f (stepped s) t p = (stepped (f s t p).1, (f s t p).2)) (s : Sl.State) (p : Int) : stepI isf (stepBy f) s p = stepOf isf f s p := by
  unfold stepI stepOf
  split
  · unfold stepBy; rw [hc]; rfl
  · rfl
/-- what a step leans on -/
structure Fit (s : Sl.State) (t : Sl.Thread) : Prop where
  ok : s.config.ok
  lc : (s.cells.length : Int) = cellCount s.config
  lg : (s.generations.length : Int) = s.config.capacity
  wc : ∀ x ∈ s.cells, int64 x
  wg : ∀ x ∈ s.generations, int64 x
  wt : t.wf
  th : threadOk s.config t = true
theorem Fit.of {s : Sl.State} {p : Nat} (hs : stateOk s = true) (hw : s.wf) (hp : p < s.threads.length) : Fit s (at0 s.threads (p : Int)) := by
  obtain ⟨h1, h2, h3, h4⟩ := stateOk_shape hs
  exact ⟨h1, h2, h3, hw.2.1, hw.2.2.1, hw.2.2.2.1 _ (at0_mem (by omega) (by omega)), state_thread hs (by omega) (by omega)⟩
theorem Fit.two {s : Sl.State} {t : Sl.Thread} (h : Fit s t) : 2 ≤ s.cells.length := by
  have h1 := h.lc; have hok := h.ok
  have := cellCount_eq hok
  unfold Config.ok at hok
  omega
theorem Fit.stepped {s : Sl.State} {t : Sl.Thread} (h : Fit s t) : Fit (stepped s) t := ⟨h.ok, h.lc, h.lg, h.wc, h.wg, h.wt, h.th⟩
theorem int64_loadC {xs : List Int} {a_ : Int} (h : ∀ x ∈ xs, int64 x) : int64 (loadC xs a_) := by
  unfold loadC
  split
  · exact h _ (at0_mem (by omega) (by omega))
  · unfold int64; omega
theorem load0 {s : Sl.State} (h : 2 ≤ s.cells.length) : loadC s.cells 0 = at0 s.cells 0 := if_pos ⟨by decide, by omega⟩
theorem Fit.curr {s : Sl.State} {t : Sl.Thread} (h : Fit s t) : int64 t.curr := h.wt.2.2.2.2.2.2.1
theorem Fit.prev {s : Sl.State} {t : Sl.Thread} (h : Fit s t) : int64 t.prev := h.wt.2.2.2.2.2.1
theorem Fit.next {s : Sl.State} {t : Sl.Thread} (h : Fit s t) : int64 t.next := h.wt.2.2.2.2.2.2.2.1
theorem Fit.seen {s : Sl.State} {t : Sl.Thread} (h : Fit s t) : int64 t.seen := h.wt.2.2.2.2.2.2.2.2.1

end Go.Proofs.YtifhfodphoeeoaaGreat.Wk
