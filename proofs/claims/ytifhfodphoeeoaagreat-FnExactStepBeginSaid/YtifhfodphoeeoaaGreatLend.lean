/- The thread that steps, lent out of its row: its slices are parts of their own; given back at the end. No program in sight. -/
import Derived.Test.YtifhfodphoeeoaaGreatElt
namespace Go.Proofs.YtifhfodphoeeoaaGreat.Sl
open Go Go.RowKit
set_option linter.unusedVariables false
set_option linter.unusedSimpArgs false

section
variable {w0 w : World} {l : List Res} {ts : List Thread} {t t' : Thread} {p g o m c : Nat} {v : Value}
theorem Sep.thr_lend (h : Sep w0 (Own threadEK (.slice (some ⟨g, o, none⟩) m c) (ts.set p t) :: l) w) (hp : p < ts.length) : ∃ (A0 A1 A2 A3 A4 : Option Addr) (c0 c1 c2 c3 c4 : Nat), (t.found.length ≤ maxLen ∧ t.free.length ≤ maxLen ∧ t.buffer.length ≤ maxLen ∧ t.work.length ≤ maxLen ∧ t.limbo.length ≤ maxLen) ∧ (t.found.length ≤ c0 ∧ t.free.length ≤ c1 ∧ t.buffer.length ≤ c2 ∧ t.work.length ≤ c3 ∧ t.limbo.length ≤ c4) ∧
    Sep w0 (Own intEK (.slice A0 t.found.length c0) t.found :: Own intEK (.slice A1 t.free.length c1) t.free :: Own entryEK (.slice A2 t.buffer.length c2) t.buffer :: Own entryEK (.slice A3 t.work.length c3) t.work :: Own intEK (.slice A4 t.limbo.length c4) t.limbo :: OwnBut threadEK (.slice (some ⟨g, o, none⟩) m c) (ts.set p t) p (t.encv (.slice A0 t.found.length c0) (.slice A1 t.free.length c1) (.slice A2 t.buffer.length c2) (.slice A3 t.work.length c3) (.slice A4 t.limbo.length c4)) :: l) w := by
  obtain ⟨vs, hb, _⟩ := h.elt_lend (q := 0) hp rfl
  replace hb : Sep w0 (Own intEK (sv (vs.getD 0 (none, 0, 0))) t.found :: Own intEK (sv (vs.getD 1 (none, 0, 0))) t.free :: Own entryEK (sv (vs.getD 2 (none, 0, 0))) t.buffer :: Own entryEK (sv (vs.getD 3 (none, 0, 0))) t.work :: Own intEK (sv (vs.getD 4 (none, 0, 0))) t.limbo :: OwnBut threadEK (.slice (some ⟨g, o, none⟩) m c) (ts.set p t) p (t.encv (sv (vs.getD 0 (none, 0, 0))) (sv (vs.getD 1 (none, 0, 0))) (sv (vs.getD 2 (none, 0, 0))) (sv (vs.getD 3 (none, 0, 0))) (sv (vs.getD 4 (none, 0, 0)))) :: l) w := hb.part_open
  obtain ⟨A0, c0, e0, k0, n0⟩ := (hb.own_rd (i := 0) rfl).sl
  obtain ⟨A1, c1, e1, k1, n1⟩ := (hb.own_rd (i := 1) rfl).sl
  obtain ⟨A2, c2, e2, k2, n2⟩ := (hb.own_rd (i := 2) rfl).sl
  obtain ⟨A3, c3, e3, k3, n3⟩ := (hb.own_rd (i := 3) rfl).sl
  obtain ⟨A4, c4, e4, k4, n4⟩ := (hb.own_rd (i := 4) rfl).sl
  rw [e0, e1, e2, e3, e4] at hb
  exact ⟨A0, A1, A2, A3, A4, c0, c1, c2, c3, c4, ⟨n0, n1, n2, n3, n4⟩, ⟨k0, k1, k2, k3, k4⟩, hb⟩
theorem Sep.thr_back {y0 y1 y2 y3 y4 : Slv} {cs : List Value} (h : Sep w0 (Own intEK (sv y0) t'.found :: Own intEK (sv y1) t'.free :: Own entryEK (sv y2) t'.buffer :: Own entryEK (sv y3) t'.work :: Own intEK (sv y4) t'.limbo :: OwnBut threadEK v (ts.set p t) p cs :: l) w)
    (hc : cs = t'.encv (sv y0) (sv y1) (sv y2) (sv y3) (sv y4)) : Sep w0 (Own threadEK v (ts.set p t') :: l) w := by
  have h1 := Sep.part_mk (ek := threadEK) (x := t') (vs := [y0, y1, y2, y3, y4]) (l := OwnBut threadEK v (ts.set p t) p cs :: l) h rfl
  have h2 := h1.giveback (q := 0) rfl hc
  rw [List.set_cons_zero, List.set_set] at h2
  exact h2
theorem threadK_of {w : World} {t : Thread} {v0 v1 v2 v3 v4 : Value} (h0 : intEK.Rd w v0 t.found) (h1 : intEK.Rd w v1 t.free) (h2 : entryEK.Rd w v2 t.buffer) (h3 : entryEK.Rd w v3 t.work) (h4 : intEK.Rd w v4 t.limbo) : threadEK.K w t (t.encv v0 v1 v2 v3 v4) := ⟨_, _, _, _, _, rfl, h0, h1, h2, h3, h4⟩
end
end Go.Proofs.YtifhfodphoeeoaaGreat.Sl
