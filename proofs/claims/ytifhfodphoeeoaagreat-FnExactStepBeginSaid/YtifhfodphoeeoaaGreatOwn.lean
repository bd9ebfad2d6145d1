/- Writing into rows of one's own: an element's cell, a whole element, a new row, an element more. No program in sight. -/
import Derived.Test.YtifhfodphoeeoaaGreatTypes
namespace Go.Proofs.YtifhfodphoeeoaaGreat.Sl
open Go Go.RowKit
set_option linter.unusedVariables false
set_option linter.unusedSimpArgs false

theorem place_uniq {sz i i' j j' : Nat} (hj : j < sz) (hj' : j' < sz) (h : i * sz + j = i' * sz + j') : i = i' ∧ j = j' := by
  have e1 : (i * sz + j) / sz = i := by
    rw [Nat.mul_comm, Nat.mul_add_div (by omega), Nat.div_eq_of_lt hj, Nat.add_zero]
  have e2 : (i' * sz + j') / sz = i' := by
    rw [Nat.mul_comm, Nat.mul_add_div (by omega), Nat.div_eq_of_lt hj', Nat.add_zero]
  have e : i = i' := by rw [← e1, ← e2, h]
  subst e
  exact ⟨rfl, by omega⟩

/-- a row of one's own, looked at: where its element i lies -/
theorem Sep.own_at {α : Type} {ek : EK α} {w0 w : World} {l : List Res} {q i m c g o : Nat} {v : Value} {xs : List α} {x : α} (h : Sep w0 l w) (hq : l[q]? = some (Own ek v xs)) (hv : v = .slice (some ⟨g, o, none⟩) m c) (hx : xs[i]? = some x) {j : Nat} (hj : j < ek.sz) :
    (∃ u, w.cell? ⟨g, o + i * ek.sz + j, none⟩ = some u) ∧ w.frozen? ⟨g, o + i * ek.sz + j, none⟩ = false := by
  obtain ⟨A, n, c', h1, h2, h3, h4⟩ := h.sat.get hq
  rcases h4 with ⟨rfl, rfl⟩ | ⟨g', o', cur, T, vs, e, hS, hg, hr, f, f1, f2, f3⟩
  · simp at hx
  · subst e
    rw [hv] at h1
    simp only [Value.slice.injEq, Option.some.injEq, Addr.mk.injEq] at h1
    obtain ⟨⟨rfl, rfl, _⟩, rfl, rfl⟩ := h1
    refine ⟨?_, frozen_of hg⟩
    rw [cell_of hg]
    have hl : j < (ek.cells x (vs i)).length := by rw [ek.len]; exact hj
    exact ⟨_, hr.at_ i x hx j _ (List.getElem?_eq_getElem hl)⟩

theorem Sep.own_set {α : Type} {ek : EK α} {w0 w : World} {l : List Res} {q i m c g o : Nat} {v : Value} {xs : List α} {x x' : α} (h : Sep w0 l w) (hq : l[q]? = some (Own ek v xs)) (hv : v = .slice (some ⟨g, o, none⟩) m c) (hx : xs[i]? = some x)
    {j : Nat} {u : Value} (hj : j < ek.sz) (he : ∀ vs, ek.cells x' vs = (ek.cells x vs).set j u) (hin : ∀ vs, ek.inner x' vs = ek.inner x vs) :
    Sep w0 (l.set q (Own ek v (xs.set i x'))) (w.setCell ⟨g, o + i * ek.sz + j, none⟩ u) := by
  have hlt := (List.getElem?_eq_some_iff.1 hx).1
  refine h.upd hq rfl rfl rfl (by simp) (fun F hF hs => ?_)
  obtain ⟨A, n, c', h1, h2, h3, h4⟩ := hF
  rcases h4 with ⟨rfl, rfl⟩ | ⟨g', o', cur, T, vs, e, hS, hg, hr, f, f1, f2, f3⟩
  · simp at hx
  · subst e
    rw [hv] at h1
    simp only [Value.slice.injEq, Option.some.injEq, Addr.mk.injEq] at h1
    obtain ⟨⟨rfl, rfl, _⟩, rfl, rfl⟩ := h1
    refine ⟨⟨some ⟨g, o, none⟩, m, c, hv, by simp [h2], h3, .inr ⟨g, o, cur.setIfInBounds (o + i * ek.sz + j) u, T, vs, rfl, .inl hS, heap_setCell_at hg u, ⟨by simpa using hr.room, by simpa using hr.fits, ?_⟩, f, ?_, fun i k hf => ⟨.inl (f2 i k hf).1, (f2 i k hf).2⟩, f3⟩⟩, fun k hk hn => Below.heap_setCell _ _ _ _ (fun e => hn (e ▸ hS))⟩
    · intro i' x1 hx1 j' u1 hu1
      have hj' : j' < ek.sz := by
        have := (List.getElem?_eq_some_iff.1 hu1).1
        rwa [ek.len] at this
      by_cases ei : i' = i
      · subst ei
        rw [List.getElem?_set_self hlt] at hx1
        obtain rfl := Option.some.inj hx1
        rw [he] at hu1
        by_cases ej : j' = j
        · subst ej
          have hl : j' < (ek.cells x (vs i')).length := by rw [ek.len]; exact hj'
          rw [List.getElem?_set_self hl] at hu1
          obtain rfl := Option.some.inj hu1
          have := hr.at_ i' x hx j' _ (List.getElem?_eq_getElem hl)
          have hb := (Array.getElem?_eq_some_iff.1 this).1
          simp [hb]
        · rw [List.getElem?_set_ne (fun h => ej h.symm)] at hu1
          rw [Array.getElem?_setIfInBounds_ne (by omega)]
          exact hr.at_ i' x hx j' u1 hu1
      · rw [List.getElem?_set_ne (fun h => ei h.symm)] at hx1
        rw [Array.getElem?_setIfInBounds_ne (fun h => ei (place_uniq hj hj' (by omega)).1.symm)]
        exact hr.at_ i' x1 hx1 j' u1 hu1
    · intro i' x1 hx1
      refine Sat.loc ?_ (fun k hk => Below.heap_setCell _ _ _ _ (fun e => (f2 i' k hk).2 e))
      by_cases ei : i' = i
      · subst ei
        rw [List.getElem?_set_self hlt] at hx1
        obtain rfl := Option.some.inj hx1
        rw [hin]
        exact f1 i' x hx
      · rw [List.getElem?_set_ne (fun h => ei h.symm)] at hx1
        exact f1 i' x1 hx1

section
variable {P : Program} {ops : Array Oper} {Q : Exit → Act → World → Prop} {a : Act} {w w0 : World} {rest : List Oper} {n d : Nat} {L : List (Nat × Value)} {l : List Res} {v u : Value}
variable {ty : TypeId} {ps : String} {af : Array Edge}
/-- a store of one cell into an element of a row of one's own -/
theorem wl_ostore {α : Type} {ek : EK α} {T : TypeId} {X Y : Operand} {q i j m c g o p : Nat} {xs : List α} {x : α} (x' : α) (hF : Fr n L a) (hS : Sep w0 l w) (hq : l[q]? = some (Own ek v xs)) (hv : v = .slice (some ⟨g, o, none⟩) m c) (hx : xs[i]? = some x)
    (hj : j < ek.sz) (he : ∀ vs, ek.cells x' vs = (ek.cells x vs).set j u) (hin : ∀ vs, ek.inner x' vs = ek.inner x vs) (hsz : szB P T = some 1) (hp : a.eval X = .pointer (some ⟨g, p, none⟩)) (hpe : p = o + i * ek.sz + j) (hy : a.eval Y = u)
    (h1 : u.oneCell' = true) (k : ∀ w', Sep w0 (l.set q (Own ek v (xs.set i x'))) w' → wpList P ops Q rest a w') : wpList P ops Q (⟨none, .store T X Y, ty, ps, af, none⟩ :: rest) a w := by
  subst hpe
  refine wl0 (w' := w.setCell ⟨g, o + i * ek.sz + j, none⟩ u) hF rfl rfl ?_ (k _ (hS.own_set hq hv hx hj he hin))
  obtain ⟨⟨u0, hc⟩, hf⟩ := hS.own_at hq hv hx hj
  exact r_store1 hsz hp hy h1 hc hf
/-- a whole struct is stored into a box -/
theorem Sep.box_row {i g o : Nat} {cs vs : List Value} (h : Sep w0 l w) (hi : l[i]? = some (Box g cs)) (hl : o + vs.length ≤ cs.length) (h1 : ∀ u ∈ vs, u.oneCell' = true) :
    ∃ w', (storeCells ⟨g, o, none⟩ vs).run P w = .ok () w' ∧ Sep w0 (l.set i (Box g (cs.take o ++ vs ++ cs.drop (o + vs.length)))) w' := by
  obtain ⟨_, T, hT⟩ := h.sat.get hi
  have hst := run_storeCells_at P g o T vs 0 cs.toArray w hT (by simpa using hl) h1
  simp only [Nat.add_zero] at hst
  refine ⟨_, hst, h.upd hi rfl rfl rfl (by simp [World.setRow]) (fun F hF hs => ?_)⟩
  obtain ⟨hg, T, hT⟩ := hF
  refine ⟨⟨.inl hg, T, by simp [World.setRow, Array.getElem?_modify, hT]⟩, fun k hk hn => ?_⟩
  simp only [World.setRow, Array.getElem?_modify]
  rw [if_neg (fun e => hn (by rw [← e]; exact hg))]
theorem r_storen {ρ : Operand → Value} {D : Option Tmp} {gd : Option (Nat × Bool)} {T : TypeId} {x y : Operand} {g q : Nat} {vs : List Value} {w' : World} (hsz : szB P T = some vs.length) (hp : ρ x = .pointer (some ⟨g, q, none⟩)) (hy : ρ y = .agg vs.toArray) (hr : (storeCells ⟨g, q, none⟩ vs).run P w = .ok () w') :
    (execOp ρ ⟨D, .store T x y, ty, ps, af, gd⟩).run P w = .ok .skip w' := by
  have hs := run_sizeOf (P := P) (w := w) hsz
  have hst : (storeVar T ⟨g, q, none⟩ (.agg vs.toArray)).run P w = .ok () w' := by
    simp [storeVar, Value.cells, hs, hr]
  simp [execOp, hp, hy, Instr.storeAt, Instr.sureAddr, hst]
theorem wl_storen {T : TypeId} {x y : Operand} {i g q : Nat} {cs vs cs' : List Value} (hF : Fr n L a) (hS : Sep w0 l w) (hi : l[i]? = some (Box g cs)) (hp : a.eval x = .pointer (some ⟨g, q, none⟩)) (hy : a.eval y = .agg vs.toArray) (hsz : szB P T = some vs.length)
    (hl : longB (cs.drop q) vs = true ∧ ((cs.drop q)[0]?).isSome = true) (h1 : vs.all (fun u => u.oneCell') = true) (he : cs.take q ++ vs ++ cs.drop (q + vs.length) = cs') (k : ∀ w', Sep w0 (l.set i (Box g cs')) w' → wpList P ops Q rest a w') : wpList P ops Q (⟨none, .store T x y, ty, ps, af, none⟩ :: rest) a w := by
  subst he
  obtain ⟨w', hr, hS'⟩ := hS.box_row (P := P) hi (long_fits hl.1 hl.2) (fun u hu => List.all_eq_true.1 h1 u hu)
  exact wl0 (w' := w') hF rfl rfl (r_storen hsz hp hy hr) (k _ hS')
end
end Go.Proofs.YtifhfodphoeeoaaGreat.Sl
