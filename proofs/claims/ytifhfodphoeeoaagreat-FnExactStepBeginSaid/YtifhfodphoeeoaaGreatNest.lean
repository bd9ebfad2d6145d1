/- Rows of elements with slices inside: one element is borrowed, changed, given back; a row of one's own that grows by one such element. No program in sight. -/
import Derived.Test.YtifhfodphoeeoaaGreatMore
namespace Go.Proofs.YtifhfodphoeeoaaGreat.Sl
open Go Go.RowKit
set_option linter.unusedVariables false
set_option linter.unusedSimpArgs false

/-- a row but for its element i, whose cells are cs -/
def OwnBut {α : Type} (ek : EK α) (v : Value) (xs : List α) (i : Nat) (cs : List Value) : Res where
  P := fun S w => ∃ (m c g o : Nat) (cur : Array Value) (T : TypeId) (vs : Nat → List Slv), v = .slice (some ⟨g, o, none⟩) m c ∧ m = xs.length ∧ c ≤ maxLen ∧ i < xs.length ∧ cs.length = ek.sz ∧ S g ∧ w.heap[g]? = some (.cells cur T (0, 0)) ∧ o + c * ek.sz ≤ cur.size ∧ xs.length ≤ c ∧
    (∀ i' x, i' ≠ i → xs[i']? = some x → ∀ j u, (ek.cells x (vs i'))[j]? = some u → cur[o + i' * ek.sz + j]? = some u) ∧ (∀ j u, cs[j]? = some u → cur[o + i * ek.sz + j]? = some u) ∧
    ∃ f : Nat → Nat → Prop, (∀ i' x, i' ≠ i → xs[i']? = some x → Sat (ek.inner x (vs i')) (f i') w) ∧ (∀ i k, f i k → S k ∧ k ≠ g) ∧ (∀ i j k, f i k → f j k → i = j)
  loc := by
    rintro S w w' hk ⟨m, c, g, o, cur, T, vs, h1, h2, h3, h4, h5, hS, hg, h6, h7, h8, h9, f, f1, f2, f3⟩
    exact ⟨m, c, g, o, cur, T, vs, h1, h2, h3, h4, h5, hS, (hk g hS).trans hg, h6, h7, h8, h9, f, fun i' x hi hx => (f1 i' x hi hx).loc (fun k hf => hk k (f2 i' k hf).1), f2, f3⟩
  mono := by
    rintro S S' w hs ⟨m, c, g, o, cur, T, vs, h1, h2, h3, h4, h5, hS, hg, h6, h7, h8, h9, f, f1, f2, f3⟩
    exact ⟨m, c, g, o, cur, T, vs, h1, h2, h3, h4, h5, hs g hS, hg, h6, h7, h8, h9, f, f1, fun i' k hf => ⟨hs k (f2 i' k hf).1, (f2 i' k hf).2⟩, f3⟩

section
variable {α : Type} {ek : EK α} {w0 w : World} {l : List Res} {q i m c g o : Nat} {v : Value} {xs : List α} {x : α} {cs : List Value}

/-- an element of a row of one's own is borrowed -/
theorem Sep.borrow (h : Sep w0 l w) (hq : l[q]? = some (Own ek v xs)) (hx : xs[i]? = some x) : ∃ vs, Sep w0 (Part ek x vs :: l.set q (OwnBut ek v xs i (ek.cells x vs))) w := by
  obtain ⟨A, n, c', h1, h2, h3, h4⟩ := h.sat.get hq
  have hlt := (List.getElem?_eq_some_iff.1 hx).1
  rcases h4 with ⟨rfl, rfl⟩ | ⟨g', o', cur0, T0, vs0, e0, _⟩
  · simp at hx
  obtain ⟨f, g1, g2, g3⟩ := h.sat
  obtain ⟨A, n, c', h1, h2, h3, h4⟩ := g1 q _ hq
  rcases h4 with ⟨rfl, rfl⟩ | ⟨g', o', cur, T, vs, e, hS, hg, hr, f', f1, f2, f3⟩
  · simp at hx
  subst e
  have hs : Sat (Part ek x (vs i) :: l.set q (OwnBut ek v xs i (ek.cells x (vs i)))) (fun k => w0.heap.size ≤ k ∧ k < w.heap.size) w := by
    -- the same list, by the footprints in hand
    have hlq := (List.getElem?_eq_some_iff.1 hq).1
    refine ⟨fun j => match j with | 0 => f' i | j + 1 => fun k => if j = q then f q k ∧ ¬ f' i k else f j k, fun j r' hj => ?_, fun j k hf => ?_, fun j j' k hf hf' => ?_⟩
    · cases j with
      | zero => simp at hj; subst hj; exact f1 i x hx
      | succ j =>
        simp only [List.getElem?_cons_succ] at hj
        by_cases e : j = q
        · subst e
          rw [List.getElem?_set_self hlq] at hj
          obtain rfl := Option.some.inj hj
          refine (OwnBut ek v xs i (ek.cells x (vs i))).mono (S := fun k => f j k ∧ ¬ f' i k) (fun k hk => by simp only [if_true]; exact hk) ?_
          exact ⟨n, c', g', o', cur, T, vs, h1, h2, h3, hlt, ek.len _ _, ⟨hS, fun hf => (f2 i g' hf).2 rfl⟩, hg, hr.room, hr.fits, fun i' x' _ hx' => hr.at_ i' x' hx', hr.at_ i x hx, fun i' k => i' ≠ i ∧ f' i' k,
            fun i' x' hi' hx' => (f1 i' x' hx').mono (fun k hk => ⟨hi', hk⟩), fun i' k hk => ⟨⟨(f2 i' k hk.2).1, fun hf => hk.1 (f3 i' i k hk.2 hf)⟩, (f2 i' k hk.2).2⟩, fun a b k ha hb => f3 a b k ha.2 hb.2⟩
        · rw [List.getElem?_set_ne (fun x => e x.symm)] at hj
          exact r'.mono (fun k hk => by simp only [if_neg e]; exact hk) (g1 j r' hj)
    · cases j with
      | zero => exact g2 q k (f2 i k hf).1
      | succ j =>
        simp only [] at hf
        split at hf
        · exact g2 q k hf.1
        · exact g2 j k hf
    · cases j with
      | zero =>
        cases j' with
        | zero => rfl
        | succ j' =>
          simp only [] at hf hf'
          split at hf'
          · exact (hf'.2 hf).elim
          · rename_i e; exact (e (g3 j' q k hf' (f2 i k hf).1)).elim
      | succ j =>
        cases j' with
        | zero =>
          simp only [] at hf hf'
          split at hf
          · exact (hf.2 hf').elim
          · rename_i e; exact (e (g3 j q k hf (f2 i k hf').1)).elim
        | succ j' =>
          simp only [] at hf hf'
          split at hf <;> split at hf'
          · omega
          · rename_i e e'; exact (e' (g3 j' q k hf' hf.1)).elim
          · rename_i e e'; exact (e (g3 j q k hf hf'.1)).elim
          · have := g3 j j' k hf hf'; omega
  exact ⟨vs i, h.old, hs⟩

/-- where the borrowed element's cells lie -/
theorem Sep.but_at (h : Sep w0 l w) (hq : l[q]? = some (OwnBut ek v xs i cs)) (hv : v = .slice (some ⟨g, o, none⟩) m c) : ∀ j u, cs[j]? = some u → w.cell? ⟨g, o + i * ek.sz + j, none⟩ = some u := by
  intro j u hu
  obtain ⟨m', c', g', o', cur, T, vs, h1, h2, h3, h4, h5, hS, hg, h6, h7, h8, h9, _⟩ := h.sat.get hq
  rw [hv] at h1
  simp only [Value.slice.injEq, Option.some.injEq, Addr.mk.injEq] at h1
  obtain ⟨⟨rfl, rfl, _⟩, rfl, rfl⟩ := h1
  rw [cell_of hg]
  exact h9 j u hu
theorem Sep.but_sl (h : Sep w0 l w) (hq : l[q]? = some (OwnBut ek v xs i cs)) : ∃ g o c, v = .slice (some ⟨g, o, none⟩) xs.length c ∧ i < xs.length := by
  obtain ⟨m', c', g', o', cur, T, vs, h1, h2, h3, h4, h5, hS, hg, h6, h7, h8, h9, _⟩ := h.sat.get hq
  subst h2
  exact ⟨g', o', c', h1, h4⟩
theorem Sep.but_frozen (h : Sep w0 l w) (hq : l[q]? = some (OwnBut ek v xs i cs)) (hv : v = .slice (some ⟨g, o, none⟩) m c) (p : Nat) : w.frozen? ⟨g, p, none⟩ = false := by
  obtain ⟨m', c', g', o', cur, T, vs, h1, h2, h3, h4, h5, hS, hg, h6, h7, h8, h9, _⟩ := h.sat.get hq
  rw [hv] at h1
  simp only [Value.slice.injEq, Option.some.injEq, Addr.mk.injEq] at h1
  obtain ⟨⟨rfl, rfl, _⟩, rfl, rfl⟩ := h1
  exact frozen_of hg

/-- cells of the borrowed element are written -/
theorem Sep.but_row {P : Program} {p : Nat} {us : List Value} (h : Sep w0 l w) (hq : l[q]? = some (OwnBut ek v xs i cs)) (hv : v = .slice (some ⟨g, o, none⟩) m c) (hp : p + us.length ≤ cs.length) (h1 : ∀ u ∈ us, u.oneCell' = true) :
    ∃ w', (storeCells ⟨g, o + i * ek.sz + p, none⟩ us).run P w = .ok () w' ∧ Sep w0 (l.set q (OwnBut ek v xs i (cs.take p ++ us ++ cs.drop (p + us.length)))) w' := by
  obtain ⟨m', c', g', o', cur, T, vs, e1, e2, e3, e4, e5, hS, hg, e6, e7, e8, e9, _⟩ := h.sat.get hq
  rw [hv] at e1
  simp only [Value.slice.injEq, Option.some.injEq, Addr.mk.injEq] at e1
  obtain ⟨⟨rfl, rfl, _⟩, rfl, rfl⟩ := e1
  have hsz : ∀ i' < xs.length, o + i' * ek.sz + ek.sz ≤ cur.size := fun i' hi' => by
    have : (i' + 1) * ek.sz ≤ c * ek.sz := Nat.mul_le_mul_right _ (by omega)
    rw [Nat.add_mul] at this
    omega
  have hroom := hsz i e4
  have hst := run_storeCells_at P g (o + i * ek.sz + p) T us 0 cur w hg (by omega) h1
  simp only [Nat.add_zero] at hst
  refine ⟨_, hst, h.upd hq rfl rfl rfl (by simp [World.setRow]) (fun F hF hs => ?_)⟩
  obtain ⟨m', c', g', o', cur', T', vs, e1, e2, e3, e4, e5, hS, hg', e6, e7, e8, e9, f, f1, f2, f3⟩ := hF
  rw [hv] at e1
  simp only [Value.slice.injEq, Option.some.injEq, Addr.mk.injEq] at e1
  obtain ⟨⟨rfl, rfl, _⟩, rfl, rfl⟩ := e1
  rw [hg] at hg'
  simp only [Option.some.injEq, Obj.cells.injEq] at hg'
  obtain ⟨rfl, rfl, _⟩ := hg'
  have hset : ∀ p' : Nat, (p' < o + i * ek.sz + p ∨ o + i * ek.sz + p + us.length ≤ p') → (cur.toList.take (o + i * ek.sz + p) ++ us ++ cur.toList.drop (o + i * ek.sz + p + us.length)).toArray[p']? = cur[p']? := fun p' hp' => by
    rw [List.getElem?_toArray]
    rcases hp' with hp' | hp'
    · rw [List.append_assoc, List.getElem?_append_left (by simp; omega), List.getElem?_take, if_pos hp']
      simp
    · rw [List.getElem?_append_right (by simp; omega), List.getElem?_drop]
      simp only [List.length_append, List.length_take, Array.length_toList]
      rw [show o + i * ek.sz + p + us.length + (p' - (min (o + i * ek.sz + p) cur.size + us.length)) = p' by omega]
      simp
  have hin : ∀ j, j < us.length → (cur.toList.take (o + i * ek.sz + p) ++ us ++ cur.toList.drop (o + i * ek.sz + p + us.length)).toArray[o + i * ek.sz + p + j]? = us[j]? := fun j hj => by
    rw [List.getElem?_toArray, List.append_assoc, List.getElem?_append_right (by simp; omega), List.getElem?_append_left (by simp; omega)]
    simp only [List.length_take, Array.length_toList]
    congr 1; omega
  refine ⟨⟨m, c, g, o, _, T, vs, hv, e2, e3, e4, ?_, .inl hS, heap_setRow_at hg, ?_, e7, fun i' x' hi' hx' j u hu => ?_, fun j u hu => ?_, f, fun i' x' hi' hx' => (f1 i' x' hi' hx').loc (fun k hk => ?_), fun i' k hk => ⟨.inl (f2 i' k hk).1, (f2 i' k hk).2⟩, f3⟩, fun k hk hn => ?_⟩
  · simp; omega
  · simp; omega
  · have hj : j < ek.sz := by
      have := (List.getElem?_eq_some_iff.1 hu).1
      rwa [ek.len] at this
    have hi2 := (List.getElem?_eq_some_iff.1 hx').1
    rw [hset _ ?_]
    · exact e8 i' x' hi' hx' j u hu
    · rcases Nat.lt_or_gt_of_ne hi' with h | h
      · left
        have : (i' + 1) * ek.sz ≤ i * ek.sz := Nat.mul_le_mul_right _ h
        rw [Nat.add_mul] at this
        omega
      · right
        have : (i + 1) * ek.sz ≤ i' * ek.sz := Nat.mul_le_mul_right _ h
        rw [Nat.add_mul] at this
        omega
  · rw [List.append_assoc] at hu
    by_cases h1 : j < p
    · rw [List.getElem?_append_left (by simp; omega), List.getElem?_take, if_pos h1] at hu
      rw [hset _ (.inl (by omega))]
      exact e9 j u hu
    · rw [List.getElem?_append_right (by simp; omega)] at hu
      simp only [List.length_take] at hu
      rw [Nat.min_eq_left (by omega)] at hu
      by_cases h2 : j - p < us.length
      · rw [List.getElem?_append_left h2] at hu
        have := hin (j - p) h2
        rw [show o + i * ek.sz + p + (j - p) = o + i * ek.sz + j by omega] at this
        rw [this]; exact hu
      · rw [List.getElem?_append_right (by omega), List.getElem?_drop] at hu
        rw [hset _ (.inr (by omega))]
        have := e9 (p + us.length + (j - p - us.length)) u hu
        rwa [show p + us.length + (j - p - us.length) = j by omega] at this
  · simp only [World.setRow, Array.getElem?_modify]
    rw [if_neg (fun e => (f2 i' k hk).2 e.symm)]
  · simp only [World.setRow, Array.getElem?_modify]
    rw [if_neg (fun e => hn (by rw [← e]; exact hS))]

/-- the element is given back -/
theorem Sep.giveback {vs' : List Slv} {x' : α} (h : Sep w0 (Part ek x' vs' :: l) w) (hq : l[q]? = some (OwnBut ek v xs i cs)) (hc : cs = ek.cells x' vs') : Sep w0 (l.set q (Own ek v (xs.set i x'))) w := by
  subst hc
  obtain ⟨S0, S1, a1, a2, a3, a4, a5⟩ := h.sat.uncons
  refine ⟨h.old, Sat.mono (Sat.upd (N := S0) a2 hq (fun k h0 h1 => a5 k h0 h1) (fun F hF hs => ⟨?_, fun k _ _ => rfl⟩)) (fun k hk => hk.elim (a4 k) (a3 k))⟩
  obtain ⟨m', c', g', o', cur, T, vs, e1, e2, e3, e4, e5, hS, hg, e6, e7, e8, e9, f, f1, f2, f3⟩ := hF
  subst e1
  refine ⟨_, m', c', rfl, by simp [e2], e3, .inr ⟨g', o', cur, T, fun j => if j = i then vs' else vs j, rfl, .inl hS, hg, ⟨e6, by simpa using e7, fun i' x1 hx1 j u hu => ?_⟩, fun j k => if j = i then S0 k else (f j k), fun i' x1 hx1 => ?_, fun i' k hk => ?_, fun a b k ha hb => ?_⟩⟩
  · by_cases e : i' = i
    · subst e
      rw [List.getElem?_set_self e4] at hx1
      obtain rfl := Option.some.inj hx1
      simp only [if_true] at hu
      exact e9 j u hu
    · rw [List.getElem?_set_ne (fun x => e x.symm)] at hx1
      simp only [if_neg e] at hu
      exact e8 i' x1 e hx1 j u hu
  · by_cases e : i' = i
    · subst e
      rw [List.getElem?_set_self e4] at hx1
      obtain rfl := Option.some.inj hx1
      simp only [if_true]
      exact a1
    · rw [List.getElem?_set_ne (fun x => e x.symm)] at hx1
      simp only [if_neg e]
      exact f1 i' x1 e hx1
  · simp only [] at hk
    split at hk
    · exact ⟨.inr hk, fun e => a5 k hk (hs k (e ▸ hS))⟩
    · exact ⟨.inl (f2 i' k hk).1, (f2 i' k hk).2⟩
  · simp only [] at ha hb
    split at ha <;> split at hb
    · omega
    · exact (a5 k ha (hs k (f2 b k hb).1)).elim
    · exact (a5 k hb (hs k (f2 a k ha).1)).elim
    · exact f3 a b k ha hb

/-- a slice of one's own is a slice -/
theorem Sep.own_sv (h : Sep w0 l w) (hq : l[q]? = some (Own ek v xs)) : ∃ s : Slv, v = sv s := by
  obtain ⟨A, n, c, h1, _⟩ := h.sat.get hq
  exact ⟨(A, n, c), h1⟩
theorem Sep.mkS {l' : List Res} (h : Sep w0 l' w) (e : l' = [Own ek v xs]) : Mk w0 (fun s : Slv => sv s) (fun s => [Own ek (sv s) xs]) v w := by
  subst e
  obtain ⟨s, rfl⟩ := h.own_sv (q := 0) rfl
  exact ⟨s, rfl, h⟩
theorem Sep.part_of {vs : List Slv} (h : Sep w0 l w) (σ : List Nat) (hn : σ.Nodup) (e : σ.map (fun i => l[i]?) = (ek.inner x vs).map some) : Sep w0 [Part ek x vs] w :=
  (h.pick (l' := ek.inner x vs) σ hn e).part_mk (l := []) (by simp)
/-- one part comes to the head -/
theorem Sep.pull {r : Res} {p : Nat} (h : Sep w0 l w) (hp : l[p]? = some r) : Sep w0 (r :: l.eraseIdx p) w := by
  have hlt := (List.getElem?_eq_some_iff.1 hp).1
  refine h.sub (fun i => match i with | 0 => p | i + 1 => if i < p then i else i + 1) ?_ ?_
  · intro i j _ _ e
    rcases i with _ | i <;> rcases j with _ | j <;> simp only [] at e
    · rfl
    · split at e <;> omega
    · split at e <;> omega
    · split at e <;> split at e <;> omega
  · intro i q hq
    rcases i with _ | i
    · simp at hq; subst hq; exact hp
    · simp only [List.getElem?_cons_succ, List.getElem?_eraseIdx] at hq
      simp only []
      split <;> simp_all
theorem Sep.own_part {s : Slv} (h : Sep w0 (Own ek (sv s) xs :: l) w) : Sep w0 (Part (sliceEK ek) xs [s] :: l) w := h.part_mk (ek := sliceEK ek) (x := xs) (vs := [s]) rfl
theorem Sep.part_own {vs : List Slv} (h : Sep w0 (Part (sliceEK ek) xs vs :: l) w) : Sep w0 (Own ek (sv (vs.getD 0 (none, 0, 0))) xs :: l) w := h.part_open
theorem nil_inner (ek : EK α) (w : World) : Sat ((sliceEK ek).inner [] []) (fun _ => False) w :=
  Sat.cons (S1 := fun _ => False) (Sat.nil (fun _ => False) w) (own_nil ek _ w) (fun k hk => hk) (fun k hk => hk) (fun k hk _ => hk)
end
section
variable {P : Program} {ops : Array Oper} {Q : Exit → Act → World → Prop} {a : Act} {w w0 : World} {rest : List Oper} {n d : Nat} {L : List (Nat × Value)} {l : List Res} {v u : Value}
variable {ty : TypeId} {ps : String} {af : Array Edge}
theorem r_storeg {ρ : Operand → Value} {D : Option Tmp} {gd : Option (Nat × Bool)} {T : TypeId} {x y : Operand} {g q : Nat} {vs : List Value} {w' : World} (hsz : szB P T = some vs.length) (hp : ρ x = .pointer (some ⟨g, q, none⟩)) (hy : ρ y = u) (hu : u.cells.toList = vs) (hr : (storeCells ⟨g, q, none⟩ vs).run P w = .ok () w') :
    (execOp ρ ⟨D, .store T x y, ty, ps, af, gd⟩).run P w = .ok .skip w' := by
  have hs := run_sizeOf (P := P) (w := w) hsz
  have hl : u.cells.size = vs.length := by rw [← hu]; simp
  have hst : (storeVar T ⟨g, q, none⟩ u).run P w = .ok () w' := by
    simp [storeVar, hl, hs, hu, hr]
  simp [execOp, hp, hy, Instr.storeAt, Instr.sureAddr, hst]
/-- an element is written whole into a row of one's own: its memory goes with it -/
theorem wl_oput {α : Type} {ek : EK α} {T : TypeId} {X Y : Operand} {q i m c g o p : Nat} {xs : List α} {x x' : α} {vs' : List Slv} (hF : Fr n L a) (hS : Sep w0 (Part ek x' vs' :: l) w) (hq : l[q]? = some (Own ek v xs)) (hv : v = .slice (some ⟨g, o, none⟩) m c) (hx : xs[i]? = some x)
    (hsz : szB P T = some ek.sz) (hp : a.eval X = .pointer (some ⟨g, p, none⟩)) (hpe : p = o + i * ek.sz) (hy : a.eval Y = u) (hu : u.cells.toList = ek.cells x' vs')
    (k : ∀ w', Sep w0 (l.set q (Own ek v (xs.set i x'))) w' → wpList P ops Q rest a w') : wpList P ops Q (⟨none, .store T X Y, ty, ps, af, none⟩ :: rest) a w := by
  subst hpe
  have hq' : (Part ek x' vs' :: l)[q + 1]? = some (Own ek v xs) := by simpa using hq
  have hql := (List.getElem?_eq_some_iff.1 hq).1
  obtain ⟨vs, h1⟩ := hS.borrow hq' hx
  have h2 := h1.tail
  simp only [List.set_cons_succ] at h2
  have hq2 : (Part ek x' vs' :: l.set q (OwnBut ek v xs i (ek.cells x vs)))[q + 1]? = some (OwnBut ek v xs i (ek.cells x vs)) := by simp [hql]
  obtain ⟨w', hr, h3⟩ := h2.but_row (P := P) (p := 0) (us := ek.cells x' vs') hq2 hv (by rw [ek.len, ek.len]; omega) (ek.one x' vs')
  have e : (ek.cells x vs).take 0 ++ ek.cells x' vs' ++ (ek.cells x vs).drop (0 + (ek.cells x' vs').length) = ek.cells x' vs' := by
    rw [ek.len, Nat.zero_add]
    rw [List.drop_eq_nil_of_le (by rw [ek.len]; omega)]
    simp
  rw [e] at h3
  simp only [List.set_cons_succ, List.set_set] at h3
  have h4 := h3.giveback (q := q) (v := v) (xs := xs) (i := i) (cs := ek.cells x' vs') (by simp [hql]) rfl
  rw [List.set_set] at h4
  exact wl0 (w' := w') hF rfl rfl (r_storeg (by rw [hsz, ek.len]) hp hy hu hr) (k _ h4)
/-- a call through a function value that holds nothing -/
theorem r_callw1 {D : Option Tmp} {gd : Option (Nat × Bool)} {f : FuncId} {ts : Array TypeId} {x x1 : Operand} {v1 : Value} (h : enterB P f = true) (hx : a.eval x = .func (.func f) #[] #[]) (h1 : a.eval x1 = v1) : (execOp a.eval ⟨D, .call ⟨.value x, #[x1], ts⟩, ty, ps, af, gd⟩).run P w = .ok (.enter f #[v1]) w := by
  have := r_callv1 (P := P) (w := w) (D := D) (gd := gd) (ty := ty) (ps := ps) (af := af) (ts := ts) h hx h1
  simpa using this
theorem r_callw2 {D : Option Tmp} {gd : Option (Nat × Bool)} {f : FuncId} {ts : Array TypeId} {x x1 x2 : Operand} {v1 v2 : Value} (h : enterB P f = true) (hx : a.eval x = .func (.func f) #[] #[]) (h1 : a.eval x1 = v1) (h2 : a.eval x2 = v2) : (execOp a.eval ⟨D, .call ⟨.value x, #[x1, x2], ts⟩, ty, ps, af, gd⟩).run P w = .ok (.enter f #[v1, v2]) w := by
  have := r_callv2 (P := P) (w := w) (D := D) (gd := gd) (ty := ty) (ps := ps) (af := af) (ts := ts) h hx h1 h2
  simpa using this
theorem r_makeFunc {ρ : Operand → Value} {D : Option Tmp} {gd : Option (Nat × Bool)} {f : Fn} {cap : Array Operand} {vs : Array Value} (h : cap.map ρ = vs) : (execOp ρ ⟨D, .makeFunc f #[] cap, ty, ps, af, gd⟩).run P w = .ok (.value (.func f #[] vs)) w := by
  subst h; simp [execOp, Instr.makeFunc]
end
end Go.Proofs.YtifhfodphoeeoaaGreat.Sl
