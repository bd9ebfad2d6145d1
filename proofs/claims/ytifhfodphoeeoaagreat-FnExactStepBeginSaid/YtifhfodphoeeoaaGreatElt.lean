/- Elements of a row of one's own, cell by cell, while the row holds them; functions that return nothing. No program in sight. -/
import Derived.Test.YtifhfodphoeeoaaGreatBits
namespace Go.Proofs.YtifhfodphoeeoaaGreat.Sl
open Go Go.RowKit
set_option linter.unusedVariables false
set_option linter.unusedSimpArgs false

section
variable {P : Program} {ops : Array Oper} {Q : Exit → Act → World → Prop} {a : Act} {w w0 : World} {rest : List Oper} {n d : Nat} {L : List (Nat × Value)} {l : List Res} {v u : Value}
variable {ty : TypeId} {ps : String} {af : Array Edge}
variable {α : Type} {ek : EK α} {q i m c g o j : Nat} {xs : List α} {x x' : α}
theorem Sep.elt_lend (h : Sep w0 l w) (hi : i < xs.length) (hq : l[q]? = some (Own ek v (xs.set i x))) : ∃ vs, Sep w0 (Part ek x vs :: l.set q (OwnBut ek v (xs.set i x) i (ek.cells x vs))) w ∧ (Part ek x vs :: l.set q (OwnBut ek v (xs.set i x) i (ek.cells x vs)))[q + 1]? = some (OwnBut ek v (xs.set i x) i (ek.cells x vs)) := by
  obtain ⟨vs, hb⟩ := h.borrow hq (List.getElem?_set_self hi)
  have hlt := (List.getElem?_eq_some_iff.1 hq).1
  exact ⟨vs, hb, by rw [List.getElem?_cons_succ, List.getElem?_set_self hlt]⟩
theorem Sep.elt1 (h : Sep w0 l w) (hi : i < xs.length) (hq : l[q]? = some (Own ek (.slice (some ⟨g, o, none⟩) m c) (xs.set i x))) (hu : ∀ vs, (ek.cells x vs)[j]? = some u) : w.cell? ⟨g, o + i * ek.sz + j, none⟩ = some u := by
  obtain ⟨vs, hb, hq'⟩ := h.elt_lend hi hq
  exact hb.but1 hq' (hu vs)
theorem Sep.eltn {k : Nat} {us : List Value} (h : Sep w0 l w) (hi : i < xs.length) (hq : l[q]? = some (Own ek (.slice (some ⟨g, o, none⟩) m c) (xs.set i x))) (hu : ∀ vs, ((ek.cells x vs).drop j).take k = us) : ∀ p u, us[p]? = some u → w.cell? ⟨g, o + i * ek.sz + j + p, none⟩ = some u := by
  obtain ⟨vs, hb, hq'⟩ := h.elt_lend hi hq
  exact hb.butn hq' (hu vs)
theorem Sep.eltK (h : Sep w0 l w) (hi : i < xs.length) (hq : l[q]? = some (Own ek (.slice (some ⟨g, o, none⟩) m c) (xs.set i x))) : ∃ cs, ek.K w x cs ∧ cs.length = ek.sz ∧ ∀ j u, cs[j]? = some u → w.cell? ⟨g, o + i * ek.sz + j, none⟩ = some u := by
  obtain ⟨g', o', m', c', cs, e, _, _, hk, hz, hc⟩ := Rd.idx (h.own_rd hq) (List.getElem?_set_self hi)
  simp only [Value.slice.injEq, Option.some.injEq, Addr.mk.injEq] at e
  obtain ⟨⟨rfl, rfl, _⟩, rfl, rfl⟩ := e
  exact ⟨cs, hk, hz, hc⟩
theorem set_set_succ {r r' r'' : Res} : ((r :: l.set q r').set (q + 1) r'') = r :: l.set q r'' := by simp
/-- one cell of an element is written -/
theorem wl_estore {T : TypeId} {X Y : Operand} {p : Nat} (x' : α) (hF : Fr n L a) (hS : Sep w0 l w) (hi : i < xs.length) (hq : l[q]? = some (Own ek (.slice (some ⟨g, o, none⟩) m c) (xs.set i x)))
    (hsz : szB P T = some 1) (hp : a.eval X = .pointer (some ⟨g, p, none⟩)) (hpe : p = o + i * ek.sz + j) (hy : a.eval Y = u) (h1 : u.oneCell' = true) (hj : ∀ vs, ((ek.cells x vs)[j]?).isSome = true)
    (hc : ∀ vs, (ek.cells x vs).set j u = ek.cells x' vs) (hn : ∀ vs, ek.inner x' vs = ek.inner x vs)
    (k : ∀ w', Sep w0 (l.set q (Own ek (.slice (some ⟨g, o, none⟩) m c) (xs.set i x'))) w' → wpList P ops Q rest a w') : wpList P ops Q (⟨none, .store T X Y, ty, ps, af, none⟩ :: rest) a w := by
  obtain ⟨vs, hb, hq'⟩ := hS.elt_lend hi hq
  have hlt := (List.getElem?_eq_some_iff.1 hq).1
  refine wl_bstore hF hb hq' hsz hp hpe hy h1 (hj vs) fun w' h' => k w' ?_
  rw [set_set_succ, hc vs] at h'
  have h2 : Sep w0 (Part ek x' vs :: l.set q (OwnBut ek (.slice (some ⟨g, o, none⟩) m c) (xs.set i x) i (ek.cells x' vs))) w' := by
    unfold Part at h' ⊢; rw [hn vs]; exact h'
  have h3 := h2.giveback (q := q) (List.getElem?_set_self hlt) rfl
  rwa [List.set_set, List.set_set] at h3
/-- some cells of an element are written -/
theorem wl_estoren {T : TypeId} {X Y : Operand} {p : Nat} {us : List Value} (x' : α) (hF : Fr n L a) (hS : Sep w0 l w) (hi : i < xs.length) (hq : l[q]? = some (Own ek (.slice (some ⟨g, o, none⟩) m c) (xs.set i x)))
    (hsz : szB P T = some us.length) (hp : a.eval X = .pointer (some ⟨g, p, none⟩)) (hpe : p = o + i * ek.sz + j) (hy : a.eval Y = .agg us.toArray) (h1 : us.all (fun u => u.oneCell') = true) (hj : ∀ vs, longB ((ek.cells x vs).drop j) us = true ∧ (((ek.cells x vs).drop j)[0]?).isSome = true)
    (hc : ∀ vs, (ek.cells x vs).take j ++ us ++ (ek.cells x vs).drop (j + us.length) = ek.cells x' vs) (hn : ∀ vs, ek.inner x' vs = ek.inner x vs)
    (k : ∀ w', Sep w0 (l.set q (Own ek (.slice (some ⟨g, o, none⟩) m c) (xs.set i x'))) w' → wpList P ops Q rest a w') : wpList P ops Q (⟨none, .store T X Y, ty, ps, af, none⟩ :: rest) a w := by
  obtain ⟨vs, hb, hq'⟩ := hS.elt_lend hi hq
  have hlt := (List.getElem?_eq_some_iff.1 hq).1
  refine wl_bstoren hF hb hq' hsz hp hpe hy h1 (hj vs) (hc vs) fun w' h' => k w' ?_
  rw [set_set_succ] at h'
  have h2 : Sep w0 (Part ek x' vs :: l.set q (OwnBut ek (.slice (some ⟨g, o, none⟩) m c) (xs.set i x) i (ek.cells x' vs))) w' := by
    unfold Part at h' ⊢; rw [hn vs]; exact h'
  have h3 := h2.giveback (q := q) (List.getElem?_set_self hlt) rfl
  rwa [List.set_set, List.set_set] at h3
/-- one of many parts is put in another's place -/
theorem Sep.put_in {A B : List Res} {r : Res} {k : Nat} (h : Sep w0 (A ++ r :: B) w) (hk : k < A.length) : Sep w0 (A.set k r ++ B) w := by
  refine h.sub (fun i => if i = k then A.length else if i < A.length then i else i + 1) (fun i j _ _ e => ?_) (fun i s hs => ?_)
  · revert e
    repeat' split
    all_goals intro e; omega
  · by_cases e : i = k
    · subst e
      rw [List.getElem?_append_left (by simpa using hk), List.getElem?_set_self hk] at hs
      simp only [if_true]
      rw [List.getElem?_append_right (Nat.le_refl _), Nat.sub_self]; exact hs
    · simp only [if_neg e]
      by_cases e2 : i < A.length
      · rw [List.getElem?_append_left (by simpa using e2), List.getElem?_set_ne (fun x => e x.symm)] at hs
        rw [if_pos e2, List.getElem?_append_left e2]; exact hs
      · rw [List.getElem?_append_right (by simpa using Nat.le_of_not_lt e2), List.length_set] at hs
        rw [if_neg e2, List.getElem?_append_right (by omega), show i + 1 - A.length = (i - A.length) + 1 by omega, List.getElem?_cons_succ]; exact hs
/-- a slice goes into a field of an element: its memory goes with it -/
theorem wl_eslice {β : Type} {ek' : EK β} {T : TypeId} {X Y : Operand} {p k' : Nat} {s : Slv} {ys : List β} (x' : α) (vs' : List Slv → List Slv) (hF : Fr n L a) (hS : Sep w0 (Own ek' (sv s) ys :: l) w) (hi : i < xs.length) (hq : l[q]? = some (Own ek (.slice (some ⟨g, o, none⟩) m c) (xs.set i x)))
    (hsz : szB P T = some 1) (hp : a.eval X = .pointer (some ⟨g, p, none⟩)) (hpe : p = o + i * ek.sz + j) (hy : a.eval Y = sv s) (hj : ∀ vs, ((ek.cells x vs)[j]?).isSome = true)
    (hc : ∀ vs, (ek.cells x vs).set j (sv s) = ek.cells x' (vs' vs)) (hn : ∀ vs, ek.inner x' (vs' vs) = (ek.inner x vs).set k' (Own ek' (sv s) ys)) (hk : ∀ vs, Nat.blt k' (ek.inner x vs).length = true)
    (k : ∀ w', Sep w0 (l.set q (Own ek (.slice (some ⟨g, o, none⟩) m c) (xs.set i x'))) w' → wpList P ops Q rest a w') : wpList P ops Q (⟨none, .store T X Y, ty, ps, af, none⟩ :: rest) a w := by
  have hlt := (List.getElem?_eq_some_iff.1 hq).1
  obtain ⟨vs, hb, hq'⟩ := hS.elt_lend (q := q + 1) hi (by rw [List.getElem?_cons_succ]; exact hq)
  refine wl_bstore hF hb hq' hsz hp hpe hy rfl (hj vs) fun w' h' => k w' ?_
  rw [set_set_succ, hc vs, List.set_cons_succ] at h'
  have h1 := (Sep.many_flat (L := ek.inner x vs) h').put_in (k := k') (by simpa using hk vs)
  rw [← hn vs] at h1
  have h2 : Sep w0 (Part ek x' (vs' vs) :: l.set q (OwnBut ek (.slice (some ⟨g, o, none⟩) m c) (xs.set i x) i (ek.cells x' (vs' vs)))) w' := h1.part_mk rfl
  have h3 := h2.giveback (q := q) (List.getElem?_set_self hlt) rfl
  rwa [List.set_set, List.set_set] at h3
theorem ret0 {fn : Func} {R : Value → World → Prop} (hres : fn.results = #[]) (hF : Fr n L a) (hR : R (.tuple #[]) w) : bodyPost P fn (Ret R) .ret a w := by
  refine ⟨hF.defs, .tuple #[], ?_, _, rfl, hR⟩
  simp [results, hres]
theorem ret0n {fn : Func} {R : Value → World → Prop} (hres : fn.results = #[]) (hF : Fr n L a) (hR : R (.tuple #[]) w) : bodyPost P fn (Ret R) .normal a w := by
  refine ⟨hF.defs, .tuple #[], ?_, _, rfl, hR⟩
  simp [results, hres]
end
theorem Sep.own_nilA {α : Type} {w0 w : World} {l : List Res} (h : Sep w0 l w) (ek : EK α) (A : Option Addr) : Sep w0 (Own ek (.slice A 0 0) [] :: l) w := h.new (Below.refl _ _) ⟨A, 0, 0, rfl, rfl, Nat.zero_le _, .inl ⟨rfl, rfl⟩⟩
theorem Sep.elt_form {α : Type} {ek : EK α} {w0 w : World} {l : List Res} {q i : Nat} {s : Slv} {xs : List α} {x : α} (h : Sep w0 l w) (hq : l[q]? = some (Own ek (sv s) xs)) (hx : xs[i]? = some x) : ∃ g o m c, s = (some ⟨g, o, none⟩, m, c) := by
  obtain ⟨g, o, m, c, cs, e, _⟩ := Rd.idx (h.own_rd hq) hx
  obtain ⟨A, m', c'⟩ := s
  simp only [sv, Value.slice.injEq] at e
  obtain ⟨rfl, rfl, rfl⟩ := e
  exact ⟨g, o, m', c', rfl⟩
theorem Sep.set_form {α : Type} {ek : EK α} {w0 w : World} {l : List Res} {q i : Nat} {v : Value} {xs : List α} {x : α} (h : Sep w0 l w) (hq : l[q]? = some (Own ek v xs)) (hx : xs[i]? = some x) : Sep w0 (l.set q (Own ek v (xs.set i x))) w := by
  obtain ⟨hlt, e⟩ := List.getElem?_eq_some_iff.1 hx
  obtain ⟨hlq, eq⟩ := List.getElem?_eq_some_iff.1 hq
  rw [show xs.set i x = xs from by subst e; exact List.set_getElem_self hlt, ← eq, List.set_getElem_self hlq]; exact h
section
variable {P : Program} {ops : Array Oper} {Q : Exit → Act → World → Prop} {wd W : World} {T : Alcs} {muts : List Nat} {n : Nat} {L : List (Nat × Value)} {l : List Res}
/-- one cell of an element is written inside a region that draws its order, and the rest goes on from there -/
theorem op_est {α : Type} {ek : EK α} {xs : List α} {x : α} (x' : α) {i j e c0 g o m c p T' : Nat} {is m' : List Nat} {oo : Oper} {X Y : Operand} {ty : TypeId} {ps : String} {af : Array Edge} {u : Value} (ho : ops[i]? = some oo) (hoe : oo = ⟨none, .store T' X Y, ty, ps, af, none⟩) (hm : muts.contains i = true) (hi : e < xs.length) (hq : l[j]? = some (Own ek (.slice (some ⟨g, o, none⟩) m c) (xs.set e x)))
    (hp : ∀ a, Fr n L a → a.eval X = .pointer (some ⟨g, p, none⟩)) (hpe : p = o + e * ek.sz + c0) (hy : ∀ a, Fr n L a → a.eval Y = u) (hsz : szB P T' = some 1) (h1 : u.oneCell' = true) (hj : ∀ vs, ((ek.cells x vs)[c0]?).isSome = true)
    (hc : ∀ vs, (ek.cells x vs).set c0 u = ek.cells x' vs) (hn : ∀ vs, ek.inner x' vs = ek.inner x vs)
    (k : ∀ wd', Sep W (l.set j (Own ek (.slice (some ⟨g, o, none⟩) m c) (xs.set e x'))) wd' → ∀ rem a w, Rem T rem → Fr n L a → At T wd' W (l.set j (Own ek (.slice (some ⟨g, o, none⟩) m c) (xs.set e x'))) rem a w → Todo P ops Q wd' m' rem is a w) :
    ∀ rem a w, Rem T rem → Fr n L a → At T wd W l rem a w → wpOp P ops (QN Q) i (fun a' w' => (Below wd.heap.size wd w' ∧ Todo P ops Q wd muts rem is a' w') ∨ (muts.contains i = true ∧ ∃ m', Todo P ops Q w' m' rem is a' w')) a w := by
  intro rem a w hR hF hA
  subst hoe
  subst hpe
  refine wpOp_of ho rfl ?_
  obtain ⟨gs, hb, hbx⟩ := hA.box
  have hlt := (List.getElem?_eq_some_iff.1 hq).1
  obtain ⟨vs, hl, hq'⟩ := hb.elt_lend (q := j + 1) hi (by rw [List.getElem?_cons_succ]; exact hq)
  have hj' : c0 < (ek.cells x vs).length := lt_of_some (hj vs)
  obtain ⟨w', hr, h3⟩ := hl.but_row (P := P) (p := c0) (us := [u]) hq' rfl (by simp; omega) (by simpa using h1)
  have e1 : (ek.cells x vs).take c0 ++ [u] ++ (ek.cells x vs).drop (c0 + [u].length) = (ek.cells x vs).set c0 u := by
    rw [List.set_eq_take_append_cons_drop, if_pos hj']; simp
  rw [e1, hc vs, List.set_cons_succ] at h3
  have hv : u.cells.toList = [u] := by cases u <;> simp_all [Value.cells, Value.oneCell']
  rw [List.set_cons_succ, List.set_cons_succ, List.set_set] at h3
  have h2 : Sep W (Part ek x' vs :: Many (gs.map fun x => Box x.2.1 x.2.2) :: l.set j (OwnBut ek (.slice (some ⟨g, o, none⟩) m c) (xs.set e x) e (ek.cells x' vs))) w' := by
    unfold Part at h3 ⊢; rw [hn vs]; exact h3
  have h4 := h2.giveback (q := j + 1) (by rw [List.getElem?_cons_succ, List.getElem?_set_self hlt]) rfl
  rw [List.set_cons_succ, List.set_set, List.set_set] at h4
  have hrun := r_storeg (ρ := a.eval) (D := none) (gd := none) (ty := ty) (ps := ps) (af := af) (by simpa using hsz) (hp a hF) (hy a hF) hv hr
  unfold Oper.wp
  rw [hrun, Oper.upon_skip]
  refine .inr ⟨hm, m', k w' h4.tail rem _ w' hR (by simpa [Act.put] using hF) ⟨Below.refl _ _, gs, h4, fun t ht hr => ?_⟩⟩
  obtain ⟨g, h1, h2⟩ := hbx t ht hr
  exact ⟨g, h1, by simpa [Act.put] using h2⟩
end
theorem calls_unit {P : Program} {f : FuncId} {args : Array Value} {w : World} {V : Value} {R : World → Prop} (h : Calls P f args w (Ret fun u w' => u = V ∧ R w')) : Calls P f args w (Ret fun u w' => ∃ _ : Unit, u = V ∧ R w') :=
  h.mono (by rintro e w' ⟨v, rfl, rfl, hr⟩; exact ⟨_, rfl, (), rfl, hr⟩)
end Go.Proofs.YtifhfodphoeeoaaGreat.Sl
