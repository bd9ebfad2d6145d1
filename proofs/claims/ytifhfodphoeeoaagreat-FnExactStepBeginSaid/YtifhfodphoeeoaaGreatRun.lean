/- Runs of plain operations at once: moves, and operations that are not wanted; a region ahead of other code; short names. No program in sight. -/
import Derived.Test.YtifhfodphoeeoaaGreatCuts
namespace Go.Proofs.YtifhfodphoeeoaaGreat.Sl
open Go Go.RowKit
set_option linter.unusedVariables false
set_option linter.unusedSimpArgs false

def oval (L : List (Nat × Value)) : Operand → Option Value
  | .tmp t => lk L t
  | .const v => some v
  | .func f => some (.func (.func f) #[] #[])
  | _ => none
/-- whether an operation is wanted, as far as the slots tell -/
def wantL (ops : Array Oper) (L : List (Nat × Value)) (o : Oper) : Option Bool :=
  match o.guard with
  | none => some true
  | some (j, b) => match (ops[j]?).bind (·.dst) with
    | none => none
    | some t => match lk L t with
      | some (.bool c) => some (c == b)
      | some _ => some false
      | none => none
def moved (L : List (Nat × Value)) : Go.Op → Option Value
  | .move x => oval L x
  | .assign x => oval L x
  | _ => none
def mvs (ops : Array Oper) (n : Nat) : List Oper → List (Nat × Value) → Option (List (Nat × Value))
  | [], L => some L
  | o :: A, L => match o.dst with
    | none => none
    | some d => match Nat.ble (d + 1) n with
      | false => none
      | true => match wantL ops L o with
        | none => none
        | some false => mvs ops n A ((d, undef) :: L)
        | some true => match moved L o.op with
          | none => none
          | some v => mvs ops n A ((d, v) :: L)
section
variable {P : Program} {ops : Array Oper} {Q : Exit → Act → World → Prop} {a : Act} {w w' : World} {rest : List Oper} {o : Oper} {n d : Nat} {L L' : List (Nat × Value)} {v : Value} {Qa : Act → Prop}
theorem oval_ev (hF : Fr n L a) {x : Operand} (h : oval L x = some v) : a.eval x = v := by
  cases x with
  | tmp t => exact hF.ev h
  | const u => simp only [oval, Option.some.injEq] at h; subst h; rfl
  | func f => simp only [oval, Option.some.injEq] at h; subst h; rfl
  | _ => simp [oval] at h
theorem want_of (hF : Fr n L a) {c : Bool} (h : wantL ops L o = some c) : Region.wanted o (yielded ops a.tmps) = c := by
  unfold wantL at h
  unfold Region.wanted
  cases hg : o.guard with
  | none => rw [hg] at h; simpa using h
  | some q =>
    obtain ⟨j, b⟩ := q
    rw [hg] at h
    dsimp only at h ⊢
    cases hj : (ops[j]?).bind (·.dst) with
    | none => rw [hj] at h; cases h
    | some t =>
      rw [hj] at h
      dsimp only at h
      cases ht : lk L t with
      | none => rw [ht] at h; cases h
      | some u =>
        rw [ht] at h
        unfold yielded
        rw [hj, Option.bind_some, hF.get _ _ ht]
        cases u with
        | bool e =>
          simp only [Option.some.injEq] at h
          subst h
          cases e <;> cases b <;> rfl
        | _ =>
          simp only [Option.some.injEq] at h
          subst h
          rfl
theorem moved_run (hF : Fr n L a) (h : moved L o.op = some v) (hd : o.dst = some d) : (execOp a.eval o).run P w = .ok (.value v) w := by
  obtain ⟨D, op, ty, ps, af, gd⟩ := o
  dsimp only at h
  cases op <;> simp only [moved] at h <;> first | (cases h; done) | skip
  · exact r_move (oval_ev hF h)
  · exact r_assign (oval_ev hF h)
theorem wl_mvs : ∀ {A : List Oper} {L : List (Nat × Value)} {a : Act}, Fr n L a → mvs ops n A L = some L' → (∀ a, Fr n L' a → wpList P ops Q rest a w) → wpList P ops Q (A ++ rest) a w
  | [], L, a, hF, h, k => by
    simp only [mvs, Option.some.injEq] at h
    subst h; exact k a hF
  | o :: A, L, a, hF, h, k => by
    simp only [mvs] at h
    cases hd : o.dst with
    | none => rw [hd] at h; cases h
    | some d =>
      rw [hd] at h
      dsimp only at h
      cases hdn : Nat.ble (d + 1) n with
      | false => rw [hdn] at h; cases h
      | true =>
        rw [hdn] at h
        dsimp only at h
        cases hw : wantL ops L o with
        | none => rw [hw] at h; cases h
        | some c =>
          rw [hw] at h
          have hwn := want_of (ops := ops) hF hw
          show wpList P ops Q (o :: (A ++ rest)) a w
          unfold wpList
          rw [hwn]
          cases c with
          | false =>
            dsimp only at h
            simp only [Bool.false_eq_true, if_false, hd]
            exact wl_mvs (hF.put hdn undef) h k
          | true =>
            dsimp only at h
            cases hm : moved L o.op with
            | none => rw [hm] at h; cases h
            | some v =>
              rw [hm] at h
              dsimp only at h
              rw [if_pos rfl]
              unfold Oper.wp
              rw [moved_run hF hm hd, Oper.upon_value]
              refine .inl ?_
              show wpList P ops Q (A ++ rest) (a.put o.dst v) w
              rw [hd]
              exact wl_mvs (hF.put hdn v) h k
theorem wq_mvs : ∀ {A : List Oper} {L : List (Nat × Value)} {a : Act}, Fr n L a → mvs ops n A L = some L' → (∀ a, Fr n L' a → wpQuiet P ops (fun w' => Below w.heap.size w w') Qa rest a) → wpQuiet P ops (fun w' => Below w.heap.size w w') Qa (A ++ rest) a
  | [], L, a, hF, h, k => by
    simp only [mvs, Option.some.injEq] at h
    subst h; exact k a hF
  | o :: A, L, a, hF, h, k => by
    simp only [mvs] at h
    cases hd : o.dst with
    | none => rw [hd] at h; cases h
    | some d =>
      rw [hd] at h
      dsimp only at h
      cases hdn : Nat.ble (d + 1) n with
      | false => rw [hdn] at h; cases h
      | true =>
        rw [hdn] at h
        dsimp only at h
        cases hw : wantL ops L o with
        | none => rw [hw] at h; cases h
        | some c =>
          rw [hw] at h
          have hwn := want_of (ops := ops) hF hw
          show wpQuiet P ops _ Qa (o :: (A ++ rest)) a
          unfold wpQuiet
          rw [hwn]
          cases c with
          | false =>
            dsimp only at h
            simp only [Bool.false_eq_true, if_false, hd]
            exact wq_mvs (hF.put hdn undef) h k
          | true =>
            dsimp only at h
            cases hm : moved L o.op with
            | none => rw [hm] at h; cases h
            | some v =>
              rw [hm] at h
              dsimp only at h
              rw [if_pos rfl]
              refine ⟨v, fun w' hw' => ?_, ?_⟩
              · unfold Oper.quietAt
                rw [moved_run hF hm hd]
                exact ⟨rfl, rfl⟩
              · rw [hd]; exact wq_mvs (hF.put hdn v) h k
/-- a region, and what comes behind it -/
theorem ws {id : Nat} {l : List Oper} {y : Code} (h : ∀ K : Act → World → Prop, (∀ a w, y.wp P Q a w → K a w) → wpList P l.toArray (Exit.then K Q) l a w) : (Code.seq (.region id l.toArray false) y).wp P Q a w :=
  wp_seq_k fun K hK => wp_region_lit (h K hK)
end
theorem zb1 (b : Bool) : ((!b) = true) = (b = false) := Bool.not_eq_true' b
theorem zb2 (b : Bool) : ((!b) = false) = (b = true) := Bool.not_eq_false' b
theorem zb3 (a b : Bool) : ((a || b) = true) = (a = true ∨ b = true) := Bool.or_eq_true a b
theorem zb4 (a b : Bool) : ((a && b) = true) = (a = true ∧ b = true) := Bool.and_eq_true a b
theorem zb5 (a b : Bool) : ((a || b) = false) = (a = false ∧ b = false) := by cases a <;> cases b <;> simp
theorem zb6 (a b : Bool) : ((a && b) = false) = (a = false ∨ b = false) := by cases a <;> cases b <;> simp
theorem zb7 (p : Prop) [Decidable p] : (decide p = true) = p := decide_eq_true_eq
theorem zb8 (p : Prop) [Decidable p] : (decide p = false) = ¬ p := by simp
end Go.Proofs.YtifhfodphoeeoaaGreat.Sl
