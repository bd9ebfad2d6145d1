/- A small logic for walking through translated Go code: frames by the slots that matter, and memory as a list of parts that lie apart. No program in sight. -/
import Derived.WalkKit
import Derived.Below
import Derived.OrdersHeld
import Derived.Deep.QuietTactic
import Derived.Deep.Draws
namespace Go.Proofs.YtifhfodphoeeoaaGreat.Sl
open Go Go.RowKit
set_option linter.unusedVariables false
set_option linter.unusedSimpArgs false

/-! ### frames -/
def lk : List (Nat × Value) → Nat → Option Value
  | [], _ => none
  | (t, v) :: l, n => cond (Nat.beq t n) (some v) (lk l n)

structure Fr (n : Nat) (L : List (Nat × Value)) (a : Act) : Prop where
  size : a.tmps.size = n
  defs : a.defers = []
  get : ∀ t v, lk L t = some v → a.tmps[t]? = some v

theorem Fr.ev {n : Nat} {L : List (Nat × Value)} {a : Act} {t : Nat} {v : Value} (h : Fr n L a) (hl : lk L t = some v) : a.eval (.tmp t) = v := by
  have := h.get t v hl
  simp [Act.eval, Array.getD_eq_getD_getElem?, this]

theorem ec {a : Act} {v : Value} : a.eval (.const v) = v := rfl
theorem ef {a : Act} {f : FuncId} : a.eval (.func f) = .func (.func f) #[] #[] := rfl
theorem Fr.put {n : Nat} {L : List (Nat × Value)} {a : Act} (h : Fr n L a) {d : Nat} (hd : Nat.ble (d + 1) n = true) (v : Value) : Fr n ((d, v) :: L) (a.put (some d) v) := by
  have hd' : d < a.tmps.size := by rw [h.size]; exact Nat.le_of_ble_eq_true hd
  refine ⟨by simp [Act.put, h.size], h.defs, fun t u hl => ?_⟩
  simp only [lk] at hl
  cases hb : Nat.beq d t with
  | true =>
    have := Nat.eq_of_beq_eq_true hb
    subst this
    simp [hb] at hl
    subst hl
    simp [Act.put, hd']
  | false =>
    have hne := Nat.ne_of_beq_eq_false hb
    simp [hb] at hl
    have := h.get t u hl
    simp [Act.put, Array.getElem?_setIfInBounds, hne, this]

theorem Fr.nil {n : Nat} {L : List (Nat × Value)} {a : Act} (h : Fr n L a) : Fr n [] a := ⟨h.size, h.defs, fun t v hl => by simp [lk] at hl⟩
/-- one slot more, out of what is known -/
theorem Fr.keep {n : Nat} {L L' : List (Nat × Value)} {a : Act} (h' : Fr n L' a) (h : Fr n L a) {t : Nat} {v : Value} (hl : lk L t = some v) : Fr n ((t, v) :: L') a := by
  refine ⟨h.size, h.defs, fun s u hs => ?_⟩
  simp only [lk] at hs
  cases hb : Nat.beq t s with
  | true =>
    have := Nat.eq_of_beq_eq_true hb
    subst this
    simp [hb] at hs
    subst hs
    exact h.get _ _ hl
  | false => simp [hb] at hs; exact h'.get s u hs

def en : Nat → List Value → List (Nat × Value)
  | _, [] => []
  | i, v :: l => (i, v) :: en (i + 1) l

theorem lk_en : ∀ (l : List Value) (i t : Nat) (v : Value), lk (en i l) t = some v → i ≤ t ∧ l[t - i]? = some v
  | [], i, t, v, h => by simp [en, lk] at h
  | u :: l, i, t, v, h => by
    simp only [en, lk] at h
    cases hb : Nat.beq i t with
    | true =>
      have := Nat.eq_of_beq_eq_true hb
      subst this
      simp [hb] at h
      simp [h]
    | false =>
      have hne := Nat.ne_of_beq_eq_false hb
      simp [hb] at h
      obtain ⟨h1, h2⟩ := lk_en l (i + 1) t v h
      refine ⟨by omega, ?_⟩
      rw [show t - i = (t - (i + 1)) + 1 by omega]
      simpa using h2

theorem Fr.enter (args : List Value) (n : Nat) (h : Nat.ble args.length n = true) : Fr n (en 0 args) ⟨args.toArray ++ Array.replicate (n - args.toArray.size) undef, []⟩ := by
  have hl : args.length ≤ n := Nat.le_of_ble_eq_true h
  refine ⟨by simp; omega, rfl, fun t v ht => ?_⟩
  obtain ⟨_, h2⟩ := lk_en args 0 t v ht
  have : t < args.length := by
    have := (List.getElem?_eq_some_iff.1 h2).1
    simpa using this
  simp at h2
  rw [Array.getElem?_append_left (by simpa using this)]
  simpa using h2

/-- what a contract says: the call returns a value, of which, and of the world then, R holds -/
def Ret (R : Value → World → Prop) : Ending → World → Prop := fun e w => ∃ v, e = .returned v ∧ R v w

theorem calls_fr {P : Program} {f : FuncId} {fn : Func} {c : Code} {args : List Value} {w : World} {R : Ending → World → Prop} {n : Nat} (hf : P.funcs[f]? = some fn) (hb : fn.body = some c) (hn : fn.ntmps = n)
    (hl : Nat.ble args.length n = true) (h : ∀ a, Fr n (en 0 args) a → c.wp P (bodyPost P fn R) a w) : Calls P f args.toArray w R := by
  refine calls_of_wp hf hb ?_
  rw [hn]
  exact h _ (Fr.enter args n hl)

/-! ### operations -/
section
variable {P : Program} {ops : Array Oper} {Q : Exit → Act → World → Prop} {a : Act} {w w' : World} {rest : List Oper} {o : Oper} {n d : Nat} {L : List (Nat × Value)} {v : Value}

theorem wl (hF : Fr n L a) (hg : o.guard = none) (hd : o.dst = some d) (hdn : Nat.ble (d + 1) n = true)
    (hr : (execOp a.eval o).run P w = .ok (.value v) w') (k : ∀ a, Fr n ((d, v) :: L) a → wpList P ops Q rest a w') : wpList P ops Q (o :: rest) a w :=
  wpList_plain hg fun K hK => by
    unfold Oper.wp
    rw [hr, Oper.upon_value, hd]
    exact hK _ _ (k _ (hF.put hdn v))

theorem wl0 (hF : Fr n L a) (hg : o.guard = none) (hd : o.dst = none)
    (hr : (execOp a.eval o).run P w = .ok .skip w') (k : wpList P ops Q rest a w') : wpList P ops Q (o :: rest) a w :=
  wpList_plain hg fun K hK => by
    unfold Oper.wp
    rw [hr, Oper.upon_skip, hd]
    exact hK _ _ k

theorem wl_call {f : FuncId} {args : Array Value} {R : Value → World → Prop} (hF : Fr n L a) (hg : o.guard = none) (hd : o.dst = some d) (hdn : Nat.ble (d + 1) n = true)
    (hr : (execOp a.eval o).run P w = .ok (.enter f args) w) (hc : Calls P f args w (Ret R))
    (k : ∀ v w' a, R v w' → Fr n ((d, v) :: L) a → wpList P ops Q rest a w') : wpList P ops Q (o :: rest) a w :=
  wpList_plain hg fun K hK => by
    unfold Oper.wp
    rw [hr, Oper.upon_enter]
    refine hc.mono ?_
    rintro e w1 ⟨v, rfl, hR⟩
    show K (a.put o.dst v) w1
    rw [hd]
    exact hK _ _ (k v w1 _ hR (hF.put hdn v))

theorem wl_call0 {f : FuncId} {args : Array Value} {R : Value → World → Prop} (hg : o.guard = none) (hd : o.dst = none)
    (hr : (execOp a.eval o).run P w = .ok (.enter f args) w) (hc : Calls P f args w (Ret R))
    (k : ∀ v w', R v w' → wpList P ops Q rest a w') : wpList P ops Q (o :: rest) a w :=
  wpList_plain hg fun K hK => by
    unfold Oper.wp
    rw [hr, Oper.upon_enter]
    refine hc.mono ?_
    rintro e w1 ⟨v, rfl, hR⟩
    show K (a.put o.dst v) w1
    rw [hd]
    exact hK _ _ (k v w1 hR)

theorem yielded_of {j t : Nat} {c : Bool} (hF : Fr n L a) (hj : (ops[j]?).bind (·.dst) = some t) (ht : lk L t = some (.bool c)) : yielded ops a.tmps j = some c := by
  unfold yielded
  rw [hj, Option.bind_some, hF.get _ _ ht]

/-- a guarded operation that is not wanted -/
theorem wl_skip {j t : Nat} {b c : Bool} (hF : Fr n L a) (hg : o.guard = some (j, b)) (hj : (ops[j]?).bind (·.dst) = some t) (ht : lk L t = some (.bool c)) (hne : (c == b) = false)
    (hd : o.dst = some d) (hdn : Nat.ble (d + 1) n = true) (k : ∀ a, Fr n ((d, undef) :: L) a → wpList P ops Q rest a w) : wpList P ops Q (o :: rest) a w := by
  unfold wpList
  have hw : Region.wanted o (yielded ops a.tmps) = false := by
    simp only [Region.wanted, hg, yielded_of hF hj ht]
    cases c <;> cases b <;> simp_all
  rw [hw]
  simp only [Bool.false_eq_true, if_false, hd]
  exact k _ (hF.put hdn undef)

/-- a guarded operation that is wanted, laid open as one without a guard -/
theorem wl_take {j t : Nat} {b c : Bool} (hF : Fr n L a) (hg : o.guard = some (j, b)) (hj : (ops[j]?).bind (·.dst) = some t) (ht : lk L t = some (.bool c)) (heq : (c == b) = true)
    (k : wpList P ops Q ({ o with guard := none } :: rest) a w) : wpList P ops Q (o :: rest) a w := by
  unfold wpList at *
  have hw : Region.wanted o (yielded ops a.tmps) = true := by
    simp only [Region.wanted, hg, yielded_of hF hj ht]
    cases c <;> cases b <;> simp_all
  have hw' : Region.wanted { o with guard := none } (yielded ops a.tmps) = true := rfl
  rw [if_pos hw]
  rw [if_pos hw'] at k
  exact k

theorem wl_nil (h : Q .normal a w) : wpList P ops Q [] a w := h
end

/-! ### what the operations do -/
section
variable {P : Program} {ρ : Operand → Value} {w : World} {D : Option Tmp} {ty : TypeId} {ps : String} {af : Array Edge} {gd : Option (Nat × Bool)}
theorem r_move {x : Operand} {v : Value} (hx : ρ x = v) : (execOp ρ ⟨D, .move x, ty, ps, af, gd⟩).run P w = .ok (.value v) w := by subst hx; rfl
theorem r_assign {x : Operand} {v : Value} (hx : ρ x = v) : (execOp ρ ⟨D, .assign x, ty, ps, af, gd⟩).run P w = .ok (.value v) w := by subst hx; rfl
theorem r_pick {c x y : Operand} {b : Bool} {u v : Value} (hc : ρ c = .bool b) (hx : ρ x = u) (hy : ρ y = v) :
    (execOp ρ ⟨D, .pick c x y, ty, ps, af, gd⟩).run P w = .ok (.value (bif b then u else v)) w := by
  subst hx; subst hy; cases b <;> simp [execOp, hc, asBool, go_sem]
section
variable {t t' : TypeId} {k : IntKind} {x y : Operand} {m q : Int}
theorem r_add (hx : ρ x = .int k m) (hy : ρ y = .int k q) : (execOp ρ ⟨D, .binOp .add t x y t', ty, ps, af, gd⟩).run P w = .ok (.value (.int k (k.wrap (m + q)))) w := by
  simp [execOp, hx, hy, go_sem, Op.intArith]
theorem r_sub (hx : ρ x = .int k m) (hy : ρ y = .int k q) : (execOp ρ ⟨D, .binOp .sub t x y t', ty, ps, af, gd⟩).run P w = .ok (.value (.int k (k.wrap (m - q)))) w := by
  simp [execOp, hx, hy, go_sem, Op.intArith]
theorem r_mul (hx : ρ x = .int k m) (hy : ρ y = .int k q) : (execOp ρ ⟨D, .binOp .mul t x y t', ty, ps, af, gd⟩).run P w = .ok (.value (.int k (k.wrap (m * q)))) w := by
  simp [execOp, hx, hy, go_sem, Op.intArith]
theorem r_eql (hx : ρ x = .int k m) (hy : ρ y = .int k q) : (execOp ρ ⟨D, .binOp .eql t x y t', ty, ps, af, gd⟩).run P w = .ok (.value (.bool (decide (m = q)))) w := by
  simp [execOp, hx, hy, go_sem]; rfl
theorem r_neq (hx : ρ x = .int k m) (hy : ρ y = .int k q) : (execOp ρ ⟨D, .binOp .neq t x y t', ty, ps, af, gd⟩).run P w = .ok (.value (.bool (!decide (m = q)))) w := by
  simp [execOp, hx, hy, go_sem]; rfl
theorem r_lss (hx : ρ x = .int k m) (hy : ρ y = .int k q) : (execOp ρ ⟨D, .binOp .lss t x y t', ty, ps, af, gd⟩).run P w = .ok (.value (.bool (decide (m < q)))) w := by
  simp [execOp, hx, hy, go_sem]
theorem r_leq (hx : ρ x = .int k m) (hy : ρ y = .int k q) : (execOp ρ ⟨D, .binOp .leq t x y t', ty, ps, af, gd⟩).run P w = .ok (.value (.bool (decide (m ≤ q)))) w := by
  simp [execOp, hx, hy, go_sem]
theorem r_gtr (hx : ρ x = .int k m) (hy : ρ y = .int k q) : (execOp ρ ⟨D, .binOp .gtr t x y t', ty, ps, af, gd⟩).run P w = .ok (.value (.bool (decide (q < m)))) w := by
  simp [execOp, hx, hy, go_sem]
theorem r_geq (hx : ρ x = .int k m) (hy : ρ y = .int k q) : (execOp ρ ⟨D, .binOp .geq t x y t', ty, ps, af, gd⟩).run P w = .ok (.value (.bool (decide (q ≤ m)))) w := by
  simp [execOp, hx, hy, go_sem]
end
theorem r_neqb {t t' : TypeId} {x y : Operand} {b c : Bool} (ht : P.underlying t = some .bool) (hx : ρ x = .bool b) (hy : ρ y = .bool c) : (execOp ρ ⟨D, .binOp .neq t x y t', ty, ps, af, gd⟩).run P w = .ok (.value (.bool (!decide (b = c)))) w := by
  have := run_neq_bool (P := P) w t b c ht
  cases b <;> cases c <;> simp_all [execOp, go_sem]
theorem r_eqlb {t t' : TypeId} {x y : Operand} {b c : Bool} (ht : P.underlying t = some .bool) (hx : ρ x = .bool b) (hy : ρ y = .bool c) : (execOp ρ ⟨D, .binOp .eql t x y t', ty, ps, af, gd⟩).run P w = .ok (.value (.bool (decide (b = c)))) w := by
  have := run_eql_bool (P := P) w t b c ht
  cases b <;> cases c <;> simp_all [execOp, go_sem]
theorem r_not {t : TypeId} {x : Operand} {b : Bool} (hx : ρ x = .bool b) : (execOp ρ ⟨D, .unOp .not t x, ty, ps, af, gd⟩).run P w = .ok (.value (.bool (!b))) w := by
  simp [execOp, hx, go_sem, Op.unary]
theorem r_len {t : TypeId} {x : Operand} {A : Option Addr} {m c : Nat} (ht : P.underlying t = some (.slice (P.elem t))) (hx : ρ x = .slice A m c) :
    (execOp ρ ⟨D, .call ⟨.builtin .len, #[x], #[t]⟩, ty, ps, af, gd⟩).run P w = .ok (.value (.int .i64 (m : Int))) w := by
  have := run_len_slice (P := P) w t ty A m c ht
  simp [execOp, resolve, invoke, builtin, hx, this, go_sem, goInt]
end
end Go.Proofs.YtifhfodphoeeoaaGreat.Sl
