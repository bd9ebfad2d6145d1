/- Lemmas for the row of RwLz. -/
import Derived.Below
import Derived.ChangeOld
import Derived.Deep.Draws
import Derived.Deep.QuietTactic
import Derived.Deep.Upon
import Derived.JoinedOf
import Derived.KernelRfl
import Derived.Laws.Cover3
import Derived.Laws.OwnMore
import Derived.Laws.StructEq
import Derived.OpenShut
import Derived.OrdersHeld
import Derived.ProofKit
import Derived.SizedLaws
import Derived.WalkKit
import Derived.WalkSpells
set_option maxHeartbeats 4000000
set_option maxRecDepth 20000
namespace Go.Proofs.YtbgacfdnmbhloaaGreat.Sl
open Go Go.RowKit
set_option linter.unusedVariables false
set_option linter.unusedSimpArgs false
/-! ### frames -/
def lk : List (Nat × Value) → Nat → Option Value
  | [], _ => none
  | (t, v) :: l, n => cond (Nat.beq t n) (some v) (lk l n)
structure Fr (n : Nat) (L : List (Nat × Value)) (a : Act) : Prop where
  size : a.tmps.size = n
  defs : a.defers = []
  get : ∀ t v, lk L t = some v → a.tmps[t]? = some v
theorem Fr.ev {n : Nat} {L : List (Nat × Value)} {a : Act} {t : Nat} {v : Value} (h : Fr n L a) (hl : lk L t = some v) : a.eval (.tmp t) = v := by
 have := h.get t v hl
 simp [Act.eval, Array.getD_eq_getD_getElem?, this]
theorem ec {a : Act} {v : Value} : a.eval (.const v) = v := rfl
theorem ef {a : Act} {f : FuncId} : a.eval (.func f) = .func (.func f) #[] #[] := rfl
theorem Fr.put {n : Nat} {L : List (Nat × Value)} {a : Act} (h : Fr n L a) {d : Nat} (hd : Nat.ble (d + 1) n = true) (v : Value) : Fr n ((d, v) :: L) (a.put (some d) v) := by
 have hd' : d < a.tmps.size := by rw [h.size]; exact Nat.le_of_ble_eq_true hd
 refine ⟨by simp [Act.put, h.size], h.defs, fun t u hl => ?_⟩
 simp only [lk] at hl
 cases hb : Nat.beq d t with
 | true =>
   have := Nat.eq_of_beq_eq_true hb
   subst this
   simp [hb] at hl
   subst hl
   simp [Act.put, hd']
 | false =>
   have hne := Nat.ne_of_beq_eq_false hb
   simp [hb] at hl
   have := h.get t u hl
   simp [Act.put, Array.getElem?_setIfInBounds, hne, this]
theorem Fr.nil {n : Nat} {L : List (Nat × Value)} {a : Act} (h : Fr n L a) : Fr n [] a := ⟨h.size, h.defs, fun t v hl => by simp [lk] at hl⟩
/-- one slot more, out of what is known -/
theorem Fr.keep {n : Nat} {L L' : List (Nat × Value)} {a : Act} (h' : Fr n L' a) (h : Fr n L a) {t : Nat} {v : Value} (hl : lk L t = some v) : Fr n ((t, v) :: L') a := by
 refine ⟨h.size, h.defs, fun s u hs => ?_⟩
 simp only [lk] at hs
 cases hb : Nat.beq t s with
 | true =>
   have := Nat.eq_of_beq_eq_true hb
   subst this
   simp [hb] at hs
   subst hs
   exact h.get _ _ hl
 | false => simp [hb] at hs; exact h'.get s u hs
def en : Nat → List Value → List (Nat × Value)
  | _, [] => []
  | i, v :: l => (i, v) :: en (i + 1) l
theorem lk_en : ∀ (l : List Value) (i t : Nat) (v : Value), lk (en i l) t = some v → i ≤ t ∧ l[t - i]? = some v
  | [], i, t, v, h => by simp [en, lk] at h
  | u :: l, i, t, v, h => by
    simp only [en, lk] at h
    cases hb : Nat.beq i t with
    | true =>
      have := Nat.eq_of_beq_eq_true hb
      subst this
      simp [hb] at h
      simp [h]
    | false =>
      have hne := Nat.ne_of_beq_eq_false hb
      simp [hb] at h
      obtain ⟨h1, h2⟩ := lk_en l (i + 1) t v h
      refine ⟨by omega, ?_⟩
      rw [show t - i = (t - (i + 1)) + 1 by omega]
      simpa using h2
theorem Fr.enter (args : List Value) (n : Nat) (h : Nat.ble args.length n = true) : Fr n (en 0 args) ⟨args.toArray ++ Array.replicate (n - args.toArray.size) undef, []⟩ := by
 have hl : args.length ≤ n := Nat.le_of_ble_eq_true h
 refine ⟨by simp; omega, rfl, fun t v ht => ?_⟩
 obtain ⟨_, h2⟩ := lk_en args 0 t v ht
 have : t < args.length := by
   have := (List.getElem?_eq_some_iff.1 h2).1
   simpa using this
 simp at h2
 rw [Array.getElem?_append_left (by simpa using this)]
 simpa using h2
/-- what a contract says: the call returns a value, of which, and of the world then, R holds -/
def Ret (R : Value → World → Prop) : Ending → World → Prop := fun e w => ∃ v, e = .returned v ∧ R v w
theorem calls_fr {P : Program} {f : FuncId} {fn : Func} {c : Code} {args : List Value} {w : World} {R : Ending → World → Prop} {n : Nat} (hf : P.funcs[f]? = some fn) (hb : fn.body = some c) (hn : fn.ntmps = n)
    (hl : Nat.ble args.length n = true) (h : ∀ a, Fr n (en 0 args) a → c.wp P (bodyPost P fn R) a w) : Calls P f args.toArray w R := by
  refine calls_of_wp hf hb ?_
  rw [hn]
  exact h _ (Fr.enter args n hl)
/-! ### operations -/
section
variable {P : Program} {ops : Array Oper} {Q : Exit → Act → World → Prop} {a : Act} {w w' : World} {rest : List Oper} {o : Oper} {n d : Nat} {L : List (Nat × Value)} {v : Value}
theorem wl (hF : Fr n L a) (hg : o.guard = none) (hd : o.dst = some d) (hdn : Nat.ble (d + 1) n = true)
    (hr : (execOp a.eval o).run P w = .ok (.value v) w') (k : ∀ a, Fr n ((d, v) :: L) a → wpList P ops Q rest a w') : wpList P ops Q (o :: rest) a w :=
  wpList_plain hg fun K hK => by
    unfold Oper.wp
    rw [hr, Oper.upon_value, hd]
    exact hK _ _ (k _ (hF.put hdn v))
theorem wl0 (hF : Fr n L a) (hg : o.guard = none) (hd : o.dst = none)
    (hr : (execOp a.eval o).run P w = .ok .skip w') (k : wpList P ops Q rest a w') : wpList P ops Q (o :: rest) a w :=
  wpList_plain hg fun K hK => by
    unfold Oper.wp
    rw [hr, Oper.upon_skip, hd]
    exact hK _ _ k
theorem wl_call {f : FuncId} {args : Array Value} {R : Value → World → Prop} (hF : Fr n L a) (hg : o.guard = none) (hd : o.dst = some d) (hdn : Nat.ble (d + 1) n = true)
    (hr : (execOp a.eval o).run P w = .ok (.enter f args) w) (hc : Calls P f args w (Ret R))
    (k : ∀ v w' a, R v w' → Fr n ((d, v) :: L) a → wpList P ops Q rest a w') : wpList P ops Q (o :: rest) a w :=
  wpList_plain hg fun K hK => by
    unfold Oper.wp
    rw [hr, Oper.upon_enter]
    refine hc.mono ?_
    rintro e w1 ⟨v, rfl, hR⟩
    show K (a.put o.dst v) w1
    rw [hd]
    exact hK _ _ (k v w1 _ hR (hF.put hdn v))
theorem yielded_of {j t : Nat} {c : Bool} (hF : Fr n L a) (hj : (ops[j]?).bind (·.dst) = some t) (ht : lk L t = some (.bool c)) : yielded ops a.tmps j = some c := by
 unfold yielded
 rw [hj, Option.bind_some, hF.get _ _ ht]
/-- a guarded operation that is wanted, laid open as one without a guard -/
theorem wl_take {j t : Nat} {b c : Bool} (hF : Fr n L a) (hg : o.guard = some (j, b)) (hj : (ops[j]?).bind (·.dst) = some t) (ht : lk L t = some (.bool c)) (heq : (c == b) = true)
    (k : wpList P ops Q ({ o with guard := none } :: rest) a w) : wpList P ops Q (o :: rest) a w := by
  unfold wpList at *
  have hw : Region.wanted o (yielded ops a.tmps) = true := by
    simp only [Region.wanted, hg, yielded_of hF hj ht]
    cases c <;> cases b <;> simp_all
  have hw' : Region.wanted { o with guard := none } (yielded ops a.tmps) = true := rfl
  rw [if_pos hw]
  rw [if_pos hw'] at k
  exact k
theorem wl_nil (h : Q .normal a w) : wpList P ops Q [] a w := h
end
/-! ### what the operations do -/
section
variable {P : Program} {ρ : Operand → Value} {w : World} {D : Option Tmp} {ty : TypeId} {ps : String} {af : Array Edge} {gd : Option (Nat × Bool)}
theorem r_move {x : Operand} {v : Value} (hx : ρ x = v) : (execOp ρ ⟨D, .move x, ty, ps, af, gd⟩).run P w = .ok (.value v) w := by subst hx; rfl
theorem r_assign {x : Operand} {v : Value} (hx : ρ x = v) : (execOp ρ ⟨D, .assign x, ty, ps, af, gd⟩).run P w = .ok (.value v) w := by subst hx; rfl
section
variable {t t' : TypeId} {k : IntKind} {x y : Operand} {m q : Int}
theorem r_add (hx : ρ x = .int k m) (hy : ρ y = .int k q) : (execOp ρ ⟨D, .binOp .add t x y t', ty, ps, af, gd⟩).run P w = .ok (.value (.int k (k.wrap (m + q)))) w := by
 simp [execOp, hx, hy, go_sem, Op.intArith]
theorem r_sub (hx : ρ x = .int k m) (hy : ρ y = .int k q) : (execOp ρ ⟨D, .binOp .sub t x y t', ty, ps, af, gd⟩).run P w = .ok (.value (.int k (k.wrap (m - q)))) w := by
 simp [execOp, hx, hy, go_sem, Op.intArith]
theorem r_mul (hx : ρ x = .int k m) (hy : ρ y = .int k q) : (execOp ρ ⟨D, .binOp .mul t x y t', ty, ps, af, gd⟩).run P w = .ok (.value (.int k (k.wrap (m * q)))) w := by
 simp [execOp, hx, hy, go_sem, Op.intArith]
theorem r_eql (hx : ρ x = .int k m) (hy : ρ y = .int k q) : (execOp ρ ⟨D, .binOp .eql t x y t', ty, ps, af, gd⟩).run P w = .ok (.value (.bool (decide (m = q)))) w := by
 simp [execOp, hx, hy, go_sem]; rfl
theorem r_neq (hx : ρ x = .int k m) (hy : ρ y = .int k q) : (execOp ρ ⟨D, .binOp .neq t x y t', ty, ps, af, gd⟩).run P w = .ok (.value (.bool (!decide (m = q)))) w := by
 simp [execOp, hx, hy, go_sem]; rfl
theorem r_lss (hx : ρ x = .int k m) (hy : ρ y = .int k q) : (execOp ρ ⟨D, .binOp .lss t x y t', ty, ps, af, gd⟩).run P w = .ok (.value (.bool (decide (m < q)))) w := by
 simp [execOp, hx, hy, go_sem]
theorem r_leq (hx : ρ x = .int k m) (hy : ρ y = .int k q) : (execOp ρ ⟨D, .binOp .leq t x y t', ty, ps, af, gd⟩).run P w = .ok (.value (.bool (decide (m ≤ q)))) w := by
 simp [execOp, hx, hy, go_sem]
theorem r_gtr (hx : ρ x = .int k m) (hy : ρ y = .int k q) : (execOp ρ ⟨D, .binOp .gtr t x y t', ty, ps, af, gd⟩).run P w = .ok (.value (.bool (decide (q < m)))) w := by
 simp [execOp, hx, hy, go_sem]
theorem r_geq (hx : ρ x = .int k m) (hy : ρ y = .int k q) : (execOp ρ ⟨D, .binOp .geq t x y t', ty, ps, af, gd⟩).run P w = .ok (.value (.bool (decide (q ≤ m)))) w := by
 simp [execOp, hx, hy, go_sem]
end
theorem r_neqb {t t' : TypeId} {x y : Operand} {b c : Bool} (ht : P.underlying t = some .bool) (hx : ρ x = .bool b) (hy : ρ y = .bool c) : (execOp ρ ⟨D, .binOp .neq t x y t', ty, ps, af, gd⟩).run P w = .ok (.value (.bool (!decide (b = c)))) w := by
 have := run_neq_bool (P := P) w t b c ht
 cases b <;> cases c <;> simp_all [execOp, go_sem]
theorem r_eqlb {t t' : TypeId} {x y : Operand} {b c : Bool} (ht : P.underlying t = some .bool) (hx : ρ x = .bool b) (hy : ρ y = .bool c) : (execOp ρ ⟨D, .binOp .eql t x y t', ty, ps, af, gd⟩).run P w = .ok (.value (.bool (decide (b = c)))) w := by
 have := run_eql_bool (P := P) w t b c ht
 cases b <;> cases c <;> simp_all [execOp, go_sem]
theorem r_not {t : TypeId} {x : Operand} {b : Bool} (hx : ρ x = .bool b) : (execOp ρ ⟨D, .unOp .not t x, ty, ps, af, gd⟩).run P w = .ok (.value (.bool (!b))) w := by
 simp [execOp, hx, go_sem, Op.unary]
theorem r_len {t : TypeId} {x : Operand} {A : Option Addr} {m c : Nat} (ht : P.underlying t = some (.slice (P.elem t))) (hx : ρ x = .slice A m c) :
    (execOp ρ ⟨D, .call ⟨.builtin .len, #[x], #[t]⟩, ty, ps, af, gd⟩).run P w = .ok (.value (.int .i64 (m : Int))) w := by
  have := run_len_slice (P := P) w t ty A m c ht
  simp [execOp, resolve, invoke, builtin, hx, this, go_sem, goInt]
end
/-- a part of memory: it holds within a set of blocks; whoever leaves these blocks alone leaves it alone -/
structure Res where
  P : (Nat → Prop) → World → Prop
  loc : ∀ {S : Nat → Prop} {w w' : World}, (∀ k, S k → w'.heap[k]? = w.heap[k]?) → P S w → P S w'
  mono : ∀ {S S' : Nat → Prop} {w : World}, (∀ k, S k → S' k) → P S w → P S' w
def Sat (l : List Res) (S : Nat → Prop) (w : World) : Prop :=
  ∃ f : Nat → Nat → Prop, (∀ i (r : Res), l[i]? = some r → r.P (f i) w) ∧ (∀ i k, f i k → S k) ∧ (∀ i j k, f i k → f j k → i = j)
theorem Sat.nil (S : Nat → Prop) (w : World) : Sat [] S w := ⟨fun _ _ => False, by simp, by simp, by simp⟩
theorem Sat.loc {l : List Res} {S : Nat → Prop} {w w' : World} (h : Sat l S w) (hk : ∀ k, S k → w'.heap[k]? = w.heap[k]?) : Sat l S w' := by
 obtain ⟨f, h1, h2, h3⟩ := h
 exact ⟨f, fun i r hi => r.loc (fun k hf => hk k (h2 i k hf)) (h1 i r hi), h2, h3⟩
theorem Sat.mono {l : List Res} {S S' : Nat → Prop} {w : World} (h : Sat l S w) (hs : ∀ k, S k → S' k) : Sat l S' w := by
 obtain ⟨f, h1, h2, h3⟩ := h
 exact ⟨f, h1, fun i k hf => hs k (h2 i k hf), h3⟩
theorem Sat.get {l : List Res} {S : Nat → Prop} {w : World} (h : Sat l S w) {i : Nat} {r : Res} (hi : l[i]? = some r) : r.P S w := by
 obtain ⟨f, h1, h2, h3⟩ := h
 exact r.mono (h2 i) (h1 i r hi)
/-- other places for the parts; some may be dropped -/
theorem Sat.sub {l l' : List Res} {S : Nat → Prop} {w : World} (h : Sat l S w) (σ : Nat → Nat) (hinj : ∀ i j, i < l'.length → j < l'.length → σ i = σ j → i = j) (hσ : ∀ i r, l'[i]? = some r → l[σ i]? = some r) : Sat l' S w := by
 obtain ⟨f, h1, h2, h3⟩ := h
 refine ⟨fun i k => i < l'.length ∧ f (σ i) k, fun i r hi => ?_, fun i k hf => h2 _ k hf.2, fun i j k hi hj => hinj i j hi.1 hj.1 (h3 _ _ k hi.2 hj.2)⟩
 have hlt := (List.getElem?_eq_some_iff.1 hi).1
 exact r.mono (fun k hk => ⟨hlt, hk⟩) (h1 _ r (hσ i r hi))
/-- one part more, in blocks of its own -/
theorem Sat.cons {l : List Res} {S S1 S' : Nat → Prop} {w : World} {r : Res} (h : Sat l S w) (hr : r.P S1 w) (h1 : ∀ k, S1 k → S' k) (h2 : ∀ k, S k → S' k) (hd : ∀ k, S1 k → S k → False) : Sat (r :: l) S' w := by
 obtain ⟨f, g1, g2, g3⟩ := h
 refine ⟨fun i => match i with | 0 => S1 | i + 1 => f i, fun i q hi => ?_, fun i k hf => ?_, fun i j k hi hj => ?_⟩
 · cases i with
   | zero => simp at hi; subst hi; exact hr
   | succ i => exact g1 i q (by simpa using hi)
 · cases i with
   | zero => exact h1 k hf
   | succ i => exact h2 k (g2 i k hf)
 · cases i with
   | zero =>
     cases j with
     | zero => rfl
     | succ j => exact (hd k hi (g2 j k hj)).elim
   | succ i =>
     cases j with
     | zero => exact (hd k hj (g2 i k hi)).elim
     | succ j => rw [g3 i j k hi hj]
/-- two lists side by side -/
theorem Sat.append {l l' : List Res} {S S1 S' : Nat → Prop} {w : World} (h : Sat l' S w) (hr : Sat l S1 w) (h1 : ∀ k, S1 k → S' k) (h2 : ∀ k, S k → S' k) (hd : ∀ k, S1 k → S k → False) : Sat (l ++ l') S' w := by
 obtain ⟨f, f1, f2, f3⟩ := hr
 obtain ⟨g, g1, g2, g3⟩ := h
 refine ⟨fun i k => if i < l.length then f i k else g (i - l.length) k, fun i r hi => ?_, fun i k hf => ?_, fun i j k hi hj => ?_⟩
 · by_cases hlt : i < l.length
   · rw [List.getElem?_append_left hlt] at hi
     exact r.mono (fun k hk => by simp only [if_pos hlt]; exact hk) (f1 i r hi)
   · rw [List.getElem?_append_right (by omega)] at hi
     exact r.mono (fun k hk => by simp only [if_neg hlt]; exact hk) (g1 _ r hi)
 · by_cases hlt : i < l.length
   · simp only [if_pos hlt] at hf; exact h1 k (f2 i k hf)
   · simp only [if_neg hlt] at hf; exact h2 k (g2 _ k hf)
 · by_cases hi' : i < l.length <;> by_cases hj' : j < l.length
   · simp only [if_pos hi'] at hi; simp only [if_pos hj'] at hj; exact f3 i j k hi hj
   · simp only [if_pos hi'] at hi; simp only [if_neg hj'] at hj; exact (hd k (f2 _ k hi) (g2 _ k hj)).elim
   · simp only [if_neg hi'] at hi; simp only [if_pos hj'] at hj; exact (hd k (f2 _ k hj) (g2 _ k hi)).elim
   · simp only [if_neg hi'] at hi; simp only [if_neg hj'] at hj; have := g3 _ _ k hi hj; omega
/-- the same, the places in hand -/
theorem Sat.upd' {l : List Res} {S N : Nat → Prop} {w w' : World} {i : Nat} {r r' : Res} {f : Nat → Nat → Prop} (_h : Sat l S w) (hi : l[i]? = some r) (hN : ∀ k, N k → S k → False)
    (hr' : r'.P (fun k => f i k ∨ N k) w') (hk : ∀ k, S k → ¬ f i k → w'.heap[k]? = w.heap[k]?) (f1 : ∀ i (r : Res), l[i]? = some r → r.P (f i) w) (f2 : ∀ i k, f i k → S k) (f3 : ∀ i j k, f i k → f j k → i = j) : Sat (l.set i r') (fun k => S k ∨ N k) w' := by
  refine ⟨fun j k => if j = i then f i k ∨ N k else f j k, fun j q hj => ?_, fun j k hf => ?_, fun j m k hj hm => ?_⟩
  · by_cases e : j = i
    · subst e
      have hlt := (List.getElem?_eq_some_iff.1 hi).1
      rw [List.getElem?_set_self hlt] at hj
      obtain rfl := Option.some.inj hj
      exact r'.mono (fun k hk => by simp only [if_true]; exact hk) hr'
    · rw [List.getElem?_set_ne (fun h => e h.symm)] at hj
      refine q.mono (S := f j) (fun k hk => by simp only [if_neg e]; exact hk) (q.loc (fun k hfk => hk k (f2 j k hfk) (fun hik => e (f3 j i k hfk hik))) (f1 j q hj))
  · by_cases e : j = i
    · simp only [if_pos e] at hf
      exact hf.imp (f2 i k) id
    · simp only [if_neg e] at hf
      exact .inl (f2 j k hf)
  · by_cases ej : j = i <;> by_cases em : m = i
    · rw [ej, em]
    · simp only [if_pos ej] at hj; simp only [if_neg em] at hm
      rcases hj with hj | hj
      · rw [ej]; exact f3 i m k hj hm
      · exact (hN k hj (f2 m k hm)).elim
    · simp only [if_neg ej] at hj; simp only [if_pos em] at hm
      rcases hm with hm | hm
      · rw [em]; exact f3 j i k hj hm
      · exact (hN k hm (f2 j k hj)).elim
    · simp only [if_neg ej] at hj; simp only [if_neg em] at hm; exact f3 j m k hj hm
/-- one part is changed: by a step that leaves all but its blocks, and new ones, alone -/
theorem Sat.upd {l : List Res} {S N : Nat → Prop} {w w' : World} {i : Nat} {r r' : Res} (h : Sat l S w) (hi : l[i]? = some r) (hN : ∀ k, N k → S k → False)
    (hstep : ∀ F, r.P F w → (∀ k, F k → S k) → r'.P (fun k => F k ∨ N k) w' ∧ (∀ k, S k → ¬ F k → w'.heap[k]? = w.heap[k]?)) : Sat (l.set i r') (fun k => S k ∨ N k) w' := by
  obtain ⟨f, f1, f2, f3⟩ := h
  obtain ⟨hr', hk⟩ := hstep (f i) (f1 i r hi) (f2 i)
  exact Sat.upd' ⟨f, f1, f2, f3⟩ hi hN hr' hk f1 f2 f3
/-- below the world w0's size all is as in w0; above it lie the parts, apart from each other -/
structure Sep (w0 : World) (l : List Res) (w : World) : Prop where
  old : Below w0.heap.size w0 w
  sat : Sat l (fun k => w0.heap.size ≤ k ∧ k < w.heap.size) w
theorem Sep.refl (w : World) : Sep w [] w := ⟨Below.refl _ _, Sat.nil _ _⟩
/-- a step that changes no block that is there -/
theorem Sep.ext {w0 w w' : World} {l : List Res} (h : Sep w0 l w) (hb : Below w.heap.size w w') : Sep w0 l w' := by
 refine ⟨h.old.trans (hb.mono h.old.size), ?_⟩
 refine Sat.mono (Sat.loc h.sat (fun k hk => hb.block k hk.2)) (fun k hk => ⟨hk.1, Nat.lt_of_lt_of_le hk.2 hb.size⟩)
theorem Sep.sub {w0 w : World} {l l' : List Res} (h : Sep w0 l w) (σ : Nat → Nat) (hinj : ∀ i j, i < l'.length → j < l'.length → σ i = σ j → i = j) (hσ : ∀ i r, l'[i]? = some r → l[σ i]? = some r) : Sep w0 l' w :=
  ⟨h.old, h.sat.sub σ hinj hσ⟩
theorem Sep.tail {w0 w : World} {r : Res} {l : List Res} (h : Sep w0 (r :: l) w) : Sep w0 l w :=
  h.sub (· + 1) (fun i j _ _ e => by omega) (fun i r hi => by simpa using hi)
/-- a callee, begun at w, has made parts of its own -/
theorem Sep.add {w0 w w' : World} {l l' : List Res} (h : Sep w0 l w) (h' : Sep w l' w') : Sep w0 (l' ++ l) w' := by
 have hx := h.ext h'.old
 refine ⟨hx.old, ?_⟩
 refine Sat.append (S := fun k => w0.heap.size ≤ k ∧ k < w.heap.size) ?_ h'.sat (fun k hk => ⟨Nat.le_trans h.old.size hk.1, hk.2⟩) (fun k hk => ⟨hk.1, Nat.lt_of_lt_of_le hk.2 h'.old.size⟩) (fun k h1 h2 => by omega)
 exact Sat.loc h.sat (fun k hk => h'.old.block k hk.2)
/-- the same, one part alone -/
theorem Sep.new {w0 w w' : World} {l : List Res} {r : Res} (h : Sep w0 l w) (hb : Below w.heap.size w w') (hr : r.P (fun k => w.heap.size ≤ k ∧ k < w'.heap.size) w') : Sep w0 (r :: l) w' := by
 have := h.add (l' := [r]) ⟨hb, Sat.cons (Sat.nil (fun _ => False) w') hr (fun k hk => hk) (fun k hk => hk.elim) (fun k _ hk => hk)⟩
 simpa using this
/-- one part is changed -/
theorem Sep.upd {w0 w w' : World} {l : List Res} {i : Nat} {r r' : Res} (h : Sep w0 l w) (hi : l[i]? = some r) (hos : w'.os = w.os) (htape : w'.tape = w.tape) (hout : w'.output = w.output) (hsize : w.heap.size ≤ w'.heap.size)
    (hstep : ∀ F, r.P F w → (∀ k, F k → w0.heap.size ≤ k ∧ k < w.heap.size) → r'.P (fun k => F k ∨ (w.heap.size ≤ k ∧ k < w'.heap.size)) w' ∧ (∀ k, k < w.heap.size → ¬ F k → w'.heap[k]? = w.heap[k]?)) : Sep w0 (l.set i r') w' := by
  refine ⟨?_, ?_⟩
  · obtain ⟨f, f1, f2, f3⟩ := h.sat
    have := hstep (f i) (f1 i r hi) (f2 i)
    refine h.old.trans ⟨hos, htape, hout, hsize, fun k hk => this.2 k (Nat.lt_of_lt_of_le hk h.old.size) (fun hf => ?_)⟩
    have := (f2 i k hf).1
    omega
  · refine Sat.mono (Sat.upd (N := fun k => w.heap.size ≤ k ∧ k < w'.heap.size) h.sat hi (fun k h1 h2 => by omega) (fun F hF hs => ?_)) (fun k hk => ?_)
    · obtain ⟨h1, h2⟩ := hstep F hF hs
      exact ⟨h1, fun k hk hn => h2 k hk.2 hn⟩
    · rcases hk with hk | hk
      · exact ⟨hk.1, Nat.lt_of_lt_of_le hk.2 hsize⟩
      · exact ⟨Nat.le_trans h.old.size hk.1, hk.2⟩
/-! ### a block whose cells are known -/
def Box (g : Nat) (cs : List Value) : Res where
  P := fun S w => S g ∧ ∃ T, w.heap[g]? = some (.cells cs.toArray T (0, 0))
  loc := fun hk ⟨h1, T, h2⟩ => ⟨h1, T, (hk g h1).trans h2⟩
  mono := fun hs ⟨h1, h2⟩ => ⟨hs g h1, h2⟩
theorem cell_of {w : World} {g o : Nat} {cur : Array Value} {T : TypeId} {fz : Nat × Nat} (h : w.heap[g]? = some (.cells cur T fz)) : w.cell? ⟨g, o, none⟩ = cur[o]? := by
 simp [World.cell?, h]
theorem frozen_of {w : World} {g o : Nat} {cur : Array Value} {T : TypeId} (h : w.heap[g]? = some (.cells cur T (0, 0))) : w.frozen? ⟨g, o, none⟩ = false := by
 simp [World.frozen?, h]
theorem heap_setCell_at {w : World} {g o : Nat} {cur : Array Value} {T : TypeId} {fz : Nat × Nat} (h : w.heap[g]? = some (.cells cur T fz)) (v : Value) : (w.setCell ⟨g, o, none⟩ v).heap[g]? = some (.cells (cur.setIfInBounds o v) T fz) := by
 simp [World.setCell, Array.getElem?_modify, h]
theorem Sep.box {w0 w : World} {l : List Res} {i g : Nat} {cs : List Value} (h : Sep w0 l w) (hi : l[i]? = some (Box g cs)) {o : Nat} {v : Value} (hv : cs[o]? = some v) : w.cell? ⟨g, o, none⟩ = some v := by
 obtain ⟨_, T, hT⟩ := h.sat.get hi
 rw [cell_of hT]
 simpa using hv
theorem Sep.box_frozen {w0 w : World} {l : List Res} {i g : Nat} {cs : List Value} (h : Sep w0 l w) (hi : l[i]? = some (Box g cs)) (o : Nat) : w.frozen? ⟨g, o, none⟩ = false := by
 obtain ⟨_, T, hT⟩ := h.sat.get hi
 exact frozen_of hT
theorem Sep.box_set {w0 w : World} {l : List Res} {i g : Nat} {cs : List Value} (h : Sep w0 l w) (hi : l[i]? = some (Box g cs)) (o : Nat) (v : Value) : Sep w0 (l.set i (Box g (cs.set o v))) (w.setCell ⟨g, o, none⟩ v) := by
 refine h.upd hi rfl rfl rfl (by simp) (fun F hF hs => ?_)
 obtain ⟨h1, T, hT⟩ := hF
 refine ⟨⟨.inl h1, T, ?_⟩, fun k hk hn => Below.heap_setCell _ _ _ _ (fun e => hn (e ▸ h1))⟩
 rw [heap_setCell_at hT]
 simp
theorem Sep.box_new {w0 w : World} {l : List Res} (h : Sep w0 l w) (cs : List Value) (T : TypeId) : Sep w0 (Box w.heap.size cs :: l) (w.alloc (.cells cs.toArray T)) :=
  h.new ((Below.refl _ _).alloc (Nat.le_refl _) _) ⟨⟨Nat.le_refl _, by simp⟩, T, heap_alloc_new w _⟩
theorem Sep.drew {w0 w : World} {l : List Res} (h : Sep w0 l w) : Sep w0 l w.drew := h.ext ((Below.refl _ _).drew)
theorem Sep.drawn {w0 w : World} {l : List Res} (h : Sep w0 l w) : Sep w0 l { w with drawn := w.drawn + 1 } := h.ext ((Below.refl _ _).drew)
/-! ### kinds of elements; rows of them -/
abbrev Slv := Option Addr × Nat × Nat
def sv (s : Slv) : Value := .slice s.1 s.2.1 s.2.2
/-- a row that is read: K says what the cells of an element say -/
def Rd {α : Type} (sz : Nat) (K : World → α → List Value → Prop) (w : World) (v : Value) (xs : List α) : Prop :=
  ∃ A n c, v = .slice A n c ∧ n = xs.length ∧ n ≤ c ∧ n ≤ maxLen ∧ ∀ i x, xs[i]? = some x → ∃ g o, A = some ⟨g, o, none⟩ ∧ ∃ cs, K w x cs ∧ cs.length = sz ∧ ∀ j u, cs[j]? = some u → w.cell? ⟨g, o + i * sz + j, none⟩ = some u
theorem Rd.imp {α : Type} {sz : Nat} {K K' : World → α → List Value → Prop} {w w' : World} {v : Value} {xs : List α} (h : Rd sz K w v xs) (hb : Below w.heap.size w w') (hK : ∀ x cs, K w x cs → K' w' x cs) : Rd sz K' w' v xs := by
 obtain ⟨A, n, c, h1, h2, h3, h3', h4⟩ := h
 refine ⟨A, n, c, h1, h2, h3, h3', fun i x hx => ?_⟩
 obtain ⟨g, o, e, cs, k, hl, hc⟩ := h4 i x hx
 refine ⟨g, o, e, cs, hK x cs k, hl, fun j u hu => ?_⟩
 have := hc j u hu
 rw [hb.cell (p := ⟨g, o + i * sz + j, none⟩) (World.block_lt_of_cell? w _ this)]
 exact this
/-- a kind of element: its cells (with the values of the slices inside it), the parts inside it, and what reading it says -/
structure EK (α : Type) where
  sz : Nat
  cells : α → List Slv → List Value
  inner : α → List Slv → List Res
  K : World → α → List Value → Prop
  len : ∀ x vs, (cells x vs).length = sz
  one : ∀ x vs u, u ∈ cells x vs → u.oneCell' = true
  rd : ∀ {x vs S w}, Sat (inner x vs) S w → K w x (cells x vs)
  ext : ∀ {w w' x cs}, Below w.heap.size w w' → K w x cs → K w' x cs
  klen : ∀ {w x cs}, K w x cs → cs.length = sz
def EK.Rd {α : Type} (ek : EK α) (w : World) (v : Value) (xs : List α) : Prop := Sl.Rd ek.sz ek.K w v xs
theorem EK.Rd.mov {α : Type} {ek : EK α} {w w' : World} {v : Value} {xs : List α} (h : ek.Rd w v xs) (hb : Below w.heap.size w w') : ek.Rd w' v xs := Rd.imp h hb (fun _ _ => ek.ext hb)
/-- elements without slices inside -/
def flatEK {α : Type} (sz : Nat) (enc : α → List Value) (hl : ∀ x, (enc x).length = sz) (h1 : ∀ x u, u ∈ enc x → u.oneCell' = true) : EK α where
  sz := sz
  cells := fun x _ => enc x
  inner := fun _ _ => []
  K := fun _ x cs => cs = enc x
  len := fun x _ => hl x
  one := fun x _ u hu => h1 x u hu
  rd := fun _ => rfl
  ext := fun _ h => h
  klen := fun h => by rw [h]; exact hl _
/-- the cells of a row of one's own: block, first cell, room -/
structure RowAt {α : Type} (ek : EK α) (g o c : Nat) (xs : List α) (cur : Array Value) (vs : Nat → List Slv) : Prop where
  room : o + c * ek.sz ≤ cur.size
  fits : xs.length ≤ c
  at_ : ∀ i x, xs[i]? = some x → ∀ j u, (ek.cells x (vs i))[j]? = some u → cur[o + i * ek.sz + j]? = some u
/-- a row of one's own -/
def Own {α : Type} (ek : EK α) (v : Value) (xs : List α) : Res where
  P := fun S w => ∃ A n c, v = .slice A n c ∧ n = xs.length ∧ c ≤ maxLen ∧
    ((c = 0 ∧ xs = []) ∨ ∃ g o cur T vs, A = some ⟨g, o, none⟩ ∧ S g ∧ w.heap[g]? = some (.cells cur T (0, 0)) ∧ RowAt ek g o c xs cur vs ∧
      ∃ f : Nat → Nat → Prop, (∀ i x, xs[i]? = some x → Sat (ek.inner x (vs i)) (f i) w) ∧ (∀ i k, f i k → S k ∧ k ≠ g) ∧ (∀ i j k, f i k → f j k → i = j))
  loc := by
    rintro S w w' hk ⟨A, n, c, h1, h2, h3, h4⟩
    refine ⟨A, n, c, h1, h2, h3, h4.imp id ?_⟩
    rintro ⟨g, o, cur, T, vs, e, hS, hg, hr, f, f1, f2, f3⟩
    exact ⟨g, o, cur, T, vs, e, hS, (hk g hS).trans hg, hr, f, fun i x hx => (f1 i x hx).loc (fun k hf => hk k (f2 i k hf).1), f2, f3⟩
  mono := by
    rintro S S' w hs ⟨A, n, c, h1, h2, h3, h4⟩
    refine ⟨A, n, c, h1, h2, h3, h4.imp id ?_⟩
    rintro ⟨g, o, cur, T, vs, e, hS, hg, hr, f, f1, f2, f3⟩
    exact ⟨g, o, cur, T, vs, e, hs g hS, hg, hr, f, f1, fun i k hf => ⟨hs k (f2 i k hf).1, (f2 i k hf).2⟩, f3⟩
theorem own_rd {α : Type} {ek : EK α} {S : Nat → Prop} {w : World} {v : Value} {xs : List α} (h : (Own ek v xs).P S w) : ek.Rd w v xs := by
 obtain ⟨A, n, c, h1, h2, h3, h4⟩ := h
 rcases h4 with ⟨rfl, rfl⟩ | ⟨g, o, cur, T, vs, e, hS, hg, hr, f, f1, f2, f3⟩
 · exact ⟨A, n, 0, h1, h2, by simp at h2; omega, by simp at h2; omega, fun i x hx => by simp at hx⟩
 · refine ⟨A, n, c, h1, h2, by have := hr.fits; omega, by have := hr.fits; omega, fun i x hx => ⟨g, o, e, ek.cells x (vs i), ek.rd (f1 i x hx), ek.len _ _, fun j u hu => ?_⟩⟩
   rw [cell_of hg]
   exact hr.at_ i x hx j u hu
theorem Sep.own_rd {α : Type} {ek : EK α} {w0 w : World} {l : List Res} {i : Nat} {v : Value} {xs : List α} (h : Sep w0 l w) (hi : l[i]? = some (Own ek v xs)) : ek.Rd w v xs := Sl.own_rd (h.sat.get hi)
theorem Sep.rd {α : Type} {ek : EK α} {w0 w : World} {l : List Res} {v : Value} {xs : List α} (h : Sep w0 l w) (hr : ek.Rd w0 v xs) : ek.Rd w v xs := hr.mov h.old
theorem Rd.idx {α : Type} {ek : EK α} {w : World} {v : Value} {xs : List α} (h : ek.Rd w v xs) {i : Nat} {x : α} (hx : xs[i]? = some x) :
    ∃ g o m c cs, v = .slice (some ⟨g, o, none⟩) m c ∧ m = xs.length ∧ i < m ∧ ek.K w x cs ∧ cs.length = ek.sz ∧ ∀ j u, cs[j]? = some u → w.cell? ⟨g, o + i * ek.sz + j, none⟩ = some u := by
  obtain ⟨A, n, c, rfl, h2, h3, h3', h4⟩ := h
  obtain ⟨g, o, rfl, cs, h5, h6, h7⟩ := h4 i x hx
  have := (List.getElem?_eq_some_iff.1 hx).1
  exact ⟨g, o, n, c, cs, rfl, h2, by omega, h5, h6, h7⟩
theorem Rd.idxF {α : Type} {sz : Nat} {enc : α → List Value} {hl : ∀ x, (enc x).length = sz} {h1 : ∀ x u, u ∈ enc x → u.oneCell' = true} {w : World} {v : Value} {xs : List α} (h : (flatEK sz enc hl h1).Rd w v xs) {i : Nat} {x : α} (hx : xs[i]? = some x) :
    ∃ g o m c, v = .slice (some ⟨g, o, none⟩) m c ∧ m = xs.length ∧ i < m ∧ ∀ j u, (enc x)[j]? = some u → w.cell? ⟨g, o + i * sz + j, none⟩ = some u := by
  obtain ⟨g, o, m, c, cs, e1, e2, e3, hk, _, hc⟩ := Rd.idx h hx
  obtain rfl : cs = enc x := hk
  exact ⟨g, o, m, c, e1, e2, e3, hc⟩
theorem EK.Rd.sl {α : Type} {ek : EK α} {w : World} {v : Value} {xs : List α} (h : ek.Rd w v xs) : ∃ A c, v = .slice A xs.length c ∧ xs.length ≤ c ∧ xs.length ≤ maxLen := by
 obtain ⟨A, n, c, h1, h2, h3, h3', _⟩ := h
 subst h2
 exact ⟨A, c, h1, h3, h3'⟩
theorem Rd.nil {α : Type} (sz : Nat) (K : World → α → List Value → Prop) (w : World) : Rd sz K w (.slice none 0 0) [] := ⟨none, 0, 0, rfl, rfl, Nat.le_refl _, Nat.zero_le _, fun i x hx => by simp at hx⟩
theorem own_nil {α : Type} (ek : EK α) (S : Nat → Prop) (w : World) : (Own ek (.slice none 0 0) []).P S w := ⟨none, 0, 0, rfl, rfl, Nat.zero_le _, .inl ⟨rfl, rfl⟩⟩
theorem Sep.own_nil {α : Type} {w0 w : World} {l : List Res} (h : Sep w0 l w) (ek : EK α) : Sep w0 (Own ek (.slice none 0 0) [] :: l) w := h.new (Below.refl _ _) (Sl.own_nil ek _ w)
/-! ### what is asked of the program's table of types -/
def scalB (P : Program) (t : TypeId) : Bool :=
  match P.underlying t with
  | some (.struct _) | some (.array _ _) => false
  | some _ => true
  | none => false
def aggB (P : Program) (t : TypeId) : Bool :=
  match P.underlying t with
  | some (.struct _) | some (.array _ _) => true
  | _ => false
def szB (P : Program) (t : TypeId) : Option Nat := (P.info? t).map (·.size)
def zeroOf (P : Program) (t : TypeId) : Option (List Value) := (P.info? t).bind fun i => i.zero.map fun v => v.cells.toList
def offB (P : Program) (t : TypeId) (f : Nat) : Option Nat :=
  match P.underlying t with
  | some (.struct fs) => (fs[f]?).bind fun fd => (P.info? fd.type).bind fun i => if i.size = 0 then none else some fd.offset
  | _ => none
/-- a slice type: its element's size, its element's bytes -/
def slB (P : Program) (t : TypeId) : Option (Nat × Nat) :=
  match P.underlying t with
  | some (.slice e) => (P.info? e).map fun i => (i.size, i.bytes)
  | _ => none
/-- a call of this function is a call of its own Go text -/
def enterB (P : Program) (f : FuncId) : Bool :=
  match P.funcs[f]? with
  | some fn => !(fn.name == "runtime.NumGoroutine") && fn.body.isSome
  | none => false
section
variable {P : Program} {ρ : Operand → Value} {w : World} {D : Option Tmp} {ty : TypeId} {ps : String} {af : Array Edge} {gd : Option (Nat × Bool)}
theorem run_isAgg_false {t : TypeId} (h : scalB P t = true) : (isAgg t).run P w = .ok false w := by
 unfold scalB at h
 split at h
 all_goals first
   | (simp at h; done)
   | skip
 rename_i d h1 h2 hd
 cases d <;> simp_all [isAgg, underlying, go_sem]
theorem run_isAgg_true {t : TypeId} (h : aggB P t = true) : (isAgg t).run P w = .ok true w := by
 unfold aggB at h
 split at h
 · rename_i fs hd; simp [isAgg, underlying, hd, go_sem]
 · rename_i n e hd; simp [isAgg, underlying, hd, go_sem]
 · simp at h
theorem run_sizeOf {t : TypeId} {m : Nat} (h : szB P t = some m) : (sizeOf t).run P w = .ok m w := by
 unfold szB at h
 obtain ⟨i, hi, rfl⟩ := Option.map_eq_some_iff.1 h
 simp [sizeOf, typeInfo, hi, go_sem]
theorem r_load1 {t : TypeId} {x : Operand} {ad : Addr} {v : Value} (ht : scalB P t = true) (hp : ρ x = .pointer (some ad)) (hc : w.cell? ad = some v) :
    (execOp ρ ⟨D, .load t x, ty, ps, af, gd⟩).run P w = .ok (.value v) w := by
  have h1 := run_isAgg_false (P := P) (w := w) ht
  simp [execOp, hp, Instr.loadAt, Instr.sureAddr, loadVar, h1, go_sem, hc]
theorem run_loadCellsFrom {g o : Nat} : ∀ (cs : List Value) (i : Nat) (acc : Array Value), (∀ j u, cs[j]? = some u → w.cell? ⟨g, o + (i + j), none⟩ = some u) →
    (loadCellsFrom ⟨g, o, none⟩ i cs.length acc).run P w = .ok (acc ++ cs.toArray) w
  | [], i, acc, _ => by simp [loadCellsFrom, go_sem]
  | v :: cs, i, acc, h => by
    have h0 : w.cell? ⟨g, o + i, none⟩ = some v := by simpa using h 0 v rfl
    have ih := run_loadCellsFrom cs (i + 1) (acc.push v) (fun j u hu => by
      have := h (j + 1) u (by simpa using hu)
      rwa [show i + (j + 1) = i + 1 + j by omega] at this)
    simp only [List.length_cons, loadCellsFrom, Addr.add_lit]
    simp [go_sem, h0, ih]
theorem r_loadn {t : TypeId} {x : Operand} {g o : Nat} {cs : List Value} (ht : aggB P t = true) (hp : ρ x = .pointer (some ⟨g, o, none⟩))
    (hc : ∀ j u, cs[j]? = some u → w.cell? ⟨g, o + j, none⟩ = some u) (hs : szB P t = some cs.length) :
    (execOp ρ ⟨D, .load t x, ty, ps, af, gd⟩).run P w = .ok (.value (.agg cs.toArray)) w := by
  have h1 := run_isAgg_true (P := P) (w := w) ht
  have h2 := run_sizeOf (P := P) (w := w) hs
  have h3 := run_loadCellsFrom (P := P) (w := w) (g := g) (o := o) cs 0 #[] (fun j u hu => by simpa using hc j u hu)
  simp at h3
  simp [execOp, hp, Instr.loadAt, Instr.sureAddr, loadVar, h1, h2, h3, go_sem, loadCells]
theorem r_field {t : TypeId} {x : Operand} {f g o m : Nat} (ht : offB P t f = some m) (hp : ρ x = .pointer (some ⟨g, o, none⟩)) :
    (execOp ρ ⟨D, .fieldAddr t x f, ty, ps, af, gd⟩).run P w = .ok (.value (.pointer (some ⟨g, o + m, none⟩))) w := by
  unfold offB at ht
  split at ht
  · rename_i fs hfs
    obtain ⟨fd, hfd, ht⟩ := Option.bind_eq_some_iff.1 ht
    obtain ⟨i, hi, ht⟩ := Option.bind_eq_some_iff.1 ht
    split at ht
    · simp at ht
    · rename_i hne
      obtain rfl := Option.some.inj ht
      have hs : (sizeOf fd.type).run P w = .ok i.size w := run_sizeOf (by simp [szB, hi])
      simp [execOp, hp, Instr.fieldAt, underlying, hfs, hfd, Instr.sureAddr, fieldPlace, go_sem, hs, hne]
  · simp at ht
theorem r_box {T : TypeId} {x : Operand} {v : Value} (hx : ρ x = v) : (execOp ρ ⟨D, .box T x, ty, ps, af, gd⟩).run P w = .ok (.value (.pointer (some ⟨w.heap.size, 0, none⟩))) (w.alloc (.cells v.cells T)) := by
 subst hx
 simp only [execOp, Instr.box, newVar, newRow]
 simp
theorem r_alloc {T : TypeId} {cs : List Value} (hz : zeroOf P T = some cs) : (execOp ρ ⟨D, .alloc T, ty, ps, af, gd⟩).run P w = .ok (.value (.pointer (some ⟨w.heap.size, 0, none⟩))) (w.alloc (.cells cs.toArray T)) := by
 unfold zeroOf at hz
 obtain ⟨i, hi, hz⟩ := Option.bind_eq_some_iff.1 hz
 obtain ⟨z, hzz, rfl⟩ := Option.map_eq_some_iff.1 hz
 simp [execOp, Instr.alloc, zeroValue, typeInfo, hi, hzz, newVar, newRow, go_sem]
theorem r_store1 {T : TypeId} {x y : Operand} {g q : Nat} {u v : Value} (hsz : szB P T = some 1) (hp : ρ x = .pointer (some ⟨g, q, none⟩)) (hy : ρ y = v) (h1 : v.oneCell' = true) (hc : w.cell? ⟨g, q, none⟩ = some u) (hf : w.frozen? ⟨g, q, none⟩ = false) :
    (execOp ρ ⟨D, .store T x y, ty, ps, af, gd⟩).run P w = .ok .skip (w.setCell ⟨g, q, none⟩ v) := by
  have hs := run_sizeOf (P := P) (w := w) hsz
  have hv : v.cells = #[v] := by cases v <;> simp_all [Value.cells, Value.oneCell']
  have hst : (storeVar T ⟨g, q, none⟩ v).run P w = .ok () (w.setCell ⟨g, q, none⟩ v) := by
    simp [storeVar, hv, hs, storeCells, run_store _ _ _ _ _ h1, hc, hf, Addr.add_zero']
  simp [execOp, hp, hy, Instr.storeAt, Instr.sureAddr, hst]
theorem r_index {t : TypeId} {x y : Operand} {g o m c sz b : Nat} {i : Int} {k : IntKind} (ht : slB P t = some (sz, b)) (hx : ρ x = .slice (some ⟨g, o, none⟩) m c) (hy : ρ y = .int k i) (h0 : 0 ≤ i) (h1 : i < m) :
    (execOp ρ ⟨D, .indexAddr t x y, ty, ps, af, gd⟩).run P w = .ok (.value (.pointer (some ⟨g, o + i.toNat * sz, none⟩))) w := by
  unfold slB at ht
  split at ht
  · rename_i e he
    obtain ⟨ti, hi, h2⟩ := Option.map_eq_some_iff.1 ht
    simp only [Prod.mk.injEq] at h2
    obtain ⟨rfl, _⟩ := h2
    have hs : (sizeOf e).run P w = .ok ti.size w := run_sizeOf (by simp [szB, hi])
    simp [execOp, hx, hy, Instr.indexAt, underlying, he, asIntOf, go_sem, h0, h1, hs]
  · simp at ht
end
section
variable {P : Program} {ops : Array Oper} {Q : Exit → Act → World → Prop} {a : Act} {w w0 : World} {rest : List Oper} {o : Oper} {n d : Nat} {L : List (Nat × Value)} {l : List Res} {v : Value}
variable {ty : TypeId} {ps : String} {af : Array Edge}
/-- as many at least -/
def longB : List Value → List Value → Bool
  | _, [] => true
  | _ :: a, _ :: b => longB a b
  | [], _ :: _ => false
theorem longB_le : ∀ (a b : List Value), longB a b = true → b.length ≤ a.length
  | _, [], _ => Nat.zero_le _
  | _ :: a, _ :: b, h => by have := longB_le a b h; simp; omega
  | [], _ :: _, h => by simp [longB] at h
/-- as many -/
def evenB : List Value → List Value → Bool
  | [], [] => true
  | _ :: a, _ :: b => evenB a b
  | _, _ => false
theorem evenB_eq : ∀ (a b : List Value), evenB a b = true → a.length = b.length
  | [], [], _ => rfl
  | _ :: a, _ :: b, h => by have := evenB_eq a b h; simp; omega
  | [], _ :: _, h => by simp [evenB] at h
  | _ :: _, [], h => by simp [evenB] at h
theorem lt_of_some {cs : List Value} {q : Nat} (h : (cs[q]?).isSome = true) : q < cs.length := by
 obtain ⟨v, hv⟩ := Option.isSome_iff_exists.1 h
 exact (List.getElem?_eq_some_iff.1 hv).1
theorem long_fits {cs vs : List Value} {q : Nat} (h : longB (cs.drop q) vs = true) (hq : ((cs.drop q)[0]?).isSome = true) : q + vs.length ≤ cs.length := by
 have h1 := longB_le _ _ h
 have h2 := lt_of_some hq
 simp only [List.length_drop] at h1 h2
 omega
theorem wl_box {T : TypeId} {x : Operand} {cs : List Value} (hF : Fr n L a) (hS : Sep w0 l w) (hdn : Nat.ble (d + 1) n = true) (hx : a.eval x = v) (hcs : v.cells.toList = cs)
    (k : ∀ g w' a, Sep w0 (Box g cs :: l) w' → Below w.heap.size w w' → Fr n ((d, .pointer (some ⟨g, 0, none⟩)) :: L) a → wpList P ops Q rest a w') : wpList P ops Q (⟨some d, .box T x, ty, ps, af, none⟩ :: rest) a w := by
  subst hcs
  exact wl (w' := w.alloc (.cells v.cells.toList.toArray T)) hF rfl rfl hdn (by simpa using r_box hx) (fun a hF => k _ _ _ (hS.box_new _ T) ((Below.refl _ _).alloc (Nat.le_refl _) _) hF)
theorem wl_alloc {T : TypeId} {cs : List Value} (hF : Fr n L a) (hS : Sep w0 l w) (hdn : Nat.ble (d + 1) n = true) (hz : zeroOf P T = some cs)
    (k : ∀ g w' a, Sep w0 (Box g cs :: l) w' → Below w.heap.size w w' → Fr n ((d, .pointer (some ⟨g, 0, none⟩)) :: L) a → wpList P ops Q rest a w') : wpList P ops Q (⟨some d, .alloc T, ty, ps, af, none⟩ :: rest) a w := by
  exact wl (w' := w.alloc (.cells cs.toArray T)) hF rfl rfl hdn (r_alloc hz) (fun a hF => k _ _ _ (hS.box_new cs T) ((Below.refl _ _).alloc (Nat.le_refl _) _) hF)
/-- a store of one cell into a box -/
theorem wl_store {T : TypeId} {x y : Operand} {i g q : Nat} {cs : List Value} (hF : Fr n L a) (hS : Sep w0 l w) (hi : l[i]? = some (Box g cs)) (hsz : szB P T = some 1) (hp : a.eval x = .pointer (some ⟨g, q, none⟩)) (hy : a.eval y = v)
    (h1 : v.oneCell' = true) (hq : (cs[q]?).isSome = true) (k : ∀ w', Sep w0 (l.set i (Box g (cs.set q v))) w' → wpList P ops Q rest a w') : wpList P ops Q (⟨none, .store T x y, ty, ps, af, none⟩ :: rest) a w := by
  have hq' : q < cs.length := lt_of_some hq
  exact wl0 hF rfl rfl (r_store1 hsz hp hy h1 (hS.box hi (List.getElem?_eq_getElem hq')) (hS.box_frozen hi q)) (k _ (hS.box_set hi q v))
/-! ### boxes that are read -/
theorem Sep.boxn {i g o m : Nat} {cs vs : List Value} (h : Sep w0 l w) (hi : l[i]? = some (Box g cs)) (hv : (cs.drop o).take m = vs) : ∀ j u, vs[j]? = some u → w.cell? ⟨g, o + j, none⟩ = some u := by
 intro j u hu
 subst hv
 rw [List.getElem?_take] at hu
 split at hu
 · exact h.box hi (by rw [List.getElem?_drop] at hu; exact hu)
 · simp at hu
/-! ### the ways of a condition -/
theorem wc_dec {p : Prop} [Decidable p] {c : Operand} {x y : Code} (hc : a.eval c = .bool (decide p)) (h1 : p → x.wp P Q a w) (h2 : ¬ p → y.wp P Q a w) : (Code.cond c x y).wp P Q a w :=
  wp_cond_split hc (fun h => h1 (of_decide_eq_true h)) (fun h => h2 (of_decide_eq_false h))
theorem wc_ndec {p : Prop} [Decidable p] {c : Operand} {x y : Code} (hc : a.eval c = .bool (!decide p)) (h1 : ¬ p → x.wp P Q a w) (h2 : p → y.wp P Q a w) : (Code.cond c x y).wp P Q a w :=
  wp_cond_split hc (fun h => h1 (by simpa using h)) (fun h => h2 (by simpa using h))
theorem wc_true {c : Operand} {x y : Code} (hc : a.eval c = .bool true) (h1 : x.wp P Q a w) : (Code.cond c x y).wp P Q a w := wp_cond_true hc h1
theorem wc_false {c : Operand} {x y : Code} (hc : a.eval c = .bool false) (h1 : y.wp P Q a w) : (Code.cond c x y).wp P Q a w := wp_cond_false hc h1
theorem wc_b {b : Bool} {c : Operand} {x y : Code} (hc : a.eval c = .bool b) (h1 : b = true → x.wp P Q a w) (h2 : b = false → y.wp P Q a w) : (Code.cond c x y).wp P Q a w := wp_cond_split hc h1 h2
theorem bsplit {C : Prop} {t : Nat} {b : Bool} (hF : Fr n L a) (ht : lk L t = some (.bool b)) (h1 : b = true → Fr n ((t, .bool true) :: L) a → C) (h2 : b = false → Fr n ((t, .bool false) :: L) a → C) : C := by
 have hx : ∀ c, b = c → Fr n ((t, .bool c) :: L) a := fun c e => Fr.keep hF hF (by rw [ht, e])
 cases hb : b with
 | true => exact h1 hb (hx _ hb)
 | false => exact h2 hb (hx _ hb)
theorem r_pick_t {ρ : Operand → Value} {D : Option Tmp} {gd : Option (Nat × Bool)} {c x y : Operand} {u : Value} (hc : ρ c = .bool true) (hx : ρ x = u) : (execOp ρ ⟨D, .pick c x y, ty, ps, af, gd⟩).run P w = .ok (.value u) w := by
 subst hx; simp [execOp, hc, asBool, go_sem]
theorem r_pick_f {ρ : Operand → Value} {D : Option Tmp} {gd : Option (Nat × Bool)} {c x y : Operand} {u : Value} (hc : ρ c = .bool false) (hy : ρ y = u) : (execOp ρ ⟨D, .pick c x y, ty, ps, af, gd⟩).run P w = .ok (.value u) w := by
 subst hy; simp [execOp, hc, asBool, go_sem]
/-- a slot's value, spelled otherwise -/
theorem Fr.keepE {L' : List (Nat × Value)} (h' : Fr n L' a) (h : Fr n L a) {t : Nat} {v v' : Value} (hl : lk L t = some v) (e : v = v') : Fr n ((t, v') :: L') a := by subst e; exact h'.keep h hl
/-! ### calls -/
section
variable {D : Option Tmp} {gd : Option (Nat × Bool)} {f : FuncId} {x x1 x2 x3 x4 x5 x6 : Operand} {v1 v2 v3 v4 v5 v6 : Value} {ts : Array TypeId}
theorem run_callFunc (h : enterB P f = true) (args : Array Value) : (callFunc f args).run P w = .ok (.enter f args) w := by
 unfold enterB at h
 split at h
 · rename_i fn hfn
   simp only [Bool.and_eq_true, Bool.not_eq_true'] at h
   obtain ⟨h1, h2⟩ := h
   have h3 : fn.body.isNone = false := by cases hb : fn.body <;> simp_all
   have h4 : ¬ fn.name = "runtime.NumGoroutine" := by simpa using h1
   have h5 : ¬ fn.body = none := by cases hb : fn.body <;> simp_all
   simp [callFunc, hfn, h4, h5]
 · simp at h
theorem rr_call {ρ : Operand → Value} {vs : Array Value} {args : Array Operand} (h : enterB P f = true) {cap : Array Value} (hx : ρ x = .func (.func f) #[] cap) (hv : args.map ρ = vs) : (execOp ρ ⟨D, .call ⟨.value x, args, ts⟩, ty, ps, af, gd⟩).run P w = .ok (.enter f (vs ++ cap)) w := by
 subst hv
 simp [execOp, resolve, Deferred.ofValue, invoke, hx, run_callFunc h]
theorem r_call0 (h : enterB P f = true)  : (execOp a.eval ⟨D, .call ⟨.value (.func f), #[], ts⟩, ty, ps, af, gd⟩).run P w = .ok (.enter f #[]) w := by
 skip
 rw [show (#[] : Array Value) = (#[] : Array Operand).map a.eval ++ #[] from by simp]
 exact rr_call (x := .func f) h rfl rfl
theorem r_call1 {x1 : Operand} {v1 : Value} (h : enterB P f = true) (h1 : a.eval x1 = v1) : (execOp a.eval ⟨D, .call ⟨.value (.func f), #[x1], ts⟩, ty, ps, af, gd⟩).run P w = .ok (.enter f #[v1]) w := by
 subst h1
 rw [show (#[a.eval x1] : Array Value) = (#[x1] : Array Operand).map a.eval ++ #[] from by simp]
 exact rr_call (x := .func f) h rfl rfl
theorem r_callv1 {x1 : Operand} {v1 : Value} {cap : Array Value} (h : enterB P f = true) (hx : a.eval x = .func (.func f) #[] cap) (h1 : a.eval x1 = v1) : (execOp a.eval ⟨D, .call ⟨.value x, #[x1], ts⟩, ty, ps, af, gd⟩).run P w = .ok (.enter f (#[v1] ++ cap)) w := by
 subst h1
 rw [show (#[a.eval x1] : Array Value) = (#[x1] : Array Operand).map a.eval from by simp]
 exact rr_call h hx rfl
theorem r_call2 {x1 x2 : Operand} {v1 v2 : Value} (h : enterB P f = true) (h1 : a.eval x1 = v1) (h2 : a.eval x2 = v2) : (execOp a.eval ⟨D, .call ⟨.value (.func f), #[x1, x2], ts⟩, ty, ps, af, gd⟩).run P w = .ok (.enter f #[v1, v2]) w := by
 subst h1; subst h2
 rw [show (#[a.eval x1, a.eval x2] : Array Value) = (#[x1, x2] : Array Operand).map a.eval ++ #[] from by simp]
 exact rr_call (x := .func f) h rfl rfl
theorem r_callv2 {x1 x2 : Operand} {v1 v2 : Value} {cap : Array Value} (h : enterB P f = true) (hx : a.eval x = .func (.func f) #[] cap) (h1 : a.eval x1 = v1) (h2 : a.eval x2 = v2) : (execOp a.eval ⟨D, .call ⟨.value x, #[x1, x2], ts⟩, ty, ps, af, gd⟩).run P w = .ok (.enter f (#[v1, v2] ++ cap)) w := by
 subst h1; subst h2
 rw [show (#[a.eval x1, a.eval x2] : Array Value) = (#[x1, x2] : Array Operand).map a.eval from by simp]
 exact rr_call h hx rfl
theorem r_call3 {x1 x2 x3 : Operand} {v1 v2 v3 : Value} (h : enterB P f = true) (h1 : a.eval x1 = v1) (h2 : a.eval x2 = v2) (h3 : a.eval x3 = v3) : (execOp a.eval ⟨D, .call ⟨.value (.func f), #[x1, x2, x3], ts⟩, ty, ps, af, gd⟩).run P w = .ok (.enter f #[v1, v2, v3]) w := by
 subst h1; subst h2; subst h3
 rw [show (#[a.eval x1, a.eval x2, a.eval x3] : Array Value) = (#[x1, x2, x3] : Array Operand).map a.eval ++ #[] from by simp]
 exact rr_call (x := .func f) h rfl rfl
theorem r_call4 {x1 x2 x3 x4 : Operand} {v1 v2 v3 v4 : Value} (h : enterB P f = true) (h1 : a.eval x1 = v1) (h2 : a.eval x2 = v2) (h3 : a.eval x3 = v3) (h4 : a.eval x4 = v4) : (execOp a.eval ⟨D, .call ⟨.value (.func f), #[x1, x2, x3, x4], ts⟩, ty, ps, af, gd⟩).run P w = .ok (.enter f #[v1, v2, v3, v4]) w := by
 subst h1; subst h2; subst h3; subst h4
 rw [show (#[a.eval x1, a.eval x2, a.eval x3, a.eval x4] : Array Value) = (#[x1, x2, x3, x4] : Array Operand).map a.eval ++ #[] from by simp]
 exact rr_call (x := .func f) h rfl rfl
theorem r_call5 {x1 x2 x3 x4 x5 : Operand} {v1 v2 v3 v4 v5 : Value} (h : enterB P f = true) (h1 : a.eval x1 = v1) (h2 : a.eval x2 = v2) (h3 : a.eval x3 = v3) (h4 : a.eval x4 = v4) (h5 : a.eval x5 = v5) : (execOp a.eval ⟨D, .call ⟨.value (.func f), #[x1, x2, x3, x4, x5], ts⟩, ty, ps, af, gd⟩).run P w = .ok (.enter f #[v1, v2, v3, v4, v5]) w := by
 subst h1; subst h2; subst h3; subst h4; subst h5
 rw [show (#[a.eval x1, a.eval x2, a.eval x3, a.eval x4, a.eval x5] : Array Value) = (#[x1, x2, x3, x4, x5] : Array Operand).map a.eval ++ #[] from by simp]
 exact rr_call (x := .func f) h rfl rfl
end
/-! ### joins, loops, ends -/
theorem wp_cut {x y : Code} (J : Act → World → Prop) (hx : x.wp P (Exit.then J Q) a w) (hy : ∀ a w, J a w → y.wp P Q a w) : (Code.seq x y).wp P Q a w := by
 refine wp_seq (wp_mono hx ?_)
 intro e a w h
 cases e <;> first | exact h | exact hy _ _ h
theorem wp_loop_g {σ : Type} {c : Code} (I : σ → Act → World → Prop) (μ : σ → Nat) (s0 : σ) (h0 : I s0 a w)
    (round : ∀ s a w, I s a w → c.wp P (Exit.then (fun a' w' => ∃ s', I s' a' w' ∧ μ s' < μ s) Q) a w) : (Code.loop c).wp P Q a w := by
  intro b k cs
  have key : ∀ m s a w, μ s = m → I s a w →
      ∃ e a' w', Q e a' w' ∧ Arrives P (lone (b.at a (.code c :: .inLoop c :: k)) cs w) b k cs e a' w' := by
    intro m
    induction m using Nat.strongRecOn with
    | _ m ih =>
      intro s a w hm hI
      obtain ⟨e, a₁, w₁, hq, harr⟩ := round s a w hI b (.inLoop c :: k) cs
      cases e with
      | normal =>
        obtain ⟨s', hI₁, hlt⟩ := hq
        obtain ⟨e₂, a₂, w₂, hq₂, harr₂⟩ := ih (μ s') (hm ▸ hlt) s' a₁ w₁ rfl hI₁
        exact ⟨e₂, a₂, w₂, hq₂, .of_steps (Steps.trans harr (.one step_inLoop)) harr₂⟩
      | exit id => exact ⟨_, a₁, w₁, hq, .pass (x := .inLoop c) rfl (fun _ _ => .inl (by simp)) harr⟩
      | goto l => exact ⟨_, a₁, w₁, hq, .pass (x := .inLoop c) rfl (fun _ _ => .inl (by simp)) harr⟩
      | ret => exact ⟨_, a₁, w₁, hq, .pass (x := .inLoop c) rfl (fun _ _ => .inl (by simp)) harr⟩
      | panic ch => exact ⟨_, a₁, w₁, hq, .pass (x := .inLoop c) rfl (fun _ _ => .inl (by simp)) harr⟩
      | outgrown => exact ⟨_, a₁, w₁, hq, .pass (x := .inLoop c) rfl (fun _ _ => .inl (by simp)) harr⟩
  obtain ⟨e, a', w', hq, harr⟩ := key _ s0 a w rfl h0
  exact ⟨e, a', w', hq, .of_steps (.one step_loop) harr⟩
theorem ret1 {fn : Func} {t : Nat} {R : Value → World → Prop} (hres : fn.results = #[.tmp t]) (hF : Fr n L a) (ht : lk L t = some v) (hR : R v w) : bodyPost P fn (Ret R) .ret a w := by
 refine ⟨hF.defs, v, ?_, v, rfl, hR⟩
 rw [results_tmp hres]
 have := hF.get _ _ ht
 simp [Array.getD_eq_getD_getElem?, this]
theorem ret2 {fn : Func} {t t' : Nat} {v' : Value} {R : Value → World → Prop} (hres : fn.results = #[.tmp t, .tmp t']) (hF : Fr n L a) (ht : lk L t = some v) (ht' : lk L t' = some v') (hR : R (.tuple #[v, v']) w) : bodyPost P fn (Ret R) .ret a w := by
 refine ⟨hF.defs, .tuple #[v, v'], ?_, _, rfl, hR⟩
 rw [results_tmp2 hres]
 have h1 := hF.get _ _ ht
 have h2 := hF.get _ _ ht'
 simp [Array.getD_eq_getD_getElem?, h1, h2]
theorem run_loadVar_agg {T : TypeId} {g : Nat} {cs : List Value} (ht : aggB P T = true) (hs : szB P T = some cs.length) (hc : ∀ j u, cs[j]? = some u → w.cell? ⟨g, j, none⟩ = some u) :
    (loadVar T ⟨g, 0, none⟩).run P w = .ok (.agg cs.toArray) w := by
  have h1 := run_isAgg_true (P := P) (w := w) ht
  have h2 := run_sizeOf (P := P) (w := w) hs
  have h3 := run_loadCellsFrom (P := P) (w := w) (g := g) (o := 0) cs 0 #[] (fun j u hu => by simpa using hc j u hu)
  simp at h3
  simp [loadVar, h1, h2, h3, go_sem, loadCells]
/-- the result lies in a box -/
theorem ret1c {fn : Func} {t T g i : Nat} {cs : List Value} {R : Value → World → Prop} (hres : fn.results = #[.cell t T]) (ht : aggB P T = true) (hF : Fr n L a) (hS : Sep w0 l w) (hi : l[i]? = some (Box g cs)) (hs : szB P T = some cs.length) (hl : lk L t = some (.pointer (some ⟨g, 0, none⟩))) (hR : R (.agg cs.toArray) w) : bodyPost P fn (Ret R) .ret a w := by
 refine ⟨hF.defs, .agg cs.toArray, ?_, _, rfl, hR⟩
 have h1 := hF.get _ _ hl
 have h2 := run_loadVar_agg (P := P) (w := w) (g := g) ht hs (fun j u hu => hS.box hi hu)
 simp [results, hres, Array.getD_eq_getD_getElem?, h1, asAddr, h2]
/-- two results, the first in a box -/
theorem ret2c {fn : Func} {t t' T g i : Nat} {cs : List Value} {v' : Value} {R : Value → World → Prop} (hres : fn.results = #[.cell t T, .tmp t']) (ht : aggB P T = true) (hF : Fr n L a) (hS : Sep w0 l w) (hi : l[i]? = some (Box g cs)) (hs : szB P T = some cs.length) (hl : lk L t = some (.pointer (some ⟨g, 0, none⟩))) (hl' : lk L t' = some v') (hR : R (.tuple #[.agg cs.toArray, v']) w) : bodyPost P fn (Ret R) .ret a w := by
 refine ⟨hF.defs, .tuple #[.agg cs.toArray, v'], ?_, _, rfl, hR⟩
 have h1 := hF.get _ _ hl
 have h3 := hF.get _ _ hl'
 have h2 := run_loadVar_agg (P := P) (w := w) (g := g) ht hs (fun j u hu => hS.box hi hu)
 simp [results, hres, Array.getD_eq_getD_getElem?, h1, h3, asAddr, h2]
theorem ret2cc {fn : Func} {t t' T T' g g' i i' : Nat} {cs cs' : List Value} {R : Value → World → Prop} (hres : fn.results = #[.cell t T, .cell t' T']) (ht : aggB P T = true) (ht' : aggB P T' = true) (hF : Fr n L a) (hS : Sep w0 l w) (hi : l[i]? = some (Box g cs)) (hi' : l[i']? = some (Box g' cs')) (hs : szB P T = some cs.length) (hs' : szB P T' = some cs'.length) (hl : lk L t = some (.pointer (some ⟨g, 0, none⟩))) (hl' : lk L t' = some (.pointer (some ⟨g', 0, none⟩))) (hR : R (.tuple #[.agg cs.toArray, .agg cs'.toArray]) w) : bodyPost P fn (Ret R) .ret a w := by
 refine ⟨hF.defs, .tuple #[.agg cs.toArray, .agg cs'.toArray], ?_, _, rfl, hR⟩
 have h1 := hF.get _ _ hl
 have h3 := hF.get _ _ hl'
 have h2 := run_loadVar_agg (P := P) (w := w) (g := g) ht hs (fun j u hu => hS.box hi hu)
 have h4 := run_loadVar_agg (P := P) (w := w) (g := g') ht' hs' (fun j u hu => hS.box hi' hu)
 simp [results, hres, Array.getD_eq_getD_getElem?, h1, h3, asAddr, h2, h4]
end
/-! ### regions that draw their order and change nothing that is there -/
section
variable {P : Program} {ops : Array Oper} {Q : Exit → Act → World → Prop} {a : Act} {w : World} {rest : List Oper} {o : Oper} {n d : Nat} {L : List (Nat × Value)} {v : Value} {Qa : Act → Prop}
theorem wp_region_calm {id : Nat} {l : List Oper} (hm : P.follows .mixedOrders = true) (hB : Region.lexB .any l.toArray = true)
    (h : wpQuiet P l.toArray (fun w' => Below w.heap.size w w') (fun a' => ∀ w', Below w.heap.size w w' → Q .normal a' w') l a) : (Code.region id l.toArray true).wp P Q a w :=
  wp_region_quiet (C := fun w' => Below w.heap.size w w') hm hB ((Below.refl _ _).drew) (by simpa using h)
theorem wq (hF : Fr n L a) (hg : o.guard = none) (hd : o.dst = some d) (hdn : Nat.ble (d + 1) n = true)
    (hr : ∀ w', Below w.heap.size w w' → (execOp a.eval o).run P w' = .ok (.value v) w') (k : ∀ a, Fr n ((d, v) :: L) a → wpQuiet P ops (fun w' => Below w.heap.size w w') Qa rest a) : wpQuiet P ops (fun w' => Below w.heap.size w w') Qa (o :: rest) a := by
  unfold wpQuiet
  rw [if_pos (by simp [Region.wanted, hg])]
  refine ⟨v, fun w' hw' => ?_, ?_⟩
  · unfold Oper.quietAt
    rw [hr w' hw']
    exact ⟨rfl, rfl⟩
  · rw [hd]; exact k _ (hF.put hdn v)
theorem wq_call {f : FuncId} {args : Array Value} (hF : Fr n L a) (hg : o.guard = none) (hd : o.dst = some d) (hdn : Nat.ble (d + 1) n = true)
    (hr : ∀ w', Below w.heap.size w w' → (execOp a.eval o).run P w' = .ok (.enter f args) w') (hc : ∀ w', Below w.heap.size w w' → Calls P f args w' (Ret fun u w'' => u = v ∧ Below w'.heap.size w' w''))
    (k : ∀ a, Fr n ((d, v) :: L) a → wpQuiet P ops (fun w' => Below w.heap.size w w') Qa rest a) : wpQuiet P ops (fun w' => Below w.heap.size w w') Qa (o :: rest) a := by
  unfold wpQuiet
  rw [if_pos (by simp [Region.wanted, hg])]
  refine ⟨v, fun w' hw' => ?_, ?_⟩
  · unfold Oper.quietAt
    rw [hr w' hw']
    refine ⟨rfl, (hc w' hw').mono ?_⟩
    rintro e w'' ⟨u, rfl, rfl, hb⟩
    exact ⟨rfl, hw'.trans (hb.mono hw'.size)⟩
  · rw [hd]; exact k _ (hF.put hdn v)
theorem wq_take {j t : Nat} {b c : Bool} (hF : Fr n L a) (hg : o.guard = some (j, b)) (hj : (ops[j]?).bind (·.dst) = some t) (ht : lk L t = some (.bool c)) (heq : (c == b) = true)
    (k : wpQuiet P ops (fun w' => Below w.heap.size w w') Qa ({ o with guard := none } :: rest) a) : wpQuiet P ops (fun w' => Below w.heap.size w w') Qa (o :: rest) a := by
  unfold wpQuiet at *
  have hw : Region.wanted o (yielded ops a.tmps) = true := by
    simp only [Region.wanted, hg, yielded_of hF hj ht]
    cases c <;> cases b <;> simp_all
  have hw' : Region.wanted { o with guard := none } (yielded ops a.tmps) = true := rfl
  rw [if_pos hw]
  rw [if_pos hw'] at k
  exact k
end
theorem cellB {w w' : World} (hb : Below w.heap.size w w') {ad : Addr} {v : Value} (h : w.cell? ad = some v) : w'.cell? ad = some v := by
 rw [hb.cell (p := ad) (World.block_lt_of_cell? w _ h)]; exact h
theorem w64 (q : Int) : IntKind.i64.wrap q = (q + 9223372036854775808) % 18446744073709551616 - 9223372036854775808 := by
 simp [IntKind.wrap, IntKind.bits, IntKind.signed, IntKind.min]
 try omega
theorem w64_id {q : Int} (h0 : -9223372036854775808 ≤ q) (h1 : q ≤ 9223372036854775807) : IntKind.i64.wrap q = q := by
 rw [w64]; omega
abbrev vi (n : Int) : Value := .int .i64 n
structure Config where
  threads : Int
  keys : Int
  capacity : Int
  batch : Int
  policy : Int
  clockMax : Int
structure Op where
  kind : Int
  key : Int
  value : Int
structure Entry where
  handle : Int
  key : Int
  low : Int
  high : Int
structure Result where
  code : Int
  value : Int
structure Event where
  thread : Int
  op : Op
  result : Result
  start : Int
  fin : Int
instance : DecidableEq Config := fun a b => decidable_of_iff (a.threads = b.threads ∧ a.keys = b.keys ∧ a.capacity = b.capacity ∧ a.batch = b.batch ∧ a.policy = b.policy ∧ a.clockMax = b.clockMax) (by cases a; cases b; simp)
instance : DecidableEq Op := fun a b => decidable_of_iff (a.kind = b.kind ∧ a.key = b.key ∧ a.value = b.value) (by cases a; cases b; simp)
instance : DecidableEq Entry := fun a b => decidable_of_iff (a.handle = b.handle ∧ a.key = b.key ∧ a.low = b.low ∧ a.high = b.high) (by cases a; cases b; simp)
instance : DecidableEq Result := fun a b => decidable_of_iff (a.code = b.code ∧ a.value = b.value) (by cases a; cases b; simp)
instance : DecidableEq Event := fun a b => decidable_of_iff (a.thread = b.thread ∧ a.op = b.op ∧ a.result = b.result ∧ a.start = b.start ∧ a.fin = b.fin) (by cases a; cases b; simp)
def Config.enc (c : Config) : List Value := [vi c.threads, vi c.keys, vi c.capacity, vi c.batch, vi c.policy, vi c.clockMax]
def Op.enc (o : Op) : List Value := [vi o.kind, vi o.key, vi o.value]
def Entry.enc (e : Entry) : List Value := [vi e.handle, vi e.key, vi e.low, vi e.high]
def Result.enc (r : Result) : List Value := [vi r.code, vi r.value]
def Event.enc (e : Event) : List Value := [vi e.thread, vi e.op.kind, vi e.op.key, vi e.op.value, vi e.result.code, vi e.result.value, vi e.start, vi e.fin]
instance : Inhabited Config := ⟨⟨0, 0, 0, 0, 0, 0⟩⟩
instance : Inhabited Op := ⟨⟨0, 0, 0⟩⟩
instance : Inhabited Entry := ⟨⟨0, 0, 0, 0⟩⟩
instance : Inhabited Result := ⟨⟨0, 0⟩⟩
instance : Inhabited Event := ⟨⟨0, ⟨0, 0, 0⟩, ⟨0, 0⟩, 0, 0⟩⟩
/-- what IsConfig asks -/
def Config.ok (c : Config) : Prop := 1 ≤ c.threads ∧ c.threads ≤ 4 ∧ 1 ≤ c.keys ∧ c.keys ≤ 4 ∧ 1 ≤ c.capacity ∧ c.capacity ≤ 24 ∧ 1 ≤ c.batch ∧ c.batch ≤ 4 ∧ 0 ≤ c.policy ∧ c.policy ≤ 2 ∧ 1 ≤ c.clockMax ∧ c.clockMax ≤ 99
instance (c : Config) : Decidable c.ok := by unfold Config.ok; infer_instance
def limboLimit (c : Config) : Int := if c.ok then 2 * c.threads + c.batch else 0
abbrev intEK : EK Int := flatEK 1 (fun n => [vi n]) (fun _ => rfl) (fun x u hu => by simp at hu; subst hu; rfl)
abbrev boolEK : EK Bool := flatEK 1 (fun b => [.bool b]) (fun _ => rfl) (fun x u hu => by simp at hu; subst hu; rfl)
abbrev opEK : EK Op := flatEK 3 Op.enc (fun _ => rfl) (fun x u hu => by simp [Op.enc] at hu; rcases hu with h | h | h <;> subst h <;> rfl)
abbrev entryEK : EK Entry := flatEK 4 Entry.enc (fun _ => rfl) (fun x u hu => by simp [Entry.enc] at hu; rcases hu with h | h | h | h <;> subst h <;> rfl)
abbrev eventEK : EK Event := flatEK 8 Event.enc (fun _ => rfl) (fun x u hu => by simp [Event.enc] at hu; rcases hu with h | h | h | h | h | h | h | h <;> subst h <;> rfl)
abbrev stringEK : EK ByteArray := flatEK 1 (fun s => [.string s]) (fun _ => rfl) (fun x u hu => by simp at hu; subst hu; rfl)
/-- slices as elements -/
def sliceEK {α : Type} (ek : EK α) : EK (List α) where
  sz := 1
  cells := fun _ vs => [sv (vs.getD 0 (none, 0, 0))]
  inner := fun x vs => [Own ek (sv (vs.getD 0 (none, 0, 0))) x]
  K := fun w x cs => ∃ v, cs = [v] ∧ ek.Rd w v x
  len := fun _ _ => rfl
  one := fun x vs u hu => by simp at hu; subst hu; rfl
  rd := fun {x vs S w} h => ⟨_, rfl, own_rd (h.get (i := 0) rfl)⟩
  ext := fun hb ⟨v, h1, h2⟩ => ⟨v, h1, h2.mov hb⟩
  klen := fun ⟨v, h1, _⟩ => by rw [h1]; rfl
structure Thread where
  pc : Int
  op : Op
  result : Result
  snapshot : Int
  node : Int
  prev : Int
  curr : Int
  next : Int
  seen : Int
  stamp : Int
  at_ : Int
  found : List Int
  free : List Int
  buffer : List Entry
  work : List Entry
  limbo : List Int
def Thread.encv (t : Thread) (v1 v2 v3 v4 v5 : Value) : List Value :=
  [vi t.pc, vi t.op.kind, vi t.op.key, vi t.op.value, vi t.result.code, vi t.result.value, vi t.snapshot, vi t.node, vi t.prev, vi t.curr, vi t.next, vi t.seen, vi t.stamp, vi t.at_, v1, v2, v3, v4, v5]
@[reducible] def Thread.K (w : World) (t : Thread) (cs : List Value) : Prop :=
  ∃ v1 v2 v3 v4 v5, cs = t.encv v1 v2 v3 v4 v5 ∧ intEK.Rd w v1 t.found ∧ intEK.Rd w v2 t.free ∧ entryEK.Rd w v3 t.buffer ∧ entryEK.Rd w v4 t.work ∧ intEK.Rd w v5 t.limbo
def threadEK : EK Thread where
  sz := 19
  cells := fun t vs => t.encv (sv (vs.getD 0 (none, 0, 0))) (sv (vs.getD 1 (none, 0, 0))) (sv (vs.getD 2 (none, 0, 0))) (sv (vs.getD 3 (none, 0, 0))) (sv (vs.getD 4 (none, 0, 0)))
  inner := fun t vs => [Own intEK (sv (vs.getD 0 (none, 0, 0))) t.found, Own intEK (sv (vs.getD 1 (none, 0, 0))) t.free, Own entryEK (sv (vs.getD 2 (none, 0, 0))) t.buffer, Own entryEK (sv (vs.getD 3 (none, 0, 0))) t.work, Own intEK (sv (vs.getD 4 (none, 0, 0))) t.limbo]
  K := Thread.K
  len := fun _ _ => rfl
  one := fun x vs u hu => by
    simp only [Thread.encv, List.mem_cons, List.not_mem_nil, or_false] at hu
    rcases hu with h | h | h | h | h | h | h | h | h | h | h | h | h | h | h | h | h | h | h <;> subst h <;> rfl
  rd := fun {x vs S w} h => ⟨_, _, _, _, _, rfl, own_rd (h.get (i := 0) rfl), own_rd (h.get (i := 1) rfl), own_rd (h.get (i := 2) rfl), own_rd (h.get (i := 3) rfl), own_rd (h.get (i := 4) rfl)⟩
  ext := fun hb ⟨v1, v2, v3, v4, v5, h, h1, h2, h3, h4, h5⟩ => ⟨v1, v2, v3, v4, v5, h, h1.mov hb, h2.mov hb, h3.mov hb, h4.mov hb, h5.mov hb⟩
  klen := fun ⟨v1, v2, v3, v4, v5, h, _⟩ => by rw [h]; rfl
instance : DecidableEq Thread := fun a b => decidable_of_iff (a.pc = b.pc ∧ a.op = b.op ∧ a.result = b.result ∧ a.snapshot = b.snapshot ∧ a.node = b.node ∧ a.prev = b.prev ∧ a.curr = b.curr ∧ a.next = b.next ∧ a.seen = b.seen ∧ a.stamp = b.stamp ∧ a.at_ = b.at_ ∧ a.found = b.found ∧ a.free = b.free ∧ a.buffer = b.buffer ∧ a.work = b.work ∧ a.limbo = b.limbo) (by cases a; cases b; simp)
instance : Inhabited Thread := ⟨⟨0, ⟨0, 0, 0⟩, ⟨0, 0⟩, 0, 0, 0, 0, 0, 0, 0, 0, [], [], [], [], []⟩⟩
structure Model where
  values : List Int
  snapshots : List (List Int)
def Model.encv (m : Model) (v1 v2 : Value) : List Value := [v1, v2]
@[reducible] def Model.K (w : World) (m : Model) (cs : List Value) : Prop := ∃ v1 v2, cs = m.encv v1 v2 ∧ intEK.Rd w v1 m.values ∧ (sliceEK intEK).Rd w v2 m.snapshots
def modelEK : EK Model where
  sz := 2
  cells := fun m vs => m.encv (sv (vs.getD 0 (none, 0, 0))) (sv (vs.getD 1 (none, 0, 0)))
  inner := fun m vs => [Own intEK (sv (vs.getD 0 (none, 0, 0))) m.values, Own (sliceEK intEK) (sv (vs.getD 1 (none, 0, 0))) m.snapshots]
  K := Model.K
  len := fun _ _ => rfl
  one := fun x vs u hu => by
    simp only [Model.encv, List.mem_cons, List.not_mem_nil, or_false] at hu
    rcases hu with h | h <;> subst h <;> rfl
  rd := fun {x vs S w} h => ⟨_, _, rfl, own_rd (h.get (i := 0) rfl), own_rd (h.get (i := 1) rfl)⟩
  ext := fun hb ⟨v1, v2, h, h1, h2⟩ => ⟨v1, v2, h, h1.mov hb, h2.mov hb⟩
  klen := fun ⟨v1, v2, h, _⟩ => by rw [h]; rfl
instance : DecidableEq Model := fun a b => decidable_of_iff (a.values = b.values ∧ a.snapshots = b.snapshots) (by cases a; cases b; simp)
structure State where
  config : Config
  cells : List Int
  generations : List Int
  threads : List Thread
  steps : Int
  changes : Int
  retries : Int
  faults : Int
def State.encv (s : State) (v0 v1 v2 : Value) : List Value := [vi s.config.threads, vi s.config.keys, vi s.config.capacity, vi s.config.batch, vi s.config.policy, vi s.config.clockMax, v0, v1, v2, vi s.steps, vi s.changes, vi s.retries, vi s.faults]
@[reducible] def State.K (w : World) (s : State) (cs : List Value) : Prop := ∃ v0 v1 v2, cs = s.encv v0 v1 v2 ∧ intEK.Rd w v0 s.cells ∧ intEK.Rd w v1 s.generations ∧ threadEK.Rd w v2 s.threads
def stateEK : EK State where
  sz := 13
  cells := fun s vs => s.encv (sv (vs.getD 0 (none, 0, 0))) (sv (vs.getD 1 (none, 0, 0))) (sv (vs.getD 2 (none, 0, 0)))
  inner := fun s vs => [Own intEK (sv (vs.getD 0 (none, 0, 0))) s.cells, Own intEK (sv (vs.getD 1 (none, 0, 0))) s.generations, Own threadEK (sv (vs.getD 2 (none, 0, 0))) s.threads]
  K := State.K
  len := fun _ _ => rfl
  one := fun x vs u hu => by
    simp only [State.encv, List.mem_cons, List.not_mem_nil, or_false] at hu
    rcases hu with h | h | h | h | h | h | h | h | h | h | h | h | h <;> subst h <;> rfl
  rd := fun {x vs S w} h => ⟨_, _, _, rfl, own_rd (h.get (i := 0) rfl), own_rd (h.get (i := 1) rfl), own_rd (h.get (i := 2) rfl)⟩
  ext := fun hb ⟨v0, v1, v2, h, h1, h2, h3⟩ => ⟨v0, v1, v2, h, h1.mov hb, h2.mov hb, h3.mov hb⟩
  klen := fun ⟨v0, v1, v2, h, _⟩ => by rw [h]; rfl
instance : DecidableEq State := fun a b => decidable_of_iff (a.config = b.config ∧ a.cells = b.cells ∧ a.generations = b.generations ∧ a.threads = b.threads ∧ a.steps = b.steps ∧ a.changes = b.changes ∧ a.retries = b.retries ∧ a.faults = b.faults) (by cases a; cases b; simp)
structure Machine where
  state : State
  programs : List (List Op)
  next : List Int
  events : List Event
  time : Int
def Machine.encv (m : Machine) (v0 v1 v2 v3 v4 v5 : Value) : List Value := [vi m.state.config.threads, vi m.state.config.keys, vi m.state.config.capacity, vi m.state.config.batch, vi m.state.config.policy, vi m.state.config.clockMax, v0, v1, v2, vi m.state.steps, vi m.state.changes, vi m.state.retries, vi m.state.faults, v3, v4, v5, vi m.time]
@[reducible] def Machine.K (w : World) (m : Machine) (cs : List Value) : Prop := ∃ v0 v1 v2 v3 v4 v5, cs = m.encv v0 v1 v2 v3 v4 v5 ∧ intEK.Rd w v0 m.state.cells ∧ intEK.Rd w v1 m.state.generations ∧ threadEK.Rd w v2 m.state.threads ∧ (sliceEK opEK).Rd w v3 m.programs ∧ intEK.Rd w v4 m.next ∧ eventEK.Rd w v5 m.events
def machineEK : EK Machine where
  sz := 17
  cells := fun m vs => m.encv (sv (vs.getD 0 (none, 0, 0))) (sv (vs.getD 1 (none, 0, 0))) (sv (vs.getD 2 (none, 0, 0))) (sv (vs.getD 3 (none, 0, 0))) (sv (vs.getD 4 (none, 0, 0))) (sv (vs.getD 5 (none, 0, 0)))
  inner := fun m vs => [Own intEK (sv (vs.getD 0 (none, 0, 0))) m.state.cells, Own intEK (sv (vs.getD 1 (none, 0, 0))) m.state.generations, Own threadEK (sv (vs.getD 2 (none, 0, 0))) m.state.threads, Own (sliceEK opEK) (sv (vs.getD 3 (none, 0, 0))) m.programs, Own intEK (sv (vs.getD 4 (none, 0, 0))) m.next, Own eventEK (sv (vs.getD 5 (none, 0, 0))) m.events]
  K := Machine.K
  len := fun _ _ => rfl
  one := fun x vs u hu => by
    simp only [Machine.encv, List.mem_cons, List.not_mem_nil, or_false] at hu
    rcases hu with h | h | h | h | h | h | h | h | h | h | h | h | h | h | h | h | h <;> subst h <;> rfl
  rd := fun {x vs S w} h => ⟨_, _, _, _, _, _, rfl, own_rd (h.get (i := 0) rfl), own_rd (h.get (i := 1) rfl), own_rd (h.get (i := 2) rfl), own_rd (h.get (i := 3) rfl), own_rd (h.get (i := 4) rfl), own_rd (h.get (i := 5) rfl)⟩
  ext := fun hb ⟨v0, v1, v2, v3, v4, v5, h, h1, h2, h3, h4, h5, h6⟩ => ⟨v0, v1, v2, v3, v4, v5, h, h1.mov hb, h2.mov hb, h3.mov hb, h4.mov hb, h5.mov hb, h6.mov hb⟩
  klen := fun ⟨v0, v1, v2, v3, v4, v5, h, _⟩ => by rw [h]; rfl
instance : DecidableEq Machine := fun a b => decidable_of_iff (a.state = b.state ∧ a.programs = b.programs ∧ a.next = b.next ∧ a.events = b.events ∧ a.time = b.time) (by cases a; cases b; simp)
theorem place_uniq {sz i i' j j' : Nat} (hj : j < sz) (hj' : j' < sz) (h : i * sz + j = i' * sz + j') : i = i' ∧ j = j' := by
 have e1 : (i * sz + j) / sz = i := by
   rw [Nat.mul_comm, Nat.mul_add_div (by omega), Nat.div_eq_of_lt hj, Nat.add_zero]
 have e2 : (i' * sz + j') / sz = i' := by
   rw [Nat.mul_comm, Nat.mul_add_div (by omega), Nat.div_eq_of_lt hj', Nat.add_zero]
 have e : i = i' := by rw [← e1, ← e2, h]
 subst e
 exact ⟨rfl, by omega⟩
/-- a row of one's own, looked at: where its element i lies -/
theorem Sep.own_at {α : Type} {ek : EK α} {w0 w : World} {l : List Res} {q i m c g o : Nat} {v : Value} {xs : List α} {x : α} (h : Sep w0 l w) (hq : l[q]? = some (Own ek v xs)) (hv : v = .slice (some ⟨g, o, none⟩) m c) (hx : xs[i]? = some x) {j : Nat} (hj : j < ek.sz) :
    (∃ u, w.cell? ⟨g, o + i * ek.sz + j, none⟩ = some u) ∧ w.frozen? ⟨g, o + i * ek.sz + j, none⟩ = false := by
  obtain ⟨A, n, c', h1, h2, h3, h4⟩ := h.sat.get hq
  rcases h4 with ⟨rfl, rfl⟩ | ⟨g', o', cur, T, vs, e, hS, hg, hr, f, f1, f2, f3⟩
  · simp at hx
  · subst e
    rw [hv] at h1
    simp only [Value.slice.injEq, Option.some.injEq, Addr.mk.injEq] at h1
    obtain ⟨⟨rfl, rfl, _⟩, rfl, rfl⟩ := h1
    refine ⟨?_, frozen_of hg⟩
    rw [cell_of hg]
    have hl : j < (ek.cells x (vs i)).length := by rw [ek.len]; exact hj
    exact ⟨_, hr.at_ i x hx j _ (List.getElem?_eq_getElem hl)⟩
theorem Sep.own_set {α : Type} {ek : EK α} {w0 w : World} {l : List Res} {q i m c g o : Nat} {v : Value} {xs : List α} {x x' : α} (h : Sep w0 l w) (hq : l[q]? = some (Own ek v xs)) (hv : v = .slice (some ⟨g, o, none⟩) m c) (hx : xs[i]? = some x)
    {j : Nat} {u : Value} (hj : j < ek.sz) (he : ∀ vs, ek.cells x' vs = (ek.cells x vs).set j u) (hin : ∀ vs, ek.inner x' vs = ek.inner x vs) :
    Sep w0 (l.set q (Own ek v (xs.set i x'))) (w.setCell ⟨g, o + i * ek.sz + j, none⟩ u) := by
  have hlt := (List.getElem?_eq_some_iff.1 hx).1
  refine h.upd hq rfl rfl rfl (by simp) (fun F hF hs => ?_)
  obtain ⟨A, n, c', h1, h2, h3, h4⟩ := hF
  rcases h4 with ⟨rfl, rfl⟩ | ⟨g', o', cur, T, vs, e, hS, hg, hr, f, f1, f2, f3⟩
  · simp at hx
  · subst e
    rw [hv] at h1
    simp only [Value.slice.injEq, Option.some.injEq, Addr.mk.injEq] at h1
    obtain ⟨⟨rfl, rfl, _⟩, rfl, rfl⟩ := h1
    refine ⟨⟨some ⟨g, o, none⟩, m, c, hv, by simp [h2], h3, .inr ⟨g, o, cur.setIfInBounds (o + i * ek.sz + j) u, T, vs, rfl, .inl hS, heap_setCell_at hg u, ⟨by simpa using hr.room, by simpa using hr.fits, ?_⟩, f, ?_, fun i k hf => ⟨.inl (f2 i k hf).1, (f2 i k hf).2⟩, f3⟩⟩, fun k hk hn => Below.heap_setCell _ _ _ _ (fun e => hn (e ▸ hS))⟩
    · intro i' x1 hx1 j' u1 hu1
      have hj' : j' < ek.sz := by
        have := (List.getElem?_eq_some_iff.1 hu1).1
        rwa [ek.len] at this
      by_cases ei : i' = i
      · subst ei
        rw [List.getElem?_set_self hlt] at hx1
        obtain rfl := Option.some.inj hx1
        rw [he] at hu1
        by_cases ej : j' = j
        · subst ej
          have hl : j' < (ek.cells x (vs i')).length := by rw [ek.len]; exact hj'
          rw [List.getElem?_set_self hl] at hu1
          obtain rfl := Option.some.inj hu1
          have := hr.at_ i' x hx j' _ (List.getElem?_eq_getElem hl)
          have hb := (Array.getElem?_eq_some_iff.1 this).1
          simp [hb]
        · rw [List.getElem?_set_ne (fun h => ej h.symm)] at hu1
          rw [Array.getElem?_setIfInBounds_ne (by omega)]
          exact hr.at_ i' x hx j' u1 hu1
      · rw [List.getElem?_set_ne (fun h => ei h.symm)] at hx1
        rw [Array.getElem?_setIfInBounds_ne (fun h => ei (place_uniq hj hj' (by omega)).1.symm)]
        exact hr.at_ i' x1 hx1 j' u1 hu1
    · intro i' x1 hx1
      refine Sat.loc ?_ (fun k hk => Below.heap_setCell _ _ _ _ (fun e => (f2 i' k hk).2 e))
      by_cases ei : i' = i
      · subst ei
        rw [List.getElem?_set_self hlt] at hx1
        obtain rfl := Option.some.inj hx1
        rw [hin]
        exact f1 i' x hx
      · rw [List.getElem?_set_ne (fun h => ei h.symm)] at hx1
        exact f1 i' x1 hx1
section
variable {P : Program} {ops : Array Oper} {Q : Exit → Act → World → Prop} {a : Act} {w w0 : World} {rest : List Oper} {n d : Nat} {L : List (Nat × Value)} {l : List Res} {v u : Value}
variable {ty : TypeId} {ps : String} {af : Array Edge}
/-- a store of one cell into an element of a row of one's own -/
theorem wl_ostore {α : Type} {ek : EK α} {T : TypeId} {X Y : Operand} {q i j m c g o p : Nat} {xs : List α} {x : α} (x' : α) (hF : Fr n L a) (hS : Sep w0 l w) (hq : l[q]? = some (Own ek v xs)) (hv : v = .slice (some ⟨g, o, none⟩) m c) (hx : xs[i]? = some x)
    (hj : j < ek.sz) (he : ∀ vs, ek.cells x' vs = (ek.cells x vs).set j u) (hin : ∀ vs, ek.inner x' vs = ek.inner x vs) (hsz : szB P T = some 1) (hp : a.eval X = .pointer (some ⟨g, p, none⟩)) (hpe : p = o + i * ek.sz + j) (hy : a.eval Y = u)
    (h1 : u.oneCell' = true) (k : ∀ w', Sep w0 (l.set q (Own ek v (xs.set i x'))) w' → wpList P ops Q rest a w') : wpList P ops Q (⟨none, .store T X Y, ty, ps, af, none⟩ :: rest) a w := by
  subst hpe
  refine wl0 (w' := w.setCell ⟨g, o + i * ek.sz + j, none⟩ u) hF rfl rfl ?_ (k _ (hS.own_set hq hv hx hj he hin))
  obtain ⟨⟨u0, hc⟩, hf⟩ := hS.own_at hq hv hx hj
  exact r_store1 hsz hp hy h1 hc hf
/-- a whole struct is stored into a box -/
theorem Sep.box_row {i g o : Nat} {cs vs : List Value} (h : Sep w0 l w) (hi : l[i]? = some (Box g cs)) (hl : o + vs.length ≤ cs.length) (h1 : ∀ u ∈ vs, u.oneCell' = true) :
    ∃ w', (storeCells ⟨g, o, none⟩ vs).run P w = .ok () w' ∧ Sep w0 (l.set i (Box g (cs.take o ++ vs ++ cs.drop (o + vs.length)))) w' := by
  obtain ⟨_, T, hT⟩ := h.sat.get hi
  have hst := run_storeCells_at P g o T vs 0 cs.toArray w hT (by simpa using hl) h1
  simp only [Nat.add_zero] at hst
  refine ⟨_, hst, h.upd hi rfl rfl rfl (by simp [World.setRow]) (fun F hF hs => ?_)⟩
  obtain ⟨hg, T, hT⟩ := hF
  refine ⟨⟨.inl hg, T, by simp [World.setRow, Array.getElem?_modify, hT]⟩, fun k hk hn => ?_⟩
  simp only [World.setRow, Array.getElem?_modify]
  rw [if_neg (fun e => hn (by rw [← e]; exact hg))]
theorem r_storen {ρ : Operand → Value} {D : Option Tmp} {gd : Option (Nat × Bool)} {T : TypeId} {x y : Operand} {g q : Nat} {vs : List Value} {w' : World} (hsz : szB P T = some vs.length) (hp : ρ x = .pointer (some ⟨g, q, none⟩)) (hy : ρ y = .agg vs.toArray) (hr : (storeCells ⟨g, q, none⟩ vs).run P w = .ok () w') :
    (execOp ρ ⟨D, .store T x y, ty, ps, af, gd⟩).run P w = .ok .skip w' := by
  have hs := run_sizeOf (P := P) (w := w) hsz
  have hst : (storeVar T ⟨g, q, none⟩ (.agg vs.toArray)).run P w = .ok () w' := by
    simp [storeVar, Value.cells, hs, hr]
  simp [execOp, hp, hy, Instr.storeAt, Instr.sureAddr, hst]
theorem wl_storen {T : TypeId} {x y : Operand} {i g q : Nat} {cs vs cs' : List Value} (hF : Fr n L a) (hS : Sep w0 l w) (hi : l[i]? = some (Box g cs)) (hp : a.eval x = .pointer (some ⟨g, q, none⟩)) (hy : a.eval y = .agg vs.toArray) (hsz : szB P T = some vs.length)
    (hl : longB (cs.drop q) vs = true ∧ ((cs.drop q)[0]?).isSome = true) (h1 : vs.all (fun u => u.oneCell') = true) (he : cs.take q ++ vs ++ cs.drop (q + vs.length) = cs') (k : ∀ w', Sep w0 (l.set i (Box g cs')) w' → wpList P ops Q rest a w') : wpList P ops Q (⟨none, .store T x y, ty, ps, af, none⟩ :: rest) a w := by
  subst he
  obtain ⟨w', hr, hS'⟩ := hS.box_row (P := P) hi (long_fits hl.1 hl.2) (fun u hu => List.all_eq_true.1 h1 u hu)
  exact wl0 (w' := w') hF rfl rfl (r_storen hsz hp hy hr) (k _ hS')
end
/-- a slice type: its element's zero cells, cells, bytes -/
def mkB (P : Program) (t : TypeId) : Option (List Value × Nat × Nat) :=
  match P.underlying t with
  | some (.slice e) => (P.info? e).bind fun i => i.zero.map fun z => (z.cells.toList, i.size, i.bytes)
  | _ => none
theorem mkB_parts {P : Program} {t : TypeId} {zs : List Value} {sz b : Nat} (h : mkB P t = some (zs, sz, b)) : ∃ e i z, P.underlying t = some (.slice e) ∧ P.info? e = some i ∧ i.zero = some z ∧ z.cells.toList = zs ∧ i.size = sz ∧ i.bytes = b := by
 unfold mkB at h
 split at h
 · rename_i e he
   obtain ⟨i, hi, h⟩ := Option.bind_eq_some_iff.1 h
   obtain ⟨z, hz, h⟩ := Option.map_eq_some_iff.1 h
   simp only [Prod.mk.injEq] at h
   exact ⟨e, i, z, he, hi, hz, h.1, h.2.1, h.2.2⟩
 · simp at h
theorem made_at {zs : Array Value} {sz m i j : Nat} {u : Value} (hz : zs.size = sz) (hu : zs.toList[j]? = some u) (hi : i < m) : (madeCells zs (m * sz)).toList[i * sz + j]? = some u := by
 have hj : j < sz := by
   have := (List.getElem?_eq_some_iff.1 hu).1
   simpa [hz] using this
 have hlt : i * sz + j < m * sz := by
   calc i * sz + j < i * sz + sz := by omega
     _ = (i + 1) * sz := by rw [Nat.add_mul, Nat.one_mul]
     _ ≤ m * sz := Nat.mul_le_mul_right _ hi
 have hmod : (i * sz + j) % sz = j := by rw [Nat.mul_comm, Nat.mul_add_mod, Nat.mod_eq_of_lt hj]
 simp only [madeCells, Array.toList_map, List.getElem?_map]
 rw [show (Array.range (m * sz)).toList[i * sz + j]? = some (i * sz + j) by simp [hlt]]
 simp only [Option.map_some, hz, hmod]
 have : zs[j]? = some u := by simpa using hu
 obtain ⟨h1, h2⟩ := Array.getElem?_eq_some_iff.1 this
 rw [getElem!_pos zs j h1, h2]
section
variable {P : Program} {ops : Array Oper} {Q : Exit → Act → World → Prop} {a : Act} {w w0 : World} {rest : List Oper} {n d : Nat} {L : List (Nat × Value)} {l : List Res} {v u : Value}
variable {ty : TypeId} {ps : String} {af : Array Edge}
theorem r_make {ρ : Operand → Value} {D : Option Tmp} {gd : Option (Nat × Bool)} {T : TypeId} {X : Operand} {m : Int} {v : Value} {w' : World} (hx : ρ X = .int .i64 m) (hr : (Instr.makeSlice T (.int .i64 m) (.int .i64 m)).run P w = .ok v w') :
    (execOp ρ ⟨D, .makeSlice T X X, ty, ps, af, gd⟩).run P w = .ok (.value v) w' := by
  simp [execOp, hx, hr]
theorem heap_setRow_at {g : Nat} {cur cs : Array Value} {T : TypeId} {fz : Nat × Nat} (h : w.heap[g]? = some (.cells cur T fz)) : (w.setRow g cs).heap[g]? = some (.cells cs T fz) := by
 simp [World.setRow, Array.getElem?_modify, h]
theorem r_append {ρ : Operand → Value} {D : Option Tmp} {gd : Option (Nat × Bool)} {T T' : TypeId} {X Y : Operand} {u v r : Value} {w' : World} (hX : ρ X = v) (hY : ρ Y = u) (hr : (Builtin.append_ #[T, T'] ty #[v, u]).run P w = .ok r w') :
    (execOp ρ ⟨D, .call ⟨.builtin .append, #[X, Y], #[T, T']⟩, ty, ps, af, gd⟩).run P w = .ok (.value r) w' := by
  simp [execOp, resolve, invoke, builtin, hX, hY, hr]
theorem wl_make {α : Type} (ek : EK α) {T : TypeId} {X : Operand} {m b : Nat} {zs : List Value} (x : α) (vs : List Slv) (hF : Fr n L a) (hS : Sep w0 l w) (hdn : Nat.ble (d + 1) n = true) (hm : mkB P T = some (zs, ek.sz, b)) (hz : zs = ek.cells x vs)
    (hin : ∀ w, Sat (ek.inner x vs) (fun _ => False) w) (hx : a.eval X = .int .i64 (m : Int)) (hb : b * m ≤ 281474976710656) (hmm : m ≤ maxLen)
    (k : ∀ g w' a, Sep w0 (Own ek (.slice (some ⟨g, 0, none⟩) m m) (List.replicate m x) :: l) w' → Fr n ((d, .slice (some ⟨g, 0, none⟩) m m) :: L) a → wpList P ops Q rest a w') : wpList P ops Q (⟨some d, .makeSlice T X X, ty, ps, af, none⟩ :: rest) a w := by
  obtain ⟨e, i, z, he, hi, hzz, hzs, hsz, hby⟩ := mkB_parts hm
  obtain ⟨w', hrun, hown, hg⟩ := run_make_full (P := P) w w.heap.size T e i z ek.sz he hi hzz hsz .i64 .i64 m (by rw [hby]; exact hb) hmm (Nat.le_refl _)
  refine wl (w' := w') (v := .slice (some ⟨w.heap.size, 0, none⟩) m m) hF rfl rfl hdn (r_make hx hrun) (fun a hF => k _ _ _ ?_ hF)
  refine hS.new ⟨hg.os, hg.tape, hg.output, hg.size, fun k hk => hg.block k hk (by simp)⟩ ?_
  obtain ⟨hlen, hown⟩ := hown
  rcases hown with ⟨h, _⟩ | ⟨g, cap, cur, hv, hbase, hh, h1, h2, h3, h4⟩
  · simp at h
  · simp only [Value.slice.injEq, Option.some.injEq, Addr.mk.injEq] at hv
    obtain ⟨⟨rfl, _, _⟩, _, rfl⟩ := hv
    have hlt : w.heap.size < w'.heap.size := (Array.getElem?_eq_some_iff.1 hh).1
    refine ⟨_, _, _, rfl, by simp, h2, .inr ⟨w.heap.size, 0, cur, e, fun _ => vs, rfl, ⟨Nat.le_refl _, hlt⟩, hh, ⟨by omega, by simp, ?_⟩, fun _ _ => False, ?_, by simp, by simp⟩⟩
    · intro i' x' hx' j u' hu
      rw [List.getElem?_replicate] at hx'
      split at hx'
      · rename_i hi'
        obtain rfl := Option.some.inj hx'
        have hzl : z.cells.size = ek.sz := by
          have := congrArg List.length hzs
          rw [hz, ek.len] at this
          simpa using this
        have := made_at (m := m) (i := i') hzl (by rw [hzs, hz]; exact hu) hi'
        rw [← h4] at this
        rw [List.getElem?_take] at this
        split at this
        · simpa using this
        · simp at this
      · simp at hx'
    · intro i' x' hx'
      rw [List.getElem?_replicate] at hx'
      split at hx'
      · obtain rfl := Option.some.inj hx'
        exact hin w'
      · simp at hx'
/-- what a flat row's elements are, one behind the other -/
def flatC {α : Type} (enc : α → List Value) (xs : List α) : List Value := xs.flatMap enc
theorem flatC_len {α : Type} {enc : α → List Value} {sz : Nat} (hl : ∀ x, (enc x).length = sz) : ∀ xs : List α, (flatC enc xs).length = xs.length * sz
  | [] => by simp [flatC]
  | x :: xs => by
    have := flatC_len hl xs
    simp only [flatC, List.flatMap_cons, List.length_append, List.length_cons, hl] at *
    rw [this, Nat.add_mul]; omega
theorem flatC_at {α : Type} {enc : α → List Value} {sz : Nat} (hl : ∀ x, (enc x).length = sz) : ∀ (xs : List α) (i : Nat) (x : α) (j : Nat) (u : Value), xs[i]? = some x → (enc x)[j]? = some u → (flatC enc xs)[i * sz + j]? = some u
  | [], i, x, j, u, h, _ => by simp at h
  | y :: xs, i, x, j, u, h, hu => by
    have hj : j < sz := by
      have := (List.getElem?_eq_some_iff.1 hu).1
      rwa [hl] at this
    cases i with
    | zero =>
      simp only [List.getElem?_cons_zero, Option.some.injEq] at h
      subst h
      simp only [flatC, List.flatMap_cons, Nat.zero_mul, Nat.zero_add]
      rw [List.getElem?_append_left (by rw [hl]; exact hj)]
      exact hu
    | succ i =>
      simp only [List.getElem?_cons_succ] at h
      have := flatC_at hl xs i x j u h hu
      simp only [flatC, List.flatMap_cons] at *
      rw [List.getElem?_append_right (by rw [hl, Nat.add_mul]; omega), hl, show (i + 1) * sz + j - sz = i * sz + j by rw [Nat.add_mul]; omega]
      exact this
theorem flatC_inv {α : Type} {enc : α → List Value} {sz : Nat} (hl : ∀ x, (enc x).length = sz) : ∀ (xs : List α) (p : Nat) (u : Value), (flatC enc xs)[p]? = some u → ∃ i x j, xs[i]? = some x ∧ (enc x)[j]? = some u ∧ p = i * sz + j
  | [], p, u, h => by simp [flatC] at h
  | y :: xs, p, u, h => by
    simp only [flatC, List.flatMap_cons] at h
    by_cases hp : p < (enc y).length
    · rw [List.getElem?_append_left hp] at h
      exact ⟨0, y, p, rfl, h, by simp⟩
    · rw [List.getElem?_append_right (by omega)] at h
      obtain ⟨i, x, j, h1, h2, h3⟩ := flatC_inv hl xs _ u h
      rw [hl] at h3 hp
      exact ⟨i + 1, x, j, by simpa using h1, h2, by rw [Nat.add_mul]; omega⟩
/-- the cells of a flat row that is read -/
theorem Rd.cells {α : Type} {sz : Nat} {enc : α → List Value} {hl : ∀ x, (enc x).length = sz} {h1 : ∀ x u, u ∈ enc x → u.oneCell' = true} {w : World} {v : Value} {xs : List α} (h : (flatEK sz enc hl h1).Rd w v xs) :
    ∃ A c, v = .slice A xs.length c ∧ xs.length ≤ c ∧ ∀ g o, A = some ⟨g, o, none⟩ → ∀ p u, (flatC enc xs)[p]? = some u → w.cell? ⟨g, o + p, none⟩ = some u := by
  obtain ⟨A, m, c, rfl, rfl, h3, _, h4⟩ := h
  refine ⟨A, c, rfl, h3, fun g o hA p u hp => ?_⟩
  obtain ⟨i, x, j, hx, hu, rfl⟩ := flatC_inv hl xs p u hp
  obtain ⟨g', o', hA', cs, hk, _, hc⟩ := h4 i x hx
  rw [hA] at hA'
  simp only [Option.some.injEq, Addr.mk.injEq] at hA'
  obtain ⟨rfl, rfl, _⟩ := hA'
  obtain rfl : cs = enc x := hk
  rw [← Nat.add_assoc]
  exact hc j u hu
/-- append's outcome, whatever the two slices -/
theorem run_append_any {α : Type} {sz b : Nat} {enc : α → List Value} {hl : ∀ x, (enc x).length = sz} {h1 : ∀ x u, u ∈ enc x → u.oneCell' = true} {T e : TypeId} {i : TypeInfo} {z : Value} (he : P.underlying T = some (.slice e)) (hi : P.info? e = some i) (hz : i.zero = some z)
    (hzl : z.cells.size = sz) (hsz : i.size = sz) (hby : i.bytes = b) {S : Nat → Prop} {xs ys : List α} (hv : (Own (flatEK sz enc hl h1) v xs).P S w) (hu : (flatEK sz enc hl h1).Rd w u ys)
    (hys : 0 < ys.length → ∃ g o m c, u = .slice (some ⟨g, o, none⟩) m c) (hb : (xs.length + ys.length) * b ≤ 140737488355328) (hn : xs.length + ys.length ≤ maxLen) :
    ∃ A c w', (Builtin.append_ #[T, T] ty #[v, u]).run P w = .ok (.slice A (xs.length + ys.length) c) w' ∧ w'.os = w.os ∧ w'.tape = w.tape ∧ w'.output = w.output ∧ w.heap.size ≤ w'.heap.size ∧
      (Own (flatEK sz enc hl h1) (.slice A (xs.length + ys.length) c) (xs ++ ys)).P (fun k => S k ∨ (w.heap.size ≤ k ∧ k < w'.heap.size)) w' ∧ (∀ k, k < w.heap.size → ¬ S k → w'.heap[k]? = w.heap[k]?) := by
  obtain ⟨B, c2, rfl, hc2, hcu⟩ := Rd.cells hu
  have hv0 := hv
  obtain ⟨A, m, c, rfl, rfl, hcm, hrow⟩ := hv
  rcases Nat.eq_zero_or_pos ys.length with h0 | hpos
  · -- nothing is appended
    have hnil : ys = [] := List.eq_nil_of_length_eq_zero h0
    subst hnil
    have hxc : xs.length ≤ c := by
      rcases hrow with ⟨rfl, rfl⟩ | ⟨_, _, _, _, _, _, _, _, hr, _⟩
      · simp
      · exact hr.fits
    refine ⟨A, c, w, ?_, rfl, rfl, rfl, Nat.le_refl _, ?_, fun _ _ _ => rfl⟩
    · cases A <;> cases B <;> simp [Builtin.append_, run_underlying he, sizeOf, typeInfo, hi, Builtin.lenOf, hxc, Builtin.firstCells, loadCells, loadCellsFrom, storeCells, go_sem]
    · simp only [List.length_nil, Nat.add_zero, List.append_nil]
      exact Res.mono _ (fun k hk => .inl hk) hv0
  · obtain ⟨b2, o2, m2, c2', hB⟩ := hys hpos
    simp only [Value.slice.injEq] at hB
    obtain ⟨rfl, _, _⟩ := hB
    have hnews : ∀ j x, (flatC enc ys)[j]? = some x → w.cell? ((⟨b2, o2, none⟩ : Addr).add j) = some x := fun j x hx => by rw [Addr.add_lit]; exact hcu _ _ rfl j x hx
    have hnl : (flatC enc ys).length = ys.length * i.size := by rw [flatC_len hl, hsz]
    have hone : ∀ x ∈ flatC enc ys, x.oneCell' = true := fun x hx => by
      simp only [flatC, List.mem_flatMap] at hx
      obtain ⟨y, _, hy⟩ := hx
      exact h1 y x hy
    by_cases hroom : xs.length + ys.length ≤ c
    · -- there is room
      rcases hrow with ⟨rfl, rfl⟩ | ⟨g, o, cur, T', vs, rfl, hS, hg, hr, f, f1, f2, f3⟩
      · have : ys.length ≤ 0 := by simpa using hroom
        omega
      · have hfit : o + xs.length * sz + (flatC enc ys).length ≤ cur.size := by
          rw [flatC_len hl]
          have hr1 := hr.room
          have : (xs.length + ys.length) * sz ≤ c * sz := Nat.mul_le_mul_right _ hroom
          rw [Nat.add_mul] at this
          simp only [flatEK] at hr1
          omega
        have hf := run_firstCells_some (P := P) w i.size ys.length ⟨b2, o2, none⟩ ys.length c2 _ hnl hnews
        have hst := run_storeCells_at P g (o + xs.length * sz) T' (flatC enc ys) 0 cur w hg (by simpa using hfit) hone
        simp only [Nat.add_zero] at hst
        refine ⟨some ⟨g, o, none⟩, c, w.setRow g (cur.toList.take (o + xs.length * sz) ++ flatC enc ys ++ cur.toList.drop (o + xs.length * sz + (flatC enc ys).length)).toArray, ?_, rfl, rfl, rfl, by simp [World.setRow], ?_, ?_⟩
        · subst hsz
          simp [Builtin.append_, run_underlying he, sizeOf, typeInfo, hi, Builtin.lenOf, hroom, hf, Addr.add_lit, hst]
        · refine ⟨some ⟨g, o, none⟩, xs.length + ys.length, c, rfl, by simp, hcm, .inr ⟨g, o, _, T', vs, rfl, .inl hS, heap_setRow_at hg, ⟨?_, by simpa using hroom, ?_⟩, f, fun i x hx => Sat.nil _ _, fun i k hf => ⟨.inl (f2 i k hf).1, (f2 i k hf).2⟩, f3⟩⟩
          · have := hr.room
            simp only [flatEK] at this ⊢
            simp
            omega
          · intro i' x hx j u' hu'
            simp only [flatEK] at hu' ⊢
            have hj : j < sz := by
              have := (List.getElem?_eq_some_iff.1 hu').1
              rwa [hl] at this
            by_cases hi' : i' < xs.length
            · rw [List.getElem?_append_left hi'] at hx
              have h2 := hr.at_ i' x hx j u' hu'
              simp only [flatEK] at h2
              have h3 : i' * sz + j < xs.length * sz := by
                calc i' * sz + j < i' * sz + sz := by omega
                  _ = (i' + 1) * sz := by rw [Nat.add_mul, Nat.one_mul]
                  _ ≤ xs.length * sz := Nat.mul_le_mul_right _ hi'
              simp only [List.getElem?_toArray]
              rw [List.append_assoc, List.getElem?_append_left (by simp; omega), List.getElem?_take, if_pos (by omega)]
              simpa using h2
            · rw [List.getElem?_append_right (by omega)] at hx
              have h2 := flatC_at hl ys _ x j u' hx hu'
              have h4 : i' * sz = xs.length * sz + (i' - xs.length) * sz := by rw [← Nat.add_mul]; congr 1; omega
              have h5 := (List.getElem?_eq_some_iff.1 h2).1
              simp only [List.getElem?_toArray]
              have hle : o + xs.length * sz ≤ cur.size := by omega
              rw [List.append_assoc, List.getElem?_append_right (by simp; omega), List.getElem?_append_left (by simp; omega)]
              simp only [List.length_take, Array.length_toList, Nat.min_eq_left hle]
              rw [show o + i' * sz + j - (o + xs.length * sz) = (i' - xs.length) * sz + j by omega]
              exact h2
        · intro k hk hn
          simp only [World.setRow, Array.getElem?_modify]
          rw [if_neg (fun e => hn (by rw [← e]; exact hS))]
    · -- a new row
      have hgrow : ∃ cp, xs.length + ys.length ≤ cp ∧ cp ≤ maxLen ∧ (Builtin.append_ #[T, T] ty #[.slice A xs.length c, .slice (some ⟨b2, o2, none⟩) ys.length c2]).run P w =
          .ok (.slice (some ⟨w.heap.size, 0, none⟩) (xs.length + ys.length) cp) (w.drew.alloc (.cells ((flatC enc xs).toArray ++ (flatC enc ys).toArray ++ Builtin.zeroCells z.cells (cp - (xs.length + ys.length))) e)) := by
        have hle : xs.length + ys.length ≤ grownCap w (xs.length + ys.length) c e := by simp [grownCap, Question.cut]
        have h63 : ((xs.length + ys.length : Nat) : Int) ≤ 9223372036854775807 := by simp only [maxLen] at hn; omega
        refine ⟨grownCap w (xs.length + ys.length) c e, hle, grownCap_le_maxLen _ _ _ _ hn, ?_⟩
        rcases hrow with ⟨rfl, rfl⟩ | ⟨g, o, cur, T', vs, rfl, hS, hg, hr, f, f1, f2, f3⟩
        · cases A with
          | none =>
            have := run_append_nil (P := P) w T ty e i z he hi hz ⟨b2, o2, none⟩ ys.length c2 _ hnl hnews hpos (by simp at h63; omega) (by rw [hby]; simp at hb; omega)
            simpa [flatC] using this
          | some ad => exact run_append_grow (P := P) w T ty e i z he hi hz ad 0 0 (flatC enc []) (by simp [flatC]) (fun j x hx => by simp [flatC] at hx) ⟨b2, o2, none⟩ ys.length c2 _ hnl hnews (by omega) h63 (by rw [hby]; exact growslice_fits (by omega) hb)
        · have holds : ∀ j x, (flatC enc xs)[j]? = some x → w.cell? ((⟨g, o, none⟩ : Addr).add j) = some x := fun j x hx => by
            obtain ⟨i', x', j', hx', hu', rfl⟩ := flatC_inv hl xs j x hx
            rw [Addr.add_lit, cell_of hg, ← Nat.add_assoc]
            exact hr.at_ i' x' hx' j' x hu'
          exact run_append_grow (P := P) w T ty e i z he hi hz ⟨g, o, none⟩ xs.length c (flatC enc xs) (by rw [flatC_len hl, hsz]) holds ⟨b2, o2, none⟩ ys.length c2 _ hnl hnews (by omega) h63 (by rw [hby]; exact growslice_fits (by omega) hb)
      obtain ⟨cp, hcp1, hcp2, hrun⟩ := hgrow
      refine ⟨_, _, _, hrun, rfl, rfl, rfl, by simp, ?_, fun k hk _ => Below.heap_alloc w.drew _ k hk⟩
      refine ⟨_, _, cp, rfl, by simp, hcp2, .inr ⟨w.heap.size, 0, _, e, fun _ => [], rfl, .inr ⟨Nat.le_refl _, by simp⟩, heap_alloc_new _ _, ⟨?_, by simpa using hcp1, ?_⟩, fun _ _ => False, fun _ _ _ => Sat.nil _ _, by simp, by simp⟩⟩
      · simp only [flatEK, Nat.zero_add, Array.size_append, List.size_toArray, flatC_len hl, size_zeroCells, hzl]
        rw [← Nat.add_mul, ← Nat.add_mul]
        exact Nat.mul_le_mul_right _ (by omega)
      · intro i' x hx j u' hu'
        simp only [flatEK] at hu' ⊢
        have hx' : (flatC enc (xs ++ ys))[i' * sz + j]? = some u' := flatC_at hl _ _ _ _ _ hx hu'
        have hlt := (List.getElem?_eq_some_iff.1 hx').1
        have happ : flatC enc (xs ++ ys) = flatC enc xs ++ flatC enc ys := by simp [flatC]
        rw [happ] at hx' hlt
        rw [Nat.zero_add, Array.getElem?_append_left (by simpa using hlt)]
        simpa using hx'
theorem wl_append {α : Type} {sz b q : Nat} {enc : α → List Value} {hl : ∀ x, (enc x).length = sz} {h1 : ∀ x u, u ∈ enc x → u.oneCell' = true} {T : TypeId} {X Y : Operand} {zs : List Value} {xs ys : List α} (hF : Fr n L a) (hS : Sep w0 l w) (hdn : Nat.ble (d + 1) n = true)
    (hq : l[q]? = some (Own (flatEK sz enc hl h1) v xs)) (hu : (flatEK sz enc hl h1).Rd w u ys) (hm : mkB P T = some (zs, sz, b)) (hzl : zs.length = sz) (hX : a.eval X = v) (hY : a.eval Y = u)
    (hb : (xs.length + ys.length) * b ≤ 140737488355328) (hn : xs.length + ys.length ≤ maxLen)
    (k : ∀ A c w' a, Sep w0 (l.set q (Own (flatEK sz enc hl h1) (.slice A (xs.length + ys.length) c) (xs ++ ys))) w' → Fr n ((d, .slice A (xs.length + ys.length) c) :: L) a → wpList P ops Q rest a w') :
    wpList P ops Q (⟨some d, .call ⟨.builtin .append, #[X, Y], #[T, T]⟩, ty, ps, af, none⟩ :: rest) a w := by
  obtain ⟨e, i, z, he, hi, hz, hzs, hsz, hby⟩ := mkB_parts hm
  obtain ⟨f, g1, g2, g3⟩ := hS.sat
  have hys : 0 < ys.length → ∃ g o m c, u = .slice (some ⟨g, o, none⟩) m c := fun hp => by
    obtain ⟨g, o, m, c, hv, _⟩ := Rd.idxF hu (i := 0) (List.getElem?_eq_getElem hp)
    exact ⟨g, o, m, c, hv⟩
  obtain ⟨A, c, w', hrun, e1, e2, e3, e4, hown, hk⟩ := run_append_any (P := P) (ty := ty) he hi hz (by rw [← hzl, ← hzs]; simp) hsz hby (g1 q _ hq) hu hys hb hn
  refine wl (w' := w') (v := .slice A (xs.length + ys.length) c) hF rfl rfl hdn (r_append hX hY hrun) (fun a hF => k _ _ _ _ ?_ hF)
  refine ⟨?_, ?_⟩
  · refine hS.old.trans ⟨e1, e2, e3, e4, fun k hk' => hk k (Nat.lt_of_lt_of_le hk' hS.old.size) (fun hf => ?_)⟩
    have := (g2 q k hf).1
    omega
  · refine Sat.mono (Sat.upd' ⟨f, g1, g2, g3⟩ (N := fun k => w.heap.size ≤ k ∧ k < w'.heap.size) hq (fun k h1 h2 => by omega) hown (fun k hk1 hk2 => hk k hk1.2 hk2) g1 g2 g3) (fun k hk => ?_)
    rcases hk with hk | hk
    · exact ⟨hk.1, Nat.lt_of_lt_of_le hk.2 e4⟩
    · exact ⟨Nat.le_trans hS.old.size hk.1, hk.2⟩
end
/-- a maker's contract: the value and the parts that it has made -/
def Mk {Γ : Type} (w : World) (val : Γ → Value) (l1 : Γ → List Res) : Value → World → Prop := fun v w' => ∃ γ, v = val γ ∧ Sep w (l1 γ) w'
/-! ### any order, the condition S asked for as long as no operation of 'muts' has come up -/
def phB (muts : List Nat) (listed : Array Bool) : Bool := muts.all fun m => !listed.getD m false
section
variable {P : Program} {ops : Array Oper} {Q : Exit → Act → World → Prop} {S : World → Prop} {muts : List Nat}
def wpM (P : Program) (ops : Array Oper) (Q : Exit → Act → World → Prop) (S : World → Prop) (muts : List Nat) : Nat → Array Bool → Act → World → Prop
  | 0, listed, a, w => Region.ready .any ops listed = [] ∧ Q .normal a w
  | fuel + 1, listed, a, w =>
    (Region.ready .any ops listed = [] → Q .normal a w) ∧
    ∀ i ∈ Region.ready .any ops listed, wpOp P ops Q i (fun a' w' => (phB muts (listed.setIfInBounds i true) = true → S w') ∧ wpM P ops Q S muts fuel (listed.setIfInBounds i true) a' w') a w
theorem wpAny_of_M : ∀ (fuel : Nat) (listed : Array Bool) (a : Act) (w : World), wpM P ops Q S muts fuel listed a w → wpAny P .any ops Q fuel listed a w
  | 0, _, _, _, h => h
  | fuel + 1, _, _, _, h => ⟨h.1, fun i hi => wpOp_mono (fun a' w' h' => wpAny_of_M fuel _ a' w' h'.2) (h.2 i hi)⟩
theorem phB_set {i : Nat} {listed : Array Bool} (hi : i ∉ muts) : phB muts (listed.setIfInBounds i true) = phB muts listed := by
 unfold phB
 rw [Bool.eq_iff_iff, List.all_eq_true, List.all_eq_true]
 refine forall_congr' fun m => forall_congr' fun hm => ?_
 rw [getD_set_ne false (fun e : i = m => hi (e ▸ hm))]
end
/-- several parts as one -/
def Many (l : List Res) : Res where
  P := fun S w => Sat l S w
  loc := fun h hk => hk.loc h
  mono := fun h hs => hs.mono h
theorem Sat.uncons {l : List Res} {r : Res} {S : Nat → Prop} {w : World} (h : Sat (r :: l) S w) : ∃ S0 S1 : Nat → Prop, r.P S0 w ∧ Sat l S1 w ∧ (∀ k, S0 k → S k) ∧ (∀ k, S1 k → S k) ∧ (∀ k, S0 k → S1 k → False) := by
 obtain ⟨f, h1, h2, h3⟩ := h
 refine ⟨f 0, fun k => ∃ i, f (i + 1) k, h1 0 r rfl, ⟨fun i => f (i + 1), fun i q hq => h1 (i + 1) q (by simpa using hq), fun i k hf => ⟨i, hf⟩, fun i j k hi hj => ?_⟩, h2 0, fun k ⟨i, hf⟩ => h2 _ k hf, fun k h0 ⟨i, hf⟩ => ?_⟩
 · have := h3 _ _ k hi hj; omega
 · have := h3 _ _ k h0 hf; omega
theorem Sep.many_nil {W w : World} {l : List Res} (h : Sep W l w) : Sep W (Many [] :: l) w :=
  ⟨h.old, Sat.cons (S1 := fun _ => False) h.sat (Sat.nil _ _) (fun k hk => hk.elim) (fun k hk => hk) (fun k hk _ => hk)⟩
/-- a part goes in with the many -/
theorem Sep.many_cons {W w : World} {l L : List Res} {r : Res} (h : Sep W (r :: Many L :: l) w) : Sep W (Many (r :: L) :: l) w := by
 obtain ⟨S0, S1, a1, a2, a3, a4, a5⟩ := h.sat.uncons
 obtain ⟨S2, S3, b1, b2, b3, b4, b5⟩ := a2.uncons
 refine ⟨h.old, Sat.cons (S := S3) (S1 := fun k => S0 k ∨ S2 k) b2 ?_ (fun k hk => hk.elim (a3 k) (fun h => a4 k (b3 k h))) (fun k hk => a4 k (b4 k hk)) (fun k h1 h2 => h1.elim (fun h => a5 k h (b4 k h2)) (fun h => b5 k h h2))⟩
 exact Sat.cons (S := S2) b1 a1 (fun k hk => .inl hk) (fun k hk => .inr hk) (fun k h1 h2 => a5 k h1 (b3 k h2))
theorem Sep.many_flat {W w : World} {l L : List Res} (h : Sep W (Many L :: l) w) : Sep W (L ++ l) w := by
 obtain ⟨S0, S1, a1, a2, a3, a4, a5⟩ := h.sat.uncons
 exact ⟨h.old, Sat.append a2 a1 a3 a4 a5⟩
theorem Sep.many_one {W w : World} {l L : List Res} {p : Nat} {r : Res} (h : Sep W (Many L :: l) w) (hp : L[p]? = some r) : Sep W (r :: l) w := by
 have hlt := (List.getElem?_eq_some_iff.1 hp).1
 refine h.many_flat.sub (fun i => match i with | 0 => p | i + 1 => L.length + i) ?_ ?_
 · intro i j _ _ e
   cases i <;> cases j <;> simp at e <;> omega
 · intro i q hq
   cases i with
   | zero => simp at hq; subst hq; simp only []; rw [List.getElem?_append_left hlt]; exact hp
   | succ i => simp only []; rw [List.getElem?_append_right (by omega), Nat.add_sub_cancel_left]; simpa using hq
/-- new parts go in behind the first -/
theorem Sep.behind {W w : World} {A B : List Res} {r : Res} (h : Sep W (A ++ r :: B) w) : Sep W (r :: (A ++ B)) w := by
 refine h.sub (fun i => match i with | 0 => A.length | i + 1 => if i < A.length then i else i + 1) ?_ ?_
 · intro i j _ _ e
   rcases i with _ | i <;> rcases j with _ | j <;> simp only [] at e
   · rfl
   · split at e <;> omega
   · split at e <;> omega
   · split at e <;> split at e <;> omega
 · intro i q hq
   rcases i with _ | i
   · simp at hq; subst hq; simp
   · simp only [List.getElem?_cons_succ] at hq
     simp only []
     split
     · rename_i hi; rw [List.getElem?_append_left hi] at hq ⊢; exact hq
     · rename_i hi
       rw [List.getElem?_append_right (by omega)] at hq ⊢
       rw [show i + 1 - A.length = (i - A.length) + 1 by omega]
       simpa using hq
/-- the allocations: number, slot, cells -/
abbrev Alcs := List (Nat × Nat × List Value)
/-- where a walk through a region stands: the allocations that have come up have their boxes; all blocks that stood at the start are as they were -/
structure At (T : Alcs) (wd W : World) (l : List Res) (rem : List Nat) (a : Act) (w : World) : Prop where
  s : Below wd.heap.size wd w
  box : ∃ gs : List (Nat × Nat × List Value), Sep W (Many (gs.map fun x => Box x.2.1 x.2.2) :: l) w ∧
    (∀ t ∈ T, t.1 ∉ rem → ∃ g, (t.1, g, t.2.2) ∈ gs ∧ a.tmps[t.2.1]? = some (.pointer (some ⟨g, 0, none⟩)))
theorem At.sep {T : Alcs} {wd W w : World} {l : List Res} {rem : List Nat} {a : Act} (h : At T wd W l rem a w) : Sep W l w := by
 obtain ⟨gs, h1, _⟩ := h.box
 exact h1.tail
/-- what is asked at the end: the region ends normally -/
def QN (Q : Exit → Act → World → Prop) : Exit → Act → World → Prop := fun e a w => e = .normal ∧ Q .normal a w
/-- what is still to come: the operations 'is' in this order, the allocations 'rem' at any time -/
def Todo (P : Program) (ops : Array Oper) (Q : Exit → Act → World → Prop) (wd : World) (muts rem is : List Nat) (a : Act) (w : World) : Prop :=
  ∀ listed : Array Bool, listed.size = ops.size → (∀ j, j < ops.size → listed.getD j false = (!is.contains j && !rem.contains j)) → wpM P ops (QN Q) (fun w => Below wd.heap.size wd w) muts (is.length + rem.length) listed a w
/-! ### what is asked of the region's edges -/
def waitsB (ops : Array Oper) (j : Nat) (on : Nat → Bool) : Bool :=
  match ops[j]? with
  | some o => o.after.any fun e => Region.binds .any e && on e.on
  | none => true
def depsB (ops : Array Oper) (j : Nat) (ok : Nat → Bool) : Bool :=
  match ops[j]? with
  | some o => o.after.all fun e => !Region.binds .any e || ok e.on
  | none => false
/-- the allocations are what the list says -/
def AlcOk (P : Program) (ops : Array Oper) : Alcs → Prop
  | [] => True
  | t :: T => (∃ ty ty' ps, ops[t.1]? = some ⟨some t.2.1, .alloc ty, ty', ps, #[], none⟩ ∧ zeroOf P ty = some t.2.2) ∧ AlcOk P ops T
theorem AlcOk.get {P : Program} {ops : Array Oper} : ∀ {T : Alcs}, AlcOk P ops T → ∀ t ∈ T, ∃ ty ty' ps, ops[t.1]? = some ⟨some t.2.1, .alloc ty, ty', ps, #[], none⟩ ∧ zeroOf P ty = some t.2.2
  | [], _, t, h => by cases h
  | u :: T, ⟨h1, h2⟩, t, h => by
    rcases List.mem_cons.1 h with rfl | h
    · exact h1
    · exact h2.get t h
/-- an operation that must come up next, but for allocations -/
def stepB (ops : Array Oper) (T : Alcs) (i : Nat) (is : List Nat) : Bool :=
  decide (i < ops.size) && !is.contains i && T.all (fun t => t.1 != i && !is.contains t.1) && is.all (fun j => waitsB ops j (fun k => k == i || is.contains k)) && depsB ops i (fun k => decide (k < ops.size) && k != i && !is.contains k)
/-- the end: one behind the other -/
def tailB (ops : Array Oper) : List Nat → Bool
  | [] => true
  | i :: is => decide (i < ops.size) && !is.contains i && is.all (fun j => waitsB ops j (fun k => k == i || is.contains k)) && depsB ops i (fun k => decide (k < ops.size) && k != i && !is.contains k) && tailB ops is
def finB (ops : Array Oper) (T : Alcs) (is : List Nat) : Bool :=
  is.all (fun j => T.all (fun t => waitsB ops j (fun k => k == t.1))) && T.all (fun t => !is.contains t.1) && tailB ops is
theorem waitsB_no {ops : Array Oper} {j : Nat} {on : Nat → Bool} {listed : Array Bool} (h : waitsB ops j on = true) (hon : ∀ k, on k = true → listed.getD k false = false) : j ∉ Region.ready .any ops listed := by
 intro hr
 obtain ⟨_, o, ho, hall⟩ := mem_ready.1 hr
 unfold waitsB at h
 rw [ho] at h
 obtain ⟨e, he, h2⟩ := Array.any_eq_true'.1 h
 simp only [Bool.and_eq_true] at h2
 have := hall e he h2.1
 rw [hon _ h2.2] at this
 cases this
theorem depsB_yes {ops : Array Oper} {j : Nat} {ok : Nat → Bool} {listed : Array Bool} (h : depsB ops j ok = true) (h0 : listed.getD j true = false) (hok : ∀ k, ok k = true → listed.getD k false = true) : j ∈ Region.ready .any ops listed := by
 unfold depsB at h
 split at h
 · rename_i o ho
   refine mem_ready.2 ⟨h0, o, ho, fun e he hb => ?_⟩
   have := Array.all_eq_true_iff_forall_mem.1 h e he
   simp only [hb, Bool.not_true, Bool.false_or] at this
   exact hok _ this
 · cases h
theorem getD_tf {listed : Array Bool} {j : Nat} (h : j < listed.size) : listed.getD j true = listed.getD j false := by simp [Array.getD, h]
section
variable {P : Program} {ops : Array Oper} {Q : Exit → Act → World → Prop} {wd W : World} {T : Alcs} {muts : List Nat} {n : Nat} {L : List (Nat × Value)} {l : List Res}
theorem listed_set {listed : Array Bool} {i : Nat} {is rem : List Nat} (hi : i < ops.size) (hsz : listed.size = ops.size) (hn : is.contains i = false) (hr : rem.contains i = false)
    (hl : ∀ j, j < ops.size → listed.getD j false = (!(i :: is).contains j && !rem.contains j)) : ∀ j, j < ops.size → (listed.setIfInBounds i true).getD j false = (!is.contains j && !rem.contains j) := by
  intro j hj
  by_cases e : i = j
  · subst e
    rw [hn, hr]
    simp [Array.getD, hsz, hj]
  · rw [getD_set_ne false e, hl j hj]
    have e' : ¬ j = i := fun h => e h.symm
    simp [List.contains_cons, e']
theorem listed_erase {listed : Array Bool} {r : Nat} {is rem : List Nat} (hi : r < ops.size) (hsz : listed.size = ops.size) (hn : is.contains r = false) (hnd : rem.Nodup)
    (hl : ∀ j, j < ops.size → listed.getD j false = (!is.contains j && !rem.contains j)) : ∀ j, j < ops.size → (listed.setIfInBounds r true).getD j false = (!is.contains j && !(rem.erase r).contains j) := by
  intro j hj
  by_cases e : r = j
  · subst e
    rw [hn]
    have : (rem.erase r).contains r = false := by
      simp [hnd.mem_erase_iff]
    rw [this]
    simp [Array.getD, hsz, hj]
  · rw [getD_set_ne false e, hl j hj]
    have : (rem.erase r).contains j = rem.contains j := by
      rw [Bool.eq_iff_iff]
      simp only [List.contains_iff_mem, hnd.mem_erase_iff]
      exact ⟨fun h => h.2, fun h => ⟨fun x => e x.symm, h⟩⟩
    rw [this]
theorem inj_of_nodup {α : Type} {f : α → Nat} : ∀ {T : List α}, (T.map f).Nodup → ∀ t ∈ T, ∀ u ∈ T, f u = f t → u = t
  | [], _, t, h, _, _, _ => by cases h
  | x :: T, h, t, ht, u, hu, e => by
    simp only [List.map_cons, List.nodup_cons, List.mem_map] at h
    rcases List.mem_cons.1 ht with rfl | ht' <;> rcases List.mem_cons.1 hu with rfl | hu'
    · rfl
    · exact (h.1 ⟨u, hu', e⟩).elim
    · exact (h.1 ⟨t, ht', e.symm⟩).elim
    · exact inj_of_nodup h.2 t ht' u hu' e
/-- one allocation comes up -/
theorem At.alloc {rem : List Nat} {a : Act} {w : World} {t : Nat × Nat × List Value} {ty : TypeId} (h : At T wd W l rem a w) (ht : t ∈ T) (h1 : (T.map (·.1)).Nodup) (h2 : (T.map (·.2.1)).Nodup) (hsz : t.2.1 < a.tmps.size) (hnd : rem.Nodup) :
    At T wd W l (rem.erase t.1) (a.put (some t.2.1) (.pointer (some ⟨w.heap.size, 0, none⟩))) (w.alloc (.cells t.2.2.toArray ty)) := by
  obtain ⟨gs, g1, g2⟩ := h.box
  refine ⟨h.s.alloc h.s.size _, (t.1, w.heap.size, t.2.2) :: gs, (g1.box_new t.2.2 ty).many_cons, fun u hu hr => ?_⟩
  by_cases e : u = t
  · subst e
    exact ⟨w.heap.size, by simp, by simp [Act.put, hsz]⟩
  · have hs : u.2.1 ≠ t.2.1 := fun x => e (inj_of_nodup h2 t ht u hu x)
    have hi : u.1 ≠ t.1 := fun x => e (inj_of_nodup h1 t ht u hu x)
    obtain ⟨g, m1, m2⟩ := g2 u hu (fun hm => hr ((hnd.mem_erase_iff).2 ⟨hi, hm⟩))
    exact ⟨g, List.mem_cons_of_mem _ m1, by simp [Act.put, Array.getElem?_setIfInBounds_ne (fun x => hs x.symm), m2]⟩
/-- a slot that is none of the allocations' -/
theorem At.put {rem : List Nat} {a : Act} {w : World} {d : Nat} {v : Value} (h : At T wd W l rem a w) (hd : ∀ t ∈ T, t.2.1 ≠ d) : At T wd W l rem (a.put (some d) v) w := by
 obtain ⟨gs, g1, g2⟩ := h.box
 refine ⟨h.s, gs, g1, fun u hu hr => ?_⟩
 obtain ⟨g, m1, m2⟩ := g2 u hu hr
 exact ⟨g, m1, by simp [Act.put, Array.getElem?_setIfInBounds_ne (fun x => hd u hu x.symm), m2]⟩
/-- new parts -/
theorem At.made {rem : List Nat} {a : Act} {w w' : World} {l1 : List Res} (h : At T wd W l rem a w) (hm : Sep w l1 w') : At T wd W (l1 ++ l) rem a w' := by
 obtain ⟨gs, g1, g2⟩ := h.box
 exact ⟨h.s.trans (hm.old.mono h.s.size), gs, (g1.add hm).behind, g2⟩
structure Lay (P : Program) (ops : Array Oper) (T : Alcs) (n : Nat) : Prop where
  ok : AlcOk P ops T
  d1 : (T.map (·.1)).Nodup
  d2 : (T.map (·.2.1)).Nodup
  lt : ∀ t ∈ T, t.2.1 < n
structure Rem (T : Alcs) (rem : List Nat) : Prop where
  nd : rem.Nodup
  sub : ∀ r ∈ rem, ∃ t ∈ T, t.1 = r
theorem Fr.putO {a : Act} {d : Nat} (h : Fr n L a) (hl : lk L d = none) (v : Value) : Fr n L (a.put (some d) v) := by
 refine ⟨by simp [Act.put, h.size], h.defs, fun t u ht => ?_⟩
 by_cases e : d = t
 · subst e; rw [hl] at ht; cases ht
 · simp [Act.put, Array.getElem?_setIfInBounds_ne e, h.get t u ht]
theorem wpOp_alloc {t : Nat × Nat × List Value} {a : Act} {w : World} {K : Act → World → Prop} {Q : Exit → Act → World → Prop} {ty ty' : TypeId} {ps : String} (ho : ops[t.1]? = some ⟨some t.2.1, .alloc ty, ty', ps, #[], none⟩) (hz : zeroOf P ty = some t.2.2)
    (k : K (a.put (some t.2.1) (.pointer (some ⟨w.heap.size, 0, none⟩))) (w.alloc (.cells t.2.2.toArray ty))) : wpOp P ops Q t.1 K a w := by
  unfold wpOp
  rw [ho]
  simp only [Region.wanted, if_true]
  left
  unfold Oper.wp
  rw [r_alloc hz]
  exact k
/-- the next in order, but for allocations, which may come up ahead of it -/
theorem todo_step {i : Nat} {is : List Nat} (hl : Lay P ops T n) (hL : ∀ t ∈ T, lk L t.2.1 = none) (hk : stepB ops T i is = true)
    (hop : ∀ rem a w, Rem T rem → Fr n L a → At T wd W l rem a w → wpOp P ops (QN Q) i (fun a' w' => Below wd.heap.size wd w' ∧ Todo P ops Q wd muts rem is a' w') a w) :
    ∀ rem a w, Rem T rem → Fr n L a → At T wd W l rem a w → Todo P ops Q wd muts rem (i :: is) a w := by
  simp only [stepB, Bool.and_eq_true, decide_eq_true_eq, Bool.not_eq_true', List.all_eq_true, bne_iff_ne] at hk
  obtain ⟨⟨⟨⟨k1, k2⟩, k3⟩, k4⟩, k5⟩ := hk
  have hwait : ∀ (rem : List Nat) (listed : Array Bool) (j : Nat), listed.size = ops.size → (∀ j, j < ops.size → listed.getD j false = (!(i :: is).contains j && !rem.contains j)) → j ∈ is → j ∉ Region.ready .any ops listed := by
    intro rem listed j hsz hls hm
    refine waitsB_no (k4 j hm) (fun k hk => ?_)
    rcases Nat.lt_or_ge k ops.size with hlt | hge
    · rw [hls k hlt]
      have : (i :: is).contains k = true := by simpa [List.contains_cons] using hk
      rw [this]; rfl
    · simp [Array.getD, hsz, Nat.not_lt.2 hge]
  have hi_rem : ∀ rem : List Nat, Rem T rem → rem.contains i = false := by
    intro rem hR
    rw [Bool.eq_false_iff]
    intro h
    obtain ⟨t, ht, e⟩ := hR.sub i (by simpa using h)
    exact (k3 t ht).1 e
  have key : ∀ m rem a w, rem.length = m → Rem T rem → Fr n L a → At T wd W l rem a w → Todo P ops Q wd muts rem (i :: is) a w := by
    intro m
    induction m with
    | zero =>
      intro rem a w hm hR hF hA listed hsz hls
      obtain rfl := List.eq_nil_of_length_eq_zero hm
      have hmem : ∀ j ∈ Region.ready .any ops listed, j = i := fun j hj => by
        have h0 := (mem_ready.1 hj).1
        obtain ⟨o, ho, _⟩ := (mem_ready.1 hj).2
        have hlt := (Array.getElem?_eq_some_iff.1 ho).1
        rw [getD_tf (by omega), hls j hlt] at h0
        by_cases e : j = i
        · exact e
        · have hm : j ∈ is := by
            simp [List.contains_cons, e] at h0; exact h0
          exact (hwait [] listed j hsz hls hm hj).elim
      have hrdy : i ∈ Region.ready .any ops listed := by
        refine depsB_yes k5 ?_ (fun k hk => ?_)
        · rw [getD_tf (by omega), hls i k1]; simp
        · simp only [Bool.and_eq_true, decide_eq_true_eq, bne_iff_ne, Bool.not_eq_true'] at hk
          rw [hls k hk.1.1]
          have : (i :: is).contains k = false := by rw [List.contains_cons, hk.2]; simp [hk.1.2]
          rw [this]; rfl
      refine ⟨fun h => (by rw [h] at hrdy; cases hrdy), fun j hj => ?_⟩
      obtain rfl := hmem j hj
      refine wpOp_mono (fun a' w' h => ⟨fun _ => h.1, ?_⟩) (hop [] a w hR hF hA)
      have := h.2 (listed.setIfInBounds j true) (by simp [hsz]) (listed_set k1 hsz k2 (by simp) hls)
      exact this
    | succ m ih =>
      intro rem a w hm hR hF hA listed hsz hls
      have halc : ∀ t ∈ T, t.1 ∈ rem → t.1 ∈ Region.ready .any ops listed := fun t ht hr => by
        obtain ⟨ty, ty', ps, ho, hz⟩ := hl.ok.get t ht
        have hlt := (Array.getElem?_eq_some_iff.1 ho).1
        refine mem_ready.2 ⟨?_, _, ho, fun e he => by simp at he⟩
        rw [getD_tf (by omega), hls _ hlt]
        have : rem.contains t.1 = true := by simpa using hr
        rw [this]; simp
      have hfu : (i :: is).length + rem.length = (is.length + rem.length) + 1 := by simp; omega
      rw [hfu]
      refine ⟨fun h => ?_, fun j hj => ?_⟩
      · match rem, hm, hR, halc with
        | r :: rem, hm, hR, halc =>
          obtain ⟨t, ht, e⟩ := hR.sub r (by simp)
          have := halc t ht (by rw [e]; simp)
          rw [h] at this; cases this
      · have h0 := (mem_ready.1 hj).1
        obtain ⟨o, ho, _⟩ := (mem_ready.1 hj).2
        have hlt := (Array.getElem?_eq_some_iff.1 ho).1
        rw [getD_tf (by omega), hls j hlt] at h0
        by_cases e : j = i
        · subst e
          refine wpOp_mono (fun a' w' h => ⟨fun _ => h.1, ?_⟩) (hop rem a w hR hF hA)
          exact h.2 (listed.setIfInBounds j true) (by simp [hsz]) (listed_set k1 hsz k2 (hi_rem rem hR) hls)
        · by_cases hm' : j ∈ is
          · exact (hwait rem listed j hsz hls hm' hj).elim
          · have hr : j ∈ rem := by
              simp [List.contains_cons, e, hm'] at h0; exact h0
            obtain ⟨t, ht, rfl⟩ := hR.sub j hr
            obtain ⟨ty, ty', ps, ho', hz⟩ := hl.ok.get t ht
            refine wpOp_alloc ho' hz ⟨fun _ => hA.s.alloc hA.s.size _, ?_⟩
            have hR' : Rem T (rem.erase t.1) := ⟨hR.nd.erase _, fun r hr => hR.sub r (List.mem_of_mem_erase hr)⟩
            have hlen : (rem.erase t.1).length = m := by rw [List.length_erase_of_mem hr, hm]; rfl
            have hA' := hA.alloc (ty := ty) ht hl.d1 hl.d2 (by rw [hF.size]; exact hl.lt t ht) hR.nd
            have hF' := hF.putO (hL t ht) (.pointer (some ⟨w.heap.size, 0, none⟩))
            have := ih (rem.erase t.1) _ _ hlen hR' hF' hA' (listed.setIfInBounds t.1 true) (by simp [hsz]) (listed_erase hlt hsz (by simp [List.contains_cons, e, hm']) hR.nd hls)
            have hfu' : (i :: is).length + (rem.erase t.1).length = is.length + rem.length := by rw [hlen, hm]; simp; omega
            rw [hfu'] at this
            exact this
  exact fun rem a w hR hF hA => key _ rem a w rfl hR hF hA
theorem wpOp_of {i : Nat} {o : Oper} {K : Act → World → Prop} {Q : Exit → Act → World → Prop} {a : Act} {w : World} (ho : ops[i]? = some o) (hg : o.guard = none) (h : o.wp P a w K Q) : wpOp P ops Q i K a w := by
 unfold wpOp
 rw [ho]
 simp only [Region.wanted, hg, if_true]
 exact .inl h
theorem todo_mk {Γ : Type} {i : Nat} {is : List Nat} {o : Oper} {d : Nat} {f : FuncId} {args : Array Value} {val : Γ → Value} {l1 : Γ → List Res} (hl : Lay P ops T n) (hL : T.all (fun t => (lk L t.2.1).isNone) = true) (hk : stepB ops T i is = true) (ho : ops[i]? = some o) (hg : o.guard = none) (hd : o.dst = some d) (hdn : Nat.ble (d + 1) n = true) (hT : T.all (fun t => t.2.1 != d) = true)
    (hr : ∀ a w, Fr n L a → (execOp a.eval o).run P w = .ok (.enter f args) w) (hc : ∀ w, Sep W l w → Calls P f args w (Ret (Mk w val l1)))
    (k : ∀ γ rem a w, Rem T rem → Fr n ((d, val γ) :: L) a → At T wd W (l1 γ ++ l) rem a w → Todo P ops Q wd muts rem is a w) :
    ∀ rem a w, Rem T rem → Fr n L a → At T wd W l rem a w → Todo P ops Q wd muts rem (i :: is) a w := by
  refine todo_step hl (fun t ht => by simpa using List.all_eq_true.1 hL t ht) hk (fun rem a w hR hF hA => wpOp_of ho hg ?_)
  unfold Oper.wp
  rw [hr a w hF, Oper.upon_enter]
  refine (hc w hA.sep).mono ?_
  rintro e w1 ⟨v, rfl, γ, rfl, hS⟩
  show _ ∧ _
  rw [hd]
  exact ⟨hA.s.trans (hS.old.mono hA.s.size), k γ rem _ _ hR (hF.put hdn _) ((hA.made hS).put (fun t ht => by simpa using List.all_eq_true.1 hT t ht))⟩
theorem todo_rd {i : Nat} {is : List Nat} {o : Oper} {d : Nat} {f : FuncId} {args : Array Value} {v : Value} (hl : Lay P ops T n) (hL : T.all (fun t => (lk L t.2.1).isNone) = true) (hk : stepB ops T i is = true) (ho : ops[i]? = some o) (hg : o.guard = none) (hd : o.dst = some d) (hdn : Nat.ble (d + 1) n = true) (hT : T.all (fun t => t.2.1 != d) = true)
    (hr : ∀ a w, Fr n L a → (execOp a.eval o).run P w = .ok (.enter f args) w) (hc : ∀ w, Sep W l w → Calls P f args w (Ret fun u w' => u = v ∧ Below w.heap.size w w'))
    (k : ∀ rem a w, Rem T rem → Fr n ((d, v) :: L) a → At T wd W l rem a w → Todo P ops Q wd muts rem is a w) :
    ∀ rem a w, Rem T rem → Fr n L a → At T wd W l rem a w → Todo P ops Q wd muts rem (i :: is) a w :=
  todo_mk (Γ := Unit) (val := fun _ => v) (l1 := fun _ => []) hl hL hk ho hg hd hdn hT hr (fun w hS => (hc w hS).mono (by rintro e w1 ⟨u, rfl, rfl, hb⟩; exact ⟨_, rfl, (), rfl, hb, Sat.nil _ _⟩)) (fun _ => k)
/-- an operation that makes new memory by itself -/
theorem todo_op {Γ : Type} {i : Nat} {is : List Nat} {o : Oper} {d : Nat} {val : Γ → Value} {l1 : Γ → List Res} (hl : Lay P ops T n) (hL : T.all (fun t => (lk L t.2.1).isNone) = true) (hk : stepB ops T i is = true) (ho : ops[i]? = some o) (hg : o.guard = none) (hd : o.dst = some d) (hdn : Nat.ble (d + 1) n = true) (hT : T.all (fun t => t.2.1 != d) = true)
    (hr : ∀ a w, Fr n L a → Sep W l w → ∃ γ w', (execOp a.eval o).run P w = .ok (.value (val γ)) w' ∧ Sep w (l1 γ) w')
    (k : ∀ γ rem a w, Rem T rem → Fr n ((d, val γ) :: L) a → At T wd W (l1 γ ++ l) rem a w → Todo P ops Q wd muts rem is a w) :
    ∀ rem a w, Rem T rem → Fr n L a → At T wd W l rem a w → Todo P ops Q wd muts rem (i :: is) a w := by
  refine todo_step hl (fun t ht => by simpa using List.all_eq_true.1 hL t ht) hk (fun rem a w hR hF hA => wpOp_of ho hg ?_)
  obtain ⟨γ, w1, hrun, hS⟩ := hr a w hF hA.sep
  unfold Oper.wp
  rw [hrun, Oper.upon_value, hd]
  exact ⟨hA.s.trans (hS.old.mono hA.s.size), k γ rem _ _ hR (hF.put hdn _) ((hA.made hS).put (fun t ht => by simpa using List.all_eq_true.1 hT t ht))⟩
/-- the end, one behind the other -/
theorem wpM_seq : ∀ (ts : List Nat) (tl : List Oper) (listed : Array Bool) (a : Act) (w : World), tailB ops ts = true → (∀ m ∈ ts, m ∈ muts) → ts.map (fun i => ops[i]?) = tl.map some → listed.size = ops.size →
    (∀ j, j < ops.size → listed.getD j false = !ts.contains j) → wpList P ops (QN Q) tl a w → wpM P ops (QN Q) (fun w => Below wd.heap.size wd w) muts ts.length listed a w
  | [], tl, listed, a, w, _, _, hts, hsz, hls, h => by
    obtain rfl : tl = [] := by cases tl <;> simp_all
    refine ⟨?_, h⟩
    apply List.eq_nil_iff_forall_not_mem.2
    intro j hj
    obtain ⟨o, ho, _⟩ := (mem_ready.1 hj).2
    have hlt := (Array.getElem?_eq_some_iff.1 ho).1
    have h0 := (mem_ready.1 hj).1
    rw [getD_tf (by omega), hls j hlt] at h0
    simp at h0
  | i :: is, tl, listed, a, w, hB, hmu, hts, hsz, hls, h => by
    simp only [tailB, Bool.and_eq_true, decide_eq_true_eq, Bool.not_eq_true', List.all_eq_true] at hB
    obtain ⟨⟨⟨⟨k1, k2⟩, k4⟩, k5⟩, k6⟩ := hB
    match tl, hts with
    | [], hts => simp at hts
    | o :: tl, hts =>
      simp only [List.map_cons, List.cons.injEq] at hts
      have hrdy : i ∈ Region.ready .any ops listed := by
        refine depsB_yes k5 ?_ (fun k hk => ?_)
        · rw [getD_tf (by omega), hls i k1]; simp
        · simp only [Bool.and_eq_true, decide_eq_true_eq, bne_iff_ne, Bool.not_eq_true'] at hk
          rw [hls k hk.1.1]
          have : (i :: is).contains k = false := by rw [List.contains_cons, hk.2]; simp [hk.1.2]
          rw [this]; rfl
      refine ⟨fun h => (by rw [h] at hrdy; cases hrdy), fun j hj => ?_⟩
      have h0 := (mem_ready.1 hj).1
      obtain ⟨oj, hoj, _⟩ := (mem_ready.1 hj).2
      have hlt := (Array.getElem?_eq_some_iff.1 hoj).1
      rw [getD_tf (by omega), hls j hlt] at h0
      by_cases e : j = i
      · subst e
        have hl' : ∀ k, k < ops.size → (listed.setIfInBounds j true).getD k false = !is.contains k := fun k hk => by
          have := listed_set (rem := []) k1 hsz k2 (by simp) (fun k hk => by rw [hls k hk]; simp) k hk
          rw [this]; simp
        have hph : ¬ phB muts (listed.setIfInBounds j true) = true := by
          intro hp
          have := List.all_eq_true.1 hp j (hmu j (by simp))
          simp [Array.getD, hsz, k1] at this
        unfold wpOp
        rw [hts.1]
        simp only []
        unfold wpList at h
        split
        · rename_i hw
          rw [if_pos hw] at h
          exact h.imp (Oper.wp_mono (fun a w h => ⟨fun x => (hph x).elim, wpM_seq is tl _ a w k6 (fun m hm => hmu m (by simp [hm])) hts.2 (by simp [hsz]) hl' h⟩)) id
        · rename_i hw
          rw [if_neg hw] at h
          exact ⟨fun x => (hph x).elim, wpM_seq is tl _ _ w k6 (fun m hm => hmu m (by simp [hm])) hts.2 (by simp [hsz]) hl' h⟩
      · have hm : j ∈ is := by
          simp [List.contains_cons, e] at h0; exact h0
        refine (waitsB_no (k4 j hm) (fun k hk => ?_) hj).elim
        rcases Nat.lt_or_ge k ops.size with hlt | hge
        · rw [hls k hlt]
          have : (i :: is).contains k = true := by simpa [List.contains_cons] using hk
          rw [this]; rfl
        · simp [Array.getD, hsz, Nat.not_lt.2 hge]
theorem todo_fin {ts : List Nat} {tl : List Oper} (hl : Lay P ops T n) (hL : T.all (fun t => (lk L t.2.1).isNone) = true) (hk : finB ops T ts = true) (hts : ts.map (fun i => ops[i]?) = tl.map some)
    (k : ∀ a w, Fr n L a → At T wd W l [] a w → wpList P ops (QN Q) tl a w) :
    ∀ rem a w, Rem T rem → Fr n L a → At T wd W l rem a w → Todo P ops Q wd ts rem ts a w := by
  have hL' : ∀ t ∈ T, lk L t.2.1 = none := fun t ht => by simpa using List.all_eq_true.1 hL t ht
  simp only [finB, Bool.and_eq_true, List.all_eq_true, Bool.not_eq_true'] at hk
  obtain ⟨⟨k1, k2⟩, k3⟩ := hk
  have key : ∀ m rem a w, rem.length = m → Rem T rem → Fr n L a → At T wd W l rem a w → Todo P ops Q wd ts rem ts a w := by
    intro m
    induction m with
    | zero =>
      intro rem a w hm hR hF hA listed hsz hls
      obtain rfl := List.eq_nil_of_length_eq_zero hm
      exact wpM_seq ts tl listed a w k3 (fun m hm => hm) hts hsz (fun j hj => by rw [hls j hj]; simp) (k a w hF hA)
    | succ m ih =>
      intro rem a w hm hR hF hA listed hsz hls
      have halc : ∀ t ∈ T, t.1 ∈ rem → t.1 ∈ Region.ready .any ops listed := fun t ht hr => by
        obtain ⟨ty, ty', ps, ho, hz⟩ := hl.ok.get t ht
        have hlt := (Array.getElem?_eq_some_iff.1 ho).1
        refine mem_ready.2 ⟨?_, _, ho, fun e he => by simp at he⟩
        rw [getD_tf (by omega), hls _ hlt]
        have : rem.contains t.1 = true := by simpa using hr
        rw [this]; simp
      obtain ⟨r0, hr0⟩ : ∃ r, r ∈ rem := by
        cases rem with
        | nil => simp at hm
        | cons r rem => exact ⟨r, by simp⟩
      obtain ⟨t0, ht0, e0⟩ := hR.sub r0 hr0
      subst e0
      have hfu : ts.length + rem.length = (ts.length + m) + 1 := by omega
      rw [hfu]
      refine ⟨fun h => (by have := halc t0 ht0 hr0; rw [h] at this; cases this), fun j hj => ?_⟩
      have h0 := (mem_ready.1 hj).1
      obtain ⟨o, ho, _⟩ := (mem_ready.1 hj).2
      have hlt := (Array.getElem?_eq_some_iff.1 ho).1
      rw [getD_tf (by omega), hls j hlt] at h0
      by_cases hm' : j ∈ ts
      · refine (waitsB_no (k1 j hm' t0 ht0) (fun k hk => ?_) hj).elim
        obtain rfl : k = t0.1 := by simpa using hk
        obtain ⟨ty, ty', ps, ho', hz⟩ := hl.ok.get t0 ht0
        rw [hls _ (Array.getElem?_eq_some_iff.1 ho').1]
        have : rem.contains t0.1 = true := by simpa using hr0
        rw [this]; simp
      · have hr : j ∈ rem := by
          simp [hm'] at h0; exact h0
        obtain ⟨t, ht, rfl⟩ := hR.sub j hr
        obtain ⟨ty, ty', ps, ho', hz⟩ := hl.ok.get t ht
        refine wpOp_alloc ho' hz ⟨fun _ => hA.s.alloc hA.s.size _, ?_⟩
        have hR' : Rem T (rem.erase t.1) := ⟨hR.nd.erase _, fun r hr => hR.sub r (List.mem_of_mem_erase hr)⟩
        have hlen : (rem.erase t.1).length = m := by rw [List.length_erase_of_mem hr, hm]; rfl
        have hA' := hA.alloc (ty := ty) ht hl.d1 hl.d2 (by rw [hF.size]; exact hl.lt t ht) hR.nd
        have hF' := hF.putO (hL' t ht) (.pointer (some ⟨w.heap.size, 0, none⟩))
        have := ih (rem.erase t.1) _ _ hlen hR' hF' hA' (listed.setIfInBounds t.1 true) (by simp [hsz]) (listed_erase hlt hsz (k2 t ht) hR.nd hls)
        rw [hlen] at this
        exact this
  exact fun rem a w hR hF hA => key _ rem a w rfl hR hF hA
/-- the beginning -/
theorem wp_region_todo {id : Nat} {lo : List Oper} {is : List Nat} {a : Act} {w : World} (T : Alcs) (muts : List Nat) (hm : P.follows .mixedOrders = true) (hF : Fr n L a) (hS : Sep W l w) (hl : Lay P lo.toArray T n)
    (hc : ((List.range lo.length).all (fun j => is.contains j || (T.map (·.1)).contains j) && is.length + T.length == lo.length) = true)
    (k : Lay P lo.toArray T n → ∀ wd, Sep W l wd → ∀ rem a w, Rem T rem → Fr n L a → At T wd W l rem a w → Todo P lo.toArray Q wd muts rem is a w) : (Code.region id lo.toArray true).wp P Q a w := by
  have hw : (Code.region id lo.toArray true).wp P (QN Q) a w := by
    refine wp_region_any hm (wpAny_of_M (S := fun w' => Below { w with drawn := w.drawn + 1 }.heap.size { w with drawn := w.drawn + 1 } w') (muts := muts) _ _ _ _ ?_)
    simp only [Bool.and_eq_true, List.all_eq_true, List.mem_range, Bool.or_eq_true, beq_iff_eq] at hc
    have := k hl { w with drawn := w.drawn + 1 } hS.drawn (T.map (·.1)) a { w with drawn := w.drawn + 1 } ⟨hl.d1, fun r hr => by
        obtain ⟨t, ht, e⟩ := List.mem_map.1 hr
        exact ⟨t, ht, e⟩⟩ hF ⟨Below.refl _ _, [], hS.drawn.many_nil, fun t ht hr => (hr (List.mem_map.2 ⟨t, ht, rfl⟩)).elim⟩ (Array.replicate lo.toArray.size false) (by simp) (fun j hj => by
          have := hc.1 j (by simpa using hj)
          simp only [List.size_toArray] at hj
          rcases this with h | h
          · rw [h]; simp [Array.getD, hj]
          · rw [h]; simp [Array.getD, hj])
    rw [List.length_map, hc.2] at this
    simpa using this
  exact wp_mono hw (fun e a w ⟨h1, h2⟩ => by subst h1; exact h2)
theorem At.open1 {i1 d1 : Nat} {z1 : List Value} {a : Act} {w : World} (h : At [(i1, d1, z1)] wd W l [] a w) : ∃ g1, Sep W (Box g1 z1 :: l) w ∧ a.tmps[d1]? = some (.pointer (some ⟨g1, 0, none⟩)) := by
 obtain ⟨gs, h1, h2⟩ := h.box
 obtain ⟨g1, m1, e1⟩ := h2 (i1, d1, z1) (by simp) (by simp)
 obtain ⟨p1, hp1⟩ := List.mem_iff_getElem?.1 m1
 exact ⟨g1, h1.many_one (p := p1) (by rw [List.getElem?_map, hp1]; rfl), e1⟩
/-- a slot more, known from the machine's own frame -/
theorem Fr.more {a : Act} {d : Nat} {v : Value} (h : Fr n L a) (hv : a.tmps[d]? = some v) : Fr n ((d, v) :: L) a := by
 refine ⟨h.size, h.defs, fun t u ht => ?_⟩
 simp only [lk] at ht
 cases hb : Nat.beq d t with
 | true =>
   have := Nat.eq_of_beq_eq_true hb
   subst this
   simp [hb] at ht
   subst ht
   exact hv
 | false => simp [hb] at ht; exact h.get t u ht
end
/-- the memory that belongs to a value of a struct type: its slices -/
def Part {α : Type} (ek : EK α) (x : α) (vs : List Slv) : Res := Many (ek.inner x vs)
section
variable {α : Type} {ek : EK α} {w0 w : World} {l : List Res} {i : Nat} {x : α} {vs : List Slv} {cs : List Value}
theorem Sep.k (h : Sep w0 l w) (hk : ek.K w0 x cs) : ek.K w x cs := ek.ext h.old hk
theorem Sep.part_k (h : Sep w0 l w) (hi : l[i]? = some (Part ek x vs)) : ek.K w x (ek.cells x vs) := ek.rd (h.sat.get hi)
theorem Sep.box_rd (h : Sep w0 l w) {g : Nat} (hi : l[i]? = some (Box g cs)) : ∀ j u, cs[j]? = some u → w.cell? ⟨g, 0 + j, none⟩ = some u := fun j u hu => by rw [Nat.zero_add]; exact h.box hi hu
/-- the first part is opened -/
theorem Sep.part_open (h : Sep w0 (Part ek x vs :: l) w) : Sep w0 (ek.inner x vs ++ l) w := h.many_flat
theorem Sat.many_mk : ∀ {A : List Res} {l : List Res} {S : Nat → Prop} {w : World}, Sat (A ++ l) S w → Sat (Many A :: l) S w
  | [], l, S, w, h => Sat.cons (S1 := fun _ => False) h (Sat.nil _ _) (fun k hk => hk.elim) (fun k hk => hk) (fun k hk _ => hk)
  | r :: A, l, S, w, h => by
    obtain ⟨S0, S1, a1, a2, a3, a4, a5⟩ := Sat.uncons h
    obtain ⟨S2, S3, b1, b2, b3, b4, b5⟩ := (Sat.many_mk a2).uncons
    exact Sat.cons (S := S3) (S1 := fun k => S0 k ∨ S2 k) b2 (Sat.cons (S := S2) b1 a1 (fun k hk => .inl hk) (fun k hk => .inr hk) (fun k h1 h2 => a5 k h1 (b3 k h2))) (fun k hk => hk.elim (a3 k) (fun h => a4 k (b3 k h))) (fun k hk => a4 k (b4 k hk)) (fun k h1 h2 => h1.elim (fun h => a5 k h (b4 k h2)) (fun h => b5 k h h2))
theorem Sep.part_mk {l' : List Res} (h : Sep w0 l' w) (e : l' = ek.inner x vs ++ l) : Sep w0 (Part ek x vs :: l) w := by
 subst e; exact ⟨h.old, Sat.many_mk h.sat⟩
/-- other order, some dropped -/
theorem Sep.pick {l' : List Res} (h : Sep w0 l w) (σ : List Nat) (hn : σ.Nodup) (e : σ.map (fun i => l[i]?) = l'.map some) : Sep w0 l' w := by
 have hlen : σ.length = l'.length := by simpa using congrArg List.length e
 refine h.sub (fun i => σ.getD i 0) (fun i j hi hj hij => ?_) (fun i r hr => ?_)
 · have hi' : i < σ.length := by omega
   have hj' : j < σ.length := by omega
   simp only [List.getD_eq_getElem?_getD, List.getElem?_eq_getElem hi', List.getElem?_eq_getElem hj', Option.getD_some] at hij
   exact (List.getElem_inj hn).1 hij
 · have hi := (List.getElem?_eq_some_iff.1 hr).1
   have hi' : i < σ.length := by omega
   have := congrArg (fun (z : List (Option Res)) => z[i]?) e
   simp only [List.getElem?_map, hr, Option.map_some, List.getElem?_eq_getElem hi', Option.some.injEq] at this
   simp only [List.getD_eq_getElem?_getD, List.getElem?_eq_getElem hi', Option.getD_some]
   exact this
end
/-- the operands of a literal -/
def pev (a : Act) : Nat → List (Nat × Operand) → List Value → Prop
  | _, [], [] => True
  | k, (i, x) :: ps, u :: us => i = k ∧ a.eval x = u ∧ pev a (k + 1) ps us
  | _, _, _ => False
theorem pev_map {a : Act} : ∀ (ps : List (Nat × Operand)) (us : List Value) (k : Nat), pev a k ps us → ps.map (fun p => (p.1, a.eval p.2)) = (us.zipIdx k).map fun p => (p.2, p.1)
  | [], [], _, _ => rfl
  | [], _ :: _, _, h => h.elim
  | _ :: _, [], _, h => h.elim
  | (i, x) :: ps, u :: us, k, ⟨h1, h2, h3⟩ => by
    subst h1; subst h2
    simp only [List.map_cons, List.zipIdx_cons, pev_map ps us (i + 1) h3]
theorem fold_set : ∀ (us old A B : List Value), us.length = old.length → (us.zipIdx).foldl (fun (cs : Array Value) (p : Value × Nat) => cs.setIfInBounds (A.length + p.2) p.1) (A ++ old ++ B).toArray = (A ++ us ++ B).toArray
  | [], [], A, B, _ => rfl
  | [], _ :: _, _, _, h => by simp at h
  | _ :: _, [], _, _, h => by simp at h
  | u :: us, o :: old, A, B, h => by
    have ih := fold_set us old (A ++ [u]) B (by simpa using h)
    rw [List.zipIdx_cons, List.foldl_cons]
    have h1 : (A ++ o :: old ++ B).toArray.setIfInBounds (A.length + 0) u = (A ++ [u] ++ old ++ B).toArray := by
      simp
    rw [h1]
    have h2 : us.zipIdx (0 + 1) = us.zipIdx.map fun p => (p.1, p.2 + 1) := by
      rw [List.zipIdx_succ]
    rw [h2, List.foldl_map]
    simp only [List.length_append, List.length_cons, List.length_nil, Nat.zero_add] at ih
    have h3 : (fun (cs : Array Value) (p : Value × Nat) => cs.setIfInBounds (A.length + (p.2 + 1)) p.1) = fun cs p => cs.setIfInBounds (A.length + 1 + p.2) p.1 := by
      funext cs p; congr 1; omega
    show List.foldl (fun (cs : Array Value) (p : Value × Nat) => cs.setIfInBounds (A.length + (p.2 + 1)) p.1) _ _ = _
    rw [h3, ih]
    simp
theorem fill_all {sz : Nat} : ∀ (us : List Value) (A B : List Value) (k : Nat), A.length = k * sz → B.length = us.length * sz → (∀ u ∈ us, u.cells.size = sz) →
    Instr.fill (fun i => some (i * sz, sz)) (A ++ B).toArray ((us.zipIdx k).map fun p => (p.2, p.1)) = some (A ++ us.flatMap fun u => u.cells.toList).toArray
  | [], A, B, k, _, hB, _ => by
    obtain rfl : B = [] := List.eq_nil_of_length_eq_zero (by simpa using hB)
    simp [Instr.fill]
  | u :: us, A, B, k, hA, hB, hu => by
    have hsz := hu u (by simp)
    have hB' : B.length = sz + us.length * sz := by rw [hB, List.length_cons, Nat.add_mul]; omega
    have ih := fill_all us (A ++ u.cells.toList) (B.drop sz) (k + 1) (by simp [hA, hsz, Nat.add_mul]) (by simp [hB']) (fun x hx => hu x (by simp [hx]))
    rw [List.zipIdx_cons, List.map_cons]
    unfold Instr.fill
    simp only []
    rw [if_neg (by simp [hsz, hA, hB'])]
    have hf : Array.foldl (fun (cs : Array Value) (x : Value × Nat) => cs.setIfInBounds (k * sz + x.2) x.1) (A ++ B).toArray u.cells.zipIdx = (A ++ u.cells.toList ++ B.drop sz).toArray := by
      have := fold_set u.cells.toList (B.take sz) A (B.drop sz) (by simp [hsz, hB'])
      rw [List.append_assoc A, List.take_append_drop, hA] at this
      rw [← this, ← Array.foldl_toList]
      simp
    have : (u.cells.zipIdx.foldl (fun (cs : Array Value) (x : Value × Nat) => match x with | (c, j) => cs.setIfInBounds (k * sz + j) c) (A ++ B).toArray) = (A ++ u.cells.toList ++ B.drop sz).toArray := hf
    rw [this, ih]
    simp
section
variable {P : Program} {ops : Array Oper} {Q : Exit → Act → World → Prop} {a : Act} {w w0 : World} {rest : List Oper} {o : Oper} {n d : Nat} {L : List (Nat × Value)} {l : List Res} {v : Value}
variable {ty : TypeId} {ps : String} {af : Array Edge} {D : Option Tmp} {gd : Option (Nat × Bool)}
/-- a call that makes memory -/
theorem wl_mk {Γ : Type} {f : FuncId} {args : Array Value} {val : Γ → Value} {l1 : Γ → List Res} (hF : Fr n L a) (hS : Sep w0 l w) (hg : o.guard = none) (hd : o.dst = some d) (hdn : Nat.ble (d + 1) n = true)
    (hr : (execOp a.eval o).run P w = .ok (.enter f args) w) (hc : Calls P f args w (Ret (Mk w val l1)))
    (k : ∀ γ w' a, Sep w0 (l1 γ ++ l) w' → Fr n ((d, val γ) :: L) a → wpList P ops Q rest a w') : wpList P ops Q (o :: rest) a w :=
  wl_call hF hg hd hdn hr hc (fun v w' a ⟨γ, e, h⟩ hF => by subst e; exact k γ w' a (hS.add h) hF)
theorem r_extract {ρ : Operand → Value} {x : Operand} {i : Nat} {us : Array Value} {u : Value} (hx : ρ x = .tuple us) (hi : us[i]? = some u) : (execOp ρ ⟨D, .extract x i, ty, ps, af, gd⟩).run P w = .ok (.value u) w := by
 simp [execOp, hx, Instr.extract, hi]
/-- a slice literal of flat elements -/
theorem r_bslice {α : Type} {sz b : Nat} {enc : α → List Value} {hl : ∀ x, (enc x).length = sz} {h1 : ∀ x u, u ∈ enc x → u.oneCell' = true} {T m : Nat} {parts : Array (Nat × Operand)} {zs : List Value} (ek : EK α) (us : List Value) (xs : List α) (hek : ek = flatEK sz enc hl h1)
    (hm : mkB P T = some (zs, sz, b)) (hz : zs.length = sz) (hp : pev a 0 parts.toList us) (hmu : m = us.length) (hu : us.map (fun u => u.cells.toList) = xs.map enc) (hpos : Nat.ble 1 sz = true) (hsmall : Nat.ble (m * sz) 16777216 = true) :
    ∃ g w', (execOp a.eval ⟨D, .buildSlice T m parts, ty, ps, af, gd⟩).run P w = .ok (.value (.slice (some ⟨g, 0, none⟩) m m)) w' ∧ Sep w [Own ek (.slice (some ⟨g, 0, none⟩) m m) xs] w' := by
  subst hek
  obtain ⟨e, i, z, he, hi, hzz, hzs, hsz, hby⟩ := mkB_parts hm
  have hxl : xs.length = m := by
    have := congrArg List.length hu
    simp only [List.length_map] at this
    omega
  have hcell : us.flatMap (fun u => u.cells.toList) = flatC enc xs := by
    unfold flatC
    rw [List.flatMap_def, List.flatMap_def, hu]
  have hul : ∀ u ∈ us, u.cells.size = sz := fun u hmem => by
    have : u.cells.toList ∈ xs.map enc := by rw [← hu]; exact List.mem_map.2 ⟨u, hmem, rfl⟩
    obtain ⟨x, _, e⟩ := List.mem_map.1 this
    have := congrArg List.length e
    rw [hl] at this
    simpa using this.symm
  have hfill : ∀ B : Array Value, B.size = m * sz → Instr.fill (fun i => some (i * sz, sz)) B (parts.toList.map fun p => (p.1, a.eval p.2)) = some (flatC enc xs).toArray := fun B hB => by
    have := fill_all (sz := sz) us [] B.toList 0 (by simp) (by simp [hB, hmu]) hul
    rw [List.nil_append, List.nil_append, hcell] at this
    rw [pev_map _ _ _ hp]
    exact this
  have hrun : (Instr.buildSlice T m (parts.map fun (i, x) => (i, a.eval x))).run P w = .ok (.slice (some ⟨w.heap.size, 0, none⟩) m m) (w.alloc (.cells (flatC enc xs).toArray e)) := by
    have hs : ¬ m * i.size > 2 ^ 24 := by
      have := Nat.le_of_ble_eq_true hsmall
      rw [hsz]
      omega
    by_cases h0 : m * i.size = 0
    · have hm0 : m = 0 := by
        have := Nat.le_of_ble_eq_true hpos
        rcases Nat.mul_eq_zero.1 h0 with h | h <;> omega
      subst hm0
      obtain rfl := List.eq_nil_of_length_eq_zero hmu.symm
      obtain rfl := List.eq_nil_of_length_eq_zero hxl
      have hpl : parts.toList = [] := by
        cases h : parts.toList with
        | nil => rfl
        | cons p l => rw [h] at hp; exact hp.elim
      obtain rfl : parts = #[] := by cases parts; simp at hpl; rw [hpl]
      simp [Instr.buildSlice, run_underlying he, sizeOf, typeInfo, hi, newRow, Instr.fill, flatC]
      rw [show Array.range 0 = #[] from by simp]; simp
    · have h := hfill ((Array.range (m * sz)).map (z.cells[· % z.cells.size]!)) (by simp)
      subst hsz
      simp [Instr.buildSlice, run_underlying he, sizeOf, typeInfo, zeroValue, hi, hzz, hs, h0, h, newRow]
  refine ⟨w.heap.size, w.alloc (.cells (flatC enc xs).toArray e), by simp [execOp, hrun], ?_⟩
  refine (Sep.refl w).new ((Below.refl _ _).alloc (Nat.le_refl _) _) ⟨_, m, m, rfl, hxl.symm, ?_, .inr ⟨w.heap.size, 0, _, e, fun _ => [], rfl, ⟨Nat.le_refl _, by simp⟩, heap_alloc_new w _, ⟨by simp [flatEK, flatC_len hl, hxl], by simp [hxl], ?_⟩, fun _ _ => False, fun i x _ => Sat.nil _ _, by simp, by simp⟩⟩
  · have h1 := Nat.le_of_ble_eq_true hsmall
    have h2 := Nat.le_of_ble_eq_true hpos
    have h3 : m * 1 ≤ m * sz := Nat.mul_le_mul_left _ h2
    simp only [maxLen]
    omega
  · intro i x hx j u hu'
    have := flatC_at hl xs i x j u hx hu'
    simpa [flatEK] using this
theorem wl_bslice {α : Type} {sz b : Nat} {enc : α → List Value} {hl : ∀ x, (enc x).length = sz} {h1 : ∀ x u, u ∈ enc x → u.oneCell' = true} {T m : Nat} {parts : Array (Nat × Operand)} {zs : List Value} (ek : EK α) (us : List Value) (xs : List α) (hek : ek = flatEK sz enc hl h1) (hF : Fr n L a) (hS : Sep w0 l w) (hdn : Nat.ble (d + 1) n = true)
    (hm : mkB P T = some (zs, sz, b)) (hz : zs.length = sz) (hp : pev a 0 parts.toList us) (hmu : m = us.length) (hu : us.map (fun u => u.cells.toList) = xs.map enc) (hpos : Nat.ble 1 sz = true) (hsmall : Nat.ble (m * sz) 16777216 = true)
    (k : ∀ g w' a, Sep w0 (Own ek (.slice (some ⟨g, 0, none⟩) m m) xs :: l) w' → Fr n ((d, .slice (some ⟨g, 0, none⟩) m m) :: L) a → wpList P ops Q rest a w') :
    wpList P ops Q (⟨some d, .buildSlice T m parts, ty, ps, af, none⟩ :: rest) a w := by
  obtain ⟨g, w', hrun, hS'⟩ := r_bslice (D := some d) (gd := none) (ty := ty) (ps := ps) (af := af) (P := P) (w := w) (hl := hl) (h1 := h1) ek us xs hek hm hz hp hmu hu hpos hsmall
  exact wl hF rfl rfl hdn hrun (fun a hF => k g w' a (by simpa using hS.add hS') hF)
/-- a whole box is written over -/
theorem wl_storew {T : TypeId} {x y : Operand} {i g : Nat} {cs vs : List Value} (hF : Fr n L a) (hS : Sep w0 l w) (hi : l[i]? = some (Box g cs)) (hp : a.eval x = .pointer (some ⟨g, 0, none⟩)) (hy : a.eval y = .agg vs.toArray) (hsz : szB P T = some vs.length)
    (hl : evenB vs cs = true) (h1 : vs.all (fun u => u.oneCell') = true) (k : ∀ w', Sep w0 (l.set i (Box g vs)) w' → wpList P ops Q rest a w') : wpList P ops Q (⟨none, .store T x y, ty, ps, af, none⟩ :: rest) a w := by
  have hl' := evenB_eq _ _ hl
  obtain ⟨w', hr, hS'⟩ := hS.box_row (P := P) (o := 0) (vs := vs) hi (by omega) (fun u hu => List.all_eq_true.1 h1 u hu)
  have e : cs.take 0 ++ vs ++ cs.drop (0 + vs.length) = vs := by
    rw [Nat.zero_add, hl', List.drop_length]; simp
  rw [e] at hS'
  exact wl0 (w' := w') hF rfl rfl (r_storen hsz hp hy hr) (k _ hS')
end
/-- a row but for its element i, whose cells are cs -/
def OwnBut {α : Type} (ek : EK α) (v : Value) (xs : List α) (i : Nat) (cs : List Value) : Res where
  P := fun S w => ∃ (m c g o : Nat) (cur : Array Value) (T : TypeId) (vs : Nat → List Slv), v = .slice (some ⟨g, o, none⟩) m c ∧ m = xs.length ∧ c ≤ maxLen ∧ i < xs.length ∧ cs.length = ek.sz ∧ S g ∧ w.heap[g]? = some (.cells cur T (0, 0)) ∧ o + c * ek.sz ≤ cur.size ∧ xs.length ≤ c ∧
    (∀ i' x, i' ≠ i → xs[i']? = some x → ∀ j u, (ek.cells x (vs i'))[j]? = some u → cur[o + i' * ek.sz + j]? = some u) ∧ (∀ j u, cs[j]? = some u → cur[o + i * ek.sz + j]? = some u) ∧
    ∃ f : Nat → Nat → Prop, (∀ i' x, i' ≠ i → xs[i']? = some x → Sat (ek.inner x (vs i')) (f i') w) ∧ (∀ i k, f i k → S k ∧ k ≠ g) ∧ (∀ i j k, f i k → f j k → i = j)
  loc := by
    rintro S w w' hk ⟨m, c, g, o, cur, T, vs, h1, h2, h3, h4, h5, hS, hg, h6, h7, h8, h9, f, f1, f2, f3⟩
    exact ⟨m, c, g, o, cur, T, vs, h1, h2, h3, h4, h5, hS, (hk g hS).trans hg, h6, h7, h8, h9, f, fun i' x hi hx => (f1 i' x hi hx).loc (fun k hf => hk k (f2 i' k hf).1), f2, f3⟩
  mono := by
    rintro S S' w hs ⟨m, c, g, o, cur, T, vs, h1, h2, h3, h4, h5, hS, hg, h6, h7, h8, h9, f, f1, f2, f3⟩
    exact ⟨m, c, g, o, cur, T, vs, h1, h2, h3, h4, h5, hs g hS, hg, h6, h7, h8, h9, f, f1, fun i' k hf => ⟨hs k (f2 i' k hf).1, (f2 i' k hf).2⟩, f3⟩
section
variable {α : Type} {ek : EK α} {w0 w : World} {l : List Res} {q i m c g o : Nat} {v : Value} {xs : List α} {x : α} {cs : List Value}
/-- an element of a row of one's own is borrowed -/
theorem Sep.borrow (h : Sep w0 l w) (hq : l[q]? = some (Own ek v xs)) (hx : xs[i]? = some x) : ∃ vs, Sep w0 (Part ek x vs :: l.set q (OwnBut ek v xs i (ek.cells x vs))) w := by
 obtain ⟨A, n, c', h1, h2, h3, h4⟩ := h.sat.get hq
 have hlt := (List.getElem?_eq_some_iff.1 hx).1
 rcases h4 with ⟨rfl, rfl⟩ | ⟨g', o', cur0, T0, vs0, e0, _⟩
 · simp at hx
 obtain ⟨f, g1, g2, g3⟩ := h.sat
 obtain ⟨A, n, c', h1, h2, h3, h4⟩ := g1 q _ hq
 rcases h4 with ⟨rfl, rfl⟩ | ⟨g', o', cur, T, vs, e, hS, hg, hr, f', f1, f2, f3⟩
 · simp at hx
 subst e
 have hs : Sat (Part ek x (vs i) :: l.set q (OwnBut ek v xs i (ek.cells x (vs i)))) (fun k => w0.heap.size ≤ k ∧ k < w.heap.size) w := by
   -- the same list, by the footprints in hand
   have hlq := (List.getElem?_eq_some_iff.1 hq).1
   refine ⟨fun j => match j with | 0 => f' i | j + 1 => fun k => if j = q then f q k ∧ ¬ f' i k else f j k, fun j r' hj => ?_, fun j k hf => ?_, fun j j' k hf hf' => ?_⟩
   · cases j with
     | zero => simp at hj; subst hj; exact f1 i x hx
     | succ j =>
       simp only [List.getElem?_cons_succ] at hj
       by_cases e : j = q
       · subst e
         rw [List.getElem?_set_self hlq] at hj
         obtain rfl := Option.some.inj hj
         refine (OwnBut ek v xs i (ek.cells x (vs i))).mono (S := fun k => f j k ∧ ¬ f' i k) (fun k hk => by simp only [if_true]; exact hk) ?_
         exact ⟨n, c', g', o', cur, T, vs, h1, h2, h3, hlt, ek.len _ _, ⟨hS, fun hf => (f2 i g' hf).2 rfl⟩, hg, hr.room, hr.fits, fun i' x' _ hx' => hr.at_ i' x' hx', hr.at_ i x hx, fun i' k => i' ≠ i ∧ f' i' k,
           fun i' x' hi' hx' => (f1 i' x' hx').mono (fun k hk => ⟨hi', hk⟩), fun i' k hk => ⟨⟨(f2 i' k hk.2).1, fun hf => hk.1 (f3 i' i k hk.2 hf)⟩, (f2 i' k hk.2).2⟩, fun a b k ha hb => f3 a b k ha.2 hb.2⟩
       · rw [List.getElem?_set_ne (fun x => e x.symm)] at hj
         exact r'.mono (fun k hk => by simp only [if_neg e]; exact hk) (g1 j r' hj)
   · cases j with
     | zero => exact g2 q k (f2 i k hf).1
     | succ j =>
       simp only [] at hf
       split at hf
       · exact g2 q k hf.1
       · exact g2 j k hf
   · cases j with
     | zero =>
       cases j' with
       | zero => rfl
       | succ j' =>
         simp only [] at hf hf'
         split at hf'
         · exact (hf'.2 hf).elim
         · rename_i e; exact (e (g3 j' q k hf' (f2 i k hf).1)).elim
     | succ j =>
       cases j' with
       | zero =>
         simp only [] at hf hf'
         split at hf
         · exact (hf.2 hf').elim
         · rename_i e; exact (e (g3 j q k hf (f2 i k hf').1)).elim
       | succ j' =>
         simp only [] at hf hf'
         split at hf <;> split at hf'
         · omega
         · rename_i e e'; exact (e' (g3 j' q k hf' hf.1)).elim
         · rename_i e e'; exact (e (g3 j q k hf hf'.1)).elim
         · have := g3 j j' k hf hf'; omega
 exact ⟨vs i, h.old, hs⟩
/-- where the borrowed element's cells lie -/
theorem Sep.but_at (h : Sep w0 l w) (hq : l[q]? = some (OwnBut ek v xs i cs)) (hv : v = .slice (some ⟨g, o, none⟩) m c) : ∀ j u, cs[j]? = some u → w.cell? ⟨g, o + i * ek.sz + j, none⟩ = some u := by
 intro j u hu
 obtain ⟨m', c', g', o', cur, T, vs, h1, h2, h3, h4, h5, hS, hg, h6, h7, h8, h9, _⟩ := h.sat.get hq
 rw [hv] at h1
 simp only [Value.slice.injEq, Option.some.injEq, Addr.mk.injEq] at h1
 obtain ⟨⟨rfl, rfl, _⟩, rfl, rfl⟩ := h1
 rw [cell_of hg]
 exact h9 j u hu
/-- cells of the borrowed element are written -/
theorem Sep.but_row {P : Program} {p : Nat} {us : List Value} (h : Sep w0 l w) (hq : l[q]? = some (OwnBut ek v xs i cs)) (hv : v = .slice (some ⟨g, o, none⟩) m c) (hp : p + us.length ≤ cs.length) (h1 : ∀ u ∈ us, u.oneCell' = true) :
    ∃ w', (storeCells ⟨g, o + i * ek.sz + p, none⟩ us).run P w = .ok () w' ∧ Sep w0 (l.set q (OwnBut ek v xs i (cs.take p ++ us ++ cs.drop (p + us.length)))) w' := by
  obtain ⟨m', c', g', o', cur, T, vs, e1, e2, e3, e4, e5, hS, hg, e6, e7, e8, e9, _⟩ := h.sat.get hq
  rw [hv] at e1
  simp only [Value.slice.injEq, Option.some.injEq, Addr.mk.injEq] at e1
  obtain ⟨⟨rfl, rfl, _⟩, rfl, rfl⟩ := e1
  have hsz : ∀ i' < xs.length, o + i' * ek.sz + ek.sz ≤ cur.size := fun i' hi' => by
    have : (i' + 1) * ek.sz ≤ c * ek.sz := Nat.mul_le_mul_right _ (by omega)
    rw [Nat.add_mul] at this
    omega
  have hroom := hsz i e4
  have hst := run_storeCells_at P g (o + i * ek.sz + p) T us 0 cur w hg (by omega) h1
  simp only [Nat.add_zero] at hst
  refine ⟨_, hst, h.upd hq rfl rfl rfl (by simp [World.setRow]) (fun F hF hs => ?_)⟩
  obtain ⟨m', c', g', o', cur', T', vs, e1, e2, e3, e4, e5, hS, hg', e6, e7, e8, e9, f, f1, f2, f3⟩ := hF
  rw [hv] at e1
  simp only [Value.slice.injEq, Option.some.injEq, Addr.mk.injEq] at e1
  obtain ⟨⟨rfl, rfl, _⟩, rfl, rfl⟩ := e1
  rw [hg] at hg'
  simp only [Option.some.injEq, Obj.cells.injEq] at hg'
  obtain ⟨rfl, rfl, _⟩ := hg'
  have hset : ∀ p' : Nat, (p' < o + i * ek.sz + p ∨ o + i * ek.sz + p + us.length ≤ p') → (cur.toList.take (o + i * ek.sz + p) ++ us ++ cur.toList.drop (o + i * ek.sz + p + us.length)).toArray[p']? = cur[p']? := fun p' hp' => by
    rw [List.getElem?_toArray]
    rcases hp' with hp' | hp'
    · rw [List.append_assoc, List.getElem?_append_left (by simp; omega), List.getElem?_take, if_pos hp']
      simp
    · rw [List.getElem?_append_right (by simp; omega), List.getElem?_drop]
      simp only [List.length_append, List.length_take, Array.length_toList]
      rw [show o + i * ek.sz + p + us.length + (p' - (min (o + i * ek.sz + p) cur.size + us.length)) = p' by omega]
      simp
  have hin : ∀ j, j < us.length → (cur.toList.take (o + i * ek.sz + p) ++ us ++ cur.toList.drop (o + i * ek.sz + p + us.length)).toArray[o + i * ek.sz + p + j]? = us[j]? := fun j hj => by
    rw [List.getElem?_toArray, List.append_assoc, List.getElem?_append_right (by simp; omega), List.getElem?_append_left (by simp; omega)]
    simp only [List.length_take, Array.length_toList]
    congr 1; omega
  refine ⟨⟨m, c, g, o, _, T, vs, hv, e2, e3, e4, ?_, .inl hS, heap_setRow_at hg, ?_, e7, fun i' x' hi' hx' j u hu => ?_, fun j u hu => ?_, f, fun i' x' hi' hx' => (f1 i' x' hi' hx').loc (fun k hk => ?_), fun i' k hk => ⟨.inl (f2 i' k hk).1, (f2 i' k hk).2⟩, f3⟩, fun k hk hn => ?_⟩
  · simp; omega
  · simp; omega
  · have hj : j < ek.sz := by
      have := (List.getElem?_eq_some_iff.1 hu).1
      rwa [ek.len] at this
    have hi2 := (List.getElem?_eq_some_iff.1 hx').1
    rw [hset _ ?_]
    · exact e8 i' x' hi' hx' j u hu
    · rcases Nat.lt_or_gt_of_ne hi' with h | h
      · left
        have : (i' + 1) * ek.sz ≤ i * ek.sz := Nat.mul_le_mul_right _ h
        rw [Nat.add_mul] at this
        omega
      · right
        have : (i + 1) * ek.sz ≤ i' * ek.sz := Nat.mul_le_mul_right _ h
        rw [Nat.add_mul] at this
        omega
  · rw [List.append_assoc] at hu
    by_cases h1 : j < p
    · rw [List.getElem?_append_left (by simp; omega), List.getElem?_take, if_pos h1] at hu
      rw [hset _ (.inl (by omega))]
      exact e9 j u hu
    · rw [List.getElem?_append_right (by simp; omega)] at hu
      simp only [List.length_take] at hu
      rw [Nat.min_eq_left (by omega)] at hu
      by_cases h2 : j - p < us.length
      · rw [List.getElem?_append_left h2] at hu
        have := hin (j - p) h2
        rw [show o + i * ek.sz + p + (j - p) = o + i * ek.sz + j by omega] at this
        rw [this]; exact hu
      · rw [List.getElem?_append_right (by omega), List.getElem?_drop] at hu
        rw [hset _ (.inr (by omega))]
        have := e9 (p + us.length + (j - p - us.length)) u hu
        rwa [show p + us.length + (j - p - us.length) = j by omega] at this
  · simp only [World.setRow, Array.getElem?_modify]
    rw [if_neg (fun e => (f2 i' k hk).2 e.symm)]
  · simp only [World.setRow, Array.getElem?_modify]
    rw [if_neg (fun e => hn (by rw [← e]; exact hS))]
/-- the element is given back -/
theorem Sep.giveback {vs' : List Slv} {x' : α} (h : Sep w0 (Part ek x' vs' :: l) w) (hq : l[q]? = some (OwnBut ek v xs i cs)) (hc : cs = ek.cells x' vs') : Sep w0 (l.set q (Own ek v (xs.set i x'))) w := by
 subst hc
 obtain ⟨S0, S1, a1, a2, a3, a4, a5⟩ := h.sat.uncons
 refine ⟨h.old, Sat.mono (Sat.upd (N := S0) a2 hq (fun k h0 h1 => a5 k h0 h1) (fun F hF hs => ⟨?_, fun k _ _ => rfl⟩)) (fun k hk => hk.elim (a4 k) (a3 k))⟩
 obtain ⟨m', c', g', o', cur, T, vs, e1, e2, e3, e4, e5, hS, hg, e6, e7, e8, e9, f, f1, f2, f3⟩ := hF
 subst e1
 refine ⟨_, m', c', rfl, by simp [e2], e3, .inr ⟨g', o', cur, T, fun j => if j = i then vs' else vs j, rfl, .inl hS, hg, ⟨e6, by simpa using e7, fun i' x1 hx1 j u hu => ?_⟩, fun j k => if j = i then S0 k else (f j k), fun i' x1 hx1 => ?_, fun i' k hk => ?_, fun a b k ha hb => ?_⟩⟩
 · by_cases e : i' = i
   · subst e
     rw [List.getElem?_set_self e4] at hx1
     obtain rfl := Option.some.inj hx1
     simp only [if_true] at hu
     exact e9 j u hu
   · rw [List.getElem?_set_ne (fun x => e x.symm)] at hx1
     simp only [if_neg e] at hu
     exact e8 i' x1 e hx1 j u hu
 · by_cases e : i' = i
   · subst e
     rw [List.getElem?_set_self e4] at hx1
     obtain rfl := Option.some.inj hx1
     simp only [if_true]
     exact a1
   · rw [List.getElem?_set_ne (fun x => e x.symm)] at hx1
     simp only [if_neg e]
     exact f1 i' x1 e hx1
 · simp only [] at hk
   split at hk
   · exact ⟨.inr hk, fun e => a5 k hk (hs k (e ▸ hS))⟩
   · exact ⟨.inl (f2 i' k hk).1, (f2 i' k hk).2⟩
 · simp only [] at ha hb
   split at ha <;> split at hb
   · omega
   · exact (a5 k ha (hs k (f2 b k hb).1)).elim
   · exact (a5 k hb (hs k (f2 a k ha).1)).elim
   · exact f3 a b k ha hb
/-- a slice of one's own is a slice -/
theorem Sep.own_sv (h : Sep w0 l w) (hq : l[q]? = some (Own ek v xs)) : ∃ s : Slv, v = sv s := by
 obtain ⟨A, n, c, h1, _⟩ := h.sat.get hq
 exact ⟨(A, n, c), h1⟩
theorem Sep.mkS {l' : List Res} (h : Sep w0 l' w) (e : l' = [Own ek v xs]) : Mk w0 (fun s : Slv => sv s) (fun s => [Own ek (sv s) xs]) v w := by
 subst e
 obtain ⟨s, rfl⟩ := h.own_sv (q := 0) rfl
 exact ⟨s, rfl, h⟩
theorem Sep.part_of {vs : List Slv} (h : Sep w0 l w) (σ : List Nat) (hn : σ.Nodup) (e : σ.map (fun i => l[i]?) = (ek.inner x vs).map some) : Sep w0 [Part ek x vs] w :=
  (h.pick (l' := ek.inner x vs) σ hn e).part_mk (l := []) (by simp)
/-- one part comes to the head -/
theorem Sep.pull {r : Res} {p : Nat} (h : Sep w0 l w) (hp : l[p]? = some r) : Sep w0 (r :: l.eraseIdx p) w := by
 have hlt := (List.getElem?_eq_some_iff.1 hp).1
 refine h.sub (fun i => match i with | 0 => p | i + 1 => if i < p then i else i + 1) ?_ ?_
 · intro i j _ _ e
   rcases i with _ | i <;> rcases j with _ | j <;> simp only [] at e
   · rfl
   · split at e <;> omega
   · split at e <;> omega
   · split at e <;> split at e <;> omega
 · intro i q hq
   rcases i with _ | i
   · simp at hq; subst hq; exact hp
   · simp only [List.getElem?_cons_succ, List.getElem?_eraseIdx] at hq
     simp only []
     split <;> simp_all
theorem Sep.own_part {s : Slv} (h : Sep w0 (Own ek (sv s) xs :: l) w) : Sep w0 (Part (sliceEK ek) xs [s] :: l) w := h.part_mk (ek := sliceEK ek) (x := xs) (vs := [s]) rfl
theorem nil_inner (ek : EK α) (w : World) : Sat ((sliceEK ek).inner [] []) (fun _ => False) w :=
  Sat.cons (S1 := fun _ => False) (Sat.nil (fun _ => False) w) (own_nil ek _ w) (fun k hk => hk) (fun k hk => hk) (fun k hk _ => hk)
end
section
variable {P : Program} {ops : Array Oper} {Q : Exit → Act → World → Prop} {a : Act} {w w0 : World} {rest : List Oper} {n d : Nat} {L : List (Nat × Value)} {l : List Res} {v u : Value}
variable {ty : TypeId} {ps : String} {af : Array Edge}
theorem r_storeg {ρ : Operand → Value} {D : Option Tmp} {gd : Option (Nat × Bool)} {T : TypeId} {x y : Operand} {g q : Nat} {vs : List Value} {w' : World} (hsz : szB P T = some vs.length) (hp : ρ x = .pointer (some ⟨g, q, none⟩)) (hy : ρ y = u) (hu : u.cells.toList = vs) (hr : (storeCells ⟨g, q, none⟩ vs).run P w = .ok () w') :
    (execOp ρ ⟨D, .store T x y, ty, ps, af, gd⟩).run P w = .ok .skip w' := by
  have hs := run_sizeOf (P := P) (w := w) hsz
  have hl : u.cells.size = vs.length := by rw [← hu]; simp
  have hst : (storeVar T ⟨g, q, none⟩ u).run P w = .ok () w' := by
    simp [storeVar, hl, hs, hu, hr]
  simp [execOp, hp, hy, Instr.storeAt, Instr.sureAddr, hst]
/-- an element is written whole into a row of one's own: its memory goes with it -/
theorem wl_oput {α : Type} {ek : EK α} {T : TypeId} {X Y : Operand} {q i m c g o p : Nat} {xs : List α} {x x' : α} {vs' : List Slv} (hF : Fr n L a) (hS : Sep w0 (Part ek x' vs' :: l) w) (hq : l[q]? = some (Own ek v xs)) (hv : v = .slice (some ⟨g, o, none⟩) m c) (hx : xs[i]? = some x)
    (hsz : szB P T = some ek.sz) (hp : a.eval X = .pointer (some ⟨g, p, none⟩)) (hpe : p = o + i * ek.sz) (hy : a.eval Y = u) (hu : u.cells.toList = ek.cells x' vs')
    (k : ∀ w', Sep w0 (l.set q (Own ek v (xs.set i x'))) w' → wpList P ops Q rest a w') : wpList P ops Q (⟨none, .store T X Y, ty, ps, af, none⟩ :: rest) a w := by
  subst hpe
  have hq' : (Part ek x' vs' :: l)[q + 1]? = some (Own ek v xs) := by simpa using hq
  have hql := (List.getElem?_eq_some_iff.1 hq).1
  obtain ⟨vs, h1⟩ := hS.borrow hq' hx
  have h2 := h1.tail
  simp only [List.set_cons_succ] at h2
  have hq2 : (Part ek x' vs' :: l.set q (OwnBut ek v xs i (ek.cells x vs)))[q + 1]? = some (OwnBut ek v xs i (ek.cells x vs)) := by simp [hql]
  obtain ⟨w', hr, h3⟩ := h2.but_row (P := P) (p := 0) (us := ek.cells x' vs') hq2 hv (by rw [ek.len, ek.len]; omega) (ek.one x' vs')
  have e : (ek.cells x vs).take 0 ++ ek.cells x' vs' ++ (ek.cells x vs).drop (0 + (ek.cells x' vs').length) = ek.cells x' vs' := by
    rw [ek.len, Nat.zero_add]
    rw [List.drop_eq_nil_of_le (by rw [ek.len]; omega)]
    simp
  rw [e] at h3
  simp only [List.set_cons_succ, List.set_set] at h3
  have h4 := h3.giveback (q := q) (v := v) (xs := xs) (i := i) (cs := ek.cells x' vs') (by simp [hql]) rfl
  rw [List.set_set] at h4
  exact wl0 (w' := w') hF rfl rfl (r_storeg (by rw [hsz, ek.len]) hp hy hu hr) (k _ h4)
theorem r_callw2 {D : Option Tmp} {gd : Option (Nat × Bool)} {f : FuncId} {ts : Array TypeId} {x x1 x2 : Operand} {v1 v2 : Value} (h : enterB P f = true) (hx : a.eval x = .func (.func f) #[] #[]) (h1 : a.eval x1 = v1) (h2 : a.eval x2 = v2) : (execOp a.eval ⟨D, .call ⟨.value x, #[x1, x2], ts⟩, ty, ps, af, gd⟩).run P w = .ok (.enter f #[v1, v2]) w := by
 have := r_callv2 (P := P) (w := w) (D := D) (gd := gd) (ty := ty) (ps := ps) (af := af) (ts := ts) h hx h1 h2
 simpa using this
theorem r_makeFunc {ρ : Operand → Value} {D : Option Tmp} {gd : Option (Nat × Bool)} {f : Fn} {cap : Array Operand} {vs : Array Value} (h : cap.map ρ = vs) : (execOp ρ ⟨D, .makeFunc f #[] cap, ty, ps, af, gd⟩).run P w = .ok (.value (.func f #[] vs)) w := by
 subst h; simp [execOp, Instr.makeFunc]
end
/-- bare cells -/
abbrev RawC (sz : Nat) := { cs : List Value // cs.length = sz ∧ ∀ u ∈ cs, u.oneCell' = true }
abbrev rawEK (sz : Nat) : EK (RawC sz) := flatEK sz (fun c => c.1) (fun c => c.2.1) (fun c => c.2.2)
def raw {α : Type} (ek : EK α) (x : α) (vs : List Slv) : RawC ek.sz := ⟨ek.cells x vs, ek.len x vs, ek.one x vs⟩
def raws {α : Type} (ek : EK α) (xs : List α) (vs : Nat → List Slv) : List (RawC ek.sz) := xs.mapIdx fun i x => raw ek x (vs i)
/-- the memory of a row's elements -/
def Inners {α : Type} (ek : EK α) (xs : List α) (vs : Nat → List Slv) : Res where
  P := fun S w => ∃ f : Nat → Nat → Prop, (∀ i x, xs[i]? = some x → Sat (ek.inner x (vs i)) (f i) w) ∧ (∀ i k, f i k → S k) ∧ (∀ i j k, f i k → f j k → i = j)
  loc := fun hk ⟨f, f1, f2, f3⟩ => ⟨f, fun i x hx => (f1 i x hx).loc (fun k hf => hk k (f2 i k hf)), f2, f3⟩
  mono := fun hs ⟨f, f1, f2, f3⟩ => ⟨f, f1, fun i k hf => hs k (f2 i k hf), f3⟩
section
variable {α : Type} {ek : EK α} {w0 w : World} {l : List Res} {q : Nat} {v : Value} {xs : List α} {vs : Nat → List Slv}
theorem raws_at {i : Nat} {c : RawC ek.sz} (h : (raws ek xs vs)[i]? = some c) : ∃ x, xs[i]? = some x ∧ c = raw ek x (vs i) := by
 simp only [raws, List.getElem?_mapIdx] at h
 obtain ⟨x, hx, e⟩ := Option.map_eq_some_iff.1 h
 exact ⟨x, hx, e.symm⟩
theorem raws_len : (raws ek xs vs).length = xs.length := by simp [raws]
/-- taken apart -/
theorem Sep.raw (h : Sep w0 (Own ek v xs :: l) w) : ∃ vs, Sep w0 (Own (rawEK ek.sz) v (raws ek xs vs) :: Inners ek xs vs :: l) w := by
 obtain ⟨S0, S1, a1, a2, a3, a4, a5⟩ := h.sat.uncons
 obtain ⟨A, n, c, h1, h2, h3, h4⟩ := a1
 rcases h4 with ⟨rfl, rfl⟩ | ⟨g, o, cur, T, vs, e, hS, hg, hr, f, f1, f2, f3⟩
 · refine ⟨fun _ => [], h.old, Sat.cons (S := S1) (S1 := fun _ => False) (Sat.cons (S1 := fun _ => False) a2 ⟨fun _ _ => False, by simp, by simp, by simp⟩ (fun k hk => hk.elim) (fun k hk => hk) (fun k hk _ => hk)) ?_ (fun k hk => hk.elim) a4 (fun k hk _ => hk)⟩
   exact ⟨A, n, 0, h1, by simpa [raws] using h2, h3, .inl ⟨rfl, rfl⟩⟩
 · refine ⟨vs, h.old, Sat.cons (S := fun k => (S0 k ∧ k ≠ g) ∨ S1 k) (S1 := fun k => k = g) (Sat.cons (S := S1) (S1 := fun k => S0 k ∧ k ≠ g) a2 ⟨f, f1, f2, f3⟩ (fun k hk => .inl hk) (fun k hk => .inr hk) (fun k h0 h1 => a5 k h0.1 h1)) ?_ (fun k hk => a3 k (hk ▸ hS)) (fun k hk => hk.elim (fun h => a3 k h.1) (a4 k)) (fun k hk hk' => hk'.elim (fun h => h.2 hk) (fun h => a5 k (hk ▸ hS) h))⟩
   refine ⟨A, n, c, h1, by rw [raws_len]; exact h2, h3, .inr ⟨g, o, cur, T, fun _ => [], e, rfl, hg, ⟨hr.room, by rw [raws_len]; exact hr.fits, fun i x hx j u hu => ?_⟩, fun _ _ => False, fun i x _ => Sat.nil _ _, by simp, by simp⟩⟩
   obtain ⟨x', hx', rfl⟩ := raws_at hx
   exact hr.at_ i x' hx' j u hu
/-- put together -/
theorem Sep.cook (h : Sep w0 (Own (rawEK ek.sz) v (raws ek xs vs) :: Inners ek xs vs :: l) w) : Sep w0 (Own ek v xs :: l) w := by
 obtain ⟨S0, S1, a1, a2, a3, a4, a5⟩ := h.sat.uncons
 obtain ⟨S2, S3, b1, b2, b3, b4, b5⟩ := a2.uncons
 refine ⟨h.old, Sat.cons (S := S3) (S1 := fun k => S0 k ∨ S2 k) b2 ?_ (fun k hk => hk.elim (a3 k) (fun h => a4 k (b3 k h))) (fun k hk => a4 k (b4 k hk)) (fun k h1 h2 => h1.elim (fun h => a5 k h (b4 k h2)) (fun h => b5 k h h2))⟩
 obtain ⟨A, n, c, h1, h2, h3, h4⟩ := a1
 rw [raws_len] at h2
 obtain ⟨f, f1, f2, f3⟩ := b1
 rcases h4 with ⟨rfl, hnil⟩ | ⟨g, o, cur, T, vs', e, hS, hg, hr, _⟩
 · have : xs = [] := by
     have := congrArg List.length hnil
     rw [raws_len] at this
     exact List.eq_nil_of_length_eq_zero (by simpa using this)
   exact ⟨A, n, 0, h1, h2, h3, .inl ⟨rfl, this⟩⟩
 · refine ⟨A, n, c, h1, h2, h3, .inr ⟨g, o, cur, T, vs, e, .inl hS, hg, ⟨hr.room, by have := hr.fits; rwa [raws_len] at this, fun i x hx j u hu => ?_⟩, f, f1, fun i k hf => ⟨.inr (f2 i k hf), fun e => a5 k (e ▸ hS) (b3 k (f2 i k hf))⟩, f3⟩⟩
   exact hr.at_ i (Sl.raw ek x (vs i)) (by simp [raws, List.getElem?_mapIdx, hx]) j u hu
/-- the memory of one element more -/
theorem Sep.inners_snoc {y : α} {ws : List Slv} (h : Sep w0 (Part ek y ws :: Inners ek xs vs :: l) w) : Sep w0 (Inners ek (xs ++ [y]) (fun i => if i < xs.length then vs i else ws) :: l) w := by
 obtain ⟨S0, S1, a1, a2, a3, a4, a5⟩ := h.sat.uncons
 obtain ⟨S2, S3, b1, b2, b3, b4, b5⟩ := a2.uncons
 refine ⟨h.old, Sat.cons (S := S3) (S1 := fun k => S0 k ∨ S2 k) b2 ?_ (fun k hk => hk.elim (a3 k) (fun h => a4 k (b3 k h))) (fun k hk => a4 k (b4 k hk)) (fun k h1 h2 => h1.elim (fun h => a5 k h (b4 k h2)) (fun h => b5 k h h2))⟩
 obtain ⟨f, f1, f2, f3⟩ := b1
 refine ⟨fun i k => if i < xs.length then f i k else (i = xs.length ∧ S0 k), fun i x hx => ?_, fun i k hf => ?_, fun i j k hi hj => ?_⟩
 · by_cases hi : i < xs.length
   · rw [List.getElem?_append_left hi] at hx
     simp only [if_pos hi]
     exact f1 i x hx
   · rw [List.getElem?_append_right (by omega)] at hx
     have hi' : i = xs.length := by
       have := (List.getElem?_eq_some_iff.1 hx).1
       simp at this; omega
     subst hi'
     simp at hx
     subst hx
     simp only [Nat.lt_irrefl, if_false, true_and]
     exact a1
 · simp only [] at hf
   split at hf
   · exact .inr (f2 i k hf)
   · exact .inl hf.2
 · simp only [] at hi hj
   split at hi <;> split at hj
   · exact f3 i j k hi hj
   · exact (a5 k hj.2 (b3 k (f2 i k hi))).elim
   · exact (a5 k hi.2 (b3 k (f2 j k hj))).elim
   · omega
theorem raws_snoc {y : α} {ws : List Slv} : raws ek (xs ++ [y]) (fun i => if i < xs.length then vs i else ws) = raws ek xs vs ++ [raw ek y ws] := by
 unfold raws
 rw [List.mapIdx_append]
 congr 1
 · apply List.ext_getElem?
   intro i
   simp only [List.getElem?_mapIdx]
   cases h : xs[i]? with
   | none => rfl
   | some x =>
     have := (List.getElem?_eq_some_iff.1 h).1
     simp [this]
 · simp
/-- the first parts in another order, some dropped -/
theorem Sep.headp {A B : List Res} (h : Sep w0 (A ++ l) w) (σ : List Nat) (hn : σ.Nodup) (hσ : σ.all (fun i => decide (i < A.length)) = true) (e : σ.map (fun i => A[i]?) = B.map some) : Sep w0 (B ++ l) w := by
 have hlen : σ.length = B.length := by simpa using congrArg List.length e
 have hlt : ∀ i (hi : i < σ.length), σ[i] < A.length := fun i hi => by simpa using List.all_eq_true.1 hσ _ (List.getElem_mem hi)
 refine h.sub (fun i => if h : i < σ.length then σ[i] else A.length + (i - σ.length)) (fun i j _ _ hij => ?_) (fun i r hr => ?_)
 · split at hij <;> split at hij
   · exact (List.getElem_inj hn).1 hij
   · rename_i h1 h2; have := hlt i h1; omega
   · rename_i h1 h2; have := hlt j h2; omega
   · omega
 · split
   · rename_i hi
     rw [List.getElem?_append_left (by omega)] at hr
     have := congrArg (fun (z : List (Option Res)) => z[i]?) e
     simp only [List.getElem?_map, hr, Option.map_some, List.getElem?_eq_getElem hi, Option.some.injEq] at this
     rw [List.getElem?_append_left (hlt i hi)]
     exact this
   · rename_i hi
     rw [List.getElem?_append_right (by omega)] at hr
     rw [List.getElem?_append_right (by omega), Nat.add_sub_cancel_left, hlen]
     exact hr
end
section
variable {P : Program} {ops : Array Oper} {Q : Exit → Act → World → Prop} {a : Act} {w w0 : World} {rest : List Oper} {n d : Nat} {L : List (Nat × Value)} {l : List Res} {v u : Value}
variable {ty : TypeId} {ps : String} {af : Array Edge}
/-- append of one element whose memory goes with it -/
theorem wl_appendn {α : Type} {ek : EK α} {b : Nat} {T : TypeId} {X Y : Operand} {zs : List Value} {xs : List α} {y : α} {ws : List Slv} (hF : Fr n L a) (hS : Sep w0 (Own ek v xs :: Part ek y ws :: l) w) (hdn : Nat.ble (d + 1) n = true)
    (hu : (rawEK ek.sz).Rd w u [raw ek y ws]) (hm : mkB P T = some (zs, ek.sz, b)) (hzl : zs.length = ek.sz) (hX : a.eval X = v) (hY : a.eval Y = u)
    (hb : (xs.length + 1) * b ≤ 140737488355328) (hn : xs.length + 1 ≤ maxLen)
    (k : ∀ A c w' a, Sep w0 (Own ek (.slice A (xs.length + 1) c) (xs ++ [y]) :: l) w' → Fr n ((d, .slice A (xs.length + 1) c) :: L) a → wpList P ops Q rest a w') :
    wpList P ops Q (⟨some d, .call ⟨.builtin .append, #[X, Y], #[T, T]⟩, ty, ps, af, none⟩ :: rest) a w := by
  obtain ⟨vs, h1⟩ := hS.raw
  refine wl_append (q := 0) hF h1 hdn rfl hu hm hzl hX hY (by rw [raws_len]; simpa using hb) (by rw [raws_len]; simpa using hn) ?_
  intro A c w' a' h2 hF'
  rw [raws_len] at h2 hF'
  simp only [List.set_cons_zero, List.length_cons, List.length_nil, Nat.zero_add] at h2 hF'
  have h3 := Sep.headp (A := [_, _, _]) (B := [_, _, _]) h2 [2, 1, 0] (by decide) rfl rfl
  have h4 := Sep.inners_snoc h3
  have h5 := Sep.headp (A := [_, _]) (B := [_, _]) h4 [1, 0] (by decide) rfl rfl
  rw [← raws_snoc] at h5
  exact k A c w' a' (Sep.cook h5) hF'
end
/-! ### the element at a place -/
def at0 {α : Type} [Inhabited α] (xs : List α) (i : Int) : α := (xs[i.toNat]?).getD default
section
variable {α : Type} [Inhabited α] {xs : List α} {i : Int} {k : Nat} {x : α}
theorem at0_get (h0 : 0 ≤ i) (h1 : i < xs.length) : xs[i.toNat]? = some (at0 xs i) := by
 have h : i.toNat < xs.length := by omega
 simp [at0, List.getElem?_eq_getElem h]
theorem at0_nat (h : k < xs.length) : xs[k]? = some (at0 xs (k : Int)) := by
 simp [at0, List.getElem?_eq_getElem h]
theorem at0_of (h : xs[k]? = some x) : at0 xs (k : Int) = x := by simp [at0, h]
theorem at0_mem (h0 : 0 ≤ i) (h1 : i < xs.length) : at0 xs i ∈ xs := List.mem_of_getElem? (at0_get h0 h1)
theorem take_at0 (h : (k : Int) < xs.length) : xs.take (k + 1) = xs.take k ++ [at0 xs (k : Int)] := by
 rw [List.take_add_one, at0_nat (by omega)]; rfl
end
theorem Rd.at {α : Type} [Inhabited α] {ek : EK α} {w : World} {v : Value} {xs : List α} (h : ek.Rd w v xs) {a : Act} {X : Operand} {kd : IntKind} {i : Int} (hi : a.eval X = .int kd i) (h0 : 0 ≤ i) (h1 : i < xs.length) :
    ∃ g o m c cs, v = .slice (some ⟨g, o, none⟩) m c ∧ m = xs.length ∧ i.toNat < m ∧ ek.K w (at0 xs i) cs ∧ cs.length = ek.sz ∧ ∀ j u, cs[j]? = some u → w.cell? ⟨g, o + i.toNat * ek.sz + j, none⟩ = some u :=
  Rd.idx h (at0_get h0 h1)
theorem Rd.atF {α : Type} [Inhabited α] {sz : Nat} {enc : α → List Value} {hl : ∀ x, (enc x).length = sz} {h1 : ∀ x u, u ∈ enc x → u.oneCell' = true} {w : World} {v : Value} {xs : List α} (h : (flatEK sz enc hl h1).Rd w v xs) {a : Act} {X : Operand} {kd : IntKind} {i : Int} (hi : a.eval X = .int kd i) (h0 : 0 ≤ i) (h1 : i < xs.length) :
    ∃ g o m c, v = .slice (some ⟨g, o, none⟩) m c ∧ m = xs.length ∧ i.toNat < m ∧ ∀ j u, (enc (at0 xs i))[j]? = some u → w.cell? ⟨g, o + i.toNat * sz + j, none⟩ = some u :=
  Rd.idxF h (at0_get h0 h1)
theorem Sep.own_len {α : Type} {ek : EK α} {w0 w : World} {l : List Res} {q : Nat} {s : Slv} {xs : List α} (h : Sep w0 l w) (hq : l[q]? = some (Own ek (sv s) xs)) : s.2.1 = xs.length := by
 obtain ⟨A, n, c, e, hn, _⟩ := h.sat.get hq
 simp only [sv, Value.slice.injEq] at e
 rw [e.2.1, hn]
/-! ### loops that carry their frame -/
section
variable {P : Program} {Q : Exit → Act → World → Prop} {a : Act} {w w0 : World} {n : Nat} {L : List (Nat × Value)} {l : List Res}
/-- nothing is changed but slots -/
theorem wp_loop_r {σ : Type} {c : Code} (vals : σ → List (Nat × Value) → List (Nat × Value)) (I : σ → Prop) (μ : σ → Nat) (s0 : σ) (hS : Sep w0 l w) (hF0 : Fr n (vals s0 L) a) (hI : I s0)
    (round : ∀ s a w, I s → Sep w0 l w → Fr n (vals s L) a → c.wp P (Exit.then (fun a' w' => ∃ s', I s' ∧ Sep w0 l w' ∧ Fr n (vals s' L) a' ∧ μ s' < μ s) Q) a w) : (Code.loop c).wp P Q a w := by
  refine wp_loop_g (fun s a w => I s ∧ Sep w0 l w ∧ Fr n (vals s L) a) μ s0 ⟨hI, hS, hF0⟩ (fun s a w ⟨h1, h2, h3⟩ => ?_)
  refine wp_mono (round s a w h1 h2 h3) (fun e a w h => ?_)
  cases e <;> first | exact h | (obtain ⟨s', h1, h2, h3, h4⟩ := h; exact ⟨s', ⟨h1, h2, h3⟩, h4⟩)
/-- the first parts of memory are changed -/
theorem wp_loop_m {σ : Type} {c : Code} (vals : σ → List (Nat × Value) → List (Nat × Value)) (R : σ → List Res → List Res) (I : σ → Prop) (μ : σ → Nat) (s0 : σ) (hS : Sep w0 (R s0 l) w) (hF0 : Fr n (vals s0 L) a) (hI : I s0)
    (round : ∀ s a w, I s → Sep w0 (R s l) w → Fr n (vals s L) a → c.wp P (Exit.then (fun a' w' => ∃ s', I s' ∧ Sep w0 (R s' l) w' ∧ Fr n (vals s' L) a' ∧ μ s' < μ s) Q) a w) : (Code.loop c).wp P Q a w := by
  refine wp_loop_g (fun s a w => I s ∧ Sep w0 (R s l) w ∧ Fr n (vals s L) a) μ s0 ⟨hI, hS, hF0⟩ (fun s a w ⟨h1, h2, h3⟩ => ?_)
  refine wp_mono (round s a w h1 h2 h3) (fun e a w h => ?_)
  cases e <;> first | exact h | (obtain ⟨s', h1, h2, h3, h4⟩ := h; exact ⟨s', ⟨h1, h2, h3⟩, h4⟩)
end
/-! ### conditions that join again -/
theorem no_letsOut {J : Act → World → Prop} (h : LetsOut (fun e a w => e = Exit.normal ∧ J a w)) : False := by
 obtain ⟨a, w, h, _⟩ := h
 cases h
theorem Oper.wp_only {P : Program} {o : Oper} {a : Act} {w : World} {K J : Act → World → Prop} {Q : Exit → Act → World → Prop} (h : o.wp P a w K (fun e a w => e = .normal ∧ J a w)) : o.wp P a w K Q := by
 unfold Oper.wp at *
 generalize (execOp a.eval o).run P w = r at *
 unfold Oper.upon at *
 split at h
 · exact h
 · exact h
 · exact h
 · refine Calls.mono h ?_
   rintro e w2 h
   cases e with
   | returned v => exact h
   | panicked c => exact absurd h.1 (by simp)
   | outgrown => exact (no_letsOut h).elim
 · exact h
 · exact absurd h.1 (by simp)
 · exact h.elim
theorem wpList_app {P : Program} {ops : Array Oper} {Q : Exit → Act → World → Prop} {J : Act → World → Prop} {B : List Oper} (hk : ∀ a w, J a w → wpList P ops Q B a w) :
    ∀ (A : List Oper) (a : Act) (w : World), wpList P ops (fun e a w => e = .normal ∧ J a w) A a w → wpList P ops Q (A ++ B) a w
  | [], a, w, h => hk a w h.2
  | o :: A, a, w, h => by
    rw [List.cons_append]
    unfold wpList at h ⊢
    split
    · rename_i hw
      rw [if_pos hw] at h
      rcases h with h | ⟨_, h⟩
      · exact .inl (Oper.wp_mono (fun a w h => wpList_app hk A a w h) (Oper.wp_only h))
      · exact (no_letsOut h).elim
    · rename_i hw
      rw [if_neg hw] at h
      exact wpList_app hk A _ w h
theorem wpQuiet_app {P : Program} {ops : Array Oper} {C : World → Prop} {Q J : Act → Prop} {B : List Oper} (hk : ∀ a, J a → wpQuiet P ops C Q B a) : ∀ (A : List Oper) (a : Act), wpQuiet P ops C J A a → wpQuiet P ops C Q (A ++ B) a
  | [], a, h => hk a h
  | o :: A, a, h => by
    rw [List.cons_append]
    unfold wpQuiet at h ⊢
    split
    · rename_i hw
      rw [if_pos hw] at h
      obtain ⟨v, h1, h2⟩ := h
      exact ⟨v, h1, wpQuiet_app hk A _ h2⟩
    · rename_i hw
      rw [if_neg hw] at h
      exact wpQuiet_app hk A _ h
section
variable {P : Program} {ops : Array Oper} {Q : Exit → Act → World → Prop} {a : Act} {w w0 : World} {A B rest : List Oper} {o : Oper} {n d : Nat} {L L' : List (Nat × Value)} {l : List Res} {v : Value} {Qa : Act → Prop} {tc pk : Nat} {c e : Bool}
/-- where a condition's second part leaves off -/
def JS (n : Nat) (L : List (Nat × Value)) (pk : Nat) (e : Bool) (w0 : World) (l : List Res) : Exit → Act → World → Prop := fun x a w => x = .normal ∧ Fr n ((pk, .bool e) :: L) a ∧ Sep w0 l w
def JQ (n : Nat) (L : List (Nat × Value)) (pk : Nat) (e : Bool) : Act → Prop := fun a => Fr n ((pk, .bool e) :: L) a
/-- the slots that came last go -/
theorem Fr.tail {x : Nat × Value} (h : Fr n (x :: L) a) (hx : (lk L x.1).isNone = true) : Fr n L a := by
 refine ⟨h.size, h.defs, fun t u ht => h.get t u ?_⟩
 obtain ⟨s, y⟩ := x
 simp only [lk]
 cases hb : Nat.beq s t with
 | true =>
   have := Nat.eq_of_beq_eq_true hb
   subst this
   simp only [] at hx
   rw [ht] at hx
   cases hx
 | false => simpa using ht
theorem lk_app {A L : List (Nat × Value)} {t : Nat} (h : ∀ x ∈ A, x.1 ≠ t) : lk (A ++ L) t = lk L t := by
 induction A with
 | nil => rfl
 | cons x A ih =>
   obtain ⟨s, y⟩ := x
   have hs : s ≠ t := h (s, y) (by simp)
   have hb : Nat.beq s t = false := by
     cases hb : Nat.beq s t with
     | true => exact absurd (Nat.eq_of_beq_eq_true hb) hs
     | false => rfl
   simp only [List.cons_append, lk, hb, cond_false]
   exact ih (fun x hx => h x (by simp [hx]))
theorem Fr.pre {A L : List (Nat × Value)} (h : Fr n (A ++ L) a) (hx : A.all (fun x => (lk L x.1).isNone) = true) : Fr n L a := by
 refine ⟨h.size, h.defs, fun t u ht => h.get t u ?_⟩
 rw [lk_app (fun x hA e => ?_)]
 · exact ht
 · have := List.all_eq_true.1 hx x hA
   rw [e, ht] at this
   cases this
theorem Fr.thin {v : Value} (h : Fr n ((pk, v) :: (tc, .bool c) :: L) a) (ht : lk L tc = some (.bool c)) : Fr n ((pk, v) :: L) a := by
 refine ⟨h.size, h.defs, fun t u hu => h.get t u ?_⟩
 simp only [lk] at hu ⊢
 cases hb : Nat.beq pk t with
 | true => simpa [hb] using hu
 | false =>
   simp only [hb, cond_false] at hu ⊢
   cases hb' : Nat.beq tc t with
   | true =>
     have := Nat.eq_of_beq_eq_true hb'
     subst this
     rw [ht] at hu
     simpa using hu
   | false => simpa using hu
theorem wl_and (hF : Fr n L a) (hS : Sep w0 l w) (ht : lk L tc = some (.bool c))
    (h1 : c = true → ∀ a, Fr n ((tc, .bool true) :: L) a → wpList P ops (JS n ((tc, .bool true) :: L) pk e w0 l) A a w)
    (h2 : c = false → ∀ a, Fr n ((tc, .bool false) :: L) a → wpList P ops (JS n ((tc, .bool false) :: L) pk false w0 l) A a w)
    (k : ∀ a w, Fr n ((pk, .bool (c && e)) :: L) a → Sep w0 l w → wpList P ops Q B a w) : wpList P ops Q (A ++ B) a w := by
  refine wpList_app (J := fun a w => Fr n ((pk, .bool (c && e)) :: L) a ∧ Sep w0 l w) (fun a w h => k a w h.1 h.2) A a w ?_
  have hx : ∀ A a w, wpList P ops (JS n ((tc, .bool c) :: L) pk (c && e) w0 l) A a w → wpList P ops (fun x a w => x = .normal ∧ Fr n ((pk, .bool (c && e)) :: L) a ∧ Sep w0 l w) A a w := fun A a w h => by
    have := wpList_app (B := []) (Q := fun x a w => x = .normal ∧ Fr n ((pk, .bool (c && e)) :: L) a ∧ Sep w0 l w) (J := fun a w => Fr n ((pk, .bool (c && e)) :: (tc, .bool c) :: L) a ∧ Sep w0 l w) (fun a w h => by unfold wpList; exact ⟨rfl, h.1.thin ht, h.2⟩) A a w h
    rwa [List.append_nil] at this
  refine hx A a w ?_
  cases c with
  | true => exact h1 rfl a (hF.keep hF ht)
  | false => exact h2 rfl a (hF.keep hF ht)
theorem wl_or (hF : Fr n L a) (hS : Sep w0 l w) (ht : lk L tc = some (.bool c))
    (h1 : c = false → ∀ a, Fr n ((tc, .bool false) :: L) a → wpList P ops (JS n ((tc, .bool false) :: L) pk e w0 l) A a w)
    (h2 : c = true → ∀ a, Fr n ((tc, .bool true) :: L) a → wpList P ops (JS n ((tc, .bool true) :: L) pk true w0 l) A a w)
    (k : ∀ a w, Fr n ((pk, .bool (c || e)) :: L) a → Sep w0 l w → wpList P ops Q B a w) : wpList P ops Q (A ++ B) a w := by
  refine wpList_app (J := fun a w => Fr n ((pk, .bool (c || e)) :: L) a ∧ Sep w0 l w) (fun a w h => k a w h.1 h.2) A a w ?_
  have hx : ∀ A a w, wpList P ops (JS n ((tc, .bool c) :: L) pk (c || e) w0 l) A a w → wpList P ops (fun x a w => x = .normal ∧ Fr n ((pk, .bool (c || e)) :: L) a ∧ Sep w0 l w) A a w := fun A a w h => by
    have := wpList_app (B := []) (Q := fun x a w => x = .normal ∧ Fr n ((pk, .bool (c || e)) :: L) a ∧ Sep w0 l w) (J := fun a w => Fr n ((pk, .bool (c || e)) :: (tc, .bool c) :: L) a ∧ Sep w0 l w) (fun a w h => by unfold wpList; exact ⟨rfl, h.1.thin ht, h.2⟩) A a w h
    rwa [List.append_nil] at this
  refine hx A a w ?_
  cases c with
  | false => exact h1 rfl a (hF.keep hF ht)
  | true => exact h2 rfl a (hF.keep hF ht)
theorem wq_and (hF : Fr n L a) (ht : lk L tc = some (.bool c))
    (h1 : c = true → ∀ a, Fr n ((tc, .bool true) :: L) a → wpQuiet P ops (fun w' => Below w.heap.size w w') (JQ n ((tc, .bool true) :: L) pk e) A a)
    (h2 : c = false → ∀ a, Fr n ((tc, .bool false) :: L) a → wpQuiet P ops (fun w' => Below w.heap.size w w') (JQ n ((tc, .bool false) :: L) pk false) A a)
    (k : ∀ a, Fr n ((pk, .bool (c && e)) :: L) a → wpQuiet P ops (fun w' => Below w.heap.size w w') Qa B a) : wpQuiet P ops (fun w' => Below w.heap.size w w') Qa (A ++ B) a := by
  refine wpQuiet_app (J := fun a => Fr n ((pk, .bool (c && e)) :: (tc, .bool c) :: L) a) (fun a h => k a (h.thin ht)) A a ?_
  cases c with
  | true => exact h1 rfl a (hF.keep hF ht)
  | false => exact h2 rfl a (hF.keep hF ht)
theorem wq_or (hF : Fr n L a) (ht : lk L tc = some (.bool c))
    (h1 : c = false → ∀ a, Fr n ((tc, .bool false) :: L) a → wpQuiet P ops (fun w' => Below w.heap.size w w') (JQ n ((tc, .bool false) :: L) pk e) A a)
    (h2 : c = true → ∀ a, Fr n ((tc, .bool true) :: L) a → wpQuiet P ops (fun w' => Below w.heap.size w w') (JQ n ((tc, .bool true) :: L) pk true) A a)
    (k : ∀ a, Fr n ((pk, .bool (c || e)) :: L) a → wpQuiet P ops (fun w' => Below w.heap.size w w') Qa B a) : wpQuiet P ops (fun w' => Below w.heap.size w w') Qa (A ++ B) a := by
  refine wpQuiet_app (J := fun a => Fr n ((pk, .bool (c || e)) :: (tc, .bool c) :: L) a) (fun a h => k a (h.thin ht)) A a ?_
  cases c with
  | false => exact h1 rfl a (hF.keep hF ht)
  | true => exact h2 rfl a (hF.keep hF ht)
end
/-- the ways of a condition, each with its slot -/
theorem wc_fx {P : Program} {Q : Exit → Act → World → Prop} {a : Act} {w : World} {n : Nat} {L : List (Nat × Value)} {t : Nat} {b : Bool} {x y : Code} (hF : Fr n L a) (ht : lk L t = some (.bool b)) (h1 : b = true → Fr n ((t, .bool true) :: L) a → x.wp P Q a w) (h2 : b = false → Fr n ((t, .bool false) :: L) a → y.wp P Q a w) :
    (Code.cond (.tmp t) x y).wp P Q a w := by
  have hx : ∀ c, b = c → Fr n ((t, .bool c) :: L) a := fun c e => Fr.keep hF hF (by rw [ht, e])
  exact wc_b (hF.ev ht) (fun e => h1 e (hx _ e)) (fun e => h2 e (hx _ e))
/-! ### regions that draw their order: what no world can change is taken first -/
section
variable {P : Program} {ops : Array Oper} {Q : Exit → Act → World → Prop} {S : World → Prop} {muts : List Nat}
theorem wpM_firstP {i : Nat} {oi : Oper} {v : Value} (hi : ops[i]? = some oi) (him : i ∉ muts) (hsel : ∀ (j : Nat) (o : Oper) cs b, ops[j]? = some o → o.op ≠ .select cs b)
    (hQ : ∀ c a w, Q (.panic c) (a.put oi.dst v) w → Q (.panic c) a w) :
    ∀ (fuel : Nat) (listed : Array Bool) (a : Act) (w : World),
      (∀ j oj, ops[j]? = some oj → j ≠ i → listed.getD j true = false → (∀ e ∈ oj.after, Region.binds .any e = true → e.on ≠ i) → oi.apart ops oj = true) →
      i ∈ Region.ready .any ops listed → YieldsIf P ops (fun _ => True) oi v a → (phB muts listed = true → S w) →
      wpM P ops Q S muts fuel (listed.setIfInBounds i true) (a.put oi.dst v) w → wpM P ops Q S muts (fuel + 1) listed a w := by
  intro fuel
  induction fuel with
  | zero =>
    intro listed a w _ hr hy hS H
    refine ⟨fun h => (by rw [h] at hr; cases hr), fun j hj => ?_⟩
    by_cases hji : j = i
    · subst hji; exact hy.wpOp hi trivial ⟨fun h => hS (by rwa [phB_set him] at h), H⟩
    · have := ready_mono hj hji
      rw [H.1] at this
      cases this
  | succ fuel ih =>
    intro listed a w hfree hr hy hS H
    refine ⟨fun h => (by rw [h] at hr; cases hr), fun j hj => ?_⟩
    by_cases hji : j = i
    · subst hji; exact hy.wpOp hi trivial ⟨fun h => hS (by rwa [phB_set him] at h), H⟩
    · have h1 := H.2 j (ready_mono hj hji)
      obtain ⟨hjun, oj, hoj, hall⟩ := mem_ready.1 hj
      have hnot : ∀ e ∈ oj.after, Region.binds .any e = true → e.on ≠ i := fun e he hb heq => by
        have h1 := hall e he hb
        have h0 := (mem_ready.1 hr).1
        rw [heq] at h1
        rcases Nat.lt_or_ge i listed.size with h' | h'
        · simp [h'] at h0 h1; rw [h0] at h1; cases h1
        · simp [Array.getElem?_eq_none h'] at h1
      have h2 := wpOp_putIf hoj (hfree j oj hoj hji hjun hnot) (fun cs b => hsel i oi cs b hi) (fun cs b => hsel j oj cs b hoj) hQ hy h1
      have hfree' : ∀ k ok, ops[k]? = some ok → k ≠ i → (listed.setIfInBounds j true).getD k true = false →
          (∀ e ∈ ok.after, Region.binds .any e = true → e.on ≠ i) → oi.apart ops ok = true := fun k ok hk hki hun hno => by
        refine hfree k ok hk hki ?_ hno
        by_cases hjk : j = k
        · subst hjk; exact hjun
        · rw [getD_set_ne true hjk] at hun; exact hun
      have hph : phB muts ((listed.setIfInBounds i true).setIfInBounds j true) = phB muts (listed.setIfInBounds j true) := by
        rw [Array.setIfInBounds_comm _ _ (Ne.symm hji), phB_set him]
      refine wpOp_mono (fun a' w' h3 => ?_) h2
      have hS' : phB muts (listed.setIfInBounds j true) = true → S w' := fun h => h3.2.1 (hph.trans h)
      refine ⟨hS', ih (listed.setIfInBounds j true) a' w' hfree' (ready_mono hr (Ne.symm hji)) h3.1 hS' ?_⟩
      rw [Array.setIfInBounds_comm _ _ hji]
      exact h3.2.2
end
/-- an operation that may be taken first, whatever the others change -/
def pureB (ops : Array Oper) (T : Alcs) (muts : List Nat) (i : Nat) (is : List Nat) : Bool :=
  decide (i < ops.size) && !is.contains i && T.all (fun t => t.1 != i && !is.contains t.1) && Region.noSelect ops && depsB ops i (fun k => decide (k < ops.size) && k != i && !is.contains k && T.all (fun t => t.1 != k)) && !muts.contains i &&
  (match ops[i]? with
   | some oi => (is ++ T.map (·.1)).all (fun j => waitsB ops j (fun k => k == i) || (match ops[j]? with | some oj => oi.apart ops oj | none => true))
   | none => false)
/-- an operation that may be taken first as long as nothing of X has come up; X waits for it -/
def loadB (ops : Array Oper) (T : Alcs) (muts X : List Nat) (i : Nat) (is : List Nat) : Bool :=
  pureB ops T muts i is && !X.contains i && muts.all (fun m => X.contains m) && X.all (fun k => is.contains k && waitsB ops k (fun e => e == i || X.contains e))
theorem wpM_firstX {P : Program} {ops : Array Oper} {Q : Exit → Act → World → Prop} {S : World → Prop} {muts X : List Nat} {i : Nat} {oi : Oper} {v : Value} (hi : ops[i]? = some oi) (him : i ∉ X) (hmX : ∀ m ∈ muts, m ∈ X) (hsel : ∀ (j : Nat) (o : Oper) cs b, ops[j]? = some o → o.op ≠ .select cs b)
    (hQ : ∀ c a w, Q (.panic c) (a.put oi.dst v) w → Q (.panic c) a w)
    (hmut : ∀ m ∈ X, ∀ om, ops[m]? = some om → ∃ e ∈ om.after, Region.binds .any e = true ∧ (e.on = i ∨ e.on ∈ X)) :
    ∀ (fuel : Nat) (listed : Array Bool) (a : Act) (w : World),
      (∀ j oj, ops[j]? = some oj → j ≠ i → listed.getD j true = false → (∀ e ∈ oj.after, Region.binds .any e = true → e.on ≠ i) → oi.apart ops oj = true) →
      i ∈ Region.ready .any ops listed → YieldsIf P ops S oi v a → S w → phB X listed = true →
      wpM P ops Q S muts fuel (listed.setIfInBounds i true) (a.put oi.dst v) w → wpM P ops Q S muts (fuel + 1) listed a w := by
  have hX : ∀ listed, phB X listed = true → phB muts listed = true := fun listed h => List.all_eq_true.2 fun m hm => List.all_eq_true.1 h m (hmX m hm)
  intro fuel
  induction fuel with
  | zero =>
    intro listed a w _ hr hy hS hp H
    refine ⟨fun h => (by rw [h] at hr; cases hr), fun j hj => ?_⟩
    by_cases hji : j = i
    · subst hji; exact hy.wpOp hi hS ⟨fun _ => hS, H⟩
    · have := ready_mono hj hji
      rw [H.1] at this
      cases this
  | succ fuel ih =>
    intro listed a w hfree hr hy hS hp H
    refine ⟨fun h => (by rw [h] at hr; cases hr), fun j hj => ?_⟩
    by_cases hji : j = i
    · subst hji; exact hy.wpOp hi hS ⟨fun _ => hS, H⟩
    · have h1 := H.2 j (ready_mono hj hji)
      obtain ⟨hjun, oj, hoj, hall⟩ := mem_ready.1 hj
      have hnot : ∀ e ∈ oj.after, Region.binds .any e = true → e.on ≠ i := fun e he hb heq => by
        have h1 := hall e he hb
        have h0 := (mem_ready.1 hr).1
        rw [heq] at h1
        rcases Nat.lt_or_ge i listed.size with h' | h'
        · simp [h'] at h0 h1; rw [h0] at h1; cases h1
        · simp [Array.getElem?_eq_none h'] at h1
      have hjm : j ∉ X := fun hm => by
        obtain ⟨e, he, hb, heq⟩ := hmut j hm oj hoj
        rcases heq with heq | heq
        · exact hnot e he hb heq
        · have h1 := hall e he hb
          have h2 := List.all_eq_true.1 hp e.on heq
          rw [h1] at h2
          cases h2
      have h2 := wpOp_putIf hoj (hfree j oj hoj hji hjun hnot) (fun cs b => hsel i oi cs b hi) (fun cs b => hsel j oj cs b hoj) hQ hy h1
      have hfree' : ∀ k ok, ops[k]? = some ok → k ≠ i → (listed.setIfInBounds j true).getD k true = false →
          (∀ e ∈ ok.after, Region.binds .any e = true → e.on ≠ i) → oi.apart ops ok = true := fun k ok hk hki hun hno => by
        refine hfree k ok hk hki ?_ hno
        by_cases hjk : j = k
        · subst hjk; exact hjun
        · rw [getD_set_ne true hjk] at hun; exact hun
      have hp' : phB X (listed.setIfInBounds j true) = true := by rw [phB_set hjm]; exact hp
      have hp'' : phB X ((listed.setIfInBounds i true).setIfInBounds j true) = true := by rw [phB_set hjm, phB_set him]; exact hp
      refine wpOp_mono (fun a' w' h3 => ⟨fun _ => h3.2.1 (hX _ hp''), ih (listed.setIfInBounds j true) a' w' hfree' (ready_mono hr (Ne.symm hji)) h3.1 (h3.2.1 (hX _ hp'')) hp' ?_⟩) h2
      rw [Array.setIfInBounds_comm _ _ hji]
      exact h3.2.2
/-- an operation that is wanted, as far as the slots tell -/
def GW (ops : Array Oper) (n : Nat) (L : List (Nat × Value)) (o : Oper) : Prop := ∀ a, Fr n L a → Region.wanted o (yielded ops a.tmps) = true
theorem gw0 {ops : Array Oper} {n : Nat} {L : List (Nat × Value)} {o : Oper} (hg : o.guard = none) : GW ops n L o := fun a _ => by simp [Region.wanted, hg]
theorem gw1 {ops : Array Oper} {n : Nat} {L : List (Nat × Value)} {o : Oper} {j t : Nat} {b c : Bool} (hg : o.guard = some (j, b)) (hj : (ops[j]?).bind (·.dst) = some t) (ht : lk L t = some (.bool c)) (heq : (c == b) = true) : GW ops n L o := fun a hF => by
  simp only [Region.wanted, hg, yielded_of hF hj ht]
  cases c <;> cases b <;> simp_all
theorem wpOp_ofW {P : Program} {ops : Array Oper} {a : Act} {w : World} {i : Nat} {o : Oper} {K : Act → World → Prop} {Q : Exit → Act → World → Prop} (ho : ops[i]? = some o) (hw : Region.wanted o (yielded ops a.tmps) = true) (h : o.wp P a w K Q) : wpOp P ops Q i K a w := by
 unfold wpOp
 rw [ho]
 dsimp only
 rw [if_pos hw]
 exact .inl h
theorem todo_load (X : List Nat) {P : Program} {ops : Array Oper} {Q : Exit → Act → World → Prop} {wd W : World} {T : Alcs} {muts : List Nat} {n : Nat} {L : List (Nat × Value)} {l : List Res} {i : Nat} {is : List Nat} {o : Oper} {d : Nat} {v : Value}
    (hl : Lay P ops T n) (hk : loadB ops T muts X i is = true) (ho : ops[i]? = some o) (hg : GW ops n L o) (hd : o.dst = some d) (hdn : Nat.ble (d + 1) n = true) (hT : T.all (fun t => t.2.1 != d) = true)
    (hy : ∀ a w', Fr n L a → Below wd.heap.size wd w' → (execOp a.eval o).run P w' = .ok (.value v) w')
    (k : ∀ rem a w, Rem T rem → Fr n ((d, v) :: L) a → At T wd W l rem a w → Todo P ops Q wd muts rem is a w) :
    ∀ rem a w, Rem T rem → Fr n L a → At T wd W l rem a w → Todo P ops Q wd muts rem (i :: is) a w := by
  intro rem a w hR hF hA listed hsz hls
  have hT' : ∀ t ∈ T, t.2.1 ≠ d := fun t ht => by simpa using List.all_eq_true.1 hT t ht
  simp only [loadB, pureB, ho, Bool.and_eq_true, decide_eq_true_eq, Bool.not_eq_true', List.all_eq_true, bne_iff_ne] at hk
  obtain ⟨⟨⟨⟨⟨⟨⟨⟨⟨k1, k2⟩, k3⟩, k4⟩, k5⟩, k6⟩, k8⟩, x1⟩, x2⟩, x3⟩ := hk
  have hir : rem.contains i = false := by
    rw [Bool.eq_false_iff]
    intro h
    obtain ⟨t, ht, e⟩ := hR.sub i (by simpa using h)
    exact (k3 t ht).1 e
  have hfu : (i :: is).length + rem.length = (is.length + rem.length) + 1 := by simp; omega
  rw [hfu]
  have hi0 : listed.getD i true = false := by rw [getD_tf (by omega), hls i k1]; simp
  have hrdy : i ∈ Region.ready .any ops listed := by
    refine depsB_yes k5 hi0 (fun k hk => ?_)
    simp only [Bool.and_eq_true, decide_eq_true_eq, bne_iff_ne, Bool.not_eq_true', List.all_eq_true] at hk
    obtain ⟨⟨⟨q1, q2⟩, q3⟩, q4⟩ := hk
    rw [hls k q1]
    have h1 : (i :: is).contains k = false := by rw [List.contains_cons, q3]; simp [q2]
    have h2 : rem.contains k = false := by
      rw [Bool.eq_false_iff]
      intro h
      obtain ⟨t, ht, e⟩ := hR.sub k (by simpa using h)
      exact q4 t ht e
    rw [h1, h2]; rfl
  refine wpM_firstX (X := X) ho (by simpa using x1) (fun m hm => List.contains_iff_mem.1 (x2 m hm)) (Region.noSelect_spec k4) (fun c a w h => by cases h.1) (fun m hm om hom => ?_) _ listed a w ?_ hrdy (.inl ⟨hg a hF, fun w hw => hy a w hF hw⟩) hA.s ?_ ?_
  · have := (x3 m hm).2
    unfold waitsB at this
    rw [hom] at this
    obtain ⟨e, he, h2⟩ := Array.any_eq_true'.1 this
    simp only [Bool.and_eq_true, Bool.or_eq_true, beq_iff_eq] at h2
    exact ⟨e, he, h2.1, h2.2.imp id List.contains_iff_mem.1⟩
  · intro j oj hj hne hun hno
    have hlt := (Array.getElem?_eq_some_iff.1 hj).1
    rw [getD_tf (by omega), hls j hlt] at hun
    have hmem : j ∈ is ++ T.map (·.1) := by
      rw [List.mem_append]
      by_cases hm : j ∈ is
      · exact .inl hm
      · right
        have : j ∈ rem := by
          simp [List.contains_cons, hne, hm] at hun; exact hun
        obtain ⟨t, ht, e⟩ := hR.sub j this
        exact List.mem_map.2 ⟨t, ht, e⟩
    have := k8 j hmem
    simp only [hj, Bool.or_eq_true] at this
    rcases this with h | h
    · unfold waitsB at h
      rw [hj] at h
      obtain ⟨e, he, h2⟩ := Array.any_eq_true'.1 h
      simp only [Bool.and_eq_true, beq_iff_eq] at h2
      exact (hno e he h2.1 h2.2).elim
    · exact h
  · unfold phB
    rw [List.all_eq_true]
    intro m hm
    have hm' := (x3 m hm).1
    rcases Nat.lt_or_ge m ops.size with hlt | hge
    · rw [hls m hlt]
      have : (i :: is).contains m = true := by rw [List.contains_cons, hm']; simp
      rw [this]; rfl
    · simp [Array.getD, hsz, Nat.not_lt.2 hge]
  · have := k rem (a.put (some d) v) w hR (hF.put hdn v) (hA.put hT') (listed.setIfInBounds i true) (by simp [hsz]) (listed_set k1 hsz k2 hir hls)
    rw [hd]
    exact this
theorem todo_pureY {P : Program} {ops : Array Oper} {Q : Exit → Act → World → Prop} {wd W : World} {T : Alcs} {muts : List Nat} {n : Nat} {L : List (Nat × Value)} {l : List Res} {i : Nat} {is : List Nat} {o : Oper} {d : Nat} {v : Value}
    (hl : Lay P ops T n) (hk : pureB ops T muts i is = true) (ho : ops[i]? = some o) (hd : o.dst = some d) (hdn : Nat.ble (d + 1) n = true) (hT : T.all (fun t => t.2.1 != d) = true)
    (hy : ∀ a, Fr n L a → YieldsIf P ops (fun _ => True) o v a)
    (k : ∀ rem a w, Rem T rem → Fr n ((d, v) :: L) a → At T wd W l rem a w → Todo P ops Q wd muts rem is a w) :
    ∀ rem a w, Rem T rem → Fr n L a → At T wd W l rem a w → Todo P ops Q wd muts rem (i :: is) a w := by
  intro rem a w hR hF hA listed hsz hls
  have hT' : ∀ t ∈ T, t.2.1 ≠ d := fun t ht => by simpa using List.all_eq_true.1 hT t ht
  simp only [pureB, ho, Bool.and_eq_true, decide_eq_true_eq, Bool.not_eq_true', List.all_eq_true, bne_iff_ne] at hk
  obtain ⟨⟨⟨⟨⟨⟨k1, k2⟩, k3⟩, k4⟩, k5⟩, k6⟩, k8⟩ := hk
  have hir : rem.contains i = false := by
    rw [Bool.eq_false_iff]
    intro h
    obtain ⟨t, ht, e⟩ := hR.sub i (by simpa using h)
    exact (k3 t ht).1 e
  have hfu : (i :: is).length + rem.length = (is.length + rem.length) + 1 := by simp; omega
  rw [hfu]
  have hi0 : listed.getD i true = false := by rw [getD_tf (by omega), hls i k1]; simp
  have hrdy : i ∈ Region.ready .any ops listed := by
    refine depsB_yes k5 hi0 (fun k hk => ?_)
    simp only [Bool.and_eq_true, decide_eq_true_eq, bne_iff_ne, Bool.not_eq_true', List.all_eq_true] at hk
    obtain ⟨⟨⟨q1, q2⟩, q3⟩, q4⟩ := hk
    rw [hls k q1]
    have h1 : (i :: is).contains k = false := by rw [List.contains_cons, q3]; simp [q2]
    have h2 : rem.contains k = false := by
      rw [Bool.eq_false_iff]
      intro h
      obtain ⟨t, ht, e⟩ := hR.sub k (by simpa using h)
      exact q4 t ht e
    rw [h1, h2]; rfl
  refine wpM_firstP ho (by simpa using k6) (Region.noSelect_spec k4) (fun c a w h => by cases h.1) _ listed a w ?_ hrdy (hy a hF) (fun _ => hA.s) ?_
  · intro j oj hj hne hun hno
    have hlt := (Array.getElem?_eq_some_iff.1 hj).1
    rw [getD_tf (by omega), hls j hlt] at hun
    have hmem : j ∈ is ++ T.map (·.1) := by
      rw [List.mem_append]
      by_cases hm : j ∈ is
      · exact .inl hm
      · right
        have : j ∈ rem := by
          simp [List.contains_cons, hne, hm] at hun; exact hun
        obtain ⟨t, ht, e⟩ := hR.sub j this
        exact List.mem_map.2 ⟨t, ht, e⟩
    have := k8 j hmem
    simp only [hj, Bool.or_eq_true] at this
    rcases this with h | h
    · unfold waitsB at h
      rw [hj] at h
      obtain ⟨e, he, h2⟩ := Array.any_eq_true'.1 h
      simp only [Bool.and_eq_true, beq_iff_eq] at h2
      exact (hno e he h2.1 h2.2).elim
    · exact h
  · have := k rem (a.put (some d) v) w hR (hF.put hdn v) (hA.put hT') (listed.setIfInBounds i true) (by simp [hsz]) (listed_set k1 hsz k2 hir hls)
    rw [hd]
    exact this
theorem todo_pure {P : Program} {ops : Array Oper} {Q : Exit → Act → World → Prop} {wd W : World} {T : Alcs} {muts : List Nat} {n : Nat} {L : List (Nat × Value)} {l : List Res} {i : Nat} {is : List Nat} {o : Oper} {d : Nat} {v : Value}
    (hl : Lay P ops T n) (hk : pureB ops T muts i is = true) (ho : ops[i]? = some o) (hg : GW ops n L o) (hd : o.dst = some d) (hdn : Nat.ble (d + 1) n = true) (hT : T.all (fun t => t.2.1 != d) = true)
    (hy : ∀ a w', Fr n L a → (execOp a.eval o).run P w' = .ok (.value v) w')
    (k : ∀ rem a w, Rem T rem → Fr n ((d, v) :: L) a → At T wd W l rem a w → Todo P ops Q wd muts rem is a w) :
    ∀ rem a w, Rem T rem → Fr n L a → At T wd W l rem a w → Todo P ops Q wd muts rem (i :: is) a w :=
  todo_pureY hl hk ho hd hdn hT (fun a hF => .inl ⟨hg a hF, fun w _ => hy a w hF⟩) k
/-! ### regions that draw their order: several operations may come up next -/
def sameB (is is' : List Nat) : Bool := is.length == is'.length && is.all (fun j => is'.contains j) && is'.all (fun j => is.contains j)
/-- of these one comes up next, but for allocations; with each the list of what is left -/
def forkB (ops : Array Oper) (T : Alcs) (C : List (Nat × List Nat)) (is : List Nat) : Bool :=
  !C.isEmpty && is.all (fun j => decide (j < ops.size)) && C.all (fun p => is.contains p.1 && sameB (is.erase p.1) p.2 && !p.2.contains p.1 && depsB ops p.1 (fun k => decide (k < ops.size) && !is.contains k && T.all (fun t => t.1 != k))) &&
  T.all (fun t => !is.contains t.1) && is.all (fun j => (C.map (·.1)).contains j || waitsB ops j (fun k => is.contains k))
section
variable {P : Program} {ops : Array Oper} {Q : Exit → Act → World → Prop} {wd W : World} {T : Alcs} {muts : List Nat} {n : Nat} {L : List (Nat × Value)} {l : List Res}
theorem sameB_contains {is is' : List Nat} (h : sameB is is' = true) (j : Nat) : is.contains j = is'.contains j := by
 simp only [sameB, Bool.and_eq_true, List.all_eq_true] at h
 obtain ⟨⟨_, h1⟩, h2⟩ := h
 rw [Bool.eq_iff_iff]
 exact ⟨fun hj => h1 j (by simpa using hj), fun hj => h2 j (by simpa using hj)⟩
theorem phB_grow {muts : List Nat} {listed : Array Bool} {i : Nat} (h : phB muts listed = false) : phB muts (listed.setIfInBounds i true) = false := by
 rw [Bool.eq_false_iff] at h ⊢
 refine fun hh => h (List.all_eq_true.2 fun m hm => ?_)
 have := List.all_eq_true.1 hh m hm
 by_cases e : i = m
 · subst e
   rcases Nat.lt_or_ge i listed.size with h' | h'
   · simp [Array.getD, h'] at this
   · simp [Array.getD, Nat.not_lt.2 h']
 · rwa [getD_set_ne false e] at this
/-- once something has been changed: any other ground will do -/
theorem wpM_rebase {S S' : World → Prop} {muts muts' : List Nat} : ∀ (fuel : Nat) (listed : Array Bool) (a : Act) (w : World), phB muts listed = false → wpM P ops Q S' muts' fuel listed a w → wpM P ops Q S muts fuel listed a w
  | 0, _, _, _, _, h => h
  | fuel + 1, listed, a, w, hp, h => ⟨h.1, fun i hi => wpOp_mono (fun a' w' h' => ⟨fun x => (by rw [phB_grow hp] at x; cases x), wpM_rebase fuel _ a' w' (phB_grow hp) h'.2⟩) (h.2 i hi)⟩
theorem todo_fork (C : List (Nat × List Nat)) {is : List Nat} (hl : Lay P ops T n) (hL : T.all (fun t => (lk L t.2.1).isNone) = true) (hk : forkB ops T C is = true)
    (hop : ∀ p ∈ C, ∀ rem a w, Rem T rem → Fr n L a → At T wd W l rem a w → wpOp P ops (QN Q) p.1 (fun a' w' => (Below wd.heap.size wd w' ∧ Todo P ops Q wd muts rem p.2 a' w') ∨ (muts.contains p.1 = true ∧ ∃ m', Todo P ops Q w' m' rem p.2 a' w')) a w) :
    ∀ rem a w, Rem T rem → Fr n L a → At T wd W l rem a w → Todo P ops Q wd muts rem is a w := by
  have hL' : ∀ t ∈ T, lk L t.2.1 = none := fun t ht => by simpa using List.all_eq_true.1 hL t ht
  simp only [forkB, Bool.and_eq_true, decide_eq_true_eq, Bool.not_eq_true', List.all_eq_true, Bool.or_eq_true] at hk
  obtain ⟨⟨⟨⟨k1, k2⟩, k3⟩, k4⟩, k5⟩ := hk
  have hwait : ∀ (rem : List Nat) (listed : Array Bool) (j : Nat), listed.size = ops.size → (∀ j, j < ops.size → listed.getD j false = (!is.contains j && !rem.contains j)) → j ∈ is → j ∈ Region.ready .any ops listed → ∃ p ∈ C, p.1 = j := by
    intro rem listed j hsz hls hm hr
    rcases k5 j hm with h | h
    · obtain ⟨p, hp, e⟩ := List.mem_map.1 (List.contains_iff_mem.1 h)
      exact ⟨p, hp, e⟩
    · refine (waitsB_no h (fun k hk => ?_) hr).elim
      have hlt := k2 k (by simpa using hk)
      rw [hls k hlt, hk]; rfl
  have hlist : ∀ (rem : List Nat) (listed : Array Bool) (p : Nat × List Nat), listed.size = ops.size → (∀ j, j < ops.size → listed.getD j false = (!is.contains j && !rem.contains j)) → p ∈ C → rem.contains p.1 = false →
      ∀ j, j < ops.size → (listed.setIfInBounds p.1 true).getD j false = (!p.2.contains j && !rem.contains j) := by
    intro rem listed p hsz hls hp hr j hj
    obtain ⟨⟨⟨h1, h2⟩, h3⟩, _⟩ := k3 p hp
    by_cases e : p.1 = j
    · subst e
      rw [h3, hr]
      simp [Array.getD, hsz, hj]
    · rw [getD_set_ne false e, hls j hj]
      have : is.contains j = p.2.contains j := by
        rw [← sameB_contains h2 j, Bool.eq_iff_iff]
        simp only [List.contains_iff_mem]
        exact ⟨fun h => (List.mem_erase_of_ne (fun x => e x.symm)).2 h, fun h => List.mem_of_mem_erase h⟩
      rw [this]
  have hlen : ∀ p ∈ C, is.length = p.2.length + 1 := fun p hp => by
    obtain ⟨⟨⟨h1, h2⟩, h3⟩, _⟩ := k3 p hp
    have hm : p.1 ∈ is := by simpa using h1
    have e1 := List.length_erase_of_mem hm
    have e2 : 0 < is.length := List.length_pos_of_mem hm
    simp only [sameB, Bool.and_eq_true, beq_iff_eq] at h2
    omega
  have hrem : ∀ rem : List Nat, Rem T rem → ∀ p ∈ C, rem.contains p.1 = false := by
    intro rem hR p hp
    rw [Bool.eq_false_iff]
    intro h
    obtain ⟨t, ht, e⟩ := hR.sub p.1 (by simpa using h)
    have := k4 t ht
    rw [e, (k3 p hp).1.1.1] at this
    cases this
  obtain ⟨p0, hp0⟩ : ∃ p, p ∈ C := by
    cases C with
    | nil => simp at k1
    | cons p C => exact ⟨p, by simp⟩
  have key : ∀ m rem a w, rem.length = m → Rem T rem → Fr n L a → At T wd W l rem a w → Todo P ops Q wd muts rem is a w := by
    intro m
    induction m with
    | zero =>
      intro rem a w hm hR hF hA listed hsz hls
      obtain rfl := List.eq_nil_of_length_eq_zero hm
      have hrdy : p0.1 ∈ Region.ready .any ops listed := by
        obtain ⟨⟨⟨h1, h2⟩, h3⟩, h4⟩ := k3 p0 hp0
        have hlt := k2 p0.1 (by simpa using h1)
        refine depsB_yes h4 ?_ (fun k hk => ?_)
        · rw [getD_tf (by omega), hls _ hlt, h1]; rfl
        · simp only [Bool.and_eq_true, decide_eq_true_eq, Bool.not_eq_true'] at hk
          rw [hls k hk.1.1, hk.1.2]; rfl
      have hle := hlen p0 hp0
      rw [show is.length + ([] : List Nat).length = p0.2.length + 1 by simp; omega]
      refine ⟨fun h => (by rw [h] at hrdy; cases hrdy), fun j hj => ?_⟩
      have h0 := (mem_ready.1 hj).1
      obtain ⟨o, ho, _⟩ := (mem_ready.1 hj).2
      have hlt := (Array.getElem?_eq_some_iff.1 ho).1
      rw [getD_tf (by omega), hls j hlt] at h0
      have hm : j ∈ is := by simpa using h0
      obtain ⟨p, hp, rfl⟩ := hwait [] listed j hsz hls hm hj
      refine wpOp_mono (fun a' w' h => ?_) (hop p hp [] a w hR hF hA)
      have e1 := hlen p hp
      rw [show p0.2.length = p.2.length + ([] : List Nat).length by simp; omega]
      rcases h with h | ⟨hm1, m', h⟩
      · exact ⟨fun _ => h.1, h.2 (listed.setIfInBounds p.1 true) (by simp [hsz]) (hlist [] listed p hsz hls hp (by simp))⟩
      · have hph : phB muts (listed.setIfInBounds p.1 true) = false := by
          rw [Bool.eq_false_iff]
          intro hh
          have := List.all_eq_true.1 hh p.1 (List.contains_iff_mem.1 hm1)
          simp [Array.getD, hsz, k2 p.1 (by simpa using (k3 p hp).1.1.1)] at this
        exact ⟨fun x => (by rw [hph] at x; cases x), wpM_rebase _ _ _ _ hph (h (listed.setIfInBounds p.1 true) (by simp [hsz]) (hlist [] listed p hsz hls hp (by simp)))⟩
    | succ m ih =>
      intro rem a w hm hR hF hA listed hsz hls
      have halc : ∀ t ∈ T, t.1 ∈ rem → t.1 ∈ Region.ready .any ops listed := fun t ht hr => by
        obtain ⟨ty, ty', ps, ho, hz⟩ := hl.ok.get t ht
        have hlt := (Array.getElem?_eq_some_iff.1 ho).1
        refine mem_ready.2 ⟨?_, _, ho, fun e he => by simp at he⟩
        rw [getD_tf (by omega), hls _ hlt]
        have : rem.contains t.1 = true := by simpa using hr
        rw [this]; simp
      have hle := hlen p0 hp0
      have hfu : is.length + rem.length = (p0.2.length + rem.length) + 1 := by omega
      rw [hfu]
      refine ⟨fun h => ?_, fun j hj => ?_⟩
      · match rem, hm, hR, halc with
        | r :: rem, hm, hR, halc =>
          obtain ⟨t, ht, e⟩ := hR.sub r (by simp)
          have := halc t ht (by rw [e]; simp)
          rw [h] at this; cases this
      · have h0 := (mem_ready.1 hj).1
        obtain ⟨o, ho, _⟩ := (mem_ready.1 hj).2
        have hlt := (Array.getElem?_eq_some_iff.1 ho).1
        rw [getD_tf (by omega), hls j hlt] at h0
        by_cases hm' : j ∈ is
        · obtain ⟨p, hp, rfl⟩ := hwait rem listed j hsz hls hm' hj
          refine wpOp_mono (fun a' w' h => ?_) (hop p hp rem a w hR hF hA)
          have e1 := hlen p hp
          rw [show p0.2.length = p.2.length by omega]
          rcases h with h | ⟨hm1, m', h⟩
          · exact ⟨fun _ => h.1, h.2 (listed.setIfInBounds p.1 true) (by simp [hsz]) (hlist rem listed p hsz hls hp (hrem rem hR p hp))⟩
          · have hph : phB muts (listed.setIfInBounds p.1 true) = false := by
              rw [Bool.eq_false_iff]
              intro hh
              have := List.all_eq_true.1 hh p.1 (List.contains_iff_mem.1 hm1)
              simp [Array.getD, hsz, k2 p.1 (by simpa using (k3 p hp).1.1.1)] at this
            exact ⟨fun x => (by rw [hph] at x; cases x), wpM_rebase _ _ _ _ hph (h (listed.setIfInBounds p.1 true) (by simp [hsz]) (hlist rem listed p hsz hls hp (hrem rem hR p hp)))⟩
        · have hr : j ∈ rem := by
            simp [hm'] at h0; exact h0
          obtain ⟨t, ht, rfl⟩ := hR.sub j hr
          obtain ⟨ty, ty', ps, ho', hz⟩ := hl.ok.get t ht
          refine wpOp_alloc ho' hz ⟨fun _ => hA.s.alloc hA.s.size _, ?_⟩
          have hR' : Rem T (rem.erase t.1) := ⟨hR.nd.erase _, fun r hr => hR.sub r (List.mem_of_mem_erase hr)⟩
          have hlen' : (rem.erase t.1).length = m := by rw [List.length_erase_of_mem hr, hm]; rfl
          have hA' := hA.alloc (ty := ty) ht hl.d1 hl.d2 (by rw [hF.size]; exact hl.lt t ht) hR.nd
          have hF' := hF.putO (hL' t ht) (.pointer (some ⟨w.heap.size, 0, none⟩))
          have := ih (rem.erase t.1) _ _ hlen' hR' hF' hA' (listed.setIfInBounds t.1 true) (by simp [hsz]) (listed_erase hlt hsz (by simpa using hm') hR.nd hls)
          have hfu' : is.length + (rem.erase t.1).length = p0.2.length + rem.length := by rw [hlen', hm]; omega
          rw [hfu'] at this
          exact this
  exact fun rem a w hR hF hA => key _ rem a w rfl hR hF hA
theorem op_mk {Γ : Type} {i : Nat} {is : List Nat} {o : Oper} {d : Nat} {f : FuncId} {args : Array Value} {val : Γ → Value} {l1 : Γ → List Res} (hL : T.all (fun t => (lk L t.2.1).isNone) = true) (ho : ops[i]? = some o) (hg : GW ops n L o) (hd : o.dst = some d) (hdn : Nat.ble (d + 1) n = true) (hT : T.all (fun t => t.2.1 != d) = true)
    (hr : ∀ a w, Fr n L a → (execOp a.eval o).run P w = .ok (.enter f args) w) (hc : ∀ w, Sep W l w → Calls P f args w (Ret (Mk w val l1)))
    (k : ∀ γ rem a w, Rem T rem → Fr n ((d, val γ) :: L) a → At T wd W (l1 γ ++ l) rem a w → Todo P ops Q wd muts rem is a w) :
    ∀ rem a w, Rem T rem → Fr n L a → At T wd W l rem a w → wpOp P ops (QN Q) i (fun a' w' => (Below wd.heap.size wd w' ∧ Todo P ops Q wd muts rem is a' w') ∨ (muts.contains i = true ∧ ∃ m', Todo P ops Q w' m' rem is a' w')) a w := by
  intro rem a w hR hF hA
  refine wpOp_ofW ho (hg a hF) ?_
  unfold Oper.wp
  rw [hr a w hF, Oper.upon_enter]
  refine (hc w hA.sep).mono ?_
  rintro e w1 ⟨v, rfl, γ, rfl, hS⟩
  show _ ∨ _
  rw [hd]
  exact .inl ⟨hA.s.trans (hS.old.mono hA.s.size), k γ rem _ _ hR (hF.put hdn _) ((hA.made hS).put (fun t ht => by simpa using List.all_eq_true.1 hT t ht))⟩
theorem op_op {Γ : Type} {i : Nat} {is : List Nat} {o : Oper} {d : Nat} {val : Γ → Value} {l1 : Γ → List Res} (hL : T.all (fun t => (lk L t.2.1).isNone) = true) (ho : ops[i]? = some o) (hg : GW ops n L o) (hd : o.dst = some d) (hdn : Nat.ble (d + 1) n = true) (hT : T.all (fun t => t.2.1 != d) = true)
    (hr : ∀ a w, Fr n L a → Sep W l w → ∃ γ w', (execOp a.eval o).run P w = .ok (.value (val γ)) w' ∧ Sep w (l1 γ) w')
    (k : ∀ γ rem a w, Rem T rem → Fr n ((d, val γ) :: L) a → At T wd W (l1 γ ++ l) rem a w → Todo P ops Q wd muts rem is a w) :
    ∀ rem a w, Rem T rem → Fr n L a → At T wd W l rem a w → wpOp P ops (QN Q) i (fun a' w' => (Below wd.heap.size wd w' ∧ Todo P ops Q wd muts rem is a' w') ∨ (muts.contains i = true ∧ ∃ m', Todo P ops Q w' m' rem is a' w')) a w := by
  intro rem a w hR hF hA
  refine wpOp_ofW ho (hg a hF) ?_
  obtain ⟨γ, w1, hrun, hS⟩ := hr a w hF hA.sep
  unfold Oper.wp
  rw [hrun, Oper.upon_value, hd]
  exact .inl ⟨hA.s.trans (hS.old.mono hA.s.size), k γ rem _ _ hR (hF.put hdn _) ((hA.made hS).put (fun t ht => by simpa using List.all_eq_true.1 hT t ht))⟩
/-- one that is read only, as one of several that may come up -/
theorem op_ld {i : Nat} {is : List Nat} {o : Oper} {d : Nat} {v : Value} (hL : T.all (fun t => (lk L t.2.1).isNone) = true) (ho : ops[i]? = some o) (hg : GW ops n L o) (hd : o.dst = some d) (hdn : Nat.ble (d + 1) n = true) (hT : T.all (fun t => t.2.1 != d) = true)
    (hr : ∀ a w, Fr n L a → Sep W l w → (execOp a.eval o).run P w = .ok (.value v) w)
    (k : ∀ rem a w, Rem T rem → Fr n ((d, v) :: L) a → At T wd W l rem a w → Todo P ops Q wd muts rem is a w) :
    ∀ rem a w, Rem T rem → Fr n L a → At T wd W l rem a w → wpOp P ops (QN Q) i (fun a' w' => (Below wd.heap.size wd w' ∧ Todo P ops Q wd muts rem is a' w') ∨ (muts.contains i = true ∧ ∃ m', Todo P ops Q w' m' rem is a' w')) a w :=
  op_op (Γ := Unit) (val := fun _ => v) (l1 := fun _ => []) hL ho hg hd hdn hT (fun a w hF hS => ⟨(), w, hr a w hF hS, Below.refl _ _, Sat.nil _ _⟩) (fun _ => k)
/-- a box is written over, and the rest goes on from there -/
theorem op_st {i j g T' : Nat} {is : List Nat} {m' : List Nat} {o : Oper} {x y : Operand} {ty : TypeId} {ps : String} {af : Array Edge} {cs vs : List Value} (ho : ops[i]? = some o) (hoe : o = ⟨none, .store T' x y, ty, ps, af, none⟩) (hm : muts.contains i = true) (hi : l[j]? = some (Box g cs))
    (hp : ∀ a, Fr n L a → a.eval x = .pointer (some ⟨g, 0, none⟩)) (hy : ∀ a, Fr n L a → a.eval y = .agg vs.toArray) (hsz : szB P T' = some vs.length) (hl : evenB vs cs = true) (h1 : vs.all (fun u => u.oneCell') = true)
    (k : ∀ wd', Sep W (l.set j (Box g vs)) wd' → ∀ rem a w, Rem T rem → Fr n L a → At T wd' W (l.set j (Box g vs)) rem a w → Todo P ops Q wd' m' rem is a w) :
    ∀ rem a w, Rem T rem → Fr n L a → At T wd W l rem a w → wpOp P ops (QN Q) i (fun a' w' => (Below wd.heap.size wd w' ∧ Todo P ops Q wd muts rem is a' w') ∨ (muts.contains i = true ∧ ∃ m', Todo P ops Q w' m' rem is a' w')) a w := by
  intro rem a w hR hF hA
  subst hoe
  refine wpOp_of ho rfl ?_
  obtain ⟨gs, hb, hbx⟩ := hA.box
  have hl' := evenB_eq _ _ hl
  obtain ⟨w', hr, hS'⟩ := hb.box_row (P := P) (i := j + 1) (o := 0) (vs := vs) (by simpa using hi) (by omega) (fun u hu => List.all_eq_true.1 h1 u hu)
  have e : cs.take 0 ++ vs ++ cs.drop (0 + vs.length) = vs := by
    rw [Nat.zero_add, hl', List.drop_length]; simp
  rw [e] at hS'
  have hrun := r_storen (ρ := a.eval) (D := none) (gd := none) (ty := ty) (ps := ps) (af := af) hsz (hp a hF) (hy a hF) hr
  unfold Oper.wp
  rw [hrun, Oper.upon_skip]
  refine .inr ⟨hm, m', k w' (by simpa using hS'.tail) rem _ w' hR (by simpa [Act.put] using hF) ⟨Below.refl _ _, gs, by simpa using hS', fun t ht hr => ?_⟩⟩
  obtain ⟨g, h1, h2⟩ := hbx t ht hr
  exact ⟨g, h1, by simpa [Act.put] using h2⟩
end
/-! ### division, nil, structs held against each other -/
section
variable {P : Program} {ρ : Operand → Value} {w : World} {D : Option Tmp} {ty : TypeId} {ps : String} {af : Array Edge} {gd : Option (Nat × Bool)} {t t' : TypeId} {k : IntKind} {x y : Operand} {m q : Int}
theorem r_quo (h0 : q ≠ 0) (hx : ρ x = .int k m) (hy : ρ y = .int k q) : (execOp ρ ⟨D, .binOp .quo t x y t', ty, ps, af, gd⟩).run P w = .ok (.value (.int k (k.wrap (m.tdiv q)))) w := by
 simp [execOp, hx, hy, go_sem, Op.intDiv, h0]
theorem r_rem (h0 : q ≠ 0) (hx : ρ x = .int k m) (hy : ρ y = .int k q) : (execOp ρ ⟨D, .binOp .rem t x y t', ty, ps, af, gd⟩).run P w = .ok (.value (.int k (m.tmod q))) w := by
 simp [execOp, hx, hy, go_sem, Op.intDiv, h0]
theorem r_eqnil {A : Option Addr} {n c : Nat} (ht : P.underlying t = some (.slice (P.elem t))) (hx : ρ x = .slice A n c) (hy : ρ y = .slice none 0 0) : (execOp ρ ⟨D, .binOp .eql t x y t', ty, ps, af, gd⟩).run P w = .ok (.value (.bool A.isNone)) w := by
 have := Lib.run_eql_slice_nil (P := P) w t (P.elem t) A n c 0 0 ht
 simp [execOp, hx, hy, this, go_sem]
end
theorem Rd.none_nil {α : Type} {ek : EK α} {w : World} {n c : Nat} {A : Option Addr} {xs : List α} (h : ek.Rd w (.slice A n c) xs) (hA : A.isNone = true) : xs = [] := by
 cases xs with
 | nil => rfl
 | cons x xs =>
   obtain ⟨g, o, m, c', cs, e, _⟩ := Rd.idx h (i := 0) rfl
   simp only [Value.slice.injEq] at e
   rw [e.1] at hA
   cases hA
/-- some cells of many -/
theorem subcells {w : World} {g o : Nat} {cs vs : List Value} (hc : ∀ j u, cs[j]? = some u → w.cell? ⟨g, o + j, none⟩ = some u) (k m : Nat) (e : (cs.drop k).take m = vs) : ∀ j u, vs[j]? = some u → w.cell? ⟨g, o + k + j, none⟩ = some u := by
 intro j u hu
 subst e
 rw [List.getElem?_take] at hu
 split at hu
 · rw [List.getElem?_drop] at hu
   have := hc _ u hu
   rwa [← Nat.add_assoc] at this
 · cases hu
/-! ### an element that is borrowed: its cells one by one -/
section
variable {P : Program} {ops : Array Oper} {Q : Exit → Act → World → Prop} {a : Act} {w w0 : World} {rest : List Oper} {n d : Nat} {L : List (Nat × Value)} {l : List Res} {v u : Value}
variable {ty : TypeId} {ps : String} {af : Array Edge}
theorem Sep.but1 {α : Type} {ek : EK α} {q i m c g o j : Nat} {xs : List α} {cs : List Value} (h : Sep w0 l w) (hq : l[q]? = some (OwnBut ek (.slice (some ⟨g, o, none⟩) m c) xs i cs)) (hu : cs[j]? = some u) : w.cell? ⟨g, o + i * ek.sz + j, none⟩ = some u :=
  h.but_at hq rfl j u hu
theorem Sep.butn {α : Type} {ek : EK α} {q i m c g o : Nat} {xs : List α} {cs vs : List Value} {j k : Nat} (h : Sep w0 l w) (hq : l[q]? = some (OwnBut ek (.slice (some ⟨g, o, none⟩) m c) xs i cs)) (hv : (cs.drop j).take k = vs) : ∀ p u, vs[p]? = some u → w.cell? ⟨g, o + i * ek.sz + j + p, none⟩ = some u := by
 intro p u hu
 subst hv
 rw [List.getElem?_take] at hu
 split at hu
 · rw [List.getElem?_drop] at hu
   have := h.but_at hq rfl _ u hu
   rwa [← Nat.add_assoc] at this
 · simp at hu
theorem wl_bstore {α : Type} {ek : EK α} {T : TypeId} {X Y : Operand} {q i m c g o j p : Nat} {xs : List α} {cs : List Value} (hF : Fr n L a) (hS : Sep w0 l w) (hq : l[q]? = some (OwnBut ek (.slice (some ⟨g, o, none⟩) m c) xs i cs))
    (hsz : szB P T = some 1) (hp : a.eval X = .pointer (some ⟨g, p, none⟩)) (hpe : p = o + i * ek.sz + j) (hy : a.eval Y = u) (h1 : u.oneCell' = true) (hj : (cs[j]?).isSome = true)
    (k : ∀ w', Sep w0 (l.set q (OwnBut ek (.slice (some ⟨g, o, none⟩) m c) xs i (cs.set j u))) w' → wpList P ops Q rest a w') : wpList P ops Q (⟨none, .store T X Y, ty, ps, af, none⟩ :: rest) a w := by
  subst hpe
  have hj' : j < cs.length := lt_of_some hj
  obtain ⟨w', hr, h3⟩ := hS.but_row (P := P) (p := j) (us := [u]) hq rfl (by simp; omega) (by simpa using h1)
  have e : cs.take j ++ [u] ++ cs.drop (j + [u].length) = cs.set j u := by
    rw [List.set_eq_take_append_cons_drop, if_pos hj']; simp
  rw [e] at h3
  have hv : u.cells.toList = [u] := by cases u <;> simp_all [Value.cells, Value.oneCell']
  exact wl0 (w' := w') hF rfl rfl (r_storeg (by simpa using hsz) hp hy hv hr) (k _ h3)
theorem wl_bstoren {α : Type} {ek : EK α} {T : TypeId} {X Y : Operand} {q i m c g o j p : Nat} {xs : List α} {cs us cs' : List Value} (hF : Fr n L a) (hS : Sep w0 l w) (hq : l[q]? = some (OwnBut ek (.slice (some ⟨g, o, none⟩) m c) xs i cs))
    (hsz : szB P T = some us.length) (hp : a.eval X = .pointer (some ⟨g, p, none⟩)) (hpe : p = o + i * ek.sz + j) (hy : a.eval Y = .agg us.toArray) (h1 : us.all (fun u => u.oneCell') = true) (hj : longB (cs.drop j) us = true ∧ ((cs.drop j)[0]?).isSome = true) (he : cs.take j ++ us ++ cs.drop (j + us.length) = cs')
    (k : ∀ w', Sep w0 (l.set q (OwnBut ek (.slice (some ⟨g, o, none⟩) m c) xs i cs')) w' → wpList P ops Q rest a w') : wpList P ops Q (⟨none, .store T X Y, ty, ps, af, none⟩ :: rest) a w := by
  subst hpe
  subst he
  obtain ⟨w', hr, h3⟩ := hS.but_row (P := P) (p := j) (us := us) hq rfl (long_fits hj.1 hj.2) (fun u hu => List.all_eq_true.1 h1 u hu)
  exact wl0 (w' := w') hF rfl rfl (r_storeg hsz hp hy rfl hr) (k _ h3)
end
/-! ### slices of slices -/
/-- where a slice's slice begins -/
def cutA (A : Option Addr) (sz c i : Nat) : Option Addr := if c = i then A else A.map (·.add (i * sz))
section
variable {P : Program} {ρ : Operand → Value} {w w0 : World} {D : Option Tmp} {ty : TypeId} {ps : String} {af : Array Edge} {gd : Option (Nat × Bool)} {t : TypeId} {x y z : Operand} {A : Option Addr} {n c i j sz b : Nat} {k k' : IntKind} {l : List Res}
theorem run_asInt (k : IntKind) (i : Int) : (asIntOf (.int k i)).run P w = .ok (k, i) w := by simp [asIntOf, go_sem]
theorem slB_parts (h : slB P t = some (sz, b)) : ∃ e, P.underlying t = some (.slice e) ∧ (sizeOf e).run P w = .ok sz w := by
 unfold slB at h
 split at h
 · rename_i e he
   obtain ⟨ti, hi, h2⟩ := Option.map_eq_some_iff.1 h
   simp only [Prod.mk.injEq] at h2
   exact ⟨e, he, run_sizeOf (by simp [szB, hi, h2.1])⟩
 · simp at h
theorem r_cutlo (ht : slB P t = some (sz, b)) (hx : ρ x = .slice A n c) (hy : ρ y = .int k (i : Int)) (h1 : i ≤ n) (h2 : n ≤ c) :
    (execOp ρ ⟨D, .slice t x (some y) none none, ty, ps, af, gd⟩).run P w = .ok (.value (.slice (cutA A sz c i) (n - i) (c - i))) w := by
  obtain ⟨e, he, hs⟩ := slB_parts (w := w) ht
  have h3 : (i : Int) ≤ n := by omega
  simp [execOp, hx, hy, Instr.sliceAt, Instr.slice, Instr.sliceBounds, Instr.sliceBound, run_asInt, run_underlying he, hs, h1, Nat.not_lt.2 h1, go_sem, cutA]
theorem r_cuthi (ht : slB P t = some (sz, b)) (hx : ρ x = .slice A n c) (hy : ρ y = .int k (j : Int)) (h1 : j ≤ c) :
    (execOp ρ ⟨D, .slice t x none (some y) none, ty, ps, af, gd⟩).run P w = .ok (.value (.slice A j c)) w := by
  obtain ⟨e, he, hs⟩ := slB_parts (w := w) ht
  have h3 : (j : Int) ≤ c := by omega
  have ha : ∀ (a : Addr), a.add 0 = a := fun a => Addr.add_zero' a
  cases A <;> simp [execOp, hx, hy, Instr.sliceAt, Instr.slice, Instr.sliceBounds, Instr.sliceBound, run_asInt, run_underlying he, hs, h1, Nat.not_lt.2 h1, go_sem, ha]
end
section
variable {α : Type} {ek : EK α} {w w0 : World} {A : Option Addr} {n c i j : Nat} {xs : List α} {l : List Res} {q : Nat}
/-- a slice of a row that is read -/
theorem Rd.cut (h : ek.Rd w (.slice A n c) xs) (h1 : i ≤ j) (h2 : j ≤ n) : ek.Rd w (.slice (cutA A ek.sz c i) (j - i) (c - i)) ((xs.take j).drop i) := by
 obtain ⟨A', n', c', e, hn, hc, hm, hx⟩ := h
 simp only [Value.slice.injEq] at e
 obtain ⟨rfl, rfl, rfl⟩ := e
 refine ⟨_, _, _, rfl, by simp; omega, by omega, by omega, fun p x hp => ?_⟩
 rw [List.getElem?_drop, List.getElem?_take] at hp
 split at hp
 · rename_i hlt
   obtain ⟨g, o, rfl, cs, k1, k2, k3⟩ := hx _ x hp
   have hne : ¬ c = i := by omega
   refine ⟨g, o + i * ek.sz, by simp [cutA, hne, Addr.add_lit], cs, k1, k2, fun jj u hu => ?_⟩
   have := k3 jj u hu
   rw [Nat.add_mul, ← Nat.add_assoc] at this
   exact this
 · cases hp
/-- a slice of a row of one's own -/
theorem own_cut {S : Nat → Prop} (h : (Own ek (.slice A n c) xs).P S w) (h1 : i ≤ j) (h2 : j ≤ n) : (Own ek (.slice (cutA A ek.sz c i) (j - i) (c - i)) ((xs.take j).drop i)).P S w := by
 obtain ⟨A', n', c', e, hn, hc, hrow⟩ := h
 simp only [Value.slice.injEq] at e
 obtain ⟨rfl, rfl, rfl⟩ := e
 refine ⟨_, _, _, rfl, by simp; omega, by omega, ?_⟩
 rcases hrow with ⟨rfl, rfl⟩ | ⟨g, o, cur, T, vs, rfl, hS, hg, hr, f, f1, f2, f3⟩
 · left
   simp
 · right
   have hfit := hr.fits
   by_cases hci : c = i
   · subst hci
     have hnil : (xs.take j).drop c = [] := List.drop_eq_nil_of_le (by simp; omega)
     rw [hnil]
     refine ⟨g, o, cur, T, fun _ => [], by simp [cutA], hS, hg, ⟨?_, by simp, fun p x hp => by simp at hp⟩, fun _ _ => False, fun p x hp => by simp at hp, by simp, by simp⟩
     have := hr.room
     rw [Nat.sub_self, Nat.zero_mul]
     omega
   · refine ⟨g, o + i * ek.sz, cur, T, fun p => vs (i + p), by simp [cutA, hci, Addr.add_lit], hS, hg, ⟨?_, by simp; omega, fun p x hp jj u hu => ?_⟩, fun p => f (i + p), fun p x hp => ?_, fun p k hk => f2 _ k hk, fun a b k ha hb => by have := f3 _ _ k ha hb; omega⟩
     · have := hr.room
       have e2 : (c - i) * ek.sz + i * ek.sz = c * ek.sz := by rw [← Nat.add_mul]; congr 1; omega
       omega
     · rw [List.getElem?_drop, List.getElem?_take] at hp
       split at hp
       · have := hr.at_ _ x hp jj u hu
         rw [Nat.add_mul, ← Nat.add_assoc] at this
         exact this
       · cases hp
     · rw [List.getElem?_drop, List.getElem?_take] at hp
       split at hp
       · exact f1 _ x hp
       · cases hp
theorem Sep.own_cut (h : Sep w0 l w) (hq : l[q]? = some (Own ek (.slice A n c) xs)) (h1 : i ≤ j) (h2 : j ≤ n) : Sep w0 (l.set q (Own ek (.slice (cutA A ek.sz c i) (j - i) (c - i)) ((xs.take j).drop i))) w :=
  h.upd hq rfl rfl rfl (Nat.le_refl _) (fun F hF hs => ⟨Res.mono _ (fun k hk => .inl hk) (Sl.own_cut hF h1 h2), fun _ _ _ => rfl⟩)
end
theorem results_tmp3 {P : Program} {fn : Func} {t u z : Nat} (h : fn.results = #[.tmp t, .tmp u, .tmp z]) {a : Act} {w : World} {x y v : Value} (hx : a.tmps[t]? = some x) (hy : a.tmps[u]? = some y) (hv : a.tmps[z]? = some v) : (results fn a.tmps).run P w = .ok (.tuple #[x, y, v]) w := by
 simp [results, h, Array.getD_eq_getD_getElem?, hx, hy, hv]
theorem ret3 {P : Program} {fn : Func} {n : Nat} {L : List (Nat × Value)} {a : Act} {w : World} {t u z : Nat} {x y v : Value} {R : Value → World → Prop} (hres : fn.results = #[.tmp t, .tmp u, .tmp z]) (hF : Fr n L a) (hx : lk L t = some x) (hy : lk L u = some y) (hv : lk L z = some v) (hR : R (.tuple #[x, y, v]) w) : bodyPost P fn (Ret R) .ret a w :=
  ⟨hF.defs, .tuple #[x, y, v], results_tmp3 hres (hF.get _ _ hx) (hF.get _ _ hy) (hF.get _ _ hv), _, rfl, hR⟩
/-! ### structs of numbers -/
def flFs (g : TypeId → Option Nat) : Nat → List Field → Option Nat
  | off, [] => some off
  | off, f :: fs => if f.name == "_" || !(f.offset == off) then none else match g f.type with
    | some k => flFs g (off + k) fs
    | none => none
/-- a struct of numbers: how many -/
def flN (P : Program) : Nat → TypeId → Option Nat
  | 0, _ => none
  | d + 1, t => match P.underlying t with
    | some (.int .i64) => if szB P t = some 1 then some 1 else none
    | some (.struct fs) => if P.stoodInHeld t then none else match flFs (flN P d) 0 fs.toList with
      | some n => if szB P t = some n then some n else none
      | none => none
    | _ => none
/-- the value of so many numbers -/
def flV (P : Program) (t : TypeId) (xs : List Int) : Value := if aggB P t then .agg (xs.map vi).toArray else vi (xs.headD 0)
theorem flN_scal {P : Program} {t : TypeId} (h : P.underlying t = some (.int .i64)) : aggB P t = false ∧ scalB P t = true := by
 unfold aggB scalB; rw [h]; exact ⟨rfl, rfl⟩
theorem flN_agg {P : Program} {t : TypeId} {fs : Array Field} (h : P.underlying t = some (.struct fs)) : aggB P t = true := by
 unfold aggB; rw [h]
theorem run_part {P : Program} {w : World} {d n off : Nat} {t : TypeId} {xs : List Int} (h : flN P d t = some n) (hl : off + n ≤ xs.length) :
    (part t (xs.map vi).toArray off).run P w = .ok (flV P t ((xs.drop off).take n)) w := by
  cases d with
  | zero => simp [flN] at h
  | succ d =>
    unfold flN at h
    split at h
    · rename_i hu
      split at h
      · obtain rfl := Option.some.inj h
        obtain ⟨ha, hs⟩ := flN_scal hu
        have h1 := run_isAgg_false (P := P) (w := w) hs
        have hlt : off < xs.length := by omega
        have e : (xs.drop off).take 1 = [xs[off]] := by rw [List.drop_eq_getElem_cons hlt]; rfl
        simp [part, h1, go_sem, hlt, flV, ha, e]
      · cases h
    · rename_i fs hu
      split at h
      · cases h
      · split at h
        · split at h
          · rename_i m hm hsz
            obtain rfl := Option.some.inj h
            have ha := flN_agg hu
            have h1 := run_isAgg_true (P := P) (w := w) ha
            have h2 := run_sizeOf (P := P) (w := w) hsz
            simp only [part, Sem.run_bind, h1, Result.andThen_ok, if_true, h2, flV, ha]
            simp [List.map_drop, List.map_take, List.take_drop, Nat.add_comm]
          · cases h
        · cases h
    · cases h
theorem run_flN {P : Program} : ∀ (d : Nat) (t : TypeId) (n : Nat) (xs ys : List Int) (w : World), flN P d t = some n → xs.length = n → ys.length = n → (Op.equalIn d t (flV P t xs) (flV P t ys)).run P w = .ok (decide (xs = ys)) w
  | 0, t, n, xs, ys, w, h, _, _ => by simp [flN] at h
  | d + 1, t, n, xs, ys, w, h, hx, hy => by
    have h0 := h
    unfold flN at h
    split at h
    · rename_i hu
      split at h
      · obtain rfl := Option.some.inj h
        obtain ⟨ha, hs⟩ := flN_scal hu
        match xs, ys, hx, hy with
        | [a], [b], _, _ =>
          simp [flV, ha, Op.equalIn, run_underlying hu, go_sem, vi]
          rfl
      · cases h
    · rename_i fs hu
      split at h
      · cases h
      · rename_i hst
        split at h
        · split at h
          · rename_i m hm hsz
            obtain rfl := Option.some.inj h
            have ha := flN_agg hu
            have hf : P.fieldsOf t = fs := by simp [Program.fieldsOf, hu]
            simp only [flV, ha, if_true]
            rw [run_equalIn_struct (P := P) w d t _ _ (by rw [hf]; exact hu) (by simpa using hst), hf]
            have key : ∀ (L : List Field) (off : Nat), flFs (flN P d) off L = some m → (Op.eqFields d (xs.map vi).toArray (ys.map vi).toArray L).run P w = .ok (decide (xs.drop off = ys.drop off)) w := by
              intro L
              induction L with
              | nil =>
                intro off h
                simp only [flFs, Option.some.injEq] at h
                subst h
                simp [Op.eqFields, List.drop_eq_nil_of_le (Nat.le_of_eq hx), List.drop_eq_nil_of_le (Nat.le_of_eq hy)]
              | cons f L ih =>
                intro off h
                simp only [flFs] at h
                split at h
                · cases h
                · rename_i hnm
                  split at h
                  · rename_i k hk
                    simp only [Bool.or_eq_true, not_or, Bool.not_eq_true', Bool.not_eq_false, beq_iff_eq, Bool.not_eq_true] at hnm
                    obtain ⟨hn1, hn2⟩ := hnm
                    have hle : off + k ≤ m := flFs_le _ _ _ _ h
                    have hn1' : f.name ≠ "_" := by simpa using hn1
                    rw [Op.eqFields]
                    have hn2' : f.offset = off := by simpa using hn2
                    rw [hn2']
                    simp only [if_pos hn1', Sem.run_bind, run_part hk (by omega : off + k ≤ xs.length), run_part hk (by omega : off + k ≤ ys.length), Result.andThen_ok, run_flN d f.type k ((xs.drop off).take k) ((ys.drop off).take k) w hk (by simp; omega) (by simp; omega)]
                    have ex : xs.drop off = (xs.drop off).take k ++ xs.drop (off + k) := by rw [← List.drop_drop, List.take_append_drop]
                    have ey : ys.drop off = (ys.drop off).take k ++ ys.drop (off + k) := by rw [← List.drop_drop, List.take_append_drop]
                    by_cases hq : (xs.drop off).take k = (ys.drop off).take k
                    · have := ih (off + k) h
                      simp only [hq, decide_true, Bool.not_true, Bool.false_eq_true, if_false]
                      rw [this]
                      congr 1
                      rw [ex, ey, hq]
                      simp
                    · have hne : ¬ xs.drop off = ys.drop off := fun e => hq (by rw [e])
                      simp [hq, hne]
                  · cases h
            have := key fs.toList 0 hm
            simpa using this
          · cases h
        · cases h
    · cases h
where
  flFs_le (g : TypeId → Option Nat) : ∀ (L : List Field) (off m : Nat), flFs g off L = some m → off ≤ m
    | [], off, m, h => by simp [flFs] at h; omega
    | f :: L, off, m, h => by
      simp only [flFs] at h
      split at h
      · cases h
      · split at h
        · have := flFs_le g L _ _ h
          omega
        · cases h
section
variable {P : Program} {ρ : Operand → Value} {w : World} {D : Option Tmp} {ty : TypeId} {ps : String} {af : Array Edge} {gd : Option (Nat × Bool)} {t t' : TypeId} {x y : Operand} {n : Nat}
theorem run_eqlF {al bs : List Int} (ht : flN P 10000 t = some n) (ha : aggB P t = true) (hl : al.length = n) (hl' : bs.length = n) : (Op.equal t (.agg (al.map vi).toArray) (.agg (bs.map vi).toArray)).run P w = .ok (decide (al = bs)) w := by
 have := run_flN (P := P) 10000 t n al bs w ht hl hl'
 simp only [flV, ha, if_true] at this
 exact this
theorem r_eqlF (al bs : List Int) (ht : flN P 10000 t = some n) (ha : aggB P t = true) (hg : P.eqGuardType P.depth t = false) (hl : al.length = n) (hl' : bs.length = n) (hx : ρ x = .agg (al.map vi).toArray) (hy : ρ y = .agg (bs.map vi).toArray) :
    (execOp ρ ⟨D, .binOp .eql t x y t', ty, ps, af, gd⟩).run P w = .ok (.value (.bool (decide (al = bs)))) w := by
  have := run_eqlF (P := P) (w := w) ht ha hl hl'
  have hgd := run_eqGuard_agg (P := P) w .eql t x y (al.map vi).toArray (bs.map vi).toArray hg
  simp only [execOp, hx, hy, binOp]
  simp [this, hgd]
theorem r_neqF (al bs : List Int) (ht : flN P 10000 t = some n) (ha : aggB P t = true) (hg : P.eqGuardType P.depth t = false) (hl : al.length = n) (hl' : bs.length = n) (hx : ρ x = .agg (al.map vi).toArray) (hy : ρ y = .agg (bs.map vi).toArray) :
    (execOp ρ ⟨D, .binOp .neq t x y t', ty, ps, af, gd⟩).run P w = .ok (.value (.bool (!decide (al = bs)))) w := by
  have := run_eqlF (P := P) (w := w) ht ha hl hl'
  have hgd := run_eqGuard_agg (P := P) w .neq t x y (al.map vi).toArray (bs.map vi).toArray hg
  simp only [execOp, hx, hy, binOp]
  simp [this, hgd]
theorem r_bits {op : BinOp} {u v r : Value} (hx : ρ x = u) (hy : ρ y = v) (hg : eqGuard op t x y u v = pure ()) (hr : (binOp op t u v).run P w = .ok r w) : (execOp ρ ⟨D, .binOp op t x y t', ty, ps, af, gd⟩).run P w = .ok (.value r) w := by
 simp only [execOp, hx, hy, hg]
 simp [hr]
theorem r_neqs {a b : ByteArray} (hx : ρ x = .string a) (hy : ρ y = .string b) : (execOp ρ ⟨D, .binOp .neq t x y t', ty, ps, af, gd⟩).run P w = .ok (.value (.bool (!(a.data.toList == b.data.toList)))) w := by
 simp [execOp, hx, hy, binOp, Op.stringOp, eqGuard, ByteArray.toList_eq, go_sem]
/-- from one integer kind to another: the number stays -/
theorem r_conv {k k' : IntKind} {m : Int} (ht : P.underlying t = some (.int k)) (ht' : P.underlying t' = some (.int k')) (hx : ρ x = .int k m) (hm : k'.wrap m = m) : (execOp ρ ⟨D, .convert t t' x, ty, ps, af, gd⟩).run P w = .ok (.value (.int k' m)) w := by
 simp [execOp, hx, convert, run_underlying ht, run_underlying ht', Conv.intToInt, hm, go_sem]
theorem wrap_u64 {m : Int} (h0 : 0 ≤ m) (h1 : m < 18446744073709551616) : IntKind.u64.wrap m = m := by
 simp [IntKind.wrap, IntKind.bits, IntKind.signed, IntKind.min]
 omega
end
section
variable {P : Program} {ops : Array Oper} {Q : Exit → Act → World → Prop} {a : Act} {w w0 : World} {rest : List Oper} {n d : Nat} {L : List (Nat × Value)} {l : List Res} {v u : Value}
variable {ty : TypeId} {ps : String} {af : Array Edge} {D : Option Tmp} {gd : Option (Nat × Bool)} {t : TypeId}
/-- a struct literal's parts -/
def pevB (a : Act) : List (Nat × Operand) → List (Nat × Value) → Prop
  | [], [] => True
  | (i, x) :: ps, (j, u) :: us => i = j ∧ a.eval x = u ∧ pevB a ps us
  | _, _ => False
theorem pevB_map : ∀ (ps : List (Nat × Operand)) (us : List (Nat × Value)), pevB a ps us → ps.map (fun p => (p.1, a.eval p.2)) = us
  | [], [], _ => rfl
  | [], _ :: _, h => h.elim
  | _ :: _, [], h => h.elim
  | (i, x) :: ps, (j, u) :: us, ⟨h1, h2, h3⟩ => by
    subst h1; subst h2
    simp only [List.map_cons, pevB_map ps us h3]
theorem r_build {parts : Array (Nat × Operand)} {us : List (Nat × Value)} {cs : List Value} (hb : P.built t us = some cs.toArray) (hp : pevB a parts.toList us) : (execOp a.eval ⟨D, .build t parts, ty, ps, af, gd⟩).run P w = .ok (.value (.agg cs.toArray)) w := by
 have h := pevB_map _ _ hp
 have h2 : (parts.map fun (i, x) => (i, a.eval x)).toList = us := by rw [Array.toList_map]; exact h
 have := run_build (P := P) w t (parts.map fun (i, x) => (i, a.eval x)) cs.toArray (by rw [h2]; exact hb)
 simp [execOp, this]
/-- a number is stored into a row of one's own -/
theorem wl_istore {T : TypeId} {X Y : Operand} {q m c g o p : Nat} {i : Int} {xs : List Int} {z : Int} (hF : Fr n L a) (hS : Sep w0 l w) (hq : l[q]? = some (Own intEK v xs)) (hv : v = .slice (some ⟨g, o, none⟩) m c) (h0 : 0 ≤ i) (h1 : i < xs.length)
    (hsz : szB P T = some 1) (hp : a.eval X = .pointer (some ⟨g, p, none⟩)) (hpe : p = o + i.toNat * 1) (hy : a.eval Y = vi z) (k : ∀ w', Sep w0 (l.set q (Own intEK v (xs.set i.toNat z))) w' → wpList P ops Q rest a w') : wpList P ops Q (⟨none, .store T X Y, ty, ps, af, none⟩ :: rest) a w :=
  wl_ostore (ek := intEK) (i := i.toNat) (j := 0) z hF hS hq hv (at0_get h0 h1) (Nat.zero_lt_one) (fun _ => rfl) (fun _ => rfl) hsz hp (by rw [hpe]; rfl) hy rfl k
theorem wl_tstore {T : TypeId} {X Y : Operand} {q m c g o p : Nat} {i : Int} {xs : List Bool} {z : Bool} (hF : Fr n L a) (hS : Sep w0 l w) (hq : l[q]? = some (Own boolEK v xs)) (hv : v = .slice (some ⟨g, o, none⟩) m c) (h0 : 0 ≤ i) (h1 : i < xs.length)
    (hsz : szB P T = some 1) (hp : a.eval X = .pointer (some ⟨g, p, none⟩)) (hpe : p = o + i.toNat * 1) (hy : a.eval Y = .bool z) (k : ∀ w', Sep w0 (l.set q (Own boolEK v (xs.set i.toNat z))) w' → wpList P ops Q rest a w') : wpList P ops Q (⟨none, .store T X Y, ty, ps, af, none⟩ :: rest) a w :=
  wl_ostore (ek := boolEK) (i := i.toNat) (j := 0) z hF hS hq hv (at0_get h0 h1) (Nat.zero_lt_one) (fun _ => rfl) (fun _ => rfl) hsz hp (by rw [hpe]; rfl) hy rfl k
/-- a row of one's own is stored into a row of rows -/
theorem wl_sput {α : Type} {ek : EK α} {T : TypeId} {X Y : Operand} {q m c g o p : Nat} {i : Int} {xs : List (List α)} {y : List α} {s : Slv} (hF : Fr n L a) (hS : Sep w0 (Own ek (sv s) y :: l) w) (hq : l[q]? = some (Own (sliceEK ek) v xs)) (hv : v = .slice (some ⟨g, o, none⟩) m c) (h0 : 0 ≤ i) (h1 : i < xs.length)
    (hsz : szB P T = some 1) (hp : a.eval X = .pointer (some ⟨g, p, none⟩)) (hpe : p = o + i.toNat * 1) (hy : a.eval Y = u) (hu : u = sv s) (k : ∀ w', Sep w0 (l.set q (Own (sliceEK ek) v (xs.set i.toNat y))) w' → wpList P ops Q rest a w') : wpList P ops Q (⟨none, .store T X Y, ty, ps, af, none⟩ :: rest) a w := by
  subst hu
  exact wl_oput (ek := sliceEK ek) (i := i.toNat) (x' := y) (vs' := [s]) hF hS.own_part hq hv (at0_get h0 h1) hsz hp (by rw [hpe]; rfl) hy rfl k
/-- make, al an operation that makes memory -/
theorem r_make0 {α : Type} (ek : EK α) {T : TypeId} {X : Operand} {m b : Nat} {zs : List Value} {gd : Option (Nat × Bool)} (x : α) (vs : List Slv) (hm : mkB P T = some (zs, ek.sz, b)) (hz : zs = ek.cells x vs)
    (hin : ∀ w, Sat (ek.inner x vs) (fun _ => False) w) (hx : a.eval X = .int .i64 (m : Int)) (hb : b * m ≤ 281474976710656) (hmm : m ≤ maxLen) :
    ∃ (g : Nat) (w' : World), (execOp a.eval ⟨D, .makeSlice T X X, ty, ps, af, gd⟩).run P w = .ok (.value (.slice (some ⟨g, 0, none⟩) m m)) w' ∧ Sep w [Own ek (.slice (some ⟨g, 0, none⟩) m m) (List.replicate m x)] w' := by
  obtain ⟨e, i, z, he, hi, hzz, hzs, hsz, hby⟩ := mkB_parts hm
  obtain ⟨w', hrun, hown, hg⟩ := run_make_full (P := P) w w.heap.size T e i z ek.sz he hi hzz hsz .i64 .i64 m (by rw [hby]; exact hb) hmm (Nat.le_refl _)
  refine ⟨w.heap.size, w', r_make hx hrun, (Sep.refl w).new ⟨hg.os, hg.tape, hg.output, hg.size, fun k hk => hg.block k hk (by simp)⟩ ?_⟩
  obtain ⟨hlen, hown⟩ := hown
  rcases hown with ⟨h, _⟩ | ⟨g, cap, cur, hv, hbase, hh, h1, h2, h3, h4⟩
  · simp at h
  · simp only [Value.slice.injEq, Option.some.injEq, Addr.mk.injEq] at hv
    obtain ⟨⟨rfl, _, _⟩, _, rfl⟩ := hv
    have hlt : w.heap.size < w'.heap.size := (Array.getElem?_eq_some_iff.1 hh).1
    refine ⟨_, _, _, rfl, by simp, h2, .inr ⟨w.heap.size, 0, cur, e, fun _ => vs, rfl, ⟨Nat.le_refl _, hlt⟩, hh, ⟨by omega, by simp, ?_⟩, fun _ _ => False, ?_, by simp, by simp⟩⟩
    · intro i' x' hx' j u' hu
      rw [List.getElem?_replicate] at hx'
      split at hx'
      · rename_i hi'
        obtain rfl := Option.some.inj hx'
        have hzl : z.cells.size = ek.sz := by
          have := congrArg List.length hzs
          rw [hz, ek.len] at this
          simpa using this
        have := made_at (m := m) (i := i') hzl (by rw [hzs, hz]; exact hu) hi'
        rw [← h4] at this
        rw [List.getElem?_take] at this
        split at this
        · simpa using this
        · simp at this
      · simp at hx'
    · intro i' x' hx'
      rw [List.getElem?_replicate] at hx'
      split at hx'
      · obtain rfl := Option.some.inj hx'
        exact hin w'
      · simp at hx'
/-- the first cells of a row that is read -/
theorem Rd.cellsTake {α : Type} {sz : Nat} {enc : α → List Value} {hl : ∀ x, (enc x).length = sz} {h1 : ∀ x u, u ∈ enc x → u.oneCell' = true} {xs ys : List α} {g o N c m : Nat} (h : (flatEK sz enc hl h1).Rd w (.slice (some ⟨g, o, none⟩) N c) xs) (e : ys.take m = xs.take m) :
    ∀ p u, (flatC enc (ys.take m))[p]? = some u → w.cell? ⟨g, o + p, none⟩ = some u := by
  intro p u hp
  obtain ⟨A, c', e1, _, hc⟩ := Rd.cells h
  simp only [Value.slice.injEq] at e1
  obtain ⟨rfl, _, _⟩ := e1
  refine hc _ _ rfl p u ?_
  rw [e] at hp
  have : flatC enc xs = flatC enc (xs.take m) ++ flatC enc (xs.drop m) := by
    unfold flatC
    rw [← List.flatMap_append, List.take_append_drop]
  rw [this, List.getElem?_append_left (List.getElem?_eq_some_iff.1 hp).1]
  exact hp
/-- append to a row of no room: a row of its own -/
theorem run_append0 {α : Type} {sz b : Nat} {enc : α → List Value} {hl : ∀ x, (enc x).length = sz} {h1 : ∀ x u, u ∈ enc x → u.oneCell' = true} {T : TypeId} {zs : List Value} {A : Option Addr} {ys : List α} (hu : (flatEK sz enc hl h1).Rd w u ys) (hm : mkB P T = some (zs, sz, b)) (hzl : zs.length = sz)
    (hb : ys.length * b ≤ 140737488355328) (hn : ys.length ≤ maxLen) :
    ∃ (s : Slv) (w' : World), (Builtin.append_ #[T, T] ty #[.slice A 0 0, u]).run P w = .ok (sv s) w' ∧ Sep w [Own (flatEK sz enc hl h1) (sv s) ys] w' := by
  obtain ⟨e, i, z, he, hi, hz, hzs, hsz, hby⟩ := mkB_parts hm
  have hys : 0 < ys.length → ∃ g o m c, u = .slice (some ⟨g, o, none⟩) m c := fun hp => by
    obtain ⟨g, o, m, c, hv, _⟩ := Rd.idxF hu (i := 0) (List.getElem?_eq_getElem hp)
    exact ⟨g, o, m, c, hv⟩
  obtain ⟨A', c, w', hrun, e1, e2, e3, e4, hown, hk⟩ := run_append_any (P := P) (ty := ty) (v := .slice A 0 0) (S := fun _ => False) (xs := []) he hi hz (by rw [← hzl, ← hzs]; simp) hsz hby ⟨A, 0, 0, rfl, rfl, Nat.zero_le _, .inl ⟨rfl, rfl⟩⟩ hu hys (by simpa using hb) (by simpa using hn)
  refine ⟨(A', ([] : List α).length + ys.length, c), w', hrun, ⟨e1, e2, e3, e4, fun k hk' => hk k hk' (fun h => h)⟩, ?_⟩
  refine Sat.cons (Sat.nil (fun _ => False) w') hown (fun k hk => ?_) (fun k hk => hk.elim) (fun k _ hk => hk)
  rcases hk with hk | hk
  · exact hk.elim
  · exact hk
theorem r_append0 {α : Type} {sz b : Nat} {enc : α → List Value} {hl : ∀ x, (enc x).length = sz} {h1 : ∀ x u, u ∈ enc x → u.oneCell' = true} {T : TypeId} {zs : List Value} {A : Option Addr} {ys : List α} {X Y : Operand} {gd : Option (Nat × Bool)} (hu : (flatEK sz enc hl h1).Rd w u ys) (hm : mkB P T = some (zs, sz, b)) (hzl : zs.length = sz)
    (hb : ys.length * b ≤ 140737488355328) (hn : ys.length ≤ maxLen) (hX : a.eval X = .slice A 0 0) (hY : a.eval Y = u) :
    ∃ (s : Slv) (w' : World), (execOp a.eval ⟨D, .call ⟨.builtin .append, #[X, Y], #[T, T]⟩, ty, ps, af, gd⟩).run P w = .ok (.value (sv s)) w' ∧ Sep w [Own (flatEK sz enc hl h1) (sv s) ys] w' := by
  obtain ⟨s, w', h, hS⟩ := run_append0 (P := P) (ty := ty) (A := A) hu hm hzl hb hn
  exact ⟨s, w', r_append hX hY h, hS⟩
theorem wl_append0 {α : Type} {sz b : Nat} {enc : α → List Value} {hl : ∀ x, (enc x).length = sz} {h1 : ∀ x u, u ∈ enc x → u.oneCell' = true} {T : TypeId} {zs : List Value} {A : Option Addr} {ys : List α} {X Y : Operand} (hF : Fr n L a) (hS : Sep w0 l w) (hdn : Nat.ble (d + 1) n = true) (hu : (flatEK sz enc hl h1).Rd w u ys) (hm : mkB P T = some (zs, sz, b)) (hzl : zs.length = sz)
    (hb : ys.length * b ≤ 140737488355328) (hn : ys.length ≤ maxLen) (hX : a.eval X = .slice A 0 0) (hY : a.eval Y = u)
    (k : ∀ (s : Slv) w' a, Sep w0 (Own (flatEK sz enc hl h1) (sv s) ys :: l) w' → Fr n ((d, sv s) :: L) a → wpList P ops Q rest a w') :
    wpList P ops Q (⟨some d, .call ⟨.builtin .append, #[X, Y], #[T, T]⟩, ty, ps, af, none⟩ :: rest) a w := by
  obtain ⟨s, w', h, hS'⟩ := r_append0 (P := P) (ty := ty) (ps := ps) (af := af) (D := some d) (gd := none) hu hm hzl hb hn hX hY
  exact wl hF rfl rfl hdn h (fun a hF => k s w' a (by simpa using hS.add hS') hF)
/-- copy into a row of one's own, from somewhere that is read: the row's cells from place i on -/
theorem run_copy_own {α : Type} {sz b : Nat} {enc : α → List Value} {hl : ∀ x, (enc x).length = sz} {h1 : ∀ x u, u ∈ enc x → u.oneCell' = true} {T T' : TypeId} {q i m g o N C dn dc sn sc : Nat} {B : Option Addr} {xs ys : List α} (hS : Sep w0 l w) (ht : slB P T = some (sz, b))
    (hq : l[q]? = some (Own (flatEK sz enc hl h1) (.slice (some ⟨g, o, none⟩) N C) xs)) (hdn : dn = xs.length - i) (hi : i ≤ xs.length) (hm : m = min sn dn)
    (hB : 0 < m → ∃ bb ob, B = some ⟨bb, ob, none⟩ ∧ ∀ p u, (flatC enc (ys.take m))[p]? = some u → w.cell? ⟨bb, ob + p, none⟩ = some u) (hys : sn = ys.length) :
    ∃ w', (Builtin.copy_ #[T, T'] ty #[.slice (some ⟨g, o + i * sz, none⟩) dn dc, .slice B sn sc]).run P w = .ok (.int .i64 (m : Int)) w' ∧
      Sep w0 (l.set q (Own (flatEK sz enc hl h1) (.slice (some ⟨g, o, none⟩) N C) (xs.take i ++ ys.take m ++ xs.drop (i + m)))) w' := by
  obtain ⟨e, he, hs⟩ := slB_parts (w := w) ht
  have hmy : (ys.take m).length = m := by simp; omega
  have hfirst : (Builtin.firstCells sz m (.slice B sn sc)).run P w = .ok (flatC enc (ys.take m)).toArray w := by
    rcases Nat.eq_zero_or_pos m with h0 | hp
    · subst h0
      cases B with
      | none => simp [run_firstCells_none, flatC]
      | some ad =>
        have := run_firstCells_some (P := P) w sz 0 ad sn sc [] (by simp) (fun j v h => by simp at h)
        simpa [flatC] using this
    · obtain ⟨bb, ob, rfl, hc⟩ := hB hp
      exact run_firstCells_some (P := P) w sz m ⟨bb, ob, none⟩ sn sc _ (by rw [flatC_len hl, hmy]) (fun j v h => by rw [Addr.add_lit]; exact hc j v h)
  have hone : ∀ x ∈ flatC enc (ys.take m), x.oneCell' = true := fun x hx => by
    simp only [flatC, List.mem_flatMap] at hx
    obtain ⟨y, _, hy⟩ := hx
    exact h1 y x hy
  obtain ⟨f, g1, g2, g3⟩ := hS.sat
  obtain ⟨A, n', c', ev, hn, hc, hrow⟩ := g1 q _ hq
  simp only [Value.slice.injEq] at ev
  obtain ⟨rfl, rfl, rfl⟩ := ev
  by_cases hx0 : xs = []
  · subst hx0
    obtain rfl : m = 0 := by simp at hdn; omega
    have hmn : Nat.min sn dn = 0 := hm.symm
    refine ⟨w, ?_, ?_⟩
    · simp [Builtin.copy_, run_underlying he, Builtin.lenOf, hs, hmn, hfirst, goInt, flatC, storeCells]
    · simp only [List.take_zero, List.take_nil, List.drop_nil, List.append_nil]
      rw [show l.set q (Own (flatEK sz enc hl h1) (.slice (some ⟨g, o, none⟩) N C) []) = l from by obtain ⟨h1, h2⟩ := List.getElem?_eq_some_iff.1 hq; rw [← h2, List.set_getElem_self]]
      exact hS
  rcases hrow with ⟨_, h⟩ | ⟨g', o', cur, T0, vs, eA, hSg, hg, hr, _⟩
  · exact (hx0 h).elim
  simp only [Option.some.injEq, Addr.mk.injEq] at eA
  obtain ⟨rfl, rfl, _⟩ := eA
  have hroom : o + i * sz + (flatC enc (ys.take m)).length ≤ cur.size := by
    have h1 := hr.room
    have h2 := hr.fits
    rw [flatC_len hl, hmy]
    have : (i + m) * sz ≤ C * sz := Nat.mul_le_mul_right _ (by omega)
    rw [Nat.add_mul] at this
    simp only [flatEK] at h1
    omega
  have hst := run_storeCells_at P g (o + i * sz) T0 (flatC enc (ys.take m)) 0 cur w hg (by simpa using hroom) hone
  simp only [Nat.add_zero] at hst
  refine ⟨w.setRow g (cur.toList.take (o + i * sz) ++ flatC enc (ys.take m) ++ cur.toList.drop (o + i * sz + (flatC enc (ys.take m)).length)).toArray, ?_, hS.upd hq rfl rfl rfl (by simp [World.setRow]) (fun F hF hs => ?_)⟩
  · have hmn : Nat.min sn dn = m := hm.symm
    simp [Builtin.copy_, run_underlying he, Builtin.lenOf, hs, hmn, hfirst, hst, goInt]
  · obtain ⟨A, n', c', ev, hn, hc, hrow⟩ := hF
    simp only [Value.slice.injEq] at ev
    obtain ⟨rfl, rfl, rfl⟩ := ev
    rcases hrow with ⟨_, h⟩ | ⟨g', o', cur', T0', vs, eA, hSg, hg', hr, f', f1, f2, f3⟩
    · exact (hx0 h).elim
    simp only [Option.some.injEq, Addr.mk.injEq] at eA
    obtain ⟨rfl, rfl, _⟩ := eA
    rw [hg] at hg'
    simp only [Option.some.injEq, Obj.cells.injEq] at hg'
    obtain ⟨rfl, rfl, _⟩ := hg'
    have hlen : (xs.take i ++ ys.take m ++ xs.drop (i + m)).length = xs.length := by simp; omega
    refine ⟨⟨_, _, _, rfl, by rw [hlen]; exact hn, hc, .inr ⟨g, o, _, T0, fun _ => [], rfl, .inl hSg, heap_setRow_at hg, ⟨?_, by rw [hlen]; exact hr.fits, fun i' x hx j u hu => ?_⟩, fun _ _ => False, fun _ _ _ => Sat.nil _ _, by simp, by simp⟩⟩, fun k hk hn => ?_⟩
    · have := hr.room
      simp
      omega
    · simp only [flatEK] at hu ⊢
      have hj : j < sz := by
        have := (List.getElem?_eq_some_iff.1 hu).1
        rwa [hl] at this
      have hi' := (List.getElem?_eq_some_iff.1 hx).1
      rw [hlen] at hi'
      have hcut : ∀ p, (p < o + i * sz ∨ o + i * sz + m * sz ≤ p) → (cur.toList.take (o + i * sz) ++ flatC enc (ys.take m) ++ cur.toList.drop (o + i * sz + (flatC enc (ys.take m)).length)).toArray[p]? = cur[p]? := fun p hp => by
        rw [List.getElem?_toArray]
        have hll : (flatC enc (ys.take m)).length = m * sz := by rw [flatC_len hl, hmy]
        rcases hp with hp | hp
        · rw [List.append_assoc, List.getElem?_append_left (by simp; omega), List.getElem?_take, if_pos hp]
          simp
        · rw [List.getElem?_append_right (by simp; omega), List.getElem?_drop]
          simp only [List.length_append, List.length_take, Array.length_toList]
          rw [show o + i * sz + (flatC enc (ys.take m)).length + (p - (min (o + i * sz) cur.size + (flatC enc (ys.take m)).length)) = p by omega]
          simp
      by_cases ha : i' < i
      · have hx' : xs[i']? = some x := by
          rw [List.append_assoc, List.getElem?_append_left (by simp; omega), List.getElem?_take, if_pos ha] at hx
          exact hx
        rw [hcut _ (.inl ?_)]
        · exact hr.at_ i' x hx' j u hu
        · have : (i' + 1) * sz ≤ i * sz := Nat.mul_le_mul_right _ ha
          rw [Nat.add_mul] at this
          omega
      · by_cases hb : i' < i + m
        · have hx' : (ys.take m)[i' - i]? = some x := by
            rw [List.append_assoc, List.getElem?_append_right (by simp; omega), List.getElem?_append_left (by simp; omega)] at hx
            simpa [Nat.min_eq_left hi] using hx
          have h2 := flatC_at hl _ _ x j u hx' hu
          rw [List.getElem?_toArray, List.append_assoc, List.getElem?_append_right (by simp; have : i * sz ≤ i' * sz := Nat.mul_le_mul_right _ (by omega); omega), List.getElem?_append_left]
          · simp only [List.length_take, Array.length_toList]
            have e2 : i' * sz = i * sz + (i' - i) * sz := by rw [← Nat.add_mul]; congr 1; omega
            rw [show o + i' * sz + j - min (o + i * sz) cur.size = (i' - i) * sz + j by omega]
            exact h2
          · have h3 := (List.getElem?_eq_some_iff.1 h2).1
            simp only [List.length_take, Array.length_toList]
            have e2 : i' * sz = i * sz + (i' - i) * sz := by rw [← Nat.add_mul]; congr 1; omega
            omega
        · have hx' : xs[i']? = some x := by
            rw [List.getElem?_append_right (by simp; omega), List.getElem?_drop] at hx
            simp only [List.length_append, List.length_take] at hx
            rw [show i + m + (i' - (min i xs.length + min m ys.length)) = i' by omega] at hx
            exact hx
          rw [hcut _ (.inr ?_)]
          · exact hr.at_ i' x hx' j u hu
          · have : (i + m) * sz ≤ i' * sz := Nat.mul_le_mul_right _ (by omega)
            rw [Nat.add_mul] at this
            omega
    · simp only [World.setRow, Array.getElem?_modify]
      rw [if_neg (fun e => hn (by rw [← e]; exact hSg))]
theorem r_copy {ρ : Operand → Value} {T T' : TypeId} {X Y : Operand} {u v r : Value} {w' : World} (hX : ρ X = v) (hY : ρ Y = u) (hr : (Builtin.copy_ #[T, T'] ty #[v, u]).run P w = .ok r w') :
    (execOp ρ ⟨D, .call ⟨.builtin .copy, #[X, Y], #[T, T']⟩, ty, ps, af, gd⟩).run P w = .ok (.value r) w' := by
  simp [execOp, resolve, invoke, builtin, hX, hY, hr]
end
def oval (L : List (Nat × Value)) : Operand → Option Value
  | .tmp t => lk L t
  | .const v => some v
  | .func f => some (.func (.func f) #[] #[])
  | _ => none
/-- whether an operation is wanted, as far as the slots tell -/
def wantL (ops : Array Oper) (L : List (Nat × Value)) (o : Oper) : Option Bool :=
  match o.guard with
  | none => some true
  | some (j, b) => match (ops[j]?).bind (·.dst) with
    | none => none
    | some t => match lk L t with
      | some (.bool c) => some (c == b)
      | some _ => some false
      | none => none
section
variable {P : Program} {ops : Array Oper} {Q : Exit → Act → World → Prop} {a : Act} {w w' : World} {rest : List Oper} {o : Oper} {n d : Nat} {L L' : List (Nat × Value)} {v : Value} {Qa : Act → Prop}
theorem oval_ev (hF : Fr n L a) {x : Operand} (h : oval L x = some v) : a.eval x = v := by
 cases x with
 | tmp t => exact hF.ev h
 | const u => simp only [oval, Option.some.injEq] at h; subst h; rfl
 | func f => simp only [oval, Option.some.injEq] at h; subst h; rfl
 | _ => simp [oval] at h
theorem want_of (hF : Fr n L a) {c : Bool} (h : wantL ops L o = some c) : Region.wanted o (yielded ops a.tmps) = c := by
 unfold wantL at h
 unfold Region.wanted
 cases hg : o.guard with
 | none => rw [hg] at h; simpa using h
 | some q =>
   obtain ⟨j, b⟩ := q
   rw [hg] at h
   dsimp only at h ⊢
   cases hj : (ops[j]?).bind (·.dst) with
   | none => rw [hj] at h; cases h
   | some t =>
     rw [hj] at h
     dsimp only at h
     cases ht : lk L t with
     | none => rw [ht] at h; cases h
     | some u =>
       rw [ht] at h
       unfold yielded
       rw [hj, Option.bind_some, hF.get _ _ ht]
       cases u with
       | bool e =>
         simp only [Option.some.injEq] at h
         subst h
         cases e <;> cases b <;> rfl
       | _ =>
         simp only [Option.some.injEq] at h
         subst h
         rfl
/-- a region, and what comes behind it -/
theorem ws {id : Nat} {l : List Oper} {y : Code} (h : ∀ K : Act → World → Prop, (∀ a w, y.wp P Q a w → K a w) → wpList P l.toArray (Exit.then K Q) l a w) : (Code.seq (.region id l.toArray false) y).wp P Q a w :=
  wp_seq_k fun K hK => wp_region_lit (h K hK)
end
theorem zb3 (a b : Bool) : ((a || b) = true) = (a = true ∨ b = true) := Bool.or_eq_true a b
theorem zb4 (a b : Bool) : ((a && b) = true) = (a = true ∧ b = true) := Bool.and_eq_true a b
theorem zb5 (a b : Bool) : ((a || b) = false) = (a = false ∧ b = false) := by cases a <;> cases b <;> simp
theorem zb6 (a b : Bool) : ((a && b) = false) = (a = false ∨ b = false) := by cases a <;> cases b <;> simp
theorem zb7 (p : Prop) [Decidable p] : (decide p = true) = p := decide_eq_true_eq
theorem zb8 (p : Prop) [Decidable p] : (decide p = false) = ¬ p := by simp
/-- a part whose blocks all lie above b -/
def Above (b : Nat) (r : Res) : Res where
  P := fun S w => ∃ S', (∀ k, S' k → S k ∧ b ≤ k) ∧ r.P S' w
  loc := by
    rintro S w w' hk ⟨S', h1, h2⟩
    exact ⟨S', h1, r.loc (fun k h => hk k (h1 k h).1) h2⟩
  mono := by
    rintro S S1 w hs ⟨S', h1, h2⟩
    exact ⟨S', fun k h => ⟨hs k (h1 k h).1, (h1 k h).2⟩, h2⟩
section
variable {w0 w w' : World} {l : List Res} {r : Res} {i b : Nat}
theorem Sep.above_new (hb : b ≤ w.heap.size) (h : Sep w [r] w') : Sep w [Above b r] w' :=
  ⟨h.old, Sat.cons (S := fun _ => False) (S1 := fun k => w.heap.size ≤ k ∧ k < w'.heap.size) (Sat.nil _ _) ⟨_, fun k hk => ⟨hk, Nat.le_trans hb hk.1⟩, h.sat.get (i := 0) rfl⟩ (fun k hk => hk) (fun k hk => hk.elim) (fun k _ hk => hk)⟩
theorem Sep.above_rd {α : Type} {ek : EK α} {v : Value} {xs : List α} (h : Sep w0 l w) (hi : l[i]? = some (Above b (Own ek v xs))) : ek.Rd w v xs := by
 obtain ⟨S', _, h2⟩ := h.sat.get hi
 exact Sl.own_rd h2
theorem Sep.unabove (h : Sep w0 l w) (hi : l[i]? = some (Above b r)) : Sep w0 (l.set i r) w := by
 obtain ⟨f, f1, f2, f3⟩ := h.sat
 refine ⟨h.old, f, fun j q hj => ?_, f2, f3⟩
 by_cases e : j = i
 · subst e
   have hlt := (List.getElem?_eq_some_iff.1 hi).1
   rw [List.getElem?_set_self hlt] at hj
   obtain rfl := Option.some.inj hj
   obtain ⟨S', h1, h2⟩ := f1 j _ hi
   exact r.mono (fun k hk => (h1 k hk).1) h2
 · rw [List.getElem?_set_ne (Ne.symm e)] at hj
   exact f1 j q hj
end
section
variable {P : Program} {ops : Array Oper} {Q : Exit → Act → World → Prop} {wd W : World} {T : Alcs} {muts : List Nat} {n : Nat} {L : List (Nat × Value)} {l : List Res}
theorem append_above {α : Type} {sz b q b0 : Nat} {enc : α → List Value} {hl : ∀ x, (enc x).length = sz} {h1 : ∀ x u, u ∈ enc x → u.oneCell' = true} {T : TypeId} {zs : List Value} {xs ys : List α} {w0 w : World} {u v : Value} {ty : TypeId} (hS : Sep w0 l w)
    (hq : l[q]? = some (Above b0 (Own (flatEK sz enc hl h1) v xs))) (hb0 : b0 ≤ w.heap.size) (hu : (flatEK sz enc hl h1).Rd w u ys) (hm : mkB P T = some (zs, sz, b)) (hzl : zs.length = sz) (hb : (xs.length + ys.length) * b ≤ 140737488355328) (hn : xs.length + ys.length ≤ maxLen) :
    ∃ A c w', (Builtin.append_ #[T, T] ty #[v, u]).run P w = .ok (.slice A (xs.length + ys.length) c) w' ∧ Sep w0 (l.set q (Above b0 (Own (flatEK sz enc hl h1) (.slice A (xs.length + ys.length) c) (xs ++ ys)))) w' ∧ Below b0 w w' := by
  obtain ⟨e, i, z, he, hi, hz, hzs, hsz, hby⟩ := mkB_parts hm
  obtain ⟨f, g1, g2, g3⟩ := hS.sat
  have hys : 0 < ys.length → ∃ g o m c, u = .slice (some ⟨g, o, none⟩) m c := fun hp => by
    obtain ⟨g, o, m, c, hv, _⟩ := Rd.idxF hu (i := 0) (List.getElem?_eq_getElem hp)
    exact ⟨g, o, m, c, hv⟩
  obtain ⟨S', s1, s2⟩ := g1 q _ hq
  obtain ⟨A, c, w', hrun, e1, e2, e3, e4, hown, hk⟩ := run_append_any (P := P) (ty := ty) he hi hz (by rw [← hzl, ← hzs]; simp) hsz hby s2 hu hys hb hn
  refine ⟨A, c, w', hrun, ⟨?_, ?_⟩, ⟨e1, e2, e3, e4, fun k hk' => hk k (Nat.lt_of_lt_of_le hk' hb0) (fun hf => ?_)⟩⟩
  · refine hS.old.trans ⟨e1, e2, e3, e4, fun k hk' => hk k (Nat.lt_of_lt_of_le hk' hS.old.size) (fun hf => ?_)⟩
    have := (g2 q k (s1 k hf).1).1
    omega
  · refine Sat.mono (Sat.upd' ⟨f, g1, g2, g3⟩ (N := fun k => w.heap.size ≤ k ∧ k < w'.heap.size) (r' := Above b0 (Own (flatEK sz enc hl h1) (.slice A (xs.length + ys.length) c) (xs ++ ys))) hq (fun k h1 h2 => by omega)
      ⟨_, fun k hk => hk.elim (fun h => ⟨.inl (s1 k h).1, (s1 k h).2⟩) (fun h => ⟨.inr h, Nat.le_trans hb0 h.1⟩), hown⟩ (fun k hk1 hk2 => hk k hk1.2 (fun h => hk2 (s1 k h).1)) g1 g2 g3) (fun k hk => ?_)
    rcases hk with hk | hk
    · exact ⟨hk.1, Nat.lt_of_lt_of_le hk.2 e4⟩
    · exact ⟨Nat.le_trans hS.old.size hk.1, hk.2⟩
  · have := (s1 k hf).2
    omega
theorem opF_core {Γ : Type} {i : Nat} {is : List Nat} {o : Oper} {d : Nat} {val : Γ → Value} {r : Γ → Res} (ho : ops[i]? = some o) (hg : GW ops n L o) (hd : o.dst = some d) (hdn : Nat.ble (d + 1) n = true) (hT : T.all (fun t => t.2.1 != d) = true)
    (hr : ∀ a w, Fr n L a → Sep W l w → ∃ γ w', (execOp a.eval o).run P w = .ok (.value (val γ)) w' ∧ Sep w [r γ] w')
    (k : ∀ γ rem a w, Rem T rem → Fr n ((d, val γ) :: L) a → At T wd W (Above wd.heap.size (r γ) :: l) rem a w → Todo P ops Q wd muts rem is a w) :
    ∀ rem a w, Rem T rem → Fr n L a → At T wd W l rem a w → wpOp P ops (QN Q) i (fun a' w' => Below wd.heap.size wd w' ∧ Todo P ops Q wd muts rem is a' w') a w := by
  intro rem a w hR hF hA
  refine wpOp_ofW ho (hg a hF) ?_
  obtain ⟨γ, w1, hrun, hS⟩ := hr a w hF hA.sep
  unfold Oper.wp
  rw [hrun, Oper.upon_value, hd]
  exact ⟨hA.s.trans (hS.old.mono hA.s.size), k γ rem _ _ hR (hF.put hdn _) ((hA.made (hS.above_new hA.s.size)).put (fun t ht => by simpa using List.all_eq_true.1 hT t ht))⟩
theorem todo_opF {Γ : Type} {i : Nat} {is : List Nat} {o : Oper} {d : Nat} {val : Γ → Value} {r : Γ → Res} (hl : Lay P ops T n) (hL : T.all (fun t => (lk L t.2.1).isNone) = true) (hk : stepB ops T i is = true) (ho : ops[i]? = some o) (hg : GW ops n L o) (hd : o.dst = some d) (hdn : Nat.ble (d + 1) n = true) (hT : T.all (fun t => t.2.1 != d) = true)
    (hr : ∀ a w, Fr n L a → Sep W l w → ∃ γ w', (execOp a.eval o).run P w = .ok (.value (val γ)) w' ∧ Sep w [r γ] w')
    (k : ∀ γ rem a w, Rem T rem → Fr n ((d, val γ) :: L) a → At T wd W (Above wd.heap.size (r γ) :: l) rem a w → Todo P ops Q wd muts rem is a w) :
    ∀ rem a w, Rem T rem → Fr n L a → At T wd W l rem a w → Todo P ops Q wd muts rem (i :: is) a w :=
  todo_step hl (fun t ht => by simpa using List.all_eq_true.1 hL t ht) hk (opF_core ho hg hd hdn hT hr k)
theorem op_opF {Γ : Type} {i : Nat} {is : List Nat} {o : Oper} {d : Nat} {val : Γ → Value} {r : Γ → Res} (hL : T.all (fun t => (lk L t.2.1).isNone) = true) (ho : ops[i]? = some o) (hg : GW ops n L o) (hd : o.dst = some d) (hdn : Nat.ble (d + 1) n = true) (hT : T.all (fun t => t.2.1 != d) = true)
    (hr : ∀ a w, Fr n L a → Sep W l w → ∃ γ w', (execOp a.eval o).run P w = .ok (.value (val γ)) w' ∧ Sep w [r γ] w')
    (k : ∀ γ rem a w, Rem T rem → Fr n ((d, val γ) :: L) a → At T wd W (Above wd.heap.size (r γ) :: l) rem a w → Todo P ops Q wd muts rem is a w) :
    ∀ rem a w, Rem T rem → Fr n L a → At T wd W l rem a w → wpOp P ops (QN Q) i (fun a' w' => (Below wd.heap.size wd w' ∧ Todo P ops Q wd muts rem is a' w') ∨ (muts.contains i = true ∧ ∃ m', Todo P ops Q w' m' rem is a' w')) a w :=
  fun rem a w hR hF hA => wpOp_mono (fun _ _ h => .inl h) (opF_core ho hg hd hdn hT hr k rem a w hR hF hA)
theorem apF_core {α : Type} {sz b i j d : Nat} {enc : α → List Value} {hl : ∀ x, (enc x).length = sz} {h1 : ∀ x u, u ∈ enc x → u.oneCell' = true} {T' : TypeId} {X Y : Operand} {zs : List Value} {xs ys : List α} {u v : Value} {is : List Nat} {o : Oper} {ty : TypeId} {ps : String} {af : Array Edge}
    (ho : ops[i]? = some o) (hoe : o = ⟨some d, .call ⟨.builtin .append, #[X, Y], #[T', T']⟩, ty, ps, af, none⟩) (hdn : Nat.ble (d + 1) n = true) (hT : T.all (fun t => t.2.1 != d) = true) (hi : l[j]? = some (Above wd.heap.size (Own (flatEK sz enc hl h1) v xs)))
    (hu : ∀ w, Sep W l w → (flatEK sz enc hl h1).Rd w u ys) (hmk : mkB P T' = some (zs, sz, b)) (hzl : zs.length = sz) (hX : ∀ a, Fr n L a → a.eval X = v) (hY : ∀ a, Fr n L a → a.eval Y = u) (hb : (xs.length + ys.length) * b ≤ 140737488355328) (hn : xs.length + ys.length ≤ maxLen)
    (k : ∀ A c rem a w, Rem T rem → Fr n ((d, .slice A (xs.length + ys.length) c) :: L) a → At T wd W (l.set j (Above wd.heap.size (Own (flatEK sz enc hl h1) (.slice A (xs.length + ys.length) c) (xs ++ ys)))) rem a w → Todo P ops Q wd muts rem is a w) :
    ∀ rem a w, Rem T rem → Fr n L a → At T wd W l rem a w → wpOp P ops (QN Q) i (fun a' w' => Below wd.heap.size wd w' ∧ Todo P ops Q wd muts rem is a' w') a w := by
  intro rem a w hR hF hA
  subst hoe
  refine wpOp_of ho rfl ?_
  obtain ⟨gs, hbx, hby⟩ := hA.box
  obtain ⟨A, c, w', hrun, hS', hbl⟩ := append_above (P := P) (q := j + 1) (ty := ty) hbx (by simpa using hi) hA.s.size (hu w hA.sep) hmk hzl hb hn
  have hr := r_append (D := some d) (gd := none) (ty := ty) (ps := ps) (af := af) (hX a hF) (hY a hF) hrun
  unfold Oper.wp
  rw [hr, Oper.upon_value]
  refine ⟨hA.s.trans hbl, k A c rem _ w' hR (hF.put hdn _) ⟨hA.s.trans hbl, gs, by simpa using hS', fun t ht hr => ?_⟩⟩
  obtain ⟨g, h1, h2⟩ := hby t ht hr
  have hne : t.2.1 ≠ d := by simpa using List.all_eq_true.1 hT t ht
  exact ⟨g, h1, by simpa [Act.put, Array.getElem?_setIfInBounds, Ne.symm hne] using h2⟩
theorem todo_apF {α : Type} {sz b i j d : Nat} {enc : α → List Value} {hl : ∀ x, (enc x).length = sz} {h1 : ∀ x u, u ∈ enc x → u.oneCell' = true} {T' : TypeId} {X Y : Operand} {zs : List Value} {xs ys : List α} {u v : Value} {is : List Nat} {o : Oper} {ty : TypeId} {ps : String} {af : Array Edge}
    (hly : Lay P ops T n) (hL : T.all (fun t => (lk L t.2.1).isNone) = true) (hk : stepB ops T i is = true) (ho : ops[i]? = some o) (hoe : o = ⟨some d, .call ⟨.builtin .append, #[X, Y], #[T', T']⟩, ty, ps, af, none⟩) (hdn : Nat.ble (d + 1) n = true) (hT : T.all (fun t => t.2.1 != d) = true) (hi : l[j]? = some (Above wd.heap.size (Own (flatEK sz enc hl h1) v xs)))
    (hu : ∀ w, Sep W l w → (flatEK sz enc hl h1).Rd w u ys) (hmk : mkB P T' = some (zs, sz, b)) (hzl : zs.length = sz) (hX : ∀ a, Fr n L a → a.eval X = v) (hY : ∀ a, Fr n L a → a.eval Y = u) (hb : (xs.length + ys.length) * b ≤ 140737488355328) (hn : xs.length + ys.length ≤ maxLen)
    (k : ∀ A c rem a w, Rem T rem → Fr n ((d, .slice A (xs.length + ys.length) c) :: L) a → At T wd W (l.set j (Above wd.heap.size (Own (flatEK sz enc hl h1) (.slice A (xs.length + ys.length) c) (xs ++ ys)))) rem a w → Todo P ops Q wd muts rem is a w) :
    ∀ rem a w, Rem T rem → Fr n L a → At T wd W l rem a w → Todo P ops Q wd muts rem (i :: is) a w :=
  todo_step hly (fun t ht => by simpa using List.all_eq_true.1 hL t ht) hk (apF_core ho hoe hdn hT hi hu hmk hzl hX hY hb hn k)
theorem r_alloc0 {ρ : Operand → Value} {w : World} {D : Option Tmp} {ty T' : TypeId} {ps : String} {af : Array Edge} {gd : Option (Nat × Bool)} {cs : List Value} (hz : zeroOf P T' = some cs) :
    ∃ (g : Nat) (w' : World), (execOp ρ ⟨D, .alloc T', ty, ps, af, gd⟩).run P w = .ok (.value (.pointer (some ⟨g, 0, none⟩))) w' ∧ Sep w [Box g cs] w' :=
  ⟨_, _, r_alloc hz, by simpa using (Sep.refl w).box_new cs T'⟩
/-- a call that makes one part -/
theorem mkF_core {Γ : Type} {i : Nat} {is : List Nat} {o : Oper} {d : Nat} {f : FuncId} {args : Array Value} {val : Γ → Value} {r : Γ → Res} (ho : ops[i]? = some o) (hg : GW ops n L o) (hd : o.dst = some d) (hdn : Nat.ble (d + 1) n = true) (hT : T.all (fun t => t.2.1 != d) = true)
    (hr : ∀ a w, Fr n L a → (execOp a.eval o).run P w = .ok (.enter f args) w) (hc : ∀ w, Sep W l w → Calls P f args w (Ret (Mk w val (fun γ => [r γ]))))
    (k : ∀ γ rem a w, Rem T rem → Fr n ((d, val γ) :: L) a → At T wd W (Above wd.heap.size (r γ) :: l) rem a w → Todo P ops Q wd muts rem is a w) :
    ∀ rem a w, Rem T rem → Fr n L a → At T wd W l rem a w → wpOp P ops (QN Q) i (fun a' w' => Below wd.heap.size wd w' ∧ Todo P ops Q wd muts rem is a' w') a w := by
  intro rem a w hR hF hA
  refine wpOp_ofW ho (hg a hF) ?_
  unfold Oper.wp
  rw [hr a w hF, Oper.upon_enter]
  refine (hc w hA.sep).mono ?_
  rintro e w1 ⟨v, rfl, γ, rfl, hS⟩
  show _ ∧ _
  rw [hd]
  exact ⟨hA.s.trans (hS.old.mono hA.s.size), k γ rem _ _ hR (hF.put hdn _) ((hA.made (hS.above_new hA.s.size)).put (fun t ht => by simpa using List.all_eq_true.1 hT t ht))⟩
theorem todo_mkF {Γ : Type} {i : Nat} {is : List Nat} {o : Oper} {d : Nat} {f : FuncId} {args : Array Value} {val : Γ → Value} {r : Γ → Res} (hl : Lay P ops T n) (hL : T.all (fun t => (lk L t.2.1).isNone) = true) (hk : stepB ops T i is = true) (ho : ops[i]? = some o) (hg : GW ops n L o) (hd : o.dst = some d) (hdn : Nat.ble (d + 1) n = true) (hT : T.all (fun t => t.2.1 != d) = true)
    (hr : ∀ a w, Fr n L a → (execOp a.eval o).run P w = .ok (.enter f args) w) (hc : ∀ w, Sep W l w → Calls P f args w (Ret (Mk w val (fun γ => [r γ]))))
    (k : ∀ γ rem a w, Rem T rem → Fr n ((d, val γ) :: L) a → At T wd W (Above wd.heap.size (r γ) :: l) rem a w → Todo P ops Q wd muts rem is a w) :
    ∀ rem a w, Rem T rem → Fr n L a → At T wd W l rem a w → Todo P ops Q wd muts rem (i :: is) a w :=
  todo_step hl (fun t ht => by simpa using List.all_eq_true.1 hL t ht) hk (mkF_core ho hg hd hdn hT hr hc k)
theorem op_mkF {Γ : Type} {i : Nat} {is : List Nat} {o : Oper} {d : Nat} {f : FuncId} {args : Array Value} {val : Γ → Value} {r : Γ → Res} (hL : T.all (fun t => (lk L t.2.1).isNone) = true) (ho : ops[i]? = some o) (hg : GW ops n L o) (hd : o.dst = some d) (hdn : Nat.ble (d + 1) n = true) (hT : T.all (fun t => t.2.1 != d) = true)
    (hr : ∀ a w, Fr n L a → (execOp a.eval o).run P w = .ok (.enter f args) w) (hc : ∀ w, Sep W l w → Calls P f args w (Ret (Mk w val (fun γ => [r γ]))))
    (k : ∀ γ rem a w, Rem T rem → Fr n ((d, val γ) :: L) a → At T wd W (Above wd.heap.size (r γ) :: l) rem a w → Todo P ops Q wd muts rem is a w) :
    ∀ rem a w, Rem T rem → Fr n L a → At T wd W l rem a w → wpOp P ops (QN Q) i (fun a' w' => (Below wd.heap.size wd w' ∧ Todo P ops Q wd muts rem is a' w') ∨ (muts.contains i = true ∧ ∃ m', Todo P ops Q w' m' rem is a' w')) a w :=
  fun rem a w hR hF hA => wpOp_mono (fun _ _ h => .inl h) (mkF_core ho hg hd hdn hT hr hc k rem a w hR hF hA)
/-- a call that changes parts: the rest goes on from there -/
theorem op_mc {Γ : Type} {m' : List Nat} {i : Nat} {is : List Nat} {o : Oper} {d : Nat} {f : FuncId} {args : Array Value} {val : Γ → Value} {l2 : Γ → List Res} (ho : ops[i]? = some o) (hg : GW ops n L o) (hd : o.dst = some d) (hdn : Nat.ble (d + 1) n = true) (hm : muts.contains i = true)
    (hr : ∀ a w, Fr n L a → (execOp a.eval o).run P w = .ok (.enter f args) w) (hc : ∀ w, Sep W l w → Calls P f args w (Ret fun v w' => ∃ γ, v = val γ ∧ Sep W (l2 γ) w'))
    (k : ∀ γ wd', Sep W (l2 γ) wd' → ∀ rem a w, Rem [] rem → Fr n ((d, val γ) :: L) a → At [] wd' W (l2 γ) rem a w → Todo P ops Q wd' m' rem is a w) :
    ∀ rem a w, Rem [] rem → Fr n L a → At [] wd W l rem a w → wpOp P ops (QN Q) i (fun a' w' => (Below wd.heap.size wd w' ∧ Todo P ops Q wd muts rem is a' w') ∨ (muts.contains i = true ∧ ∃ m', Todo P ops Q w' m' rem is a' w')) a w := by
  intro rem a w hR hF hA
  refine wpOp_ofW ho (hg a hF) ?_
  unfold Oper.wp
  rw [hr a w hF, Oper.upon_enter]
  refine (hc w hA.sep).mono ?_
  rintro e w1 ⟨v, rfl, γ, rfl, hS⟩
  show _ ∨ _
  rw [hd]
  exact .inr ⟨hm, m', k γ w1 hS rem _ _ hR (hF.put hdn _) ⟨Below.refl _ _, [], hS.many_nil, fun t ht => by cases ht⟩⟩
end
open Go Go.RowKit Go.ChangeShapes Go.WideShapes Go.ChangeAt
/-- data of type t reads as an x of which K and ok hold -/
def Opens (P : Program) (t : TypeId) {α : Type} (sz : Nat) (K : World → α → List Value → Prop) (ok : α → Prop) : Prop :=
  P.cellsOf t = sz ∧ ∀ (H : Type) (enc : TypeId × Value → H) (W : World) (sp : Nat → Bool) (fuel : Nat) (cs : List Value) (y : DataW H × List MemPlace),
    DataW.trod enc P W 0 sp true fuel t cs = some y → ∃ x, K W x cs ∧ cs.length = sz ∧ ok x
def int64 (n : Int) : Prop := -9223372036854775808 ≤ n ∧ n ≤ 9223372036854775807
abbrev Config.wf (c : Config) : Prop := int64 c.threads ∧ int64 c.keys ∧ int64 c.capacity ∧ int64 c.batch ∧ int64 c.policy ∧ int64 c.clockMax
abbrev Op.wf (o : Op) : Prop := int64 o.kind ∧ int64 o.key ∧ int64 o.value
abbrev Entry.wf (e : Entry) : Prop := int64 e.handle ∧ int64 e.key ∧ int64 e.low ∧ int64 e.high
abbrev Result.wf (r : Result) : Prop := int64 r.code ∧ int64 r.value
abbrev Event.wf (e : Event) : Prop := int64 e.thread ∧ e.op.wf ∧ e.result.wf ∧ int64 e.start ∧ int64 e.fin
abbrev Thread.wf (t : Thread) : Prop := int64 t.pc ∧ t.op.wf ∧ t.result.wf ∧ int64 t.snapshot ∧ int64 t.node ∧ int64 t.prev ∧ int64 t.curr ∧ int64 t.next ∧ int64 t.seen ∧ int64 t.stamp ∧ int64 t.at_ ∧ (∀ x ∈ t.found, int64 x) ∧ (∀ x ∈ t.free, int64 x) ∧ (∀ x ∈ t.buffer, x.wf) ∧ (∀ x ∈ t.work, x.wf) ∧ (∀ x ∈ t.limbo, int64 x)
abbrev State.wf (s : State) : Prop := s.config.wf ∧ (∀ x ∈ s.cells, int64 x) ∧ (∀ x ∈ s.generations, int64 x) ∧ (∀ x ∈ s.threads, x.wf) ∧ int64 s.steps ∧ int64 s.changes ∧ int64 s.retries ∧ int64 s.faults
abbrev Machine.wf (m : Machine) : Prop := m.state.wf ∧ (∀ x ∈ m.programs, ∀ y ∈ x, y.wf) ∧ (∀ x ∈ m.next, int64 x) ∧ (∀ x ∈ m.events, x.wf) ∧ int64 m.time
abbrev Model.wf (m : Model) : Prop := (∀ x ∈ m.values, int64 x) ∧ (∀ x ∈ m.snapshots, ∀ y ∈ x, int64 y)
section
variable {P : Program} {t : TypeId}
theorem opens_slice {α : Type} {sz : Nat} {K : World → α → List Value → Prop} {ok : α → Prop} {e : TypeId} (he : Opens P e sz K ok) (hsz : 0 < sz) (ht : P.underlying t = some (.slice e)) (hc : P.cellsOf t = 1) :
    Opens P t 1 (fun W xs cs => ∃ v, cs = [v] ∧ Rd sz K W v xs) (fun xs => ∀ x ∈ xs, ok x) := by
  refine ⟨hc, fun H enc W sp fuel cs y h => ?_⟩
  rcases DataW.trod_slice ht h with ⟨rfl, _⟩ | ⟨a, len, cap, elems, rest, n, _, rfl, _, _, hl, hm, hlen, hel, _⟩
  · exact ⟨[], ⟨_, rfl, Rd.nil _ _ _⟩, rfl, by simp⟩
  · have cell0 : 0 < len → a.spot = none := by
      intro h0
      have hz := hel 0 h0
      rw [List.getElem?_eq_getElem (by omega)] at hz
      obtain ⟨cells, hcells, hz⟩ := Option.bind_eq_some_iff.1 hz
      obtain ⟨_, hcl, hcc⟩ := World.cells?_some hcells
      rw [he.1] at hcc hcl
      have h1 := hcc 0 hsz
      rw [Nat.zero_mul, Addr.add_zero', Addr.add_zero', List.getElem?_eq_getElem (by omega)] at h1
      unfold World.cell? at h1
      cases hs : a.spot with
      | none => rfl
      | some q => rw [hs] at h1; split at h1 <;> simp at h1
    have key : ∀ i, i < len → ∃ x, (∃ g o, a = ⟨g, o, none⟩ ∧ ∃ cs, K W x cs ∧ cs.length = sz ∧ ∀ j u, cs[j]? = some u → W.cell? ⟨g, o + i * sz + j, none⟩ = some u) ∧ ok x := by
      intro i hi
      have hsp := cell0 (by omega)
      have hz := hel i hi
      rw [List.getElem?_eq_getElem (by omega)] at hz
      obtain ⟨cells, hcells, hz⟩ := Option.bind_eq_some_iff.1 hz
      obtain ⟨x, h1, h2, h3⟩ := he.2 _ _ _ _ _ _ _ hz
      refine ⟨x, ?_, h3⟩
      obtain ⟨_, _, hcc⟩ := World.cells?_some hcells
      rw [he.1] at hcc
      obtain ⟨g, o, sp'⟩ := a
      obtain rfl : sp' = none := hsp
      refine ⟨g, o, rfl, cells, h1, h2, fun j u hu => ?_⟩
      have hj : j < sz := by
        have := (List.getElem?_eq_some_iff.1 hu).1
        omega
      have := hcc j hj
      rw [Addr.add_lit, Addr.add_lit, hu] at this
      exact this
    rcases Nat.eq_zero_or_pos len with h0 | hp
    · subst h0
      exact ⟨[], ⟨_, rfl, some a, 0, cap, rfl, rfl, Nat.zero_le _, Nat.zero_le _, fun i x hx => by simp at hx⟩, rfl, by simp⟩
    have hch : ∃ f : Nat → α, ∀ i, i < len → (∃ g o, a = ⟨g, o, none⟩ ∧ ∃ cs, K W (f i) cs ∧ cs.length = sz ∧ ∀ j u, cs[j]? = some u → W.cell? ⟨g, o + i * sz + j, none⟩ = some u) ∧ ok (f i) := by
      obtain ⟨x0, _⟩ := key 0 hp
      refine ⟨fun i => if h : i < len then Classical.choose (key i h) else x0, fun i hi => ?_⟩
      simp only [dif_pos hi]
      exact Classical.choose_spec (key i hi)
    obtain ⟨f, hf⟩ := hch
    refine ⟨(List.range len).map f, ⟨_, rfl, some a, len, cap, rfl, by simp, hl, Nat.le_trans hl hm, fun i x hx => ?_⟩, rfl, fun x hx => ?_⟩
    · simp only [List.getElem?_map] at hx
      obtain ⟨i', hi', rfl⟩ := Option.map_eq_some_iff.1 hx
      obtain ⟨hlt, e⟩ := List.getElem?_eq_some_iff.1 hi'
      simp at e hlt
      subst e
      obtain ⟨⟨g, o, ha, cs, h1, h2, h3⟩, _⟩ := hf i hlt
      exact ⟨g, o, by rw [ha], cs, h1, h2, h3⟩
    · obtain ⟨i, hi, rfl⟩ := List.mem_map.1 hx
      exact (hf i (by simpa using hi)).2
end
end Go.Proofs.YtbgacfdnmbhloaaGreat.Sl
