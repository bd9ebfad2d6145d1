/- Lemmas for the row of RwFe. -/
import Derived.Below
import Derived.ChangeOld
import Derived.Deep.Draws
import Derived.Deep.QuietTactic
import Derived.Deep.Upon
import Derived.JoinedOf
import Derived.KernelRfl
import Derived.LaidMore
import Derived.Laws.BytesString
import Derived.Laws.Concat
import Derived.Laws.Cover3
import Derived.Laws.IdiomStrings
import Derived.Laws.OwnMore
import Derived.Laws.StructEq
import Derived.Lib.AppendIntMem
import Derived.Lib.ItoaLen
import Derived.Lib.ItoaNum
import Derived.Lib.Join
import Derived.Lib.LaidTab
import Derived.OpenShut
import Derived.OrdersHeld
import Derived.ProofKit
import Derived.SevenTiedAt
import Derived.Shelf.LaysM
import Derived.Shelf.Strconv.Itoa0
import Derived.Shelf.Strconv.Itoa1
import Derived.Shelf.Strconv.Itoa2
import Derived.Shelf.Strconv.Itoa3
import Derived.Shelf.Strings.Builder1
import Derived.Shelf.Strings.Builder2
import Derived.Shelf.Strings.OnBuilder
import Derived.SizedLaws
import Derived.Stop.Joined
import Derived.Stop.LaidErr
import Derived.Test.YtbgacfdnmbhloaaDoorCards
import Derived.Test.YtbgacfdnmbhloaaDoorTie
import Derived.WalkKit
import Derived.WalkSpells
import Derived.Test.YtbgacfdnmbhloaaDoorChecked
import Derived.Test.YtbgacfdnmbhloaaDoorProg
set_option maxHeartbeats 4000000
set_option maxRecDepth 20000
namespace Go.Proofs.YtbgacfdnmbhloaaDoor.Sl
open Go Go.RowKit
set_option linter.unusedVariables false
set_option linter.unusedSimpArgs false
/-! ### frames -/
def lk : List (Nat × Value) → Nat → Option Value
  | [], _ => none
  | (t, v) :: l, n => cond (Nat.beq t n) (some v) (lk l n)
structure Fr (n : Nat) (L : List (Nat × Value)) (a : Act) : Prop where
  size : a.tmps.size = n
  defs : a.defers = []
  get : ∀ t v, lk L t = some v → a.tmps[t]? = some v
theorem Fr.ev {n : Nat} {L : List (Nat × Value)} {a : Act} {t : Nat} {v : Value} (h : Fr n L a) (hl : lk L t = some v) : a.eval (.tmp t) = v := by
 have := h.get t v hl
 simp [Act.eval, Array.getD_eq_getD_getElem?, this]
theorem ec {a : Act} {v : Value} : a.eval (.const v) = v := rfl
theorem ef {a : Act} {f : FuncId} : a.eval (.func f) = .func (.func f) #[] #[] := rfl
theorem Fr.put {n : Nat} {L : List (Nat × Value)} {a : Act} (h : Fr n L a) {d : Nat} (hd : Nat.ble (d + 1) n = true) (v : Value) : Fr n ((d, v) :: L) (a.put (some d) v) := by
 have hd' : d < a.tmps.size := by rw [h.size]; exact Nat.le_of_ble_eq_true hd
 refine ⟨by simp [Act.put, h.size], h.defs, fun t u hl => ?_⟩
 simp only [lk] at hl
 cases hb : Nat.beq d t with
 | true =>
   have := Nat.eq_of_beq_eq_true hb
   subst this
   simp [hb] at hl
   subst hl
   simp [Act.put, hd']
 | false =>
   have hne := Nat.ne_of_beq_eq_false hb
   simp [hb] at hl
   have := h.get t u hl
   simp [Act.put, Array.getElem?_setIfInBounds, hne, this]
theorem Fr.nil {n : Nat} {L : List (Nat × Value)} {a : Act} (h : Fr n L a) : Fr n [] a := ⟨h.size, h.defs, fun t v hl => by simp [lk] at hl⟩
/-- one slot more, out of what is known -/
theorem Fr.keep {n : Nat} {L L' : List (Nat × Value)} {a : Act} (h' : Fr n L' a) (h : Fr n L a) {t : Nat} {v : Value} (hl : lk L t = some v) : Fr n ((t, v) :: L') a := by
 refine ⟨h.size, h.defs, fun s u hs => ?_⟩
 simp only [lk] at hs
 cases hb : Nat.beq t s with
 | true =>
   have := Nat.eq_of_beq_eq_true hb
   subst this
   simp [hb] at hs
   subst hs
   exact h.get _ _ hl
 | false => simp [hb] at hs; exact h'.get s u hs
def en : Nat → List Value → List (Nat × Value)
  | _, [] => []
  | i, v :: l => (i, v) :: en (i + 1) l
theorem lk_en : ∀ (l : List Value) (i t : Nat) (v : Value), lk (en i l) t = some v → i ≤ t ∧ l[t - i]? = some v
  | [], i, t, v, h => by simp [en, lk] at h
  | u :: l, i, t, v, h => by
    simp only [en, lk] at h
    cases hb : Nat.beq i t with
    | true =>
      have := Nat.eq_of_beq_eq_true hb
      subst this
      simp [hb] at h
      simp [h]
    | false =>
      have hne := Nat.ne_of_beq_eq_false hb
      simp [hb] at h
      obtain ⟨h1, h2⟩ := lk_en l (i + 1) t v h
      refine ⟨by omega, ?_⟩
      rw [show t - i = (t - (i + 1)) + 1 by omega]
      simpa using h2
theorem Fr.enter (args : List Value) (n : Nat) (h : Nat.ble args.length n = true) : Fr n (en 0 args) ⟨args.toArray ++ Array.replicate (n - args.toArray.size) undef, []⟩ := by
 have hl : args.length ≤ n := Nat.le_of_ble_eq_true h
 refine ⟨by simp; omega, rfl, fun t v ht => ?_⟩
 obtain ⟨_, h2⟩ := lk_en args 0 t v ht
 have : t < args.length := by
   have := (List.getElem?_eq_some_iff.1 h2).1
   simpa using this
 simp at h2
 rw [Array.getElem?_append_left (by simpa using this)]
 simpa using h2
/-- what a contract says: the call returns a value, of which, and of the world then, R holds -/
def Ret (R : Value → World → Prop) : Ending → World → Prop := fun e w => ∃ v, e = .returned v ∧ R v w
theorem calls_fr {P : Program} {f : FuncId} {fn : Func} {c : Code} {args : List Value} {w : World} {R : Ending → World → Prop} {n : Nat} (hf : P.funcs[f]? = some fn) (hb : fn.body = some c) (hn : fn.ntmps = n)
    (hl : Nat.ble args.length n = true) (h : ∀ a, Fr n (en 0 args) a → c.wp P (bodyPost P fn R) a w) : Calls P f args.toArray w R := by
  refine calls_of_wp hf hb ?_
  rw [hn]
  exact h _ (Fr.enter args n hl)
/-! ### operations -/
section
variable {P : Program} {ops : Array Oper} {Q : Exit → Act → World → Prop} {a : Act} {w w' : World} {rest : List Oper} {o : Oper} {n d : Nat} {L : List (Nat × Value)} {v : Value}
theorem wl (hF : Fr n L a) (hg : o.guard = none) (hd : o.dst = some d) (hdn : Nat.ble (d + 1) n = true)
    (hr : (execOp a.eval o).run P w = .ok (.value v) w') (k : ∀ a, Fr n ((d, v) :: L) a → wpList P ops Q rest a w') : wpList P ops Q (o :: rest) a w :=
  wpList_plain hg fun K hK => by
    unfold Oper.wp
    rw [hr, Oper.upon_value, hd]
    exact hK _ _ (k _ (hF.put hdn v))
theorem wl0 (hF : Fr n L a) (hg : o.guard = none) (hd : o.dst = none)
    (hr : (execOp a.eval o).run P w = .ok .skip w') (k : wpList P ops Q rest a w') : wpList P ops Q (o :: rest) a w :=
  wpList_plain hg fun K hK => by
    unfold Oper.wp
    rw [hr, Oper.upon_skip, hd]
    exact hK _ _ k
theorem wl_call {f : FuncId} {args : Array Value} {R : Value → World → Prop} (hF : Fr n L a) (hg : o.guard = none) (hd : o.dst = some d) (hdn : Nat.ble (d + 1) n = true)
    (hr : (execOp a.eval o).run P w = .ok (.enter f args) w) (hc : Calls P f args w (Ret R))
    (k : ∀ v w' a, R v w' → Fr n ((d, v) :: L) a → wpList P ops Q rest a w') : wpList P ops Q (o :: rest) a w :=
  wpList_plain hg fun K hK => by
    unfold Oper.wp
    rw [hr, Oper.upon_enter]
    refine hc.mono ?_
    rintro e w1 ⟨v, rfl, hR⟩
    show K (a.put o.dst v) w1
    rw [hd]
    exact hK _ _ (k v w1 _ hR (hF.put hdn v))
theorem yielded_of {j t : Nat} {c : Bool} (hF : Fr n L a) (hj : (ops[j]?).bind (·.dst) = some t) (ht : lk L t = some (.bool c)) : yielded ops a.tmps j = some c := by
 unfold yielded
 rw [hj, Option.bind_some, hF.get _ _ ht]
/-- a guarded operation that is wanted, laid open as one without a guard -/
theorem wl_take {j t : Nat} {b c : Bool} (hF : Fr n L a) (hg : o.guard = some (j, b)) (hj : (ops[j]?).bind (·.dst) = some t) (ht : lk L t = some (.bool c)) (heq : (c == b) = true)
    (k : wpList P ops Q ({ o with guard := none } :: rest) a w) : wpList P ops Q (o :: rest) a w := by
  unfold wpList at *
  have hw : Region.wanted o (yielded ops a.tmps) = true := by
    simp only [Region.wanted, hg, yielded_of hF hj ht]
    cases c <;> cases b <;> simp_all
  have hw' : Region.wanted { o with guard := none } (yielded ops a.tmps) = true := rfl
  rw [if_pos hw]
  rw [if_pos hw'] at k
  exact k
theorem wl_nil (h : Q .normal a w) : wpList P ops Q [] a w := h
end
/-! ### what the operations do -/
section
variable {P : Program} {ρ : Operand → Value} {w : World} {D : Option Tmp} {ty : TypeId} {ps : String} {af : Array Edge} {gd : Option (Nat × Bool)}
theorem r_move {x : Operand} {v : Value} (hx : ρ x = v) : (execOp ρ ⟨D, .move x, ty, ps, af, gd⟩).run P w = .ok (.value v) w := by subst hx; rfl
theorem r_assign {x : Operand} {v : Value} (hx : ρ x = v) : (execOp ρ ⟨D, .assign x, ty, ps, af, gd⟩).run P w = .ok (.value v) w := by subst hx; rfl
section
variable {t t' : TypeId} {k : IntKind} {x y : Operand} {m q : Int}
theorem r_add (hx : ρ x = .int k m) (hy : ρ y = .int k q) : (execOp ρ ⟨D, .binOp .add t x y t', ty, ps, af, gd⟩).run P w = .ok (.value (.int k (k.wrap (m + q)))) w := by
 simp [execOp, hx, hy, go_sem, Op.intArith]
theorem r_sub (hx : ρ x = .int k m) (hy : ρ y = .int k q) : (execOp ρ ⟨D, .binOp .sub t x y t', ty, ps, af, gd⟩).run P w = .ok (.value (.int k (k.wrap (m - q)))) w := by
 simp [execOp, hx, hy, go_sem, Op.intArith]
theorem r_mul (hx : ρ x = .int k m) (hy : ρ y = .int k q) : (execOp ρ ⟨D, .binOp .mul t x y t', ty, ps, af, gd⟩).run P w = .ok (.value (.int k (k.wrap (m * q)))) w := by
 simp [execOp, hx, hy, go_sem, Op.intArith]
theorem r_eql (hx : ρ x = .int k m) (hy : ρ y = .int k q) : (execOp ρ ⟨D, .binOp .eql t x y t', ty, ps, af, gd⟩).run P w = .ok (.value (.bool (decide (m = q)))) w := by
 simp [execOp, hx, hy, go_sem]; rfl
theorem r_neq (hx : ρ x = .int k m) (hy : ρ y = .int k q) : (execOp ρ ⟨D, .binOp .neq t x y t', ty, ps, af, gd⟩).run P w = .ok (.value (.bool (!decide (m = q)))) w := by
 simp [execOp, hx, hy, go_sem]; rfl
theorem r_lss (hx : ρ x = .int k m) (hy : ρ y = .int k q) : (execOp ρ ⟨D, .binOp .lss t x y t', ty, ps, af, gd⟩).run P w = .ok (.value (.bool (decide (m < q)))) w := by
 simp [execOp, hx, hy, go_sem]
theorem r_leq (hx : ρ x = .int k m) (hy : ρ y = .int k q) : (execOp ρ ⟨D, .binOp .leq t x y t', ty, ps, af, gd⟩).run P w = .ok (.value (.bool (decide (m ≤ q)))) w := by
 simp [execOp, hx, hy, go_sem]
theorem r_gtr (hx : ρ x = .int k m) (hy : ρ y = .int k q) : (execOp ρ ⟨D, .binOp .gtr t x y t', ty, ps, af, gd⟩).run P w = .ok (.value (.bool (decide (q < m)))) w := by
 simp [execOp, hx, hy, go_sem]
theorem r_geq (hx : ρ x = .int k m) (hy : ρ y = .int k q) : (execOp ρ ⟨D, .binOp .geq t x y t', ty, ps, af, gd⟩).run P w = .ok (.value (.bool (decide (q ≤ m)))) w := by
 simp [execOp, hx, hy, go_sem]
end
theorem r_not {t : TypeId} {x : Operand} {b : Bool} (hx : ρ x = .bool b) : (execOp ρ ⟨D, .unOp .not t x, ty, ps, af, gd⟩).run P w = .ok (.value (.bool (!b))) w := by
 simp [execOp, hx, go_sem, Op.unary]
theorem r_len {t : TypeId} {x : Operand} {A : Option Addr} {m c : Nat} (ht : P.underlying t = some (.slice (P.elem t))) (hx : ρ x = .slice A m c) :
    (execOp ρ ⟨D, .call ⟨.builtin .len, #[x], #[t]⟩, ty, ps, af, gd⟩).run P w = .ok (.value (.int .i64 (m : Int))) w := by
  have := run_len_slice (P := P) w t ty A m c ht
  simp [execOp, resolve, invoke, builtin, hx, this, go_sem, goInt]
end
/-- a part of memory: it holds within a set of blocks; whoever leaves these blocks alone leaves it alone -/
structure Res where
  P : (Nat → Prop) → World → Prop
  loc : ∀ {S : Nat → Prop} {w w' : World}, (∀ k, S k → w'.heap[k]? = w.heap[k]?) → P S w → P S w'
  mono : ∀ {S S' : Nat → Prop} {w : World}, (∀ k, S k → S' k) → P S w → P S' w
def Sat (l : List Res) (S : Nat → Prop) (w : World) : Prop :=
  ∃ f : Nat → Nat → Prop, (∀ i (r : Res), l[i]? = some r → r.P (f i) w) ∧ (∀ i k, f i k → S k) ∧ (∀ i j k, f i k → f j k → i = j)
theorem Sat.nil (S : Nat → Prop) (w : World) : Sat [] S w := ⟨fun _ _ => False, by simp, by simp, by simp⟩
theorem Sat.loc {l : List Res} {S : Nat → Prop} {w w' : World} (h : Sat l S w) (hk : ∀ k, S k → w'.heap[k]? = w.heap[k]?) : Sat l S w' := by
 obtain ⟨f, h1, h2, h3⟩ := h
 exact ⟨f, fun i r hi => r.loc (fun k hf => hk k (h2 i k hf)) (h1 i r hi), h2, h3⟩
theorem Sat.mono {l : List Res} {S S' : Nat → Prop} {w : World} (h : Sat l S w) (hs : ∀ k, S k → S' k) : Sat l S' w := by
 obtain ⟨f, h1, h2, h3⟩ := h
 exact ⟨f, h1, fun i k hf => hs k (h2 i k hf), h3⟩
theorem Sat.get {l : List Res} {S : Nat → Prop} {w : World} (h : Sat l S w) {i : Nat} {r : Res} (hi : l[i]? = some r) : r.P S w := by
 obtain ⟨f, h1, h2, h3⟩ := h
 exact r.mono (h2 i) (h1 i r hi)
/-- other places for the parts; some may be dropped -/
theorem Sat.sub {l l' : List Res} {S : Nat → Prop} {w : World} (h : Sat l S w) (σ : Nat → Nat) (hinj : ∀ i j, i < l'.length → j < l'.length → σ i = σ j → i = j) (hσ : ∀ i r, l'[i]? = some r → l[σ i]? = some r) : Sat l' S w := by
 obtain ⟨f, h1, h2, h3⟩ := h
 refine ⟨fun i k => i < l'.length ∧ f (σ i) k, fun i r hi => ?_, fun i k hf => h2 _ k hf.2, fun i j k hi hj => hinj i j hi.1 hj.1 (h3 _ _ k hi.2 hj.2)⟩
 have hlt := (List.getElem?_eq_some_iff.1 hi).1
 exact r.mono (fun k hk => ⟨hlt, hk⟩) (h1 _ r (hσ i r hi))
/-- one part more, in blocks of its own -/
theorem Sat.cons {l : List Res} {S S1 S' : Nat → Prop} {w : World} {r : Res} (h : Sat l S w) (hr : r.P S1 w) (h1 : ∀ k, S1 k → S' k) (h2 : ∀ k, S k → S' k) (hd : ∀ k, S1 k → S k → False) : Sat (r :: l) S' w := by
 obtain ⟨f, g1, g2, g3⟩ := h
 refine ⟨fun i => match i with | 0 => S1 | i + 1 => f i, fun i q hi => ?_, fun i k hf => ?_, fun i j k hi hj => ?_⟩
 · cases i with
   | zero => simp at hi; subst hi; exact hr
   | succ i => exact g1 i q (by simpa using hi)
 · cases i with
   | zero => exact h1 k hf
   | succ i => exact h2 k (g2 i k hf)
 · cases i with
   | zero =>
     cases j with
     | zero => rfl
     | succ j => exact (hd k hi (g2 j k hj)).elim
   | succ i =>
     cases j with
     | zero => exact (hd k hj (g2 i k hi)).elim
     | succ j => rw [g3 i j k hi hj]
/-- two lists side by side -/
theorem Sat.append {l l' : List Res} {S S1 S' : Nat → Prop} {w : World} (h : Sat l' S w) (hr : Sat l S1 w) (h1 : ∀ k, S1 k → S' k) (h2 : ∀ k, S k → S' k) (hd : ∀ k, S1 k → S k → False) : Sat (l ++ l') S' w := by
 obtain ⟨f, f1, f2, f3⟩ := hr
 obtain ⟨g, g1, g2, g3⟩ := h
 refine ⟨fun i k => if i < l.length then f i k else g (i - l.length) k, fun i r hi => ?_, fun i k hf => ?_, fun i j k hi hj => ?_⟩
 · by_cases hlt : i < l.length
   · rw [List.getElem?_append_left hlt] at hi
     exact r.mono (fun k hk => by simp only [if_pos hlt]; exact hk) (f1 i r hi)
   · rw [List.getElem?_append_right (by omega)] at hi
     exact r.mono (fun k hk => by simp only [if_neg hlt]; exact hk) (g1 _ r hi)
 · by_cases hlt : i < l.length
   · simp only [if_pos hlt] at hf; exact h1 k (f2 i k hf)
   · simp only [if_neg hlt] at hf; exact h2 k (g2 _ k hf)
 · by_cases hi' : i < l.length <;> by_cases hj' : j < l.length
   · simp only [if_pos hi'] at hi; simp only [if_pos hj'] at hj; exact f3 i j k hi hj
   · simp only [if_pos hi'] at hi; simp only [if_neg hj'] at hj; exact (hd k (f2 _ k hi) (g2 _ k hj)).elim
   · simp only [if_neg hi'] at hi; simp only [if_pos hj'] at hj; exact (hd k (f2 _ k hj) (g2 _ k hi)).elim
   · simp only [if_neg hi'] at hi; simp only [if_neg hj'] at hj; have := g3 _ _ k hi hj; omega
/-- the same, the places in hand -/
theorem Sat.upd' {l : List Res} {S N : Nat → Prop} {w w' : World} {i : Nat} {r r' : Res} {f : Nat → Nat → Prop} (_h : Sat l S w) (hi : l[i]? = some r) (hN : ∀ k, N k → S k → False)
    (hr' : r'.P (fun k => f i k ∨ N k) w') (hk : ∀ k, S k → ¬ f i k → w'.heap[k]? = w.heap[k]?) (f1 : ∀ i (r : Res), l[i]? = some r → r.P (f i) w) (f2 : ∀ i k, f i k → S k) (f3 : ∀ i j k, f i k → f j k → i = j) : Sat (l.set i r') (fun k => S k ∨ N k) w' := by
  refine ⟨fun j k => if j = i then f i k ∨ N k else f j k, fun j q hj => ?_, fun j k hf => ?_, fun j m k hj hm => ?_⟩
  · by_cases e : j = i
    · subst e
      have hlt := (List.getElem?_eq_some_iff.1 hi).1
      rw [List.getElem?_set_self hlt] at hj
      obtain rfl := Option.some.inj hj
      exact r'.mono (fun k hk => by simp only [if_true]; exact hk) hr'
    · rw [List.getElem?_set_ne (fun h => e h.symm)] at hj
      refine q.mono (S := f j) (fun k hk => by simp only [if_neg e]; exact hk) (q.loc (fun k hfk => hk k (f2 j k hfk) (fun hik => e (f3 j i k hfk hik))) (f1 j q hj))
  · by_cases e : j = i
    · simp only [if_pos e] at hf
      exact hf.imp (f2 i k) id
    · simp only [if_neg e] at hf
      exact .inl (f2 j k hf)
  · by_cases ej : j = i <;> by_cases em : m = i
    · rw [ej, em]
    · simp only [if_pos ej] at hj; simp only [if_neg em] at hm
      rcases hj with hj | hj
      · rw [ej]; exact f3 i m k hj hm
      · exact (hN k hj (f2 m k hm)).elim
    · simp only [if_neg ej] at hj; simp only [if_pos em] at hm
      rcases hm with hm | hm
      · rw [em]; exact f3 j i k hj hm
      · exact (hN k hm (f2 j k hj)).elim
    · simp only [if_neg ej] at hj; simp only [if_neg em] at hm; exact f3 j m k hj hm
/-- one part is changed: by a step that leaves all but its blocks, and new ones, alone -/
theorem Sat.upd {l : List Res} {S N : Nat → Prop} {w w' : World} {i : Nat} {r r' : Res} (h : Sat l S w) (hi : l[i]? = some r) (hN : ∀ k, N k → S k → False)
    (hstep : ∀ F, r.P F w → (∀ k, F k → S k) → r'.P (fun k => F k ∨ N k) w' ∧ (∀ k, S k → ¬ F k → w'.heap[k]? = w.heap[k]?)) : Sat (l.set i r') (fun k => S k ∨ N k) w' := by
  obtain ⟨f, f1, f2, f3⟩ := h
  obtain ⟨hr', hk⟩ := hstep (f i) (f1 i r hi) (f2 i)
  exact Sat.upd' ⟨f, f1, f2, f3⟩ hi hN hr' hk f1 f2 f3
/-- below the world w0's size all is as in w0; above it lie the parts, apart from each other -/
structure Sep (w0 : World) (l : List Res) (w : World) : Prop where
  old : Below w0.heap.size w0 w
  sat : Sat l (fun k => w0.heap.size ≤ k ∧ k < w.heap.size) w
theorem Sep.refl (w : World) : Sep w [] w := ⟨Below.refl _ _, Sat.nil _ _⟩
/-- a step that changes no block that is there -/
theorem Sep.ext {w0 w w' : World} {l : List Res} (h : Sep w0 l w) (hb : Below w.heap.size w w') : Sep w0 l w' := by
 refine ⟨h.old.trans (hb.mono h.old.size), ?_⟩
 refine Sat.mono (Sat.loc h.sat (fun k hk => hb.block k hk.2)) (fun k hk => ⟨hk.1, Nat.lt_of_lt_of_le hk.2 hb.size⟩)
theorem Sep.sub {w0 w : World} {l l' : List Res} (h : Sep w0 l w) (σ : Nat → Nat) (hinj : ∀ i j, i < l'.length → j < l'.length → σ i = σ j → i = j) (hσ : ∀ i r, l'[i]? = some r → l[σ i]? = some r) : Sep w0 l' w :=
  ⟨h.old, h.sat.sub σ hinj hσ⟩
theorem Sep.tail {w0 w : World} {r : Res} {l : List Res} (h : Sep w0 (r :: l) w) : Sep w0 l w :=
  h.sub (· + 1) (fun i j _ _ e => by omega) (fun i r hi => by simpa using hi)
/-- a callee, begun at w, has made parts of its own -/
theorem Sep.add {w0 w w' : World} {l l' : List Res} (h : Sep w0 l w) (h' : Sep w l' w') : Sep w0 (l' ++ l) w' := by
 have hx := h.ext h'.old
 refine ⟨hx.old, ?_⟩
 refine Sat.append (S := fun k => w0.heap.size ≤ k ∧ k < w.heap.size) ?_ h'.sat (fun k hk => ⟨Nat.le_trans h.old.size hk.1, hk.2⟩) (fun k hk => ⟨hk.1, Nat.lt_of_lt_of_le hk.2 h'.old.size⟩) (fun k h1 h2 => by omega)
 exact Sat.loc h.sat (fun k hk => h'.old.block k hk.2)
/-- the same, one part alone -/
theorem Sep.new {w0 w w' : World} {l : List Res} {r : Res} (h : Sep w0 l w) (hb : Below w.heap.size w w') (hr : r.P (fun k => w.heap.size ≤ k ∧ k < w'.heap.size) w') : Sep w0 (r :: l) w' := by
 have := h.add (l' := [r]) ⟨hb, Sat.cons (Sat.nil (fun _ => False) w') hr (fun k hk => hk) (fun k hk => hk.elim) (fun k _ hk => hk)⟩
 simpa using this
/-- one part is changed -/
theorem Sep.upd {w0 w w' : World} {l : List Res} {i : Nat} {r r' : Res} (h : Sep w0 l w) (hi : l[i]? = some r) (hos : w'.os = w.os) (htape : w'.tape = w.tape) (hout : w'.output = w.output) (hsize : w.heap.size ≤ w'.heap.size)
    (hstep : ∀ F, r.P F w → (∀ k, F k → w0.heap.size ≤ k ∧ k < w.heap.size) → r'.P (fun k => F k ∨ (w.heap.size ≤ k ∧ k < w'.heap.size)) w' ∧ (∀ k, k < w.heap.size → ¬ F k → w'.heap[k]? = w.heap[k]?)) : Sep w0 (l.set i r') w' := by
  refine ⟨?_, ?_⟩
  · obtain ⟨f, f1, f2, f3⟩ := h.sat
    have := hstep (f i) (f1 i r hi) (f2 i)
    refine h.old.trans ⟨hos, htape, hout, hsize, fun k hk => this.2 k (Nat.lt_of_lt_of_le hk h.old.size) (fun hf => ?_)⟩
    have := (f2 i k hf).1
    omega
  · refine Sat.mono (Sat.upd (N := fun k => w.heap.size ≤ k ∧ k < w'.heap.size) h.sat hi (fun k h1 h2 => by omega) (fun F hF hs => ?_)) (fun k hk => ?_)
    · obtain ⟨h1, h2⟩ := hstep F hF hs
      exact ⟨h1, fun k hk hn => h2 k hk.2 hn⟩
    · rcases hk with hk | hk
      · exact ⟨hk.1, Nat.lt_of_lt_of_le hk.2 hsize⟩
      · exact ⟨Nat.le_trans h.old.size hk.1, hk.2⟩
/-! ### a block whose cells are known -/
def Box (g : Nat) (cs : List Value) : Res where
  P := fun S w => S g ∧ ∃ T, w.heap[g]? = some (.cells cs.toArray T (0, 0))
  loc := fun hk ⟨h1, T, h2⟩ => ⟨h1, T, (hk g h1).trans h2⟩
  mono := fun hs ⟨h1, h2⟩ => ⟨hs g h1, h2⟩
theorem cell_of {w : World} {g o : Nat} {cur : Array Value} {T : TypeId} {fz : Nat × Nat} (h : w.heap[g]? = some (.cells cur T fz)) : w.cell? ⟨g, o, none⟩ = cur[o]? := by
 simp [World.cell?, h]
theorem frozen_of {w : World} {g o : Nat} {cur : Array Value} {T : TypeId} (h : w.heap[g]? = some (.cells cur T (0, 0))) : w.frozen? ⟨g, o, none⟩ = false := by
 simp [World.frozen?, h]
theorem heap_setCell_at {w : World} {g o : Nat} {cur : Array Value} {T : TypeId} {fz : Nat × Nat} (h : w.heap[g]? = some (.cells cur T fz)) (v : Value) : (w.setCell ⟨g, o, none⟩ v).heap[g]? = some (.cells (cur.setIfInBounds o v) T fz) := by
 simp [World.setCell, Array.getElem?_modify, h]
theorem Sep.box {w0 w : World} {l : List Res} {i g : Nat} {cs : List Value} (h : Sep w0 l w) (hi : l[i]? = some (Box g cs)) {o : Nat} {v : Value} (hv : cs[o]? = some v) : w.cell? ⟨g, o, none⟩ = some v := by
 obtain ⟨_, T, hT⟩ := h.sat.get hi
 rw [cell_of hT]
 simpa using hv
theorem Sep.box_frozen {w0 w : World} {l : List Res} {i g : Nat} {cs : List Value} (h : Sep w0 l w) (hi : l[i]? = some (Box g cs)) (o : Nat) : w.frozen? ⟨g, o, none⟩ = false := by
 obtain ⟨_, T, hT⟩ := h.sat.get hi
 exact frozen_of hT
theorem Sep.box_set {w0 w : World} {l : List Res} {i g : Nat} {cs : List Value} (h : Sep w0 l w) (hi : l[i]? = some (Box g cs)) (o : Nat) (v : Value) : Sep w0 (l.set i (Box g (cs.set o v))) (w.setCell ⟨g, o, none⟩ v) := by
 refine h.upd hi rfl rfl rfl (by simp) (fun F hF hs => ?_)
 obtain ⟨h1, T, hT⟩ := hF
 refine ⟨⟨.inl h1, T, ?_⟩, fun k hk hn => Below.heap_setCell _ _ _ _ (fun e => hn (e ▸ h1))⟩
 rw [heap_setCell_at hT]
 simp
theorem Sep.box_new {w0 w : World} {l : List Res} (h : Sep w0 l w) (cs : List Value) (T : TypeId) : Sep w0 (Box w.heap.size cs :: l) (w.alloc (.cells cs.toArray T)) :=
  h.new ((Below.refl _ _).alloc (Nat.le_refl _) _) ⟨⟨Nat.le_refl _, by simp⟩, T, heap_alloc_new w _⟩
theorem Sep.drew {w0 w : World} {l : List Res} (h : Sep w0 l w) : Sep w0 l w.drew := h.ext ((Below.refl _ _).drew)
theorem Sep.drawn {w0 w : World} {l : List Res} (h : Sep w0 l w) : Sep w0 l { w with drawn := w.drawn + 1 } := h.ext ((Below.refl _ _).drew)
/-! ### kinds of elements; rows of them -/
abbrev Slv := Option Addr × Nat × Nat
def sv (s : Slv) : Value := .slice s.1 s.2.1 s.2.2
/-- a row that is read: K says what the cells of an element say -/
def Rd {α : Type} (sz : Nat) (K : World → α → List Value → Prop) (w : World) (v : Value) (xs : List α) : Prop :=
  ∃ A n c, v = .slice A n c ∧ n = xs.length ∧ n ≤ c ∧ n ≤ maxLen ∧ ∀ i x, xs[i]? = some x → ∃ g o, A = some ⟨g, o, none⟩ ∧ ∃ cs, K w x cs ∧ cs.length = sz ∧ ∀ j u, cs[j]? = some u → w.cell? ⟨g, o + i * sz + j, none⟩ = some u
theorem Rd.imp {α : Type} {sz : Nat} {K K' : World → α → List Value → Prop} {w w' : World} {v : Value} {xs : List α} (h : Rd sz K w v xs) (hb : Below w.heap.size w w') (hK : ∀ x cs, K w x cs → K' w' x cs) : Rd sz K' w' v xs := by
 obtain ⟨A, n, c, h1, h2, h3, h3', h4⟩ := h
 refine ⟨A, n, c, h1, h2, h3, h3', fun i x hx => ?_⟩
 obtain ⟨g, o, e, cs, k, hl, hc⟩ := h4 i x hx
 refine ⟨g, o, e, cs, hK x cs k, hl, fun j u hu => ?_⟩
 have := hc j u hu
 rw [hb.cell (p := ⟨g, o + i * sz + j, none⟩) (World.block_lt_of_cell? w _ this)]
 exact this
/-- a kind of element: its cells (with the values of the slices inside it), the parts inside it, and what reading it says -/
structure EK (α : Type) where
  sz : Nat
  cells : α → List Slv → List Value
  inner : α → List Slv → List Res
  K : World → α → List Value → Prop
  len : ∀ x vs, (cells x vs).length = sz
  one : ∀ x vs u, u ∈ cells x vs → u.oneCell' = true
  rd : ∀ {x vs S w}, Sat (inner x vs) S w → K w x (cells x vs)
  ext : ∀ {w w' x cs}, Below w.heap.size w w' → K w x cs → K w' x cs
  klen : ∀ {w x cs}, K w x cs → cs.length = sz
def EK.Rd {α : Type} (ek : EK α) (w : World) (v : Value) (xs : List α) : Prop := Sl.Rd ek.sz ek.K w v xs
theorem EK.Rd.mov {α : Type} {ek : EK α} {w w' : World} {v : Value} {xs : List α} (h : ek.Rd w v xs) (hb : Below w.heap.size w w') : ek.Rd w' v xs := Rd.imp h hb (fun _ _ => ek.ext hb)
/-- elements without slices inside -/
def flatEK {α : Type} (sz : Nat) (enc : α → List Value) (hl : ∀ x, (enc x).length = sz) (h1 : ∀ x u, u ∈ enc x → u.oneCell' = true) : EK α where
  sz := sz
  cells := fun x _ => enc x
  inner := fun _ _ => []
  K := fun _ x cs => cs = enc x
  len := fun x _ => hl x
  one := fun x _ u hu => h1 x u hu
  rd := fun _ => rfl
  ext := fun _ h => h
  klen := fun h => by rw [h]; exact hl _
/-- the cells of a row of one's own: block, first cell, room -/
structure RowAt {α : Type} (ek : EK α) (g o c : Nat) (xs : List α) (cur : Array Value) (vs : Nat → List Slv) : Prop where
  room : o + c * ek.sz ≤ cur.size
  fits : xs.length ≤ c
  at_ : ∀ i x, xs[i]? = some x → ∀ j u, (ek.cells x (vs i))[j]? = some u → cur[o + i * ek.sz + j]? = some u
/-- a row of one's own -/
def Own {α : Type} (ek : EK α) (v : Value) (xs : List α) : Res where
  P := fun S w => ∃ A n c, v = .slice A n c ∧ n = xs.length ∧ c ≤ maxLen ∧
    ((c = 0 ∧ xs = []) ∨ ∃ g o cur T vs, A = some ⟨g, o, none⟩ ∧ S g ∧ w.heap[g]? = some (.cells cur T (0, 0)) ∧ RowAt ek g o c xs cur vs ∧
      ∃ f : Nat → Nat → Prop, (∀ i x, xs[i]? = some x → Sat (ek.inner x (vs i)) (f i) w) ∧ (∀ i k, f i k → S k ∧ k ≠ g) ∧ (∀ i j k, f i k → f j k → i = j))
  loc := by
    rintro S w w' hk ⟨A, n, c, h1, h2, h3, h4⟩
    refine ⟨A, n, c, h1, h2, h3, h4.imp id ?_⟩
    rintro ⟨g, o, cur, T, vs, e, hS, hg, hr, f, f1, f2, f3⟩
    exact ⟨g, o, cur, T, vs, e, hS, (hk g hS).trans hg, hr, f, fun i x hx => (f1 i x hx).loc (fun k hf => hk k (f2 i k hf).1), f2, f3⟩
  mono := by
    rintro S S' w hs ⟨A, n, c, h1, h2, h3, h4⟩
    refine ⟨A, n, c, h1, h2, h3, h4.imp id ?_⟩
    rintro ⟨g, o, cur, T, vs, e, hS, hg, hr, f, f1, f2, f3⟩
    exact ⟨g, o, cur, T, vs, e, hs g hS, hg, hr, f, f1, fun i k hf => ⟨hs k (f2 i k hf).1, (f2 i k hf).2⟩, f3⟩
theorem own_rd {α : Type} {ek : EK α} {S : Nat → Prop} {w : World} {v : Value} {xs : List α} (h : (Own ek v xs).P S w) : ek.Rd w v xs := by
 obtain ⟨A, n, c, h1, h2, h3, h4⟩ := h
 rcases h4 with ⟨rfl, rfl⟩ | ⟨g, o, cur, T, vs, e, hS, hg, hr, f, f1, f2, f3⟩
 · exact ⟨A, n, 0, h1, h2, by simp at h2; omega, by simp at h2; omega, fun i x hx => by simp at hx⟩
 · refine ⟨A, n, c, h1, h2, by have := hr.fits; omega, by have := hr.fits; omega, fun i x hx => ⟨g, o, e, ek.cells x (vs i), ek.rd (f1 i x hx), ek.len _ _, fun j u hu => ?_⟩⟩
   rw [cell_of hg]
   exact hr.at_ i x hx j u hu
theorem Sep.own_rd {α : Type} {ek : EK α} {w0 w : World} {l : List Res} {i : Nat} {v : Value} {xs : List α} (h : Sep w0 l w) (hi : l[i]? = some (Own ek v xs)) : ek.Rd w v xs := Sl.own_rd (h.sat.get hi)
theorem Sep.rd {α : Type} {ek : EK α} {w0 w : World} {l : List Res} {v : Value} {xs : List α} (h : Sep w0 l w) (hr : ek.Rd w0 v xs) : ek.Rd w v xs := hr.mov h.old
theorem Rd.idx {α : Type} {ek : EK α} {w : World} {v : Value} {xs : List α} (h : ek.Rd w v xs) {i : Nat} {x : α} (hx : xs[i]? = some x) :
    ∃ g o m c cs, v = .slice (some ⟨g, o, none⟩) m c ∧ m = xs.length ∧ i < m ∧ ek.K w x cs ∧ cs.length = ek.sz ∧ ∀ j u, cs[j]? = some u → w.cell? ⟨g, o + i * ek.sz + j, none⟩ = some u := by
  obtain ⟨A, n, c, rfl, h2, h3, h3', h4⟩ := h
  obtain ⟨g, o, rfl, cs, h5, h6, h7⟩ := h4 i x hx
  have := (List.getElem?_eq_some_iff.1 hx).1
  exact ⟨g, o, n, c, cs, rfl, h2, by omega, h5, h6, h7⟩
theorem Rd.idxF {α : Type} {sz : Nat} {enc : α → List Value} {hl : ∀ x, (enc x).length = sz} {h1 : ∀ x u, u ∈ enc x → u.oneCell' = true} {w : World} {v : Value} {xs : List α} (h : (flatEK sz enc hl h1).Rd w v xs) {i : Nat} {x : α} (hx : xs[i]? = some x) :
    ∃ g o m c, v = .slice (some ⟨g, o, none⟩) m c ∧ m = xs.length ∧ i < m ∧ ∀ j u, (enc x)[j]? = some u → w.cell? ⟨g, o + i * sz + j, none⟩ = some u := by
  obtain ⟨g, o, m, c, cs, e1, e2, e3, hk, _, hc⟩ := Rd.idx h hx
  obtain rfl : cs = enc x := hk
  exact ⟨g, o, m, c, e1, e2, e3, hc⟩
theorem EK.Rd.sl {α : Type} {ek : EK α} {w : World} {v : Value} {xs : List α} (h : ek.Rd w v xs) : ∃ A c, v = .slice A xs.length c ∧ xs.length ≤ c ∧ xs.length ≤ maxLen := by
 obtain ⟨A, n, c, h1, h2, h3, h3', _⟩ := h
 subst h2
 exact ⟨A, c, h1, h3, h3'⟩
theorem Rd.nil {α : Type} (sz : Nat) (K : World → α → List Value → Prop) (w : World) : Rd sz K w (.slice none 0 0) [] := ⟨none, 0, 0, rfl, rfl, Nat.le_refl _, Nat.zero_le _, fun i x hx => by simp at hx⟩
/-! ### what is asked of the program's table of types -/
def scalB (P : Program) (t : TypeId) : Bool :=
  match P.underlying t with
  | some (.struct _) | some (.array _ _) => false
  | some _ => true
  | none => false
def aggB (P : Program) (t : TypeId) : Bool :=
  match P.underlying t with
  | some (.struct _) | some (.array _ _) => true
  | _ => false
def szB (P : Program) (t : TypeId) : Option Nat := (P.info? t).map (·.size)
def zeroOf (P : Program) (t : TypeId) : Option (List Value) := (P.info? t).bind fun i => i.zero.map fun v => v.cells.toList
def offB (P : Program) (t : TypeId) (f : Nat) : Option Nat :=
  match P.underlying t with
  | some (.struct fs) => (fs[f]?).bind fun fd => (P.info? fd.type).bind fun i => if i.size = 0 then none else some fd.offset
  | _ => none
/-- a slice type: its element's size, its element's bytes -/
def slB (P : Program) (t : TypeId) : Option (Nat × Nat) :=
  match P.underlying t with
  | some (.slice e) => (P.info? e).map fun i => (i.size, i.bytes)
  | _ => none
/-- a call of this function is a call of its own Go text -/
def enterB (P : Program) (f : FuncId) : Bool :=
  match P.funcs[f]? with
  | some fn => !(fn.name == "runtime.NumGoroutine") && fn.body.isSome
  | none => false
section
variable {P : Program} {ρ : Operand → Value} {w : World} {D : Option Tmp} {ty : TypeId} {ps : String} {af : Array Edge} {gd : Option (Nat × Bool)}
theorem run_isAgg_false {t : TypeId} (h : scalB P t = true) : (isAgg t).run P w = .ok false w := by
 unfold scalB at h
 split at h
 all_goals first
   | (simp at h; done)
   | skip
 rename_i d h1 h2 hd
 cases d <;> simp_all [isAgg, underlying, go_sem]
theorem run_isAgg_true {t : TypeId} (h : aggB P t = true) : (isAgg t).run P w = .ok true w := by
 unfold aggB at h
 split at h
 · rename_i fs hd; simp [isAgg, underlying, hd, go_sem]
 · rename_i n e hd; simp [isAgg, underlying, hd, go_sem]
 · simp at h
theorem run_sizeOf {t : TypeId} {m : Nat} (h : szB P t = some m) : (sizeOf t).run P w = .ok m w := by
 unfold szB at h
 obtain ⟨i, hi, rfl⟩ := Option.map_eq_some_iff.1 h
 simp [sizeOf, typeInfo, hi, go_sem]
theorem r_load1 {t : TypeId} {x : Operand} {ad : Addr} {v : Value} (ht : scalB P t = true) (hp : ρ x = .pointer (some ad)) (hc : w.cell? ad = some v) :
    (execOp ρ ⟨D, .load t x, ty, ps, af, gd⟩).run P w = .ok (.value v) w := by
  have h1 := run_isAgg_false (P := P) (w := w) ht
  simp [execOp, hp, Instr.loadAt, Instr.sureAddr, loadVar, h1, go_sem, hc]
theorem run_loadCellsFrom {g o : Nat} : ∀ (cs : List Value) (i : Nat) (acc : Array Value), (∀ j u, cs[j]? = some u → w.cell? ⟨g, o + (i + j), none⟩ = some u) →
    (loadCellsFrom ⟨g, o, none⟩ i cs.length acc).run P w = .ok (acc ++ cs.toArray) w
  | [], i, acc, _ => by simp [loadCellsFrom, go_sem]
  | v :: cs, i, acc, h => by
    have h0 : w.cell? ⟨g, o + i, none⟩ = some v := by simpa using h 0 v rfl
    have ih := run_loadCellsFrom cs (i + 1) (acc.push v) (fun j u hu => by
      have := h (j + 1) u (by simpa using hu)
      rwa [show i + (j + 1) = i + 1 + j by omega] at this)
    simp only [List.length_cons, loadCellsFrom, Addr.add_lit]
    simp [go_sem, h0, ih]
theorem r_loadn {t : TypeId} {x : Operand} {g o : Nat} {cs : List Value} (ht : aggB P t = true) (hp : ρ x = .pointer (some ⟨g, o, none⟩))
    (hc : ∀ j u, cs[j]? = some u → w.cell? ⟨g, o + j, none⟩ = some u) (hs : szB P t = some cs.length) :
    (execOp ρ ⟨D, .load t x, ty, ps, af, gd⟩).run P w = .ok (.value (.agg cs.toArray)) w := by
  have h1 := run_isAgg_true (P := P) (w := w) ht
  have h2 := run_sizeOf (P := P) (w := w) hs
  have h3 := run_loadCellsFrom (P := P) (w := w) (g := g) (o := o) cs 0 #[] (fun j u hu => by simpa using hc j u hu)
  simp at h3
  simp [execOp, hp, Instr.loadAt, Instr.sureAddr, loadVar, h1, h2, h3, go_sem, loadCells]
theorem r_field {t : TypeId} {x : Operand} {f g o m : Nat} (ht : offB P t f = some m) (hp : ρ x = .pointer (some ⟨g, o, none⟩)) :
    (execOp ρ ⟨D, .fieldAddr t x f, ty, ps, af, gd⟩).run P w = .ok (.value (.pointer (some ⟨g, o + m, none⟩))) w := by
  unfold offB at ht
  split at ht
  · rename_i fs hfs
    obtain ⟨fd, hfd, ht⟩ := Option.bind_eq_some_iff.1 ht
    obtain ⟨i, hi, ht⟩ := Option.bind_eq_some_iff.1 ht
    split at ht
    · simp at ht
    · rename_i hne
      obtain rfl := Option.some.inj ht
      have hs : (sizeOf fd.type).run P w = .ok i.size w := run_sizeOf (by simp [szB, hi])
      simp [execOp, hp, Instr.fieldAt, underlying, hfs, hfd, Instr.sureAddr, fieldPlace, go_sem, hs, hne]
  · simp at ht
theorem r_box {T : TypeId} {x : Operand} {v : Value} (hx : ρ x = v) : (execOp ρ ⟨D, .box T x, ty, ps, af, gd⟩).run P w = .ok (.value (.pointer (some ⟨w.heap.size, 0, none⟩))) (w.alloc (.cells v.cells T)) := by
 subst hx
 simp only [execOp, Instr.box, newVar, newRow]
 simp
theorem r_alloc {T : TypeId} {cs : List Value} (hz : zeroOf P T = some cs) : (execOp ρ ⟨D, .alloc T, ty, ps, af, gd⟩).run P w = .ok (.value (.pointer (some ⟨w.heap.size, 0, none⟩))) (w.alloc (.cells cs.toArray T)) := by
 unfold zeroOf at hz
 obtain ⟨i, hi, hz⟩ := Option.bind_eq_some_iff.1 hz
 obtain ⟨z, hzz, rfl⟩ := Option.map_eq_some_iff.1 hz
 simp [execOp, Instr.alloc, zeroValue, typeInfo, hi, hzz, newVar, newRow, go_sem]
theorem r_store1 {T : TypeId} {x y : Operand} {g q : Nat} {u v : Value} (hsz : szB P T = some 1) (hp : ρ x = .pointer (some ⟨g, q, none⟩)) (hy : ρ y = v) (h1 : v.oneCell' = true) (hc : w.cell? ⟨g, q, none⟩ = some u) (hf : w.frozen? ⟨g, q, none⟩ = false) :
    (execOp ρ ⟨D, .store T x y, ty, ps, af, gd⟩).run P w = .ok .skip (w.setCell ⟨g, q, none⟩ v) := by
  have hs := run_sizeOf (P := P) (w := w) hsz
  have hv : v.cells = #[v] := by cases v <;> simp_all [Value.cells, Value.oneCell']
  have hst : (storeVar T ⟨g, q, none⟩ v).run P w = .ok () (w.setCell ⟨g, q, none⟩ v) := by
    simp [storeVar, hv, hs, storeCells, run_store _ _ _ _ _ h1, hc, hf, Addr.add_zero']
  simp [execOp, hp, hy, Instr.storeAt, Instr.sureAddr, hst]
theorem r_index {t : TypeId} {x y : Operand} {g o m c sz b : Nat} {i : Int} {k : IntKind} (ht : slB P t = some (sz, b)) (hx : ρ x = .slice (some ⟨g, o, none⟩) m c) (hy : ρ y = .int k i) (h0 : 0 ≤ i) (h1 : i < m) :
    (execOp ρ ⟨D, .indexAddr t x y, ty, ps, af, gd⟩).run P w = .ok (.value (.pointer (some ⟨g, o + i.toNat * sz, none⟩))) w := by
  unfold slB at ht
  split at ht
  · rename_i e he
    obtain ⟨ti, hi, h2⟩ := Option.map_eq_some_iff.1 ht
    simp only [Prod.mk.injEq] at h2
    obtain ⟨rfl, _⟩ := h2
    have hs : (sizeOf e).run P w = .ok ti.size w := run_sizeOf (by simp [szB, hi])
    simp [execOp, hx, hy, Instr.indexAt, underlying, he, asIntOf, go_sem, h0, h1, hs]
  · simp at ht
end
section
variable {P : Program} {ops : Array Oper} {Q : Exit → Act → World → Prop} {a : Act} {w w0 : World} {rest : List Oper} {o : Oper} {n d : Nat} {L : List (Nat × Value)} {l : List Res} {v : Value}
variable {ty : TypeId} {ps : String} {af : Array Edge}
/-- as many at least -/
def longB : List Value → List Value → Bool
  | _, [] => true
  | _ :: a, _ :: b => longB a b
  | [], _ :: _ => false
theorem longB_le : ∀ (a b : List Value), longB a b = true → b.length ≤ a.length
  | _, [], _ => Nat.zero_le _
  | _ :: a, _ :: b, h => by have := longB_le a b h; simp; omega
  | [], _ :: _, h => by simp [longB] at h
/-- as many -/
def evenB : List Value → List Value → Bool
  | [], [] => true
  | _ :: a, _ :: b => evenB a b
  | _, _ => false
theorem evenB_eq : ∀ (a b : List Value), evenB a b = true → a.length = b.length
  | [], [], _ => rfl
  | _ :: a, _ :: b, h => by have := evenB_eq a b h; simp; omega
  | [], _ :: _, h => by simp [evenB] at h
  | _ :: _, [], h => by simp [evenB] at h
theorem lt_of_some {cs : List Value} {q : Nat} (h : (cs[q]?).isSome = true) : q < cs.length := by
 obtain ⟨v, hv⟩ := Option.isSome_iff_exists.1 h
 exact (List.getElem?_eq_some_iff.1 hv).1
theorem long_fits {cs vs : List Value} {q : Nat} (h : longB (cs.drop q) vs = true) (hq : ((cs.drop q)[0]?).isSome = true) : q + vs.length ≤ cs.length := by
 have h1 := longB_le _ _ h
 have h2 := lt_of_some hq
 simp only [List.length_drop] at h1 h2
 omega
theorem wl_box {T : TypeId} {x : Operand} {cs : List Value} (hF : Fr n L a) (hS : Sep w0 l w) (hdn : Nat.ble (d + 1) n = true) (hx : a.eval x = v) (hcs : v.cells.toList = cs)
    (k : ∀ g w' a, Sep w0 (Box g cs :: l) w' → Below w.heap.size w w' → Fr n ((d, .pointer (some ⟨g, 0, none⟩)) :: L) a → wpList P ops Q rest a w') : wpList P ops Q (⟨some d, .box T x, ty, ps, af, none⟩ :: rest) a w := by
  subst hcs
  exact wl (w' := w.alloc (.cells v.cells.toList.toArray T)) hF rfl rfl hdn (by simpa using r_box hx) (fun a hF => k _ _ _ (hS.box_new _ T) ((Below.refl _ _).alloc (Nat.le_refl _) _) hF)
theorem wl_alloc {T : TypeId} {cs : List Value} (hF : Fr n L a) (hS : Sep w0 l w) (hdn : Nat.ble (d + 1) n = true) (hz : zeroOf P T = some cs)
    (k : ∀ g w' a, Sep w0 (Box g cs :: l) w' → Below w.heap.size w w' → Fr n ((d, .pointer (some ⟨g, 0, none⟩)) :: L) a → wpList P ops Q rest a w') : wpList P ops Q (⟨some d, .alloc T, ty, ps, af, none⟩ :: rest) a w := by
  exact wl (w' := w.alloc (.cells cs.toArray T)) hF rfl rfl hdn (r_alloc hz) (fun a hF => k _ _ _ (hS.box_new cs T) ((Below.refl _ _).alloc (Nat.le_refl _) _) hF)
/-- a store of one cell into a box -/
theorem wl_store {T : TypeId} {x y : Operand} {i g q : Nat} {cs : List Value} (hF : Fr n L a) (hS : Sep w0 l w) (hi : l[i]? = some (Box g cs)) (hsz : szB P T = some 1) (hp : a.eval x = .pointer (some ⟨g, q, none⟩)) (hy : a.eval y = v)
    (h1 : v.oneCell' = true) (hq : (cs[q]?).isSome = true) (k : ∀ w', Sep w0 (l.set i (Box g (cs.set q v))) w' → wpList P ops Q rest a w') : wpList P ops Q (⟨none, .store T x y, ty, ps, af, none⟩ :: rest) a w := by
  have hq' : q < cs.length := lt_of_some hq
  exact wl0 hF rfl rfl (r_store1 hsz hp hy h1 (hS.box hi (List.getElem?_eq_getElem hq')) (hS.box_frozen hi q)) (k _ (hS.box_set hi q v))
/-! ### boxes that are read -/
theorem Sep.boxn {i g o m : Nat} {cs vs : List Value} (h : Sep w0 l w) (hi : l[i]? = some (Box g cs)) (hv : (cs.drop o).take m = vs) : ∀ j u, vs[j]? = some u → w.cell? ⟨g, o + j, none⟩ = some u := by
 intro j u hu
 subst hv
 rw [List.getElem?_take] at hu
 split at hu
 · exact h.box hi (by rw [List.getElem?_drop] at hu; exact hu)
 · simp at hu
/-! ### the ways of a condition -/
theorem wc_true {c : Operand} {x y : Code} (hc : a.eval c = .bool true) (h1 : x.wp P Q a w) : (Code.cond c x y).wp P Q a w := wp_cond_true hc h1
theorem wc_b {b : Bool} {c : Operand} {x y : Code} (hc : a.eval c = .bool b) (h1 : b = true → x.wp P Q a w) (h2 : b = false → y.wp P Q a w) : (Code.cond c x y).wp P Q a w := wp_cond_split hc h1 h2
theorem bsplit {C : Prop} {t : Nat} {b : Bool} (hF : Fr n L a) (ht : lk L t = some (.bool b)) (h1 : b = true → Fr n ((t, .bool true) :: L) a → C) (h2 : b = false → Fr n ((t, .bool false) :: L) a → C) : C := by
 have hx : ∀ c, b = c → Fr n ((t, .bool c) :: L) a := fun c e => Fr.keep hF hF (by rw [ht, e])
 cases hb : b with
 | true => exact h1 hb (hx _ hb)
 | false => exact h2 hb (hx _ hb)
theorem r_pick_t {ρ : Operand → Value} {D : Option Tmp} {gd : Option (Nat × Bool)} {c x y : Operand} {u : Value} (hc : ρ c = .bool true) (hx : ρ x = u) : (execOp ρ ⟨D, .pick c x y, ty, ps, af, gd⟩).run P w = .ok (.value u) w := by
 subst hx; simp [execOp, hc, asBool, go_sem]
theorem r_pick_f {ρ : Operand → Value} {D : Option Tmp} {gd : Option (Nat × Bool)} {c x y : Operand} {u : Value} (hc : ρ c = .bool false) (hy : ρ y = u) : (execOp ρ ⟨D, .pick c x y, ty, ps, af, gd⟩).run P w = .ok (.value u) w := by
 subst hy; simp [execOp, hc, asBool, go_sem]
/-- a slot's value, spelled otherwise -/
theorem Fr.keepE {L' : List (Nat × Value)} (h' : Fr n L' a) (h : Fr n L a) {t : Nat} {v v' : Value} (hl : lk L t = some v) (e : v = v') : Fr n ((t, v') :: L') a := by subst e; exact h'.keep h hl
/-! ### calls -/
section
variable {D : Option Tmp} {gd : Option (Nat × Bool)} {f : FuncId} {x x1 x2 x3 x4 x5 x6 : Operand} {v1 v2 v3 v4 v5 v6 : Value} {ts : Array TypeId}
theorem run_callFunc (h : enterB P f = true) (args : Array Value) : (callFunc f args).run P w = .ok (.enter f args) w := by
 unfold enterB at h
 split at h
 · rename_i fn hfn
   simp only [Bool.and_eq_true, Bool.not_eq_true'] at h
   obtain ⟨h1, h2⟩ := h
   have h3 : fn.body.isNone = false := by cases hb : fn.body <;> simp_all
   have h4 : ¬ fn.name = "runtime.NumGoroutine" := by simpa using h1
   have h5 : ¬ fn.body = none := by cases hb : fn.body <;> simp_all
   simp [callFunc, hfn, h4, h5]
 · simp at h
theorem rr_call {ρ : Operand → Value} {vs : Array Value} {args : Array Operand} (h : enterB P f = true) {cap : Array Value} (hx : ρ x = .func (.func f) #[] cap) (hv : args.map ρ = vs) : (execOp ρ ⟨D, .call ⟨.value x, args, ts⟩, ty, ps, af, gd⟩).run P w = .ok (.enter f (vs ++ cap)) w := by
 subst hv
 simp [execOp, resolve, Deferred.ofValue, invoke, hx, run_callFunc h]
theorem r_call0 (h : enterB P f = true)  : (execOp a.eval ⟨D, .call ⟨.value (.func f), #[], ts⟩, ty, ps, af, gd⟩).run P w = .ok (.enter f #[]) w := by
 skip
 rw [show (#[] : Array Value) = (#[] : Array Operand).map a.eval ++ #[] from by simp]
 exact rr_call (x := .func f) h rfl rfl
theorem r_call1 {x1 : Operand} {v1 : Value} (h : enterB P f = true) (h1 : a.eval x1 = v1) : (execOp a.eval ⟨D, .call ⟨.value (.func f), #[x1], ts⟩, ty, ps, af, gd⟩).run P w = .ok (.enter f #[v1]) w := by
 subst h1
 rw [show (#[a.eval x1] : Array Value) = (#[x1] : Array Operand).map a.eval ++ #[] from by simp]
 exact rr_call (x := .func f) h rfl rfl
end
/-! ### joins, loops, ends -/
theorem wp_loop_g {σ : Type} {c : Code} (I : σ → Act → World → Prop) (μ : σ → Nat) (s0 : σ) (h0 : I s0 a w)
    (round : ∀ s a w, I s a w → c.wp P (Exit.then (fun a' w' => ∃ s', I s' a' w' ∧ μ s' < μ s) Q) a w) : (Code.loop c).wp P Q a w := by
  intro b k cs
  have key : ∀ m s a w, μ s = m → I s a w →
      ∃ e a' w', Q e a' w' ∧ Arrives P (lone (b.at a (.code c :: .inLoop c :: k)) cs w) b k cs e a' w' := by
    intro m
    induction m using Nat.strongRecOn with
    | _ m ih =>
      intro s a w hm hI
      obtain ⟨e, a₁, w₁, hq, harr⟩ := round s a w hI b (.inLoop c :: k) cs
      cases e with
      | normal =>
        obtain ⟨s', hI₁, hlt⟩ := hq
        obtain ⟨e₂, a₂, w₂, hq₂, harr₂⟩ := ih (μ s') (hm ▸ hlt) s' a₁ w₁ rfl hI₁
        exact ⟨e₂, a₂, w₂, hq₂, .of_steps (Steps.trans harr (.one step_inLoop)) harr₂⟩
      | exit id => exact ⟨_, a₁, w₁, hq, .pass (x := .inLoop c) rfl (fun _ _ => .inl (by simp)) harr⟩
      | goto l => exact ⟨_, a₁, w₁, hq, .pass (x := .inLoop c) rfl (fun _ _ => .inl (by simp)) harr⟩
      | ret => exact ⟨_, a₁, w₁, hq, .pass (x := .inLoop c) rfl (fun _ _ => .inl (by simp)) harr⟩
      | panic ch => exact ⟨_, a₁, w₁, hq, .pass (x := .inLoop c) rfl (fun _ _ => .inl (by simp)) harr⟩
      | outgrown => exact ⟨_, a₁, w₁, hq, .pass (x := .inLoop c) rfl (fun _ _ => .inl (by simp)) harr⟩
  obtain ⟨e, a', w', hq, harr⟩ := key _ s0 a w rfl h0
  exact ⟨e, a', w', hq, .of_steps (.one step_loop) harr⟩
theorem ret1 {fn : Func} {t : Nat} {R : Value → World → Prop} (hres : fn.results = #[.tmp t]) (hF : Fr n L a) (ht : lk L t = some v) (hR : R v w) : bodyPost P fn (Ret R) .ret a w := by
 refine ⟨hF.defs, v, ?_, v, rfl, hR⟩
 rw [results_tmp hres]
 have := hF.get _ _ ht
 simp [Array.getD_eq_getD_getElem?, this]
theorem run_loadVar_agg {T : TypeId} {g : Nat} {cs : List Value} (ht : aggB P T = true) (hs : szB P T = some cs.length) (hc : ∀ j u, cs[j]? = some u → w.cell? ⟨g, j, none⟩ = some u) :
    (loadVar T ⟨g, 0, none⟩).run P w = .ok (.agg cs.toArray) w := by
  have h1 := run_isAgg_true (P := P) (w := w) ht
  have h2 := run_sizeOf (P := P) (w := w) hs
  have h3 := run_loadCellsFrom (P := P) (w := w) (g := g) (o := 0) cs 0 #[] (fun j u hu => by simpa using hc j u hu)
  simp at h3
  simp [loadVar, h1, h2, h3, go_sem, loadCells]
/-- the result lies in a box -/
theorem ret1c {fn : Func} {t T g i : Nat} {cs : List Value} {R : Value → World → Prop} (hres : fn.results = #[.cell t T]) (ht : aggB P T = true) (hF : Fr n L a) (hS : Sep w0 l w) (hi : l[i]? = some (Box g cs)) (hs : szB P T = some cs.length) (hl : lk L t = some (.pointer (some ⟨g, 0, none⟩))) (hR : R (.agg cs.toArray) w) : bodyPost P fn (Ret R) .ret a w := by
 refine ⟨hF.defs, .agg cs.toArray, ?_, _, rfl, hR⟩
 have h1 := hF.get _ _ hl
 have h2 := run_loadVar_agg (P := P) (w := w) (g := g) ht hs (fun j u hu => hS.box hi hu)
 simp [results, hres, Array.getD_eq_getD_getElem?, h1, asAddr, h2]
end
/-! ### regions that draw their order and change nothing that is there -/
section
variable {P : Program} {ops : Array Oper} {Q : Exit → Act → World → Prop} {a : Act} {w : World} {rest : List Oper} {o : Oper} {n d : Nat} {L : List (Nat × Value)} {v : Value} {Qa : Act → Prop}
theorem wp_region_calm {id : Nat} {l : List Oper} (hm : P.follows .mixedOrders = true) (hB : Region.lexB .any l.toArray = true)
    (h : wpQuiet P l.toArray (fun w' => Below w.heap.size w w') (fun a' => ∀ w', Below w.heap.size w w' → Q .normal a' w') l a) : (Code.region id l.toArray true).wp P Q a w :=
  wp_region_quiet (C := fun w' => Below w.heap.size w w') hm hB ((Below.refl _ _).drew) (by simpa using h)
theorem wq (hF : Fr n L a) (hg : o.guard = none) (hd : o.dst = some d) (hdn : Nat.ble (d + 1) n = true)
    (hr : ∀ w', Below w.heap.size w w' → (execOp a.eval o).run P w' = .ok (.value v) w') (k : ∀ a, Fr n ((d, v) :: L) a → wpQuiet P ops (fun w' => Below w.heap.size w w') Qa rest a) : wpQuiet P ops (fun w' => Below w.heap.size w w') Qa (o :: rest) a := by
  unfold wpQuiet
  rw [if_pos (by simp [Region.wanted, hg])]
  refine ⟨v, fun w' hw' => ?_, ?_⟩
  · unfold Oper.quietAt
    rw [hr w' hw']
    exact ⟨rfl, rfl⟩
  · rw [hd]; exact k _ (hF.put hdn v)
theorem wq_call {f : FuncId} {args : Array Value} (hF : Fr n L a) (hg : o.guard = none) (hd : o.dst = some d) (hdn : Nat.ble (d + 1) n = true)
    (hr : ∀ w', Below w.heap.size w w' → (execOp a.eval o).run P w' = .ok (.enter f args) w') (hc : ∀ w', Below w.heap.size w w' → Calls P f args w' (Ret fun u w'' => u = v ∧ Below w'.heap.size w' w''))
    (k : ∀ a, Fr n ((d, v) :: L) a → wpQuiet P ops (fun w' => Below w.heap.size w w') Qa rest a) : wpQuiet P ops (fun w' => Below w.heap.size w w') Qa (o :: rest) a := by
  unfold wpQuiet
  rw [if_pos (by simp [Region.wanted, hg])]
  refine ⟨v, fun w' hw' => ?_, ?_⟩
  · unfold Oper.quietAt
    rw [hr w' hw']
    refine ⟨rfl, (hc w' hw').mono ?_⟩
    rintro e w'' ⟨u, rfl, rfl, hb⟩
    exact ⟨rfl, hw'.trans (hb.mono hw'.size)⟩
  · rw [hd]; exact k _ (hF.put hdn v)
end
theorem w64 (q : Int) : IntKind.i64.wrap q = (q + 9223372036854775808) % 18446744073709551616 - 9223372036854775808 := by
 simp [IntKind.wrap, IntKind.bits, IntKind.signed, IntKind.min]
 try omega
theorem w64_id {q : Int} (h0 : -9223372036854775808 ≤ q) (h1 : q ≤ 9223372036854775807) : IntKind.i64.wrap q = q := by
 rw [w64]; omega
abbrev vi (n : Int) : Value := .int .i64 n
structure Config where
  threads : Int
  keys : Int
  capacity : Int
  batch : Int
  policy : Int
  clockMax : Int
structure Op where
  kind : Int
  key : Int
  value : Int
structure Entry where
  handle : Int
  key : Int
  low : Int
  high : Int
structure Result where
  code : Int
  value : Int
structure Event where
  thread : Int
  op : Op
  result : Result
  start : Int
  fin : Int
instance : DecidableEq Config := fun a b => decidable_of_iff (a.threads = b.threads ∧ a.keys = b.keys ∧ a.capacity = b.capacity ∧ a.batch = b.batch ∧ a.policy = b.policy ∧ a.clockMax = b.clockMax) (by cases a; cases b; simp)
instance : DecidableEq Op := fun a b => decidable_of_iff (a.kind = b.kind ∧ a.key = b.key ∧ a.value = b.value) (by cases a; cases b; simp)
instance : DecidableEq Entry := fun a b => decidable_of_iff (a.handle = b.handle ∧ a.key = b.key ∧ a.low = b.low ∧ a.high = b.high) (by cases a; cases b; simp)
instance : DecidableEq Result := fun a b => decidable_of_iff (a.code = b.code ∧ a.value = b.value) (by cases a; cases b; simp)
instance : DecidableEq Event := fun a b => decidable_of_iff (a.thread = b.thread ∧ a.op = b.op ∧ a.result = b.result ∧ a.start = b.start ∧ a.fin = b.fin) (by cases a; cases b; simp)
def Config.enc (c : Config) : List Value := [vi c.threads, vi c.keys, vi c.capacity, vi c.batch, vi c.policy, vi c.clockMax]
def Op.enc (o : Op) : List Value := [vi o.kind, vi o.key, vi o.value]
def Entry.enc (e : Entry) : List Value := [vi e.handle, vi e.key, vi e.low, vi e.high]
def Result.enc (r : Result) : List Value := [vi r.code, vi r.value]
def Event.enc (e : Event) : List Value := [vi e.thread, vi e.op.kind, vi e.op.key, vi e.op.value, vi e.result.code, vi e.result.value, vi e.start, vi e.fin]
instance : Inhabited Config := ⟨⟨0, 0, 0, 0, 0, 0⟩⟩
instance : Inhabited Op := ⟨⟨0, 0, 0⟩⟩
instance : Inhabited Entry := ⟨⟨0, 0, 0, 0⟩⟩
instance : Inhabited Result := ⟨⟨0, 0⟩⟩
instance : Inhabited Event := ⟨⟨0, ⟨0, 0, 0⟩, ⟨0, 0⟩, 0, 0⟩⟩
/-- what IsConfig asks -/
def Config.ok (c : Config) : Prop := 1 ≤ c.threads ∧ c.threads ≤ 4 ∧ 1 ≤ c.keys ∧ c.keys ≤ 4 ∧ 1 ≤ c.capacity ∧ c.capacity ≤ 24 ∧ 1 ≤ c.batch ∧ c.batch ≤ 4 ∧ 0 ≤ c.policy ∧ c.policy ≤ 2 ∧ 1 ≤ c.clockMax ∧ c.clockMax ≤ 99
instance (c : Config) : Decidable c.ok := by unfold Config.ok; infer_instance
abbrev intEK : EK Int := flatEK 1 (fun n => [vi n]) (fun _ => rfl) (fun x u hu => by simp at hu; subst hu; rfl)
abbrev boolEK : EK Bool := flatEK 1 (fun b => [.bool b]) (fun _ => rfl) (fun x u hu => by simp at hu; subst hu; rfl)
abbrev opEK : EK Op := flatEK 3 Op.enc (fun _ => rfl) (fun x u hu => by simp [Op.enc] at hu; rcases hu with h | h | h <;> subst h <;> rfl)
abbrev entryEK : EK Entry := flatEK 4 Entry.enc (fun _ => rfl) (fun x u hu => by simp [Entry.enc] at hu; rcases hu with h | h | h | h <;> subst h <;> rfl)
abbrev eventEK : EK Event := flatEK 8 Event.enc (fun _ => rfl) (fun x u hu => by simp [Event.enc] at hu; rcases hu with h | h | h | h | h | h | h | h <;> subst h <;> rfl)
abbrev stringEK : EK ByteArray := flatEK 1 (fun s => [.string s]) (fun _ => rfl) (fun x u hu => by simp at hu; subst hu; rfl)
/-- slices as elements -/
def sliceEK {α : Type} (ek : EK α) : EK (List α) where
  sz := 1
  cells := fun _ vs => [sv (vs.getD 0 (none, 0, 0))]
  inner := fun x vs => [Own ek (sv (vs.getD 0 (none, 0, 0))) x]
  K := fun w x cs => ∃ v, cs = [v] ∧ ek.Rd w v x
  len := fun _ _ => rfl
  one := fun x vs u hu => by simp at hu; subst hu; rfl
  rd := fun {x vs S w} h => ⟨_, rfl, own_rd (h.get (i := 0) rfl)⟩
  ext := fun hb ⟨v, h1, h2⟩ => ⟨v, h1, h2.mov hb⟩
  klen := fun ⟨v, h1, _⟩ => by rw [h1]; rfl
structure Thread where
  pc : Int
  op : Op
  result : Result
  snapshot : Int
  node : Int
  prev : Int
  curr : Int
  next : Int
  seen : Int
  stamp : Int
  at_ : Int
  found : List Int
  free : List Int
  buffer : List Entry
  work : List Entry
  limbo : List Int
def Thread.encv (t : Thread) (v1 v2 v3 v4 v5 : Value) : List Value :=
  [vi t.pc, vi t.op.kind, vi t.op.key, vi t.op.value, vi t.result.code, vi t.result.value, vi t.snapshot, vi t.node, vi t.prev, vi t.curr, vi t.next, vi t.seen, vi t.stamp, vi t.at_, v1, v2, v3, v4, v5]
@[reducible] def Thread.K (w : World) (t : Thread) (cs : List Value) : Prop :=
  ∃ v1 v2 v3 v4 v5, cs = t.encv v1 v2 v3 v4 v5 ∧ intEK.Rd w v1 t.found ∧ intEK.Rd w v2 t.free ∧ entryEK.Rd w v3 t.buffer ∧ entryEK.Rd w v4 t.work ∧ intEK.Rd w v5 t.limbo
def threadEK : EK Thread where
  sz := 19
  cells := fun t vs => t.encv (sv (vs.getD 0 (none, 0, 0))) (sv (vs.getD 1 (none, 0, 0))) (sv (vs.getD 2 (none, 0, 0))) (sv (vs.getD 3 (none, 0, 0))) (sv (vs.getD 4 (none, 0, 0)))
  inner := fun t vs => [Own intEK (sv (vs.getD 0 (none, 0, 0))) t.found, Own intEK (sv (vs.getD 1 (none, 0, 0))) t.free, Own entryEK (sv (vs.getD 2 (none, 0, 0))) t.buffer, Own entryEK (sv (vs.getD 3 (none, 0, 0))) t.work, Own intEK (sv (vs.getD 4 (none, 0, 0))) t.limbo]
  K := Thread.K
  len := fun _ _ => rfl
  one := fun x vs u hu => by
    simp only [Thread.encv, List.mem_cons, List.not_mem_nil, or_false] at hu
    rcases hu with h | h | h | h | h | h | h | h | h | h | h | h | h | h | h | h | h | h | h <;> subst h <;> rfl
  rd := fun {x vs S w} h => ⟨_, _, _, _, _, rfl, own_rd (h.get (i := 0) rfl), own_rd (h.get (i := 1) rfl), own_rd (h.get (i := 2) rfl), own_rd (h.get (i := 3) rfl), own_rd (h.get (i := 4) rfl)⟩
  ext := fun hb ⟨v1, v2, v3, v4, v5, h, h1, h2, h3, h4, h5⟩ => ⟨v1, v2, v3, v4, v5, h, h1.mov hb, h2.mov hb, h3.mov hb, h4.mov hb, h5.mov hb⟩
  klen := fun ⟨v1, v2, v3, v4, v5, h, _⟩ => by rw [h]; rfl
instance : DecidableEq Thread := fun a b => decidable_of_iff (a.pc = b.pc ∧ a.op = b.op ∧ a.result = b.result ∧ a.snapshot = b.snapshot ∧ a.node = b.node ∧ a.prev = b.prev ∧ a.curr = b.curr ∧ a.next = b.next ∧ a.seen = b.seen ∧ a.stamp = b.stamp ∧ a.at_ = b.at_ ∧ a.found = b.found ∧ a.free = b.free ∧ a.buffer = b.buffer ∧ a.work = b.work ∧ a.limbo = b.limbo) (by cases a; cases b; simp)
instance : Inhabited Thread := ⟨⟨0, ⟨0, 0, 0⟩, ⟨0, 0⟩, 0, 0, 0, 0, 0, 0, 0, 0, [], [], [], [], []⟩⟩
structure Model where
  values : List Int
  snapshots : List (List Int)
def Model.encv (m : Model) (v1 v2 : Value) : List Value := [v1, v2]
@[reducible] def Model.K (w : World) (m : Model) (cs : List Value) : Prop := ∃ v1 v2, cs = m.encv v1 v2 ∧ intEK.Rd w v1 m.values ∧ (sliceEK intEK).Rd w v2 m.snapshots
def modelEK : EK Model where
  sz := 2
  cells := fun m vs => m.encv (sv (vs.getD 0 (none, 0, 0))) (sv (vs.getD 1 (none, 0, 0)))
  inner := fun m vs => [Own intEK (sv (vs.getD 0 (none, 0, 0))) m.values, Own (sliceEK intEK) (sv (vs.getD 1 (none, 0, 0))) m.snapshots]
  K := Model.K
  len := fun _ _ => rfl
  one := fun x vs u hu => by
    simp only [Model.encv, List.mem_cons, List.not_mem_nil, or_false] at hu
    rcases hu with h | h <;> subst h <;> rfl
  rd := fun {x vs S w} h => ⟨_, _, rfl, own_rd (h.get (i := 0) rfl), own_rd (h.get (i := 1) rfl)⟩
  ext := fun hb ⟨v1, v2, h, h1, h2⟩ => ⟨v1, v2, h, h1.mov hb, h2.mov hb⟩
  klen := fun ⟨v1, v2, h, _⟩ => by rw [h]; rfl
instance : DecidableEq Model := fun a b => decidable_of_iff (a.values = b.values ∧ a.snapshots = b.snapshots) (by cases a; cases b; simp)
structure State where
  config : Config
  cells : List Int
  generations : List Int
  threads : List Thread
  steps : Int
  changes : Int
  retries : Int
  faults : Int
def State.encv (s : State) (v0 v1 v2 : Value) : List Value := [vi s.config.threads, vi s.config.keys, vi s.config.capacity, vi s.config.batch, vi s.config.policy, vi s.config.clockMax, v0, v1, v2, vi s.steps, vi s.changes, vi s.retries, vi s.faults]
@[reducible] def State.K (w : World) (s : State) (cs : List Value) : Prop := ∃ v0 v1 v2, cs = s.encv v0 v1 v2 ∧ intEK.Rd w v0 s.cells ∧ intEK.Rd w v1 s.generations ∧ threadEK.Rd w v2 s.threads
def stateEK : EK State where
  sz := 13
  cells := fun s vs => s.encv (sv (vs.getD 0 (none, 0, 0))) (sv (vs.getD 1 (none, 0, 0))) (sv (vs.getD 2 (none, 0, 0)))
  inner := fun s vs => [Own intEK (sv (vs.getD 0 (none, 0, 0))) s.cells, Own intEK (sv (vs.getD 1 (none, 0, 0))) s.generations, Own threadEK (sv (vs.getD 2 (none, 0, 0))) s.threads]
  K := State.K
  len := fun _ _ => rfl
  one := fun x vs u hu => by
    simp only [State.encv, List.mem_cons, List.not_mem_nil, or_false] at hu
    rcases hu with h | h | h | h | h | h | h | h | h | h | h | h | h <;> subst h <;> rfl
  rd := fun {x vs S w} h => ⟨_, _, _, rfl, own_rd (h.get (i := 0) rfl), own_rd (h.get (i := 1) rfl), own_rd (h.get (i := 2) rfl)⟩
  ext := fun hb ⟨v0, v1, v2, h, h1, h2, h3⟩ => ⟨v0, v1, v2, h, h1.mov hb, h2.mov hb, h3.mov hb⟩
  klen := fun ⟨v0, v1, v2, h, _⟩ => by rw [h]; rfl
instance : DecidableEq State := fun a b => decidable_of_iff (a.config = b.config ∧ a.cells = b.cells ∧ a.generations = b.generations ∧ a.threads = b.threads ∧ a.steps = b.steps ∧ a.changes = b.changes ∧ a.retries = b.retries ∧ a.faults = b.faults) (by cases a; cases b; simp)
structure Machine where
  state : State
  programs : List (List Op)
  next : List Int
  events : List Event
  time : Int
def Machine.encv (m : Machine) (v0 v1 v2 v3 v4 v5 : Value) : List Value := [vi m.state.config.threads, vi m.state.config.keys, vi m.state.config.capacity, vi m.state.config.batch, vi m.state.config.policy, vi m.state.config.clockMax, v0, v1, v2, vi m.state.steps, vi m.state.changes, vi m.state.retries, vi m.state.faults, v3, v4, v5, vi m.time]
@[reducible] def Machine.K (w : World) (m : Machine) (cs : List Value) : Prop := ∃ v0 v1 v2 v3 v4 v5, cs = m.encv v0 v1 v2 v3 v4 v5 ∧ intEK.Rd w v0 m.state.cells ∧ intEK.Rd w v1 m.state.generations ∧ threadEK.Rd w v2 m.state.threads ∧ (sliceEK opEK).Rd w v3 m.programs ∧ intEK.Rd w v4 m.next ∧ eventEK.Rd w v5 m.events
def machineEK : EK Machine where
  sz := 17
  cells := fun m vs => m.encv (sv (vs.getD 0 (none, 0, 0))) (sv (vs.getD 1 (none, 0, 0))) (sv (vs.getD 2 (none, 0, 0))) (sv (vs.getD 3 (none, 0, 0))) (sv (vs.getD 4 (none, 0, 0))) (sv (vs.getD 5 (none, 0, 0)))
  inner := fun m vs => [Own intEK (sv (vs.getD 0 (none, 0, 0))) m.state.cells, Own intEK (sv (vs.getD 1 (none, 0, 0))) m.state.generations, Own threadEK (sv (vs.getD 2 (none, 0, 0))) m.state.threads, Own (sliceEK opEK) (sv (vs.getD 3 (none, 0, 0))) m.programs, Own intEK (sv (vs.getD 4 (none, 0, 0))) m.next, Own eventEK (sv (vs.getD 5 (none, 0, 0))) m.events]
  K := Machine.K
  len := fun _ _ => rfl
  one := fun x vs u hu => by
    simp only [Machine.encv, List.mem_cons, List.not_mem_nil, or_false] at hu
    rcases hu with h | h | h | h | h | h | h | h | h | h | h | h | h | h | h | h | h <;> subst h <;> rfl
  rd := fun {x vs S w} h => ⟨_, _, _, _, _, _, rfl, own_rd (h.get (i := 0) rfl), own_rd (h.get (i := 1) rfl), own_rd (h.get (i := 2) rfl), own_rd (h.get (i := 3) rfl), own_rd (h.get (i := 4) rfl), own_rd (h.get (i := 5) rfl)⟩
  ext := fun hb ⟨v0, v1, v2, v3, v4, v5, h, h1, h2, h3, h4, h5, h6⟩ => ⟨v0, v1, v2, v3, v4, v5, h, h1.mov hb, h2.mov hb, h3.mov hb, h4.mov hb, h5.mov hb, h6.mov hb⟩
  klen := fun ⟨v0, v1, v2, v3, v4, v5, h, _⟩ => by rw [h]; rfl
instance : DecidableEq Machine := fun a b => decidable_of_iff (a.state = b.state ∧ a.programs = b.programs ∧ a.next = b.next ∧ a.events = b.events ∧ a.time = b.time) (by cases a; cases b; simp)
section
variable {P : Program} {ops : Array Oper} {Q : Exit → Act → World → Prop} {a : Act} {w w0 : World} {rest : List Oper} {n d : Nat} {L : List (Nat × Value)} {l : List Res} {v u : Value}
variable {ty : TypeId} {ps : String} {af : Array Edge}
/-- a whole struct is stored into a box -/
theorem Sep.box_row {i g o : Nat} {cs vs : List Value} (h : Sep w0 l w) (hi : l[i]? = some (Box g cs)) (hl : o + vs.length ≤ cs.length) (h1 : ∀ u ∈ vs, u.oneCell' = true) :
    ∃ w', (storeCells ⟨g, o, none⟩ vs).run P w = .ok () w' ∧ Sep w0 (l.set i (Box g (cs.take o ++ vs ++ cs.drop (o + vs.length)))) w' := by
  obtain ⟨_, T, hT⟩ := h.sat.get hi
  have hst := run_storeCells_at P g o T vs 0 cs.toArray w hT (by simpa using hl) h1
  simp only [Nat.add_zero] at hst
  refine ⟨_, hst, h.upd hi rfl rfl rfl (by simp [World.setRow]) (fun F hF hs => ?_)⟩
  obtain ⟨hg, T, hT⟩ := hF
  refine ⟨⟨.inl hg, T, by simp [World.setRow, Array.getElem?_modify, hT]⟩, fun k hk hn => ?_⟩
  simp only [World.setRow, Array.getElem?_modify]
  rw [if_neg (fun e => hn (by rw [← e]; exact hg))]
theorem r_storen {ρ : Operand → Value} {D : Option Tmp} {gd : Option (Nat × Bool)} {T : TypeId} {x y : Operand} {g q : Nat} {vs : List Value} {w' : World} (hsz : szB P T = some vs.length) (hp : ρ x = .pointer (some ⟨g, q, none⟩)) (hy : ρ y = .agg vs.toArray) (hr : (storeCells ⟨g, q, none⟩ vs).run P w = .ok () w') :
    (execOp ρ ⟨D, .store T x y, ty, ps, af, gd⟩).run P w = .ok .skip w' := by
  have hs := run_sizeOf (P := P) (w := w) hsz
  have hst : (storeVar T ⟨g, q, none⟩ (.agg vs.toArray)).run P w = .ok () w' := by
    simp [storeVar, Value.cells, hs, hr]
  simp [execOp, hp, hy, Instr.storeAt, Instr.sureAddr, hst]
theorem wl_storen {T : TypeId} {x y : Operand} {i g q : Nat} {cs vs cs' : List Value} (hF : Fr n L a) (hS : Sep w0 l w) (hi : l[i]? = some (Box g cs)) (hp : a.eval x = .pointer (some ⟨g, q, none⟩)) (hy : a.eval y = .agg vs.toArray) (hsz : szB P T = some vs.length)
    (hl : longB (cs.drop q) vs = true ∧ ((cs.drop q)[0]?).isSome = true) (h1 : vs.all (fun u => u.oneCell') = true) (he : cs.take q ++ vs ++ cs.drop (q + vs.length) = cs') (k : ∀ w', Sep w0 (l.set i (Box g cs')) w' → wpList P ops Q rest a w') : wpList P ops Q (⟨none, .store T x y, ty, ps, af, none⟩ :: rest) a w := by
  subst he
  obtain ⟨w', hr, hS'⟩ := hS.box_row (P := P) hi (long_fits hl.1 hl.2) (fun u hu => List.all_eq_true.1 h1 u hu)
  exact wl0 (w' := w') hF rfl rfl (r_storen hsz hp hy hr) (k _ hS')
end
/-- a slice type: its element's zero cells, cells, bytes -/
def mkB (P : Program) (t : TypeId) : Option (List Value × Nat × Nat) :=
  match P.underlying t with
  | some (.slice e) => (P.info? e).bind fun i => i.zero.map fun z => (z.cells.toList, i.size, i.bytes)
  | _ => none
theorem mkB_parts {P : Program} {t : TypeId} {zs : List Value} {sz b : Nat} (h : mkB P t = some (zs, sz, b)) : ∃ e i z, P.underlying t = some (.slice e) ∧ P.info? e = some i ∧ i.zero = some z ∧ z.cells.toList = zs ∧ i.size = sz ∧ i.bytes = b := by
 unfold mkB at h
 split at h
 · rename_i e he
   obtain ⟨i, hi, h⟩ := Option.bind_eq_some_iff.1 h
   obtain ⟨z, hz, h⟩ := Option.map_eq_some_iff.1 h
   simp only [Prod.mk.injEq] at h
   exact ⟨e, i, z, he, hi, hz, h.1, h.2.1, h.2.2⟩
 · simp at h
section
variable {P : Program} {ops : Array Oper} {Q : Exit → Act → World → Prop} {a : Act} {w w0 : World} {rest : List Oper} {n d : Nat} {L : List (Nat × Value)} {l : List Res} {v u : Value}
variable {ty : TypeId} {ps : String} {af : Array Edge}
theorem heap_setRow_at {g : Nat} {cur cs : Array Value} {T : TypeId} {fz : Nat × Nat} (h : w.heap[g]? = some (.cells cur T fz)) : (w.setRow g cs).heap[g]? = some (.cells cs T fz) := by
 simp [World.setRow, Array.getElem?_modify, h]
theorem r_append {ρ : Operand → Value} {D : Option Tmp} {gd : Option (Nat × Bool)} {T T' : TypeId} {X Y : Operand} {u v r : Value} {w' : World} (hX : ρ X = v) (hY : ρ Y = u) (hr : (Builtin.append_ #[T, T'] ty #[v, u]).run P w = .ok r w') :
    (execOp ρ ⟨D, .call ⟨.builtin .append, #[X, Y], #[T, T']⟩, ty, ps, af, gd⟩).run P w = .ok (.value r) w' := by
  simp [execOp, resolve, invoke, builtin, hX, hY, hr]
/-- what a flat row's elements are, one behind the other -/
def flatC {α : Type} (enc : α → List Value) (xs : List α) : List Value := xs.flatMap enc
theorem flatC_len {α : Type} {enc : α → List Value} {sz : Nat} (hl : ∀ x, (enc x).length = sz) : ∀ xs : List α, (flatC enc xs).length = xs.length * sz
  | [] => by simp [flatC]
  | x :: xs => by
    have := flatC_len hl xs
    simp only [flatC, List.flatMap_cons, List.length_append, List.length_cons, hl] at *
    rw [this, Nat.add_mul]; omega
theorem flatC_at {α : Type} {enc : α → List Value} {sz : Nat} (hl : ∀ x, (enc x).length = sz) : ∀ (xs : List α) (i : Nat) (x : α) (j : Nat) (u : Value), xs[i]? = some x → (enc x)[j]? = some u → (flatC enc xs)[i * sz + j]? = some u
  | [], i, x, j, u, h, _ => by simp at h
  | y :: xs, i, x, j, u, h, hu => by
    have hj : j < sz := by
      have := (List.getElem?_eq_some_iff.1 hu).1
      rwa [hl] at this
    cases i with
    | zero =>
      simp only [List.getElem?_cons_zero, Option.some.injEq] at h
      subst h
      simp only [flatC, List.flatMap_cons, Nat.zero_mul, Nat.zero_add]
      rw [List.getElem?_append_left (by rw [hl]; exact hj)]
      exact hu
    | succ i =>
      simp only [List.getElem?_cons_succ] at h
      have := flatC_at hl xs i x j u h hu
      simp only [flatC, List.flatMap_cons] at *
      rw [List.getElem?_append_right (by rw [hl, Nat.add_mul]; omega), hl, show (i + 1) * sz + j - sz = i * sz + j by rw [Nat.add_mul]; omega]
      exact this
theorem flatC_inv {α : Type} {enc : α → List Value} {sz : Nat} (hl : ∀ x, (enc x).length = sz) : ∀ (xs : List α) (p : Nat) (u : Value), (flatC enc xs)[p]? = some u → ∃ i x j, xs[i]? = some x ∧ (enc x)[j]? = some u ∧ p = i * sz + j
  | [], p, u, h => by simp [flatC] at h
  | y :: xs, p, u, h => by
    simp only [flatC, List.flatMap_cons] at h
    by_cases hp : p < (enc y).length
    · rw [List.getElem?_append_left hp] at h
      exact ⟨0, y, p, rfl, h, by simp⟩
    · rw [List.getElem?_append_right (by omega)] at h
      obtain ⟨i, x, j, h1, h2, h3⟩ := flatC_inv hl xs _ u h
      rw [hl] at h3 hp
      exact ⟨i + 1, x, j, by simpa using h1, h2, by rw [Nat.add_mul]; omega⟩
/-- the cells of a flat row that is read -/
theorem Rd.cells {α : Type} {sz : Nat} {enc : α → List Value} {hl : ∀ x, (enc x).length = sz} {h1 : ∀ x u, u ∈ enc x → u.oneCell' = true} {w : World} {v : Value} {xs : List α} (h : (flatEK sz enc hl h1).Rd w v xs) :
    ∃ A c, v = .slice A xs.length c ∧ xs.length ≤ c ∧ ∀ g o, A = some ⟨g, o, none⟩ → ∀ p u, (flatC enc xs)[p]? = some u → w.cell? ⟨g, o + p, none⟩ = some u := by
  obtain ⟨A, m, c, rfl, rfl, h3, _, h4⟩ := h
  refine ⟨A, c, rfl, h3, fun g o hA p u hp => ?_⟩
  obtain ⟨i, x, j, hx, hu, rfl⟩ := flatC_inv hl xs p u hp
  obtain ⟨g', o', hA', cs, hk, _, hc⟩ := h4 i x hx
  rw [hA] at hA'
  simp only [Option.some.injEq, Addr.mk.injEq] at hA'
  obtain ⟨rfl, rfl, _⟩ := hA'
  obtain rfl : cs = enc x := hk
  rw [← Nat.add_assoc]
  exact hc j u hu
/-- append's outcome, whatever the two slices -/
theorem run_append_any {α : Type} {sz b : Nat} {enc : α → List Value} {hl : ∀ x, (enc x).length = sz} {h1 : ∀ x u, u ∈ enc x → u.oneCell' = true} {T e : TypeId} {i : TypeInfo} {z : Value} (he : P.underlying T = some (.slice e)) (hi : P.info? e = some i) (hz : i.zero = some z)
    (hzl : z.cells.size = sz) (hsz : i.size = sz) (hby : i.bytes = b) {S : Nat → Prop} {xs ys : List α} (hv : (Own (flatEK sz enc hl h1) v xs).P S w) (hu : (flatEK sz enc hl h1).Rd w u ys)
    (hys : 0 < ys.length → ∃ g o m c, u = .slice (some ⟨g, o, none⟩) m c) (hb : (xs.length + ys.length) * b ≤ 140737488355328) (hn : xs.length + ys.length ≤ maxLen) :
    ∃ A c w', (Builtin.append_ #[T, T] ty #[v, u]).run P w = .ok (.slice A (xs.length + ys.length) c) w' ∧ w'.os = w.os ∧ w'.tape = w.tape ∧ w'.output = w.output ∧ w.heap.size ≤ w'.heap.size ∧
      (Own (flatEK sz enc hl h1) (.slice A (xs.length + ys.length) c) (xs ++ ys)).P (fun k => S k ∨ (w.heap.size ≤ k ∧ k < w'.heap.size)) w' ∧ (∀ k, k < w.heap.size → ¬ S k → w'.heap[k]? = w.heap[k]?) := by
  obtain ⟨B, c2, rfl, hc2, hcu⟩ := Rd.cells hu
  have hv0 := hv
  obtain ⟨A, m, c, rfl, rfl, hcm, hrow⟩ := hv
  rcases Nat.eq_zero_or_pos ys.length with h0 | hpos
  · -- nothing is appended
    have hnil : ys = [] := List.eq_nil_of_length_eq_zero h0
    subst hnil
    have hxc : xs.length ≤ c := by
      rcases hrow with ⟨rfl, rfl⟩ | ⟨_, _, _, _, _, _, _, _, hr, _⟩
      · simp
      · exact hr.fits
    refine ⟨A, c, w, ?_, rfl, rfl, rfl, Nat.le_refl _, ?_, fun _ _ _ => rfl⟩
    · cases A <;> cases B <;> simp [Builtin.append_, run_underlying he, sizeOf, typeInfo, hi, Builtin.lenOf, hxc, Builtin.firstCells, loadCells, loadCellsFrom, storeCells, go_sem]
    · simp only [List.length_nil, Nat.add_zero, List.append_nil]
      exact Res.mono _ (fun k hk => .inl hk) hv0
  · obtain ⟨b2, o2, m2, c2', hB⟩ := hys hpos
    simp only [Value.slice.injEq] at hB
    obtain ⟨rfl, _, _⟩ := hB
    have hnews : ∀ j x, (flatC enc ys)[j]? = some x → w.cell? ((⟨b2, o2, none⟩ : Addr).add j) = some x := fun j x hx => by rw [Addr.add_lit]; exact hcu _ _ rfl j x hx
    have hnl : (flatC enc ys).length = ys.length * i.size := by rw [flatC_len hl, hsz]
    have hone : ∀ x ∈ flatC enc ys, x.oneCell' = true := fun x hx => by
      simp only [flatC, List.mem_flatMap] at hx
      obtain ⟨y, _, hy⟩ := hx
      exact h1 y x hy
    by_cases hroom : xs.length + ys.length ≤ c
    · -- there is room
      rcases hrow with ⟨rfl, rfl⟩ | ⟨g, o, cur, T', vs, rfl, hS, hg, hr, f, f1, f2, f3⟩
      · have : ys.length ≤ 0 := by simpa using hroom
        omega
      · have hfit : o + xs.length * sz + (flatC enc ys).length ≤ cur.size := by
          rw [flatC_len hl]
          have hr1 := hr.room
          have : (xs.length + ys.length) * sz ≤ c * sz := Nat.mul_le_mul_right _ hroom
          rw [Nat.add_mul] at this
          simp only [flatEK] at hr1
          omega
        have hf := run_firstCells_some (P := P) w i.size ys.length ⟨b2, o2, none⟩ ys.length c2 _ hnl hnews
        have hst := run_storeCells_at P g (o + xs.length * sz) T' (flatC enc ys) 0 cur w hg (by simpa using hfit) hone
        simp only [Nat.add_zero] at hst
        refine ⟨some ⟨g, o, none⟩, c, w.setRow g (cur.toList.take (o + xs.length * sz) ++ flatC enc ys ++ cur.toList.drop (o + xs.length * sz + (flatC enc ys).length)).toArray, ?_, rfl, rfl, rfl, by simp [World.setRow], ?_, ?_⟩
        · subst hsz
          simp [Builtin.append_, run_underlying he, sizeOf, typeInfo, hi, Builtin.lenOf, hroom, hf, Addr.add_lit, hst]
        · refine ⟨some ⟨g, o, none⟩, xs.length + ys.length, c, rfl, by simp, hcm, .inr ⟨g, o, _, T', vs, rfl, .inl hS, heap_setRow_at hg, ⟨?_, by simpa using hroom, ?_⟩, f, fun i x hx => Sat.nil _ _, fun i k hf => ⟨.inl (f2 i k hf).1, (f2 i k hf).2⟩, f3⟩⟩
          · have := hr.room
            simp only [flatEK] at this ⊢
            simp
            omega
          · intro i' x hx j u' hu'
            simp only [flatEK] at hu' ⊢
            have hj : j < sz := by
              have := (List.getElem?_eq_some_iff.1 hu').1
              rwa [hl] at this
            by_cases hi' : i' < xs.length
            · rw [List.getElem?_append_left hi'] at hx
              have h2 := hr.at_ i' x hx j u' hu'
              simp only [flatEK] at h2
              have h3 : i' * sz + j < xs.length * sz := by
                calc i' * sz + j < i' * sz + sz := by omega
                  _ = (i' + 1) * sz := by rw [Nat.add_mul, Nat.one_mul]
                  _ ≤ xs.length * sz := Nat.mul_le_mul_right _ hi'
              simp only [List.getElem?_toArray]
              rw [List.append_assoc, List.getElem?_append_left (by simp; omega), List.getElem?_take, if_pos (by omega)]
              simpa using h2
            · rw [List.getElem?_append_right (by omega)] at hx
              have h2 := flatC_at hl ys _ x j u' hx hu'
              have h4 : i' * sz = xs.length * sz + (i' - xs.length) * sz := by rw [← Nat.add_mul]; congr 1; omega
              have h5 := (List.getElem?_eq_some_iff.1 h2).1
              simp only [List.getElem?_toArray]
              have hle : o + xs.length * sz ≤ cur.size := by omega
              rw [List.append_assoc, List.getElem?_append_right (by simp; omega), List.getElem?_append_left (by simp; omega)]
              simp only [List.length_take, Array.length_toList, Nat.min_eq_left hle]
              rw [show o + i' * sz + j - (o + xs.length * sz) = (i' - xs.length) * sz + j by omega]
              exact h2
        · intro k hk hn
          simp only [World.setRow, Array.getElem?_modify]
          rw [if_neg (fun e => hn (by rw [← e]; exact hS))]
    · -- a new row
      have hgrow : ∃ cp, xs.length + ys.length ≤ cp ∧ cp ≤ maxLen ∧ (Builtin.append_ #[T, T] ty #[.slice A xs.length c, .slice (some ⟨b2, o2, none⟩) ys.length c2]).run P w =
          .ok (.slice (some ⟨w.heap.size, 0, none⟩) (xs.length + ys.length) cp) (w.drew.alloc (.cells ((flatC enc xs).toArray ++ (flatC enc ys).toArray ++ Builtin.zeroCells z.cells (cp - (xs.length + ys.length))) e)) := by
        have hle : xs.length + ys.length ≤ grownCap w (xs.length + ys.length) c e := by simp [grownCap, Question.cut]
        have h63 : ((xs.length + ys.length : Nat) : Int) ≤ 9223372036854775807 := by simp only [maxLen] at hn; omega
        refine ⟨grownCap w (xs.length + ys.length) c e, hle, grownCap_le_maxLen _ _ _ _ hn, ?_⟩
        rcases hrow with ⟨rfl, rfl⟩ | ⟨g, o, cur, T', vs, rfl, hS, hg, hr, f, f1, f2, f3⟩
        · cases A with
          | none =>
            have := run_append_nil (P := P) w T ty e i z he hi hz ⟨b2, o2, none⟩ ys.length c2 _ hnl hnews hpos (by simp at h63; omega) (by rw [hby]; simp at hb; omega)
            simpa [flatC] using this
          | some ad => exact run_append_grow (P := P) w T ty e i z he hi hz ad 0 0 (flatC enc []) (by simp [flatC]) (fun j x hx => by simp [flatC] at hx) ⟨b2, o2, none⟩ ys.length c2 _ hnl hnews (by omega) h63 (by rw [hby]; exact growslice_fits (by omega) hb)
        · have holds : ∀ j x, (flatC enc xs)[j]? = some x → w.cell? ((⟨g, o, none⟩ : Addr).add j) = some x := fun j x hx => by
            obtain ⟨i', x', j', hx', hu', rfl⟩ := flatC_inv hl xs j x hx
            rw [Addr.add_lit, cell_of hg, ← Nat.add_assoc]
            exact hr.at_ i' x' hx' j' x hu'
          exact run_append_grow (P := P) w T ty e i z he hi hz ⟨g, o, none⟩ xs.length c (flatC enc xs) (by rw [flatC_len hl, hsz]) holds ⟨b2, o2, none⟩ ys.length c2 _ hnl hnews (by omega) h63 (by rw [hby]; exact growslice_fits (by omega) hb)
      obtain ⟨cp, hcp1, hcp2, hrun⟩ := hgrow
      refine ⟨_, _, _, hrun, rfl, rfl, rfl, by simp, ?_, fun k hk _ => Below.heap_alloc w.drew _ k hk⟩
      refine ⟨_, _, cp, rfl, by simp, hcp2, .inr ⟨w.heap.size, 0, _, e, fun _ => [], rfl, .inr ⟨Nat.le_refl _, by simp⟩, heap_alloc_new _ _, ⟨?_, by simpa using hcp1, ?_⟩, fun _ _ => False, fun _ _ _ => Sat.nil _ _, by simp, by simp⟩⟩
      · simp only [flatEK, Nat.zero_add, Array.size_append, List.size_toArray, flatC_len hl, size_zeroCells, hzl]
        rw [← Nat.add_mul, ← Nat.add_mul]
        exact Nat.mul_le_mul_right _ (by omega)
      · intro i' x hx j u' hu'
        simp only [flatEK] at hu' ⊢
        have hx' : (flatC enc (xs ++ ys))[i' * sz + j]? = some u' := flatC_at hl _ _ _ _ _ hx hu'
        have hlt := (List.getElem?_eq_some_iff.1 hx').1
        have happ : flatC enc (xs ++ ys) = flatC enc xs ++ flatC enc ys := by simp [flatC]
        rw [happ] at hx' hlt
        rw [Nat.zero_add, Array.getElem?_append_left (by simpa using hlt)]
        simpa using hx'
theorem wl_append {α : Type} {sz b q : Nat} {enc : α → List Value} {hl : ∀ x, (enc x).length = sz} {h1 : ∀ x u, u ∈ enc x → u.oneCell' = true} {T : TypeId} {X Y : Operand} {zs : List Value} {xs ys : List α} (hF : Fr n L a) (hS : Sep w0 l w) (hdn : Nat.ble (d + 1) n = true)
    (hq : l[q]? = some (Own (flatEK sz enc hl h1) v xs)) (hu : (flatEK sz enc hl h1).Rd w u ys) (hm : mkB P T = some (zs, sz, b)) (hzl : zs.length = sz) (hX : a.eval X = v) (hY : a.eval Y = u)
    (hb : (xs.length + ys.length) * b ≤ 140737488355328) (hn : xs.length + ys.length ≤ maxLen)
    (k : ∀ A c w' a, Sep w0 (l.set q (Own (flatEK sz enc hl h1) (.slice A (xs.length + ys.length) c) (xs ++ ys))) w' → Fr n ((d, .slice A (xs.length + ys.length) c) :: L) a → wpList P ops Q rest a w') :
    wpList P ops Q (⟨some d, .call ⟨.builtin .append, #[X, Y], #[T, T]⟩, ty, ps, af, none⟩ :: rest) a w := by
  obtain ⟨e, i, z, he, hi, hz, hzs, hsz, hby⟩ := mkB_parts hm
  obtain ⟨f, g1, g2, g3⟩ := hS.sat
  have hys : 0 < ys.length → ∃ g o m c, u = .slice (some ⟨g, o, none⟩) m c := fun hp => by
    obtain ⟨g, o, m, c, hv, _⟩ := Rd.idxF hu (i := 0) (List.getElem?_eq_getElem hp)
    exact ⟨g, o, m, c, hv⟩
  obtain ⟨A, c, w', hrun, e1, e2, e3, e4, hown, hk⟩ := run_append_any (P := P) (ty := ty) he hi hz (by rw [← hzl, ← hzs]; simp) hsz hby (g1 q _ hq) hu hys hb hn
  refine wl (w' := w') (v := .slice A (xs.length + ys.length) c) hF rfl rfl hdn (r_append hX hY hrun) (fun a hF => k _ _ _ _ ?_ hF)
  refine ⟨?_, ?_⟩
  · refine hS.old.trans ⟨e1, e2, e3, e4, fun k hk' => hk k (Nat.lt_of_lt_of_le hk' hS.old.size) (fun hf => ?_)⟩
    have := (g2 q k hf).1
    omega
  · refine Sat.mono (Sat.upd' ⟨f, g1, g2, g3⟩ (N := fun k => w.heap.size ≤ k ∧ k < w'.heap.size) hq (fun k h1 h2 => by omega) hown (fun k hk1 hk2 => hk k hk1.2 hk2) g1 g2 g3) (fun k hk => ?_)
    rcases hk with hk | hk
    · exact ⟨hk.1, Nat.lt_of_lt_of_le hk.2 e4⟩
    · exact ⟨Nat.le_trans hS.old.size hk.1, hk.2⟩
end
/-- a maker's contract: the value and the parts that it has made -/
def Mk {Γ : Type} (w : World) (val : Γ → Value) (l1 : Γ → List Res) : Value → World → Prop := fun v w' => ∃ γ, v = val γ ∧ Sep w (l1 γ) w'
/-! ### any order, the condition S asked for as long as no operation of 'muts' has come up -/
def phB (muts : List Nat) (listed : Array Bool) : Bool := muts.all fun m => !listed.getD m false
section
variable {P : Program} {ops : Array Oper} {Q : Exit → Act → World → Prop} {S : World → Prop} {muts : List Nat}
def wpM (P : Program) (ops : Array Oper) (Q : Exit → Act → World → Prop) (S : World → Prop) (muts : List Nat) : Nat → Array Bool → Act → World → Prop
  | 0, listed, a, w => Region.ready .any ops listed = [] ∧ Q .normal a w
  | fuel + 1, listed, a, w =>
    (Region.ready .any ops listed = [] → Q .normal a w) ∧
    ∀ i ∈ Region.ready .any ops listed, wpOp P ops Q i (fun a' w' => (phB muts (listed.setIfInBounds i true) = true → S w') ∧ wpM P ops Q S muts fuel (listed.setIfInBounds i true) a' w') a w
theorem wpAny_of_M : ∀ (fuel : Nat) (listed : Array Bool) (a : Act) (w : World), wpM P ops Q S muts fuel listed a w → wpAny P .any ops Q fuel listed a w
  | 0, _, _, _, h => h
  | fuel + 1, _, _, _, h => ⟨h.1, fun i hi => wpOp_mono (fun a' w' h' => wpAny_of_M fuel _ a' w' h'.2) (h.2 i hi)⟩
theorem phB_set {i : Nat} {listed : Array Bool} (hi : i ∉ muts) : phB muts (listed.setIfInBounds i true) = phB muts listed := by
 unfold phB
 rw [Bool.eq_iff_iff, List.all_eq_true, List.all_eq_true]
 refine forall_congr' fun m => forall_congr' fun hm => ?_
 rw [getD_set_ne false (fun e : i = m => hi (e ▸ hm))]
end
/-- several parts as one -/
def Many (l : List Res) : Res where
  P := fun S w => Sat l S w
  loc := fun h hk => hk.loc h
  mono := fun h hs => hs.mono h
theorem Sat.uncons {l : List Res} {r : Res} {S : Nat → Prop} {w : World} (h : Sat (r :: l) S w) : ∃ S0 S1 : Nat → Prop, r.P S0 w ∧ Sat l S1 w ∧ (∀ k, S0 k → S k) ∧ (∀ k, S1 k → S k) ∧ (∀ k, S0 k → S1 k → False) := by
 obtain ⟨f, h1, h2, h3⟩ := h
 refine ⟨f 0, fun k => ∃ i, f (i + 1) k, h1 0 r rfl, ⟨fun i => f (i + 1), fun i q hq => h1 (i + 1) q (by simpa using hq), fun i k hf => ⟨i, hf⟩, fun i j k hi hj => ?_⟩, h2 0, fun k ⟨i, hf⟩ => h2 _ k hf, fun k h0 ⟨i, hf⟩ => ?_⟩
 · have := h3 _ _ k hi hj; omega
 · have := h3 _ _ k h0 hf; omega
theorem Sep.many_nil {W w : World} {l : List Res} (h : Sep W l w) : Sep W (Many [] :: l) w :=
  ⟨h.old, Sat.cons (S1 := fun _ => False) h.sat (Sat.nil _ _) (fun k hk => hk.elim) (fun k hk => hk) (fun k hk _ => hk)⟩
/-- a part goes in with the many -/
theorem Sep.many_cons {W w : World} {l L : List Res} {r : Res} (h : Sep W (r :: Many L :: l) w) : Sep W (Many (r :: L) :: l) w := by
 obtain ⟨S0, S1, a1, a2, a3, a4, a5⟩ := h.sat.uncons
 obtain ⟨S2, S3, b1, b2, b3, b4, b5⟩ := a2.uncons
 refine ⟨h.old, Sat.cons (S := S3) (S1 := fun k => S0 k ∨ S2 k) b2 ?_ (fun k hk => hk.elim (a3 k) (fun h => a4 k (b3 k h))) (fun k hk => a4 k (b4 k hk)) (fun k h1 h2 => h1.elim (fun h => a5 k h (b4 k h2)) (fun h => b5 k h h2))⟩
 exact Sat.cons (S := S2) b1 a1 (fun k hk => .inl hk) (fun k hk => .inr hk) (fun k h1 h2 => a5 k h1 (b3 k h2))
/-- new parts go in behind the first -/
theorem Sep.behind {W w : World} {A B : List Res} {r : Res} (h : Sep W (A ++ r :: B) w) : Sep W (r :: (A ++ B)) w := by
 refine h.sub (fun i => match i with | 0 => A.length | i + 1 => if i < A.length then i else i + 1) ?_ ?_
 · intro i j _ _ e
   rcases i with _ | i <;> rcases j with _ | j <;> simp only [] at e
   · rfl
   · split at e <;> omega
   · split at e <;> omega
   · split at e <;> split at e <;> omega
 · intro i q hq
   rcases i with _ | i
   · simp at hq; subst hq; simp
   · simp only [List.getElem?_cons_succ] at hq
     simp only []
     split
     · rename_i hi; rw [List.getElem?_append_left hi] at hq ⊢; exact hq
     · rename_i hi
       rw [List.getElem?_append_right (by omega)] at hq ⊢
       rw [show i + 1 - A.length = (i - A.length) + 1 by omega]
       simpa using hq
/-- the allocations: number, slot, cells -/
abbrev Alcs := List (Nat × Nat × List Value)
/-- where a walk through a region stands: the allocations that have come up have their boxes; all blocks that stood at the start are as they were -/
structure At (T : Alcs) (wd W : World) (l : List Res) (rem : List Nat) (a : Act) (w : World) : Prop where
  s : Below wd.heap.size wd w
  box : ∃ gs : List (Nat × Nat × List Value), Sep W (Many (gs.map fun x => Box x.2.1 x.2.2) :: l) w ∧
    (∀ t ∈ T, t.1 ∉ rem → ∃ g, (t.1, g, t.2.2) ∈ gs ∧ a.tmps[t.2.1]? = some (.pointer (some ⟨g, 0, none⟩)))
theorem At.sep {T : Alcs} {wd W w : World} {l : List Res} {rem : List Nat} {a : Act} (h : At T wd W l rem a w) : Sep W l w := by
 obtain ⟨gs, h1, _⟩ := h.box
 exact h1.tail
/-- what is asked at the end: the region ends normally -/
def QN (Q : Exit → Act → World → Prop) : Exit → Act → World → Prop := fun e a w => e = .normal ∧ Q .normal a w
/-- what is still to come: the operations 'is' in this order, the allocations 'rem' at any time -/
def Todo (P : Program) (ops : Array Oper) (Q : Exit → Act → World → Prop) (wd : World) (muts rem is : List Nat) (a : Act) (w : World) : Prop :=
  ∀ listed : Array Bool, listed.size = ops.size → (∀ j, j < ops.size → listed.getD j false = (!is.contains j && !rem.contains j)) → wpM P ops (QN Q) (fun w => Below wd.heap.size wd w) muts (is.length + rem.length) listed a w
/-! ### what is asked of the region's edges -/
def waitsB (ops : Array Oper) (j : Nat) (on : Nat → Bool) : Bool :=
  match ops[j]? with
  | some o => o.after.any fun e => Region.binds .any e && on e.on
  | none => true
def depsB (ops : Array Oper) (j : Nat) (ok : Nat → Bool) : Bool :=
  match ops[j]? with
  | some o => o.after.all fun e => !Region.binds .any e || ok e.on
  | none => false
/-- the allocations are what the list says -/
def AlcOk (P : Program) (ops : Array Oper) : Alcs → Prop
  | [] => True
  | t :: T => (∃ ty ty' ps, ops[t.1]? = some ⟨some t.2.1, .alloc ty, ty', ps, #[], none⟩ ∧ zeroOf P ty = some t.2.2) ∧ AlcOk P ops T
theorem AlcOk.get {P : Program} {ops : Array Oper} : ∀ {T : Alcs}, AlcOk P ops T → ∀ t ∈ T, ∃ ty ty' ps, ops[t.1]? = some ⟨some t.2.1, .alloc ty, ty', ps, #[], none⟩ ∧ zeroOf P ty = some t.2.2
  | [], _, t, h => by cases h
  | u :: T, ⟨h1, h2⟩, t, h => by
    rcases List.mem_cons.1 h with rfl | h
    · exact h1
    · exact h2.get t h
/-- an operation that must come up next, but for allocations -/
def stepB (ops : Array Oper) (T : Alcs) (i : Nat) (is : List Nat) : Bool :=
  decide (i < ops.size) && !is.contains i && T.all (fun t => t.1 != i && !is.contains t.1) && is.all (fun j => waitsB ops j (fun k => k == i || is.contains k)) && depsB ops i (fun k => decide (k < ops.size) && k != i && !is.contains k)
/-- the end: one behind the other -/
def tailB (ops : Array Oper) : List Nat → Bool
  | [] => true
  | i :: is => decide (i < ops.size) && !is.contains i && is.all (fun j => waitsB ops j (fun k => k == i || is.contains k)) && depsB ops i (fun k => decide (k < ops.size) && k != i && !is.contains k) && tailB ops is
def finB (ops : Array Oper) (T : Alcs) (is : List Nat) : Bool :=
  is.all (fun j => T.all (fun t => waitsB ops j (fun k => k == t.1))) && T.all (fun t => !is.contains t.1) && tailB ops is
theorem waitsB_no {ops : Array Oper} {j : Nat} {on : Nat → Bool} {listed : Array Bool} (h : waitsB ops j on = true) (hon : ∀ k, on k = true → listed.getD k false = false) : j ∉ Region.ready .any ops listed := by
 intro hr
 obtain ⟨_, o, ho, hall⟩ := mem_ready.1 hr
 unfold waitsB at h
 rw [ho] at h
 obtain ⟨e, he, h2⟩ := Array.any_eq_true'.1 h
 simp only [Bool.and_eq_true] at h2
 have := hall e he h2.1
 rw [hon _ h2.2] at this
 cases this
theorem depsB_yes {ops : Array Oper} {j : Nat} {ok : Nat → Bool} {listed : Array Bool} (h : depsB ops j ok = true) (h0 : listed.getD j true = false) (hok : ∀ k, ok k = true → listed.getD k false = true) : j ∈ Region.ready .any ops listed := by
 unfold depsB at h
 split at h
 · rename_i o ho
   refine mem_ready.2 ⟨h0, o, ho, fun e he hb => ?_⟩
   have := Array.all_eq_true_iff_forall_mem.1 h e he
   simp only [hb, Bool.not_true, Bool.false_or] at this
   exact hok _ this
 · cases h
theorem getD_tf {listed : Array Bool} {j : Nat} (h : j < listed.size) : listed.getD j true = listed.getD j false := by simp [Array.getD, h]
section
variable {P : Program} {ops : Array Oper} {Q : Exit → Act → World → Prop} {wd W : World} {T : Alcs} {muts : List Nat} {n : Nat} {L : List (Nat × Value)} {l : List Res}
theorem listed_set {listed : Array Bool} {i : Nat} {is rem : List Nat} (hi : i < ops.size) (hsz : listed.size = ops.size) (hn : is.contains i = false) (hr : rem.contains i = false)
    (hl : ∀ j, j < ops.size → listed.getD j false = (!(i :: is).contains j && !rem.contains j)) : ∀ j, j < ops.size → (listed.setIfInBounds i true).getD j false = (!is.contains j && !rem.contains j) := by
  intro j hj
  by_cases e : i = j
  · subst e
    rw [hn, hr]
    simp [Array.getD, hsz, hj]
  · rw [getD_set_ne false e, hl j hj]
    have e' : ¬ j = i := fun h => e h.symm
    simp [List.contains_cons, e']
theorem listed_erase {listed : Array Bool} {r : Nat} {is rem : List Nat} (hi : r < ops.size) (hsz : listed.size = ops.size) (hn : is.contains r = false) (hnd : rem.Nodup)
    (hl : ∀ j, j < ops.size → listed.getD j false = (!is.contains j && !rem.contains j)) : ∀ j, j < ops.size → (listed.setIfInBounds r true).getD j false = (!is.contains j && !(rem.erase r).contains j) := by
  intro j hj
  by_cases e : r = j
  · subst e
    rw [hn]
    have : (rem.erase r).contains r = false := by
      simp [hnd.mem_erase_iff]
    rw [this]
    simp [Array.getD, hsz, hj]
  · rw [getD_set_ne false e, hl j hj]
    have : (rem.erase r).contains j = rem.contains j := by
      rw [Bool.eq_iff_iff]
      simp only [List.contains_iff_mem, hnd.mem_erase_iff]
      exact ⟨fun h => h.2, fun h => ⟨fun x => e x.symm, h⟩⟩
    rw [this]
theorem inj_of_nodup {α : Type} {f : α → Nat} : ∀ {T : List α}, (T.map f).Nodup → ∀ t ∈ T, ∀ u ∈ T, f u = f t → u = t
  | [], _, t, h, _, _, _ => by cases h
  | x :: T, h, t, ht, u, hu, e => by
    simp only [List.map_cons, List.nodup_cons, List.mem_map] at h
    rcases List.mem_cons.1 ht with rfl | ht' <;> rcases List.mem_cons.1 hu with rfl | hu'
    · rfl
    · exact (h.1 ⟨u, hu', e⟩).elim
    · exact (h.1 ⟨t, ht', e.symm⟩).elim
    · exact inj_of_nodup h.2 t ht' u hu' e
/-- one allocation comes up -/
theorem At.alloc {rem : List Nat} {a : Act} {w : World} {t : Nat × Nat × List Value} {ty : TypeId} (h : At T wd W l rem a w) (ht : t ∈ T) (h1 : (T.map (·.1)).Nodup) (h2 : (T.map (·.2.1)).Nodup) (hsz : t.2.1 < a.tmps.size) (hnd : rem.Nodup) :
    At T wd W l (rem.erase t.1) (a.put (some t.2.1) (.pointer (some ⟨w.heap.size, 0, none⟩))) (w.alloc (.cells t.2.2.toArray ty)) := by
  obtain ⟨gs, g1, g2⟩ := h.box
  refine ⟨h.s.alloc h.s.size _, (t.1, w.heap.size, t.2.2) :: gs, (g1.box_new t.2.2 ty).many_cons, fun u hu hr => ?_⟩
  by_cases e : u = t
  · subst e
    exact ⟨w.heap.size, by simp, by simp [Act.put, hsz]⟩
  · have hs : u.2.1 ≠ t.2.1 := fun x => e (inj_of_nodup h2 t ht u hu x)
    have hi : u.1 ≠ t.1 := fun x => e (inj_of_nodup h1 t ht u hu x)
    obtain ⟨g, m1, m2⟩ := g2 u hu (fun hm => hr ((hnd.mem_erase_iff).2 ⟨hi, hm⟩))
    exact ⟨g, List.mem_cons_of_mem _ m1, by simp [Act.put, Array.getElem?_setIfInBounds_ne (fun x => hs x.symm), m2]⟩
/-- a slot that is none of the allocations' -/
theorem At.put {rem : List Nat} {a : Act} {w : World} {d : Nat} {v : Value} (h : At T wd W l rem a w) (hd : ∀ t ∈ T, t.2.1 ≠ d) : At T wd W l rem (a.put (some d) v) w := by
 obtain ⟨gs, g1, g2⟩ := h.box
 refine ⟨h.s, gs, g1, fun u hu hr => ?_⟩
 obtain ⟨g, m1, m2⟩ := g2 u hu hr
 exact ⟨g, m1, by simp [Act.put, Array.getElem?_setIfInBounds_ne (fun x => hd u hu x.symm), m2]⟩
/-- new parts -/
theorem At.made {rem : List Nat} {a : Act} {w w' : World} {l1 : List Res} (h : At T wd W l rem a w) (hm : Sep w l1 w') : At T wd W (l1 ++ l) rem a w' := by
 obtain ⟨gs, g1, g2⟩ := h.box
 exact ⟨h.s.trans (hm.old.mono h.s.size), gs, (g1.add hm).behind, g2⟩
structure Lay (P : Program) (ops : Array Oper) (T : Alcs) (n : Nat) : Prop where
  ok : AlcOk P ops T
  d1 : (T.map (·.1)).Nodup
  d2 : (T.map (·.2.1)).Nodup
  lt : ∀ t ∈ T, t.2.1 < n
structure Rem (T : Alcs) (rem : List Nat) : Prop where
  nd : rem.Nodup
  sub : ∀ r ∈ rem, ∃ t ∈ T, t.1 = r
theorem Fr.putO {a : Act} {d : Nat} (h : Fr n L a) (hl : lk L d = none) (v : Value) : Fr n L (a.put (some d) v) := by
 refine ⟨by simp [Act.put, h.size], h.defs, fun t u ht => ?_⟩
 by_cases e : d = t
 · subst e; rw [hl] at ht; cases ht
 · simp [Act.put, Array.getElem?_setIfInBounds_ne e, h.get t u ht]
theorem wpOp_alloc {t : Nat × Nat × List Value} {a : Act} {w : World} {K : Act → World → Prop} {Q : Exit → Act → World → Prop} {ty ty' : TypeId} {ps : String} (ho : ops[t.1]? = some ⟨some t.2.1, .alloc ty, ty', ps, #[], none⟩) (hz : zeroOf P ty = some t.2.2)
    (k : K (a.put (some t.2.1) (.pointer (some ⟨w.heap.size, 0, none⟩))) (w.alloc (.cells t.2.2.toArray ty))) : wpOp P ops Q t.1 K a w := by
  unfold wpOp
  rw [ho]
  simp only [Region.wanted, if_true]
  left
  unfold Oper.wp
  rw [r_alloc hz]
  exact k
/-- the next in order, but for allocations, which may come up ahead of it -/
theorem todo_step {i : Nat} {is : List Nat} (hl : Lay P ops T n) (hL : ∀ t ∈ T, lk L t.2.1 = none) (hk : stepB ops T i is = true)
    (hop : ∀ rem a w, Rem T rem → Fr n L a → At T wd W l rem a w → wpOp P ops (QN Q) i (fun a' w' => Below wd.heap.size wd w' ∧ Todo P ops Q wd muts rem is a' w') a w) :
    ∀ rem a w, Rem T rem → Fr n L a → At T wd W l rem a w → Todo P ops Q wd muts rem (i :: is) a w := by
  simp only [stepB, Bool.and_eq_true, decide_eq_true_eq, Bool.not_eq_true', List.all_eq_true, bne_iff_ne] at hk
  obtain ⟨⟨⟨⟨k1, k2⟩, k3⟩, k4⟩, k5⟩ := hk
  have hwait : ∀ (rem : List Nat) (listed : Array Bool) (j : Nat), listed.size = ops.size → (∀ j, j < ops.size → listed.getD j false = (!(i :: is).contains j && !rem.contains j)) → j ∈ is → j ∉ Region.ready .any ops listed := by
    intro rem listed j hsz hls hm
    refine waitsB_no (k4 j hm) (fun k hk => ?_)
    rcases Nat.lt_or_ge k ops.size with hlt | hge
    · rw [hls k hlt]
      have : (i :: is).contains k = true := by simpa [List.contains_cons] using hk
      rw [this]; rfl
    · simp [Array.getD, hsz, Nat.not_lt.2 hge]
  have hi_rem : ∀ rem : List Nat, Rem T rem → rem.contains i = false := by
    intro rem hR
    rw [Bool.eq_false_iff]
    intro h
    obtain ⟨t, ht, e⟩ := hR.sub i (by simpa using h)
    exact (k3 t ht).1 e
  have key : ∀ m rem a w, rem.length = m → Rem T rem → Fr n L a → At T wd W l rem a w → Todo P ops Q wd muts rem (i :: is) a w := by
    intro m
    induction m with
    | zero =>
      intro rem a w hm hR hF hA listed hsz hls
      obtain rfl := List.eq_nil_of_length_eq_zero hm
      have hmem : ∀ j ∈ Region.ready .any ops listed, j = i := fun j hj => by
        have h0 := (mem_ready.1 hj).1
        obtain ⟨o, ho, _⟩ := (mem_ready.1 hj).2
        have hlt := (Array.getElem?_eq_some_iff.1 ho).1
        rw [getD_tf (by omega), hls j hlt] at h0
        by_cases e : j = i
        · exact e
        · have hm : j ∈ is := by
            simp [List.contains_cons, e] at h0; exact h0
          exact (hwait [] listed j hsz hls hm hj).elim
      have hrdy : i ∈ Region.ready .any ops listed := by
        refine depsB_yes k5 ?_ (fun k hk => ?_)
        · rw [getD_tf (by omega), hls i k1]; simp
        · simp only [Bool.and_eq_true, decide_eq_true_eq, bne_iff_ne, Bool.not_eq_true'] at hk
          rw [hls k hk.1.1]
          have : (i :: is).contains k = false := by rw [List.contains_cons, hk.2]; simp [hk.1.2]
          rw [this]; rfl
      refine ⟨fun h => (by rw [h] at hrdy; cases hrdy), fun j hj => ?_⟩
      obtain rfl := hmem j hj
      refine wpOp_mono (fun a' w' h => ⟨fun _ => h.1, ?_⟩) (hop [] a w hR hF hA)
      have := h.2 (listed.setIfInBounds j true) (by simp [hsz]) (listed_set k1 hsz k2 (by simp) hls)
      exact this
    | succ m ih =>
      intro rem a w hm hR hF hA listed hsz hls
      have halc : ∀ t ∈ T, t.1 ∈ rem → t.1 ∈ Region.ready .any ops listed := fun t ht hr => by
        obtain ⟨ty, ty', ps, ho, hz⟩ := hl.ok.get t ht
        have hlt := (Array.getElem?_eq_some_iff.1 ho).1
        refine mem_ready.2 ⟨?_, _, ho, fun e he => by simp at he⟩
        rw [getD_tf (by omega), hls _ hlt]
        have : rem.contains t.1 = true := by simpa using hr
        rw [this]; simp
      have hfu : (i :: is).length + rem.length = (is.length + rem.length) + 1 := by simp; omega
      rw [hfu]
      refine ⟨fun h => ?_, fun j hj => ?_⟩
      · match rem, hm, hR, halc with
        | r :: rem, hm, hR, halc =>
          obtain ⟨t, ht, e⟩ := hR.sub r (by simp)
          have := halc t ht (by rw [e]; simp)
          rw [h] at this; cases this
      · have h0 := (mem_ready.1 hj).1
        obtain ⟨o, ho, _⟩ := (mem_ready.1 hj).2
        have hlt := (Array.getElem?_eq_some_iff.1 ho).1
        rw [getD_tf (by omega), hls j hlt] at h0
        by_cases e : j = i
        · subst e
          refine wpOp_mono (fun a' w' h => ⟨fun _ => h.1, ?_⟩) (hop rem a w hR hF hA)
          exact h.2 (listed.setIfInBounds j true) (by simp [hsz]) (listed_set k1 hsz k2 (hi_rem rem hR) hls)
        · by_cases hm' : j ∈ is
          · exact (hwait rem listed j hsz hls hm' hj).elim
          · have hr : j ∈ rem := by
              simp [List.contains_cons, e, hm'] at h0; exact h0
            obtain ⟨t, ht, rfl⟩ := hR.sub j hr
            obtain ⟨ty, ty', ps, ho', hz⟩ := hl.ok.get t ht
            refine wpOp_alloc ho' hz ⟨fun _ => hA.s.alloc hA.s.size _, ?_⟩
            have hR' : Rem T (rem.erase t.1) := ⟨hR.nd.erase _, fun r hr => hR.sub r (List.mem_of_mem_erase hr)⟩
            have hlen : (rem.erase t.1).length = m := by rw [List.length_erase_of_mem hr, hm]; rfl
            have hA' := hA.alloc (ty := ty) ht hl.d1 hl.d2 (by rw [hF.size]; exact hl.lt t ht) hR.nd
            have hF' := hF.putO (hL t ht) (.pointer (some ⟨w.heap.size, 0, none⟩))
            have := ih (rem.erase t.1) _ _ hlen hR' hF' hA' (listed.setIfInBounds t.1 true) (by simp [hsz]) (listed_erase hlt hsz (by simp [List.contains_cons, e, hm']) hR.nd hls)
            have hfu' : (i :: is).length + (rem.erase t.1).length = is.length + rem.length := by rw [hlen, hm]; simp; omega
            rw [hfu'] at this
            exact this
  exact fun rem a w hR hF hA => key _ rem a w rfl hR hF hA
theorem wpOp_of {i : Nat} {o : Oper} {K : Act → World → Prop} {Q : Exit → Act → World → Prop} {a : Act} {w : World} (ho : ops[i]? = some o) (hg : o.guard = none) (h : o.wp P a w K Q) : wpOp P ops Q i K a w := by
 unfold wpOp
 rw [ho]
 simp only [Region.wanted, hg, if_true]
 exact .inl h
theorem todo_mk {Γ : Type} {i : Nat} {is : List Nat} {o : Oper} {d : Nat} {f : FuncId} {args : Array Value} {val : Γ → Value} {l1 : Γ → List Res} (hl : Lay P ops T n) (hL : T.all (fun t => (lk L t.2.1).isNone) = true) (hk : stepB ops T i is = true) (ho : ops[i]? = some o) (hg : o.guard = none) (hd : o.dst = some d) (hdn : Nat.ble (d + 1) n = true) (hT : T.all (fun t => t.2.1 != d) = true)
    (hr : ∀ a w, Fr n L a → (execOp a.eval o).run P w = .ok (.enter f args) w) (hc : ∀ w, Sep W l w → Calls P f args w (Ret (Mk w val l1)))
    (k : ∀ γ rem a w, Rem T rem → Fr n ((d, val γ) :: L) a → At T wd W (l1 γ ++ l) rem a w → Todo P ops Q wd muts rem is a w) :
    ∀ rem a w, Rem T rem → Fr n L a → At T wd W l rem a w → Todo P ops Q wd muts rem (i :: is) a w := by
  refine todo_step hl (fun t ht => by simpa using List.all_eq_true.1 hL t ht) hk (fun rem a w hR hF hA => wpOp_of ho hg ?_)
  unfold Oper.wp
  rw [hr a w hF, Oper.upon_enter]
  refine (hc w hA.sep).mono ?_
  rintro e w1 ⟨v, rfl, γ, rfl, hS⟩
  show _ ∧ _
  rw [hd]
  exact ⟨hA.s.trans (hS.old.mono hA.s.size), k γ rem _ _ hR (hF.put hdn _) ((hA.made hS).put (fun t ht => by simpa using List.all_eq_true.1 hT t ht))⟩
theorem todo_rd {i : Nat} {is : List Nat} {o : Oper} {d : Nat} {f : FuncId} {args : Array Value} {v : Value} (hl : Lay P ops T n) (hL : T.all (fun t => (lk L t.2.1).isNone) = true) (hk : stepB ops T i is = true) (ho : ops[i]? = some o) (hg : o.guard = none) (hd : o.dst = some d) (hdn : Nat.ble (d + 1) n = true) (hT : T.all (fun t => t.2.1 != d) = true)
    (hr : ∀ a w, Fr n L a → (execOp a.eval o).run P w = .ok (.enter f args) w) (hc : ∀ w, Sep W l w → Calls P f args w (Ret fun u w' => u = v ∧ Below w.heap.size w w'))
    (k : ∀ rem a w, Rem T rem → Fr n ((d, v) :: L) a → At T wd W l rem a w → Todo P ops Q wd muts rem is a w) :
    ∀ rem a w, Rem T rem → Fr n L a → At T wd W l rem a w → Todo P ops Q wd muts rem (i :: is) a w :=
  todo_mk (Γ := Unit) (val := fun _ => v) (l1 := fun _ => []) hl hL hk ho hg hd hdn hT hr (fun w hS => (hc w hS).mono (by rintro e w1 ⟨u, rfl, rfl, hb⟩; exact ⟨_, rfl, (), rfl, hb, Sat.nil _ _⟩)) (fun _ => k)
/-- an operation that makes new memory by itself -/
theorem todo_op {Γ : Type} {i : Nat} {is : List Nat} {o : Oper} {d : Nat} {val : Γ → Value} {l1 : Γ → List Res} (hl : Lay P ops T n) (hL : T.all (fun t => (lk L t.2.1).isNone) = true) (hk : stepB ops T i is = true) (ho : ops[i]? = some o) (hg : o.guard = none) (hd : o.dst = some d) (hdn : Nat.ble (d + 1) n = true) (hT : T.all (fun t => t.2.1 != d) = true)
    (hr : ∀ a w, Fr n L a → Sep W l w → ∃ γ w', (execOp a.eval o).run P w = .ok (.value (val γ)) w' ∧ Sep w (l1 γ) w')
    (k : ∀ γ rem a w, Rem T rem → Fr n ((d, val γ) :: L) a → At T wd W (l1 γ ++ l) rem a w → Todo P ops Q wd muts rem is a w) :
    ∀ rem a w, Rem T rem → Fr n L a → At T wd W l rem a w → Todo P ops Q wd muts rem (i :: is) a w := by
  refine todo_step hl (fun t ht => by simpa using List.all_eq_true.1 hL t ht) hk (fun rem a w hR hF hA => wpOp_of ho hg ?_)
  obtain ⟨γ, w1, hrun, hS⟩ := hr a w hF hA.sep
  unfold Oper.wp
  rw [hrun, Oper.upon_value, hd]
  exact ⟨hA.s.trans (hS.old.mono hA.s.size), k γ rem _ _ hR (hF.put hdn _) ((hA.made hS).put (fun t ht => by simpa using List.all_eq_true.1 hT t ht))⟩
/-- the end, one behind the other -/
theorem wpM_seq : ∀ (ts : List Nat) (tl : List Oper) (listed : Array Bool) (a : Act) (w : World), tailB ops ts = true → (∀ m ∈ ts, m ∈ muts) → ts.map (fun i => ops[i]?) = tl.map some → listed.size = ops.size →
    (∀ j, j < ops.size → listed.getD j false = !ts.contains j) → wpList P ops (QN Q) tl a w → wpM P ops (QN Q) (fun w => Below wd.heap.size wd w) muts ts.length listed a w
  | [], tl, listed, a, w, _, _, hts, hsz, hls, h => by
    obtain rfl : tl = [] := by cases tl <;> simp_all
    refine ⟨?_, h⟩
    apply List.eq_nil_iff_forall_not_mem.2
    intro j hj
    obtain ⟨o, ho, _⟩ := (mem_ready.1 hj).2
    have hlt := (Array.getElem?_eq_some_iff.1 ho).1
    have h0 := (mem_ready.1 hj).1
    rw [getD_tf (by omega), hls j hlt] at h0
    simp at h0
  | i :: is, tl, listed, a, w, hB, hmu, hts, hsz, hls, h => by
    simp only [tailB, Bool.and_eq_true, decide_eq_true_eq, Bool.not_eq_true', List.all_eq_true] at hB
    obtain ⟨⟨⟨⟨k1, k2⟩, k4⟩, k5⟩, k6⟩ := hB
    match tl, hts with
    | [], hts => simp at hts
    | o :: tl, hts =>
      simp only [List.map_cons, List.cons.injEq] at hts
      have hrdy : i ∈ Region.ready .any ops listed := by
        refine depsB_yes k5 ?_ (fun k hk => ?_)
        · rw [getD_tf (by omega), hls i k1]; simp
        · simp only [Bool.and_eq_true, decide_eq_true_eq, bne_iff_ne, Bool.not_eq_true'] at hk
          rw [hls k hk.1.1]
          have : (i :: is).contains k = false := by rw [List.contains_cons, hk.2]; simp [hk.1.2]
          rw [this]; rfl
      refine ⟨fun h => (by rw [h] at hrdy; cases hrdy), fun j hj => ?_⟩
      have h0 := (mem_ready.1 hj).1
      obtain ⟨oj, hoj, _⟩ := (mem_ready.1 hj).2
      have hlt := (Array.getElem?_eq_some_iff.1 hoj).1
      rw [getD_tf (by omega), hls j hlt] at h0
      by_cases e : j = i
      · subst e
        have hl' : ∀ k, k < ops.size → (listed.setIfInBounds j true).getD k false = !is.contains k := fun k hk => by
          have := listed_set (rem := []) k1 hsz k2 (by simp) (fun k hk => by rw [hls k hk]; simp) k hk
          rw [this]; simp
        have hph : ¬ phB muts (listed.setIfInBounds j true) = true := by
          intro hp
          have := List.all_eq_true.1 hp j (hmu j (by simp))
          simp [Array.getD, hsz, k1] at this
        unfold wpOp
        rw [hts.1]
        simp only []
        unfold wpList at h
        split
        · rename_i hw
          rw [if_pos hw] at h
          exact h.imp (Oper.wp_mono (fun a w h => ⟨fun x => (hph x).elim, wpM_seq is tl _ a w k6 (fun m hm => hmu m (by simp [hm])) hts.2 (by simp [hsz]) hl' h⟩)) id
        · rename_i hw
          rw [if_neg hw] at h
          exact ⟨fun x => (hph x).elim, wpM_seq is tl _ _ w k6 (fun m hm => hmu m (by simp [hm])) hts.2 (by simp [hsz]) hl' h⟩
      · have hm : j ∈ is := by
          simp [List.contains_cons, e] at h0; exact h0
        refine (waitsB_no (k4 j hm) (fun k hk => ?_) hj).elim
        rcases Nat.lt_or_ge k ops.size with hlt | hge
        · rw [hls k hlt]
          have : (i :: is).contains k = true := by simpa [List.contains_cons] using hk
          rw [this]; rfl
        · simp [Array.getD, hsz, Nat.not_lt.2 hge]
theorem todo_fin {ts : List Nat} {tl : List Oper} (hl : Lay P ops T n) (hL : T.all (fun t => (lk L t.2.1).isNone) = true) (hk : finB ops T ts = true) (hts : ts.map (fun i => ops[i]?) = tl.map some)
    (k : ∀ a w, Fr n L a → At T wd W l [] a w → wpList P ops (QN Q) tl a w) :
    ∀ rem a w, Rem T rem → Fr n L a → At T wd W l rem a w → Todo P ops Q wd ts rem ts a w := by
  have hL' : ∀ t ∈ T, lk L t.2.1 = none := fun t ht => by simpa using List.all_eq_true.1 hL t ht
  simp only [finB, Bool.and_eq_true, List.all_eq_true, Bool.not_eq_true'] at hk
  obtain ⟨⟨k1, k2⟩, k3⟩ := hk
  have key : ∀ m rem a w, rem.length = m → Rem T rem → Fr n L a → At T wd W l rem a w → Todo P ops Q wd ts rem ts a w := by
    intro m
    induction m with
    | zero =>
      intro rem a w hm hR hF hA listed hsz hls
      obtain rfl := List.eq_nil_of_length_eq_zero hm
      exact wpM_seq ts tl listed a w k3 (fun m hm => hm) hts hsz (fun j hj => by rw [hls j hj]; simp) (k a w hF hA)
    | succ m ih =>
      intro rem a w hm hR hF hA listed hsz hls
      have halc : ∀ t ∈ T, t.1 ∈ rem → t.1 ∈ Region.ready .any ops listed := fun t ht hr => by
        obtain ⟨ty, ty', ps, ho, hz⟩ := hl.ok.get t ht
        have hlt := (Array.getElem?_eq_some_iff.1 ho).1
        refine mem_ready.2 ⟨?_, _, ho, fun e he => by simp at he⟩
        rw [getD_tf (by omega), hls _ hlt]
        have : rem.contains t.1 = true := by simpa using hr
        rw [this]; simp
      obtain ⟨r0, hr0⟩ : ∃ r, r ∈ rem := by
        cases rem with
        | nil => simp at hm
        | cons r rem => exact ⟨r, by simp⟩
      obtain ⟨t0, ht0, e0⟩ := hR.sub r0 hr0
      subst e0
      have hfu : ts.length + rem.length = (ts.length + m) + 1 := by omega
      rw [hfu]
      refine ⟨fun h => (by have := halc t0 ht0 hr0; rw [h] at this; cases this), fun j hj => ?_⟩
      have h0 := (mem_ready.1 hj).1
      obtain ⟨o, ho, _⟩ := (mem_ready.1 hj).2
      have hlt := (Array.getElem?_eq_some_iff.1 ho).1
      rw [getD_tf (by omega), hls j hlt] at h0
      by_cases hm' : j ∈ ts
      · refine (waitsB_no (k1 j hm' t0 ht0) (fun k hk => ?_) hj).elim
        obtain rfl : k = t0.1 := by simpa using hk
        obtain ⟨ty, ty', ps, ho', hz⟩ := hl.ok.get t0 ht0
        rw [hls _ (Array.getElem?_eq_some_iff.1 ho').1]
        have : rem.contains t0.1 = true := by simpa using hr0
        rw [this]; simp
      · have hr : j ∈ rem := by
          simp [hm'] at h0; exact h0
        obtain ⟨t, ht, rfl⟩ := hR.sub j hr
        obtain ⟨ty, ty', ps, ho', hz⟩ := hl.ok.get t ht
        refine wpOp_alloc ho' hz ⟨fun _ => hA.s.alloc hA.s.size _, ?_⟩
        have hR' : Rem T (rem.erase t.1) := ⟨hR.nd.erase _, fun r hr => hR.sub r (List.mem_of_mem_erase hr)⟩
        have hlen : (rem.erase t.1).length = m := by rw [List.length_erase_of_mem hr, hm]; rfl
        have hA' := hA.alloc (ty := ty) ht hl.d1 hl.d2 (by rw [hF.size]; exact hl.lt t ht) hR.nd
        have hF' := hF.putO (hL' t ht) (.pointer (some ⟨w.heap.size, 0, none⟩))
        have := ih (rem.erase t.1) _ _ hlen hR' hF' hA' (listed.setIfInBounds t.1 true) (by simp [hsz]) (listed_erase hlt hsz (k2 t ht) hR.nd hls)
        rw [hlen] at this
        exact this
  exact fun rem a w hR hF hA => key _ rem a w rfl hR hF hA
/-- the beginning -/
theorem wp_region_todo {id : Nat} {lo : List Oper} {is : List Nat} {a : Act} {w : World} (T : Alcs) (muts : List Nat) (hm : P.follows .mixedOrders = true) (hF : Fr n L a) (hS : Sep W l w) (hl : Lay P lo.toArray T n)
    (hc : ((List.range lo.length).all (fun j => is.contains j || (T.map (·.1)).contains j) && is.length + T.length == lo.length) = true)
    (k : Lay P lo.toArray T n → ∀ wd, Sep W l wd → ∀ rem a w, Rem T rem → Fr n L a → At T wd W l rem a w → Todo P lo.toArray Q wd muts rem is a w) : (Code.region id lo.toArray true).wp P Q a w := by
  have hw : (Code.region id lo.toArray true).wp P (QN Q) a w := by
    refine wp_region_any hm (wpAny_of_M (S := fun w' => Below { w with drawn := w.drawn + 1 }.heap.size { w with drawn := w.drawn + 1 } w') (muts := muts) _ _ _ _ ?_)
    simp only [Bool.and_eq_true, List.all_eq_true, List.mem_range, Bool.or_eq_true, beq_iff_eq] at hc
    have := k hl { w with drawn := w.drawn + 1 } hS.drawn (T.map (·.1)) a { w with drawn := w.drawn + 1 } ⟨hl.d1, fun r hr => by
        obtain ⟨t, ht, e⟩ := List.mem_map.1 hr
        exact ⟨t, ht, e⟩⟩ hF ⟨Below.refl _ _, [], hS.drawn.many_nil, fun t ht hr => (hr (List.mem_map.2 ⟨t, ht, rfl⟩)).elim⟩ (Array.replicate lo.toArray.size false) (by simp) (fun j hj => by
          have := hc.1 j (by simpa using hj)
          simp only [List.size_toArray] at hj
          rcases this with h | h
          · rw [h]; simp [Array.getD, hj]
          · rw [h]; simp [Array.getD, hj])
    rw [List.length_map, hc.2] at this
    simpa using this
  exact wp_mono hw (fun e a w ⟨h1, h2⟩ => by subst h1; exact h2)
end
section
variable {α : Type} {ek : EK α} {w0 w : World} {l : List Res} {i : Nat} {x : α} {vs : List Slv} {cs : List Value}
theorem Sep.k (h : Sep w0 l w) (hk : ek.K w0 x cs) : ek.K w x cs := ek.ext h.old hk
/-- other order, some dropped -/
theorem Sep.pick {l' : List Res} (h : Sep w0 l w) (σ : List Nat) (hn : σ.Nodup) (e : σ.map (fun i => l[i]?) = l'.map some) : Sep w0 l' w := by
 have hlen : σ.length = l'.length := by simpa using congrArg List.length e
 refine h.sub (fun i => σ.getD i 0) (fun i j hi hj hij => ?_) (fun i r hr => ?_)
 · have hi' : i < σ.length := by omega
   have hj' : j < σ.length := by omega
   simp only [List.getD_eq_getElem?_getD, List.getElem?_eq_getElem hi', List.getElem?_eq_getElem hj', Option.getD_some] at hij
   exact (List.getElem_inj hn).1 hij
 · have hi := (List.getElem?_eq_some_iff.1 hr).1
   have hi' : i < σ.length := by omega
   have := congrArg (fun (z : List (Option Res)) => z[i]?) e
   simp only [List.getElem?_map, hr, Option.map_some, List.getElem?_eq_getElem hi', Option.some.injEq] at this
   simp only [List.getD_eq_getElem?_getD, List.getElem?_eq_getElem hi', Option.getD_some]
   exact this
end
/-- the operands of a literal -/
def pev (a : Act) : Nat → List (Nat × Operand) → List Value → Prop
  | _, [], [] => True
  | k, (i, x) :: ps, u :: us => i = k ∧ a.eval x = u ∧ pev a (k + 1) ps us
  | _, _, _ => False
theorem pev_map {a : Act} : ∀ (ps : List (Nat × Operand)) (us : List Value) (k : Nat), pev a k ps us → ps.map (fun p => (p.1, a.eval p.2)) = (us.zipIdx k).map fun p => (p.2, p.1)
  | [], [], _, _ => rfl
  | [], _ :: _, _, h => h.elim
  | _ :: _, [], _, h => h.elim
  | (i, x) :: ps, u :: us, k, ⟨h1, h2, h3⟩ => by
    subst h1; subst h2
    simp only [List.map_cons, List.zipIdx_cons, pev_map ps us (i + 1) h3]
theorem fold_set : ∀ (us old A B : List Value), us.length = old.length → (us.zipIdx).foldl (fun (cs : Array Value) (p : Value × Nat) => cs.setIfInBounds (A.length + p.2) p.1) (A ++ old ++ B).toArray = (A ++ us ++ B).toArray
  | [], [], A, B, _ => rfl
  | [], _ :: _, _, _, h => by simp at h
  | _ :: _, [], _, _, h => by simp at h
  | u :: us, o :: old, A, B, h => by
    have ih := fold_set us old (A ++ [u]) B (by simpa using h)
    rw [List.zipIdx_cons, List.foldl_cons]
    have h1 : (A ++ o :: old ++ B).toArray.setIfInBounds (A.length + 0) u = (A ++ [u] ++ old ++ B).toArray := by
      simp
    rw [h1]
    have h2 : us.zipIdx (0 + 1) = us.zipIdx.map fun p => (p.1, p.2 + 1) := by
      rw [List.zipIdx_succ]
    rw [h2, List.foldl_map]
    simp only [List.length_append, List.length_cons, List.length_nil, Nat.zero_add] at ih
    have h3 : (fun (cs : Array Value) (p : Value × Nat) => cs.setIfInBounds (A.length + (p.2 + 1)) p.1) = fun cs p => cs.setIfInBounds (A.length + 1 + p.2) p.1 := by
      funext cs p; congr 1; omega
    show List.foldl (fun (cs : Array Value) (p : Value × Nat) => cs.setIfInBounds (A.length + (p.2 + 1)) p.1) _ _ = _
    rw [h3, ih]
    simp
theorem fill_all {sz : Nat} : ∀ (us : List Value) (A B : List Value) (k : Nat), A.length = k * sz → B.length = us.length * sz → (∀ u ∈ us, u.cells.size = sz) →
    Instr.fill (fun i => some (i * sz, sz)) (A ++ B).toArray ((us.zipIdx k).map fun p => (p.2, p.1)) = some (A ++ us.flatMap fun u => u.cells.toList).toArray
  | [], A, B, k, _, hB, _ => by
    obtain rfl : B = [] := List.eq_nil_of_length_eq_zero (by simpa using hB)
    simp [Instr.fill]
  | u :: us, A, B, k, hA, hB, hu => by
    have hsz := hu u (by simp)
    have hB' : B.length = sz + us.length * sz := by rw [hB, List.length_cons, Nat.add_mul]; omega
    have ih := fill_all us (A ++ u.cells.toList) (B.drop sz) (k + 1) (by simp [hA, hsz, Nat.add_mul]) (by simp [hB']) (fun x hx => hu x (by simp [hx]))
    rw [List.zipIdx_cons, List.map_cons]
    unfold Instr.fill
    simp only []
    rw [if_neg (by simp [hsz, hA, hB'])]
    have hf : Array.foldl (fun (cs : Array Value) (x : Value × Nat) => cs.setIfInBounds (k * sz + x.2) x.1) (A ++ B).toArray u.cells.zipIdx = (A ++ u.cells.toList ++ B.drop sz).toArray := by
      have := fold_set u.cells.toList (B.take sz) A (B.drop sz) (by simp [hsz, hB'])
      rw [List.append_assoc A, List.take_append_drop, hA] at this
      rw [← this, ← Array.foldl_toList]
      simp
    have : (u.cells.zipIdx.foldl (fun (cs : Array Value) (x : Value × Nat) => match x with | (c, j) => cs.setIfInBounds (k * sz + j) c) (A ++ B).toArray) = (A ++ u.cells.toList ++ B.drop sz).toArray := hf
    rw [this, ih]
    simp
section
variable {P : Program} {ops : Array Oper} {Q : Exit → Act → World → Prop} {a : Act} {w w0 : World} {rest : List Oper} {o : Oper} {n d : Nat} {L : List (Nat × Value)} {l : List Res} {v : Value}
variable {ty : TypeId} {ps : String} {af : Array Edge} {D : Option Tmp} {gd : Option (Nat × Bool)}
theorem r_extract {ρ : Operand → Value} {x : Operand} {i : Nat} {us : Array Value} {u : Value} (hx : ρ x = .tuple us) (hi : us[i]? = some u) : (execOp ρ ⟨D, .extract x i, ty, ps, af, gd⟩).run P w = .ok (.value u) w := by
 simp [execOp, hx, Instr.extract, hi]
/-- a slice literal of flat elements -/
theorem r_bslice {α : Type} {sz b : Nat} {enc : α → List Value} {hl : ∀ x, (enc x).length = sz} {h1 : ∀ x u, u ∈ enc x → u.oneCell' = true} {T m : Nat} {parts : Array (Nat × Operand)} {zs : List Value} (ek : EK α) (us : List Value) (xs : List α) (hek : ek = flatEK sz enc hl h1)
    (hm : mkB P T = some (zs, sz, b)) (hz : zs.length = sz) (hp : pev a 0 parts.toList us) (hmu : m = us.length) (hu : us.map (fun u => u.cells.toList) = xs.map enc) (hpos : Nat.ble 1 sz = true) (hsmall : Nat.ble (m * sz) 16777216 = true) :
    ∃ g w', (execOp a.eval ⟨D, .buildSlice T m parts, ty, ps, af, gd⟩).run P w = .ok (.value (.slice (some ⟨g, 0, none⟩) m m)) w' ∧ Sep w [Own ek (.slice (some ⟨g, 0, none⟩) m m) xs] w' := by
  subst hek
  obtain ⟨e, i, z, he, hi, hzz, hzs, hsz, hby⟩ := mkB_parts hm
  have hxl : xs.length = m := by
    have := congrArg List.length hu
    simp only [List.length_map] at this
    omega
  have hcell : us.flatMap (fun u => u.cells.toList) = flatC enc xs := by
    unfold flatC
    rw [List.flatMap_def, List.flatMap_def, hu]
  have hul : ∀ u ∈ us, u.cells.size = sz := fun u hmem => by
    have : u.cells.toList ∈ xs.map enc := by rw [← hu]; exact List.mem_map.2 ⟨u, hmem, rfl⟩
    obtain ⟨x, _, e⟩ := List.mem_map.1 this
    have := congrArg List.length e
    rw [hl] at this
    simpa using this.symm
  have hfill : ∀ B : Array Value, B.size = m * sz → Instr.fill (fun i => some (i * sz, sz)) B (parts.toList.map fun p => (p.1, a.eval p.2)) = some (flatC enc xs).toArray := fun B hB => by
    have := fill_all (sz := sz) us [] B.toList 0 (by simp) (by simp [hB, hmu]) hul
    rw [List.nil_append, List.nil_append, hcell] at this
    rw [pev_map _ _ _ hp]
    exact this
  have hrun : (Instr.buildSlice T m (parts.map fun (i, x) => (i, a.eval x))).run P w = .ok (.slice (some ⟨w.heap.size, 0, none⟩) m m) (w.alloc (.cells (flatC enc xs).toArray e)) := by
    have hs : ¬ m * i.size > 2 ^ 24 := by
      have := Nat.le_of_ble_eq_true hsmall
      rw [hsz]
      omega
    by_cases h0 : m * i.size = 0
    · have hm0 : m = 0 := by
        have := Nat.le_of_ble_eq_true hpos
        rcases Nat.mul_eq_zero.1 h0 with h | h <;> omega
      subst hm0
      obtain rfl := List.eq_nil_of_length_eq_zero hmu.symm
      obtain rfl := List.eq_nil_of_length_eq_zero hxl
      have hpl : parts.toList = [] := by
        cases h : parts.toList with
        | nil => rfl
        | cons p l => rw [h] at hp; exact hp.elim
      obtain rfl : parts = #[] := by cases parts; simp at hpl; rw [hpl]
      simp [Instr.buildSlice, run_underlying he, sizeOf, typeInfo, hi, newRow, Instr.fill, flatC]
      rw [show Array.range 0 = #[] from by simp]; simp
    · have h := hfill ((Array.range (m * sz)).map (z.cells[· % z.cells.size]!)) (by simp)
      subst hsz
      simp [Instr.buildSlice, run_underlying he, sizeOf, typeInfo, zeroValue, hi, hzz, hs, h0, h, newRow]
  refine ⟨w.heap.size, w.alloc (.cells (flatC enc xs).toArray e), by simp [execOp, hrun], ?_⟩
  refine (Sep.refl w).new ((Below.refl _ _).alloc (Nat.le_refl _) _) ⟨_, m, m, rfl, hxl.symm, ?_, .inr ⟨w.heap.size, 0, _, e, fun _ => [], rfl, ⟨Nat.le_refl _, by simp⟩, heap_alloc_new w _, ⟨by simp [flatEK, flatC_len hl, hxl], by simp [hxl], ?_⟩, fun _ _ => False, fun i x _ => Sat.nil _ _, by simp, by simp⟩⟩
  · have h1 := Nat.le_of_ble_eq_true hsmall
    have h2 := Nat.le_of_ble_eq_true hpos
    have h3 : m * 1 ≤ m * sz := Nat.mul_le_mul_left _ h2
    simp only [maxLen]
    omega
  · intro i x hx j u hu'
    have := flatC_at hl xs i x j u hx hu'
    simpa [flatEK] using this
theorem wl_bslice {α : Type} {sz b : Nat} {enc : α → List Value} {hl : ∀ x, (enc x).length = sz} {h1 : ∀ x u, u ∈ enc x → u.oneCell' = true} {T m : Nat} {parts : Array (Nat × Operand)} {zs : List Value} (ek : EK α) (us : List Value) (xs : List α) (hek : ek = flatEK sz enc hl h1) (hF : Fr n L a) (hS : Sep w0 l w) (hdn : Nat.ble (d + 1) n = true)
    (hm : mkB P T = some (zs, sz, b)) (hz : zs.length = sz) (hp : pev a 0 parts.toList us) (hmu : m = us.length) (hu : us.map (fun u => u.cells.toList) = xs.map enc) (hpos : Nat.ble 1 sz = true) (hsmall : Nat.ble (m * sz) 16777216 = true)
    (k : ∀ g w' a, Sep w0 (Own ek (.slice (some ⟨g, 0, none⟩) m m) xs :: l) w' → Fr n ((d, .slice (some ⟨g, 0, none⟩) m m) :: L) a → wpList P ops Q rest a w') :
    wpList P ops Q (⟨some d, .buildSlice T m parts, ty, ps, af, none⟩ :: rest) a w := by
  obtain ⟨g, w', hrun, hS'⟩ := r_bslice (D := some d) (gd := none) (ty := ty) (ps := ps) (af := af) (P := P) (w := w) (hl := hl) (h1 := h1) ek us xs hek hm hz hp hmu hu hpos hsmall
  exact wl hF rfl rfl hdn hrun (fun a hF => k g w' a (by simpa using hS.add hS') hF)
/-- a whole box is written over -/
theorem wl_storew {T : TypeId} {x y : Operand} {i g : Nat} {cs vs : List Value} (hF : Fr n L a) (hS : Sep w0 l w) (hi : l[i]? = some (Box g cs)) (hp : a.eval x = .pointer (some ⟨g, 0, none⟩)) (hy : a.eval y = .agg vs.toArray) (hsz : szB P T = some vs.length)
    (hl : evenB vs cs = true) (h1 : vs.all (fun u => u.oneCell') = true) (k : ∀ w', Sep w0 (l.set i (Box g vs)) w' → wpList P ops Q rest a w') : wpList P ops Q (⟨none, .store T x y, ty, ps, af, none⟩ :: rest) a w := by
  have hl' := evenB_eq _ _ hl
  obtain ⟨w', hr, hS'⟩ := hS.box_row (P := P) (o := 0) (vs := vs) hi (by omega) (fun u hu => List.all_eq_true.1 h1 u hu)
  have e : cs.take 0 ++ vs ++ cs.drop (0 + vs.length) = vs := by
    rw [Nat.zero_add, hl', List.drop_length]; simp
  rw [e] at hS'
  exact wl0 (w' := w') hF rfl rfl (r_storen hsz hp hy hr) (k _ hS')
end
section
variable {α : Type} {ek : EK α} {w0 w : World} {l : List Res} {q i m c g o : Nat} {v : Value} {xs : List α} {x : α} {cs : List Value}
end
section
variable {P : Program} {ops : Array Oper} {Q : Exit → Act → World → Prop} {a : Act} {w w0 : World} {rest : List Oper} {n d : Nat} {L : List (Nat × Value)} {l : List Res} {v u : Value}
variable {ty : TypeId} {ps : String} {af : Array Edge}
end
/-- bare cells -/
abbrev RawC (sz : Nat) := { cs : List Value // cs.length = sz ∧ ∀ u ∈ cs, u.oneCell' = true }
abbrev rawEK (sz : Nat) : EK (RawC sz) := flatEK sz (fun c => c.1) (fun c => c.2.1) (fun c => c.2.2)
section
variable {α : Type} {ek : EK α} {w0 w : World} {l : List Res} {q : Nat} {v : Value} {xs : List α} {vs : Nat → List Slv}
end
section
variable {P : Program} {ops : Array Oper} {Q : Exit → Act → World → Prop} {a : Act} {w w0 : World} {rest : List Oper} {n d : Nat} {L : List (Nat × Value)} {l : List Res} {v u : Value}
variable {ty : TypeId} {ps : String} {af : Array Edge}
end
/-! ### the element at a place -/
def at0 {α : Type} [Inhabited α] (xs : List α) (i : Int) : α := (xs[i.toNat]?).getD default
section
variable {α : Type} [Inhabited α] {xs : List α} {i : Int} {k : Nat} {x : α}
theorem at0_get (h0 : 0 ≤ i) (h1 : i < xs.length) : xs[i.toNat]? = some (at0 xs i) := by
 have h : i.toNat < xs.length := by omega
 simp [at0, List.getElem?_eq_getElem h]
end
theorem Rd.at {α : Type} [Inhabited α] {ek : EK α} {w : World} {v : Value} {xs : List α} (h : ek.Rd w v xs) {a : Act} {X : Operand} {kd : IntKind} {i : Int} (hi : a.eval X = .int kd i) (h0 : 0 ≤ i) (h1 : i < xs.length) :
    ∃ g o m c cs, v = .slice (some ⟨g, o, none⟩) m c ∧ m = xs.length ∧ i.toNat < m ∧ ek.K w (at0 xs i) cs ∧ cs.length = ek.sz ∧ ∀ j u, cs[j]? = some u → w.cell? ⟨g, o + i.toNat * ek.sz + j, none⟩ = some u :=
  Rd.idx h (at0_get h0 h1)
theorem Rd.atF {α : Type} [Inhabited α] {sz : Nat} {enc : α → List Value} {hl : ∀ x, (enc x).length = sz} {h1 : ∀ x u, u ∈ enc x → u.oneCell' = true} {w : World} {v : Value} {xs : List α} (h : (flatEK sz enc hl h1).Rd w v xs) {a : Act} {X : Operand} {kd : IntKind} {i : Int} (hi : a.eval X = .int kd i) (h0 : 0 ≤ i) (h1 : i < xs.length) :
    ∃ g o m c, v = .slice (some ⟨g, o, none⟩) m c ∧ m = xs.length ∧ i.toNat < m ∧ ∀ j u, (enc (at0 xs i))[j]? = some u → w.cell? ⟨g, o + i.toNat * sz + j, none⟩ = some u :=
  Rd.idxF h (at0_get h0 h1)
/-! ### loops that carry their frame -/
section
variable {P : Program} {Q : Exit → Act → World → Prop} {a : Act} {w w0 : World} {n : Nat} {L : List (Nat × Value)} {l : List Res}
/-- nothing is changed but slots -/
theorem wp_loop_r {σ : Type} {c : Code} (vals : σ → List (Nat × Value) → List (Nat × Value)) (I : σ → Prop) (μ : σ → Nat) (s0 : σ) (hS : Sep w0 l w) (hF0 : Fr n (vals s0 L) a) (hI : I s0)
    (round : ∀ s a w, I s → Sep w0 l w → Fr n (vals s L) a → c.wp P (Exit.then (fun a' w' => ∃ s', I s' ∧ Sep w0 l w' ∧ Fr n (vals s' L) a' ∧ μ s' < μ s) Q) a w) : (Code.loop c).wp P Q a w := by
  refine wp_loop_g (fun s a w => I s ∧ Sep w0 l w ∧ Fr n (vals s L) a) μ s0 ⟨hI, hS, hF0⟩ (fun s a w ⟨h1, h2, h3⟩ => ?_)
  refine wp_mono (round s a w h1 h2 h3) (fun e a w h => ?_)
  cases e <;> first | exact h | (obtain ⟨s', h1, h2, h3, h4⟩ := h; exact ⟨s', ⟨h1, h2, h3⟩, h4⟩)
end
/-! ### conditions that join again -/
theorem no_letsOut {J : Act → World → Prop} (h : LetsOut (fun e a w => e = Exit.normal ∧ J a w)) : False := by
 obtain ⟨a, w, h, _⟩ := h
 cases h
theorem Oper.wp_only {P : Program} {o : Oper} {a : Act} {w : World} {K J : Act → World → Prop} {Q : Exit → Act → World → Prop} (h : o.wp P a w K (fun e a w => e = .normal ∧ J a w)) : o.wp P a w K Q := by
 unfold Oper.wp at *
 generalize (execOp a.eval o).run P w = r at *
 unfold Oper.upon at *
 split at h
 · exact h
 · exact h
 · exact h
 · refine Calls.mono h ?_
   rintro e w2 h
   cases e with
   | returned v => exact h
   | panicked c => exact absurd h.1 (by simp)
   | outgrown => exact (no_letsOut h).elim
 · exact h
 · exact absurd h.1 (by simp)
 · exact h.elim
theorem wpList_app {P : Program} {ops : Array Oper} {Q : Exit → Act → World → Prop} {J : Act → World → Prop} {B : List Oper} (hk : ∀ a w, J a w → wpList P ops Q B a w) :
    ∀ (A : List Oper) (a : Act) (w : World), wpList P ops (fun e a w => e = .normal ∧ J a w) A a w → wpList P ops Q (A ++ B) a w
  | [], a, w, h => hk a w h.2
  | o :: A, a, w, h => by
    rw [List.cons_append]
    unfold wpList at h ⊢
    split
    · rename_i hw
      rw [if_pos hw] at h
      rcases h with h | ⟨_, h⟩
      · exact .inl (Oper.wp_mono (fun a w h => wpList_app hk A a w h) (Oper.wp_only h))
      · exact (no_letsOut h).elim
    · rename_i hw
      rw [if_neg hw] at h
      exact wpList_app hk A _ w h
section
variable {P : Program} {ops : Array Oper} {Q : Exit → Act → World → Prop} {a : Act} {w w0 : World} {A B rest : List Oper} {o : Oper} {n d : Nat} {L L' : List (Nat × Value)} {l : List Res} {v : Value} {Qa : Act → Prop} {tc pk : Nat} {c e : Bool}
/-- where a condition's second part leaves off -/
def JS (n : Nat) (L : List (Nat × Value)) (pk : Nat) (e : Bool) (w0 : World) (l : List Res) : Exit → Act → World → Prop := fun x a w => x = .normal ∧ Fr n ((pk, .bool e) :: L) a ∧ Sep w0 l w
/-- the slots that came last go -/
theorem Fr.tail {x : Nat × Value} (h : Fr n (x :: L) a) (hx : (lk L x.1).isNone = true) : Fr n L a := by
 refine ⟨h.size, h.defs, fun t u ht => h.get t u ?_⟩
 obtain ⟨s, y⟩ := x
 simp only [lk]
 cases hb : Nat.beq s t with
 | true =>
   have := Nat.eq_of_beq_eq_true hb
   subst this
   simp only [] at hx
   rw [ht] at hx
   cases hx
 | false => simpa using ht
theorem lk_app {A L : List (Nat × Value)} {t : Nat} (h : ∀ x ∈ A, x.1 ≠ t) : lk (A ++ L) t = lk L t := by
 induction A with
 | nil => rfl
 | cons x A ih =>
   obtain ⟨s, y⟩ := x
   have hs : s ≠ t := h (s, y) (by simp)
   have hb : Nat.beq s t = false := by
     cases hb : Nat.beq s t with
     | true => exact absurd (Nat.eq_of_beq_eq_true hb) hs
     | false => rfl
   simp only [List.cons_append, lk, hb, cond_false]
   exact ih (fun x hx => h x (by simp [hx]))
theorem Fr.pre {A L : List (Nat × Value)} (h : Fr n (A ++ L) a) (hx : A.all (fun x => (lk L x.1).isNone) = true) : Fr n L a := by
 refine ⟨h.size, h.defs, fun t u ht => h.get t u ?_⟩
 rw [lk_app (fun x hA e => ?_)]
 · exact ht
 · have := List.all_eq_true.1 hx x hA
   rw [e, ht] at this
   cases this
theorem Fr.thin {v : Value} (h : Fr n ((pk, v) :: (tc, .bool c) :: L) a) (ht : lk L tc = some (.bool c)) : Fr n ((pk, v) :: L) a := by
 refine ⟨h.size, h.defs, fun t u hu => h.get t u ?_⟩
 simp only [lk] at hu ⊢
 cases hb : Nat.beq pk t with
 | true => simpa [hb] using hu
 | false =>
   simp only [hb, cond_false] at hu ⊢
   cases hb' : Nat.beq tc t with
   | true =>
     have := Nat.eq_of_beq_eq_true hb'
     subst this
     rw [ht] at hu
     simpa using hu
   | false => simpa using hu
theorem wl_and (hF : Fr n L a) (hS : Sep w0 l w) (ht : lk L tc = some (.bool c))
    (h1 : c = true → ∀ a, Fr n ((tc, .bool true) :: L) a → wpList P ops (JS n ((tc, .bool true) :: L) pk e w0 l) A a w)
    (h2 : c = false → ∀ a, Fr n ((tc, .bool false) :: L) a → wpList P ops (JS n ((tc, .bool false) :: L) pk false w0 l) A a w)
    (k : ∀ a w, Fr n ((pk, .bool (c && e)) :: L) a → Sep w0 l w → wpList P ops Q B a w) : wpList P ops Q (A ++ B) a w := by
  refine wpList_app (J := fun a w => Fr n ((pk, .bool (c && e)) :: L) a ∧ Sep w0 l w) (fun a w h => k a w h.1 h.2) A a w ?_
  have hx : ∀ A a w, wpList P ops (JS n ((tc, .bool c) :: L) pk (c && e) w0 l) A a w → wpList P ops (fun x a w => x = .normal ∧ Fr n ((pk, .bool (c && e)) :: L) a ∧ Sep w0 l w) A a w := fun A a w h => by
    have := wpList_app (B := []) (Q := fun x a w => x = .normal ∧ Fr n ((pk, .bool (c && e)) :: L) a ∧ Sep w0 l w) (J := fun a w => Fr n ((pk, .bool (c && e)) :: (tc, .bool c) :: L) a ∧ Sep w0 l w) (fun a w h => by unfold wpList; exact ⟨rfl, h.1.thin ht, h.2⟩) A a w h
    rwa [List.append_nil] at this
  refine hx A a w ?_
  cases c with
  | true => exact h1 rfl a (hF.keep hF ht)
  | false => exact h2 rfl a (hF.keep hF ht)
theorem wl_or (hF : Fr n L a) (hS : Sep w0 l w) (ht : lk L tc = some (.bool c))
    (h1 : c = false → ∀ a, Fr n ((tc, .bool false) :: L) a → wpList P ops (JS n ((tc, .bool false) :: L) pk e w0 l) A a w)
    (h2 : c = true → ∀ a, Fr n ((tc, .bool true) :: L) a → wpList P ops (JS n ((tc, .bool true) :: L) pk true w0 l) A a w)
    (k : ∀ a w, Fr n ((pk, .bool (c || e)) :: L) a → Sep w0 l w → wpList P ops Q B a w) : wpList P ops Q (A ++ B) a w := by
  refine wpList_app (J := fun a w => Fr n ((pk, .bool (c || e)) :: L) a ∧ Sep w0 l w) (fun a w h => k a w h.1 h.2) A a w ?_
  have hx : ∀ A a w, wpList P ops (JS n ((tc, .bool c) :: L) pk (c || e) w0 l) A a w → wpList P ops (fun x a w => x = .normal ∧ Fr n ((pk, .bool (c || e)) :: L) a ∧ Sep w0 l w) A a w := fun A a w h => by
    have := wpList_app (B := []) (Q := fun x a w => x = .normal ∧ Fr n ((pk, .bool (c || e)) :: L) a ∧ Sep w0 l w) (J := fun a w => Fr n ((pk, .bool (c || e)) :: (tc, .bool c) :: L) a ∧ Sep w0 l w) (fun a w h => by unfold wpList; exact ⟨rfl, h.1.thin ht, h.2⟩) A a w h
    rwa [List.append_nil] at this
  refine hx A a w ?_
  cases c with
  | false => exact h1 rfl a (hF.keep hF ht)
  | true => exact h2 rfl a (hF.keep hF ht)
end
/-- the ways of a condition, each with its slot -/
theorem wc_fx {P : Program} {Q : Exit → Act → World → Prop} {a : Act} {w : World} {n : Nat} {L : List (Nat × Value)} {t : Nat} {b : Bool} {x y : Code} (hF : Fr n L a) (ht : lk L t = some (.bool b)) (h1 : b = true → Fr n ((t, .bool true) :: L) a → x.wp P Q a w) (h2 : b = false → Fr n ((t, .bool false) :: L) a → y.wp P Q a w) :
    (Code.cond (.tmp t) x y).wp P Q a w := by
  have hx : ∀ c, b = c → Fr n ((t, .bool c) :: L) a := fun c e => Fr.keep hF hF (by rw [ht, e])
  exact wc_b (hF.ev ht) (fun e => h1 e (hx _ e)) (fun e => h2 e (hx _ e))
/-! ### regions that draw their order: what no world can change is taken first -/
section
variable {P : Program} {ops : Array Oper} {Q : Exit → Act → World → Prop} {S : World → Prop} {muts : List Nat}
theorem wpM_firstP {i : Nat} {oi : Oper} {v : Value} (hi : ops[i]? = some oi) (him : i ∉ muts) (hsel : ∀ (j : Nat) (o : Oper) cs b, ops[j]? = some o → o.op ≠ .select cs b)
    (hQ : ∀ c a w, Q (.panic c) (a.put oi.dst v) w → Q (.panic c) a w) :
    ∀ (fuel : Nat) (listed : Array Bool) (a : Act) (w : World),
      (∀ j oj, ops[j]? = some oj → j ≠ i → listed.getD j true = false → (∀ e ∈ oj.after, Region.binds .any e = true → e.on ≠ i) → oi.apart ops oj = true) →
      i ∈ Region.ready .any ops listed → YieldsIf P ops (fun _ => True) oi v a → (phB muts listed = true → S w) →
      wpM P ops Q S muts fuel (listed.setIfInBounds i true) (a.put oi.dst v) w → wpM P ops Q S muts (fuel + 1) listed a w := by
  intro fuel
  induction fuel with
  | zero =>
    intro listed a w _ hr hy hS H
    refine ⟨fun h => (by rw [h] at hr; cases hr), fun j hj => ?_⟩
    by_cases hji : j = i
    · subst hji; exact hy.wpOp hi trivial ⟨fun h => hS (by rwa [phB_set him] at h), H⟩
    · have := ready_mono hj hji
      rw [H.1] at this
      cases this
  | succ fuel ih =>
    intro listed a w hfree hr hy hS H
    refine ⟨fun h => (by rw [h] at hr; cases hr), fun j hj => ?_⟩
    by_cases hji : j = i
    · subst hji; exact hy.wpOp hi trivial ⟨fun h => hS (by rwa [phB_set him] at h), H⟩
    · have h1 := H.2 j (ready_mono hj hji)
      obtain ⟨hjun, oj, hoj, hall⟩ := mem_ready.1 hj
      have hnot : ∀ e ∈ oj.after, Region.binds .any e = true → e.on ≠ i := fun e he hb heq => by
        have h1 := hall e he hb
        have h0 := (mem_ready.1 hr).1
        rw [heq] at h1
        rcases Nat.lt_or_ge i listed.size with h' | h'
        · simp [h'] at h0 h1; rw [h0] at h1; cases h1
        · simp [Array.getElem?_eq_none h'] at h1
      have h2 := wpOp_putIf hoj (hfree j oj hoj hji hjun hnot) (fun cs b => hsel i oi cs b hi) (fun cs b => hsel j oj cs b hoj) hQ hy h1
      have hfree' : ∀ k ok, ops[k]? = some ok → k ≠ i → (listed.setIfInBounds j true).getD k true = false →
          (∀ e ∈ ok.after, Region.binds .any e = true → e.on ≠ i) → oi.apart ops ok = true := fun k ok hk hki hun hno => by
        refine hfree k ok hk hki ?_ hno
        by_cases hjk : j = k
        · subst hjk; exact hjun
        · rw [getD_set_ne true hjk] at hun; exact hun
      have hph : phB muts ((listed.setIfInBounds i true).setIfInBounds j true) = phB muts (listed.setIfInBounds j true) := by
        rw [Array.setIfInBounds_comm _ _ (Ne.symm hji), phB_set him]
      refine wpOp_mono (fun a' w' h3 => ?_) h2
      have hS' : phB muts (listed.setIfInBounds j true) = true → S w' := fun h => h3.2.1 (hph.trans h)
      refine ⟨hS', ih (listed.setIfInBounds j true) a' w' hfree' (ready_mono hr (Ne.symm hji)) h3.1 hS' ?_⟩
      rw [Array.setIfInBounds_comm _ _ hji]
      exact h3.2.2
end
/-- an operation that may be taken first, whatever the others change -/
def pureB (ops : Array Oper) (T : Alcs) (muts : List Nat) (i : Nat) (is : List Nat) : Bool :=
  decide (i < ops.size) && !is.contains i && T.all (fun t => t.1 != i && !is.contains t.1) && Region.noSelect ops && depsB ops i (fun k => decide (k < ops.size) && k != i && !is.contains k && T.all (fun t => t.1 != k)) && !muts.contains i &&
  (match ops[i]? with
   | some oi => (is ++ T.map (·.1)).all (fun j => waitsB ops j (fun k => k == i) || (match ops[j]? with | some oj => oi.apart ops oj | none => true))
   | none => false)
/-- an operation that may be taken first as long as nothing of X has come up; X waits for it -/
def loadB (ops : Array Oper) (T : Alcs) (muts X : List Nat) (i : Nat) (is : List Nat) : Bool :=
  pureB ops T muts i is && !X.contains i && muts.all (fun m => X.contains m) && X.all (fun k => is.contains k && waitsB ops k (fun e => e == i || X.contains e))
theorem wpM_firstX {P : Program} {ops : Array Oper} {Q : Exit → Act → World → Prop} {S : World → Prop} {muts X : List Nat} {i : Nat} {oi : Oper} {v : Value} (hi : ops[i]? = some oi) (him : i ∉ X) (hmX : ∀ m ∈ muts, m ∈ X) (hsel : ∀ (j : Nat) (o : Oper) cs b, ops[j]? = some o → o.op ≠ .select cs b)
    (hQ : ∀ c a w, Q (.panic c) (a.put oi.dst v) w → Q (.panic c) a w)
    (hmut : ∀ m ∈ X, ∀ om, ops[m]? = some om → ∃ e ∈ om.after, Region.binds .any e = true ∧ (e.on = i ∨ e.on ∈ X)) :
    ∀ (fuel : Nat) (listed : Array Bool) (a : Act) (w : World),
      (∀ j oj, ops[j]? = some oj → j ≠ i → listed.getD j true = false → (∀ e ∈ oj.after, Region.binds .any e = true → e.on ≠ i) → oi.apart ops oj = true) →
      i ∈ Region.ready .any ops listed → YieldsIf P ops S oi v a → S w → phB X listed = true →
      wpM P ops Q S muts fuel (listed.setIfInBounds i true) (a.put oi.dst v) w → wpM P ops Q S muts (fuel + 1) listed a w := by
  have hX : ∀ listed, phB X listed = true → phB muts listed = true := fun listed h => List.all_eq_true.2 fun m hm => List.all_eq_true.1 h m (hmX m hm)
  intro fuel
  induction fuel with
  | zero =>
    intro listed a w _ hr hy hS hp H
    refine ⟨fun h => (by rw [h] at hr; cases hr), fun j hj => ?_⟩
    by_cases hji : j = i
    · subst hji; exact hy.wpOp hi hS ⟨fun _ => hS, H⟩
    · have := ready_mono hj hji
      rw [H.1] at this
      cases this
  | succ fuel ih =>
    intro listed a w hfree hr hy hS hp H
    refine ⟨fun h => (by rw [h] at hr; cases hr), fun j hj => ?_⟩
    by_cases hji : j = i
    · subst hji; exact hy.wpOp hi hS ⟨fun _ => hS, H⟩
    · have h1 := H.2 j (ready_mono hj hji)
      obtain ⟨hjun, oj, hoj, hall⟩ := mem_ready.1 hj
      have hnot : ∀ e ∈ oj.after, Region.binds .any e = true → e.on ≠ i := fun e he hb heq => by
        have h1 := hall e he hb
        have h0 := (mem_ready.1 hr).1
        rw [heq] at h1
        rcases Nat.lt_or_ge i listed.size with h' | h'
        · simp [h'] at h0 h1; rw [h0] at h1; cases h1
        · simp [Array.getElem?_eq_none h'] at h1
      have hjm : j ∉ X := fun hm => by
        obtain ⟨e, he, hb, heq⟩ := hmut j hm oj hoj
        rcases heq with heq | heq
        · exact hnot e he hb heq
        · have h1 := hall e he hb
          have h2 := List.all_eq_true.1 hp e.on heq
          rw [h1] at h2
          cases h2
      have h2 := wpOp_putIf hoj (hfree j oj hoj hji hjun hnot) (fun cs b => hsel i oi cs b hi) (fun cs b => hsel j oj cs b hoj) hQ hy h1
      have hfree' : ∀ k ok, ops[k]? = some ok → k ≠ i → (listed.setIfInBounds j true).getD k true = false →
          (∀ e ∈ ok.after, Region.binds .any e = true → e.on ≠ i) → oi.apart ops ok = true := fun k ok hk hki hun hno => by
        refine hfree k ok hk hki ?_ hno
        by_cases hjk : j = k
        · subst hjk; exact hjun
        · rw [getD_set_ne true hjk] at hun; exact hun
      have hp' : phB X (listed.setIfInBounds j true) = true := by rw [phB_set hjm]; exact hp
      have hp'' : phB X ((listed.setIfInBounds i true).setIfInBounds j true) = true := by rw [phB_set hjm, phB_set him]; exact hp
      refine wpOp_mono (fun a' w' h3 => ⟨fun _ => h3.2.1 (hX _ hp''), ih (listed.setIfInBounds j true) a' w' hfree' (ready_mono hr (Ne.symm hji)) h3.1 (h3.2.1 (hX _ hp'')) hp' ?_⟩) h2
      rw [Array.setIfInBounds_comm _ _ hji]
      exact h3.2.2
/-- an operation that is wanted, as far as the slots tell -/
def GW (ops : Array Oper) (n : Nat) (L : List (Nat × Value)) (o : Oper) : Prop := ∀ a, Fr n L a → Region.wanted o (yielded ops a.tmps) = true
theorem gw0 {ops : Array Oper} {n : Nat} {L : List (Nat × Value)} {o : Oper} (hg : o.guard = none) : GW ops n L o := fun a _ => by simp [Region.wanted, hg]
theorem todo_load (X : List Nat) {P : Program} {ops : Array Oper} {Q : Exit → Act → World → Prop} {wd W : World} {T : Alcs} {muts : List Nat} {n : Nat} {L : List (Nat × Value)} {l : List Res} {i : Nat} {is : List Nat} {o : Oper} {d : Nat} {v : Value}
    (hl : Lay P ops T n) (hk : loadB ops T muts X i is = true) (ho : ops[i]? = some o) (hg : GW ops n L o) (hd : o.dst = some d) (hdn : Nat.ble (d + 1) n = true) (hT : T.all (fun t => t.2.1 != d) = true)
    (hy : ∀ a w', Fr n L a → Below wd.heap.size wd w' → (execOp a.eval o).run P w' = .ok (.value v) w')
    (k : ∀ rem a w, Rem T rem → Fr n ((d, v) :: L) a → At T wd W l rem a w → Todo P ops Q wd muts rem is a w) :
    ∀ rem a w, Rem T rem → Fr n L a → At T wd W l rem a w → Todo P ops Q wd muts rem (i :: is) a w := by
  intro rem a w hR hF hA listed hsz hls
  have hT' : ∀ t ∈ T, t.2.1 ≠ d := fun t ht => by simpa using List.all_eq_true.1 hT t ht
  simp only [loadB, pureB, ho, Bool.and_eq_true, decide_eq_true_eq, Bool.not_eq_true', List.all_eq_true, bne_iff_ne] at hk
  obtain ⟨⟨⟨⟨⟨⟨⟨⟨⟨k1, k2⟩, k3⟩, k4⟩, k5⟩, k6⟩, k8⟩, x1⟩, x2⟩, x3⟩ := hk
  have hir : rem.contains i = false := by
    rw [Bool.eq_false_iff]
    intro h
    obtain ⟨t, ht, e⟩ := hR.sub i (by simpa using h)
    exact (k3 t ht).1 e
  have hfu : (i :: is).length + rem.length = (is.length + rem.length) + 1 := by simp; omega
  rw [hfu]
  have hi0 : listed.getD i true = false := by rw [getD_tf (by omega), hls i k1]; simp
  have hrdy : i ∈ Region.ready .any ops listed := by
    refine depsB_yes k5 hi0 (fun k hk => ?_)
    simp only [Bool.and_eq_true, decide_eq_true_eq, bne_iff_ne, Bool.not_eq_true', List.all_eq_true] at hk
    obtain ⟨⟨⟨q1, q2⟩, q3⟩, q4⟩ := hk
    rw [hls k q1]
    have h1 : (i :: is).contains k = false := by rw [List.contains_cons, q3]; simp [q2]
    have h2 : rem.contains k = false := by
      rw [Bool.eq_false_iff]
      intro h
      obtain ⟨t, ht, e⟩ := hR.sub k (by simpa using h)
      exact q4 t ht e
    rw [h1, h2]; rfl
  refine wpM_firstX (X := X) ho (by simpa using x1) (fun m hm => List.contains_iff_mem.1 (x2 m hm)) (Region.noSelect_spec k4) (fun c a w h => by cases h.1) (fun m hm om hom => ?_) _ listed a w ?_ hrdy (.inl ⟨hg a hF, fun w hw => hy a w hF hw⟩) hA.s ?_ ?_
  · have := (x3 m hm).2
    unfold waitsB at this
    rw [hom] at this
    obtain ⟨e, he, h2⟩ := Array.any_eq_true'.1 this
    simp only [Bool.and_eq_true, Bool.or_eq_true, beq_iff_eq] at h2
    exact ⟨e, he, h2.1, h2.2.imp id List.contains_iff_mem.1⟩
  · intro j oj hj hne hun hno
    have hlt := (Array.getElem?_eq_some_iff.1 hj).1
    rw [getD_tf (by omega), hls j hlt] at hun
    have hmem : j ∈ is ++ T.map (·.1) := by
      rw [List.mem_append]
      by_cases hm : j ∈ is
      · exact .inl hm
      · right
        have : j ∈ rem := by
          simp [List.contains_cons, hne, hm] at hun; exact hun
        obtain ⟨t, ht, e⟩ := hR.sub j this
        exact List.mem_map.2 ⟨t, ht, e⟩
    have := k8 j hmem
    simp only [hj, Bool.or_eq_true] at this
    rcases this with h | h
    · unfold waitsB at h
      rw [hj] at h
      obtain ⟨e, he, h2⟩ := Array.any_eq_true'.1 h
      simp only [Bool.and_eq_true, beq_iff_eq] at h2
      exact (hno e he h2.1 h2.2).elim
    · exact h
  · unfold phB
    rw [List.all_eq_true]
    intro m hm
    have hm' := (x3 m hm).1
    rcases Nat.lt_or_ge m ops.size with hlt | hge
    · rw [hls m hlt]
      have : (i :: is).contains m = true := by rw [List.contains_cons, hm']; simp
      rw [this]; rfl
    · simp [Array.getD, hsz, Nat.not_lt.2 hge]
  · have := k rem (a.put (some d) v) w hR (hF.put hdn v) (hA.put hT') (listed.setIfInBounds i true) (by simp [hsz]) (listed_set k1 hsz k2 hir hls)
    rw [hd]
    exact this
theorem todo_pureY {P : Program} {ops : Array Oper} {Q : Exit → Act → World → Prop} {wd W : World} {T : Alcs} {muts : List Nat} {n : Nat} {L : List (Nat × Value)} {l : List Res} {i : Nat} {is : List Nat} {o : Oper} {d : Nat} {v : Value}
    (hl : Lay P ops T n) (hk : pureB ops T muts i is = true) (ho : ops[i]? = some o) (hd : o.dst = some d) (hdn : Nat.ble (d + 1) n = true) (hT : T.all (fun t => t.2.1 != d) = true)
    (hy : ∀ a, Fr n L a → YieldsIf P ops (fun _ => True) o v a)
    (k : ∀ rem a w, Rem T rem → Fr n ((d, v) :: L) a → At T wd W l rem a w → Todo P ops Q wd muts rem is a w) :
    ∀ rem a w, Rem T rem → Fr n L a → At T wd W l rem a w → Todo P ops Q wd muts rem (i :: is) a w := by
  intro rem a w hR hF hA listed hsz hls
  have hT' : ∀ t ∈ T, t.2.1 ≠ d := fun t ht => by simpa using List.all_eq_true.1 hT t ht
  simp only [pureB, ho, Bool.and_eq_true, decide_eq_true_eq, Bool.not_eq_true', List.all_eq_true, bne_iff_ne] at hk
  obtain ⟨⟨⟨⟨⟨⟨k1, k2⟩, k3⟩, k4⟩, k5⟩, k6⟩, k8⟩ := hk
  have hir : rem.contains i = false := by
    rw [Bool.eq_false_iff]
    intro h
    obtain ⟨t, ht, e⟩ := hR.sub i (by simpa using h)
    exact (k3 t ht).1 e
  have hfu : (i :: is).length + rem.length = (is.length + rem.length) + 1 := by simp; omega
  rw [hfu]
  have hi0 : listed.getD i true = false := by rw [getD_tf (by omega), hls i k1]; simp
  have hrdy : i ∈ Region.ready .any ops listed := by
    refine depsB_yes k5 hi0 (fun k hk => ?_)
    simp only [Bool.and_eq_true, decide_eq_true_eq, bne_iff_ne, Bool.not_eq_true', List.all_eq_true] at hk
    obtain ⟨⟨⟨q1, q2⟩, q3⟩, q4⟩ := hk
    rw [hls k q1]
    have h1 : (i :: is).contains k = false := by rw [List.contains_cons, q3]; simp [q2]
    have h2 : rem.contains k = false := by
      rw [Bool.eq_false_iff]
      intro h
      obtain ⟨t, ht, e⟩ := hR.sub k (by simpa using h)
      exact q4 t ht e
    rw [h1, h2]; rfl
  refine wpM_firstP ho (by simpa using k6) (Region.noSelect_spec k4) (fun c a w h => by cases h.1) _ listed a w ?_ hrdy (hy a hF) (fun _ => hA.s) ?_
  · intro j oj hj hne hun hno
    have hlt := (Array.getElem?_eq_some_iff.1 hj).1
    rw [getD_tf (by omega), hls j hlt] at hun
    have hmem : j ∈ is ++ T.map (·.1) := by
      rw [List.mem_append]
      by_cases hm : j ∈ is
      · exact .inl hm
      · right
        have : j ∈ rem := by
          simp [List.contains_cons, hne, hm] at hun; exact hun
        obtain ⟨t, ht, e⟩ := hR.sub j this
        exact List.mem_map.2 ⟨t, ht, e⟩
    have := k8 j hmem
    simp only [hj, Bool.or_eq_true] at this
    rcases this with h | h
    · unfold waitsB at h
      rw [hj] at h
      obtain ⟨e, he, h2⟩ := Array.any_eq_true'.1 h
      simp only [Bool.and_eq_true, beq_iff_eq] at h2
      exact (hno e he h2.1 h2.2).elim
    · exact h
  · have := k rem (a.put (some d) v) w hR (hF.put hdn v) (hA.put hT') (listed.setIfInBounds i true) (by simp [hsz]) (listed_set k1 hsz k2 hir hls)
    rw [hd]
    exact this
/-! ### regions that draw their order: several operations may come up next -/
section
variable {P : Program} {ops : Array Oper} {Q : Exit → Act → World → Prop} {wd W : World} {T : Alcs} {muts : List Nat} {n : Nat} {L : List (Nat × Value)} {l : List Res}
end
/-! ### division, nil, structs held against each other -/
section
variable {P : Program} {ρ : Operand → Value} {w : World} {D : Option Tmp} {ty : TypeId} {ps : String} {af : Array Edge} {gd : Option (Nat × Bool)} {t t' : TypeId} {k : IntKind} {x y : Operand} {m q : Int}
theorem r_quo (h0 : q ≠ 0) (hx : ρ x = .int k m) (hy : ρ y = .int k q) : (execOp ρ ⟨D, .binOp .quo t x y t', ty, ps, af, gd⟩).run P w = .ok (.value (.int k (k.wrap (m.tdiv q)))) w := by
 simp [execOp, hx, hy, go_sem, Op.intDiv, h0]
theorem r_rem (h0 : q ≠ 0) (hx : ρ x = .int k m) (hy : ρ y = .int k q) : (execOp ρ ⟨D, .binOp .rem t x y t', ty, ps, af, gd⟩).run P w = .ok (.value (.int k (m.tmod q))) w := by
 simp [execOp, hx, hy, go_sem, Op.intDiv, h0]
end
/-! ### an element that is borrowed: its cells one by one -/
section
variable {P : Program} {ops : Array Oper} {Q : Exit → Act → World → Prop} {a : Act} {w w0 : World} {rest : List Oper} {n d : Nat} {L : List (Nat × Value)} {l : List Res} {v u : Value}
variable {ty : TypeId} {ps : String} {af : Array Edge}
end
/-! ### slices of slices -/
/-- where a slice's slice begins -/
def cutA (A : Option Addr) (sz c i : Nat) : Option Addr := if c = i then A else A.map (·.add (i * sz))
section
variable {P : Program} {ρ : Operand → Value} {w w0 : World} {D : Option Tmp} {ty : TypeId} {ps : String} {af : Array Edge} {gd : Option (Nat × Bool)} {t : TypeId} {x y z : Operand} {A : Option Addr} {n c i j sz b : Nat} {k k' : IntKind} {l : List Res}
end
section
variable {α : Type} {ek : EK α} {w w0 : World} {A : Option Addr} {n c i j : Nat} {xs : List α} {l : List Res} {q : Nat}
/-- a slice of a row that is read -/
theorem Rd.cut (h : ek.Rd w (.slice A n c) xs) (h1 : i ≤ j) (h2 : j ≤ n) : ek.Rd w (.slice (cutA A ek.sz c i) (j - i) (c - i)) ((xs.take j).drop i) := by
 obtain ⟨A', n', c', e, hn, hc, hm, hx⟩ := h
 simp only [Value.slice.injEq] at e
 obtain ⟨rfl, rfl, rfl⟩ := e
 refine ⟨_, _, _, rfl, by simp; omega, by omega, by omega, fun p x hp => ?_⟩
 rw [List.getElem?_drop, List.getElem?_take] at hp
 split at hp
 · rename_i hlt
   obtain ⟨g, o, rfl, cs, k1, k2, k3⟩ := hx _ x hp
   have hne : ¬ c = i := by omega
   refine ⟨g, o + i * ek.sz, by simp [cutA, hne, Addr.add_lit], cs, k1, k2, fun jj u hu => ?_⟩
   have := k3 jj u hu
   rw [Nat.add_mul, ← Nat.add_assoc] at this
   exact this
 · cases hp
end
/-! ### structs of numbers -/
section
variable {P : Program} {ρ : Operand → Value} {w : World} {D : Option Tmp} {ty : TypeId} {ps : String} {af : Array Edge} {gd : Option (Nat × Bool)} {t t' : TypeId} {x y : Operand} {n : Nat}
theorem r_neqs {a b : ByteArray} (hx : ρ x = .string a) (hy : ρ y = .string b) : (execOp ρ ⟨D, .binOp .neq t x y t', ty, ps, af, gd⟩).run P w = .ok (.value (.bool (!(a.data.toList == b.data.toList)))) w := by
 simp [execOp, hx, hy, binOp, Op.stringOp, eqGuard, ByteArray.toList_eq, go_sem]
theorem r_eqls {a b : ByteArray} (hx : ρ x = .string a) (hy : ρ y = .string b) : (execOp ρ ⟨D, .binOp .eql t x y t', ty, ps, af, gd⟩).run P w = .ok (.value (.bool (a.data.toList == b.data.toList))) w := by
 simp [execOp, hx, hy, binOp, Op.stringOp, eqGuard, ByteArray.toList_eq, go_sem]
end
section
variable {P : Program} {ops : Array Oper} {Q : Exit → Act → World → Prop} {a : Act} {w w0 : World} {rest : List Oper} {n d : Nat} {L : List (Nat × Value)} {l : List Res} {v u : Value}
variable {ty : TypeId} {ps : String} {af : Array Edge} {D : Option Tmp} {gd : Option (Nat × Bool)} {t : TypeId}
end
def oval (L : List (Nat × Value)) : Operand → Option Value
  | .tmp t => lk L t
  | .const v => some v
  | .func f => some (.func (.func f) #[] #[])
  | _ => none
/-- whether an operation is wanted, as far as the slots tell -/
def wantL (ops : Array Oper) (L : List (Nat × Value)) (o : Oper) : Option Bool :=
  match o.guard with
  | none => some true
  | some (j, b) => match (ops[j]?).bind (·.dst) with
    | none => none
    | some t => match lk L t with
      | some (.bool c) => some (c == b)
      | some _ => some false
      | none => none
section
variable {P : Program} {ops : Array Oper} {Q : Exit → Act → World → Prop} {a : Act} {w w' : World} {rest : List Oper} {o : Oper} {n d : Nat} {L L' : List (Nat × Value)} {v : Value} {Qa : Act → Prop}
theorem oval_ev (hF : Fr n L a) {x : Operand} (h : oval L x = some v) : a.eval x = v := by
 cases x with
 | tmp t => exact hF.ev h
 | const u => simp only [oval, Option.some.injEq] at h; subst h; rfl
 | func f => simp only [oval, Option.some.injEq] at h; subst h; rfl
 | _ => simp [oval] at h
theorem want_of (hF : Fr n L a) {c : Bool} (h : wantL ops L o = some c) : Region.wanted o (yielded ops a.tmps) = c := by
 unfold wantL at h
 unfold Region.wanted
 cases hg : o.guard with
 | none => rw [hg] at h; simpa using h
 | some q =>
   obtain ⟨j, b⟩ := q
   rw [hg] at h
   dsimp only at h ⊢
   cases hj : (ops[j]?).bind (·.dst) with
   | none => rw [hj] at h; cases h
   | some t =>
     rw [hj] at h
     dsimp only at h
     cases ht : lk L t with
     | none => rw [ht] at h; cases h
     | some u =>
       rw [ht] at h
       unfold yielded
       rw [hj, Option.bind_some, hF.get _ _ ht]
       cases u with
       | bool e =>
         simp only [Option.some.injEq] at h
         subst h
         cases e <;> cases b <;> rfl
       | _ =>
         simp only [Option.some.injEq] at h
         subst h
         rfl
/-- a region, and what comes behind it -/
theorem ws {id : Nat} {l : List Oper} {y : Code} (h : ∀ K : Act → World → Prop, (∀ a w, y.wp P Q a w → K a w) → wpList P l.toArray (Exit.then K Q) l a w) : (Code.seq (.region id l.toArray false) y).wp P Q a w :=
  wp_seq_k fun K hK => wp_region_lit (h K hK)
end
section
variable {w0 w w' : World} {l : List Res} {r : Res} {i b : Nat}
end
section
variable {P : Program} {ops : Array Oper} {Q : Exit → Act → World → Prop} {wd W : World} {T : Alcs} {muts : List Nat} {n : Nat} {L : List (Nat × Value)} {l : List Res}
end
open Go Go.RowKit Go.ChangeShapes Go.WideShapes Go.ChangeAt
/-- data of type t reads as an x of which K and ok hold -/
def Opens (P : Program) (t : TypeId) {α : Type} (sz : Nat) (K : World → α → List Value → Prop) (ok : α → Prop) : Prop :=
  P.cellsOf t = sz ∧ ∀ (H : Type) (enc : TypeId × Value → H) (W : World) (sp : Nat → Bool) (fuel : Nat) (cs : List Value) (y : DataW H × List MemPlace),
    DataW.trod enc P W 0 sp true fuel t cs = some y → ∃ x, K W x cs ∧ cs.length = sz ∧ ok x
def int64 (n : Int) : Prop := -9223372036854775808 ≤ n ∧ n ≤ 9223372036854775807
abbrev Config.wf (c : Config) : Prop := int64 c.threads ∧ int64 c.keys ∧ int64 c.capacity ∧ int64 c.batch ∧ int64 c.policy ∧ int64 c.clockMax
abbrev Op.wf (o : Op) : Prop := int64 o.kind ∧ int64 o.key ∧ int64 o.value
abbrev Entry.wf (e : Entry) : Prop := int64 e.handle ∧ int64 e.key ∧ int64 e.low ∧ int64 e.high
abbrev Result.wf (r : Result) : Prop := int64 r.code ∧ int64 r.value
abbrev Event.wf (e : Event) : Prop := int64 e.thread ∧ e.op.wf ∧ e.result.wf ∧ int64 e.start ∧ int64 e.fin
abbrev Thread.wf (t : Thread) : Prop := int64 t.pc ∧ t.op.wf ∧ t.result.wf ∧ int64 t.snapshot ∧ int64 t.node ∧ int64 t.prev ∧ int64 t.curr ∧ int64 t.next ∧ int64 t.seen ∧ int64 t.stamp ∧ int64 t.at_ ∧ (∀ x ∈ t.found, int64 x) ∧ (∀ x ∈ t.free, int64 x) ∧ (∀ x ∈ t.buffer, x.wf) ∧ (∀ x ∈ t.work, x.wf) ∧ (∀ x ∈ t.limbo, int64 x)
abbrev State.wf (s : State) : Prop := s.config.wf ∧ (∀ x ∈ s.cells, int64 x) ∧ (∀ x ∈ s.generations, int64 x) ∧ (∀ x ∈ s.threads, x.wf) ∧ int64 s.steps ∧ int64 s.changes ∧ int64 s.retries ∧ int64 s.faults
abbrev Machine.wf (m : Machine) : Prop := m.state.wf ∧ (∀ x ∈ m.programs, ∀ y ∈ x, y.wf) ∧ (∀ x ∈ m.next, int64 x) ∧ (∀ x ∈ m.events, x.wf) ∧ int64 m.time
abbrev Model.wf (m : Model) : Prop := (∀ x ∈ m.values, int64 x) ∧ (∀ x ∈ m.snapshots, ∀ y ∈ x, int64 y)
section
variable {P : Program} {t : TypeId}
theorem wf_i64 {n : Int} (h : (Lit.int .i64 n).wf = true) : int64 n := by
 simp [Lit.wf, IntKind.min, IntKind.max, IntKind.signed, IntKind.bits] at h
 unfold int64
 omega
theorem opens_int (ht : P.underlying t = some (.int .i64)) (hc : P.cellsOf t = 1) : Opens P t 1 (fun _ n cs => cs = [vi n]) int64 := by
 refine ⟨hc, fun H enc W sp fuel cs y h => ?_⟩
 obtain ⟨n, rfl, _, hw⟩ := DataW.trod_int ht h
 exact ⟨n, rfl, rfl, wf_i64 hw⟩
/-- a struct's field: its type, its place -/
def fldB (P : Program) (t : TypeId) (i : Nat) : Option (TypeId × Nat) :=
  match P.underlying t with
  | some (.struct fs) => (fs[i]?).map fun f => (f.type, f.offset)
  | _ => none
theorem trod_len {i : Nat} {T o : Nat} (hf : fldB P t i = some (T, o)) {H : Type} {enc : TypeId × Value → H} {W : World} {sp : Nat → Bool} {hd : Bool} {fuel : Nat} {cs : List Value} {y : DataW H × List MemPlace} (h : DataW.trod enc P W 0 sp hd fuel t cs = some y) : cs.length = P.cellsOf t := by
 unfold fldB at hf
 split at hf
 · rename_i fs hfs
   obtain ⟨xs, n, _, _, hl, _⟩ := DataW.trod_struct hfs h
   exact hl
 · simp at hf
theorem trod_field {i : Nat} {T o : Nat} (hf : fldB P t i = some (T, o)) {H : Type} {enc : TypeId × Value → H} {W : World} {sp : Nat → Bool} {hd : Bool} {fuel : Nat} {cs : List Value} {y : DataW H × List MemPlace} (h : DataW.trod enc P W 0 sp hd fuel t cs = some y) :
    ∃ n y', DataW.trod enc P W 0 sp hd n T ((cs.drop o).take (P.cellsOf T)) = some y' := by
  unfold fldB at hf
  split at hf
  · rename_i fs hfs
    obtain ⟨f, hfi, hfe⟩ := Option.map_eq_some_iff.1 hf
    simp only [Prod.mk.injEq] at hfe
    obtain ⟨rfl, rfl⟩ := hfe
    obtain ⟨xs, n, _, _, _, hlen, hf⟩ := DataW.trod_struct hfs h
    have hi : i < xs.length := by rw [hlen]; exact (Array.getElem?_eq_some_iff.1 hfi).1
    exact ⟨n, xs[i], by rw [hf i f hfi]; exact List.getElem?_eq_getElem hi⟩
  · simp at hf
/-- a field, opened -/
theorem Opens.field {α : Type} {sz : Nat} {K : World → α → List Value → Prop} {ok : α → Prop} {i T o : Nat} (hT : Opens P T sz K ok) (hf : fldB P t i = some (T, o)) {H : Type} {enc : TypeId × Value → H} {W : World} {sp : Nat → Bool} {fuel : Nat} {cs : List Value} {y : DataW H × List MemPlace}
    (h : DataW.trod enc P W 0 sp true fuel t cs = some y) : ∃ x, K W x ((cs.drop o).take sz) ∧ ok x := by
  obtain ⟨n, y', h'⟩ := trod_field hf h
  obtain ⟨x, h1, h2, h3⟩ := hT.2 _ _ _ _ _ _ _ h'
  rw [hT.1] at h1
  exact ⟨x, h1, h3⟩
theorem drop_split (cs : List Value) (o s : Nat) : cs.drop o = (cs.drop o).take s ++ cs.drop (o + s) := by
 rw [← List.drop_drop, List.take_append_drop]
theorem okWide_struct {i : Nat} {x : TypeId × Nat} (hf : fldB P t i = some x) {w : World} {r : Reach} {b : Nat} {v : Value} (h : Value.okWide P w r b t v) : ∃ cs : List Value, v = .agg cs.toArray := by
 unfold fldB at hf
 split at hf
 · rename_i fs hfs
   simp only [Value.okWide, hfs] at h
   obtain ⟨cs, rfl, _⟩ := h
   exact ⟨cs.toList, by simp⟩
 · simp at hf
theorem agg_cells (cs : List Value) : (Value.agg cs.toArray).cells.toList = cs := rfl
end
section
variable {P : Program} {ρ : Operand → Value} {w : World} {D : Option Tmp} {ty : TypeId} {ps : String} {af : Array Edge} {gd : Option (Nat × Bool)} {t t' : TypeId} {x y : Operand} {k k' yk : IntKind} {m q : Int}
theorem r_nilCheck {g o : Nat} (hx : ρ x = .pointer (some ⟨g, o, none⟩)) :
    (execOp ρ ⟨D, .nilCheck x, ty, ps, af, gd⟩).run P w = .ok (.value (.pointer (some ⟨g, o, none⟩))) w := by simp [execOp, hx, go_sem]
theorem r_convw (ht : P.underlying t = some (.int k)) (ht' : P.underlying t' = some (.int k')) (hx : ρ x = .int k m) : (execOp ρ ⟨D, .convert t t' x, ty, ps, af, gd⟩).run P w = .ok (.value (.int k' (k'.wrap m))) w := by
 simp [execOp, hx, convert, run_underlying ht, run_underlying ht', Conv.intToInt, go_sem]
end
/-- bytes -/
abbrev byteEK : EK Int := flatEK 1 (fun n => [.int .u8 n]) (fun _ => rfl) (fun x u hu => by simp at hu; subst hu; rfl)
section
variable {w0 w : World} {l : List Res} {g n q : Nat} {vb : Value}
end
section
variable {P : Program} {ops : Array Oper} {Q : Exit → Act → World → Prop} {wd W : World} {T : Alcs} {muts : List Nat} {n : Nat} {L : List (Nat × Value)} {l : List Res}
end
section
variable {P : Program} {a : Act} {w w0 : World} {n : Nat} {L : List (Nat × Value)} {l : List Res}
end
section
variable {P : Program} {ops : Array Oper} {Q : Exit → Act → World → Prop} {a : Act} {w w0 : World} {rest : List Oper} {n d : Nat} {L : List (Nat × Value)} {l : List Res} {v u : Value}
variable {ty : TypeId} {ps : String} {af : Array Edge}
variable {α : Type} {ek : EK α} {q i m c g o j : Nat} {xs : List α} {x x' : α}
end
section
variable {P : Program} {ops : Array Oper} {Q : Exit → Act → World → Prop} {wd W : World} {T : Alcs} {muts : List Nat} {n : Nat} {L : List (Nat × Value)} {l : List Res}
end
section
variable {w0 w : World} {l : List Res} {ts : List Thread} {t t' : Thread} {p g o m c : Nat} {v : Value}
end
abbrev JX {X : Type} (W : World) (lf : X → List Res → List Res) (r : List Res) (w : World) : Prop := ∃ x, Sep W (lf x r) w
section
variable {P : Program} {ops : Array Oper} {Q : Exit → Act → World → Prop} {X : Type} {lf : X → List Res → List Res} {r l : List Res} {W : World} {muts : List Nat} {n : Nat} {L : List (Nat × Value)}
end
/-- places of fields; types of one cell; types of several and how many; types of slices -/
structure Tab where
  offs : List (Nat × Nat × Nat)
  scs : List Nat
  ags : List (Nat × Nat)
  sls : List Nat
def slcB (P : Program) (t : TypeId) : Bool := match P.underlying t with
  | some (.slice e) => Nat.beq e (P.elem t)
  | _ => false
def Tab.okB (P : Program) (T : Tab) : Bool := T.offs.all (fun e => decide (offB P e.1 e.2.1 = some e.2.2)) && T.scs.all (scalB P) && T.ags.all (fun e => aggB P e.1 && decide (szB P e.1 = some e.2)) && T.sls.all (slcB P)
def offT : List (Nat × Nat × Nat) → Nat → Nat → Option Nat
  | [], _, _ => none
  | (t, f, m) :: l, t', f' => cond (Nat.beq t t' && Nat.beq f f') (some m) (offT l t' f')
def memT : List Nat → Nat → Bool
  | [], _ => false
  | t :: l, t' => cond (Nat.beq t t') true (memT l t')
def agT : List (Nat × Nat) → Nat → Option Nat
  | [], _ => none
  | (t, m) :: l, t' => cond (Nat.beq t t') (some m) (agT l t')
def binV : BinOp → Int → Int → Option Value
  | .add, m, q => some (.int .i64 (IntKind.i64.wrap (m + q)))
  | .sub, m, q => some (.int .i64 (IntKind.i64.wrap (m - q)))
  | .mul, m, q => some (.int .i64 (IntKind.i64.wrap (m * q)))
  | .eql, m, q => some (.bool (decide (m = q)))
  | .neq, m, q => some (.bool (!decide (m = q)))
  | .lss, m, q => some (.bool (decide (m < q)))
  | .leq, m, q => some (.bool (decide (m ≤ q)))
  | .gtr, m, q => some (.bool (decide (q < m)))
  | .geq, m, q => some (.bool (decide (q ≤ m)))
  | _, _, _ => none
def pureV (T : Tab) (L : List (Nat × Value)) : Go.Op → Option Value
  | .move x => oval L x
  | .assign x => oval L x
  | .nilCheck x => match oval L x with
    | some (.pointer (some ⟨g, o, none⟩)) => some (.pointer (some ⟨g, o, none⟩))
    | _ => none
  | .fieldAddr t x f => match oval L x with
    | some (.pointer (some ⟨g, o, none⟩)) => match offT T.offs t f with
      | some m => some (.pointer (some ⟨g, o + m, none⟩))
      | none => none
    | _ => none
  | .binOp op _ x y _ => match oval L x with
    | some (.int .i64 m) => match oval L y with
      | some (.int .i64 q) => binV op m q
      | _ => none
    | _ => none
  | .unOp .not _ x => match oval L x with
    | some (.bool b) => some (.bool (!b))
    | _ => none
  | .pick c x y => match oval L c with
    | some (.bool true) => oval L x
    | some (.bool false) => oval L y
    | _ => none
  | .extract x i => match oval L x with
    | some (.tuple us) => us[i]?
    | _ => none
  | .call ⟨.builtin .len, ⟨[x]⟩, ⟨[t]⟩⟩ => match oval L x with
    | some (.slice _ m _) => cond (memT T.sls t) (some (.int .i64 (m : Int))) none
    | _ => none
  | _ => none
/-- a load out of a box: what it gives, and the block it reads -/
def loadV (T : Tab) (cs : List Value) (L : List (Nat × Value)) : Go.Op → Option (Value × Nat)
  | .load t x => match oval L x with
    | some (.pointer (some ⟨g, o, none⟩)) => match memT T.scs t with
      | true => match cs[o]? with
        | some u => some (u, g)
        | none => none
      | false => match agT T.ags t with
        | some sz => cond (Nat.beq o 0 && Nat.beq sz cs.length) (some (.agg cs.toArray, g)) none
        | none => none
    | _ => none
  | _ => none
/-- a run of m operations: the slots then, what is left, the blocks that were read -/
def gos (T : Tab) (ops : Array Oper) (n : Nat) (cs : List Value) : Nat → List Oper → List (Nat × Value) → Option (List (Nat × Value) × List Oper × List Nat)
  | 0, l, L => some (L, l, [])
  | m + 1, [], L => none
  | m + 1, o :: l, L => match o.dst with
    | none => none
    | some d => match Nat.ble (d + 1) n with
      | false => none
      | true => match wantL ops L o with
        | none => none
        | some false => gos T ops n cs m l ((d, undef) :: L)
        | some true => match pureV T L o.op with
          | some v => gos T ops n cs m l ((d, v) :: L)
          | none => match loadV T cs L o.op with
            | none => none
            | some (v, g) => match gos T ops n cs m l ((d, v) :: L) with
              | none => none
              | some (L', l', gs) => some (L', l', g :: gs)
section
variable {P : Program} {ops : Array Oper} {Q : Exit → Act → World → Prop} {a : Act} {w w' w0 : World} {rest : List Oper} {o : Oper} {n d : Nat} {L L' : List (Nat × Value)} {v : Value} {Qa : Act → Prop} {T : Tab} {t f m : Nat}
theorem offT_of : ∀ {l : List (Nat × Nat × Nat)}, l.all (fun e => decide (offB P e.1 e.2.1 = some e.2.2)) = true → offT l t f = some m → offB P t f = some m
  | [], _, h => by simp [offT] at h
  | (t', f', m') :: l, ha, h => by
    simp only [List.all_cons, Bool.and_eq_true, decide_eq_true_eq] at ha
    simp only [offT] at h
    cases hb : (Nat.beq t' t && Nat.beq f' f) with
    | true =>
      rw [hb] at h
      simp only [Bool.and_eq_true] at hb
      have e1 := Nat.eq_of_beq_eq_true hb.1
      have e2 := Nat.eq_of_beq_eq_true hb.2
      subst e1; subst e2
      simp only [cond_true, Option.some.injEq] at h
      subst h; exact ha.1
    | false => rw [hb] at h; exact offT_of ha.2 h
theorem memT_of {q : Nat → Bool} : ∀ {l : List Nat}, l.all q = true → memT l t = true → q t = true
  | [], _, h => by simp [memT] at h
  | t' :: l, ha, h => by
    simp only [List.all_cons, Bool.and_eq_true] at ha
    simp only [memT] at h
    cases hb : Nat.beq t' t with
    | true => have e := Nat.eq_of_beq_eq_true hb; subst e; exact ha.1
    | false => rw [hb] at h; exact memT_of ha.2 h
theorem agT_of : ∀ {l : List (Nat × Nat)}, l.all (fun e => aggB P e.1 && decide (szB P e.1 = some e.2)) = true → agT l t = some m → aggB P t = true ∧ szB P t = some m
  | [], _, h => by simp [agT] at h
  | (t', m') :: l, ha, h => by
    simp only [List.all_cons, Bool.and_eq_true, decide_eq_true_eq] at ha
    simp only [agT] at h
    cases hb : Nat.beq t' t with
    | true =>
      have e := Nat.eq_of_beq_eq_true hb; subst e
      rw [hb] at h; simp only [cond_true, Option.some.injEq] at h; subst h
      exact ha.1
    | false => rw [hb] at h; exact agT_of ha.2 h
theorem slcB_of (h : slcB P t = true) : P.underlying t = some (.slice (P.elem t)) := by
 unfold slcB at h
 split at h
 · rename_i e he
   rw [he, Nat.eq_of_beq_eq_true h]
 · cases h
theorem pureV_run (hT : T.okB P = true) (hF : Fr n L a) (h : pureV T L o.op = some v) : (execOp a.eval o).run P w = .ok (.value v) w := by
 unfold Tab.okB at hT
 simp only [Bool.and_eq_true] at hT
 obtain ⟨⟨⟨h1, h2⟩, h3⟩, h4⟩ := hT
 obtain ⟨D, op, ty, ps, af, gd⟩ := o
 dsimp only at h
 unfold pureV at h
 split at h
 · exact r_move (oval_ev hF h)
 · exact r_assign (oval_ev hF h)
 · split at h
   · rename_i hx; cases h; exact r_nilCheck (oval_ev hF hx)
   · cases h
 · split at h
   · rename_i hx
     split at h
     · rename_i hm; cases h; exact r_field (offT_of h1 hm) (oval_ev hF hx)
     · cases h
   · cases h
 · rename_i op t x y t'
   split at h
   · rename_i mm hx
     split at h
     · rename_i q hy
       have ex := oval_ev hF hx
       have ey := oval_ev hF hy
       cases op <;> simp only [binV] at h <;> first | (cases h; done) | (cases h; first | exact r_add ex ey | exact r_sub ex ey | exact r_mul ex ey | exact r_eql ex ey | exact r_neq ex ey | exact r_lss ex ey | exact r_leq ex ey | exact r_gtr ex ey | exact r_geq ex ey)
     · cases h
   · cases h
 · split at h
   · rename_i hx; cases h; exact r_not (oval_ev hF hx)
   · cases h
 · split at h
   · rename_i hx; exact r_pick_t (oval_ev hF hx) (oval_ev hF h)
   · rename_i hx; exact r_pick_f (oval_ev hF hx) (oval_ev hF h)
   · cases h
 · split at h
   · rename_i hx; exact r_extract (oval_ev hF hx) h
   · cases h
 · split at h
   · rename_i hx
     cases hm : memT T.sls _ with
     | true => rw [hm] at h; cases h; exact r_len (slcB_of (memT_of h4 hm)) (oval_ev hF hx)
     | false => rw [hm] at h; cases h
   · cases h
 · cases h
theorem loadV_run {cs : List Value} {g : Nat} (hT : T.okB P = true) (hF : Fr n L a) (hb : ∀ j u, cs[j]? = some u → w.cell? ⟨g, j, none⟩ = some u) (h : loadV T cs L o.op = some (v, g)) : (execOp a.eval o).run P w = .ok (.value v) w := by
 unfold Tab.okB at hT
 simp only [Bool.and_eq_true] at hT
 obtain ⟨⟨⟨h1, h2⟩, h3⟩, h4⟩ := hT
 obtain ⟨D, op, ty, ps, af, gd⟩ := o
 dsimp only at h
 unfold loadV at h
 split at h
 · split at h
   · rename_i hx
     split at h
     · rename_i hs
       split at h
       · rename_i hu
         simp only [Option.some.injEq, Prod.mk.injEq] at h
         obtain ⟨rfl, rfl⟩ := h
         exact r_load1 (memT_of h2 hs) (oval_ev hF hx) (hb _ _ hu)
       · cases h
     · split at h
       · rename_i sz hs
         obtain ⟨e1, e2⟩ := agT_of h3 hs
         rename_i g' q _ _ _
         cases hl : (Nat.beq q 0 && Nat.beq sz cs.length) with
         | true =>
           rw [hl] at h
           simp only [cond_true, Option.some.injEq, Prod.mk.injEq] at h
           obtain ⟨rfl, rfl⟩ := h
           simp only [Bool.and_eq_true] at hl
           have e := Nat.eq_of_beq_eq_true hl.1
           subst e
           exact r_loadn e1 (oval_ev hF hx) (fun j u hu => by rw [Nat.zero_add]; exact hb _ _ hu) (by rw [e2, Nat.eq_of_beq_eq_true hl.2])
         | false => rw [hl] at h; cases h
       · cases h
   · cases h
 · cases h
theorem gos_wl (hT : T.okB P = true) {cs : List Value} {g : Nat} (hb : ∀ j u, cs[j]? = some u → w.cell? ⟨g, j, none⟩ = some u) : ∀ {m : Nat} {l : List Oper} {L : List (Nat × Value)} {a : Act} {gs : List Nat} {L' : List (Nat × Value)}, Fr n L a → gos T ops n cs m l L = some (L', rest, gs) → (∀ x ∈ gs, x = g) → (∀ a, Fr n L' a → wpList P ops Q rest a w) → wpList P ops Q l a w
  | 0, l, L, a, gs, L', hF, h, hg, k => by
    simp only [gos, Option.some.injEq, Prod.mk.injEq] at h
    obtain ⟨rfl, rfl, rfl⟩ := h
    exact k a hF
  | m + 1, [], L, a, gs, L', hF, h, hg, k => by simp [gos] at h
  | m + 1, o :: l, L, a, gs, L', hF, h, hg, k => by
    simp only [gos] at h
    cases hd : o.dst with
    | none => rw [hd] at h; cases h
    | some d =>
      rw [hd] at h
      dsimp only at h
      cases hdn : Nat.ble (d + 1) n with
      | false => rw [hdn] at h; cases h
      | true =>
        rw [hdn] at h
        dsimp only at h
        cases hw : wantL ops L o with
        | none => rw [hw] at h; cases h
        | some c =>
          rw [hw] at h
          have hwn := want_of (ops := ops) hF hw
          unfold wpList
          rw [hwn]
          cases c with
          | false =>
            dsimp only at h
            simp only [Bool.false_eq_true, if_false, hd]
            exact gos_wl hT hb (hF.put hdn undef) h hg k
          | true =>
            dsimp only at h
            rw [if_pos rfl]
            unfold Oper.wp
            cases hm : pureV T L o.op with
            | some v =>
              rw [hm] at h
              dsimp only at h
              rw [pureV_run hT hF hm, Oper.upon_value]
              refine .inl ?_
              show wpList P ops Q l (a.put o.dst v) w
              rw [hd]
              exact gos_wl hT hb (hF.put hdn v) h hg k
            | none =>
              rw [hm] at h
              dsimp only at h
              cases hl : loadV T cs L o.op with
              | none => rw [hl] at h; cases h
              | some q =>
                obtain ⟨v, g'⟩ := q
                rw [hl] at h
                dsimp only at h
                cases hr : gos T ops n cs m l ((d, v) :: L) with
                | none => rw [hr] at h; cases h
                | some z =>
                  obtain ⟨L1, l1, gs1⟩ := z
                  rw [hr] at h
                  simp only [Option.some.injEq, Prod.mk.injEq] at h
                  obtain ⟨e1, e2, e3⟩ := h
                  have hr' : gos T ops n cs m l ((d, v) :: L) = some (L', rest, gs1) := by rw [hr, e1, e2]
                  have eg : g' = g := hg g' (e3 ▸ List.mem_cons_self)
                  have hl' : loadV T cs L o.op = some (v, g) := by rw [hl, eg]
                  rw [loadV_run hT hF hb hl', Oper.upon_value]
                  refine .inl ?_
                  show wpList P ops Q l (a.put o.dst v) w
                  rw [hd]
                  exact gos_wl hT hb (hF.put hdn v) hr' (fun x hx => hg x (e3 ▸ List.mem_cons_of_mem _ hx)) k
theorem gos_wq (hT : T.okB P = true) {cs : List Value} {g : Nat} (hb : ∀ w', Below w.heap.size w w' → ∀ j u, cs[j]? = some u → w'.cell? ⟨g, j, none⟩ = some u) : ∀ {m : Nat} {l : List Oper} {L : List (Nat × Value)} {a : Act} {gs : List Nat} {L' : List (Nat × Value)}, Fr n L a → gos T ops n cs m l L = some (L', rest, gs) → (∀ x ∈ gs, x = g) → (∀ a, Fr n L' a → wpQuiet P ops (fun w' => Below w.heap.size w w') Qa rest a) → wpQuiet P ops (fun w' => Below w.heap.size w w') Qa l a
  | 0, l, L, a, gs, L', hF, h, hg, k => by
    simp only [gos, Option.some.injEq, Prod.mk.injEq] at h
    obtain ⟨rfl, rfl, rfl⟩ := h
    exact k a hF
  | m + 1, [], L, a, gs, L', hF, h, hg, k => by simp [gos] at h
  | m + 1, o :: l, L, a, gs, L', hF, h, hg, k => by
    simp only [gos] at h
    cases hd : o.dst with
    | none => rw [hd] at h; cases h
    | some d =>
      rw [hd] at h
      dsimp only at h
      cases hdn : Nat.ble (d + 1) n with
      | false => rw [hdn] at h; cases h
      | true =>
        rw [hdn] at h
        dsimp only at h
        cases hw : wantL ops L o with
        | none => rw [hw] at h; cases h
        | some c =>
          rw [hw] at h
          have hwn := want_of (ops := ops) hF hw
          unfold wpQuiet
          rw [hwn]
          cases c with
          | false =>
            dsimp only at h
            simp only [Bool.false_eq_true, if_false, hd]
            exact gos_wq hT hb (hF.put hdn undef) h hg k
          | true =>
            dsimp only at h
            rw [if_pos rfl]
            cases hm : pureV T L o.op with
            | some v =>
              rw [hm] at h
              dsimp only at h
              refine ⟨v, fun w' hw' => ?_, ?_⟩
              · unfold Oper.quietAt
                rw [pureV_run hT hF hm]
                exact ⟨rfl, rfl⟩
              · rw [hd]; exact gos_wq hT hb (hF.put hdn v) h hg k
            | none =>
              rw [hm] at h
              dsimp only at h
              cases hl : loadV T cs L o.op with
              | none => rw [hl] at h; cases h
              | some q =>
                obtain ⟨v, g'⟩ := q
                rw [hl] at h
                dsimp only at h
                cases hr : gos T ops n cs m l ((d, v) :: L) with
                | none => rw [hr] at h; cases h
                | some z =>
                  obtain ⟨L1, l1, gs1⟩ := z
                  rw [hr] at h
                  simp only [Option.some.injEq, Prod.mk.injEq] at h
                  obtain ⟨e1, e2, e3⟩ := h
                  have hr' : gos T ops n cs m l ((d, v) :: L) = some (L', rest, gs1) := by rw [hr, e1, e2]
                  have eg : g' = g := hg g' (e3 ▸ List.mem_cons_self)
                  have hl' : loadV T cs L o.op = some (v, g) := by rw [hl, eg]
                  refine ⟨v, fun w' hw' => ?_, ?_⟩
                  · unfold Oper.quietAt
                    rw [loadV_run hT hF (hb w' hw') hl']
                    exact ⟨rfl, rfl⟩
                  · rw [hd]; exact gos_wq hT hb (hF.put hdn v) hr' (fun x hx => hg x (e3 ▸ List.mem_cons_of_mem _ hx)) k
/-- m operations that read no memory; m operations that read one box at most (part i); the same in calm regions -/
theorem ra (m : Nat) (hF : Fr n L a) (hT : T.okB P = true) {l : List Oper} (h : gos T ops n [] m l L = some (L', rest, [])) (k : ∀ a, Fr n L' a → wpList P ops Q rest a w) : wpList P ops Q l a w :=
  gos_wl (g := 0) hT (fun j u hu => by simp at hu) hF h (fun x hx => by cases hx) k
theorem all_g {gs : List Nat} {g : Nat} (h : gs = gs.map fun _ => g) : ∀ x ∈ gs, x = g := fun x hx => by
  rw [h] at hx; obtain ⟨_, _, rfl⟩ := List.mem_map.1 hx; rfl
theorem rb {lr : List Res} {g : Nat} {cs : List Value} {gs : List Nat} (m i : Nat) (hF : Fr n L a) (hT : T.okB P = true) {l : List Oper} (hS : Sep w0 lr w) (hi : lr[i]? = some (Box g cs)) (h : gos T ops n cs m l L = some (L', rest, gs)) (hg : gs = gs.map fun _ => g) (k : ∀ a, Fr n L' a → wpList P ops Q rest a w) : wpList P ops Q l a w :=
  gos_wl hT (fun j u hu => hS.box hi hu) hF h (all_g hg) k
theorem qa (m : Nat) (hF : Fr n L a) (hT : T.okB P = true) {l : List Oper} (h : gos T ops n [] m l L = some (L', rest, [])) (k : ∀ a, Fr n L' a → wpQuiet P ops (fun w' => Below w.heap.size w w') Qa rest a) : wpQuiet P ops (fun w' => Below w.heap.size w w') Qa l a :=
  gos_wq (g := 0) hT (fun w' hb j u hu => by simp at hu) hF h (fun x hx => by cases hx) k
theorem qb {lr : List Res} {g : Nat} {cs : List Value} {gs : List Nat} (m i : Nat) (hF : Fr n L a) (hT : T.okB P = true) {l : List Oper} (hS : Sep w0 lr w) (hi : lr[i]? = some (Box g cs)) (h : gos T ops n cs m l L = some (L', rest, gs)) (hg : gs = gs.map fun _ => g) (k : ∀ a, Fr n L' a → wpQuiet P ops (fun w' => Below w.heap.size w w') Qa rest a) : wpQuiet P ops (fun w' => Below w.heap.size w w') Qa l a :=
  gos_wq hT (fun w' hb j u hu => (hS.ext hb).box hi hu) hF h (all_g hg) k
end
end Go.Proofs.YtbgacfdnmbhloaaDoor.Sl
namespace Go.Proofs.YtbgacfdnmbhloaaDoor.Wk
open Go Go.RowKit Sl
def tb : Tab := ⟨[(23, 0, 0), (23, 1, 1), (23, 2, 2), (25, 0, 0), (25, 1, 1), (27, 0, 0), (27, 1, 1), (27, 2, 4), (27, 3, 6), (27, 4, 7), (29, 0, 0), (29, 1, 1), (29, 2, 2), (30, 0, 0), (30, 1, 1), (32, 0, 0), (32, 1, 1), (32, 2, 4), (32, 3, 6), (32, 4, 7), (48, 0, 0), (48, 1, 1)], [3, 5, 9, 45, 46, 61], [(23, 3), (25, 2), (27, 8), (29, 3), (30, 2), (32, 8)], [42, 45]⟩
theorem tk : tb.okB Tryd.prog = true := by kernel_rfl
def fns : List Nat := [4, 5, 6, 7, 8, 9, 10, 11, 12, 13, 14, 15, 16, 17, 18, 19, 20, 21, 22, 23, 24, 25, 26, 27, 28, 29, 30, 31, 34, 35, 36, 37, 38, 39, 40, 41, 42, 43]
theorem fk : fns.all (enterB Tryd.prog) = true := by kernel_rfl
def t1 : List Nat := [3, 5, 45, 46]
theorem t1k : t1.all (fun t => decide (szB Tryd.prog t = some 1)) = true := by kernel_rfl
end Go.Proofs.YtbgacfdnmbhloaaDoor.Wk
namespace Go.Proofs.YtbgacfdnmbhloaaDoor.Sl
open Go Go.RowKit
set_option linter.unusedVariables false
set_option linter.unusedSimpArgs false
section
variable {P : Program} {ops : Array Oper} {Q : Exit → Act → World → Prop} {X : Type} {lf : X → List Res → List Res} {r l : List Res} {W : World} {muts : List Nat} {n : Nat} {L : List (Nat × Value)}
end
end Go.Proofs.YtbgacfdnmbhloaaDoor.Sl
namespace Go.Proofs.YtbgacfdnmbhloaaDoor.Wk
open Go Go.RowKit Sl
set_option linter.unusedVariables false
set_option linter.unusedSimpArgs false
theorem zb : (∀ b : Bool, ((!b) = true) = (b = false)) ∧ (∀ b : Bool, ((!b) = false) = (b = true)) ∧ (∀ a b : Bool, ((a || b) = true) = (a = true ∨ b = true)) ∧ (∀ a b : Bool, ((a && b) = true) = (a = true ∧ b = true)) ∧ (∀ a b : Bool, ((a || b) = false) = (a = false ∧ b = false)) ∧ (∀ a b : Bool, ((a && b) = false) = (a = false ∨ b = false)) ∧ (∀ (p : Prop) [Decidable p], (decide p = true) = p) ∧ (∀ (p : Prop) [Decidable p], (decide p = false) = ¬ p) :=
  ⟨Bool.not_eq_true', Bool.not_eq_false', Bool.or_eq_true, Bool.and_eq_true, fun a b => by cases a <;> cases b <;> simp, fun a b => by cases a <;> cases b <;> simp, fun p _ => decide_eq_true_eq, fun p _ => by simp⟩
theorem t1_of {t : Nat} : ∀ {l : List Nat}, l.all (fun t => decide (szB Tryd.prog t = some 1)) = true → memT l t = true → szB Tryd.prog t = some 1 := fun h h' => of_decide_eq_true (memT_of h h')
theorem ag_of {t m : Nat} (h : agT tb.ags t = some m) : aggB Tryd.prog t = true ∧ szB Tryd.prog t = some m := by
 have hT := tk
 unfold Tab.okB at hT
 simp only [Bool.and_eq_true] at hT
 exact agT_of hT.1.2 h
/-- the list with one changed, if the place is there -/
def setO {α : Type} : List α → Nat → α → Option (List α)
  | [], _, _ => none
  | _ :: l, 0, y => some (y :: l)
  | x :: l, n + 1, y => match setO l n y with
    | some l' => some (x :: l')
    | none => none
theorem setO_of {α : Type} : ∀ {l : List α} {n : Nat} {y : α} {l' : List α}, setO l n y = some l' → l.set n y = l' ∧ n < l.length
  | [], n, y, l', h => by simp [setO] at h
  | x :: l, 0, y, l', h => by simp only [setO, Option.some.injEq] at h; subst h; simp
  | x :: l, n + 1, y, l', h => by
    simp only [setO] at h
    split at h
    · rename_i e
      cases h
      have := setO_of e
      exact ⟨by simp [this.1], by simp [this.2]⟩
    · cases h
def splitO {α : Type} : Nat → List α → Option (List α × List α)
  | 0, l => some ([], l)
  | n + 1, x :: l => match splitO n l with
    | some (a, b) => some (x :: a, b)
    | none => none
  | _ + 1, [] => none
theorem splitO_of {α : Type} : ∀ {n : Nat} {l a b : List α}, splitO n l = some (a, b) → l = a ++ b ∧ a.length = n
  | 0, l, a, b, h => by simp only [splitO, Option.some.injEq, Prod.mk.injEq] at h; obtain ⟨rfl, rfl⟩ := h; simp
  | n + 1, [], a, b, h => by simp [splitO] at h
  | n + 1, x :: l, a, b, h => by
    simp only [splitO] at h
    split at h
    · rename_i e
      simp only [Option.some.injEq, Prod.mk.injEq] at h
      obtain ⟨rfl, rfl⟩ := h
      have := splitO_of e
      exact ⟨by simp [this.1], by simp [this.2]⟩
    · cases h
def ovals (L : List (Nat × Value)) : List Operand → Option (List Value)
  | [] => some []
  | x :: l => match oval L x with
    | some v => match ovals L l with
      | some vs => some (v :: vs)
      | none => none
    | none => none
theorem ovals_ev {n : Nat} {L : List (Nat × Value)} {a : Act} (hF : Fr n L a) : ∀ {xs : List Operand} {vs : List Value}, ovals L xs = some vs → xs.map a.eval = vs
  | [], vs, h => by simp only [ovals, Option.some.injEq] at h; subst h; rfl
  | x :: xs, vs, h => by
    simp only [ovals] at h
    split at h
    · rename_i e
      split at h
      · rename_i e'
        simp only [Option.some.injEq] at h
        subst h
        rw [List.map_cons, oval_ev hF e, ovals_ev hF e']
      · cases h
    · cases h
/-- what an operation calls, and with what -/
def callV (ops : Array Oper) (n : Nat) (L : List (Nat × Value)) (o : Oper) : Option (Nat × Nat × List Value) := match o.dst with
  | none => none
  | some d => match Nat.ble (d + 1) n with
    | false => none
    | true => match wantL ops L o with
      | some true => match o.op with
        | .call ⟨.value (.func f), xs, _⟩ => match memT fns f with
          | true => match ovals L xs.toList with
            | some vs => some (d, f, vs)
            | none => none
          | false => none
        | _ => none
      | _ => none
section
variable {ops : Array Oper} {Q : Exit → Act → World → Prop} {a : Act} {w w' w0 W : World} {rest : List Oper} {o : Oper} {n d f : Nat} {L L' L2 : List (Nat × Value)} {v : Value} {vs : List Value} {Qa : Act → Prop} {lr lr' : List Res} {l B A : List Oper} {B' : List (Nat × Value)} {c e : Bool} {g : Nat} {cs : List Value} {gs : List Nat} {K Y : Act → World → Prop}
theorem callV_of (hF : Fr n L a) (h : callV ops n L o = some (d, f, vs)) : o.dst = some d ∧ Nat.ble (d + 1) n = true ∧ Region.wanted o (yielded ops a.tmps) = true ∧ ∀ w, (execOp a.eval o).run Tryd.prog w = .ok (.enter f vs.toArray) w := by
 unfold callV at h
 split at h
 · cases h
 rename_i d' hd
 split at h
 · cases h
 rename_i hb
 split at h
 · rename_i hw
   split at h
   · rename_i f' xs ts hop
     split at h
     · rename_i hm
       split at h
       · rename_i vs' hv
         simp only [Option.some.injEq, Prod.mk.injEq] at h
         obtain ⟨rfl, rfl, rfl⟩ := h
         refine ⟨hd, hb, want_of hF hw, fun w => ?_⟩
         have he : enterB Tryd.prog f' = true := memT_of (q := enterB Tryd.prog) fk hm
         obtain ⟨D, op, ty, ps, af, gd⟩ := o
         dsimp only at hop
         subst hop
         have hx : xs.map a.eval = vs'.toArray := by
           have := ovals_ev hF hv
           apply Array.ext'
           simpa using this
         have := rr_call (P := Tryd.prog) (ts := ts) (ty := ty) (ps := ps) (af := af) (gd := gd) (D := D) (w := w) (x := .func f') (cap := #[]) he (ef (a := a)) hx
         simpa using this
       · cases h
     · cases h
   · cases h
 · cases h
theorem xt {P R : Prop} (k : R) (h : R → P := by (intro k_; (try simp only [Exit.then, Exit.inBlock, ↓reduceIte]); exact k_)) : P := h k
theorem xr {P : Program} {R : Prop} (k : R) (h : R → Q .ret a w := by (intro k_; (try simp only [Exit.then, Exit.inBlock, ↓reduceIte]); exact k_)) : Code.ret.wp P Q a w := wp_ret (h k)
theorem ga (m : Nat) (hF : Fr n L a) (h : gos tb ops n [] m l L = some (L', rest, [])) (k : ∀ a, Fr n L' a → wpList Tryd.prog ops Q rest a w) : wpList Tryd.prog ops Q l a w := ra m hF tk h k
theorem gb (m i : Nat) (hF : Fr n L a) (hS : Sep w0 lr w) (hi : lr[i]? = some (Box g cs)) (h : gos tb ops n cs m l L = some (L', rest, gs)) (hg : gs = gs.map fun _ => g) (k : ∀ a, Fr n L' a → wpList Tryd.prog ops Q rest a w) : wpList Tryd.prog ops Q l a w := rb m i hF tk hS hi h hg k
/-- the end of a region -/
theorem ge (hK : ∀ a w, Y a w → K a w) (hF : Fr n L a) (h : gos tb ops n [] l.length l L = some (L', [], [])) (k : ∀ a, Fr n L' a → Y a w) : wpList Tryd.prog ops (Exit.then K Q) l a w := ga l.length hF h fun a hF => wl_nil (hK _ _ (k a hF))
theorem gf (hK : ∀ a w, Y a w → K a w) (i : Nat) (hF : Fr n L a) (hS : Sep w0 lr w) (hi : lr[i]? = some (Box g cs)) (h : gos tb ops n cs l.length l L = some (L', [], gs)) (hg : gs = gs.map fun _ => g) (k : ∀ a, Fr n L' a → Y a w) : wpList Tryd.prog ops (Exit.then K Q) l a w := gb l.length i hF hS hi h hg fun a hF => wl_nil (hK _ _ (k a hF))
/-- a whole region -/
theorem rg {id : Nat} {y : Code} (hF : Fr n L a) (h : gos tb l.toArray n [] l.length l L = some (L', [], [])) (k : ∀ a, Fr n L' a → y.wp Tryd.prog Q a w) : (Code.seq (.region id l.toArray false) y).wp Tryd.prog Q a w := ws fun K hK => ge hK hF h k
theorem rh {id : Nat} {y : Code} (i : Nat) (hF : Fr n L a) (hS : Sep w0 lr w) (hi : lr[i]? = some (Box g cs)) (h : gos tb l.toArray n cs l.length l L = some (L', [], gs)) (hg : gs = gs.map fun _ => g) (k : ∀ a, Fr n L' a → y.wp Tryd.prog Q a w) : (Code.seq (.region id l.toArray false) y).wp Tryd.prog Q a w := ws fun K hK => gf hK i hF hS hi h hg k
/-- a call -/
theorem ck {R : Value → World → Prop} (hF : Fr n L a) (hv : callV ops n L o = some (d, f, vs)) (hc : Calls Tryd.prog f vs.toArray w (Ret R)) (k : ∀ v w' a, R v w' → Fr n ((d, v) :: L) a → wpList Tryd.prog ops Q rest a w') : wpList Tryd.prog ops Q (o :: rest) a w := by
 obtain ⟨hd, hb, hw, hr⟩ := callV_of hF hv
 have h0 : wpList Tryd.prog ops Q ({ o with guard := none } :: rest) a w := wl_call hF rfl hd hb (hr w) hc k
 unfold wpList at h0 ⊢
 rw [hw]
 exact h0
theorem ckr (hF : Fr n L a) (hS : Sep w0 lr w) (hv : callV ops n L o = some (d, f, vs)) (hc : Calls Tryd.prog f vs.toArray w (Ret fun u w' => u = v ∧ Below w.heap.size w w')) (k : ∀ w' a, Sep w0 lr w' → Fr n ((d, v) :: L) a → wpList Tryd.prog ops Q rest a w') : wpList Tryd.prog ops Q (o :: rest) a w :=
  ck hF hv hc fun u w' a ⟨e, hB⟩ hF => k w' a (hS.ext hB) (e ▸ hF)
theorem qk (hF : Fr n L a) (hv : callV ops n L o = some (d, f, vs)) (hc : ∀ w', Below w.heap.size w w' → Calls Tryd.prog f vs.toArray w' (Ret fun u w'' => u = v ∧ Below w'.heap.size w' w'')) (k : ∀ a, Fr n ((d, v) :: L) a → wpQuiet Tryd.prog ops (fun w' => Below w.heap.size w w') Qa rest a) : wpQuiet Tryd.prog ops (fun w' => Below w.heap.size w w') Qa (o :: rest) a := by
 obtain ⟨hd, hb, hw, hr⟩ := callV_of hF hv
 have h0 : wpQuiet Tryd.prog ops (fun w' => Below w.heap.size w w') Qa ({ o with guard := none } :: rest) a := wq_call hF rfl hd hb (fun w' _ => hr w') hc k
 unfold wpQuiet at h0 ⊢
 rw [hw]
 exact h0
/-- the ways of a condition -/
theorem cx {A B : Prop} {b : Bool} {x y : Code} (t : Nat) (hF : Fr n L a) (ht : lk L t = some (.bool b)) (h1 : A → Fr n ((t, .bool true) :: L) a → x.wp Tryd.prog Q a w) (h2 : B → Fr n ((t, .bool false) :: L) a → y.wp Tryd.prog Q a w) (s1 : b = true → A := by (intro h; (try simp only [zb] at h); exact h)) (s2 : b = false → B := by (intro h; (try simp only [zb] at h); exact h)) : (Code.cond (.tmp t) x y).wp Tryd.prog Q a w :=
  wc_fx hF ht (fun e => h1 (s1 e)) (fun e => h2 (s2 e))
/-- a second part of a condition that is left out -/
theorem wa {X : Prop} (k tc pk : Nat) (hF : Fr n L a) (hS : Sep w0 lr w) (ht : lk L tc = some (.bool c) := by exact rfl) (hs : splitO k l = some (A, B) := by exact rfl) (h2 : gos tb ops n [] k A ((tc, .bool false) :: L) = some (L2, [], []) := by exact rfl) (h3 : splitO k L2 = some (L', (tc, .bool false) :: L) := by exact rfl) (h4 : L'.all (fun x => (lk ((tc, .bool false) :: L) x.1).isNone) = true := by exact rfl) (h5 : lk L2 pk = some (.bool false) := by exact rfl) (s1 : c = true → X := by (intro h; (try simp only [zb] at h); exact h))
    (h1 : X → ∀ a, Fr n ((tc, .bool true) :: L) a → wpList Tryd.prog ops (JS n ((tc, .bool true) :: L) pk e w0 lr) A a w)
    (j : ∀ a w, Fr n ((pk, .bool (c && e)) :: L) a → Sep w0 lr w → wpList Tryd.prog ops Q B a w) : wpList Tryd.prog ops Q l a w := by
  obtain ⟨rfl, hk⟩ := splitO_of hs
  refine wl_and hF hS ht (fun h => h1 (s1 h)) (fun h a hF => ?_) j
  refine ga k hF h2 fun a hF => wl_nil ⟨rfl, ?_, hS⟩
  have hF' := hF
  rw [(splitO_of h3).1] at hF'
  exact (Fr.pre hF' h4).keep hF h5
theorem wo {X : Prop} (k tc pk : Nat) (hF : Fr n L a) (hS : Sep w0 lr w) (ht : lk L tc = some (.bool c) := by exact rfl) (hs : splitO k l = some (A, B) := by exact rfl) (h2 : gos tb ops n [] k A ((tc, .bool true) :: L) = some (L2, [], []) := by exact rfl) (h3 : splitO k L2 = some (L', (tc, .bool true) :: L) := by exact rfl) (h4 : L'.all (fun x => (lk ((tc, .bool true) :: L) x.1).isNone) = true := by exact rfl) (h5 : lk L2 pk = some (.bool true) := by exact rfl) (s1 : c = false → X := by (intro h; (try simp only [zb] at h); exact h))
    (h1 : X → ∀ a, Fr n ((tc, .bool false) :: L) a → wpList Tryd.prog ops (JS n ((tc, .bool false) :: L) pk e w0 lr) A a w)
    (j : ∀ a w, Fr n ((pk, .bool (c || e)) :: L) a → Sep w0 lr w → wpList Tryd.prog ops Q B a w) : wpList Tryd.prog ops Q l a w := by
  obtain ⟨rfl, hk⟩ := splitO_of hs
  refine wl_or hF hS ht (fun h => h1 (s1 h)) (fun h a hF => ?_) j
  refine ga k hF h2 fun a hF => wl_nil ⟨rfl, ?_, hS⟩
  have hF' := hF
  rw [(splitO_of h3).1] at hF'
  exact (Fr.pre hF' h4).keep hF h5
/-- the end of such a part -/
theorem je (k : Nat) {pk : Nat} (hF : Fr n L a) (hS : Sep w0 lr w) (h2 : gos tb ops n [] l.length l L = some (L2, [], [])) (h3 : splitO k L2 = some (L', B')) (h4 : L'.all (fun x => (lk B' x.1).isNone) = true) (h5 : lk L2 pk = some (.bool e)) : wpList Tryd.prog ops (JS n B' pk e w0 lr) l a w := by
 refine ga l.length hF h2 fun a hF => wl_nil ⟨rfl, ?_, hS⟩
 have hF' := hF
 rw [(splitO_of h3).1] at hF'
 exact (Fr.pre hF' h4).keep hF h5
theorem jf (k i : Nat) {pk : Nat} (hF : Fr n L a) (hS : Sep w0 lr w) (hi : lr[i]? = some (Box g cs)) (h2 : gos tb ops n cs l.length l L = some (L2, [], gs)) (hg : gs = gs.map fun _ => g) (h3 : splitO k L2 = some (L', B')) (h4 : L'.all (fun x => (lk B' x.1).isNone) = true) (h5 : lk L2 pk = some (.bool e)) : wpList Tryd.prog ops (JS n B' pk e w0 lr) l a w := by
 refine gb l.length i hF hS hi h2 hg fun a hF => wl_nil ⟨rfl, ?_, hS⟩
 have hF' := hF
 rw [(splitO_of h3).1] at hF'
 exact (Fr.pre hF' h4).keep hF h5
/-- a store into a box, of the whole or of one cell -/
theorem ww {T ty : TypeId} {ps : String} {af : Array Edge} {x y : Operand} (i : Nat) (hF : Fr n L a) (hS : Sep w0 lr w) (hi : lr[i]? = some (Box g cs)) (hx : oval L x = some (.pointer (some ⟨g, 0, none⟩))) (hy : oval L y = some (.agg ⟨vs⟩)) (hz : agT tb.ags T = some vs.length) (hb : (evenB vs cs && vs.all (fun u => u.oneCell')) = true) (hs : setO lr i (Box g vs) = some lr') (k : ∀ w', Sep w0 lr' w' → wpList Tryd.prog ops Q rest a w') : wpList Tryd.prog ops Q (⟨none, .store T x y, ty, ps, af, none⟩ :: rest) a w := by
 simp only [Bool.and_eq_true] at hb
 refine wl_storew hF hS hi (oval_ev hF hx) (oval_ev hF hy) (ag_of hz).2 hb.1 hb.2 fun w' h => k w' ?_
 rw [← (setO_of hs).1]; exact h
theorem wv {T ty : TypeId} {ps : String} {af : Array Edge} {x y : Operand} {q : Nat} {cs' : List Value} (i : Nat) (hF : Fr n L a) (hS : Sep w0 lr w) (hi : lr[i]? = some (Box g cs)) (hx : oval L x = some (.pointer (some ⟨g, q, none⟩))) (hy : oval L y = some v) (hz : (memT t1 T && v.oneCell') = true) (hc : setO cs q v = some cs') (hs : setO lr i (Box g cs') = some lr') (k : ∀ w', Sep w0 lr' w' → wpList Tryd.prog ops Q rest a w') : wpList Tryd.prog ops Q (⟨none, .store T x y, ty, ps, af, none⟩ :: rest) a w := by
 simp only [Bool.and_eq_true] at hz
 obtain ⟨e, hq⟩ := setO_of hc
 refine wl_store hF hS hi (t1_of t1k hz.1) (oval_ev hF hx) (oval_ev hF hy) hz.2 (by simp [hq]) fun w' h => k w' ?_
 rw [e, (setO_of hs).1] at h; exact h
end
/-! runs of plain operations in regions that draw their order -/
def nthO {α : Type} : List α → Nat → Option α
  | [], _ => none
  | x :: _, 0 => some x
  | _ :: l, n + 1 => nthO l n
theorem nthO_of {α : Type} : ∀ {l : List α} {n : Nat}, nthO l n = l[n]?
  | [], n => by simp [nthO]
  | x :: l, 0 => by simp [nthO]
  | x :: l, n + 1 => by simp [nthO, nthO_of (l := l)]
def tpB (ops : Array Oper) (T : Alcs) (muts : List Nat) : Nat → List Nat → Bool
  | 0, _ => true
  | m + 1, i :: is => pureB ops T muts i is && tpB ops T muts m is
  | _ + 1, [] => false
def tpV (ops : Array Oper) (T : Alcs) (n : Nat) : Nat → List Nat → List (Nat × Value) → Option (List (Nat × Value) × List Nat)
  | 0, is, L => some (L, is)
  | _ + 1, [], _ => none
  | m + 1, i :: is, L => match nthO ops.toList i with
    | none => none
    | some o => match o.dst with
      | none => none
      | some d => match Nat.ble (d + 1) n && T.all (fun t => t.2.1 != d) with
        | false => none
        | true => match wantL ops L o with
          | none => none
          | some false => tpV ops T n m is ((d, undef) :: L)
          | some true => match pureV tb L o.op with
            | some v => tpV ops T n m is ((d, v) :: L)
            | none => none
section
variable {ops : Array Oper} {Q : Exit → Act → World → Prop} {wd W : World} {T : Alcs} {muts : List Nat} {n : Nat} {L' : List (Nat × Value)} {l r : List Res} {X : Type} {lf : X → List Res → List Res} {is' : List Nat}
theorem tpV_one {i : Nat} {is : List Nat} {m : Nat} {L : List (Nat × Value)} (h : tpV ops T n (m + 1) (i :: is) L = some (L', is')) : ∃ o d v, ops[i]? = some o ∧ o.dst = some d ∧ Nat.ble (d + 1) n = true ∧ T.all (fun t => t.2.1 != d) = true ∧ (∀ (C : World → Prop) a, Fr n L a → YieldsIf Tryd.prog ops C o v a) ∧ tpV ops T n m is ((d, v) :: L) = some (L', is') := by
 simp only [tpV] at h
 split at h
 · cases h
 rename_i o ho
 rw [nthO_of] at ho
 split at h
 · cases h
 rename_i d hd
 split at h
 · cases h
 rename_i hb
 simp only [Bool.and_eq_true] at hb
 have ho' : ops[i]? = some o := by rw [← ho]; simp
 split at h
 · cases h
 · rename_i hw
   exact ⟨o, d, undef, ho', hd, hb.1, hb.2, fun C a hF => .inr ⟨want_of hF hw, rfl⟩, h⟩
 · rename_i hw
   split at h
   · rename_i v hv
     exact ⟨o, d, v, ho', hd, hb.1, hb.2, fun C a hF => .inl ⟨want_of hF hw, fun w _ => pureV_run tk hF hv⟩, h⟩
   · cases h
theorem tp : ∀ (m : Nat) {is : List Nat} {L : List (Nat × Value)} (hl : Lay Tryd.prog ops T n) (h : tpV ops T n m is L = some (L', is')) (k : ∀ rem a w, Rem T rem → Fr n L' a → At T wd W l rem a w → Todo Tryd.prog ops Q wd muts rem is' a w) (hk : tpB ops T muts m is = true := by kernel_rfl),
    ∀ rem a w, Rem T rem → Fr n L a → At T wd W l rem a w → Todo Tryd.prog ops Q wd muts rem is a w
  | 0, is, L, hl, h, k, hk => by simp only [tpV, Option.some.injEq, Prod.mk.injEq] at h; obtain ⟨rfl, rfl⟩ := h; exact k
  | m + 1, [], L, hl, h, k, hk => by simp [tpV] at h
  | m + 1, i :: is, L, hl, h, k, hk => by
    obtain ⟨o, d, v, ho, hd, hb, hT, hy, h'⟩ := tpV_one h
    simp only [tpB, Bool.and_eq_true] at hk
    exact todo_pureY hl hk.1 ho hd hb hT (hy _) (tp m hl h' k hk.2)
end
/-! parts in another order -/
theorem cfr {f : FuncId} {fn : Func} {c : Code} {args : List Value} {w : World} {R : Ending → World → Prop} {n : Nat} (hf : Tryd.prog.funcs[f]? = some fn) (hn : fn.ntmps = n) (h : ∀ a, Fr n (en 0 args) a → c.wp Tryd.prog (bodyPost Tryd.prog fn R) a w) (hb : fn.body = some c := by exact rfl) (hl : Nat.ble args.length n = true := by exact rfl) : Calls Tryd.prog f args.toArray w R := calls_fr hf hb hn hl h
theorem ag23 : aggB Tryd.prog 23 = true := by kernel_rfl
theorem ag25 : aggB Tryd.prog 25 = true := by kernel_rfl
theorem ag29 : aggB Tryd.prog 29 = true := by kernel_rfl
theorem ag30 : aggB Tryd.prog 30 = true := by kernel_rfl
theorem ag32 : aggB Tryd.prog 32 = true := by kernel_rfl
theorem en15 : enterB Tryd.prog 15 = true := by kernel_rfl
theorem en16 : enterB Tryd.prog 16 = true := by kernel_rfl
theorem en17 : enterB Tryd.prog 17 = true := by kernel_rfl
theorem en20 : enterB Tryd.prog 20 = true := by kernel_rfl
theorem en23 : enterB Tryd.prog 23 = true := by kernel_rfl
theorem iu3 : Tryd.prog.underlying 3 = some (.int .i64) := by kernel_rfl
theorem iu5 : Tryd.prog.underlying 5 = some (.int .u8) := by kernel_rfl
theorem mk42 : mkB Tryd.prog 42 = some ([.string ⟨#[]⟩], 1, 16) := by kernel_rfl
theorem mk45 : mkB Tryd.prog 45 = some ([.int .u8 0], 1, 1) := by kernel_rfl
theorem sc3 : scalB Tryd.prog 3 = true := by kernel_rfl
theorem sc9 : scalB Tryd.prog 9 = true := by kernel_rfl
theorem sl42 : slB Tryd.prog 42 = some (1, 16) := by kernel_rfl
theorem sz23 : szB Tryd.prog 23 = some 3 := by kernel_rfl
theorem sz25 : szB Tryd.prog 25 = some 2 := by kernel_rfl
theorem sz29 : szB Tryd.prog 29 = some 3 := by kernel_rfl
theorem sz30 : szB Tryd.prog 30 = some 2 := by kernel_rfl
theorem sz32 : szB Tryd.prog 32 = some 8 := by kernel_rfl
theorem zr29 : zeroOf Tryd.prog 29 = some [.int .i64 0, .int .i64 0, .int .i64 0] := by kernel_rfl
theorem zr30 : zeroOf Tryd.prog 30 = some [.int .i64 0, .int .i64 0] := by kernel_rfl
theorem zr32 : zeroOf Tryd.prog 32 = some [.int .i64 0, .int .i64 0, .int .i64 0, .int .i64 0, .int .i64 0, .int .i64 0, .int .i64 0, .int .i64 0] := by kernel_rfl
end Go.Proofs.YtbgacfdnmbhloaaDoor.Wk
namespace Go.Proofs.YtbgacfdnmbhloaaDoor.Sl
open Go Go.RowKit
set_option linter.unusedVariables false
set_option linter.unusedSimpArgs false
/-- a string of bytes -/
abbrev vs (l : List UInt8) : Value := .string ⟨l.toArray⟩
section
variable {P : Program} {ρ : Operand → Value} {w : World} {D : Option Tmp} {ty t t' : TypeId} {ps : String} {af : Array Edge} {gd : Option (Nat × Bool)} {x y : Operand}
theorem r_sadd {a b : List UInt8} (hx : ρ x = vs a) (hy : ρ y = vs b) (h : a.length + b.length ≤ 9223372036854775807) : (execOp ρ ⟨D, .binOp .add t x y t', ty, ps, af, gd⟩).run P w = .ok (.value (vs (a ++ b))) w := by
 have h1 := run_string_add_sum (P := P) w ⟨a.toArray⟩ ⟨b.toArray⟩ (by simp [ByteArray.size]; omega)
 rw [ByteArray.mk_append_mk] at h1
 simp [execOp, hx, hy, binOp_string_add, h1, go_sem]
theorem r_seql {a b : List UInt8} (hx : ρ x = vs a) (hy : ρ y = vs b) : (execOp ρ ⟨D, .binOp .eql t x y t', ty, ps, af, gd⟩).run P w = .ok (.value (.bool (decide (a = b)))) w := by
 rw [r_eqls hx hy]
 have : (a == b) = decide (a = b) := by by_cases h : a = b <;> simp [h]
 simp [this]
theorem r_sneq {a b : List UInt8} (hx : ρ x = vs a) (hy : ρ y = vs b) : (execOp ρ ⟨D, .binOp .neq t x y t', ty, ps, af, gd⟩).run P w = .ok (.value (.bool (!decide (a = b)))) w := by
 rw [r_neqs hx hy]
 have : (a == b) = decide (a = b) := by by_cases h : a = b <;> simp [h]
 simp [this]
/-- a row of one byte, as a string -/
theorem r_s1 {e : TypeId} {g o c : Nat} {n : Int} (hs : P.underlying t = some (.slice e)) (he : P.underlying e = some (.int .u8)) (hd : P.underlying t' = some .string) (hx : ρ x = .slice (some ⟨g, o, none⟩) 1 c) (hc : w.cell? ⟨g, o, none⟩ = some (.int .u8 n)) (h0 : 0 ≤ n) (h1 : n < 256) :
    (execOp ρ ⟨D, .convert t t' x, ty, ps, af, gd⟩).run P w = .ok (.value (vs [UInt8.ofNat n.toNat])) w := by
  have hn : (((UInt8.ofNat n.toNat).toNat : Nat) : Int) = n := by
    rw [UInt8.toNat_ofNat']
    omega
  have h := run_convert_bytes_back (P := P) w t t' e ⟨g, o, none⟩ c [UInt8.ofNat n.toNat] hs he hd (fun j hj => by
    have : j = 0 := by simpa using hj
    subst this
    simp only [List.getElem_cons_zero, hn]
    exact hc)
  simp only [List.length_cons, List.length_nil, Nat.zero_add] at h
  simp [execOp, hx, h, go_sem]
theorem r_s1o {e : TypeId} {g o c : Nat} {n : Int} (hs : P.underlying t = some (.slice e)) (he : P.underlying e = some (.int .u8)) (hd : P.underlying t' = some .string) (hx : ρ x = .slice (some ⟨g, o, none⟩) 1 c) (hr : byteEK.Rd w (.slice (some ⟨g, o, none⟩) 1 c) [n]) (h0 : 0 ≤ n) (h1 : n < 256) :
    (execOp ρ ⟨D, .convert t t' x, ty, ps, af, gd⟩).run P w = .ok (.value (vs [UInt8.ofNat n.toNat])) w := by
  obtain ⟨g', o', m', c', e1, _, _, hc⟩ := Rd.idxF hr (i := 0) rfl
  simp only [Value.slice.injEq, Option.some.injEq, Addr.mk.injEq] at e1
  obtain ⟨⟨rfl, rfl, _⟩, _, _⟩ := e1
  exact r_s1 hs he hd hx (by have := hc 0 _ rfl; simpa using this) h0 h1
theorem r_neg {k : IntKind} {m : Int} (hx : ρ x = .int k m) : (execOp ρ ⟨D, .unOp .neg t x, ty, ps, af, gd⟩).run P w = .ok (.value (.int k (k.wrap (-m)))) w := by
 simp [execOp, hx, go_sem]
end
theorem vs_of (b : ByteArray) : (Value.string b) = vs b.data.toList := by simp
/-- the digits of a number, none for nought -/
def digs (u : Nat) : List UInt8 := if u = 0 then [] else Lib.decDigits u
theorem digs_step {u : Nat} (h : 0 < u) : digs u = digs (u / 10) ++ [UInt8.ofNat (48 + u % 10)] := by
 unfold digs
 rw [if_neg (by omega)]
 rw [Lib.decDigits]
 split
 · rename_i h1
   rw [if_pos (by omega), Nat.mod_eq_of_lt h1]; rfl
 · rename_i h1
   rw [if_neg (by omega)]
theorem digs_len {u : Nat} (h : u < 10000000000000000000) : (digs u).length ≤ 19 := by
 have key : ∀ k u, u < 10 ^ k → (digs u).length ≤ k := by
   intro k
   induction k with
   | zero => intro u hu; have : u = 0 := by omega
             subst this; simp [digs]
   | succ k ih =>
     intro u hu
     by_cases h0 : u = 0
     · subst h0; simp [digs]
     · rw [digs_step (by omega), List.length_append]
       have := ih (u / 10) (by rw [Nat.pow_succ] at hu; omega)
       simp; omega
 exact key 19 u (by simpa using h)
theorem itoa_pos {n : Int} (h : 0 < n) : Lib.itoa n = digs n.toNat := by
 unfold Lib.itoa digs; rw [if_neg (by omega), if_neg (by omega)]
theorem itoa_minus {n : Int} (h : n < 0) : Lib.itoa n = 45 :: digs n.natAbs := by
 unfold Lib.itoa digs; rw [if_pos h, if_neg (by omega)]
end Go.Proofs.YtbgacfdnmbhloaaDoor.Sl
namespace Go.Proofs
open Go.Shelf
def Tryd.lays156_ren : Go.Shelf.Ren := ⟨fun | 156 => 18 | 165 => 25 | 166 => 26 | 169 => 27 | 240 => 29 | 241 => 30 | 276 => 32 | 277 => 33 | n => n, fun | 31 => 42 | 9 => 9 | 3 => 3 | 4 => 4 | 0 => 0 | 20 => 20 | 72 => 48 | 76 => 52 | 70 => 46 | 37 => 45 | 75 => 51 | 127 => 55 | 164 => 57 | 5 => 5 | 80 => 54 | n => n, fun | n => n⟩
theorem Tryd.lays156 : Go.Proofs.Lays.n156 Tryd.prog Tryd.lays156_ren := {
  mixed := by kernel_rfl
  f156 := Tryd.func18.trans (congrArg some (by kernel_rfl))
  f165 := Tryd.func25.trans (congrArg some (by kernel_rfl))
  f166 := Tryd.func26.trans (congrArg some (by kernel_rfl))
  f169 := Tryd.func27.trans (congrArg some (by kernel_rfl))
  f240 := Tryd.func29.trans (congrArg some (by kernel_rfl))
  f241 := Tryd.func30.trans (congrArg some (by kernel_rfl))
  f276 := Tryd.func32.trans (congrArg some (by kernel_rfl))
  f277 := Tryd.func33.trans (congrArg some (by kernel_rfl))
  t0 := Tryd.underlying0
  a0 := Tryd.isAgg0
  z0 := Tryd.sizeOf0
  v0 := Tryd.zeroValue0
  t3 := Tryd.underlying3
  a3 := Tryd.isAgg3
  z3 := Tryd.sizeOf3
  v3 := Tryd.zeroValue3
  t4 := Tryd.underlying4
  a4 := Tryd.isAgg4
  z4 := Tryd.sizeOf4
  v4 := Tryd.zeroValue4
  t9 := Tryd.underlying9
  a9 := Tryd.isAgg9
  z9 := Tryd.sizeOf9
  v9 := Tryd.zeroValue9
  t20 := Tryd.underlying20
  a20 := Tryd.isAgg20
  z20 := Tryd.sizeOf20
  v20 := Tryd.zeroValue20
  t31 := Tryd.underlying42
  a31 := Tryd.isAgg42
  z31 := Tryd.sizeOf42
  v31 := Tryd.zeroValue42
  t37 := Tryd.underlying45
  a37 := Tryd.isAgg45
  z37 := Tryd.sizeOf45
  v37 := Tryd.zeroValue45
  t70 := Tryd.underlying46
  a70 := Tryd.isAgg46
  z70 := Tryd.sizeOf46
  v70 := Tryd.zeroValue46
  t72 := Tryd.underlying48
  a72 := Tryd.isAgg48
  z72 := Tryd.sizeOf48
  v72 := Tryd.zeroValue48
  t75 := Tryd.underlying51
  a75 := Tryd.isAgg51
  z75 := Tryd.sizeOf51
  v75 := Tryd.zeroValue51
  t76 := Tryd.underlying52
  a76 := Tryd.isAgg52
  z76 := Tryd.sizeOf52
  v76 := Tryd.zeroValue52
  t127 := Tryd.underlying55
  a127 := Tryd.isAgg55
  z127 := Tryd.sizeOf55
  v127 := Tryd.zeroValue55
  t164 := Tryd.underlying57
  a164 := Tryd.isAgg57
  z164 := Tryd.sizeOf57
  v164 := Tryd.zeroValue57 }
theorem Tryd.Builder_Extra_156 : Builder.Extra Tryd.prog Tryd.lays156_ren := {
  sizeBuilder := by kernel_rfl
  liesBuilder := by kernel_rfl
  t5 := Tryd.underlying5
  a5 := Tryd.isAgg5
  z5 := Tryd.sizeOf5
  v5 := Tryd.zeroValue5
  infoByte := by kernel_rfl
  cellsByte := by kernel_rfl
  sizeByte := by kernel_rfl
  neB5 := by decide }
open Go.RowKit in
theorem Tryd.strings_Join (bk o c : Nat) (xs : List ByteArray) (sep : ByteArray) (w : World) (hcells : ∀ (j : Nat) x, xs[j]? = some x → w.cell? ⟨bk, o + j, none⟩ = some (.string x)) (hbk : bk < w.heap.size) (hN : xs.length ≤ 140737488355328) (hcap : xs.length ≤ c) (hlen : (Lib.join (xs.map (·.data.toList)) sep.data.toList).length ≤ 140737488355328) :
    Calls Tryd.prog 18 #[.slice (some ⟨bk, o, none⟩) xs.length c, .string sep] w fun e w' => e = .returned (.string ⟨(Lib.join (xs.map (·.data.toList)) sep.data.toList).toArray⟩) ∧ Below w.heap.size w w' := Any.strings_Join Tryd.lays156 Tryd.Builder_Extra_156 bk o c xs sep w hcells hbk hN hcap hlen
def Tryd.laysM171_ren : Go.Shelf.Ren := ⟨fun | 171 => 22 | 243 => 28 | 246 => 31 | 283 => 34 | 284 => 35 | 285 => 36 | 286 => 37 | 129 => 39 | 317 => 38 | 318 => 40 | 319 => 41 | 320 => 42 | 337 => 43 | 338 => 44 | n => n, fun | 3 => 3 | 9 => 9 | 2 => 2 | 4 => 4 | 171 => 60 | 0 => 0 | 53 => 61 | 37 => 45 | 5 => 5 | 173 => 64 | 212 => 68 | 51 => 69 | 20 => 20 | 213 => 70 | 46 => 72 | 232 => 75 | 233 => 76 | n => n, fun | 17 => 1 | 18 => 2 | 19 => 3 | n => n⟩
theorem Tryd.laysM171 : Go.Proofs.LaysM.n171 Tryd.prog Tryd.laysM171_ren := {
  mixed := by kernel_rfl
  f129 := Tryd.func39.trans (congrArg some (by kernel_rfl))
  f171 := Tryd.func22.trans (congrArg some (by kernel_rfl))
  f243 := Tryd.func28.trans (congrArg some (by kernel_rfl))
  f246 := Tryd.func31.trans (congrArg some (by kernel_rfl))
  f283 := Tryd.func34.trans (congrArg some (by kernel_rfl))
  f284 := Tryd.func35.trans (congrArg some (by kernel_rfl))
  f285 := Tryd.func36.trans (congrArg some (by kernel_rfl))
  f286 := Tryd.func37.trans (congrArg some (by kernel_rfl))
  f317 := Tryd.func38.trans (congrArg some (by kernel_rfl))
  f318 := Tryd.func40.trans (congrArg some (by kernel_rfl))
  f319 := Tryd.func41.trans (congrArg some (by kernel_rfl))
  f320 := Tryd.func42.trans (congrArg some (by kernel_rfl))
  f337 := Tryd.func43.trans (congrArg some (by kernel_rfl))
  f338 := Tryd.func44.trans (congrArg some (by kernel_rfl))
  t0 := Tryd.underlying0
  a0 := Tryd.isAgg0
  z0 := Tryd.sizeOf0
  v0 := Tryd.zeroValue0
  t2 := Tryd.underlying2
  a2 := Tryd.isAgg2
  z2 := Tryd.sizeOf2
  v2 := Tryd.zeroValue2
  t3 := Tryd.underlying3
  a3 := Tryd.isAgg3
  z3 := Tryd.sizeOf3
  v3 := Tryd.zeroValue3
  t4 := Tryd.underlying4
  a4 := Tryd.isAgg4
  z4 := Tryd.sizeOf4
  v4 := Tryd.zeroValue4
  t5 := Tryd.underlying5
  a5 := Tryd.isAgg5
  z5 := Tryd.sizeOf5
  v5 := Tryd.zeroValue5
  t9 := Tryd.underlying9
  a9 := Tryd.isAgg9
  z9 := Tryd.sizeOf9
  v9 := Tryd.zeroValue9
  t20 := Tryd.underlying20
  a20 := Tryd.isAgg20
  z20 := Tryd.sizeOf20
  v20 := Tryd.zeroValue20
  t37 := Tryd.underlying45
  a37 := Tryd.isAgg45
  z37 := Tryd.sizeOf45
  v37 := Tryd.zeroValue45
  t46 := Tryd.underlying72
  a46 := Tryd.isAgg72
  z46 := Tryd.sizeOf72
  v46 := Tryd.zeroValue72
  t51 := Tryd.underlying69
  a51 := Tryd.isAgg69
  z51 := Tryd.sizeOf69
  v51 := Tryd.zeroValue69
  t53 := Tryd.underlying61
  a53 := Tryd.isAgg61
  z53 := Tryd.sizeOf61
  v53 := Tryd.zeroValue61
  t171 := Tryd.underlying60
  a171 := Tryd.isAgg60
  z171 := Tryd.sizeOf60
  v171 := Tryd.zeroValue60
  t173 := Tryd.underlying64
  a173 := Tryd.isAgg64
  z173 := Tryd.sizeOf64
  v173 := Tryd.zeroValue64
  t212 := Tryd.underlying68
  a212 := Tryd.isAgg68
  z212 := Tryd.sizeOf68
  v212 := Tryd.zeroValue68
  t213 := Tryd.underlying70
  a213 := Tryd.isAgg70
  z213 := Tryd.sizeOf70
  t232 := Tryd.underlying75
  a232 := Tryd.isAgg75
  z232 := Tryd.sizeOf75
  v232 := Tryd.zeroValue75
  t233 := Tryd.underlying76
  a233 := Tryd.isAgg76
  z233 := Tryd.sizeOf76
  v233 := Tryd.zeroValue76
  g17 := by kernel_rfl
  g18 := by kernel_rfl
  g19 := by kernel_rfl
  i0 := by kernel_rfl
  i2 := by kernel_rfl
  i3 := by kernel_rfl
  i4 := by kernel_rfl
  i5 := by kernel_rfl
  i9 := by kernel_rfl
  i20 := by kernel_rfl
  i37 := by kernel_rfl
  i46 := by kernel_rfl
  i51 := by kernel_rfl
  i53 := by kernel_rfl
  i171 := by kernel_rfl
  i173 := by kernel_rfl
  i212 := by kernel_rfl
  i232 := by kernel_rfl
  i233 := by kernel_rfl
  m17 := by kernel_rfl
  m18 := by kernel_rfl
  m19 := by kernel_rfl }
open Go.RowKit Go.Sort Go.Lib in
theorem Tryd.strconv_Itoa (n : Int) (h0 : -9223372036854775808 ≤ n) (h1 : n ≤ 9223372036854775807) (w : World) (htab : Lib.TabIs Tryd.prog w "internal/strconv.uint64pow10" .u64 Lib.pow10Tab) :
    Calls Tryd.prog 22 #[.int .i64 n] w fun e w' => e = .returned (.string ⟨(Lib.itoa n).toArray⟩) ∧ ∃ k os, w' = grow (w.drewN k) os := Any.strconv_Itoa Tryd.laysM171 n h0 h1 w htab
end Go.Proofs
namespace Go.Proofs.YtbgacfdnmbhloaaDoor.Wk
open Go Go.RowKit Sl
set_option linter.unusedVariables false
set_option linter.unusedSimpArgs false
set_option maxRecDepth 20000
theorem tab_ext {W w : World} {nm : String} {k : IntKind} {zs : List Int} (h : Lib.TabIs Tryd.prog W nm k zs) (hB : Below W.heap.size W w) : Lib.TabIs Tryd.prog w nm k zs := by
 unfold Lib.TabIs World.var? at *
 cases hg : Tryd.prog.globalNamed nm with
 | none => simp [hg] at h
 | some g =>
   simp only [hg, Option.bind_some] at h ⊢
   have hlt : g < W.heap.size := by
     rcases Nat.lt_or_ge g W.heap.size with h' | h'
     · exact h'
     · rw [Array.getElem?_eq_none h'] at h; simp at h
   rw [hB.block g hlt]
   exact h
theorem itoa_c {W : World} {n : Int} (hT : Lib.TabIs Tryd.prog W "internal/strconv.uint64pow10" .u64 Lib.pow10Tab) (hn : int64 n) : Calls Tryd.prog 22 #[vi n] W (Ret fun v w' => v = vs (Lib.itoa n) ∧ Below W.heap.size W w') := by
 refine (Tryd.strconv_Itoa n (by unfold int64 at hn; omega) (by unfold int64 at hn; omega) W hT).mono ?_
 rintro e w' ⟨rfl, k, os, rfl⟩
 exact ⟨_, rfl, rfl, Lib.below_grow _ _ (Nat.le_refl _) _ _⟩
theorem join_c {W : World} {A : Option Addr} {n c : Nat} {xs : List ByteArray} {sep : List UInt8} (h : stringEK.Rd W (.slice A n c) xs) (hne : 0 < xs.length) (hN : xs.length ≤ 1000) (hl : (Lib.join (xs.map (·.data.toList)) sep).length ≤ 100000) : Calls Tryd.prog 18 #[.slice A n c, vs sep] W (Ret fun v w' => v = vs (Lib.join (xs.map (·.data.toList)) sep) ∧ Below W.heap.size W w') := by
 obtain ⟨A', q, e, h1, h2⟩ := h.sl
 simp only [Value.slice.injEq] at e
 obtain ⟨rfl, rfl, rfl⟩ := e
 have hcs : ∀ j x, xs[j]? = some x → ∃ g o, A = some ⟨g, o, none⟩ ∧ W.cell? ⟨g, o + j, none⟩ = some (.string x) := fun j x hx => by
   obtain ⟨g', o', m', c', e1, _, _, hc⟩ := Rd.idxF h (i := j) hx
   simp only [Value.slice.injEq] at e1
   have := hc 0 _ rfl
   exact ⟨g', o', e1.1, by simpa using this⟩
 obtain ⟨x0, hx0⟩ : ∃ x, xs[0]? = some x := ⟨_, List.getElem?_eq_getElem hne⟩
 obtain ⟨g, o, rfl, hc0⟩ := hcs 0 x0 hx0
 have hlt : g < W.heap.size := by
   rcases Nat.lt_or_ge g W.heap.size with h' | h'
   · exact h'
   · unfold World.cell? at hc0; simp [Array.getElem?_eq_none h'] at hc0
 refine (Tryd.strings_Join g o c xs ⟨sep.toArray⟩ W (fun j x hx => ?_) hlt (by omega) h1 (by simpa using Nat.le_trans hl (by decide))).mono ?_
 · obtain ⟨g', o', e1, hc⟩ := hcs j x hx
   simp only [Option.some.injEq, Addr.mk.injEq] at e1
   obtain ⟨rfl, rfl, _⟩ := e1
   exact hc
 · rintro e w' ⟨rfl, hB⟩
   exact ⟨_, rfl, by simp, hB⟩
theorem itoaL {n : Int} (h : int64 n) : (Lib.itoa n).length ≤ 21 := Lib.itoa_length_le n (by unfold int64 at h; omega) (by unfold int64 at h; omega)
/-! numbers -/
theorem fi_m {n : Int} : n.tmod 10 = if 0 ≤ n then ((n.natAbs % 10 : Nat) : Int) else -((n.natAbs % 10 : Nat) : Int) := by
 split
 · rename_i h0
   rw [Int.tmod_eq_emod_of_nonneg h0]; omega
 · rename_i h0
   have h1 : n.tmod 10 = -((-n).tmod 10) := by rw [Int.neg_tmod]; omega
   rw [h1, Int.tmod_eq_emod_of_nonneg (by omega)]; omega
theorem fi_d {n : Int} (h : int64 n) : (if n.tmod 10 < 0 then IntKind.i64.wrap (-(n.tmod 10)) else n.tmod 10) = ((n.natAbs % 10 : Nat) : Int) := by
 unfold int64 at h
 have h1 := @fi_m n
 split
 · rename_i hneg
   rw [w64_id (by split at h1 <;> omega) (by split at h1 <;> omega)]
   split at h1 <;> omega
 · rename_i hneg
   split at h1 <;> omega
theorem fi_q {n : Int} : (n.tdiv 10).natAbs = n.natAbs / 10 := by rw [Int.natAbs_tdiv]; rfl
theorem fi_i {n : Int} (h : int64 n) : int64 (n.tdiv 10) := by
 have := @fi_q n; unfold int64 at *; omega
theorem fi_w {n : Int} (h : int64 n) : Value.int .i64 (IntKind.i64.wrap (n.tdiv 10)) = vi (n.tdiv 10) := by
 have := fi_i h
 rw [w64_id (by unfold int64 at this; omega) (by unfold int64 at this; omega)]
theorem fi_next {n0 n d : Int} {out : List UInt8} (hi : digs n0.natAbs = digs n.natAbs ++ out) (hn : ¬ n = 0) (hd : d = ((n.natAbs % 10 : Nat) : Int)) : digs n0.natAbs = digs (n.tdiv 10).natAbs ++ ([UInt8.ofNat (48 + d).toNat] ++ out) := by
 rw [hi, digs_step (by omega), fi_q, hd, List.append_assoc, show ((48 : Int) + ((n.natAbs % 10 : Nat) : Int)).toNat = 48 + n.natAbs % 10 by omega]
theorem fi_len {n0 n : Int} {out : List UInt8} (h : int64 n0) (hi : digs n0.natAbs = digs n.natAbs ++ out) : out.length ≤ 19 := by
 have h1 := digs_len (u := n0.natAbs) (by unfold int64 at h; omega)
 rw [hi, List.length_append] at h1; omega
theorem fi_end {n0 : Int} {out : List UInt8} (h0 : ¬ n0 = 0) (hi : digs n0.natAbs = digs (0 : Int).natAbs ++ out) : Lib.itoa n0 = if n0 < 0 then 45 :: out else out := by
 have e : digs (0 : Int).natAbs = [] := by simp [digs]
 rw [e, List.nil_append] at hi
 split
 · rename_i h; rw [itoa_minus h, hi]
 · rename_i h; rw [itoa_pos (by omega), show n0.toNat = n0.natAbs by omega, hi]
theorem fi_zero : Lib.itoa 0 = [48] := by
 unfold Lib.itoa
 rw [if_neg (by omega), show (0 : Int).toNat = 0 from rfl, Lib.decDigits]; rfl
theorem w8 {d : Int} (h0 : 0 ≤ d) (h1 : d ≤ 9) : IntKind.u8.wrap (IntKind.i64.wrap (48 + d)) = 48 + d := by
 rw [w64_id (by omega) (by omega)]
 simp [IntKind.wrap, IntKind.bits, IntKind.signed, IntKind.min]; omega
theorem specFmtInt_c {W : World} {n0 : Int} (hn : int64 n0) : Calls Tryd.prog 9 #[vi n0] W (Ret fun v w' => v = vs (Lib.itoa n0) ∧ Below W.heap.size W w') := by
 refine cfr Tryd.func9 Tryd.ntmps9 fun a hF => ?_
 have hS := Sep.refl W
 refine rg hF rfl fun a hF => wp_seq_k fun K2 hK2 => rg hF rfl fun a hF => cx 7 hF rfl (fun c7 hF => ?_) fun c7 hF => ?_
 ·
  refine rg hF rfl fun a hF => ?_
  refine xr ?_
  first
    | (refine ret1 rfl hF rfl ⟨?_, hS.old⟩; rw [c7, fi_zero]; done)
    | (obtain rfl : n = 0 := by omega
       refine ret1 rfl hF rfl ⟨?_, hS.old⟩
       rw [fi_end c7 hinv]
       first | rw [if_pos c27]; rfl | rw [if_neg c27])
 refine wp_skip <| hK2 _ _ <| rg hF rfl fun a hF => rg hF rfl fun a hF => wp_seq_k fun K7 hK7 => wp_block ?_
 have hL_ := ((hF.nil.keep hF (t := 4) rfl).keep hF (t := 2) rfl)
 refine wp_loop_r (σ := Int × List UInt8) (fun z L_ => (0, vi z.1) :: (3, vs z.2) :: L_) (fun z => (int64 z.1) ∧ (digs n0.natAbs = digs z.1.natAbs ++ z.2)) (fun z => z.1.natAbs) (n0, []) hS ((hL_.keepE hF (t := 3) rfl rfl).keepE hF (t := 0) rfl rfl) ?_ ?_
 · exact ⟨hn, (by simp)⟩
 rintro ⟨n, out⟩ a w1 ⟨hnw, hinv⟩ hS hF; try dsimp only at hF; try dsimp only at hS; try dsimp only at hnw; try dsimp only at hinv
 refine wp_seq_k fun K8 hK8 => rg hF rfl fun a hF => cx 11 hF rfl (fun c11 hF => ?_) fun c11 hF => ?_
 ·
  have hol : out.length ≤ 19 := fi_len hn hinv
  refine wp_skip <| hK8 _ _ <| wp_block <| ws fun K10 hK10 => ga 1 hF rfl fun a hF => wl hF rfl rfl rfl (r_rem (by first | decide | omega) (hF.ev rfl) ec) fun a hF => ge hK10 hF rfl fun a hF => ?_
  refine wp_seq_k fun K11 hK11 => rg hF rfl fun a hF => cx 15 hF rfl (fun c15 hF => ?_) fun c15 hF => ?_
  ·
   have hd_ := fi_d hnw
   rw [if_pos c15] at hd_
   refine wp_region_lit <| ga 1 hF rfl fun a hF => wl hF rfl rfl rfl (r_neg (hF.ev rfl)) fun a hF => ge hK11 hF rfl fun a hF => ws fun K13 hK13 => ga 2 hF rfl fun a hF => wl hF rfl rfl rfl (r_convw iu3 iu5 (hF.ev rfl)) fun a hF => ?_
   rw [hd_, w8 (by omega) (by omega)] at hF
   refine wl_bslice byteEK [.int .u8 (48 + ((n.natAbs % 10 : Nat) : Int))] [48 + ((n.natAbs % 10 : Nat) : Int)] rfl hF hS rfl mk45 rfl ⟨rfl, (hF.ev rfl), trivial⟩ rfl rfl rfl rfl fun gl_21 w2 a hS hF => wl hF rfl rfl rfl (r_s1o (e := 5) (by kernel_rfl) (by kernel_rfl) (by kernel_rfl) (hF.ev rfl) (hS.own_rd (i := 0) rfl) (by omega) (by omega)) fun a hF => ga 1 hF rfl fun a hF => ?_
   refine wl hF rfl rfl rfl (r_sadd (hF.ev rfl) (hF.ev rfl) (by simp only [List.length_append, List.length_cons, List.length_nil]; omega)) fun a hF => ?_
   refine ge hK13 hF rfl fun a hF => wp_region_lit <| ga 1 hF rfl fun a hF => wl hF rfl rfl rfl (r_quo (by first | decide | omega) (hF.ev rfl) ec) fun a hF => ga 1 hF rfl fun a hF => wl_nil ?_
   refine xt ?_
   refine ⟨(n.tdiv 10, _), ⟨(fi_i hnw), fi_next hinv c11 rfl⟩, (hS.pick [] (by decide) rfl), ((((hF.nil.keep hF (t := 4) rfl).keep hF (t := 2) rfl).keepE hF (t := 3) rfl rfl).keepE hF (t := 0) rfl (fi_w hnw)), (by show (n.tdiv 10).natAbs < n.natAbs; have := @fi_q n; omega)⟩
  have hd_ := fi_d hnw
  rw [if_neg c15] at hd_
  refine wp_skip <| hK11 _ _ <| ws fun K14 hK14 => ga 2 hF rfl fun a hF => wl hF rfl rfl rfl (r_convw iu3 iu5 (hF.ev rfl)) fun a hF => ?_
  rw [hd_, w8 (by omega) (by omega)] at hF
  refine wl_bslice byteEK [.int .u8 (48 + ((n.natAbs % 10 : Nat) : Int))] [48 + ((n.natAbs % 10 : Nat) : Int)] rfl hF hS rfl mk45 rfl ⟨rfl, (hF.ev rfl), trivial⟩ rfl rfl rfl rfl fun gl_21 w3 a hS hF => wl hF rfl rfl rfl (r_s1o (e := 5) (by kernel_rfl) (by kernel_rfl) (by kernel_rfl) (hF.ev rfl) (hS.own_rd (i := 0) rfl) (by omega) (by omega)) fun a hF => ga 1 hF rfl fun a hF => ?_
  refine wl hF rfl rfl rfl (r_sadd (hF.ev rfl) (hF.ev rfl) (by simp only [List.length_append, List.length_cons, List.length_nil]; omega)) fun a hF => ?_
  refine ge hK14 hF rfl fun a hF => wp_region_lit <| ga 1 hF rfl fun a hF => wl hF rfl rfl rfl (r_quo (by first | decide | omega) (hF.ev rfl) ec) fun a hF => ga 1 hF rfl fun a hF => wl_nil ?_
  refine xt ?_
  refine ⟨(n.tdiv 10, _), ⟨(fi_i hnw), fi_next hinv c11 rfl⟩, (hS.pick [] (by decide) rfl), ((((hF.nil.keep hF (t := 4) rfl).keep hF (t := 2) rfl).keepE hF (t := 3) rfl rfl).keepE hF (t := 0) rfl (fi_w hnw)), (by show (n.tdiv 10).natAbs < n.natAbs; have := @fi_q n; omega)⟩
 refine wp_exit ?_
 refine xt ?_
 refine hK7 _ _ <| wp_seq_k fun K15 hK15 => rg hF rfl fun a hF => cx 27 hF rfl (fun c27 hF => ?_) fun c27 hF => ?_
 ·
  have hol : out.length ≤ 19 := fi_len hn hinv
  refine ws fun K17 hK17 => ga 1 hF rfl fun a hF => ?_
  refine wl hF rfl rfl rfl (r_sadd ec (hF.ev rfl) (by simp only [List.length_append, List.length_cons, List.length_nil]; omega)) fun a hF => ?_
  refine ge hK17 hF rfl fun a hF => ?_
  refine xr ?_
  first
    | (refine ret1 rfl hF rfl ⟨?_, hS.old⟩; rw [c7, fi_zero]; done)
    | (obtain rfl : n = 0 := by omega
       refine ret1 rfl hF rfl ⟨?_, hS.old⟩
       rw [fi_end c7 hinv]
       first | rw [if_pos c27]; rfl | rw [if_neg c27])
 refine wp_skip <| hK15 _ _ <| rg hF rfl fun a hF => ?_
 refine xr ?_
 first
   | (refine ret1 rfl hF rfl ⟨?_, hS.old⟩; rw [c7, fi_zero]; done)
   | (obtain rfl : n = 0 := by omega
      refine ret1 rfl hF rfl ⟨?_, hS.old⟩
      rw [fi_end c7 hinv]
      first | rw [if_pos c27]; rfl | rw [if_neg c27])
theorem implFmtInt_c {W : World} {n : Int} (hT : Lib.TabIs Tryd.prog W "internal/strconv.uint64pow10" .u64 Lib.pow10Tab) (hn : int64 n) : Calls Tryd.prog 15 #[vi n] W (Ret fun v w' => v = vs (Lib.itoa n) ∧ Below W.heap.size W w') := by
 refine cfr Tryd.func15 Tryd.ntmps15 fun a hF => ?_
 have hS := Sep.refl W
 refine rg hF rfl fun a hF => ws fun K2 hK2 => ga 1 hF rfl fun a hF => ckr hF hS rfl (itoa_c (tab_ext hT hS.old) hn) fun w1 a hS hF => ge hK2 hF rfl fun a hF => ?_
 refine xr ?_
 exact ret1 rfl hF rfl ⟨rfl, hS.old⟩
set_option maxRecDepth 20000
section
variable {α : Type} {xs ys : List α} {k : Nat} {x y : α}
variable [DecidableEq α]
end
set_option maxRecDepth 20000
/-- what a row counts, element by element; what marking makes of it -/
def crow {α : Type} (c : α → Nat) : List α → Nat
  | [] => 0
  | x :: xs => c x + crow c xs
section
variable {α : Type} {f : Int → α → α} {c : α → Nat} {xs : List α} {x : α} {k : Nat}
end
def _root_.Go.Proofs.YtbgacfdnmbhloaaDoor.Sl.Model.size (m : Model) : Nat := m.values.length + (m.snapshots.length + crow List.length m.snapshots)
set_option maxRecDepth 20000
theorem toOp_c {W : World} (x : Sl.Op) : Calls Tryd.prog 11 #[.agg x.enc.toArray] W (Ret fun v w' => v = .agg x.enc.toArray ∧ Below W.heap.size W w') := by
 refine cfr Tryd.func11 Tryd.ntmps11 fun a hF => ?_
 have hS := Sep.refl W
 refine ws fun K1 hK1 => wl_box (cs := [_, _, _]) hF hS rfl (hF.ev rfl) rfl fun g1 w1 a hS _ hF => wl_alloc hF hS rfl zr29 fun g2 w2 a hS _ hF => wl_nil <| hK1 _ _ <| ws fun K2 hK2 => wl_alloc hF hS rfl zr29 fun g3 w3 a hS _ hF => wl_nil (hK2 _ _ ?_)
 refine ws fun K3 hK3 => gb 3 2 hF hS rfl rfl rfl fun a hF => wv 0 hF hS rfl rfl rfl rfl rfl rfl fun w4 hS => wl_nil <| hK3 _ _ <| ws fun K4 hK4 => gb 3 2 hF hS rfl rfl rfl fun a hF => wv 0 hF hS rfl rfl rfl rfl rfl rfl fun w5 hS => ?_
 refine wl_nil <| hK4 _ _ <| ws fun K5 hK5 => gb 3 2 hF hS rfl rfl rfl fun a hF => wv 0 hF hS rfl rfl rfl rfl rfl rfl fun w6 hS => wl_nil <| hK5 _ _ <| ws fun K6 hK6 => gb 1 0 hF hS rfl rfl rfl fun a hF => ?_
 refine ww 1 hF hS rfl rfl rfl rfl rfl rfl fun w7 hS => wl_nil (hK6 _ _ ?_)
 refine xr ?_
 exact ret1c rfl ag29 hF hS (i := 1) rfl sz29 rfl ⟨rfl, hS.old⟩
theorem toResult_c {W : World} (x : Sl.Result) : Calls Tryd.prog 12 #[.agg x.enc.toArray] W (Ret fun v w' => v = .agg x.enc.toArray ∧ Below W.heap.size W w') := by
 refine cfr Tryd.func12 Tryd.ntmps12 fun a hF => ?_
 have hS := Sep.refl W
 refine ws fun K1 hK1 => wl_box (cs := [_, _]) hF hS rfl (hF.ev rfl) rfl fun g1 w1 a hS _ hF => wl_alloc hF hS rfl zr30 fun g2 w2 a hS _ hF => wl_nil <| hK1 _ _ <| ws fun K2 hK2 => wl_alloc hF hS rfl zr30 fun g3 w3 a hS _ hF => wl_nil (hK2 _ _ ?_)
 refine ws fun K3 hK3 => gb 3 2 hF hS rfl rfl rfl fun a hF => wv 0 hF hS rfl rfl rfl rfl rfl rfl fun w4 hS => wl_nil <| hK3 _ _ <| ws fun K4 hK4 => gb 3 2 hF hS rfl rfl rfl fun a hF => wv 0 hF hS rfl rfl rfl rfl rfl rfl fun w5 hS => ?_
 refine wl_nil <| hK4 _ _ <| ws fun K5 hK5 => gb 1 0 hF hS rfl rfl rfl fun a hF => ww 1 hF hS rfl rfl rfl rfl rfl rfl fun w6 hS => wl_nil (hK5 _ _ ?_)
 refine xr ?_
 exact ret1c rfl ag30 hF hS (i := 1) rfl sz30 rfl ⟨rfl, hS.old⟩
theorem toEvent_c {W : World} (x : Sl.Event) : Calls Tryd.prog 5 #[.agg x.enc.toArray] W (Ret fun v w' => v = .agg x.enc.toArray ∧ Below W.heap.size W w') := by
 refine cfr Tryd.func5 Tryd.ntmps5 fun a hF => ?_
 have hS := Sep.refl W
 refine ws fun K1 hK1 => wl_box (cs := [_, _, _, _, _, _, _, _]) hF hS rfl (hF.ev rfl) rfl fun g1 w1 a hS _ hF => wl_alloc hF hS rfl zr32 fun g2 w2 a hS _ hF => wl_nil <| hK1 _ _ <| ws fun K2 hK2 => wl_alloc hF hS rfl zr32 fun g3 w3 a hS _ hF => wl_nil (hK2 _ _ ?_)
 refine ws fun K3 hK3 => gb 3 2 hF hS rfl rfl rfl fun a hF => wv 0 hF hS rfl rfl rfl rfl rfl rfl fun w4 hS => wl_nil <| hK3 _ _ <| ws fun K4 hK4 => ga 1 hF rfl fun a hF => wl hF rfl rfl rfl (r_loadn ag23 (hF.ev rfl) (hS.boxn (vs := [_, _, _]) (i := 2) (m := 3) rfl rfl) sz23) fun a hF => ?_
 refine ckr hF hS rfl (toOp_c x.op) fun w5 a hS hF => ga 1 hF rfl fun a hF => ?_
 refine wl_storen (cs' := [_, _, _, _, _, _, _, _]) hF hS (i := 0) rfl (hF.ev rfl) (hF.ev rfl) sz29 ⟨rfl, rfl⟩ rfl rfl fun w6 hS => ?_; dsimp only [List.set] at hS
 refine wl_nil <| hK4 _ _ <| ws fun K5 hK5 => ga 1 hF rfl fun a hF => wl hF rfl rfl rfl (r_loadn ag25 (hF.ev rfl) (hS.boxn (vs := [_, _]) (i := 2) (m := 2) rfl rfl) sz25) fun a hF => ckr hF hS rfl (toResult_c x.result) fun w7 a hS hF => ga 1 hF rfl fun a hF => ?_
 refine wl_storen (cs' := [_, _, _, _, _, _, _, _]) hF hS (i := 0) rfl (hF.ev rfl) (hF.ev rfl) sz30 ⟨rfl, rfl⟩ rfl rfl fun w8 hS => ?_; dsimp only [List.set] at hS
 refine wl_nil <| hK5 _ _ <| ws fun K6 hK6 => gb 3 2 hF hS rfl rfl rfl fun a hF => wv 0 hF hS rfl rfl rfl rfl rfl rfl fun w9 hS => wl_nil <| hK6 _ _ <| ws fun K7 hK7 => gb 3 2 hF hS rfl rfl rfl fun a hF => ?_
 refine wv 0 hF hS rfl rfl rfl rfl rfl rfl fun w10 hS => wl_nil <| hK7 _ _ <| ws fun K8 hK8 => gb 1 0 hF hS rfl rfl rfl fun a hF => ww 1 hF hS rfl rfl rfl rfl rfl rfl fun w11 hS => wl_nil (hK8 _ _ ?_)
 refine xr ?_
 exact ret1c rfl ag32 hF hS (i := 1) rfl sz32 rfl ⟨rfl, hS.old⟩
set_option maxRecDepth 20000
/-- what IsOp asks -/
def _root_.Go.Proofs.YtbgacfdnmbhloaaDoor.Sl.Op.ok (o : Sl.Op) : Prop := ((o.kind = 1 ∨ o.kind = 4 ∨ o.kind = 5) ∧ o.key = 0 ∧ o.value = 0) ∨ (o.kind = 2 ∧ (0 ≤ o.key ∧ o.key ≤ 9) ∧ o.value = 0) ∨ (o.kind = 3 ∧ (0 ≤ o.key ∧ o.key ≤ 9) ∧ (0 ≤ o.value ∧ o.value ≤ 99))
instance (o : Sl.Op) : Decidable o.ok := by unfold Sl.Op.ok; infer_instance
def opWords : List ByteArray := [⟨#[]⟩, ⟨#[98, 101, 103, 105, 110]⟩, ⟨#[114, 101, 97, 100]⟩, ⟨#[119, 114, 105, 116, 101]⟩, ⟨#[101, 110, 100]⟩, ⟨#[99, 111, 108, 108, 101, 99, 116]⟩]
def codeWords : List ByteArray := [⟨#[111, 107]⟩, ⟨#[101, 109, 112, 116, 121]⟩, ⟨#[102, 117, 108, 108]⟩, ⟨#[110, 111, 32, 115, 110, 97, 112, 115, 104, 111, 116]⟩, ⟨#[98, 97, 100, 32, 107, 101, 121]⟩, ⟨#[99, 108, 111, 99, 107, 32, 109, 97, 120]⟩, ⟨#[110, 101, 115, 116, 101, 100]⟩]
/-- the word at a place -/
def word (l : List ByteArray) (k : Int) : List UInt8 := (at0 l k).data.toList
theorem word_v {l : List ByteArray} {k : Int} : Value.string (at0 l k) = vs (word l k) := vs_of _
theorem word_len {l : List ByteArray} {m : Nat} (h : ∀ b ∈ l, b.data.toList.length ≤ m) (k : Int) : (word l k).length ≤ m := by
 unfold word at0
 cases e : l[k.toNat]? with
 | none => simp; exact Nat.zero_le _
 | some b => exact h b (List.mem_of_getElem? e)
theorem opw_len (k : Int) : (word opWords k).length ≤ 8 := word_len (by decide) k
theorem cdw_len (k : Int) : (word codeWords k).length ≤ 40 := word_len (by decide) k
def codeName (c : Int) : List UInt8 := if 0 ≤ c ∧ c ≤ 6 then word codeWords c else []
theorem codeName_len (c : Int) : (codeName c).length ≤ 40 := by
 unfold codeName; split
 · exact cdw_len c
 · exact Nat.zero_le _
def fmtOp (o : Sl.Op) : List UInt8 :=
  if o.ok then word opWords o.kind ++ (if o.kind = 2 then 32 :: Lib.itoa o.key else if o.kind = 3 then 32 :: (Lib.itoa o.key ++ 32 :: Lib.itoa o.value) else []) else []
def fmtRes (r : Sl.Result) : List UInt8 := if codeName r.code = [] ∨ r.value = 0 then codeName r.code else codeName r.code ++ 32 :: Lib.itoa r.value
def evOk (e : Sl.Event) : Prop := e.op.ok ∧ (0 ≤ e.thread ∧ e.thread ≤ 3) ∧ 0 ≤ e.start ∧ -1 ≤ e.fin
instance (e : Sl.Event) : Decidable (evOk e) := by unfold evOk; infer_instance
def fmtEv (e : Sl.Event) : List UInt8 :=
  if evOk e then Lib.itoa e.thread ++ 32 :: (fmtOp e.op ++ [32, 102, 114, 111, 109, 32] ++ Lib.itoa e.start ++ (if e.fin < 0 then [32, 112, 101, 110, 100, 105, 110, 103] else [32, 116, 111, 32] ++ Lib.itoa e.fin ++ 32 :: fmtRes e.result)) else []
theorem fmtOp_nil {o : Sl.Op} : fmtOp o = [] ↔ ¬ o.ok := by
 unfold fmtOp
 split
 · rename_i h
   refine ⟨fun h1 => absurd (List.append_eq_nil_iff.1 h1).1 ?_, fun h1 => absurd h h1⟩
   have : o.kind = 1 ∨ o.kind = 2 ∨ o.kind = 3 ∨ o.kind = 4 ∨ o.kind = 5 := by unfold Sl.Op.ok at h; omega
   rcases this with e | e | e | e | e <;> rw [e] <;> decide
 · rename_i h; simp [h]
theorem fmtOp_len {o : Sl.Op} (h : o.wf) : (fmtOp o).length ≤ 60 := by
 have h1 := itoaL h.2.1; have h2 := itoaL h.2.2; have h3 := opw_len o.kind
 unfold fmtOp; split
 · split
   · simp only [List.length_append, List.length_cons]; omega
   · split <;> simp only [List.length_append, List.length_cons, List.length_nil] <;> omega
 · exact Nat.zero_le _
theorem fmtRes_len {r : Sl.Result} (h : r.wf) : (fmtRes r).length ≤ 70 := by
 have h1 := itoaL h.2; have h2 := codeName_len r.code
 unfold fmtRes; split
 · omega
 · simp only [List.length_append, List.length_cons]; omega
theorem l1In_c {W : World} (x lo hi : Int) : Calls Tryd.prog 8 #[vi x, vi lo, vi hi] W (Ret fun v w' => v = .bool (decide (lo ≤ x ∧ x ≤ hi)) ∧ Below W.heap.size W w') := by
 refine cfr Tryd.func8 Tryd.ntmps8 fun a hF => ?_
 have hS := Sep.refl W
 refine rg hF rfl fun a hF => ws fun K2 hK2 => ga 4 hF rfl fun a hF => ?_
 revert hF; intro hF0; refine bsplit (t := 10) hF0 rfl (fun b10 hF => ?_) (fun b10 hF => ?_)
 ·
  clear hF0
  try simp only [decide_eq_true_eq, decide_eq_false_iff_not, Bool.not_eq_true', Bool.not_eq_false'] at b10
  refine ge hK2 hF rfl fun a hF => ?_
  refine xr ?_
  refine ret1 rfl hF rfl ⟨?_, hS.old⟩
  first | exact congrArg Value.bool (decide_eq_decide.2 (by omega)) | exact (congrArg Value.bool (decide_eq_false (by omega))).symm | exact (congrArg Value.bool (decide_eq_true (by omega))).symm
 clear hF0
 try simp only [decide_eq_true_eq, decide_eq_false_iff_not, Bool.not_eq_true', Bool.not_eq_false'] at b10
 refine ge hK2 hF rfl fun a hF => ?_
 refine xr ?_
 refine ret1 rfl hF rfl ⟨?_, hS.old⟩
 first | exact congrArg Value.bool (decide_eq_decide.2 (by omega)) | exact (congrArg Value.bool (decide_eq_false (by omega))).symm | exact (congrArg Value.bool (decide_eq_true (by omega))).symm
theorem in_c {W : World} (x lo hi : Int) : Calls Tryd.prog 13 #[vi x, vi lo, vi hi] W (Ret fun v w' => v = .bool (decide (lo ≤ x ∧ x ≤ hi)) ∧ Below W.heap.size W w') := by
 refine cfr Tryd.func13 Tryd.ntmps13 fun a hF => ?_
 have hS := Sep.refl W
 refine rg hF rfl fun a hF => ws fun K2 hK2 => ga 4 hF rfl fun a hF => ?_
 revert hF; intro hF0; refine bsplit (t := 10) hF0 rfl (fun b10 hF => ?_) (fun b10 hF => ?_)
 ·
  clear hF0
  try simp only [decide_eq_true_eq, decide_eq_false_iff_not, Bool.not_eq_true', Bool.not_eq_false'] at b10
  refine ge hK2 hF rfl fun a hF => ?_
  refine xr ?_
  refine ret1 rfl hF rfl ⟨?_, hS.old⟩
  first | exact congrArg Value.bool (decide_eq_decide.2 (by omega)) | exact (congrArg Value.bool (decide_eq_false (by omega))).symm | exact (congrArg Value.bool (decide_eq_true (by omega))).symm
 clear hF0
 try simp only [decide_eq_true_eq, decide_eq_false_iff_not, Bool.not_eq_true', Bool.not_eq_false'] at b10
 refine ge hK2 hF rfl fun a hF => ?_
 refine xr ?_
 refine ret1 rfl hF rfl ⟨?_, hS.old⟩
 first | exact congrArg Value.bool (decide_eq_decide.2 (by omega)) | exact (congrArg Value.bool (decide_eq_false (by omega))).symm | exact (congrArg Value.bool (decide_eq_true (by omega))).symm
theorem specIsOp_c {W : World} (o : Sl.Op) : Calls Tryd.prog 19 #[.agg o.enc.toArray] W (Ret fun v w' => v = .bool (decide o.ok) ∧ Below W.heap.size W w') := by
 refine cfr Tryd.func19 Tryd.ntmps19 fun a hF => ?_
 have hS := Sep.refl W
 refine ws fun K1 hK1 => wl_box (cs := [_, _, _]) hF hS rfl (hF.ev rfl) rfl fun g1 w1 a hS _ hF => ge hK1 hF rfl fun a hF => wp_seq_k fun K2 hK2 => rh 0 hF hS rfl rfl rfl fun a hF => wp_block <| wp_seq_k fun K4 hK4 => ?_
 refine rg hF rfl fun a hF => cx 5 hF rfl (fun c5 hF => ?_) fun c5 hF => ?_
 ·
  refine wp_skip <| hK4 _ _ <| wc_true (hF.ev rfl) <| ws fun K6 hK6 => gb 4 0 hF hS rfl rfl rfl fun a hF => ?_
  apply wa 4 12 16 hF hS
  ·
   intro hg12 a hF
   exact jf 4 0 hF hS rfl rfl rfl rfl rfl rfl
  intro a w2 hF hS
  refine ge hK6 hF rfl fun a hF => ?_
  refine xr ?_
  refine ret1 rfl hF rfl ⟨congrArg Value.bool (Bool.eq_iff_iff.2 ?_), hS.old⟩
  simp only [Bool.false_eq_true, Bool.true_eq_false, Bool.and_eq_true, Bool.or_eq_true, Bool.not_eq_true', decide_eq_true_eq, decide_eq_false_iff_not, iff_true, true_iff, false_iff, iff_false]
  unfold Sl.Op.ok
  omega
 refine rg hF rfl fun a hF => cx 5 hF rfl (fun c5 hF => ?_) fun c5 hF => ?_
 ·
  refine wp_skip <| hK4 _ _ <| wc_true (hF.ev rfl) <| ws fun K8 hK8 => gb 4 0 hF hS rfl rfl rfl fun a hF => ?_
  apply wa 4 12 16 hF hS
  ·
   intro hg12 a hF
   exact jf 4 0 hF hS rfl rfl rfl rfl rfl rfl
  intro a w3 hF hS
  refine ge hK8 hF rfl fun a hF => ?_
  refine xr ?_
  refine ret1 rfl hF rfl ⟨congrArg Value.bool (Bool.eq_iff_iff.2 ?_), hS.old⟩
  simp only [Bool.false_eq_true, Bool.true_eq_false, Bool.and_eq_true, Bool.or_eq_true, Bool.not_eq_true', decide_eq_true_eq, decide_eq_false_iff_not, iff_true, true_iff, false_iff, iff_false]
  unfold Sl.Op.ok
  omega
 refine wp_region_lit <| ge hK4 hF rfl fun a hF => cx 5 hF rfl (fun c5 hF => ?_) fun c5 hF => ?_
 ·
  refine ws fun K9 hK9 => gb 4 0 hF hS rfl rfl rfl fun a hF => ?_
  apply wa 4 12 16 hF hS
  ·
   intro hg12 a hF
   exact jf 4 0 hF hS rfl rfl rfl rfl rfl rfl
  intro a w4 hF hS
  refine ge hK9 hF rfl fun a hF => ?_
  refine xr ?_
  refine ret1 rfl hF rfl ⟨congrArg Value.bool (Bool.eq_iff_iff.2 ?_), hS.old⟩
  simp only [Bool.false_eq_true, Bool.true_eq_false, Bool.and_eq_true, Bool.or_eq_true, Bool.not_eq_true', decide_eq_true_eq, decide_eq_false_iff_not, iff_true, true_iff, false_iff, iff_false]
  unfold Sl.Op.ok
  omega
 refine rg hF rfl fun a hF => cx 17 hF rfl (fun c17 hF => ?_) fun c17 hF => ?_
 ·
  refine ws fun K11 hK11 => gb 2 0 hF hS rfl rfl rfl fun a hF => ckr hF hS rfl (l1In_c _ _ _) fun w5 a hS hF => ga 1 hF rfl fun a hF => ?_
  apply wa 4 22 26 hF hS
  ·
   intro hg22 a hF
   exact jf 4 0 hF hS rfl rfl rfl rfl rfl rfl
  intro a w6 hF hS
  refine ge hK11 hF rfl fun a hF => ?_
  refine xr ?_
  refine ret1 rfl hF rfl ⟨congrArg Value.bool (Bool.eq_iff_iff.2 ?_), hS.old⟩
  simp only [Bool.false_eq_true, Bool.true_eq_false, Bool.and_eq_true, Bool.or_eq_true, Bool.not_eq_true', decide_eq_true_eq, decide_eq_false_iff_not, iff_true, true_iff, false_iff, iff_false]
  unfold Sl.Op.ok
  omega
 refine rg hF rfl fun a hF => cx 27 hF rfl (fun c27 hF => ?_) fun c27 hF => ?_
 ·
  refine ws fun K13 hK13 => gb 2 0 hF hS rfl rfl rfl fun a hF => ckr hF hS rfl (l1In_c _ _ _) fun w7 a hS hF => ga 1 hF rfl fun a hF => ?_
  apply wa 4 32 36 hF hS
  ·
   intro hg32 a hF
   refine gb 2 0 hF hS rfl rfl rfl fun a hF => ckr hF hS rfl (l1In_c _ _ _) fun w8 a hS hF => ?_
   exact je 4 hF hS rfl rfl rfl rfl
  intro a w9 hF hS
  refine ge hK13 hF rfl fun a hF => ?_
  refine xr ?_
  refine ret1 rfl hF rfl ⟨congrArg Value.bool (Bool.eq_iff_iff.2 ?_), hS.old⟩
  simp only [Bool.false_eq_true, Bool.true_eq_false, Bool.and_eq_true, Bool.or_eq_true, Bool.not_eq_true', decide_eq_true_eq, decide_eq_false_iff_not, iff_true, true_iff, false_iff, iff_false]
  unfold Sl.Op.ok
  omega
 refine wp_skip ?_
 refine xt ?_
 refine hK2 _ _ <| rg hF rfl fun a hF => ?_
 refine xr ?_
 refine ret1 rfl hF rfl ⟨congrArg Value.bool (Bool.eq_iff_iff.2 ?_), hS.old⟩
 simp only [Bool.false_eq_true, Bool.true_eq_false, Bool.and_eq_true, Bool.or_eq_true, Bool.not_eq_true', decide_eq_true_eq, decide_eq_false_iff_not, iff_true, true_iff, false_iff, iff_false]
 unfold Sl.Op.ok
 omega
theorem implIsOp_c {W : World} (o : Sl.Op) : Calls Tryd.prog 14 #[.agg o.enc.toArray] W (Ret fun v w' => v = .bool (decide o.ok) ∧ Below W.heap.size W w') := by
 refine cfr Tryd.func14 Tryd.ntmps14 fun a hF => ?_
 have hS := Sep.refl W
 refine ws fun K1 hK1 => wl_box (cs := [_, _, _]) hF hS rfl (hF.ev rfl) rfl fun g1 w1 a hS _ hF => ge hK1 hF rfl fun a hF => wp_seq_k fun K2 hK2 => rh 0 hF hS rfl rfl rfl fun a hF => wp_block <| wp_seq_k fun K4 hK4 => ?_
 refine rg hF rfl fun a hF => cx 5 hF rfl (fun c5 hF => ?_) fun c5 hF => ?_
 ·
  refine wp_skip <| hK4 _ _ <| wc_true (hF.ev rfl) <| ws fun K6 hK6 => gb 4 0 hF hS rfl rfl rfl fun a hF => ?_
  apply wa 4 12 16 hF hS
  ·
   intro hg12 a hF
   exact jf 4 0 hF hS rfl rfl rfl rfl rfl rfl
  intro a w2 hF hS
  refine ge hK6 hF rfl fun a hF => ?_
  refine xr ?_
  refine ret1 rfl hF rfl ⟨congrArg Value.bool (Bool.eq_iff_iff.2 ?_), hS.old⟩
  simp only [Bool.false_eq_true, Bool.true_eq_false, Bool.and_eq_true, Bool.or_eq_true, Bool.not_eq_true', decide_eq_true_eq, decide_eq_false_iff_not, iff_true, true_iff, false_iff, iff_false]
  unfold Sl.Op.ok
  omega
 refine rg hF rfl fun a hF => cx 5 hF rfl (fun c5 hF => ?_) fun c5 hF => ?_
 ·
  refine wp_skip <| hK4 _ _ <| wc_true (hF.ev rfl) <| ws fun K8 hK8 => gb 4 0 hF hS rfl rfl rfl fun a hF => ?_
  apply wa 4 12 16 hF hS
  ·
   intro hg12 a hF
   exact jf 4 0 hF hS rfl rfl rfl rfl rfl rfl
  intro a w3 hF hS
  refine ge hK8 hF rfl fun a hF => ?_
  refine xr ?_
  refine ret1 rfl hF rfl ⟨congrArg Value.bool (Bool.eq_iff_iff.2 ?_), hS.old⟩
  simp only [Bool.false_eq_true, Bool.true_eq_false, Bool.and_eq_true, Bool.or_eq_true, Bool.not_eq_true', decide_eq_true_eq, decide_eq_false_iff_not, iff_true, true_iff, false_iff, iff_false]
  unfold Sl.Op.ok
  omega
 refine wp_region_lit <| ge hK4 hF rfl fun a hF => cx 5 hF rfl (fun c5 hF => ?_) fun c5 hF => ?_
 ·
  refine ws fun K9 hK9 => gb 4 0 hF hS rfl rfl rfl fun a hF => ?_
  apply wa 4 12 16 hF hS
  ·
   intro hg12 a hF
   exact jf 4 0 hF hS rfl rfl rfl rfl rfl rfl
  intro a w4 hF hS
  refine ge hK9 hF rfl fun a hF => ?_
  refine xr ?_
  refine ret1 rfl hF rfl ⟨congrArg Value.bool (Bool.eq_iff_iff.2 ?_), hS.old⟩
  simp only [Bool.false_eq_true, Bool.true_eq_false, Bool.and_eq_true, Bool.or_eq_true, Bool.not_eq_true', decide_eq_true_eq, decide_eq_false_iff_not, iff_true, true_iff, false_iff, iff_false]
  unfold Sl.Op.ok
  omega
 refine rg hF rfl fun a hF => cx 17 hF rfl (fun c17 hF => ?_) fun c17 hF => ?_
 ·
  refine ws fun K11 hK11 => gb 2 0 hF hS rfl rfl rfl fun a hF => ckr hF hS rfl (in_c _ _ _) fun w5 a hS hF => ga 1 hF rfl fun a hF => ?_
  apply wa 4 22 26 hF hS
  ·
   intro hg22 a hF
   exact jf 4 0 hF hS rfl rfl rfl rfl rfl rfl
  intro a w6 hF hS
  refine ge hK11 hF rfl fun a hF => ?_
  refine xr ?_
  refine ret1 rfl hF rfl ⟨congrArg Value.bool (Bool.eq_iff_iff.2 ?_), hS.old⟩
  simp only [Bool.false_eq_true, Bool.true_eq_false, Bool.and_eq_true, Bool.or_eq_true, Bool.not_eq_true', decide_eq_true_eq, decide_eq_false_iff_not, iff_true, true_iff, false_iff, iff_false]
  unfold Sl.Op.ok
  omega
 refine rg hF rfl fun a hF => cx 27 hF rfl (fun c27 hF => ?_) fun c27 hF => ?_
 ·
  refine ws fun K13 hK13 => gb 2 0 hF hS rfl rfl rfl fun a hF => ckr hF hS rfl (in_c _ _ _) fun w7 a hS hF => ga 1 hF rfl fun a hF => ?_
  apply wa 4 32 36 hF hS
  ·
   intro hg32 a hF
   refine gb 2 0 hF hS rfl rfl rfl fun a hF => ckr hF hS rfl (in_c _ _ _) fun w8 a hS hF => ?_
   exact je 4 hF hS rfl rfl rfl rfl
  intro a w9 hF hS
  refine ge hK13 hF rfl fun a hF => ?_
  refine xr ?_
  refine ret1 rfl hF rfl ⟨congrArg Value.bool (Bool.eq_iff_iff.2 ?_), hS.old⟩
  simp only [Bool.false_eq_true, Bool.true_eq_false, Bool.and_eq_true, Bool.or_eq_true, Bool.not_eq_true', decide_eq_true_eq, decide_eq_false_iff_not, iff_true, true_iff, false_iff, iff_false]
  unfold Sl.Op.ok
  omega
 refine wp_skip ?_
 refine xt ?_
 refine hK2 _ _ <| rg hF rfl fun a hF => ?_
 refine xr ?_
 refine ret1 rfl hF rfl ⟨congrArg Value.bool (Bool.eq_iff_iff.2 ?_), hS.old⟩
 simp only [Bool.false_eq_true, Bool.true_eq_false, Bool.and_eq_true, Bool.or_eq_true, Bool.not_eq_true', decide_eq_true_eq, decide_eq_false_iff_not, iff_true, true_iff, false_iff, iff_false]
 unfold Sl.Op.ok
 omega
theorem l5Words_c {W : World}  : Calls Tryd.prog 20 #[] W (Ret (Mk W (fun s : Slv => sv s) (fun s => [Own stringEK (sv s) opWords]))) := by
 refine cfr Tryd.func20 Tryd.ntmps20 fun a hF => ?_
 have hS := Sep.refl W
 refine rg hF rfl fun a hF => ws fun K2 hK2 => wl_bslice stringEK [.string ⟨#[]⟩, .string ⟨#[98, 101, 103, 105, 110]⟩, .string ⟨#[114, 101, 97, 100]⟩, .string ⟨#[119, 114, 105, 116, 101]⟩, .string ⟨#[101, 110, 100]⟩, .string ⟨#[99, 111, 108, 108, 101, 99, 116]⟩] [⟨#[]⟩, ⟨#[98, 101, 103, 105, 110]⟩, ⟨#[114, 101, 97, 100]⟩, ⟨#[119, 114, 105, 116, 101]⟩, ⟨#[101, 110, 100]⟩, ⟨#[99, 111, 108, 108, 101, 99, 116]⟩] rfl hF hS rfl mk42 rfl ⟨rfl, ec, rfl, ec, rfl, ec, rfl, ec, rfl, ec, rfl, ec, trivial⟩ rfl rfl rfl rfl fun gl_1 w1 a hS hF => ge hK2 hF rfl fun a hF => ?_
 refine xr ?_
 exact ret1 rfl hF rfl ⟨(_, _, _), rfl, hS.pick [0] (by decide) rfl⟩
theorem opNames_c {W : World}  : Calls Tryd.prog 23 #[] W (Ret (Mk W (fun s : Slv => sv s) (fun s => [Own stringEK (sv s) opWords]))) := by
 refine cfr Tryd.func23 Tryd.ntmps23 fun a hF => ?_
 have hS := Sep.refl W
 refine rg hF rfl fun a hF => ws fun K2 hK2 => wl_bslice stringEK [.string ⟨#[]⟩, .string ⟨#[98, 101, 103, 105, 110]⟩, .string ⟨#[114, 101, 97, 100]⟩, .string ⟨#[119, 114, 105, 116, 101]⟩, .string ⟨#[101, 110, 100]⟩, .string ⟨#[99, 111, 108, 108, 101, 99, 116]⟩] [⟨#[]⟩, ⟨#[98, 101, 103, 105, 110]⟩, ⟨#[114, 101, 97, 100]⟩, ⟨#[119, 114, 105, 116, 101]⟩, ⟨#[101, 110, 100]⟩, ⟨#[99, 111, 108, 108, 101, 99, 116]⟩] rfl hF hS rfl mk42 rfl ⟨rfl, ec, rfl, ec, rfl, ec, rfl, ec, rfl, ec, rfl, ec, trivial⟩ rfl rfl rfl rfl fun gl_1 w1 a hS hF => ge hK2 hF rfl fun a hF => ?_
 refine xr ?_
 exact ret1 rfl hF rfl ⟨(_, _, _), rfl, hS.pick [0] (by decide) rfl⟩
theorem specCodeName_c {W : World} {c : Int} : Calls Tryd.prog 21 #[vi c] W (Ret fun v w' => v = vs (codeName c) ∧ Below W.heap.size W w') := by
 refine cfr Tryd.func21 Tryd.ntmps21 fun a hF => ?_
 have hS := Sep.refl W
 refine rg hF rfl fun a hF => wp_seq_k fun K2 hK2 => ws fun K3 hK3 => ga 1 hF rfl fun a hF => ckr hF hS rfl (l1In_c _ _ _) fun w1 a hS hF => ge hK3 hF rfl fun a hF => cx 5 hF rfl (fun c5 hF => ?_) fun c5 hF => ?_
 ·
  refine rg hF rfl fun a hF => ?_
  refine xr ?_
  first
    | (refine ret1 rfl hF rfl ⟨?_, hS.old⟩; unfold codeName; rw [if_neg (by omega)]; done)
    | (refine ret1 rfl hF rfl ⟨?_, hS.old⟩; unfold codeName; rw [if_pos (by omega)]; exact word_v)
 refine wp_skip <| hK2 _ _ <| ws fun K5 hK5 => wl_bslice stringEK [.string ⟨#[111, 107]⟩, .string ⟨#[101, 109, 112, 116, 121]⟩, .string ⟨#[102, 117, 108, 108]⟩, .string ⟨#[110, 111, 32, 115, 110, 97, 112, 115, 104, 111, 116]⟩, .string ⟨#[98, 97, 100, 32, 107, 101, 121]⟩, .string ⟨#[99, 108, 111, 99, 107, 32, 109, 97, 120]⟩, .string ⟨#[110, 101, 115, 116, 101, 100]⟩] [⟨#[111, 107]⟩, ⟨#[101, 109, 112, 116, 121]⟩, ⟨#[102, 117, 108, 108]⟩, ⟨#[110, 111, 32, 115, 110, 97, 112, 115, 104, 111, 116]⟩, ⟨#[98, 97, 100, 32, 107, 101, 121]⟩, ⟨#[99, 108, 111, 99, 107, 32, 109, 97, 120]⟩, ⟨#[110, 101, 115, 116, 101, 100]⟩] rfl hF hS rfl mk42 rfl ⟨rfl, ec, rfl, ec, rfl, ec, rfl, ec, rfl, ec, rfl, ec, rfl, ec, trivial⟩ rfl rfl rfl rfl fun gl_6 w2 a hS hF => ga 1 hF rfl fun a hF => ?_
 obtain ⟨g8, o8, m8, q8, hv8, hm8, hl8, hc8⟩ := Rd.atF ((hS.own_rd (i := 0) rfl)) (a := a) (X := .tmp 7) (hF.ev rfl) (by omega) (by show c < ((7 : Nat) : Int); omega)
 refine wl hF rfl rfl rfl (r_index sl42 ((hF.ev rfl).trans hv8) (hF.ev rfl) (by omega) (by first | omega | (simp at hm8; omega))) fun a hF => ?_
 refine wl hF rfl rfl rfl (r_load1 sc9 (hF.ev rfl) (hc8 0 _ rfl)) fun a hF => ge hK5 hF rfl fun a hF => ?_
 refine xr ?_
 first
   | (refine ret1 rfl hF rfl ⟨?_, hS.old⟩; unfold codeName; rw [if_neg (by omega)]; done)
   | (refine ret1 rfl hF rfl ⟨?_, hS.old⟩; unfold codeName; rw [if_pos (by omega)]; exact word_v)
theorem implCodeName_c {W : World} {c : Int} : Calls Tryd.prog 24 #[vi c] W (Ret fun v w' => v = vs (codeName c) ∧ Below W.heap.size W w') := by
 refine cfr Tryd.func24 Tryd.ntmps24 fun a hF => ?_
 have hS := Sep.refl W
 refine rg hF rfl fun a hF => wp_seq_k fun K2 hK2 => ws fun K3 hK3 => ga 1 hF rfl fun a hF => ckr hF hS rfl (in_c _ _ _) fun w1 a hS hF => ge hK3 hF rfl fun a hF => cx 5 hF rfl (fun c5 hF => ?_) fun c5 hF => ?_
 ·
  refine rg hF rfl fun a hF => ?_
  refine xr ?_
  first
    | (refine ret1 rfl hF rfl ⟨?_, hS.old⟩; unfold codeName; rw [if_neg (by omega)]; done)
    | (refine ret1 rfl hF rfl ⟨?_, hS.old⟩; unfold codeName; rw [if_pos (by omega)]; exact word_v)
 refine wp_skip <| hK2 _ _ <| ws fun K5 hK5 => wl_bslice stringEK [.string ⟨#[111, 107]⟩, .string ⟨#[101, 109, 112, 116, 121]⟩, .string ⟨#[102, 117, 108, 108]⟩, .string ⟨#[110, 111, 32, 115, 110, 97, 112, 115, 104, 111, 116]⟩, .string ⟨#[98, 97, 100, 32, 107, 101, 121]⟩, .string ⟨#[99, 108, 111, 99, 107, 32, 109, 97, 120]⟩, .string ⟨#[110, 101, 115, 116, 101, 100]⟩] [⟨#[111, 107]⟩, ⟨#[101, 109, 112, 116, 121]⟩, ⟨#[102, 117, 108, 108]⟩, ⟨#[110, 111, 32, 115, 110, 97, 112, 115, 104, 111, 116]⟩, ⟨#[98, 97, 100, 32, 107, 101, 121]⟩, ⟨#[99, 108, 111, 99, 107, 32, 109, 97, 120]⟩, ⟨#[110, 101, 115, 116, 101, 100]⟩] rfl hF hS rfl mk42 rfl ⟨rfl, ec, rfl, ec, rfl, ec, rfl, ec, rfl, ec, rfl, ec, rfl, ec, trivial⟩ rfl rfl rfl rfl fun gl_6 w2 a hS hF => ga 1 hF rfl fun a hF => ?_
 obtain ⟨g8, o8, m8, q8, hv8, hm8, hl8, hc8⟩ := Rd.atF ((hS.own_rd (i := 0) rfl)) (a := a) (X := .tmp 7) (hF.ev rfl) (by omega) (by show c < ((7 : Nat) : Int); omega)
 refine wl hF rfl rfl rfl (r_index sl42 ((hF.ev rfl).trans hv8) (hF.ev rfl) (by omega) (by first | omega | (simp at hm8; omega))) fun a hF => ?_
 refine wl hF rfl rfl rfl (r_load1 sc9 (hF.ev rfl) (hc8 0 _ rfl)) fun a hF => ge hK5 hF rfl fun a hF => ?_
 refine xr ?_
 first
   | (refine ret1 rfl hF rfl ⟨?_, hS.old⟩; unfold codeName; rw [if_neg (by omega)]; done)
   | (refine ret1 rfl hF rfl ⟨?_, hS.old⟩; unfold codeName; rw [if_pos (by omega)]; exact word_v)
theorem specFmtOp_c {W : World} {o : Sl.Op} (ho : o.wf) : Calls Tryd.prog 7 #[.agg o.enc.toArray] W (Ret fun v w' => v = vs (fmtOp o) ∧ Below W.heap.size W w') := by
 refine cfr Tryd.func7 Tryd.ntmps7 fun a hF => ?_
 have hS := Sep.refl W
 have hik := itoaL ho.2.1
 have hiv := itoaL ho.2.2
 have hwl := opw_len o.kind
 have hol : opWords.length = 6 := rfl
 refine ws fun K1 hK1 => wl_box (cs := [_, _, _]) hF hS rfl (hF.ev rfl) rfl fun g1 w1 a hS _ hF => ge hK1 hF rfl fun a hF => wp_seq_k fun K2 hK2 => ws fun K3 hK3 => gb 1 0 hF hS rfl rfl rfl fun a hF => ckr hF hS rfl (specIsOp_c _) fun w2 a hS hF => ?_
 refine ge hK3 hF rfl fun a hF => cx 6 hF rfl (fun c6 hF => ?_) fun c6 hF => ?_
 ·
  refine rg hF rfl fun a hF => ?_
  refine xr ?_
  first
    | (exfalso; omega)
    | (refine ret1 rfl hF rfl ⟨?_, hS.old⟩; unfold fmtOp; rw [if_neg (by assumption)]; done)
    | (refine ret1 rfl hF rfl ⟨?_, hS.old⟩; unfold fmtOp; rw [if_pos hok]; (first | rw [if_pos (by omega)] | rw [if_neg (by omega), if_pos (by omega)] | rw [if_neg (by omega), if_neg (by omega)]); simp only [List.append_assoc, List.cons_append, List.nil_append, List.append_nil]; done)
 have hok : o.ok := by simpa using c6
 have hkd : 1 ≤ o.kind ∧ o.kind ≤ 5 := by unfold Sl.Op.ok at hok; omega
 refine wp_skip <| hK2 _ _ <| wp_seq_k fun K5 hK5 => ?_
 refine wp_region_todo (is := [1, 2, 0, 3, 4, 5]) [] [3, 4, 5] (by kernel_rfl) hF hS ⟨trivial, by decide, by decide, by decide⟩ (by kernel_rfl) ?_; intro hl_ wd hSd
 refine tp 1 hl_ rfl <| todo_load [3, 4, 5] hl_ (by kernel_rfl) rfl (gw0 rfl) rfl rfl rfl (fun a w_ hF hB_ => r_load1 sc3 (hF.ev rfl) ((hSd.ext hB_).box (i := 0) rfl rfl)) ?_
 refine todo_mk hl_ rfl (by kernel_rfl) rfl rfl rfl rfl rfl (fun a w_ hF => r_call0 en20 ) (fun w_ hS => l5Words_c) ?_; rintro s7
 refine todo_fin hl_ rfl (by kernel_rfl) (tl := [_, _, _]) rfl ?_; intro a w3 hF hA_
 have hS := hA_.sep; clear hA_
 clear hl_; try clear hSd
 try dsimp only [List.cons_append, List.nil_append, List.set] at hS
 try clear wd
 obtain ⟨g10, o10, m10, q10, hv10, hm10, hl10, hc10⟩ := Rd.atF ((hS.own_rd (i := 0) rfl)) (a := a) (X := .tmp 9) (hF.ev rfl) (by omega) (by omega)
 refine wl hF rfl rfl rfl (r_index sl42 ((hF.ev rfl).trans hv10) (hF.ev rfl) (by omega) (by first | omega | (simp at hm10; omega))) fun a hF => ?_
 refine wl hF rfl rfl rfl (r_load1 sc9 (hF.ev rfl) (hc10 0 _ rfl)) fun a hF => ?_
 rw [word_v] at hF
 refine ga 1 hF rfl fun a hF => wl_nil ⟨rfl, ?_⟩
 refine hK5 _ _ <| wp_seq_k fun K6 hK6 => rh 1 hF hS rfl rfl rfl fun a hF => wp_block <| rg hF rfl fun a hF => cx 14 hF rfl (fun c14 hF => ?_) fun c14 hF => ?_
 ·
  refine ws fun K9 hK9 => ga 1 hF rfl fun a hF => ?_
  refine wl hF rfl rfl rfl (r_sadd (hF.ev rfl) ec (by simp only [List.length_append, List.length_cons, List.length_nil]; omega)) fun a hF => ?_
  refine gb 2 1 hF hS rfl rfl rfl fun a hF => ckr hF hS rfl (specFmtInt_c (by first | exact ho.2.1 | exact ho.2.2)) fun w4 a hS hF => ?_
  refine wl hF rfl rfl rfl (r_sadd (hF.ev rfl) (hF.ev rfl) (by simp only [List.length_append, List.length_cons, List.length_nil]; omega)) fun a hF => ?_
  refine ge hK9 hF rfl fun a hF => ?_
  refine xr ?_
  first
    | (exfalso; omega)
    | (refine ret1 rfl hF rfl ⟨?_, hS.old⟩; unfold fmtOp; rw [if_neg (by assumption)]; done)
    | (refine ret1 rfl hF rfl ⟨?_, hS.old⟩; unfold fmtOp; rw [if_pos hok]; (first | rw [if_pos (by omega)] | rw [if_neg (by omega), if_pos (by omega)] | rw [if_neg (by omega), if_neg (by omega)]); simp only [List.append_assoc, List.cons_append, List.nil_append, List.append_nil]; done)
 refine rg hF rfl fun a hF => cx 22 hF rfl (fun c22 hF => ?_) fun c22 hF => ?_
 ·
  refine wp_seq_k fun K11 hK11 => wp_region_calm (by kernel_rfl) (by kernel_rfl) <| qa 1 hF tk rfl fun a hF => ?_
  refine wq hF rfl rfl rfl (fun w_ hB_ => r_sadd (hF.ev rfl) ec (by simp only [List.length_append, List.length_cons, List.length_nil]; omega)) fun a hF => ?_
  refine qb 2 1 hF tk hS rfl rfl rfl fun a hF => qk hF rfl (fun w_ hB_ => specFmtInt_c (by first | exact ho.2.1 | exact ho.2.2)) fun a hF => ?_
  refine wq hF rfl rfl rfl (fun w_ hB_ => r_sadd (hF.ev rfl) (hF.ev rfl) (by simp only [List.length_append, List.length_cons, List.length_nil]; omega)) fun a hF => ?_
  refine wq hF rfl rfl rfl (fun w_ hB_ => r_sadd (hF.ev rfl) ec (by simp only [List.length_append, List.length_cons, List.length_nil]; omega)) fun a hF => ?_
  refine qb 2 1 hF tk hS rfl rfl rfl fun a hF => qk hF rfl (fun w_ hB_ => specFmtInt_c (by first | exact ho.2.1 | exact ho.2.2)) fun a hF => ?_
  refine wq hF rfl rfl rfl (fun w_ hB_ => r_sadd (hF.ev rfl) (hF.ev rfl) (by simp only [List.length_append, List.length_cons, List.length_nil]; omega)) fun a hF => ?_
  refine qa 1 hF tk rfl fun a hF => ?_
  refine wpQuiet_nil ?_; intro w5 hB_; have hS := hS.ext hB_
  refine hK11 _ _ ?_
  refine xr ?_
  first
    | (exfalso; omega)
    | (refine ret1 rfl hF rfl ⟨?_, hS.old⟩; unfold fmtOp; rw [if_neg (by assumption)]; done)
    | (refine ret1 rfl hF rfl ⟨?_, hS.old⟩; unfold fmtOp; rw [if_pos hok]; (first | rw [if_pos (by omega)] | rw [if_neg (by omega), if_pos (by omega)] | rw [if_neg (by omega), if_neg (by omega)]); simp only [List.append_assoc, List.cons_append, List.nil_append, List.append_nil]; done)
 refine wp_skip ?_
 refine xt ?_
 refine hK6 _ _ <| rg hF rfl fun a hF => ?_
 refine xr ?_
 first
   | (exfalso; omega)
   | (refine ret1 rfl hF rfl ⟨?_, hS.old⟩; unfold fmtOp; rw [if_neg (by assumption)]; done)
   | (refine ret1 rfl hF rfl ⟨?_, hS.old⟩; unfold fmtOp; rw [if_pos hok]; (first | rw [if_pos (by omega)] | rw [if_neg (by omega), if_pos (by omega)] | rw [if_neg (by omega), if_neg (by omega)]); simp only [List.append_assoc, List.cons_append, List.nil_append, List.append_nil]; done)
theorem implFmtOp_c {W : World} {o : Sl.Op} (hT : Lib.TabIs Tryd.prog W "internal/strconv.uint64pow10" .u64 Lib.pow10Tab) (ho : o.wf) : Calls Tryd.prog 16 #[.agg o.enc.toArray] W (Ret fun v w' => v = vs (fmtOp o) ∧ Below W.heap.size W w') := by
 refine cfr Tryd.func16 Tryd.ntmps16 fun a hF => ?_
 have hS := Sep.refl W
 have hik := itoaL ho.2.1
 have hiv := itoaL ho.2.2
 have hwl := opw_len o.kind
 have hol : opWords.length = 6 := rfl
 refine ws fun K1 hK1 => wl_box (cs := [_, _, _]) hF hS rfl (hF.ev rfl) rfl fun g1 w1 a hS _ hF => ge hK1 hF rfl fun a hF => wp_seq_k fun K2 hK2 => ws fun K3 hK3 => gb 1 0 hF hS rfl rfl rfl fun a hF => ckr hF hS rfl (implIsOp_c _) fun w2 a hS hF => ?_
 refine ge hK3 hF rfl fun a hF => cx 6 hF rfl (fun c6 hF => ?_) fun c6 hF => ?_
 ·
  refine rg hF rfl fun a hF => ?_
  refine xr ?_
  first
    | (exfalso; omega)
    | (refine ret1 rfl hF rfl ⟨?_, hS.old⟩; unfold fmtOp; rw [if_neg (by assumption)]; done)
    | (refine ret1 rfl hF rfl ⟨?_, hS.old⟩; unfold fmtOp; rw [if_pos hok]; (first | rw [if_pos (by omega)] | rw [if_neg (by omega), if_pos (by omega)] | rw [if_neg (by omega), if_neg (by omega)]); simp only [List.append_assoc, List.cons_append, List.nil_append, List.append_nil]; done)
 have hok : o.ok := by simpa using c6
 have hkd : 1 ≤ o.kind ∧ o.kind ≤ 5 := by unfold Sl.Op.ok at hok; omega
 refine wp_skip <| hK2 _ _ <| wp_seq_k fun K5 hK5 => ?_
 refine wp_region_todo (is := [1, 2, 0, 3, 4, 5]) [] [3, 4, 5] (by kernel_rfl) hF hS ⟨trivial, by decide, by decide, by decide⟩ (by kernel_rfl) ?_; intro hl_ wd hSd
 refine tp 1 hl_ rfl <| todo_load [3, 4, 5] hl_ (by kernel_rfl) rfl (gw0 rfl) rfl rfl rfl (fun a w_ hF hB_ => r_load1 sc3 (hF.ev rfl) ((hSd.ext hB_).box (i := 0) rfl rfl)) ?_
 refine todo_mk hl_ rfl (by kernel_rfl) rfl rfl rfl rfl rfl (fun a w_ hF => r_call0 en23 ) (fun w_ hS => opNames_c) ?_; rintro s7
 refine todo_fin hl_ rfl (by kernel_rfl) (tl := [_, _, _]) rfl ?_; intro a w3 hF hA_
 have hS := hA_.sep; clear hA_
 clear hl_; try clear hSd
 try dsimp only [List.cons_append, List.nil_append, List.set] at hS
 try clear wd
 obtain ⟨g10, o10, m10, q10, hv10, hm10, hl10, hc10⟩ := Rd.atF ((hS.own_rd (i := 0) rfl)) (a := a) (X := .tmp 9) (hF.ev rfl) (by omega) (by omega)
 refine wl hF rfl rfl rfl (r_index sl42 ((hF.ev rfl).trans hv10) (hF.ev rfl) (by omega) (by first | omega | (simp at hm10; omega))) fun a hF => ?_
 refine wl hF rfl rfl rfl (r_load1 sc9 (hF.ev rfl) (hc10 0 _ rfl)) fun a hF => ?_
 rw [word_v] at hF
 refine ga 1 hF rfl fun a hF => wl_nil ⟨rfl, ?_⟩
 refine hK5 _ _ <| wp_seq_k fun K6 hK6 => ws fun K7 hK7 => gb 4 1 hF hS rfl rfl rfl fun a hF => ?_
 apply wo 4 15 19 hF hS
 ·
  intro hg15 a hF
  exact jf 4 1 hF hS rfl rfl rfl rfl rfl rfl
 intro a w4 hF hS
 refine wl_nil <| hK7 _ _ <| cx 19 hF rfl (fun c19 hF => ?_) fun c19 hF => ?_
 ·
  refine wp_region_lit <| gb 3 1 hF hS rfl rfl rfl fun a hF => ckr hF hS rfl (implFmtInt_c (tab_ext hT hS.old) (by first | exact ho.2.1 | exact ho.2.2)) fun w5 a hS hF => ?_
  refine wl hF rfl rfl rfl (r_sadd ec (hF.ev rfl) (by simp only [List.length_append, List.length_cons, List.length_nil]; omega)) fun a hF => ?_
  refine wl hF rfl rfl rfl (r_sadd (hF.ev rfl) (hF.ev rfl) (by simp only [List.length_append, List.length_cons, List.length_nil]; omega)) fun a hF => ?_
  refine ge hK6 hF rfl fun a hF => wp_seq_k fun K8 hK8 => rh 1 hF hS rfl rfl rfl fun a hF => cx 28 hF rfl (fun c28 hF => ?_) fun c28 hF => ?_
  ·
   refine wp_region_lit <| gb 3 1 hF hS rfl rfl rfl fun a hF => ckr hF hS rfl (implFmtInt_c (tab_ext hT hS.old) (by first | exact ho.2.1 | exact ho.2.2)) fun w6 a hS hF => ?_
   refine wl hF rfl rfl rfl (r_sadd ec (hF.ev rfl) (by simp only [List.length_append, List.length_cons, List.length_nil]; omega)) fun a hF => ?_
   refine wl hF rfl rfl rfl (r_sadd (hF.ev rfl) (hF.ev rfl) (by simp only [List.length_append, List.length_cons, List.length_nil]; omega)) fun a hF => ?_
   refine ge hK8 hF rfl fun a hF => rg hF rfl fun a hF => ?_
   refine xr ?_
   first
     | (exfalso; omega)
     | (refine ret1 rfl hF rfl ⟨?_, hS.old⟩; unfold fmtOp; rw [if_neg (by assumption)]; done)
     | (refine ret1 rfl hF rfl ⟨?_, hS.old⟩; unfold fmtOp; rw [if_pos hok]; (first | rw [if_pos (by omega)] | rw [if_neg (by omega), if_pos (by omega)] | rw [if_neg (by omega), if_neg (by omega)]); simp only [List.append_assoc, List.cons_append, List.nil_append, List.append_nil]; done)
  refine wp_skip <| hK8 _ _ <| rg hF rfl fun a hF => ?_
  refine xr ?_
  first
    | (exfalso; omega)
    | (refine ret1 rfl hF rfl ⟨?_, hS.old⟩; unfold fmtOp; rw [if_neg (by assumption)]; done)
    | (refine ret1 rfl hF rfl ⟨?_, hS.old⟩; unfold fmtOp; rw [if_pos hok]; (first | rw [if_pos (by omega)] | rw [if_neg (by omega), if_pos (by omega)] | rw [if_neg (by omega), if_neg (by omega)]); simp only [List.append_assoc, List.cons_append, List.nil_append, List.append_nil]; done)
 refine wp_skip <| hK6 _ _ <| wp_seq_k fun K12 hK12 => rh 1 hF hS rfl rfl rfl fun a hF => cx 28 hF rfl (fun c28 hF => ?_) fun c28 hF => ?_
 ·
  refine wp_region_lit <| gb 3 1 hF hS rfl rfl rfl fun a hF => ckr hF hS rfl (implFmtInt_c (tab_ext hT hS.old) (by first | exact ho.2.1 | exact ho.2.2)) fun w7 a hS hF => ?_
  refine wl hF rfl rfl rfl (r_sadd ec (hF.ev rfl) (by simp only [List.length_append, List.length_cons, List.length_nil]; omega)) fun a hF => ?_
  refine wl hF rfl rfl rfl (r_sadd (hF.ev rfl) (hF.ev rfl) (by simp only [List.length_append, List.length_cons, List.length_nil]; omega)) fun a hF => ?_
  refine ge hK12 hF rfl fun a hF => rg hF rfl fun a hF => ?_
  refine xr ?_
  first
    | (exfalso; omega)
    | (refine ret1 rfl hF rfl ⟨?_, hS.old⟩; unfold fmtOp; rw [if_neg (by assumption)]; done)
    | (refine ret1 rfl hF rfl ⟨?_, hS.old⟩; unfold fmtOp; rw [if_pos hok]; (first | rw [if_pos (by omega)] | rw [if_neg (by omega), if_pos (by omega)] | rw [if_neg (by omega), if_neg (by omega)]); simp only [List.append_assoc, List.cons_append, List.nil_append, List.append_nil]; done)
 refine wp_skip <| hK12 _ _ <| rg hF rfl fun a hF => ?_
 refine xr ?_
 first
   | (exfalso; omega)
   | (refine ret1 rfl hF rfl ⟨?_, hS.old⟩; unfold fmtOp; rw [if_neg (by assumption)]; done)
   | (refine ret1 rfl hF rfl ⟨?_, hS.old⟩; unfold fmtOp; rw [if_pos hok]; (first | rw [if_pos (by omega)] | rw [if_neg (by omega), if_pos (by omega)] | rw [if_neg (by omega), if_neg (by omega)]); simp only [List.append_assoc, List.cons_append, List.nil_append, List.append_nil]; done)
theorem specFmtRes_c {W : World} {r : Sl.Result} (hr : r.wf) : Calls Tryd.prog 10 #[.agg r.enc.toArray] W (Ret fun v w' => v = vs (fmtRes r) ∧ Below W.heap.size W w') := by
 refine cfr Tryd.func10 Tryd.ntmps10 fun a hF => ?_
 have hS := Sep.refl W
 have hiv := itoaL hr.2
 have hwl := codeName_len r.code
 refine ws fun K1 hK1 => wl_box (cs := [_, _]) hF hS rfl (hF.ev rfl) rfl fun g1 w1 a hS _ hF => ge hK1 hF rfl fun a hF => ws fun K2 hK2 => gb 2 0 hF hS rfl rfl rfl fun a hF => ckr hF hS rfl (specCodeName_c) fun w2 a hS hF => ge hK2 hF rfl fun a hF => ?_
 refine wp_seq_k fun K3 hK3 => ws fun K4 hK4 => ga 1 hF rfl fun a hF => wl hF rfl rfl rfl (r_seql (hF.ev rfl) ec) fun a hF => ga 1 hF rfl fun a hF => ?_
 apply wo 4 9 13 hF hS
 ·
  intro hg9 a hF
  exact jf 4 0 hF hS rfl rfl rfl rfl rfl rfl
 intro a w3 hF hS
 refine wl_nil <| hK4 _ _ <| cx 13 hF rfl (fun c13 hF => ?_) fun c13 hF => ?_
 ·
  refine rg hF rfl fun a hF => ?_
  refine xr ?_
  first
    | (refine ret1 rfl hF rfl ⟨?_, hS.old⟩; unfold fmtRes; rw [if_pos (by simpa using c13)]; done)
    | (refine ret1 rfl hF rfl ⟨?_, hS.old⟩; unfold fmtRes; rw [if_neg (by simpa using c13)]; simp only [List.append_assoc, List.cons_append, List.nil_append, List.append_nil]; done)
 refine wp_skip <| hK3 _ _ <| ws fun K6 hK6 => ga 1 hF rfl fun a hF => ?_
 refine wl hF rfl rfl rfl (r_sadd (hF.ev rfl) ec (by simp only [List.length_append, List.length_cons, List.length_nil]; omega)) fun a hF => ?_
 refine gb 2 0 hF hS rfl rfl rfl fun a hF => ckr hF hS rfl (specFmtInt_c hr.2) fun w4 a hS hF => ?_
 refine wl hF rfl rfl rfl (r_sadd (hF.ev rfl) (hF.ev rfl) (by simp only [List.length_append, List.length_cons, List.length_nil]; omega)) fun a hF => ?_
 refine ge hK6 hF rfl fun a hF => ?_
 refine xr ?_
 first
   | (refine ret1 rfl hF rfl ⟨?_, hS.old⟩; unfold fmtRes; rw [if_pos (by simpa using c13)]; done)
   | (refine ret1 rfl hF rfl ⟨?_, hS.old⟩; unfold fmtRes; rw [if_neg (by simpa using c13)]; simp only [List.append_assoc, List.cons_append, List.nil_append, List.append_nil]; done)
theorem implFmtRes_c {W : World} {r : Sl.Result} (hT : Lib.TabIs Tryd.prog W "internal/strconv.uint64pow10" .u64 Lib.pow10Tab) (hr : r.wf) : Calls Tryd.prog 17 #[.agg r.enc.toArray] W (Ret fun v w' => v = vs (fmtRes r) ∧ Below W.heap.size W w') := by
 refine cfr Tryd.func17 Tryd.ntmps17 fun a hF => ?_
 have hS := Sep.refl W
 have hiv := itoaL hr.2
 have hwl := codeName_len r.code
 refine ws fun K1 hK1 => wl_box (cs := [_, _]) hF hS rfl (hF.ev rfl) rfl fun g1 w1 a hS _ hF => ge hK1 hF rfl fun a hF => ws fun K2 hK2 => gb 2 0 hF hS rfl rfl rfl fun a hF => ckr hF hS rfl (implCodeName_c) fun w2 a hS hF => ge hK2 hF rfl fun a hF => ?_
 refine wp_seq_k fun K3 hK3 => ws fun K4 hK4 => ga 1 hF rfl fun a hF => wl hF rfl rfl rfl (r_seql (hF.ev rfl) ec) fun a hF => ga 1 hF rfl fun a hF => ?_
 apply wo 4 9 13 hF hS
 ·
  intro hg9 a hF
  exact jf 4 0 hF hS rfl rfl rfl rfl rfl rfl
 intro a w3 hF hS
 refine wl_nil <| hK4 _ _ <| cx 13 hF rfl (fun c13 hF => ?_) fun c13 hF => ?_
 ·
  refine rg hF rfl fun a hF => ?_
  refine xr ?_
  first
    | (refine ret1 rfl hF rfl ⟨?_, hS.old⟩; unfold fmtRes; rw [if_pos (by simpa using c13)]; done)
    | (refine ret1 rfl hF rfl ⟨?_, hS.old⟩; unfold fmtRes; rw [if_neg (by simpa using c13)]; simp only [List.append_assoc, List.cons_append, List.nil_append, List.append_nil]; done)
 refine wp_skip <| hK3 _ _ <| ws fun K6 hK6 => ga 1 hF rfl fun a hF => ?_
 refine wl hF rfl rfl rfl (r_sadd (hF.ev rfl) ec (by simp only [List.length_append, List.length_cons, List.length_nil]; omega)) fun a hF => ?_
 refine gb 2 0 hF hS rfl rfl rfl fun a hF => ckr hF hS rfl (implFmtInt_c (tab_ext hT hS.old) hr.2) fun w4 a hS hF => ?_
 refine wl hF rfl rfl rfl (r_sadd (hF.ev rfl) (hF.ev rfl) (by simp only [List.length_append, List.length_cons, List.length_nil]; omega)) fun a hF => ?_
 refine ge hK6 hF rfl fun a hF => ?_
 refine xr ?_
 first
   | (refine ret1 rfl hF rfl ⟨?_, hS.old⟩; unfold fmtRes; rw [if_pos (by simpa using c13)]; done)
   | (refine ret1 rfl hF rfl ⟨?_, hS.old⟩; unfold fmtRes; rw [if_neg (by simpa using c13)]; simp only [List.append_assoc, List.cons_append, List.nil_append, List.append_nil]; done)
set_option maxRecDepth 20000
theorem specFmtEv_c {W : World} {e : Sl.Event} (he : e.wf) : Calls Tryd.prog 4 #[.agg e.enc.toArray] W (Ret fun v w' => v = vs (fmtEv e) ∧ Below W.heap.size W w') := by
 refine cfr Tryd.func4 Tryd.ntmps4 fun a hF => ?_
 have hS := Sep.refl W
 have hit := itoaL he.1
 have his := itoaL he.2.2.2.1
 have hie := itoaL he.2.2.2.2
 have hol := fmtOp_len he.2.1
 have hrl := fmtRes_len he.2.2.1
 refine ws fun K1 hK1 => wl_box (cs := [_, _, _, _, _, _, _, _]) hF hS rfl (hF.ev rfl) rfl fun g1 w1 a hS _ hF => ge hK1 hF rfl fun a hF => ws fun K2 hK2 => ga 1 hF rfl fun a hF => wl hF rfl rfl rfl (r_loadn ag29 (hF.ev rfl) (hS.boxn (vs := [_, _, _]) (i := 0) (m := 3) rfl rfl) sz29) fun a hF => ckr hF hS rfl (specFmtOp_c (o := e.op) he.2.1) fun w2 a hS hF => ?_
 refine ge hK2 hF rfl fun a hF => wp_seq_k fun K3 hK3 => ws fun K4 hK4 => ga 1 hF rfl fun a hF => wl hF rfl rfl rfl (r_seql (hF.ev rfl) ec) fun a hF => ga 1 hF rfl fun a hF => ?_
 apply wo 5 10 15 hF hS
 ·
  intro hg10 a hF
  refine gb 2 0 hF hS rfl rfl rfl fun a hF => ckr hF hS rfl (l1In_c _ _ _) fun w3 a hS hF => ?_
  exact je 5 hF hS rfl rfl rfl rfl
 intro a w4 hF hS
 refine ga 1 hF rfl fun a hF => ?_
 apply wo 4 16 20 hF hS
 ·
  intro hg16 a hF
  exact jf 4 0 hF hS rfl rfl rfl rfl rfl rfl
 intro a w5 hF hS
 refine ga 1 hF rfl fun a hF => ?_
 apply wo 4 21 25 hF hS
 ·
  intro hg21 a hF
  exact jf 4 0 hF hS rfl rfl rfl rfl rfl rfl
 intro a w6 hF hS
 refine wl_nil <| hK4 _ _ <| cx 25 hF rfl (fun c25 hF => ?_) fun c25 hF => ?_
 ·
  have hok : ¬ evOk e := by rw [fmtOp_nil] at c25; unfold evOk; by_cases ho_ : e.op.ok <;> simp only [ho_, not_true_eq_false, not_false_eq_true, true_and, and_true, false_and, and_false, true_or, or_true, false_or, or_false, not_false_iff] at c25 ⊢ <;> omega
  refine rg hF rfl fun a hF => ?_
  refine xr ?_
  first
    | (refine ret1 rfl hF rfl ⟨?_, hS.old⟩; unfold fmtEv; rw [if_neg hok]; done)
    | (refine ret1 rfl hF rfl ⟨?_, hS.old⟩; unfold fmtEv; rw [if_pos hok]; (first | rw [if_pos (by omega)] | rw [if_neg (by omega)]); simp only [List.append_assoc, List.cons_append, List.nil_append, List.append_nil]; done)
 have hok : evOk e := by rw [fmtOp_nil] at c25; unfold evOk; by_cases ho_ : e.op.ok <;> simp only [ho_, not_true_eq_false, not_false_eq_true, true_and, and_true, false_and, and_false, true_or, or_true, false_or, or_false, not_false_iff] at c25 ⊢ <;> omega
 refine wp_skip <| hK3 _ _ <| wp_seq_k fun K6 hK6 => wp_region_calm (by kernel_rfl) (by kernel_rfl) <| qb 2 0 hF tk hS rfl rfl rfl fun a hF => qk hF rfl (fun w_ hB_ => specFmtInt_c (by first | exact he.1 | exact he.2.2.2.1 | exact he.2.2.2.2)) fun a hF => ?_
 refine wq hF rfl rfl rfl (fun w_ hB_ => r_sadd (hF.ev rfl) ec (by simp only [List.length_append, List.length_cons, List.length_nil]; omega)) fun a hF => ?_
 refine qa 1 hF tk rfl fun a hF => ?_
 refine wq hF rfl rfl rfl (fun w_ hB_ => r_sadd (hF.ev rfl) (hF.ev rfl) (by simp only [List.length_append, List.length_cons, List.length_nil]; omega)) fun a hF => ?_
 refine wq hF rfl rfl rfl (fun w_ hB_ => r_sadd (hF.ev rfl) ec (by simp only [List.length_append, List.length_cons, List.length_nil]; omega)) fun a hF => ?_
 refine qb 2 0 hF tk hS rfl rfl rfl fun a hF => qk hF rfl (fun w_ hB_ => specFmtInt_c (by first | exact he.1 | exact he.2.2.2.1 | exact he.2.2.2.2)) fun a hF => ?_
 refine wq hF rfl rfl rfl (fun w_ hB_ => r_sadd (hF.ev rfl) (hF.ev rfl) (by simp only [List.length_append, List.length_cons, List.length_nil]; omega)) fun a hF => ?_
 refine qa 1 hF tk rfl fun a hF => ?_
 refine wpQuiet_nil ?_; intro w7 hB_; have hS := hS.ext hB_
 refine hK6 _ _ <| wp_seq_k fun K7 hK7 => rh 0 hF hS rfl rfl rfl fun a hF => cx 39 hF rfl (fun c39 hF => ?_) fun c39 hF => ?_
 ·
  refine ws fun K9 hK9 => ga 1 hF rfl fun a hF => ?_
  refine wl hF rfl rfl rfl (r_sadd (hF.ev rfl) ec (by simp only [List.length_append, List.length_cons, List.length_nil]; omega)) fun a hF => ?_
  refine ge hK9 hF rfl fun a hF => ?_
  refine xr ?_
  first
    | (refine ret1 rfl hF rfl ⟨?_, hS.old⟩; unfold fmtEv; rw [if_neg hok]; done)
    | (refine ret1 rfl hF rfl ⟨?_, hS.old⟩; unfold fmtEv; rw [if_pos hok]; (first | rw [if_pos (by omega)] | rw [if_neg (by omega)]); simp only [List.append_assoc, List.cons_append, List.nil_append, List.append_nil]; done)
 refine wp_skip <| hK7 _ _ <| wp_seq_k fun K10 hK10 => wp_region_calm (by kernel_rfl) (by kernel_rfl) <| qa 1 hF tk rfl fun a hF => ?_
 refine wq hF rfl rfl rfl (fun w_ hB_ => r_sadd (hF.ev rfl) ec (by simp only [List.length_append, List.length_cons, List.length_nil]; omega)) fun a hF => ?_
 refine qb 2 0 hF tk hS rfl rfl rfl fun a hF => qk hF rfl (fun w_ hB_ => specFmtInt_c (by first | exact he.1 | exact he.2.2.2.1 | exact he.2.2.2.2)) fun a hF => ?_
 refine wq hF rfl rfl rfl (fun w_ hB_ => r_sadd (hF.ev rfl) (hF.ev rfl) (by simp only [List.length_append, List.length_cons, List.length_nil]; omega)) fun a hF => ?_
 refine wq hF rfl rfl rfl (fun w_ hB_ => r_sadd (hF.ev rfl) ec (by simp only [List.length_append, List.length_cons, List.length_nil]; omega)) fun a hF => ?_
 refine qa 1 hF tk rfl fun a hF => wq hF rfl rfl rfl (fun w_ hB_ => r_loadn ag30 (hF.ev rfl) ((hS.ext hB_).boxn (vs := [_, _]) (i := 0) (m := 2) rfl rfl) sz30) fun a hF => qk hF rfl (fun w_ hB_ => specFmtRes_c (r := e.result) he.2.2.1) fun a hF => ?_
 refine wq hF rfl rfl rfl (fun w_ hB_ => r_sadd (hF.ev rfl) (hF.ev rfl) (by simp only [List.length_append, List.length_cons, List.length_nil]; omega)) fun a hF => ?_
 refine qa 1 hF tk rfl fun a hF => ?_
 refine wpQuiet_nil ?_; intro w8 hB_; have hS := hS.ext hB_
 refine hK10 _ _ ?_
 refine xr ?_
 first
   | (refine ret1 rfl hF rfl ⟨?_, hS.old⟩; unfold fmtEv; rw [if_neg hok]; done)
   | (refine ret1 rfl hF rfl ⟨?_, hS.old⟩; unfold fmtEv; rw [if_pos hok]; (first | rw [if_pos (by omega)] | rw [if_neg (by omega)]); simp only [List.append_assoc, List.cons_append, List.nil_append, List.append_nil]; done)
theorem implFmtEv_c {W : World} {e : Sl.Event} (hT : Lib.TabIs Tryd.prog W "internal/strconv.uint64pow10" .u64 Lib.pow10Tab) (he : e.wf) : Calls Tryd.prog 6 #[.agg e.enc.toArray] W (Ret fun v w' => v = vs (fmtEv e) ∧ Below W.heap.size W w') := by
 refine cfr Tryd.func6 Tryd.ntmps6 fun a hF => ?_
 have hS := Sep.refl W
 have hit := itoaL he.1
 have his := itoaL he.2.2.2.1
 have hie := itoaL he.2.2.2.2
 have hol := fmtOp_len he.2.1
 have hrl := fmtRes_len he.2.2.1
 refine ws fun K1 hK1 => wl_box (cs := [_, _, _, _, _, _, _, _]) hF hS rfl (hF.ev rfl) rfl fun g1 w1 a hS _ hF => ge hK1 hF rfl fun a hF => wp_seq_k fun K2 hK2 => ws fun K3 hK3 => gb 2 0 hF hS rfl rfl rfl fun a hF => ckr hF hS rfl (in_c _ _ _) fun w2 a hS hF => ?_
 refine ga 2 hF rfl fun a hF => ?_
 apply wo 5 8 13 hF hS
 ·
  intro hg8 a hF
  refine ga 1 hF rfl fun a hF => wl_take hF rfl rfl rfl rfl <| wl hF rfl rfl rfl (r_loadn ag29 (hF.ev rfl) (hS.boxn (vs := [_, _, _]) (i := 0) (m := 3) rfl rfl) sz29) fun a hF => ckr hF hS rfl (implIsOp_c _) fun w3 a hS hF => ?_
  exact je 5 hF hS rfl rfl rfl rfl
 intro a w4 hF hS
 refine ga 1 hF rfl fun a hF => ?_
 apply wo 4 14 18 hF hS
 ·
  intro hg14 a hF
  exact jf 4 0 hF hS rfl rfl rfl rfl rfl rfl
 intro a w5 hF hS
 refine ga 1 hF rfl fun a hF => ?_
 apply wo 4 19 23 hF hS
 ·
  intro hg19 a hF
  exact jf 4 0 hF hS rfl rfl rfl rfl rfl rfl
 intro a w6 hF hS
 refine wl_nil <| hK3 _ _ <| cx 23 hF rfl (fun c23 hF => ?_) fun c23 hF => ?_
 ·
  have hok : ¬ evOk e := by unfold evOk; by_cases ho_ : e.op.ok <;> simp only [ho_, not_true_eq_false, not_false_eq_true, true_and, and_true, false_and, and_false, true_or, or_true, false_or, or_false, not_false_iff] at c23 ⊢ <;> omega
  refine rg hF rfl fun a hF => ?_
  refine xr ?_
  first
    | (refine ret1 rfl hF rfl ⟨?_, hS.old⟩; unfold fmtEv; rw [if_neg hok]; done)
    | (refine ret1 rfl hF rfl ⟨?_, hS.old⟩; unfold fmtEv; rw [if_pos hok]; (first | rw [if_pos (by omega)] | rw [if_neg (by omega)]); simp [Lib.join, List.intercalate, List.intersperse]; done)
 have hok : evOk e := by unfold evOk; by_cases ho_ : e.op.ok <;> simp only [ho_, not_true_eq_false, not_false_eq_true, true_and, and_true, false_and, and_false, true_or, or_true, false_or, or_false, not_false_iff] at c23 ⊢ <;> omega
 refine wp_skip <| hK2 _ _ <| wp_seq_k fun K5 hK5 => ?_
 refine wp_region_todo (is := [0, 1, 3, 4, 6, 7, 2, 5, 8, 9, 10]) [] [] (by kernel_rfl) hF hS ⟨trivial, by decide, by decide, by decide⟩ (by kernel_rfl) ?_; intro hl_ wd hSd
 refine tp 1 hl_ rfl <| todo_load [2, 5, 8, 9, 10] hl_ (by kernel_rfl) rfl (gw0 rfl) rfl rfl rfl (fun a w_ hF hB_ => r_load1 sc3 (hF.ev rfl) ((hSd.ext hB_).box (i := 0) rfl rfl)) <| tp 1 hl_ rfl <| todo_load [5, 8, 9, 10] hl_ (by kernel_rfl) rfl (gw0 rfl) rfl rfl rfl (fun a w_ hF hB_ => r_loadn ag29 (hF.ev rfl) ((hSd.ext hB_).boxn (vs := [_, _, _]) (i := 0) (m := 3) rfl rfl) sz29) <| tp 1 hl_ rfl <| todo_load [8, 9, 10] hl_ (by kernel_rfl) rfl (gw0 rfl) rfl rfl rfl (fun a w_ hF hB_ => r_load1 sc3 (hF.ev rfl) ((hSd.ext hB_).box (i := 0) rfl rfl)) <| todo_rd hl_ rfl (by kernel_rfl) rfl rfl rfl rfl rfl (fun a w_ hF => r_call1 en15 (hF.ev rfl)) (fun w_ hS => implFmtInt_c (tab_ext hT hS.old) (by first | exact he.1 | exact he.2.2.2.1 | exact he.2.2.2.2)) ?_
 refine todo_rd hl_ rfl (by kernel_rfl) rfl rfl rfl rfl rfl (fun a w_ hF => r_call1 en16 (hF.ev rfl)) (fun w_ hS => implFmtOp_c (o := e.op) (tab_ext hT hS.old) he.2.1) <| todo_rd hl_ rfl (by kernel_rfl) rfl rfl rfl rfl rfl (fun a w_ hF => r_call1 en15 (hF.ev rfl)) (fun w_ hS => implFmtInt_c (tab_ext hT hS.old) (by first | exact he.1 | exact he.2.2.2.1 | exact he.2.2.2.2)) ?_
 refine todo_op hl_ rfl (by kernel_rfl) rfl rfl rfl rfl rfl (fun a w_ hF hS => r_bslice stringEK [vs (Lib.itoa e.thread), vs (fmtOp e.op), .string ⟨#[102, 114, 111, 109]⟩, vs (Lib.itoa e.start)] [⟨(Lib.itoa e.thread).toArray⟩, ⟨(fmtOp e.op).toArray⟩, ⟨#[102, 114, 111, 109]⟩, ⟨(Lib.itoa e.start).toArray⟩] rfl mk42 rfl ⟨rfl, (hF.ev rfl), rfl, (hF.ev rfl), rfl, ec, rfl, (hF.ev rfl), trivial⟩ rfl rfl rfl rfl) ?_; intro gl_33
 refine tp 1 hl_ rfl ?_
 refine todo_fin hl_ rfl (by kernel_rfl) (tl := []) rfl ?_; intro a w8 hF hA_
 have hS := hA_.sep; clear hA_
 clear hl_; try clear hSd
 try dsimp only [List.cons_append, List.nil_append, List.set] at hS
 try clear wd
 refine wl_nil ⟨rfl, ?_⟩
 refine hK5 _ _ <| wp_seq_k fun K6 hK6 => rh 1 hF hS rfl rfl rfl fun a hF => cx 36 hF rfl (fun c36 hF => ?_) fun c36 hF => ?_
 ·
  refine wp_region_lit <| ga 1 hF rfl fun a hF => wl_bslice stringEK [.string ⟨#[112, 101, 110, 100, 105, 110, 103]⟩] [⟨#[112, 101, 110, 100, 105, 110, 103]⟩] rfl hF hS rfl mk42 rfl ⟨rfl, ec, trivial⟩ rfl rfl rfl rfl fun gl_38 w9 a hS hF => ?_
  refine wl_append (q := 1) hF hS rfl rfl (hS.own_rd (i := 0) rfl) mk42 rfl (hF.ev rfl) (hF.ev rfl) (by simp) (by unfold maxLen; simp) ?_; intro A_39 c_39 w10 a hS_ hF; replace hS := hS_; clear hS_; dsimp only [List.set, List.length_cons, List.length_nil] at hS hF
  refine ge hK6 hF rfl fun a hF => ws fun K8 hK8 => ga 1 hF rfl fun a hF => ?_
  refine ckr hF hS rfl (join_c (hS.own_rd (i := 1) rfl) (by simp) (by simp) (by simp [Lib.join, List.intercalate, List.intersperse]; omega)) fun w11 a hS hF => ?_
  refine ge hK8 hF rfl fun a hF => ?_
  refine xr ?_
  first
    | (refine ret1 rfl hF rfl ⟨?_, hS.old⟩; unfold fmtEv; rw [if_neg hok]; done)
    | (refine ret1 rfl hF rfl ⟨?_, hS.old⟩; unfold fmtEv; rw [if_pos hok]; (first | rw [if_pos (by omega)] | rw [if_neg (by omega)]); simp [Lib.join, List.intercalate, List.intersperse]; done)
 refine wp_region_todo (is := [0, 1, 2, 4, 5, 3, 6, 7, 8, 9]) [] [8, 9] (by kernel_rfl) hF hS ⟨trivial, by decide, by decide, by decide⟩ (by kernel_rfl) ?_; intro hl_ wd hSd
 refine tp 2 hl_ rfl <| todo_load [3, 6, 7, 8, 9] hl_ (by kernel_rfl) rfl (gw0 rfl) rfl rfl rfl (fun a w_ hF hB_ => r_load1 sc3 (hF.ev rfl) ((hSd.ext hB_).box (i := 1) rfl rfl)) <| tp 1 hl_ rfl <| todo_load [6, 7, 8, 9] hl_ (by kernel_rfl) rfl (gw0 rfl) rfl rfl rfl (fun a w_ hF hB_ => r_loadn ag30 (hF.ev rfl) ((hSd.ext hB_).boxn (vs := [_, _]) (i := 1) (m := 2) rfl rfl) sz30) <| todo_rd hl_ rfl (by kernel_rfl) rfl rfl rfl rfl rfl (fun a w_ hF => r_call1 en15 (hF.ev rfl)) (fun w_ hS => implFmtInt_c (tab_ext hT hS.old) (by first | exact he.1 | exact he.2.2.2.1 | exact he.2.2.2.2)) <| todo_rd hl_ rfl (by kernel_rfl) rfl rfl rfl rfl rfl (fun a w_ hF => r_call1 en17 (hF.ev rfl)) (fun w_ hS => implFmtRes_c (r := e.result) (tab_ext hT hS.old) he.2.2.1) ?_
 refine todo_op hl_ rfl (by kernel_rfl) rfl rfl rfl rfl rfl (fun a w_ hF hS => r_bslice stringEK [.string ⟨#[116, 111]⟩, vs (Lib.itoa e.fin), vs (fmtRes e.result)] [⟨#[116, 111]⟩, ⟨(Lib.itoa e.fin).toArray⟩, ⟨(fmtRes e.result).toArray⟩] rfl mk42 rfl ⟨rfl, ec, rfl, (hF.ev rfl), rfl, (hF.ev rfl), trivial⟩ rfl rfl rfl rfl) ?_; intro gl_47
 refine todo_fin hl_ rfl (by kernel_rfl) (tl := [_, _]) rfl ?_; intro a w13 hF hA_
 have hS := hA_.sep; clear hA_
 clear hl_; try clear hSd
 try dsimp only [List.cons_append, List.nil_append, List.set] at hS
 try clear wd
 refine wl_append (q := 1) hF hS rfl rfl (hS.own_rd (i := 0) rfl) mk42 rfl (hF.ev rfl) (hF.ev rfl) (by simp) (by unfold maxLen; simp) ?_; intro A_48 c_48 w14 a hS_ hF; replace hS := hS_; clear hS_; dsimp only [List.set, List.length_cons, List.length_nil] at hS hF
 refine ga 1 hF rfl fun a hF => wl_nil ⟨rfl, ?_⟩
 refine hK6 _ _ <| ws fun K9 hK9 => ga 1 hF rfl fun a hF => ?_
 refine ckr hF hS rfl (join_c (hS.own_rd (i := 1) rfl) (by simp) (by simp) (by simp [Lib.join, List.intercalate, List.intersperse]; omega)) fun w15 a hS hF => ?_
 refine ge hK9 hF rfl fun a hF => ?_
 refine xr ?_
 first
   | (refine ret1 rfl hF rfl ⟨?_, hS.old⟩; unfold fmtEv; rw [if_neg hok]; done)
   | (refine ret1 rfl hF rfl ⟨?_, hS.old⟩; unfold fmtEv; rw [if_pos hok]; (first | rw [if_pos (by omega)] | rw [if_neg (by omega)]); simp [Lib.join, List.intercalate, List.intersperse]; done)
end Go.Proofs.YtbgacfdnmbhloaaDoor.Wk
