/- Elements by their place, frames that are pruned, loops that carry their frame, conditions that join again, division, nil, slices of rows. No program in sight. -/
import Derived.Test.YtifhfodphoeeoaaGreatRaw
import Derived.Laws.StructEq
import Derived.Laws.Cover3
import Derived.WalkSpells
namespace Go.Proofs.YtifhfodphoeeoaaGreat.Sl
open Go Go.RowKit
set_option linter.unusedVariables false
set_option linter.unusedSimpArgs false

/-! ### the element at a place -/
def at0 {α : Type} [Inhabited α] (xs : List α) (i : Int) : α := (xs[i.toNat]?).getD default
section
variable {α : Type} [Inhabited α] {xs : List α} {i : Int} {k : Nat} {x : α}
theorem at0_get (h0 : 0 ≤ i) (h1 : i < xs.length) : xs[i.toNat]? = some (at0 xs i) := by
  have h : i.toNat < xs.length := by omega
  simp [at0, List.getElem?_eq_getElem h]
theorem at0_nat (h : k < xs.length) : xs[k]? = some (at0 xs (k : Int)) := by
  simp [at0, List.getElem?_eq_getElem h]
theorem at0_of (h : xs[k]? = some x) : at0 xs (k : Int) = x := by simp [at0, h]
theorem at0_ofi (h : xs[i.toNat]? = some x) : at0 xs i = x := by simp [at0, h]
theorem at0_mem (h0 : 0 ≤ i) (h1 : i < xs.length) : at0 xs i ∈ xs := List.mem_of_getElem? (at0_get h0 h1)
theorem at0_cons (y : α) : at0 (x :: xs) 0 = x := rfl
theorem take_at0 (h : (k : Int) < xs.length) : xs.take (k + 1) = xs.take k ++ [at0 xs (k : Int)] := by
  rw [List.take_add_one, at0_nat (by omega)]; rfl
end
theorem Rd.at {α : Type} [Inhabited α] {ek : EK α} {w : World} {v : Value} {xs : List α} (h : ek.Rd w v xs) {a : Act} {X : Operand} {kd : IntKind} {i : Int} (hi : a.eval X = .int kd i) (h0 : 0 ≤ i) (h1 : i < xs.length) :
    ∃ g o m c cs, v = .slice (some ⟨g, o, none⟩) m c ∧ m = xs.length ∧ i.toNat < m ∧ ek.K w (at0 xs i) cs ∧ cs.length = ek.sz ∧ ∀ j u, cs[j]? = some u → w.cell? ⟨g, o + i.toNat * ek.sz + j, none⟩ = some u :=
  Rd.idx h (at0_get h0 h1)
theorem Rd.atF {α : Type} [Inhabited α] {sz : Nat} {enc : α → List Value} {hl : ∀ x, (enc x).length = sz} {h1 : ∀ x u, u ∈ enc x → u.oneCell' = true} {w : World} {v : Value} {xs : List α} (h : (flatEK sz enc hl h1).Rd w v xs) {a : Act} {X : Operand} {kd : IntKind} {i : Int} (hi : a.eval X = .int kd i) (h0 : 0 ≤ i) (h1 : i < xs.length) :
    ∃ g o m c, v = .slice (some ⟨g, o, none⟩) m c ∧ m = xs.length ∧ i.toNat < m ∧ ∀ j u, (enc (at0 xs i))[j]? = some u → w.cell? ⟨g, o + i.toNat * sz + j, none⟩ = some u :=
  Rd.idxF h (at0_get h0 h1)

theorem Sep.own_len {α : Type} {ek : EK α} {w0 w : World} {l : List Res} {q : Nat} {s : Slv} {xs : List α} (h : Sep w0 l w) (hq : l[q]? = some (Own ek (sv s) xs)) : s.2.1 = xs.length := by
  obtain ⟨A, n, c, e, hn, _⟩ := h.sat.get hq
  simp only [sv, Value.slice.injEq] at e
  rw [e.2.1, hn]
/-! ### loops that carry their frame -/
section
variable {P : Program} {Q : Exit → Act → World → Prop} {a : Act} {w w0 : World} {n : Nat} {L : List (Nat × Value)} {l : List Res}
/-- nothing is changed but slots -/
theorem wp_loop_r {σ : Type} {c : Code} (vals : σ → List (Nat × Value) → List (Nat × Value)) (I : σ → Prop) (μ : σ → Nat) (s0 : σ) (hS : Sep w0 l w) (hF0 : Fr n (vals s0 L) a) (hI : I s0)
    (round : ∀ s a w, I s → Sep w0 l w → Fr n (vals s L) a → c.wp P (Exit.then (fun a' w' => ∃ s', I s' ∧ Sep w0 l w' ∧ Fr n (vals s' L) a' ∧ μ s' < μ s) Q) a w) : (Code.loop c).wp P Q a w := by
  refine wp_loop_g (fun s a w => I s ∧ Sep w0 l w ∧ Fr n (vals s L) a) μ s0 ⟨hI, hS, hF0⟩ (fun s a w ⟨h1, h2, h3⟩ => ?_)
  refine wp_mono (round s a w h1 h2 h3) (fun e a w h => ?_)
  cases e <;> first | exact h | (obtain ⟨s', h1, h2, h3, h4⟩ := h; exact ⟨s', ⟨h1, h2, h3⟩, h4⟩)
/-- the first parts of memory are changed -/
theorem wp_loop_m {σ : Type} {c : Code} (vals : σ → List (Nat × Value) → List (Nat × Value)) (R : σ → List Res → List Res) (I : σ → Prop) (μ : σ → Nat) (s0 : σ) (hS : Sep w0 (R s0 l) w) (hF0 : Fr n (vals s0 L) a) (hI : I s0)
    (round : ∀ s a w, I s → Sep w0 (R s l) w → Fr n (vals s L) a → c.wp P (Exit.then (fun a' w' => ∃ s', I s' ∧ Sep w0 (R s' l) w' ∧ Fr n (vals s' L) a' ∧ μ s' < μ s) Q) a w) : (Code.loop c).wp P Q a w := by
  refine wp_loop_g (fun s a w => I s ∧ Sep w0 (R s l) w ∧ Fr n (vals s L) a) μ s0 ⟨hI, hS, hF0⟩ (fun s a w ⟨h1, h2, h3⟩ => ?_)
  refine wp_mono (round s a w h1 h2 h3) (fun e a w h => ?_)
  cases e <;> first | exact h | (obtain ⟨s', h1, h2, h3, h4⟩ := h; exact ⟨s', ⟨h1, h2, h3⟩, h4⟩)
end

/-! ### conditions that join again -/
theorem no_letsOut {J : Act → World → Prop} (h : LetsOut (fun e a w => e = Exit.normal ∧ J a w)) : False := by
  obtain ⟨a, w, h, _⟩ := h
  cases h
theorem Oper.wp_only {P : Program} {o : Oper} {a : Act} {w : World} {K J : Act → World → Prop} {Q : Exit → Act → World → Prop} (h : o.wp P a w K (fun e a w => e = .normal ∧ J a w)) : o.wp P a w K Q := by
  unfold Oper.wp at *
  generalize (execOp a.eval o).run P w = r at *
  unfold Oper.upon at *
  split at h
  · exact h
  · exact h
  · exact h
  · refine Calls.mono h ?_
    rintro e w2 h
    cases e with
    | returned v => exact h
    | panicked c => exact absurd h.1 (by simp)
    | outgrown => exact (no_letsOut h).elim
  · exact h
  · exact absurd h.1 (by simp)
  · exact h.elim
theorem wpList_app {P : Program} {ops : Array Oper} {Q : Exit → Act → World → Prop} {J : Act → World → Prop} {B : List Oper} (hk : ∀ a w, J a w → wpList P ops Q B a w) :
    ∀ (A : List Oper) (a : Act) (w : World), wpList P ops (fun e a w => e = .normal ∧ J a w) A a w → wpList P ops Q (A ++ B) a w
  | [], a, w, h => hk a w h.2
  | o :: A, a, w, h => by
    rw [List.cons_append]
    unfold wpList at h ⊢
    split
    · rename_i hw
      rw [if_pos hw] at h
      rcases h with h | ⟨_, h⟩
      · exact .inl (Oper.wp_mono (fun a w h => wpList_app hk A a w h) (Oper.wp_only h))
      · exact (no_letsOut h).elim
    · rename_i hw
      rw [if_neg hw] at h
      exact wpList_app hk A _ w h
theorem wpQuiet_app {P : Program} {ops : Array Oper} {C : World → Prop} {Q J : Act → Prop} {B : List Oper} (hk : ∀ a, J a → wpQuiet P ops C Q B a) : ∀ (A : List Oper) (a : Act), wpQuiet P ops C J A a → wpQuiet P ops C Q (A ++ B) a
  | [], a, h => hk a h
  | o :: A, a, h => by
    rw [List.cons_append]
    unfold wpQuiet at h ⊢
    split
    · rename_i hw
      rw [if_pos hw] at h
      obtain ⟨v, h1, h2⟩ := h
      exact ⟨v, h1, wpQuiet_app hk A _ h2⟩
    · rename_i hw
      rw [if_neg hw] at h
      exact wpQuiet_app hk A _ h

section
variable {P : Program} {ops : Array Oper} {Q : Exit → Act → World → Prop} {a : Act} {w w0 : World} {A B rest : List Oper} {o : Oper} {n d : Nat} {L L' : List (Nat × Value)} {l : List Res} {v : Value} {Qa : Act → Prop} {tc pk : Nat} {c e : Bool}
/-- where a condition's second part leaves off -/
def JS (n : Nat) (L : List (Nat × Value)) (pk : Nat) (e : Bool) (w0 : World) (l : List Res) : Exit → Act → World → Prop := fun x a w => x = .normal ∧ Fr n ((pk, .bool e) :: L) a ∧ Sep w0 l w
def JQ (n : Nat) (L : List (Nat × Value)) (pk : Nat) (e : Bool) : Act → Prop := fun a => Fr n ((pk, .bool e) :: L) a
/-- the slots that came last go -/
theorem Fr.tail {x : Nat × Value} (h : Fr n (x :: L) a) (hx : (lk L x.1).isNone = true) : Fr n L a := by
  refine ⟨h.size, h.defs, fun t u ht => h.get t u ?_⟩
  obtain ⟨s, y⟩ := x
  simp only [lk]
  cases hb : Nat.beq s t with
  | true =>
    have := Nat.eq_of_beq_eq_true hb
    subst this
    simp only [] at hx
    rw [ht] at hx
    cases hx
  | false => simpa using ht
theorem lk_app {A L : List (Nat × Value)} {t : Nat} (h : ∀ x ∈ A, x.1 ≠ t) : lk (A ++ L) t = lk L t := by
  induction A with
  | nil => rfl
  | cons x A ih =>
    obtain ⟨s, y⟩ := x
    have hs : s ≠ t := h (s, y) (by simp)
    have hb : Nat.beq s t = false := by
      cases hb : Nat.beq s t with
      | true => exact absurd (Nat.eq_of_beq_eq_true hb) hs
      | false => rfl
    simp only [List.cons_append, lk, hb, cond_false]
    exact ih (fun x hx => h x (by simp [hx]))
theorem Fr.pre {A L : List (Nat × Value)} (h : Fr n (A ++ L) a) (hx : A.all (fun x => (lk L x.1).isNone) = true) : Fr n L a := by
  refine ⟨h.size, h.defs, fun t u ht => h.get t u ?_⟩
  rw [lk_app (fun x hA e => ?_)]
  · exact ht
  · have := List.all_eq_true.1 hx x hA
    rw [e, ht] at this
    cases this
theorem Fr.thin {v : Value} (h : Fr n ((pk, v) :: (tc, .bool c) :: L) a) (ht : lk L tc = some (.bool c)) : Fr n ((pk, v) :: L) a := by
  refine ⟨h.size, h.defs, fun t u hu => h.get t u ?_⟩
  simp only [lk] at hu ⊢
  cases hb : Nat.beq pk t with
  | true => simpa [hb] using hu
  | false =>
    simp only [hb, cond_false] at hu ⊢
    cases hb' : Nat.beq tc t with
    | true =>
      have := Nat.eq_of_beq_eq_true hb'
      subst this
      rw [ht] at hu
      simpa using hu
    | false => simpa using hu
theorem wl_and (hF : Fr n L a) (hS : Sep w0 l w) (ht : lk L tc = some (.bool c))
    (h1 : c = true → ∀ a, Fr n ((tc, .bool true) :: L) a → wpList P ops (JS n ((tc, .bool true) :: L) pk e w0 l) A a w)
    (h2 : c = false → ∀ a, Fr n ((tc, .bool false) :: L) a → wpList P ops (JS n ((tc, .bool false) :: L) pk false w0 l) A a w)
    (k : ∀ a w, Fr n ((pk, .bool (c && e)) :: L) a → Sep w0 l w → wpList P ops Q B a w) : wpList P ops Q (A ++ B) a w := by
  refine wpList_app (J := fun a w => Fr n ((pk, .bool (c && e)) :: L) a ∧ Sep w0 l w) (fun a w h => k a w h.1 h.2) A a w ?_
  have hx : ∀ A a w, wpList P ops (JS n ((tc, .bool c) :: L) pk (c && e) w0 l) A a w → wpList P ops (fun x a w => x = .normal ∧ Fr n ((pk, .bool (c && e)) :: L) a ∧ Sep w0 l w) A a w := fun A a w h => by
    have := wpList_app (B := []) (Q := fun x a w => x = .normal ∧ Fr n ((pk, .bool (c && e)) :: L) a ∧ Sep w0 l w) (J := fun a w => Fr n ((pk, .bool (c && e)) :: (tc, .bool c) :: L) a ∧ Sep w0 l w) (fun a w h => by unfold wpList; exact ⟨rfl, h.1.thin ht, h.2⟩) A a w h
    rwa [List.append_nil] at this
  refine hx A a w ?_
  cases c with
  | true => exact h1 rfl a (hF.keep hF ht)
  | false => exact h2 rfl a (hF.keep hF ht)
theorem wl_or (hF : Fr n L a) (hS : Sep w0 l w) (ht : lk L tc = some (.bool c))
    (h1 : c = false → ∀ a, Fr n ((tc, .bool false) :: L) a → wpList P ops (JS n ((tc, .bool false) :: L) pk e w0 l) A a w)
    (h2 : c = true → ∀ a, Fr n ((tc, .bool true) :: L) a → wpList P ops (JS n ((tc, .bool true) :: L) pk true w0 l) A a w)
    (k : ∀ a w, Fr n ((pk, .bool (c || e)) :: L) a → Sep w0 l w → wpList P ops Q B a w) : wpList P ops Q (A ++ B) a w := by
  refine wpList_app (J := fun a w => Fr n ((pk, .bool (c || e)) :: L) a ∧ Sep w0 l w) (fun a w h => k a w h.1 h.2) A a w ?_
  have hx : ∀ A a w, wpList P ops (JS n ((tc, .bool c) :: L) pk (c || e) w0 l) A a w → wpList P ops (fun x a w => x = .normal ∧ Fr n ((pk, .bool (c || e)) :: L) a ∧ Sep w0 l w) A a w := fun A a w h => by
    have := wpList_app (B := []) (Q := fun x a w => x = .normal ∧ Fr n ((pk, .bool (c || e)) :: L) a ∧ Sep w0 l w) (J := fun a w => Fr n ((pk, .bool (c || e)) :: (tc, .bool c) :: L) a ∧ Sep w0 l w) (fun a w h => by unfold wpList; exact ⟨rfl, h.1.thin ht, h.2⟩) A a w h
    rwa [List.append_nil] at this
  refine hx A a w ?_
  cases c with
  | false => exact h1 rfl a (hF.keep hF ht)
  | true => exact h2 rfl a (hF.keep hF ht)
theorem wq_and (hF : Fr n L a) (ht : lk L tc = some (.bool c))
    (h1 : c = true → ∀ a, Fr n ((tc, .bool true) :: L) a → wpQuiet P ops (fun w' => Below w.heap.size w w') (JQ n ((tc, .bool true) :: L) pk e) A a)
    (h2 : c = false → ∀ a, Fr n ((tc, .bool false) :: L) a → wpQuiet P ops (fun w' => Below w.heap.size w w') (JQ n ((tc, .bool false) :: L) pk false) A a)
    (k : ∀ a, Fr n ((pk, .bool (c && e)) :: L) a → wpQuiet P ops (fun w' => Below w.heap.size w w') Qa B a) : wpQuiet P ops (fun w' => Below w.heap.size w w') Qa (A ++ B) a := by
  refine wpQuiet_app (J := fun a => Fr n ((pk, .bool (c && e)) :: (tc, .bool c) :: L) a) (fun a h => k a (h.thin ht)) A a ?_
  cases c with
  | true => exact h1 rfl a (hF.keep hF ht)
  | false => exact h2 rfl a (hF.keep hF ht)
theorem wq_or (hF : Fr n L a) (ht : lk L tc = some (.bool c))
    (h1 : c = false → ∀ a, Fr n ((tc, .bool false) :: L) a → wpQuiet P ops (fun w' => Below w.heap.size w w') (JQ n ((tc, .bool false) :: L) pk e) A a)
    (h2 : c = true → ∀ a, Fr n ((tc, .bool true) :: L) a → wpQuiet P ops (fun w' => Below w.heap.size w w') (JQ n ((tc, .bool true) :: L) pk true) A a)
    (k : ∀ a, Fr n ((pk, .bool (c || e)) :: L) a → wpQuiet P ops (fun w' => Below w.heap.size w w') Qa B a) : wpQuiet P ops (fun w' => Below w.heap.size w w') Qa (A ++ B) a := by
  refine wpQuiet_app (J := fun a => Fr n ((pk, .bool (c || e)) :: (tc, .bool c) :: L) a) (fun a h => k a (h.thin ht)) A a ?_
  cases c with
  | false => exact h1 rfl a (hF.keep hF ht)
  | true => exact h2 rfl a (hF.keep hF ht)
/-- skipped: what it waits for was skipped itself -/
theorem wl_skipU {j t : Nat} {b : Bool} (hF : Fr n L a) (hg : o.guard = some (j, b)) (hj : (ops[j]?).bind (·.dst) = some t) (ht : lk L t = some undef)
    (hd : o.dst = some d) (hdn : Nat.ble (d + 1) n = true) (k : ∀ a, Fr n ((d, undef) :: L) a → wpList P ops Q rest a w) : wpList P ops Q (o :: rest) a w := by
  unfold wpList
  have hw : Region.wanted o (yielded ops a.tmps) = false := by
    have : yielded ops a.tmps j = none := by
      unfold yielded
      rw [hj, Option.bind_some, hF.get _ _ ht]
      rfl
    simp [Region.wanted, hg, this]
  rw [hw]
  simp only [Bool.false_eq_true, if_false, hd]
  exact k _ (hF.put hdn undef)
theorem wq_skipU {j t : Nat} {b : Bool} (hF : Fr n L a) (hg : o.guard = some (j, b)) (hj : (ops[j]?).bind (·.dst) = some t) (ht : lk L t = some undef)
    (hd : o.dst = some d) (hdn : Nat.ble (d + 1) n = true) (k : ∀ a, Fr n ((d, undef) :: L) a → wpQuiet P ops (fun w' => Below w.heap.size w w') Qa rest a) : wpQuiet P ops (fun w' => Below w.heap.size w w') Qa (o :: rest) a := by
  unfold wpQuiet
  have hw : Region.wanted o (yielded ops a.tmps) = false := by
    have : yielded ops a.tmps j = none := by
      unfold yielded
      rw [hj, Option.bind_some, hF.get _ _ ht]
      rfl
    simp [Region.wanted, hg, this]
  rw [hw]
  simp only [Bool.false_eq_true, if_false, hd]
  exact k _ (hF.put hdn undef)
end

/-- the ways of a condition, each with its slot -/
theorem wc_fx {P : Program} {Q : Exit → Act → World → Prop} {a : Act} {w : World} {n : Nat} {L : List (Nat × Value)} {t : Nat} {b : Bool} {x y : Code} (hF : Fr n L a) (ht : lk L t = some (.bool b)) (h1 : b = true → Fr n ((t, .bool true) :: L) a → x.wp P Q a w) (h2 : b = false → Fr n ((t, .bool false) :: L) a → y.wp P Q a w) :
    (Code.cond (.tmp t) x y).wp P Q a w := by
  have hx : ∀ c, b = c → Fr n ((t, .bool c) :: L) a := fun c e => Fr.keep hF hF (by rw [ht, e])
  exact wc_b (hF.ev ht) (fun e => h1 e (hx _ e)) (fun e => h2 e (hx _ e))
/-! ### regions that draw their order: what no world can change is taken first -/
section
variable {P : Program} {ops : Array Oper} {Q : Exit → Act → World → Prop} {S : World → Prop} {muts : List Nat}
theorem wpM_firstP {i : Nat} {oi : Oper} {v : Value} (hi : ops[i]? = some oi) (him : i ∉ muts) (hsel : ∀ (j : Nat) (o : Oper) cs b, ops[j]? = some o → o.op ≠ .select cs b)
    (hQ : ∀ c a w, Q (.panic c) (a.put oi.dst v) w → Q (.panic c) a w) :
    ∀ (fuel : Nat) (listed : Array Bool) (a : Act) (w : World),
      (∀ j oj, ops[j]? = some oj → j ≠ i → listed.getD j true = false → (∀ e ∈ oj.after, Region.binds .any e = true → e.on ≠ i) → oi.apart ops oj = true) →
      i ∈ Region.ready .any ops listed → YieldsIf P ops (fun _ => True) oi v a → (phB muts listed = true → S w) →
      wpM P ops Q S muts fuel (listed.setIfInBounds i true) (a.put oi.dst v) w → wpM P ops Q S muts (fuel + 1) listed a w := by
  intro fuel
  induction fuel with
  | zero =>
    intro listed a w _ hr hy hS H
    refine ⟨fun h => (by rw [h] at hr; cases hr), fun j hj => ?_⟩
    by_cases hji : j = i
    · subst hji; exact hy.wpOp hi trivial ⟨fun h => hS (by rwa [phB_set him] at h), H⟩
    · have := ready_mono hj hji
      rw [H.1] at this
      cases this
  | succ fuel ih =>
    intro listed a w hfree hr hy hS H
    refine ⟨fun h => (by rw [h] at hr; cases hr), fun j hj => ?_⟩
    by_cases hji : j = i
    · subst hji; exact hy.wpOp hi trivial ⟨fun h => hS (by rwa [phB_set him] at h), H⟩
    · have h1 := H.2 j (ready_mono hj hji)
      obtain ⟨hjun, oj, hoj, hall⟩ := mem_ready.1 hj
      have hnot : ∀ e ∈ oj.after, Region.binds .any e = true → e.on ≠ i := fun e he hb heq => by
        have h1 := hall e he hb
        have h0 := (mem_ready.1 hr).1
        rw [heq] at h1
        rcases Nat.lt_or_ge i listed.size with h' | h'
        · simp [h'] at h0 h1; rw [h0] at h1; cases h1
        · simp [Array.getElem?_eq_none h'] at h1
      have h2 := wpOp_putIf hoj (hfree j oj hoj hji hjun hnot) (fun cs b => hsel i oi cs b hi) (fun cs b => hsel j oj cs b hoj) hQ hy h1
      have hfree' : ∀ k ok, ops[k]? = some ok → k ≠ i → (listed.setIfInBounds j true).getD k true = false →
          (∀ e ∈ ok.after, Region.binds .any e = true → e.on ≠ i) → oi.apart ops ok = true := fun k ok hk hki hun hno => by
        refine hfree k ok hk hki ?_ hno
        by_cases hjk : j = k
        · subst hjk; exact hjun
        · rw [getD_set_ne true hjk] at hun; exact hun
      have hph : phB muts ((listed.setIfInBounds i true).setIfInBounds j true) = phB muts (listed.setIfInBounds j true) := by
        rw [Array.setIfInBounds_comm _ _ (Ne.symm hji), phB_set him]
      refine wpOp_mono (fun a' w' h3 => ?_) h2
      have hS' : phB muts (listed.setIfInBounds j true) = true → S w' := fun h => h3.2.1 (hph.trans h)
      refine ⟨hS', ih (listed.setIfInBounds j true) a' w' hfree' (ready_mono hr (Ne.symm hji)) h3.1 hS' ?_⟩
      rw [Array.setIfInBounds_comm _ _ hji]
      exact h3.2.2
end
/-- an operation that may be taken first, whatever the others change -/
def pureB (ops : Array Oper) (T : Alcs) (muts : List Nat) (i : Nat) (is : List Nat) : Bool :=
  decide (i < ops.size) && !is.contains i && T.all (fun t => t.1 != i && !is.contains t.1) && Region.noSelect ops && depsB ops i (fun k => decide (k < ops.size) && k != i && !is.contains k && T.all (fun t => t.1 != k)) && !muts.contains i &&
  (match ops[i]? with
   | some oi => (is ++ T.map (·.1)).all (fun j => waitsB ops j (fun k => k == i) || (match ops[j]? with | some oj => oi.apart ops oj | none => true))
   | none => false)
/-- an operation that may be taken first as long as nothing of X has come up; X waits for it -/
def loadB (ops : Array Oper) (T : Alcs) (muts X : List Nat) (i : Nat) (is : List Nat) : Bool :=
  pureB ops T muts i is && !X.contains i && muts.all (fun m => X.contains m) && X.all (fun k => is.contains k && waitsB ops k (fun e => e == i || X.contains e))
theorem wpM_firstX {P : Program} {ops : Array Oper} {Q : Exit → Act → World → Prop} {S : World → Prop} {muts X : List Nat} {i : Nat} {oi : Oper} {v : Value} (hi : ops[i]? = some oi) (him : i ∉ X) (hmX : ∀ m ∈ muts, m ∈ X) (hsel : ∀ (j : Nat) (o : Oper) cs b, ops[j]? = some o → o.op ≠ .select cs b)
    (hQ : ∀ c a w, Q (.panic c) (a.put oi.dst v) w → Q (.panic c) a w)
    (hmut : ∀ m ∈ X, ∀ om, ops[m]? = some om → ∃ e ∈ om.after, Region.binds .any e = true ∧ (e.on = i ∨ e.on ∈ X)) :
    ∀ (fuel : Nat) (listed : Array Bool) (a : Act) (w : World),
      (∀ j oj, ops[j]? = some oj → j ≠ i → listed.getD j true = false → (∀ e ∈ oj.after, Region.binds .any e = true → e.on ≠ i) → oi.apart ops oj = true) →
      i ∈ Region.ready .any ops listed → YieldsIf P ops S oi v a → S w → phB X listed = true →
      wpM P ops Q S muts fuel (listed.setIfInBounds i true) (a.put oi.dst v) w → wpM P ops Q S muts (fuel + 1) listed a w := by
  have hX : ∀ listed, phB X listed = true → phB muts listed = true := fun listed h => List.all_eq_true.2 fun m hm => List.all_eq_true.1 h m (hmX m hm)
  intro fuel
  induction fuel with
  | zero =>
    intro listed a w _ hr hy hS hp H
    refine ⟨fun h => (by rw [h] at hr; cases hr), fun j hj => ?_⟩
    by_cases hji : j = i
    · subst hji; exact hy.wpOp hi hS ⟨fun _ => hS, H⟩
    · have := ready_mono hj hji
      rw [H.1] at this
      cases this
  | succ fuel ih =>
    intro listed a w hfree hr hy hS hp H
    refine ⟨fun h => (by rw [h] at hr; cases hr), fun j hj => ?_⟩
    by_cases hji : j = i
    · subst hji; exact hy.wpOp hi hS ⟨fun _ => hS, H⟩
    · have h1 := H.2 j (ready_mono hj hji)
      obtain ⟨hjun, oj, hoj, hall⟩ := mem_ready.1 hj
      have hnot : ∀ e ∈ oj.after, Region.binds .any e = true → e.on ≠ i := fun e he hb heq => by
        have h1 := hall e he hb
        have h0 := (mem_ready.1 hr).1
        rw [heq] at h1
        rcases Nat.lt_or_ge i listed.size with h' | h'
        · simp [h'] at h0 h1; rw [h0] at h1; cases h1
        · simp [Array.getElem?_eq_none h'] at h1
      have hjm : j ∉ X := fun hm => by
        obtain ⟨e, he, hb, heq⟩ := hmut j hm oj hoj
        rcases heq with heq | heq
        · exact hnot e he hb heq
        · have h1 := hall e he hb
          have h2 := List.all_eq_true.1 hp e.on heq
          rw [h1] at h2
          cases h2
      have h2 := wpOp_putIf hoj (hfree j oj hoj hji hjun hnot) (fun cs b => hsel i oi cs b hi) (fun cs b => hsel j oj cs b hoj) hQ hy h1
      have hfree' : ∀ k ok, ops[k]? = some ok → k ≠ i → (listed.setIfInBounds j true).getD k true = false →
          (∀ e ∈ ok.after, Region.binds .any e = true → e.on ≠ i) → oi.apart ops ok = true := fun k ok hk hki hun hno => by
        refine hfree k ok hk hki ?_ hno
        by_cases hjk : j = k
        · subst hjk; exact hjun
        · rw [getD_set_ne true hjk] at hun; exact hun
      have hp' : phB X (listed.setIfInBounds j true) = true := by rw [phB_set hjm]; exact hp
      have hp'' : phB X ((listed.setIfInBounds i true).setIfInBounds j true) = true := by rw [phB_set hjm, phB_set him]; exact hp
      refine wpOp_mono (fun a' w' h3 => ⟨fun _ => h3.2.1 (hX _ hp''), ih (listed.setIfInBounds j true) a' w' hfree' (ready_mono hr (Ne.symm hji)) h3.1 (h3.2.1 (hX _ hp'')) hp' ?_⟩) h2
      rw [Array.setIfInBounds_comm _ _ hji]
      exact h3.2.2
/-- an operation that is wanted, as far as the slots tell -/
def GW (ops : Array Oper) (n : Nat) (L : List (Nat × Value)) (o : Oper) : Prop := ∀ a, Fr n L a → Region.wanted o (yielded ops a.tmps) = true
theorem gw0 {ops : Array Oper} {n : Nat} {L : List (Nat × Value)} {o : Oper} (hg : o.guard = none) : GW ops n L o := fun a _ => by simp [Region.wanted, hg]
theorem gw1 {ops : Array Oper} {n : Nat} {L : List (Nat × Value)} {o : Oper} {j t : Nat} {b c : Bool} (hg : o.guard = some (j, b)) (hj : (ops[j]?).bind (·.dst) = some t) (ht : lk L t = some (.bool c)) (heq : (c == b) = true) : GW ops n L o := fun a hF => by
  simp only [Region.wanted, hg, yielded_of hF hj ht]
  cases c <;> cases b <;> simp_all
theorem wpOp_ofW {P : Program} {ops : Array Oper} {a : Act} {w : World} {i : Nat} {o : Oper} {K : Act → World → Prop} {Q : Exit → Act → World → Prop} (ho : ops[i]? = some o) (hw : Region.wanted o (yielded ops a.tmps) = true) (h : o.wp P a w K Q) : wpOp P ops Q i K a w := by
  unfold wpOp
  rw [ho]
  dsimp only
  rw [if_pos hw]
  exact .inl h
theorem todo_load (X : List Nat) {P : Program} {ops : Array Oper} {Q : Exit → Act → World → Prop} {wd W : World} {T : Alcs} {muts : List Nat} {n : Nat} {L : List (Nat × Value)} {l : List Res} {i : Nat} {is : List Nat} {o : Oper} {d : Nat} {v : Value}
    (hl : Lay P ops T n) (hk : loadB ops T muts X i is = true) (ho : ops[i]? = some o) (hg : GW ops n L o) (hd : o.dst = some d) (hdn : Nat.ble (d + 1) n = true) (hT : T.all (fun t => t.2.1 != d) = true)
    (hy : ∀ a w', Fr n L a → Below wd.heap.size wd w' → (execOp a.eval o).run P w' = .ok (.value v) w')
    (k : ∀ rem a w, Rem T rem → Fr n ((d, v) :: L) a → At T wd W l rem a w → Todo P ops Q wd muts rem is a w) :
    ∀ rem a w, Rem T rem → Fr n L a → At T wd W l rem a w → Todo P ops Q wd muts rem (i :: is) a w := by
  intro rem a w hR hF hA listed hsz hls
  have hT' : ∀ t ∈ T, t.2.1 ≠ d := fun t ht => by simpa using List.all_eq_true.1 hT t ht
  simp only [loadB, pureB, ho, Bool.and_eq_true, decide_eq_true_eq, Bool.not_eq_true', List.all_eq_true, bne_iff_ne] at hk
  obtain ⟨⟨⟨⟨⟨⟨⟨⟨⟨k1, k2⟩, k3⟩, k4⟩, k5⟩, k6⟩, k8⟩, x1⟩, x2⟩, x3⟩ := hk
  have hir : rem.contains i = false := by
    rw [Bool.eq_false_iff]
    intro h
    obtain ⟨t, ht, e⟩ := hR.sub i (by simpa using h)
    exact (k3 t ht).1 e
  have hfu : (i :: is).length + rem.length = (is.length + rem.length) + 1 := by simp; omega
  rw [hfu]
  have hi0 : listed.getD i true = false := by rw [getD_tf (by omega), hls i k1]; simp
  have hrdy : i ∈ Region.ready .any ops listed := by
    refine depsB_yes k5 hi0 (fun k hk => ?_)
    simp only [Bool.and_eq_true, decide_eq_true_eq, bne_iff_ne, Bool.not_eq_true', List.all_eq_true] at hk
    obtain ⟨⟨⟨q1, q2⟩, q3⟩, q4⟩ := hk
    rw [hls k q1]
    have h1 : (i :: is).contains k = false := by rw [List.contains_cons, q3]; simp [q2]
    have h2 : rem.contains k = false := by
      rw [Bool.eq_false_iff]
      intro h
      obtain ⟨t, ht, e⟩ := hR.sub k (by simpa using h)
      exact q4 t ht e
    rw [h1, h2]; rfl
  refine wpM_firstX (X := X) ho (by simpa using x1) (fun m hm => List.contains_iff_mem.1 (x2 m hm)) (Region.noSelect_spec k4) (fun c a w h => by cases h.1) (fun m hm om hom => ?_) _ listed a w ?_ hrdy (.inl ⟨hg a hF, fun w hw => hy a w hF hw⟩) hA.s ?_ ?_
  · have := (x3 m hm).2
    unfold waitsB at this
    rw [hom] at this
    obtain ⟨e, he, h2⟩ := Array.any_eq_true'.1 this
    simp only [Bool.and_eq_true, Bool.or_eq_true, beq_iff_eq] at h2
    exact ⟨e, he, h2.1, h2.2.imp id List.contains_iff_mem.1⟩
  · intro j oj hj hne hun hno
    have hlt := (Array.getElem?_eq_some_iff.1 hj).1
    rw [getD_tf (by omega), hls j hlt] at hun
    have hmem : j ∈ is ++ T.map (·.1) := by
      rw [List.mem_append]
      by_cases hm : j ∈ is
      · exact .inl hm
      · right
        have : j ∈ rem := by
          simp [List.contains_cons, hne, hm] at hun; exact hun
        obtain ⟨t, ht, e⟩ := hR.sub j this
        exact List.mem_map.2 ⟨t, ht, e⟩
    have := k8 j hmem
    simp only [hj, Bool.or_eq_true] at this
    rcases this with h | h
    · unfold waitsB at h
      rw [hj] at h
      obtain ⟨e, he, h2⟩ := Array.any_eq_true'.1 h
      simp only [Bool.and_eq_true, beq_iff_eq] at h2
      exact (hno e he h2.1 h2.2).elim
    · exact h
  · unfold phB
    rw [List.all_eq_true]
    intro m hm
    have hm' := (x3 m hm).1
    rcases Nat.lt_or_ge m ops.size with hlt | hge
    · rw [hls m hlt]
      have : (i :: is).contains m = true := by rw [List.contains_cons, hm']; simp
      rw [this]; rfl
    · simp [Array.getD, hsz, Nat.not_lt.2 hge]
  · have := k rem (a.put (some d) v) w hR (hF.put hdn v) (hA.put hT') (listed.setIfInBounds i true) (by simp [hsz]) (listed_set k1 hsz k2 hir hls)
    rw [hd]
    exact this
theorem todo_pureY {P : Program} {ops : Array Oper} {Q : Exit → Act → World → Prop} {wd W : World} {T : Alcs} {muts : List Nat} {n : Nat} {L : List (Nat × Value)} {l : List Res} {i : Nat} {is : List Nat} {o : Oper} {d : Nat} {v : Value}
    (hl : Lay P ops T n) (hk : pureB ops T muts i is = true) (ho : ops[i]? = some o) (hd : o.dst = some d) (hdn : Nat.ble (d + 1) n = true) (hT : T.all (fun t => t.2.1 != d) = true)
    (hy : ∀ a, Fr n L a → YieldsIf P ops (fun _ => True) o v a)
    (k : ∀ rem a w, Rem T rem → Fr n ((d, v) :: L) a → At T wd W l rem a w → Todo P ops Q wd muts rem is a w) :
    ∀ rem a w, Rem T rem → Fr n L a → At T wd W l rem a w → Todo P ops Q wd muts rem (i :: is) a w := by
  intro rem a w hR hF hA listed hsz hls
  have hT' : ∀ t ∈ T, t.2.1 ≠ d := fun t ht => by simpa using List.all_eq_true.1 hT t ht
  simp only [pureB, ho, Bool.and_eq_true, decide_eq_true_eq, Bool.not_eq_true', List.all_eq_true, bne_iff_ne] at hk
  obtain ⟨⟨⟨⟨⟨⟨k1, k2⟩, k3⟩, k4⟩, k5⟩, k6⟩, k8⟩ := hk
  have hir : rem.contains i = false := by
    rw [Bool.eq_false_iff]
    intro h
    obtain ⟨t, ht, e⟩ := hR.sub i (by simpa using h)
    exact (k3 t ht).1 e
  have hfu : (i :: is).length + rem.length = (is.length + rem.length) + 1 := by simp; omega
  rw [hfu]
  have hi0 : listed.getD i true = false := by rw [getD_tf (by omega), hls i k1]; simp
  have hrdy : i ∈ Region.ready .any ops listed := by
    refine depsB_yes k5 hi0 (fun k hk => ?_)
    simp only [Bool.and_eq_true, decide_eq_true_eq, bne_iff_ne, Bool.not_eq_true', List.all_eq_true] at hk
    obtain ⟨⟨⟨q1, q2⟩, q3⟩, q4⟩ := hk
    rw [hls k q1]
    have h1 : (i :: is).contains k = false := by rw [List.contains_cons, q3]; simp [q2]
    have h2 : rem.contains k = false := by
      rw [Bool.eq_false_iff]
      intro h
      obtain ⟨t, ht, e⟩ := hR.sub k (by simpa using h)
      exact q4 t ht e
    rw [h1, h2]; rfl
  refine wpM_firstP ho (by simpa using k6) (Region.noSelect_spec k4) (fun c a w h => by cases h.1) _ listed a w ?_ hrdy (hy a hF) (fun _ => hA.s) ?_
  · intro j oj hj hne hun hno
    have hlt := (Array.getElem?_eq_some_iff.1 hj).1
    rw [getD_tf (by omega), hls j hlt] at hun
    have hmem : j ∈ is ++ T.map (·.1) := by
      rw [List.mem_append]
      by_cases hm : j ∈ is
      · exact .inl hm
      · right
        have : j ∈ rem := by
          simp [List.contains_cons, hne, hm] at hun; exact hun
        obtain ⟨t, ht, e⟩ := hR.sub j this
        exact List.mem_map.2 ⟨t, ht, e⟩
    have := k8 j hmem
    simp only [hj, Bool.or_eq_true] at this
    rcases this with h | h
    · unfold waitsB at h
      rw [hj] at h
      obtain ⟨e, he, h2⟩ := Array.any_eq_true'.1 h
      simp only [Bool.and_eq_true, beq_iff_eq] at h2
      exact (hno e he h2.1 h2.2).elim
    · exact h
  · have := k rem (a.put (some d) v) w hR (hF.put hdn v) (hA.put hT') (listed.setIfInBounds i true) (by simp [hsz]) (listed_set k1 hsz k2 hir hls)
    rw [hd]
    exact this

theorem todo_pure {P : Program} {ops : Array Oper} {Q : Exit → Act → World → Prop} {wd W : World} {T : Alcs} {muts : List Nat} {n : Nat} {L : List (Nat × Value)} {l : List Res} {i : Nat} {is : List Nat} {o : Oper} {d : Nat} {v : Value}
    (hl : Lay P ops T n) (hk : pureB ops T muts i is = true) (ho : ops[i]? = some o) (hg : GW ops n L o) (hd : o.dst = some d) (hdn : Nat.ble (d + 1) n = true) (hT : T.all (fun t => t.2.1 != d) = true)
    (hy : ∀ a w', Fr n L a → (execOp a.eval o).run P w' = .ok (.value v) w')
    (k : ∀ rem a w, Rem T rem → Fr n ((d, v) :: L) a → At T wd W l rem a w → Todo P ops Q wd muts rem is a w) :
    ∀ rem a w, Rem T rem → Fr n L a → At T wd W l rem a w → Todo P ops Q wd muts rem (i :: is) a w :=
  todo_pureY hl hk ho hd hdn hT (fun a hF => .inl ⟨hg a hF, fun w _ => hy a w hF⟩) k
theorem todo_skipP {P : Program} {ops : Array Oper} {Q : Exit → Act → World → Prop} {wd W : World} {T : Alcs} {muts : List Nat} {n : Nat} {L : List (Nat × Value)} {l : List Res} {i : Nat} {is : List Nat} {o : Oper} {d : Nat}
    (hl : Lay P ops T n) (hk : pureB ops T muts i is = true) (ho : ops[i]? = some o) {j t : Nat} {b c : Bool} (hg : o.guard = some (j, b)) (hj : (ops[j]?).bind (·.dst) = some t) (ht : lk L t = some (.bool c)) (hne : (c == b) = false) (hd : o.dst = some d) (hdn : Nat.ble (d + 1) n = true) (hT : T.all (fun t => t.2.1 != d) = true)
    (k : ∀ rem a w, Rem T rem → Fr n ((d, undef) :: L) a → At T wd W l rem a w → Todo P ops Q wd muts rem is a w) :
    ∀ rem a w, Rem T rem → Fr n L a → At T wd W l rem a w → Todo P ops Q wd muts rem (i :: is) a w :=
  todo_pureY hl hk ho hd hdn hT (fun a hF => .inr ⟨by
    simp only [Region.wanted, hg, yielded_of hF hj ht]
    cases c <;> cases b <;> simp_all, rfl⟩) k
/-! ### regions that draw their order: several operations may come up next -/
def sameB (is is' : List Nat) : Bool := is.length == is'.length && is.all (fun j => is'.contains j) && is'.all (fun j => is.contains j)
/-- of these one comes up next, but for allocations; with each the list of what is left -/
def forkB (ops : Array Oper) (T : Alcs) (C : List (Nat × List Nat)) (is : List Nat) : Bool :=
  !C.isEmpty && is.all (fun j => decide (j < ops.size)) && C.all (fun p => is.contains p.1 && sameB (is.erase p.1) p.2 && !p.2.contains p.1 && depsB ops p.1 (fun k => decide (k < ops.size) && !is.contains k && T.all (fun t => t.1 != k))) &&
  T.all (fun t => !is.contains t.1) && is.all (fun j => (C.map (·.1)).contains j || waitsB ops j (fun k => is.contains k))
section
variable {P : Program} {ops : Array Oper} {Q : Exit → Act → World → Prop} {wd W : World} {T : Alcs} {muts : List Nat} {n : Nat} {L : List (Nat × Value)} {l : List Res}
theorem sameB_contains {is is' : List Nat} (h : sameB is is' = true) (j : Nat) : is.contains j = is'.contains j := by
  simp only [sameB, Bool.and_eq_true, List.all_eq_true] at h
  obtain ⟨⟨_, h1⟩, h2⟩ := h
  rw [Bool.eq_iff_iff]
  exact ⟨fun hj => h1 j (by simpa using hj), fun hj => h2 j (by simpa using hj)⟩
theorem phB_grow {muts : List Nat} {listed : Array Bool} {i : Nat} (h : phB muts listed = false) : phB muts (listed.setIfInBounds i true) = false := by
  rw [Bool.eq_false_iff] at h ⊢
  refine fun hh => h (List.all_eq_true.2 fun m hm => ?_)
  have := List.all_eq_true.1 hh m hm
  by_cases e : i = m
  · subst e
    rcases Nat.lt_or_ge i listed.size with h' | h'
    · simp [Array.getD, h'] at this
    · simp [Array.getD, Nat.not_lt.2 h']
  · rwa [getD_set_ne false e] at this
/-- once something has been changed: any other ground will do -/
theorem wpM_rebase {S S' : World → Prop} {muts muts' : List Nat} : ∀ (fuel : Nat) (listed : Array Bool) (a : Act) (w : World), phB muts listed = false → wpM P ops Q S' muts' fuel listed a w → wpM P ops Q S muts fuel listed a w
  | 0, _, _, _, _, h => h
  | fuel + 1, listed, a, w, hp, h => ⟨h.1, fun i hi => wpOp_mono (fun a' w' h' => ⟨fun x => (by rw [phB_grow hp] at x; cases x), wpM_rebase fuel _ a' w' (phB_grow hp) h'.2⟩) (h.2 i hi)⟩
theorem todo_fork (C : List (Nat × List Nat)) {is : List Nat} (hl : Lay P ops T n) (hL : T.all (fun t => (lk L t.2.1).isNone) = true) (hk : forkB ops T C is = true)
    (hop : ∀ p ∈ C, ∀ rem a w, Rem T rem → Fr n L a → At T wd W l rem a w → wpOp P ops (QN Q) p.1 (fun a' w' => (Below wd.heap.size wd w' ∧ Todo P ops Q wd muts rem p.2 a' w') ∨ (muts.contains p.1 = true ∧ ∃ m', Todo P ops Q w' m' rem p.2 a' w')) a w) :
    ∀ rem a w, Rem T rem → Fr n L a → At T wd W l rem a w → Todo P ops Q wd muts rem is a w := by
  have hL' : ∀ t ∈ T, lk L t.2.1 = none := fun t ht => by simpa using List.all_eq_true.1 hL t ht
  simp only [forkB, Bool.and_eq_true, decide_eq_true_eq, Bool.not_eq_true', List.all_eq_true, Bool.or_eq_true] at hk
  obtain ⟨⟨⟨⟨k1, k2⟩, k3⟩, k4⟩, k5⟩ := hk
  have hwait : ∀ (rem : List Nat) (listed : Array Bool) (j : Nat), listed.size = ops.size → (∀ j, j < ops.size → listed.getD j false = (!is.contains j && !rem.contains j)) → j ∈ is → j ∈ Region.ready .any ops listed → ∃ p ∈ C, p.1 = j := by
    intro rem listed j hsz hls hm hr
    rcases k5 j hm with h | h
    · obtain ⟨p, hp, e⟩ := List.mem_map.1 (List.contains_iff_mem.1 h)
      exact ⟨p, hp, e⟩
    · refine (waitsB_no h (fun k hk => ?_) hr).elim
      have hlt := k2 k (by simpa using hk)
      rw [hls k hlt, hk]; rfl
  have hlist : ∀ (rem : List Nat) (listed : Array Bool) (p : Nat × List Nat), listed.size = ops.size → (∀ j, j < ops.size → listed.getD j false = (!is.contains j && !rem.contains j)) → p ∈ C → rem.contains p.1 = false →
      ∀ j, j < ops.size → (listed.setIfInBounds p.1 true).getD j false = (!p.2.contains j && !rem.contains j) := by
    intro rem listed p hsz hls hp hr j hj
    obtain ⟨⟨⟨h1, h2⟩, h3⟩, _⟩ := k3 p hp
    by_cases e : p.1 = j
    · subst e
      rw [h3, hr]
      simp [Array.getD, hsz, hj]
    · rw [getD_set_ne false e, hls j hj]
      have : is.contains j = p.2.contains j := by
        rw [← sameB_contains h2 j, Bool.eq_iff_iff]
        simp only [List.contains_iff_mem]
        exact ⟨fun h => (List.mem_erase_of_ne (fun x => e x.symm)).2 h, fun h => List.mem_of_mem_erase h⟩
      rw [this]
  have hlen : ∀ p ∈ C, is.length = p.2.length + 1 := fun p hp => by
    obtain ⟨⟨⟨h1, h2⟩, h3⟩, _⟩ := k3 p hp
    have hm : p.1 ∈ is := by simpa using h1
    have e1 := List.length_erase_of_mem hm
    have e2 : 0 < is.length := List.length_pos_of_mem hm
    simp only [sameB, Bool.and_eq_true, beq_iff_eq] at h2
    omega
  have hrem : ∀ rem : List Nat, Rem T rem → ∀ p ∈ C, rem.contains p.1 = false := by
    intro rem hR p hp
    rw [Bool.eq_false_iff]
    intro h
    obtain ⟨t, ht, e⟩ := hR.sub p.1 (by simpa using h)
    have := k4 t ht
    rw [e, (k3 p hp).1.1.1] at this
    cases this
  obtain ⟨p0, hp0⟩ : ∃ p, p ∈ C := by
    cases C with
    | nil => simp at k1
    | cons p C => exact ⟨p, by simp⟩
  have key : ∀ m rem a w, rem.length = m → Rem T rem → Fr n L a → At T wd W l rem a w → Todo P ops Q wd muts rem is a w := by
    intro m
    induction m with
    | zero =>
      intro rem a w hm hR hF hA listed hsz hls
      obtain rfl := List.eq_nil_of_length_eq_zero hm
      have hrdy : p0.1 ∈ Region.ready .any ops listed := by
        obtain ⟨⟨⟨h1, h2⟩, h3⟩, h4⟩ := k3 p0 hp0
        have hlt := k2 p0.1 (by simpa using h1)
        refine depsB_yes h4 ?_ (fun k hk => ?_)
        · rw [getD_tf (by omega), hls _ hlt, h1]; rfl
        · simp only [Bool.and_eq_true, decide_eq_true_eq, Bool.not_eq_true'] at hk
          rw [hls k hk.1.1, hk.1.2]; rfl
      have hle := hlen p0 hp0
      rw [show is.length + ([] : List Nat).length = p0.2.length + 1 by simp; omega]
      refine ⟨fun h => (by rw [h] at hrdy; cases hrdy), fun j hj => ?_⟩
      have h0 := (mem_ready.1 hj).1
      obtain ⟨o, ho, _⟩ := (mem_ready.1 hj).2
      have hlt := (Array.getElem?_eq_some_iff.1 ho).1
      rw [getD_tf (by omega), hls j hlt] at h0
      have hm : j ∈ is := by simpa using h0
      obtain ⟨p, hp, rfl⟩ := hwait [] listed j hsz hls hm hj
      refine wpOp_mono (fun a' w' h => ?_) (hop p hp [] a w hR hF hA)
      have e1 := hlen p hp
      rw [show p0.2.length = p.2.length + ([] : List Nat).length by simp; omega]
      rcases h with h | ⟨hm1, m', h⟩
      · exact ⟨fun _ => h.1, h.2 (listed.setIfInBounds p.1 true) (by simp [hsz]) (hlist [] listed p hsz hls hp (by simp))⟩
      · have hph : phB muts (listed.setIfInBounds p.1 true) = false := by
          rw [Bool.eq_false_iff]
          intro hh
          have := List.all_eq_true.1 hh p.1 (List.contains_iff_mem.1 hm1)
          simp [Array.getD, hsz, k2 p.1 (by simpa using (k3 p hp).1.1.1)] at this
        exact ⟨fun x => (by rw [hph] at x; cases x), wpM_rebase _ _ _ _ hph (h (listed.setIfInBounds p.1 true) (by simp [hsz]) (hlist [] listed p hsz hls hp (by simp)))⟩
    | succ m ih =>
      intro rem a w hm hR hF hA listed hsz hls
      have halc : ∀ t ∈ T, t.1 ∈ rem → t.1 ∈ Region.ready .any ops listed := fun t ht hr => by
        obtain ⟨ty, ty', ps, ho, hz⟩ := hl.ok.get t ht
        have hlt := (Array.getElem?_eq_some_iff.1 ho).1
        refine mem_ready.2 ⟨?_, _, ho, fun e he => by simp at he⟩
        rw [getD_tf (by omega), hls _ hlt]
        have : rem.contains t.1 = true := by simpa using hr
        rw [this]; simp
      have hle := hlen p0 hp0
      have hfu : is.length + rem.length = (p0.2.length + rem.length) + 1 := by omega
      rw [hfu]
      refine ⟨fun h => ?_, fun j hj => ?_⟩
      · match rem, hm, hR, halc with
        | r :: rem, hm, hR, halc =>
          obtain ⟨t, ht, e⟩ := hR.sub r (by simp)
          have := halc t ht (by rw [e]; simp)
          rw [h] at this; cases this
      · have h0 := (mem_ready.1 hj).1
        obtain ⟨o, ho, _⟩ := (mem_ready.1 hj).2
        have hlt := (Array.getElem?_eq_some_iff.1 ho).1
        rw [getD_tf (by omega), hls j hlt] at h0
        by_cases hm' : j ∈ is
        · obtain ⟨p, hp, rfl⟩ := hwait rem listed j hsz hls hm' hj
          refine wpOp_mono (fun a' w' h => ?_) (hop p hp rem a w hR hF hA)
          have e1 := hlen p hp
          rw [show p0.2.length = p.2.length by omega]
          rcases h with h | ⟨hm1, m', h⟩
          · exact ⟨fun _ => h.1, h.2 (listed.setIfInBounds p.1 true) (by simp [hsz]) (hlist rem listed p hsz hls hp (hrem rem hR p hp))⟩
          · have hph : phB muts (listed.setIfInBounds p.1 true) = false := by
              rw [Bool.eq_false_iff]
              intro hh
              have := List.all_eq_true.1 hh p.1 (List.contains_iff_mem.1 hm1)
              simp [Array.getD, hsz, k2 p.1 (by simpa using (k3 p hp).1.1.1)] at this
            exact ⟨fun x => (by rw [hph] at x; cases x), wpM_rebase _ _ _ _ hph (h (listed.setIfInBounds p.1 true) (by simp [hsz]) (hlist rem listed p hsz hls hp (hrem rem hR p hp)))⟩
        · have hr : j ∈ rem := by
            simp [hm'] at h0; exact h0
          obtain ⟨t, ht, rfl⟩ := hR.sub j hr
          obtain ⟨ty, ty', ps, ho', hz⟩ := hl.ok.get t ht
          refine wpOp_alloc ho' hz ⟨fun _ => hA.s.alloc hA.s.size _, ?_⟩
          have hR' : Rem T (rem.erase t.1) := ⟨hR.nd.erase _, fun r hr => hR.sub r (List.mem_of_mem_erase hr)⟩
          have hlen' : (rem.erase t.1).length = m := by rw [List.length_erase_of_mem hr, hm]; rfl
          have hA' := hA.alloc (ty := ty) ht hl.d1 hl.d2 (by rw [hF.size]; exact hl.lt t ht) hR.nd
          have hF' := hF.putO (hL' t ht) (.pointer (some ⟨w.heap.size, 0, none⟩))
          have := ih (rem.erase t.1) _ _ hlen' hR' hF' hA' (listed.setIfInBounds t.1 true) (by simp [hsz]) (listed_erase hlt hsz (by simpa using hm') hR.nd hls)
          have hfu' : is.length + (rem.erase t.1).length = p0.2.length + rem.length := by rw [hlen', hm]; omega
          rw [hfu'] at this
          exact this
  exact fun rem a w hR hF hA => key _ rem a w rfl hR hF hA
theorem op_mk {Γ : Type} {i : Nat} {is : List Nat} {o : Oper} {d : Nat} {f : FuncId} {args : Array Value} {val : Γ → Value} {l1 : Γ → List Res} (hL : T.all (fun t => (lk L t.2.1).isNone) = true) (ho : ops[i]? = some o) (hg : GW ops n L o) (hd : o.dst = some d) (hdn : Nat.ble (d + 1) n = true) (hT : T.all (fun t => t.2.1 != d) = true)
    (hr : ∀ a w, Fr n L a → (execOp a.eval o).run P w = .ok (.enter f args) w) (hc : ∀ w, Sep W l w → Calls P f args w (Ret (Mk w val l1)))
    (k : ∀ γ rem a w, Rem T rem → Fr n ((d, val γ) :: L) a → At T wd W (l1 γ ++ l) rem a w → Todo P ops Q wd muts rem is a w) :
    ∀ rem a w, Rem T rem → Fr n L a → At T wd W l rem a w → wpOp P ops (QN Q) i (fun a' w' => (Below wd.heap.size wd w' ∧ Todo P ops Q wd muts rem is a' w') ∨ (muts.contains i = true ∧ ∃ m', Todo P ops Q w' m' rem is a' w')) a w := by
  intro rem a w hR hF hA
  refine wpOp_ofW ho (hg a hF) ?_
  unfold Oper.wp
  rw [hr a w hF, Oper.upon_enter]
  refine (hc w hA.sep).mono ?_
  rintro e w1 ⟨v, rfl, γ, rfl, hS⟩
  show _ ∨ _
  rw [hd]
  exact .inl ⟨hA.s.trans (hS.old.mono hA.s.size), k γ rem _ _ hR (hF.put hdn _) ((hA.made hS).put (fun t ht => by simpa using List.all_eq_true.1 hT t ht))⟩
theorem op_rd {i : Nat} {is : List Nat} {o : Oper} {d : Nat} {f : FuncId} {args : Array Value} {v : Value} (hL : T.all (fun t => (lk L t.2.1).isNone) = true) (ho : ops[i]? = some o) (hg : GW ops n L o) (hd : o.dst = some d) (hdn : Nat.ble (d + 1) n = true) (hT : T.all (fun t => t.2.1 != d) = true)
    (hr : ∀ a w, Fr n L a → (execOp a.eval o).run P w = .ok (.enter f args) w) (hc : ∀ w, Sep W l w → Calls P f args w (Ret fun u w' => u = v ∧ Below w.heap.size w w'))
    (k : ∀ rem a w, Rem T rem → Fr n ((d, v) :: L) a → At T wd W l rem a w → Todo P ops Q wd muts rem is a w) :
    ∀ rem a w, Rem T rem → Fr n L a → At T wd W l rem a w → wpOp P ops (QN Q) i (fun a' w' => (Below wd.heap.size wd w' ∧ Todo P ops Q wd muts rem is a' w') ∨ (muts.contains i = true ∧ ∃ m', Todo P ops Q w' m' rem is a' w')) a w :=
  op_mk (Γ := Unit) (val := fun _ => v) (l1 := fun _ => []) hL ho hg hd hdn hT hr (fun w hS => (hc w hS).mono (by rintro e w1 ⟨u, rfl, rfl, hb⟩; exact ⟨_, rfl, (), rfl, hb, Sat.nil _ _⟩)) (fun _ => k)
theorem op_op {Γ : Type} {i : Nat} {is : List Nat} {o : Oper} {d : Nat} {val : Γ → Value} {l1 : Γ → List Res} (hL : T.all (fun t => (lk L t.2.1).isNone) = true) (ho : ops[i]? = some o) (hg : GW ops n L o) (hd : o.dst = some d) (hdn : Nat.ble (d + 1) n = true) (hT : T.all (fun t => t.2.1 != d) = true)
    (hr : ∀ a w, Fr n L a → Sep W l w → ∃ γ w', (execOp a.eval o).run P w = .ok (.value (val γ)) w' ∧ Sep w (l1 γ) w')
    (k : ∀ γ rem a w, Rem T rem → Fr n ((d, val γ) :: L) a → At T wd W (l1 γ ++ l) rem a w → Todo P ops Q wd muts rem is a w) :
    ∀ rem a w, Rem T rem → Fr n L a → At T wd W l rem a w → wpOp P ops (QN Q) i (fun a' w' => (Below wd.heap.size wd w' ∧ Todo P ops Q wd muts rem is a' w') ∨ (muts.contains i = true ∧ ∃ m', Todo P ops Q w' m' rem is a' w')) a w := by
  intro rem a w hR hF hA
  refine wpOp_ofW ho (hg a hF) ?_
  obtain ⟨γ, w1, hrun, hS⟩ := hr a w hF hA.sep
  unfold Oper.wp
  rw [hrun, Oper.upon_value, hd]
  exact .inl ⟨hA.s.trans (hS.old.mono hA.s.size), k γ rem _ _ hR (hF.put hdn _) ((hA.made hS).put (fun t ht => by simpa using List.all_eq_true.1 hT t ht))⟩
/-- one that is read only, as one of several that may come up -/
theorem op_ld {i : Nat} {is : List Nat} {o : Oper} {d : Nat} {v : Value} (hL : T.all (fun t => (lk L t.2.1).isNone) = true) (ho : ops[i]? = some o) (hg : GW ops n L o) (hd : o.dst = some d) (hdn : Nat.ble (d + 1) n = true) (hT : T.all (fun t => t.2.1 != d) = true)
    (hr : ∀ a w, Fr n L a → Sep W l w → (execOp a.eval o).run P w = .ok (.value v) w)
    (k : ∀ rem a w, Rem T rem → Fr n ((d, v) :: L) a → At T wd W l rem a w → Todo P ops Q wd muts rem is a w) :
    ∀ rem a w, Rem T rem → Fr n L a → At T wd W l rem a w → wpOp P ops (QN Q) i (fun a' w' => (Below wd.heap.size wd w' ∧ Todo P ops Q wd muts rem is a' w') ∨ (muts.contains i = true ∧ ∃ m', Todo P ops Q w' m' rem is a' w')) a w :=
  op_op (Γ := Unit) (val := fun _ => v) (l1 := fun _ => []) hL ho hg hd hdn hT (fun a w hF hS => ⟨(), w, hr a w hF hS, Below.refl _ _, Sat.nil _ _⟩) (fun _ => k)
/-- a box is written over, and the rest goes on from there -/
theorem op_st {i j g T' : Nat} {is : List Nat} {m' : List Nat} {o : Oper} {x y : Operand} {ty : TypeId} {ps : String} {af : Array Edge} {cs vs : List Value} (ho : ops[i]? = some o) (hoe : o = ⟨none, .store T' x y, ty, ps, af, none⟩) (hm : muts.contains i = true) (hi : l[j]? = some (Box g cs))
    (hp : ∀ a, Fr n L a → a.eval x = .pointer (some ⟨g, 0, none⟩)) (hy : ∀ a, Fr n L a → a.eval y = .agg vs.toArray) (hsz : szB P T' = some vs.length) (hl : evenB vs cs = true) (h1 : vs.all (fun u => u.oneCell') = true)
    (k : ∀ wd', Sep W (l.set j (Box g vs)) wd' → ∀ rem a w, Rem T rem → Fr n L a → At T wd' W (l.set j (Box g vs)) rem a w → Todo P ops Q wd' m' rem is a w) :
    ∀ rem a w, Rem T rem → Fr n L a → At T wd W l rem a w → wpOp P ops (QN Q) i (fun a' w' => (Below wd.heap.size wd w' ∧ Todo P ops Q wd muts rem is a' w') ∨ (muts.contains i = true ∧ ∃ m', Todo P ops Q w' m' rem is a' w')) a w := by
  intro rem a w hR hF hA
  subst hoe
  refine wpOp_of ho rfl ?_
  obtain ⟨gs, hb, hbx⟩ := hA.box
  have hl' := evenB_eq _ _ hl
  obtain ⟨w', hr, hS'⟩ := hb.box_row (P := P) (i := j + 1) (o := 0) (vs := vs) (by simpa using hi) (by omega) (fun u hu => List.all_eq_true.1 h1 u hu)
  have e : cs.take 0 ++ vs ++ cs.drop (0 + vs.length) = vs := by
    rw [Nat.zero_add, hl', List.drop_length]; simp
  rw [e] at hS'
  have hrun := r_storen (ρ := a.eval) (D := none) (gd := none) (ty := ty) (ps := ps) (af := af) hsz (hp a hF) (hy a hF) hr
  unfold Oper.wp
  rw [hrun, Oper.upon_skip]
  refine .inr ⟨hm, m', k w' (by simpa using hS'.tail) rem _ w' hR (by simpa [Act.put] using hF) ⟨Below.refl _ _, gs, by simpa using hS', fun t ht hr => ?_⟩⟩
  obtain ⟨g, h1, h2⟩ := hbx t ht hr
  exact ⟨g, h1, by simpa [Act.put] using h2⟩
end

/-! ### division, nil, structs held against each other -/
section
variable {P : Program} {ρ : Operand → Value} {w : World} {D : Option Tmp} {ty : TypeId} {ps : String} {af : Array Edge} {gd : Option (Nat × Bool)} {t t' : TypeId} {k : IntKind} {x y : Operand} {m q : Int}
theorem r_quo (h0 : q ≠ 0) (hx : ρ x = .int k m) (hy : ρ y = .int k q) : (execOp ρ ⟨D, .binOp .quo t x y t', ty, ps, af, gd⟩).run P w = .ok (.value (.int k (k.wrap (m.tdiv q)))) w := by
  simp [execOp, hx, hy, go_sem, Op.intDiv, h0]
theorem r_rem (h0 : q ≠ 0) (hx : ρ x = .int k m) (hy : ρ y = .int k q) : (execOp ρ ⟨D, .binOp .rem t x y t', ty, ps, af, gd⟩).run P w = .ok (.value (.int k (m.tmod q))) w := by
  simp [execOp, hx, hy, go_sem, Op.intDiv, h0]
theorem r_eqnil {A : Option Addr} {n c : Nat} (ht : P.underlying t = some (.slice (P.elem t))) (hx : ρ x = .slice A n c) (hy : ρ y = .slice none 0 0) : (execOp ρ ⟨D, .binOp .eql t x y t', ty, ps, af, gd⟩).run P w = .ok (.value (.bool A.isNone)) w := by
  have := Lib.run_eql_slice_nil (P := P) w t (P.elem t) A n c 0 0 ht
  simp [execOp, hx, hy, this, go_sem]
theorem r_neqnil {A : Option Addr} {n c : Nat} (ht : P.underlying t = some (.slice (P.elem t))) (hx : ρ x = .slice A n c) (hy : ρ y = .slice none 0 0) : (execOp ρ ⟨D, .binOp .neq t x y t', ty, ps, af, gd⟩).run P w = .ok (.value (.bool (!A.isNone))) w := by
  have := run_neq_slice_nil_any (P := P) w t (P.elem t) A n c 0 0 ht
  simp [execOp, hx, hy, this, go_sem]
end
theorem Rd.none_nil {α : Type} {ek : EK α} {w : World} {n c : Nat} {A : Option Addr} {xs : List α} (h : ek.Rd w (.slice A n c) xs) (hA : A.isNone = true) : xs = [] := by
  cases xs with
  | nil => rfl
  | cons x xs =>
    obtain ⟨g, o, m, c', cs, e, _⟩ := Rd.idx h (i := 0) rfl
    simp only [Value.slice.injEq] at e
    rw [e.1] at hA
    cases hA

/-- some cells of many -/
theorem subcells {w : World} {g o : Nat} {cs vs : List Value} (hc : ∀ j u, cs[j]? = some u → w.cell? ⟨g, o + j, none⟩ = some u) (k m : Nat) (e : (cs.drop k).take m = vs) : ∀ j u, vs[j]? = some u → w.cell? ⟨g, o + k + j, none⟩ = some u := by
  intro j u hu
  subst e
  rw [List.getElem?_take] at hu
  split at hu
  · rw [List.getElem?_drop] at hu
    have := hc _ u hu
    rwa [← Nat.add_assoc] at this
  · cases hu
/-! ### an element that is borrowed: its cells one by one -/
section
variable {P : Program} {ops : Array Oper} {Q : Exit → Act → World → Prop} {a : Act} {w w0 : World} {rest : List Oper} {n d : Nat} {L : List (Nat × Value)} {l : List Res} {v u : Value}
variable {ty : TypeId} {ps : String} {af : Array Edge}
theorem Sep.but1 {α : Type} {ek : EK α} {q i m c g o j : Nat} {xs : List α} {cs : List Value} (h : Sep w0 l w) (hq : l[q]? = some (OwnBut ek (.slice (some ⟨g, o, none⟩) m c) xs i cs)) (hu : cs[j]? = some u) : w.cell? ⟨g, o + i * ek.sz + j, none⟩ = some u :=
  h.but_at hq rfl j u hu
theorem Sep.butn {α : Type} {ek : EK α} {q i m c g o : Nat} {xs : List α} {cs vs : List Value} {j k : Nat} (h : Sep w0 l w) (hq : l[q]? = some (OwnBut ek (.slice (some ⟨g, o, none⟩) m c) xs i cs)) (hv : (cs.drop j).take k = vs) : ∀ p u, vs[p]? = some u → w.cell? ⟨g, o + i * ek.sz + j + p, none⟩ = some u := by
  intro p u hu
  subst hv
  rw [List.getElem?_take] at hu
  split at hu
  · rw [List.getElem?_drop] at hu
    have := h.but_at hq rfl _ u hu
    rwa [← Nat.add_assoc] at this
  · simp at hu
theorem wl_bstore {α : Type} {ek : EK α} {T : TypeId} {X Y : Operand} {q i m c g o j p : Nat} {xs : List α} {cs : List Value} (hF : Fr n L a) (hS : Sep w0 l w) (hq : l[q]? = some (OwnBut ek (.slice (some ⟨g, o, none⟩) m c) xs i cs))
    (hsz : szB P T = some 1) (hp : a.eval X = .pointer (some ⟨g, p, none⟩)) (hpe : p = o + i * ek.sz + j) (hy : a.eval Y = u) (h1 : u.oneCell' = true) (hj : (cs[j]?).isSome = true)
    (k : ∀ w', Sep w0 (l.set q (OwnBut ek (.slice (some ⟨g, o, none⟩) m c) xs i (cs.set j u))) w' → wpList P ops Q rest a w') : wpList P ops Q (⟨none, .store T X Y, ty, ps, af, none⟩ :: rest) a w := by
  subst hpe
  have hj' : j < cs.length := lt_of_some hj
  obtain ⟨w', hr, h3⟩ := hS.but_row (P := P) (p := j) (us := [u]) hq rfl (by simp; omega) (by simpa using h1)
  have e : cs.take j ++ [u] ++ cs.drop (j + [u].length) = cs.set j u := by
    rw [List.set_eq_take_append_cons_drop, if_pos hj']; simp
  rw [e] at h3
  have hv : u.cells.toList = [u] := by cases u <;> simp_all [Value.cells, Value.oneCell']
  exact wl0 (w' := w') hF rfl rfl (r_storeg (by simpa using hsz) hp hy hv hr) (k _ h3)
theorem wl_bstoren {α : Type} {ek : EK α} {T : TypeId} {X Y : Operand} {q i m c g o j p : Nat} {xs : List α} {cs us cs' : List Value} (hF : Fr n L a) (hS : Sep w0 l w) (hq : l[q]? = some (OwnBut ek (.slice (some ⟨g, o, none⟩) m c) xs i cs))
    (hsz : szB P T = some us.length) (hp : a.eval X = .pointer (some ⟨g, p, none⟩)) (hpe : p = o + i * ek.sz + j) (hy : a.eval Y = .agg us.toArray) (h1 : us.all (fun u => u.oneCell') = true) (hj : longB (cs.drop j) us = true ∧ ((cs.drop j)[0]?).isSome = true) (he : cs.take j ++ us ++ cs.drop (j + us.length) = cs')
    (k : ∀ w', Sep w0 (l.set q (OwnBut ek (.slice (some ⟨g, o, none⟩) m c) xs i cs')) w' → wpList P ops Q rest a w') : wpList P ops Q (⟨none, .store T X Y, ty, ps, af, none⟩ :: rest) a w := by
  subst hpe
  subst he
  obtain ⟨w', hr, h3⟩ := hS.but_row (P := P) (p := j) (us := us) hq rfl (long_fits hj.1 hj.2) (fun u hu => List.all_eq_true.1 h1 u hu)
  exact wl0 (w' := w') hF rfl rfl (r_storeg hsz hp hy rfl hr) (k _ h3)
end
end Go.Proofs.YtifhfodphoeeoaaGreat.Sl
