/- Regions that draw their order, hold calls that make new memory, allocations that come up at any time, and stores at the end. No program in sight. -/
import Derived.Test.YtifhfodphoeeoaaGreatGrow
namespace Go.Proofs.YtifhfodphoeeoaaGreat.Sl
open Go Go.RowKit
set_option linter.unusedVariables false
set_option linter.unusedSimpArgs false

/-- a maker's contract: the value and the parts that it has made -/
def Mk {Γ : Type} (w : World) (val : Γ → Value) (l1 : Γ → List Res) : Value → World → Prop := fun v w' => ∃ γ, v = val γ ∧ Sep w (l1 γ) w'

/-! ### any order, the condition S asked for as long as no operation of 'muts' has come up -/
def phB (muts : List Nat) (listed : Array Bool) : Bool := muts.all fun m => !listed.getD m false
section
variable {P : Program} {ops : Array Oper} {Q : Exit → Act → World → Prop} {S : World → Prop} {muts : List Nat}
def wpM (P : Program) (ops : Array Oper) (Q : Exit → Act → World → Prop) (S : World → Prop) (muts : List Nat) : Nat → Array Bool → Act → World → Prop
  | 0, listed, a, w => Region.ready .any ops listed = [] ∧ Q .normal a w
  | fuel + 1, listed, a, w =>
    (Region.ready .any ops listed = [] → Q .normal a w) ∧
    ∀ i ∈ Region.ready .any ops listed, wpOp P ops Q i (fun a' w' => (phB muts (listed.setIfInBounds i true) = true → S w') ∧ wpM P ops Q S muts fuel (listed.setIfInBounds i true) a' w') a w
theorem wpAny_of_M : ∀ (fuel : Nat) (listed : Array Bool) (a : Act) (w : World), wpM P ops Q S muts fuel listed a w → wpAny P .any ops Q fuel listed a w
  | 0, _, _, _, h => h
  | fuel + 1, _, _, _, h => ⟨h.1, fun i hi => wpOp_mono (fun a' w' h' => wpAny_of_M fuel _ a' w' h'.2) (h.2 i hi)⟩
theorem phB_set {i : Nat} {listed : Array Bool} (hi : i ∉ muts) : phB muts (listed.setIfInBounds i true) = phB muts listed := by
  unfold phB
  rw [Bool.eq_iff_iff, List.all_eq_true, List.all_eq_true]
  refine forall_congr' fun m => forall_congr' fun hm => ?_
  rw [getD_set_ne false (fun e : i = m => hi (e ▸ hm))]
theorem wpM_first {i : Nat} {oi : Oper} {v : Value} (hi : ops[i]? = some oi) (him : i ∉ muts) (hsel : ∀ (j : Nat) (o : Oper) cs b, ops[j]? = some o → o.op ≠ .select cs b)
    (hQ : ∀ c a w, Q (.panic c) (a.put oi.dst v) w → Q (.panic c) a w)
    (hmut : ∀ m ∈ muts, ∀ om, ops[m]? = some om → ∃ e ∈ om.after, Region.binds .any e = true ∧ (e.on = i ∨ e.on ∈ muts)) :
    ∀ (fuel : Nat) (listed : Array Bool) (a : Act) (w : World),
      (∀ j oj, ops[j]? = some oj → j ≠ i → listed.getD j true = false → (∀ e ∈ oj.after, Region.binds .any e = true → e.on ≠ i) → oi.apart ops oj = true) →
      i ∈ Region.ready .any ops listed → YieldsIf P ops S oi v a → S w → phB muts listed = true →
      wpM P ops Q S muts fuel (listed.setIfInBounds i true) (a.put oi.dst v) w → wpM P ops Q S muts (fuel + 1) listed a w := by
  intro fuel
  induction fuel with
  | zero =>
    intro listed a w _ hr hy hS hp H
    refine ⟨fun h => (by rw [h] at hr; cases hr), fun j hj => ?_⟩
    by_cases hji : j = i
    · subst hji; exact hy.wpOp hi hS ⟨fun _ => hS, H⟩
    · have := ready_mono hj hji
      rw [H.1] at this
      cases this
  | succ fuel ih =>
    intro listed a w hfree hr hy hS hp H
    refine ⟨fun h => (by rw [h] at hr; cases hr), fun j hj => ?_⟩
    by_cases hji : j = i
    · subst hji; exact hy.wpOp hi hS ⟨fun _ => hS, H⟩
    · have h1 := H.2 j (ready_mono hj hji)
      obtain ⟨hjun, oj, hoj, hall⟩ := mem_ready.1 hj
      have hnot : ∀ e ∈ oj.after, Region.binds .any e = true → e.on ≠ i := fun e he hb heq => by
        have h1 := hall e he hb
        have h0 := (mem_ready.1 hr).1
        rw [heq] at h1
        rcases Nat.lt_or_ge i listed.size with h' | h'
        · simp [h'] at h0 h1; rw [h0] at h1; cases h1
        · simp [Array.getElem?_eq_none h'] at h1
      have hjm : j ∉ muts := fun hm => by
        obtain ⟨e, he, hb, heq⟩ := hmut j hm oj hoj
        rcases heq with heq | heq
        · exact hnot e he hb heq
        · have h1 := hall e he hb
          have h2 := List.all_eq_true.1 hp e.on heq
          rw [h1] at h2
          cases h2
      have h2 := wpOp_putIf hoj (hfree j oj hoj hji hjun hnot) (fun cs b => hsel i oi cs b hi) (fun cs b => hsel j oj cs b hoj) hQ hy h1
      have hfree' : ∀ k ok, ops[k]? = some ok → k ≠ i → (listed.setIfInBounds j true).getD k true = false →
          (∀ e ∈ ok.after, Region.binds .any e = true → e.on ≠ i) → oi.apart ops ok = true := fun k ok hk hki hun hno => by
        refine hfree k ok hk hki ?_ hno
        by_cases hjk : j = k
        · subst hjk; exact hjun
        · rw [getD_set_ne true hjk] at hun; exact hun
      have hp' : phB muts (listed.setIfInBounds j true) = true := by rw [phB_set hjm]; exact hp
      have hp'' : phB muts ((listed.setIfInBounds i true).setIfInBounds j true) = true := by rw [phB_set hjm, phB_set him]; exact hp
      refine wpOp_mono (fun a' w' h3 => ⟨fun _ => h3.2.1 hp'', ih (listed.setIfInBounds j true) a' w' hfree' (ready_mono hr (Ne.symm hji)) h3.1 (h3.2.1 hp'') hp' ?_⟩) h2
      rw [Array.setIfInBounds_comm _ _ hji]
      exact h3.2.2
end

/-- several parts as one -/
def Many (l : List Res) : Res where
  P := fun S w => Sat l S w
  loc := fun h hk => hk.loc h
  mono := fun h hs => hs.mono h

theorem Sat.uncons {l : List Res} {r : Res} {S : Nat → Prop} {w : World} (h : Sat (r :: l) S w) : ∃ S0 S1 : Nat → Prop, r.P S0 w ∧ Sat l S1 w ∧ (∀ k, S0 k → S k) ∧ (∀ k, S1 k → S k) ∧ (∀ k, S0 k → S1 k → False) := by
  obtain ⟨f, h1, h2, h3⟩ := h
  refine ⟨f 0, fun k => ∃ i, f (i + 1) k, h1 0 r rfl, ⟨fun i => f (i + 1), fun i q hq => h1 (i + 1) q (by simpa using hq), fun i k hf => ⟨i, hf⟩, fun i j k hi hj => ?_⟩, h2 0, fun k ⟨i, hf⟩ => h2 _ k hf, fun k h0 ⟨i, hf⟩ => ?_⟩
  · have := h3 _ _ k hi hj; omega
  · have := h3 _ _ k h0 hf; omega
theorem Sep.many_nil {W w : World} {l : List Res} (h : Sep W l w) : Sep W (Many [] :: l) w :=
  ⟨h.old, Sat.cons (S1 := fun _ => False) h.sat (Sat.nil _ _) (fun k hk => hk.elim) (fun k hk => hk) (fun k hk _ => hk)⟩
/-- a part goes in with the many -/
theorem Sep.many_cons {W w : World} {l L : List Res} {r : Res} (h : Sep W (r :: Many L :: l) w) : Sep W (Many (r :: L) :: l) w := by
  obtain ⟨S0, S1, a1, a2, a3, a4, a5⟩ := h.sat.uncons
  obtain ⟨S2, S3, b1, b2, b3, b4, b5⟩ := a2.uncons
  refine ⟨h.old, Sat.cons (S := S3) (S1 := fun k => S0 k ∨ S2 k) b2 ?_ (fun k hk => hk.elim (a3 k) (fun h => a4 k (b3 k h))) (fun k hk => a4 k (b4 k hk)) (fun k h1 h2 => h1.elim (fun h => a5 k h (b4 k h2)) (fun h => b5 k h h2))⟩
  exact Sat.cons (S := S2) b1 a1 (fun k hk => .inl hk) (fun k hk => .inr hk) (fun k h1 h2 => a5 k h1 (b3 k h2))
theorem Sep.many_flat {W w : World} {l L : List Res} (h : Sep W (Many L :: l) w) : Sep W (L ++ l) w := by
  obtain ⟨S0, S1, a1, a2, a3, a4, a5⟩ := h.sat.uncons
  exact ⟨h.old, Sat.append a2 a1 a3 a4 a5⟩
theorem Sep.many_one {W w : World} {l L : List Res} {p : Nat} {r : Res} (h : Sep W (Many L :: l) w) (hp : L[p]? = some r) : Sep W (r :: l) w := by
  have hlt := (List.getElem?_eq_some_iff.1 hp).1
  refine h.many_flat.sub (fun i => match i with | 0 => p | i + 1 => L.length + i) ?_ ?_
  · intro i j _ _ e
    cases i <;> cases j <;> simp at e <;> omega
  · intro i q hq
    cases i with
    | zero => simp at hq; subst hq; simp only []; rw [List.getElem?_append_left hlt]; exact hp
    | succ i => simp only []; rw [List.getElem?_append_right (by omega), Nat.add_sub_cancel_left]; simpa using hq
theorem Sep.many_two {W w : World} {l L : List Res} {p p' : Nat} {r r' : Res} (h : Sep W (Many L :: l) w) (hp : L[p]? = some r) (hp' : L[p']? = some r') (hne : p ≠ p') : Sep W (r :: r' :: l) w := by
  have hlt := (List.getElem?_eq_some_iff.1 hp).1
  have hlt' := (List.getElem?_eq_some_iff.1 hp').1
  refine h.many_flat.sub (fun i => match i with | 0 => p | 1 => p' | i + 2 => L.length + i) ?_ ?_
  · intro i j _ _ e
    rcases i with _ | _ | i <;> rcases j with _ | _ | j <;> simp at e <;> omega
  · intro i q hq
    rcases i with _ | _ | i
    · simp at hq; subst hq; simp only []; rw [List.getElem?_append_left hlt]; exact hp
    · simp at hq; subst hq; simp only []; rw [List.getElem?_append_left hlt']; exact hp'
    · simp only []; rw [List.getElem?_append_right (by omega), Nat.add_sub_cancel_left]; simpa using hq
/-- new parts go in behind the first -/
theorem Sep.behind {W w : World} {A B : List Res} {r : Res} (h : Sep W (A ++ r :: B) w) : Sep W (r :: (A ++ B)) w := by
  refine h.sub (fun i => match i with | 0 => A.length | i + 1 => if i < A.length then i else i + 1) ?_ ?_
  · intro i j _ _ e
    rcases i with _ | i <;> rcases j with _ | j <;> simp only [] at e
    · rfl
    · split at e <;> omega
    · split at e <;> omega
    · split at e <;> split at e <;> omega
  · intro i q hq
    rcases i with _ | i
    · simp at hq; subst hq; simp
    · simp only [List.getElem?_cons_succ] at hq
      simp only []
      split
      · rename_i hi; rw [List.getElem?_append_left hi] at hq ⊢; exact hq
      · rename_i hi
        rw [List.getElem?_append_right (by omega)] at hq ⊢
        rw [show i + 1 - A.length = (i - A.length) + 1 by omega]
        simpa using hq

/-- the allocations: number, slot, cells -/
abbrev Alcs := List (Nat × Nat × List Value)

/-- where a walk through a region stands: the allocations that have come up have their boxes; all blocks that stood at the start are as they were -/
structure At (T : Alcs) (wd W : World) (l : List Res) (rem : List Nat) (a : Act) (w : World) : Prop where
  s : Below wd.heap.size wd w
  box : ∃ gs : List (Nat × Nat × List Value), Sep W (Many (gs.map fun x => Box x.2.1 x.2.2) :: l) w ∧
    (∀ t ∈ T, t.1 ∉ rem → ∃ g, (t.1, g, t.2.2) ∈ gs ∧ a.tmps[t.2.1]? = some (.pointer (some ⟨g, 0, none⟩)))

theorem At.sep {T : Alcs} {wd W w : World} {l : List Res} {rem : List Nat} {a : Act} (h : At T wd W l rem a w) : Sep W l w := by
  obtain ⟨gs, h1, _⟩ := h.box
  exact h1.tail

/-- what is asked at the end: the region ends normally -/
def QN (Q : Exit → Act → World → Prop) : Exit → Act → World → Prop := fun e a w => e = .normal ∧ Q .normal a w

/-- what is still to come: the operations 'is' in this order, the allocations 'rem' at any time -/
def Todo (P : Program) (ops : Array Oper) (Q : Exit → Act → World → Prop) (wd : World) (muts rem is : List Nat) (a : Act) (w : World) : Prop :=
  ∀ listed : Array Bool, listed.size = ops.size → (∀ j, j < ops.size → listed.getD j false = (!is.contains j && !rem.contains j)) → wpM P ops (QN Q) (fun w => Below wd.heap.size wd w) muts (is.length + rem.length) listed a w

/-! ### what is asked of the region's edges -/
def waitsB (ops : Array Oper) (j : Nat) (on : Nat → Bool) : Bool :=
  match ops[j]? with
  | some o => o.after.any fun e => Region.binds .any e && on e.on
  | none => true
def depsB (ops : Array Oper) (j : Nat) (ok : Nat → Bool) : Bool :=
  match ops[j]? with
  | some o => o.after.all fun e => !Region.binds .any e || ok e.on
  | none => false
/-- the allocations are what the list says -/
def AlcOk (P : Program) (ops : Array Oper) : Alcs → Prop
  | [] => True
  | t :: T => (∃ ty ty' ps, ops[t.1]? = some ⟨some t.2.1, .alloc ty, ty', ps, #[], none⟩ ∧ zeroOf P ty = some t.2.2) ∧ AlcOk P ops T
theorem AlcOk.get {P : Program} {ops : Array Oper} : ∀ {T : Alcs}, AlcOk P ops T → ∀ t ∈ T, ∃ ty ty' ps, ops[t.1]? = some ⟨some t.2.1, .alloc ty, ty', ps, #[], none⟩ ∧ zeroOf P ty = some t.2.2
  | [], _, t, h => by cases h
  | u :: T, ⟨h1, h2⟩, t, h => by
    rcases List.mem_cons.1 h with rfl | h
    · exact h1
    · exact h2.get t h
/-- an operation that must come up next, but for allocations -/
def stepB (ops : Array Oper) (T : Alcs) (i : Nat) (is : List Nat) : Bool :=
  decide (i < ops.size) && !is.contains i && T.all (fun t => t.1 != i && !is.contains t.1) && is.all (fun j => waitsB ops j (fun k => k == i || is.contains k)) && depsB ops i (fun k => decide (k < ops.size) && k != i && !is.contains k)
/-- an operation that may be taken first -/
def quietB (ops : Array Oper) (T : Alcs) (muts : List Nat) (i : Nat) (is : List Nat) : Bool :=
  decide (i < ops.size) && !is.contains i && T.all (fun t => t.1 != i && !is.contains t.1) && Region.noSelect ops && depsB ops i (fun k => decide (k < ops.size) && k != i && !is.contains k && T.all (fun t => t.1 != k)) && !muts.contains i && muts.all (fun m => waitsB ops m (fun k => k == i || muts.contains k) && is.contains m) &&
  (match ops[i]? with
   | some oi => (is ++ T.map (·.1)).all (fun j => waitsB ops j (fun k => k == i) || (match ops[j]? with | some oj => oi.apart ops oj | none => true))
   | none => false)
/-- the end: one behind the other -/
def tailB (ops : Array Oper) : List Nat → Bool
  | [] => true
  | i :: is => decide (i < ops.size) && !is.contains i && is.all (fun j => waitsB ops j (fun k => k == i || is.contains k)) && depsB ops i (fun k => decide (k < ops.size) && k != i && !is.contains k) && tailB ops is
def finB (ops : Array Oper) (T : Alcs) (is : List Nat) : Bool :=
  is.all (fun j => T.all (fun t => waitsB ops j (fun k => k == t.1))) && T.all (fun t => !is.contains t.1) && tailB ops is

theorem waitsB_no {ops : Array Oper} {j : Nat} {on : Nat → Bool} {listed : Array Bool} (h : waitsB ops j on = true) (hon : ∀ k, on k = true → listed.getD k false = false) : j ∉ Region.ready .any ops listed := by
  intro hr
  obtain ⟨_, o, ho, hall⟩ := mem_ready.1 hr
  unfold waitsB at h
  rw [ho] at h
  obtain ⟨e, he, h2⟩ := Array.any_eq_true'.1 h
  simp only [Bool.and_eq_true] at h2
  have := hall e he h2.1
  rw [hon _ h2.2] at this
  cases this
theorem depsB_yes {ops : Array Oper} {j : Nat} {ok : Nat → Bool} {listed : Array Bool} (h : depsB ops j ok = true) (h0 : listed.getD j true = false) (hok : ∀ k, ok k = true → listed.getD k false = true) : j ∈ Region.ready .any ops listed := by
  unfold depsB at h
  split at h
  · rename_i o ho
    refine mem_ready.2 ⟨h0, o, ho, fun e he hb => ?_⟩
    have := Array.all_eq_true_iff_forall_mem.1 h e he
    simp only [hb, Bool.not_true, Bool.false_or] at this
    exact hok _ this
  · cases h
theorem getD_tf {listed : Array Bool} {j : Nat} (h : j < listed.size) : listed.getD j true = listed.getD j false := by simp [Array.getD, h]

section
variable {P : Program} {ops : Array Oper} {Q : Exit → Act → World → Prop} {wd W : World} {T : Alcs} {muts : List Nat} {n : Nat} {L : List (Nat × Value)} {l : List Res}

theorem listed_set {listed : Array Bool} {i : Nat} {is rem : List Nat} (hi : i < ops.size) (hsz : listed.size = ops.size) (hn : is.contains i = false) (hr : rem.contains i = false)
    (hl : ∀ j, j < ops.size → listed.getD j false = (!(i :: is).contains j && !rem.contains j)) : ∀ j, j < ops.size → (listed.setIfInBounds i true).getD j false = (!is.contains j && !rem.contains j) := by
  intro j hj
  by_cases e : i = j
  · subst e
    rw [hn, hr]
    simp [Array.getD, hsz, hj]
  · rw [getD_set_ne false e, hl j hj]
    have e' : ¬ j = i := fun h => e h.symm
    simp [List.contains_cons, e']
theorem listed_erase {listed : Array Bool} {r : Nat} {is rem : List Nat} (hi : r < ops.size) (hsz : listed.size = ops.size) (hn : is.contains r = false) (hnd : rem.Nodup)
    (hl : ∀ j, j < ops.size → listed.getD j false = (!is.contains j && !rem.contains j)) : ∀ j, j < ops.size → (listed.setIfInBounds r true).getD j false = (!is.contains j && !(rem.erase r).contains j) := by
  intro j hj
  by_cases e : r = j
  · subst e
    rw [hn]
    have : (rem.erase r).contains r = false := by
      simp [hnd.mem_erase_iff]
    rw [this]
    simp [Array.getD, hsz, hj]
  · rw [getD_set_ne false e, hl j hj]
    have : (rem.erase r).contains j = rem.contains j := by
      rw [Bool.eq_iff_iff]
      simp only [List.contains_iff_mem, hnd.mem_erase_iff]
      exact ⟨fun h => h.2, fun h => ⟨fun x => e x.symm, h⟩⟩
    rw [this]

theorem inj_of_nodup {α : Type} {f : α → Nat} : ∀ {T : List α}, (T.map f).Nodup → ∀ t ∈ T, ∀ u ∈ T, f u = f t → u = t
  | [], _, t, h, _, _, _ => by cases h
  | x :: T, h, t, ht, u, hu, e => by
    simp only [List.map_cons, List.nodup_cons, List.mem_map] at h
    rcases List.mem_cons.1 ht with rfl | ht' <;> rcases List.mem_cons.1 hu with rfl | hu'
    · rfl
    · exact (h.1 ⟨u, hu', e⟩).elim
    · exact (h.1 ⟨t, ht', e.symm⟩).elim
    · exact inj_of_nodup h.2 t ht' u hu' e
/-- one allocation comes up -/
theorem At.alloc {rem : List Nat} {a : Act} {w : World} {t : Nat × Nat × List Value} {ty : TypeId} (h : At T wd W l rem a w) (ht : t ∈ T) (h1 : (T.map (·.1)).Nodup) (h2 : (T.map (·.2.1)).Nodup) (hsz : t.2.1 < a.tmps.size) (hnd : rem.Nodup) :
    At T wd W l (rem.erase t.1) (a.put (some t.2.1) (.pointer (some ⟨w.heap.size, 0, none⟩))) (w.alloc (.cells t.2.2.toArray ty)) := by
  obtain ⟨gs, g1, g2⟩ := h.box
  refine ⟨h.s.alloc h.s.size _, (t.1, w.heap.size, t.2.2) :: gs, (g1.box_new t.2.2 ty).many_cons, fun u hu hr => ?_⟩
  by_cases e : u = t
  · subst e
    exact ⟨w.heap.size, by simp, by simp [Act.put, hsz]⟩
  · have hs : u.2.1 ≠ t.2.1 := fun x => e (inj_of_nodup h2 t ht u hu x)
    have hi : u.1 ≠ t.1 := fun x => e (inj_of_nodup h1 t ht u hu x)
    obtain ⟨g, m1, m2⟩ := g2 u hu (fun hm => hr ((hnd.mem_erase_iff).2 ⟨hi, hm⟩))
    exact ⟨g, List.mem_cons_of_mem _ m1, by simp [Act.put, Array.getElem?_setIfInBounds_ne (fun x => hs x.symm), m2]⟩
/-- a slot that is none of the allocations' -/
theorem At.put {rem : List Nat} {a : Act} {w : World} {d : Nat} {v : Value} (h : At T wd W l rem a w) (hd : ∀ t ∈ T, t.2.1 ≠ d) : At T wd W l rem (a.put (some d) v) w := by
  obtain ⟨gs, g1, g2⟩ := h.box
  refine ⟨h.s, gs, g1, fun u hu hr => ?_⟩
  obtain ⟨g, m1, m2⟩ := g2 u hu hr
  exact ⟨g, m1, by simp [Act.put, Array.getElem?_setIfInBounds_ne (fun x => hd u hu x.symm), m2]⟩
/-- new parts -/
theorem At.made {rem : List Nat} {a : Act} {w w' : World} {l1 : List Res} (h : At T wd W l rem a w) (hm : Sep w l1 w') : At T wd W (l1 ++ l) rem a w' := by
  obtain ⟨gs, g1, g2⟩ := h.box
  exact ⟨h.s.trans (hm.old.mono h.s.size), gs, (g1.add hm).behind, g2⟩

structure Lay (P : Program) (ops : Array Oper) (T : Alcs) (n : Nat) : Prop where
  ok : AlcOk P ops T
  d1 : (T.map (·.1)).Nodup
  d2 : (T.map (·.2.1)).Nodup
  lt : ∀ t ∈ T, t.2.1 < n
structure Rem (T : Alcs) (rem : List Nat) : Prop where
  nd : rem.Nodup
  sub : ∀ r ∈ rem, ∃ t ∈ T, t.1 = r

theorem Fr.putO {a : Act} {d : Nat} (h : Fr n L a) (hl : lk L d = none) (v : Value) : Fr n L (a.put (some d) v) := by
  refine ⟨by simp [Act.put, h.size], h.defs, fun t u ht => ?_⟩
  by_cases e : d = t
  · subst e; rw [hl] at ht; cases ht
  · simp [Act.put, Array.getElem?_setIfInBounds_ne e, h.get t u ht]
theorem wpOp_alloc {t : Nat × Nat × List Value} {a : Act} {w : World} {K : Act → World → Prop} {Q : Exit → Act → World → Prop} {ty ty' : TypeId} {ps : String} (ho : ops[t.1]? = some ⟨some t.2.1, .alloc ty, ty', ps, #[], none⟩) (hz : zeroOf P ty = some t.2.2)
    (k : K (a.put (some t.2.1) (.pointer (some ⟨w.heap.size, 0, none⟩))) (w.alloc (.cells t.2.2.toArray ty))) : wpOp P ops Q t.1 K a w := by
  unfold wpOp
  rw [ho]
  simp only [Region.wanted, if_true]
  left
  unfold Oper.wp
  rw [r_alloc hz]
  exact k

/-- the next in order, but for allocations, which may come up ahead of it -/
theorem todo_step {i : Nat} {is : List Nat} (hl : Lay P ops T n) (hL : ∀ t ∈ T, lk L t.2.1 = none) (hk : stepB ops T i is = true)
    (hop : ∀ rem a w, Rem T rem → Fr n L a → At T wd W l rem a w → wpOp P ops (QN Q) i (fun a' w' => Below wd.heap.size wd w' ∧ Todo P ops Q wd muts rem is a' w') a w) :
    ∀ rem a w, Rem T rem → Fr n L a → At T wd W l rem a w → Todo P ops Q wd muts rem (i :: is) a w := by
  simp only [stepB, Bool.and_eq_true, decide_eq_true_eq, Bool.not_eq_true', List.all_eq_true, bne_iff_ne] at hk
  obtain ⟨⟨⟨⟨k1, k2⟩, k3⟩, k4⟩, k5⟩ := hk
  have hwait : ∀ (rem : List Nat) (listed : Array Bool) (j : Nat), listed.size = ops.size → (∀ j, j < ops.size → listed.getD j false = (!(i :: is).contains j && !rem.contains j)) → j ∈ is → j ∉ Region.ready .any ops listed := by
    intro rem listed j hsz hls hm
    refine waitsB_no (k4 j hm) (fun k hk => ?_)
    rcases Nat.lt_or_ge k ops.size with hlt | hge
    · rw [hls k hlt]
      have : (i :: is).contains k = true := by simpa [List.contains_cons] using hk
      rw [this]; rfl
    · simp [Array.getD, hsz, Nat.not_lt.2 hge]
  have hi_rem : ∀ rem : List Nat, Rem T rem → rem.contains i = false := by
    intro rem hR
    rw [Bool.eq_false_iff]
    intro h
    obtain ⟨t, ht, e⟩ := hR.sub i (by simpa using h)
    exact (k3 t ht).1 e
  have key : ∀ m rem a w, rem.length = m → Rem T rem → Fr n L a → At T wd W l rem a w → Todo P ops Q wd muts rem (i :: is) a w := by
    intro m
    induction m with
    | zero =>
      intro rem a w hm hR hF hA listed hsz hls
      obtain rfl := List.eq_nil_of_length_eq_zero hm
      have hmem : ∀ j ∈ Region.ready .any ops listed, j = i := fun j hj => by
        have h0 := (mem_ready.1 hj).1
        obtain ⟨o, ho, _⟩ := (mem_ready.1 hj).2
        have hlt := (Array.getElem?_eq_some_iff.1 ho).1
        rw [getD_tf (by omega), hls j hlt] at h0
        by_cases e : j = i
        · exact e
        · have hm : j ∈ is := by
            simp [List.contains_cons, e] at h0; exact h0
          exact (hwait [] listed j hsz hls hm hj).elim
      have hrdy : i ∈ Region.ready .any ops listed := by
        refine depsB_yes k5 ?_ (fun k hk => ?_)
        · rw [getD_tf (by omega), hls i k1]; simp
        · simp only [Bool.and_eq_true, decide_eq_true_eq, bne_iff_ne, Bool.not_eq_true'] at hk
          rw [hls k hk.1.1]
          have : (i :: is).contains k = false := by rw [List.contains_cons, hk.2]; simp [hk.1.2]
          rw [this]; rfl
      refine ⟨fun h => (by rw [h] at hrdy; cases hrdy), fun j hj => ?_⟩
      obtain rfl := hmem j hj
      refine wpOp_mono (fun a' w' h => ⟨fun _ => h.1, ?_⟩) (hop [] a w hR hF hA)
      have := h.2 (listed.setIfInBounds j true) (by simp [hsz]) (listed_set k1 hsz k2 (by simp) hls)
      exact this
    | succ m ih =>
      intro rem a w hm hR hF hA listed hsz hls
      have halc : ∀ t ∈ T, t.1 ∈ rem → t.1 ∈ Region.ready .any ops listed := fun t ht hr => by
        obtain ⟨ty, ty', ps, ho, hz⟩ := hl.ok.get t ht
        have hlt := (Array.getElem?_eq_some_iff.1 ho).1
        refine mem_ready.2 ⟨?_, _, ho, fun e he => by simp at he⟩
        rw [getD_tf (by omega), hls _ hlt]
        have : rem.contains t.1 = true := by simpa using hr
        rw [this]; simp
      have hfu : (i :: is).length + rem.length = (is.length + rem.length) + 1 := by simp; omega
      rw [hfu]
      refine ⟨fun h => ?_, fun j hj => ?_⟩
      · match rem, hm, hR, halc with
        | r :: rem, hm, hR, halc =>
          obtain ⟨t, ht, e⟩ := hR.sub r (by simp)
          have := halc t ht (by rw [e]; simp)
          rw [h] at this; cases this
      · have h0 := (mem_ready.1 hj).1
        obtain ⟨o, ho, _⟩ := (mem_ready.1 hj).2
        have hlt := (Array.getElem?_eq_some_iff.1 ho).1
        rw [getD_tf (by omega), hls j hlt] at h0
        by_cases e : j = i
        · subst e
          refine wpOp_mono (fun a' w' h => ⟨fun _ => h.1, ?_⟩) (hop rem a w hR hF hA)
          exact h.2 (listed.setIfInBounds j true) (by simp [hsz]) (listed_set k1 hsz k2 (hi_rem rem hR) hls)
        · by_cases hm' : j ∈ is
          · exact (hwait rem listed j hsz hls hm' hj).elim
          · have hr : j ∈ rem := by
              simp [List.contains_cons, e, hm'] at h0; exact h0
            obtain ⟨t, ht, rfl⟩ := hR.sub j hr
            obtain ⟨ty, ty', ps, ho', hz⟩ := hl.ok.get t ht
            refine wpOp_alloc ho' hz ⟨fun _ => hA.s.alloc hA.s.size _, ?_⟩
            have hR' : Rem T (rem.erase t.1) := ⟨hR.nd.erase _, fun r hr => hR.sub r (List.mem_of_mem_erase hr)⟩
            have hlen : (rem.erase t.1).length = m := by rw [List.length_erase_of_mem hr, hm]; rfl
            have hA' := hA.alloc (ty := ty) ht hl.d1 hl.d2 (by rw [hF.size]; exact hl.lt t ht) hR.nd
            have hF' := hF.putO (hL t ht) (.pointer (some ⟨w.heap.size, 0, none⟩))
            have := ih (rem.erase t.1) _ _ hlen hR' hF' hA' (listed.setIfInBounds t.1 true) (by simp [hsz]) (listed_erase hlt hsz (by simp [List.contains_cons, e, hm']) hR.nd hls)
            have hfu' : (i :: is).length + (rem.erase t.1).length = is.length + rem.length := by rw [hlen, hm]; simp; omega
            rw [hfu'] at this
            exact this
  exact fun rem a w hR hF hA => key _ rem a w rfl hR hF hA

/-- one that yields the same in every world that may be met is taken first -/
theorem todo_first {i : Nat} {is : List Nat} {o : Oper} {d : Nat} {v : Value} (hl : Lay P ops T n) (hk : quietB ops T muts i is = true) (ho : ops[i]? = some o) (hd : o.dst = some d) (hdn : Nat.ble (d + 1) n = true) (hT : ∀ t ∈ T, t.2.1 ≠ d)
    (hy : ∀ a, Fr n L a → YieldsIf P ops (fun w => Below wd.heap.size wd w) o v a)
    (k : ∀ rem a w, Rem T rem → Fr n ((d, v) :: L) a → At T wd W l rem a w → Todo P ops Q wd muts rem is a w) :
    ∀ rem a w, Rem T rem → Fr n L a → At T wd W l rem a w → Todo P ops Q wd muts rem (i :: is) a w := by
  intro rem a w hR hF hA listed hsz hls
  simp only [quietB, ho, Bool.and_eq_true, decide_eq_true_eq, Bool.not_eq_true', List.all_eq_true, bne_iff_ne] at hk
  obtain ⟨⟨⟨⟨⟨⟨⟨k1, k2⟩, k3⟩, k4⟩, k5⟩, k6⟩, k7⟩, k8⟩ := hk
  have hir : rem.contains i = false := by
    rw [Bool.eq_false_iff]
    intro h
    obtain ⟨t, ht, e⟩ := hR.sub i (by simpa using h)
    exact (k3 t ht).1 e
  have hmo : ∀ m ∈ muts, ∀ om, ops[m]? = some om → ∃ e ∈ om.after, Region.binds .any e = true ∧ (e.on = i ∨ e.on ∈ muts) := fun m hm om hom => by
    have := (k7 m hm).1
    unfold waitsB at this
    rw [hom] at this
    obtain ⟨e, he, h2⟩ := Array.any_eq_true'.1 this
    simp only [Bool.and_eq_true, Bool.or_eq_true, beq_iff_eq] at h2
    exact ⟨e, he, h2.1, h2.2.imp id List.contains_iff_mem.1⟩
  have hfu : (i :: is).length + rem.length = (is.length + rem.length) + 1 := by simp; omega
  rw [hfu]
  have hi0 : listed.getD i true = false := by rw [getD_tf (by omega), hls i k1]; simp
  have hrdy : i ∈ Region.ready .any ops listed := by
    refine depsB_yes k5 hi0 (fun k hk => ?_)
    simp only [Bool.and_eq_true, decide_eq_true_eq, bne_iff_ne, Bool.not_eq_true', List.all_eq_true] at hk
    obtain ⟨⟨⟨q1, q2⟩, q3⟩, q4⟩ := hk
    rw [hls k q1]
    have h1 : (i :: is).contains k = false := by rw [List.contains_cons, q3]; simp [q2]
    have h2 : rem.contains k = false := by
      rw [Bool.eq_false_iff]
      intro h
      obtain ⟨t, ht, e⟩ := hR.sub k (by simpa using h)
      exact q4 t ht e
    rw [h1, h2]; rfl
  refine wpM_first ho (by simpa using k6) (Region.noSelect_spec k4) (fun c a w h => by cases h.1) hmo _ listed a w ?_ hrdy (hy a hF) hA.s ?_ ?_
  · intro j oj hj hne hun hno
    have hlt := (Array.getElem?_eq_some_iff.1 hj).1
    rw [getD_tf (by omega), hls j hlt] at hun
    have hmem : j ∈ is ++ T.map (·.1) := by
      rw [List.mem_append]
      by_cases hm : j ∈ is
      · exact .inl hm
      · right
        have : j ∈ rem := by
          simp [List.contains_cons, hne, hm] at hun; exact hun
        obtain ⟨t, ht, e⟩ := hR.sub j this
        exact List.mem_map.2 ⟨t, ht, e⟩
    have := k8 j hmem
    simp only [hj, Bool.or_eq_true] at this
    rcases this with h | h
    · unfold waitsB at h
      rw [hj] at h
      obtain ⟨e, he, h2⟩ := Array.any_eq_true'.1 h
      simp only [Bool.and_eq_true, beq_iff_eq] at h2
      exact (hno e he h2.1 h2.2).elim
    · exact h
  · unfold phB
    rw [List.all_eq_true]
    intro m hm
    have hm' := (k7 m hm).2
    rcases Nat.lt_or_ge m ops.size with hlt | hge
    · rw [hls m hlt]
      have : (i :: is).contains m = true := by rw [List.contains_cons, hm']; simp
      rw [this]; rfl
    · simp [Array.getD, hsz, Nat.not_lt.2 hge]
  · have := k rem (a.put (some d) v) w hR (hF.put hdn v) (hA.put hT) (listed.setIfInBounds i true) (by simp [hsz]) (listed_set k1 hsz k2 hir hls)
    rw [hd]
    exact this

theorem todo_quiet {i : Nat} {is : List Nat} {o : Oper} {d : Nat} {v : Value} (hl : Lay P ops T n) (hk : quietB ops T muts i is = true) (ho : ops[i]? = some o) (hg : o.guard = none) (hd : o.dst = some d) (hdn : Nat.ble (d + 1) n = true) (hT : T.all (fun t => t.2.1 != d) = true)
    (hy : ∀ a w', Fr n L a → Below wd.heap.size wd w' → (execOp a.eval o).run P w' = .ok (.value v) w')
    (k : ∀ rem a w, Rem T rem → Fr n ((d, v) :: L) a → At T wd W l rem a w → Todo P ops Q wd muts rem is a w) :
    ∀ rem a w, Rem T rem → Fr n L a → At T wd W l rem a w → Todo P ops Q wd muts rem (i :: is) a w :=
  todo_first hl hk ho hd hdn (fun t ht => by simpa using List.all_eq_true.1 hT t ht) (fun a hF => .inl ⟨by simp [Region.wanted, hg], fun w hw => hy a w hF hw⟩) k
theorem todo_skip {i j t : Nat} {b c : Bool} {is : List Nat} {o : Oper} {d : Nat} (hl : Lay P ops T n) (hk : quietB ops T muts i is = true) (ho : ops[i]? = some o) (hg : o.guard = some (j, b)) (hj : (ops[j]?).bind (·.dst) = some t) (ht : lk L t = some (.bool c)) (hne : (c == b) = false) (hd : o.dst = some d) (hdn : Nat.ble (d + 1) n = true) (hT : T.all (fun t => t.2.1 != d) = true)
    (k : ∀ rem a w, Rem T rem → Fr n ((d, undef) :: L) a → At T wd W l rem a w → Todo P ops Q wd muts rem is a w) :
    ∀ rem a w, Rem T rem → Fr n L a → At T wd W l rem a w → Todo P ops Q wd muts rem (i :: is) a w :=
  todo_first hl hk ho hd hdn (fun t ht => by simpa using List.all_eq_true.1 hT t ht) (fun a hF => .inr ⟨by
    simp only [Region.wanted, hg, yielded_of hF hj ht]
    cases c <;> cases b <;> simp_all, rfl⟩) k
theorem wpOp_of {i : Nat} {o : Oper} {K : Act → World → Prop} {Q : Exit → Act → World → Prop} {a : Act} {w : World} (ho : ops[i]? = some o) (hg : o.guard = none) (h : o.wp P a w K Q) : wpOp P ops Q i K a w := by
  unfold wpOp
  rw [ho]
  simp only [Region.wanted, hg, if_true]
  exact .inl h
theorem todo_mk {Γ : Type} {i : Nat} {is : List Nat} {o : Oper} {d : Nat} {f : FuncId} {args : Array Value} {val : Γ → Value} {l1 : Γ → List Res} (hl : Lay P ops T n) (hL : T.all (fun t => (lk L t.2.1).isNone) = true) (hk : stepB ops T i is = true) (ho : ops[i]? = some o) (hg : o.guard = none) (hd : o.dst = some d) (hdn : Nat.ble (d + 1) n = true) (hT : T.all (fun t => t.2.1 != d) = true)
    (hr : ∀ a w, Fr n L a → (execOp a.eval o).run P w = .ok (.enter f args) w) (hc : ∀ w, Sep W l w → Calls P f args w (Ret (Mk w val l1)))
    (k : ∀ γ rem a w, Rem T rem → Fr n ((d, val γ) :: L) a → At T wd W (l1 γ ++ l) rem a w → Todo P ops Q wd muts rem is a w) :
    ∀ rem a w, Rem T rem → Fr n L a → At T wd W l rem a w → Todo P ops Q wd muts rem (i :: is) a w := by
  refine todo_step hl (fun t ht => by simpa using List.all_eq_true.1 hL t ht) hk (fun rem a w hR hF hA => wpOp_of ho hg ?_)
  unfold Oper.wp
  rw [hr a w hF, Oper.upon_enter]
  refine (hc w hA.sep).mono ?_
  rintro e w1 ⟨v, rfl, γ, rfl, hS⟩
  show _ ∧ _
  rw [hd]
  exact ⟨hA.s.trans (hS.old.mono hA.s.size), k γ rem _ _ hR (hF.put hdn _) ((hA.made hS).put (fun t ht => by simpa using List.all_eq_true.1 hT t ht))⟩
theorem todo_rd {i : Nat} {is : List Nat} {o : Oper} {d : Nat} {f : FuncId} {args : Array Value} {v : Value} (hl : Lay P ops T n) (hL : T.all (fun t => (lk L t.2.1).isNone) = true) (hk : stepB ops T i is = true) (ho : ops[i]? = some o) (hg : o.guard = none) (hd : o.dst = some d) (hdn : Nat.ble (d + 1) n = true) (hT : T.all (fun t => t.2.1 != d) = true)
    (hr : ∀ a w, Fr n L a → (execOp a.eval o).run P w = .ok (.enter f args) w) (hc : ∀ w, Sep W l w → Calls P f args w (Ret fun u w' => u = v ∧ Below w.heap.size w w'))
    (k : ∀ rem a w, Rem T rem → Fr n ((d, v) :: L) a → At T wd W l rem a w → Todo P ops Q wd muts rem is a w) :
    ∀ rem a w, Rem T rem → Fr n L a → At T wd W l rem a w → Todo P ops Q wd muts rem (i :: is) a w :=
  todo_mk (Γ := Unit) (val := fun _ => v) (l1 := fun _ => []) hl hL hk ho hg hd hdn hT hr (fun w hS => (hc w hS).mono (by rintro e w1 ⟨u, rfl, rfl, hb⟩; exact ⟨_, rfl, (), rfl, hb, Sat.nil _ _⟩)) (fun _ => k)
/-- an operation that makes new memory by itself -/
theorem todo_op {Γ : Type} {i : Nat} {is : List Nat} {o : Oper} {d : Nat} {val : Γ → Value} {l1 : Γ → List Res} (hl : Lay P ops T n) (hL : T.all (fun t => (lk L t.2.1).isNone) = true) (hk : stepB ops T i is = true) (ho : ops[i]? = some o) (hg : o.guard = none) (hd : o.dst = some d) (hdn : Nat.ble (d + 1) n = true) (hT : T.all (fun t => t.2.1 != d) = true)
    (hr : ∀ a w, Fr n L a → Sep W l w → ∃ γ w', (execOp a.eval o).run P w = .ok (.value (val γ)) w' ∧ Sep w (l1 γ) w')
    (k : ∀ γ rem a w, Rem T rem → Fr n ((d, val γ) :: L) a → At T wd W (l1 γ ++ l) rem a w → Todo P ops Q wd muts rem is a w) :
    ∀ rem a w, Rem T rem → Fr n L a → At T wd W l rem a w → Todo P ops Q wd muts rem (i :: is) a w := by
  refine todo_step hl (fun t ht => by simpa using List.all_eq_true.1 hL t ht) hk (fun rem a w hR hF hA => wpOp_of ho hg ?_)
  obtain ⟨γ, w1, hrun, hS⟩ := hr a w hF hA.sep
  unfold Oper.wp
  rw [hrun, Oper.upon_value, hd]
  exact ⟨hA.s.trans (hS.old.mono hA.s.size), k γ rem _ _ hR (hF.put hdn _) ((hA.made hS).put (fun t ht => by simpa using List.all_eq_true.1 hT t ht))⟩

/-- the end, one behind the other -/
theorem wpM_seq : ∀ (ts : List Nat) (tl : List Oper) (listed : Array Bool) (a : Act) (w : World), tailB ops ts = true → (∀ m ∈ ts, m ∈ muts) → ts.map (fun i => ops[i]?) = tl.map some → listed.size = ops.size →
    (∀ j, j < ops.size → listed.getD j false = !ts.contains j) → wpList P ops (QN Q) tl a w → wpM P ops (QN Q) (fun w => Below wd.heap.size wd w) muts ts.length listed a w
  | [], tl, listed, a, w, _, _, hts, hsz, hls, h => by
    obtain rfl : tl = [] := by cases tl <;> simp_all
    refine ⟨?_, h⟩
    apply List.eq_nil_iff_forall_not_mem.2
    intro j hj
    obtain ⟨o, ho, _⟩ := (mem_ready.1 hj).2
    have hlt := (Array.getElem?_eq_some_iff.1 ho).1
    have h0 := (mem_ready.1 hj).1
    rw [getD_tf (by omega), hls j hlt] at h0
    simp at h0
  | i :: is, tl, listed, a, w, hB, hmu, hts, hsz, hls, h => by
    simp only [tailB, Bool.and_eq_true, decide_eq_true_eq, Bool.not_eq_true', List.all_eq_true] at hB
    obtain ⟨⟨⟨⟨k1, k2⟩, k4⟩, k5⟩, k6⟩ := hB
    match tl, hts with
    | [], hts => simp at hts
    | o :: tl, hts =>
      simp only [List.map_cons, List.cons.injEq] at hts
      have hrdy : i ∈ Region.ready .any ops listed := by
        refine depsB_yes k5 ?_ (fun k hk => ?_)
        · rw [getD_tf (by omega), hls i k1]; simp
        · simp only [Bool.and_eq_true, decide_eq_true_eq, bne_iff_ne, Bool.not_eq_true'] at hk
          rw [hls k hk.1.1]
          have : (i :: is).contains k = false := by rw [List.contains_cons, hk.2]; simp [hk.1.2]
          rw [this]; rfl
      refine ⟨fun h => (by rw [h] at hrdy; cases hrdy), fun j hj => ?_⟩
      have h0 := (mem_ready.1 hj).1
      obtain ⟨oj, hoj, _⟩ := (mem_ready.1 hj).2
      have hlt := (Array.getElem?_eq_some_iff.1 hoj).1
      rw [getD_tf (by omega), hls j hlt] at h0
      by_cases e : j = i
      · subst e
        have hl' : ∀ k, k < ops.size → (listed.setIfInBounds j true).getD k false = !is.contains k := fun k hk => by
          have := listed_set (rem := []) k1 hsz k2 (by simp) (fun k hk => by rw [hls k hk]; simp) k hk
          rw [this]; simp
        have hph : ¬ phB muts (listed.setIfInBounds j true) = true := by
          intro hp
          have := List.all_eq_true.1 hp j (hmu j (by simp))
          simp [Array.getD, hsz, k1] at this
        unfold wpOp
        rw [hts.1]
        simp only []
        unfold wpList at h
        split
        · rename_i hw
          rw [if_pos hw] at h
          exact h.imp (Oper.wp_mono (fun a w h => ⟨fun x => (hph x).elim, wpM_seq is tl _ a w k6 (fun m hm => hmu m (by simp [hm])) hts.2 (by simp [hsz]) hl' h⟩)) id
        · rename_i hw
          rw [if_neg hw] at h
          exact ⟨fun x => (hph x).elim, wpM_seq is tl _ _ w k6 (fun m hm => hmu m (by simp [hm])) hts.2 (by simp [hsz]) hl' h⟩
      · have hm : j ∈ is := by
          simp [List.contains_cons, e] at h0; exact h0
        refine (waitsB_no (k4 j hm) (fun k hk => ?_) hj).elim
        rcases Nat.lt_or_ge k ops.size with hlt | hge
        · rw [hls k hlt]
          have : (i :: is).contains k = true := by simpa [List.contains_cons] using hk
          rw [this]; rfl
        · simp [Array.getD, hsz, Nat.not_lt.2 hge]
theorem todo_fin {ts : List Nat} {tl : List Oper} (hl : Lay P ops T n) (hL : T.all (fun t => (lk L t.2.1).isNone) = true) (hk : finB ops T ts = true) (hts : ts.map (fun i => ops[i]?) = tl.map some)
    (k : ∀ a w, Fr n L a → At T wd W l [] a w → wpList P ops (QN Q) tl a w) :
    ∀ rem a w, Rem T rem → Fr n L a → At T wd W l rem a w → Todo P ops Q wd ts rem ts a w := by
  have hL' : ∀ t ∈ T, lk L t.2.1 = none := fun t ht => by simpa using List.all_eq_true.1 hL t ht
  simp only [finB, Bool.and_eq_true, List.all_eq_true, Bool.not_eq_true'] at hk
  obtain ⟨⟨k1, k2⟩, k3⟩ := hk
  have key : ∀ m rem a w, rem.length = m → Rem T rem → Fr n L a → At T wd W l rem a w → Todo P ops Q wd ts rem ts a w := by
    intro m
    induction m with
    | zero =>
      intro rem a w hm hR hF hA listed hsz hls
      obtain rfl := List.eq_nil_of_length_eq_zero hm
      exact wpM_seq ts tl listed a w k3 (fun m hm => hm) hts hsz (fun j hj => by rw [hls j hj]; simp) (k a w hF hA)
    | succ m ih =>
      intro rem a w hm hR hF hA listed hsz hls
      have halc : ∀ t ∈ T, t.1 ∈ rem → t.1 ∈ Region.ready .any ops listed := fun t ht hr => by
        obtain ⟨ty, ty', ps, ho, hz⟩ := hl.ok.get t ht
        have hlt := (Array.getElem?_eq_some_iff.1 ho).1
        refine mem_ready.2 ⟨?_, _, ho, fun e he => by simp at he⟩
        rw [getD_tf (by omega), hls _ hlt]
        have : rem.contains t.1 = true := by simpa using hr
        rw [this]; simp
      obtain ⟨r0, hr0⟩ : ∃ r, r ∈ rem := by
        cases rem with
        | nil => simp at hm
        | cons r rem => exact ⟨r, by simp⟩
      obtain ⟨t0, ht0, e0⟩ := hR.sub r0 hr0
      subst e0
      have hfu : ts.length + rem.length = (ts.length + m) + 1 := by omega
      rw [hfu]
      refine ⟨fun h => (by have := halc t0 ht0 hr0; rw [h] at this; cases this), fun j hj => ?_⟩
      have h0 := (mem_ready.1 hj).1
      obtain ⟨o, ho, _⟩ := (mem_ready.1 hj).2
      have hlt := (Array.getElem?_eq_some_iff.1 ho).1
      rw [getD_tf (by omega), hls j hlt] at h0
      by_cases hm' : j ∈ ts
      · refine (waitsB_no (k1 j hm' t0 ht0) (fun k hk => ?_) hj).elim
        obtain rfl : k = t0.1 := by simpa using hk
        obtain ⟨ty, ty', ps, ho', hz⟩ := hl.ok.get t0 ht0
        rw [hls _ (Array.getElem?_eq_some_iff.1 ho').1]
        have : rem.contains t0.1 = true := by simpa using hr0
        rw [this]; simp
      · have hr : j ∈ rem := by
          simp [hm'] at h0; exact h0
        obtain ⟨t, ht, rfl⟩ := hR.sub j hr
        obtain ⟨ty, ty', ps, ho', hz⟩ := hl.ok.get t ht
        refine wpOp_alloc ho' hz ⟨fun _ => hA.s.alloc hA.s.size _, ?_⟩
        have hR' : Rem T (rem.erase t.1) := ⟨hR.nd.erase _, fun r hr => hR.sub r (List.mem_of_mem_erase hr)⟩
        have hlen : (rem.erase t.1).length = m := by rw [List.length_erase_of_mem hr, hm]; rfl
        have hA' := hA.alloc (ty := ty) ht hl.d1 hl.d2 (by rw [hF.size]; exact hl.lt t ht) hR.nd
        have hF' := hF.putO (hL' t ht) (.pointer (some ⟨w.heap.size, 0, none⟩))
        have := ih (rem.erase t.1) _ _ hlen hR' hF' hA' (listed.setIfInBounds t.1 true) (by simp [hsz]) (listed_erase hlt hsz (k2 t ht) hR.nd hls)
        rw [hlen] at this
        exact this
  exact fun rem a w hR hF hA => key _ rem a w rfl hR hF hA

/-- the beginning -/
theorem wp_region_todo {id : Nat} {lo : List Oper} {is : List Nat} {a : Act} {w : World} (T : Alcs) (muts : List Nat) (hm : P.follows .mixedOrders = true) (hF : Fr n L a) (hS : Sep W l w) (hl : Lay P lo.toArray T n)
    (hc : ((List.range lo.length).all (fun j => is.contains j || (T.map (·.1)).contains j) && is.length + T.length == lo.length) = true)
    (k : Lay P lo.toArray T n → ∀ wd, Sep W l wd → ∀ rem a w, Rem T rem → Fr n L a → At T wd W l rem a w → Todo P lo.toArray Q wd muts rem is a w) : (Code.region id lo.toArray true).wp P Q a w := by
  have hw : (Code.region id lo.toArray true).wp P (QN Q) a w := by
    refine wp_region_any hm (wpAny_of_M (S := fun w' => Below { w with drawn := w.drawn + 1 }.heap.size { w with drawn := w.drawn + 1 } w') (muts := muts) _ _ _ _ ?_)
    simp only [Bool.and_eq_true, List.all_eq_true, List.mem_range, Bool.or_eq_true, beq_iff_eq] at hc
    have := k hl { w with drawn := w.drawn + 1 } hS.drawn (T.map (·.1)) a { w with drawn := w.drawn + 1 } ⟨hl.d1, fun r hr => by
        obtain ⟨t, ht, e⟩ := List.mem_map.1 hr
        exact ⟨t, ht, e⟩⟩ hF ⟨Below.refl _ _, [], hS.drawn.many_nil, fun t ht hr => (hr (List.mem_map.2 ⟨t, ht, rfl⟩)).elim⟩ (Array.replicate lo.toArray.size false) (by simp) (fun j hj => by
          have := hc.1 j (by simpa using hj)
          simp only [List.size_toArray] at hj
          rcases this with h | h
          · rw [h]; simp [Array.getD, hj]
          · rw [h]; simp [Array.getD, hj])
    rw [List.length_map, hc.2] at this
    simpa using this
  exact wp_mono hw (fun e a w ⟨h1, h2⟩ => by subst h1; exact h2)

theorem At.open0 {rem : List Nat} {a : Act} {w : World} (h : At [] wd W l rem a w) : Sep W l w := h.sep
theorem At.open1 {i1 d1 : Nat} {z1 : List Value} {a : Act} {w : World} (h : At [(i1, d1, z1)] wd W l [] a w) : ∃ g1, Sep W (Box g1 z1 :: l) w ∧ a.tmps[d1]? = some (.pointer (some ⟨g1, 0, none⟩)) := by
  obtain ⟨gs, h1, h2⟩ := h.box
  obtain ⟨g1, m1, e1⟩ := h2 (i1, d1, z1) (by simp) (by simp)
  obtain ⟨p1, hp1⟩ := List.mem_iff_getElem?.1 m1
  exact ⟨g1, h1.many_one (p := p1) (by rw [List.getElem?_map, hp1]; rfl), e1⟩
theorem At.open2 {i1 d1 i2 d2 : Nat} {z1 z2 : List Value} {a : Act} {w : World} (h : At [(i1, d1, z1), (i2, d2, z2)] wd W l [] a w) (hne : i1 ≠ i2) : ∃ g1 g2, Sep W (Box g1 z1 :: Box g2 z2 :: l) w ∧ a.tmps[d1]? = some (.pointer (some ⟨g1, 0, none⟩)) ∧ a.tmps[d2]? = some (.pointer (some ⟨g2, 0, none⟩)) := by
  obtain ⟨gs, h1, h2⟩ := h.box
  obtain ⟨g1, m1, e1⟩ := h2 (i1, d1, z1) (by simp) (by simp)
  obtain ⟨g2, m2, e2⟩ := h2 (i2, d2, z2) (by simp) (by simp)
  obtain ⟨p1, hp1⟩ := List.mem_iff_getElem?.1 m1
  obtain ⟨p2, hp2⟩ := List.mem_iff_getElem?.1 m2
  refine ⟨g1, g2, h1.many_two (p := p1) (p' := p2) (by rw [List.getElem?_map, hp1]; rfl) (by rw [List.getElem?_map, hp2]; rfl) ?_, e1, e2⟩
  intro e
  subst e
  rw [hp1] at hp2
  simp at hp2
  exact hne hp2.1
/-- a slot more, known from the machine's own frame -/
theorem Fr.more {a : Act} {d : Nat} {v : Value} (h : Fr n L a) (hv : a.tmps[d]? = some v) : Fr n ((d, v) :: L) a := by
  refine ⟨h.size, h.defs, fun t u ht => ?_⟩
  simp only [lk] at ht
  cases hb : Nat.beq d t with
  | true =>
    have := Nat.eq_of_beq_eq_true hb
    subst this
    simp [hb] at ht
    subst ht
    exact hv
  | false => simp [hb] at ht; exact h.get t u ht
end
end Go.Proofs.YtifhfodphoeeoaaGreat.Sl
