/- Lemmas for the row of RwSs2. -/
import Derived.Test.YtgofolgogfmhgaaGreatCsvA
import Derived.Test.YtgofolgogfmhgaaGreatChecked
import Derived.Test.YtgofolgogfmhgaaGreatProg
set_option maxHeartbeats 4000000
set_option maxRecDepth 20000
namespace Go.Proofs.YtgofolgogfmhgaaGreat.Sl
open Go Go.RowKit
set_option linter.unusedVariables false
set_option linter.unusedSimpArgs false
def _root_.Go.Proofs.YtgofolgogfmhgaaGreat.Sl.State.encf (s : State) (v0 v1 v2 : Value) (f : Int) : List Value := [vi s.config.threads, vi s.config.keys, vi s.config.capacity, vi s.config.batch, vi s.config.policy, vi s.config.clockMax, v0, v1, v2, vi s.steps, vi s.changes, vi s.retries, vi f]
def _root_.Go.Proofs.YtgofolgogfmhgaaGreat.Sl.State.encg (s : State) (v0 v1 v2 : Value) (c f : Int) : List Value := [vi s.config.threads, vi s.config.keys, vi s.config.capacity, vi s.config.batch, vi s.config.policy, vi s.config.clockMax, v0, v1, v2, vi s.steps, vi c, vi s.retries, vi f]
abbrev JX {X : Type} (W : World) (lf : X → List Res → List Res) (r : List Res) (w : World) : Prop := ∃ x, Sep W (lf x r) w
def TJ (P : Program) (ops : Array Oper) (Q : Exit → Act → World → Prop) (J : World → Prop) (muts is : List Nat) (a : Act) (w : World) : Prop :=
  ∀ listed : Array Bool, listed.size = ops.size → (∀ j, j < ops.size → listed.getD j false = (!is.contains j && !([] : List Nat).contains j)) → wpM P ops (QN Q) J muts is.length listed a w
section
variable {P : Program} {ops : Array Oper} {Q : Exit → Act → World → Prop} {X : Type} {lf : X → List Res → List Res} {r l : List Res} {W : World} {muts : List Nat} {n : Nat} {L : List (Nat × Value)}
theorem tj_load (Xs : List Nat) {i : Nat} {is : List Nat} {o : Oper} {d : Nat} {v : Value} (hk : loadB ops [] muts Xs i is = true) (ho : ops[i]? = some o) (hg : GW ops n L o) (hd : o.dst = some d) (hdn : Nat.ble (d + 1) n = true)
    (hy : ∀ a w' x, Fr n L a → Sep W (lf x r) w' → (execOp a.eval o).run P w' = .ok (.value v) w')
    (k : ∀ a w, Fr n ((d, v) :: L) a → Sep W l w → JX W lf r w → TJ P ops Q (JX W lf r) muts is a w) :
    ∀ a w, Fr n L a → Sep W l w → JX W lf r w → TJ P ops Q (JX W lf r) muts (i :: is) a w := by
  intro a w hF hS hJ listed hsz hls
  simp only [loadB, pureB, ho, Bool.and_eq_true, decide_eq_true_eq, Bool.not_eq_true', List.all_eq_true, bne_iff_ne] at hk
  obtain ⟨⟨⟨⟨⟨⟨⟨⟨⟨k1, k2⟩, k3⟩, k4⟩, k5⟩, k6⟩, k8⟩, x1⟩, x2⟩, x3⟩ := hk
  have hi0 : listed.getD i true = false := by rw [getD_tf (by omega), hls i k1]; simp
  have hrdy : i ∈ Region.ready .any ops listed := by
    refine depsB_yes k5 hi0 (fun k hk => ?_)
    simp only [Bool.and_eq_true, decide_eq_true_eq, bne_iff_ne, Bool.not_eq_true', List.all_eq_true] at hk
    obtain ⟨⟨⟨q1, q2⟩, q3⟩, q4⟩ := hk
    rw [hls k q1]
    have h1 : (i :: is).contains k = false := by rw [List.contains_cons, q3]; simp [q2]
    rw [h1]; rfl
  refine wpM_firstX (X := Xs) ho (by simpa using x1) (fun m hm => List.contains_iff_mem.1 (x2 m hm)) (Region.noSelect_spec k4) (fun c a w h => by cases h.1) (fun m hm om hom => ?_) _ listed a w ?_ hrdy (.inl ⟨hg a hF, fun w ⟨x, hw⟩ => hy a w x hF hw⟩) hJ ?_ ?_
  · have := (x3 m hm).2
    unfold waitsB at this
    rw [hom] at this
    obtain ⟨e, he, h2⟩ := Array.any_eq_true'.1 this
    simp only [Bool.and_eq_true, Bool.or_eq_true, beq_iff_eq] at h2
    exact ⟨e, he, h2.1, h2.2.imp id List.contains_iff_mem.1⟩
  · intro j oj hj hne hun hno
    have hlt := (Array.getElem?_eq_some_iff.1 hj).1
    rw [getD_tf (by omega), hls j hlt] at hun
    have hmem : j ∈ is ++ ([] : Alcs).map (·.1) := by
      rw [List.mem_append]
      left
      simp [List.contains_cons, hne] at hun; exact hun
    have := k8 j hmem
    simp only [hj, Bool.or_eq_true] at this
    rcases this with h | h
    · unfold waitsB at h
      rw [hj] at h
      obtain ⟨e, he, h2⟩ := Array.any_eq_true'.1 h
      simp only [Bool.and_eq_true, beq_iff_eq] at h2
      exact (hno e he h2.1 h2.2).elim
    · exact h
  · unfold phB
    rw [List.all_eq_true]
    intro m hm
    have hm' := (x3 m hm).1
    rcases Nat.lt_or_ge m ops.size with hlt | hge
    · rw [hls m hlt]
      have : (i :: is).contains m = true := by rw [List.contains_cons, hm']; simp
      rw [this]; rfl
    · simp [Array.getD, hsz, Nat.not_lt.2 hge]
  · have := k (a.put (some d) v) w (hF.put hdn v) hS hJ (listed.setIfInBounds i true) (by simp [hsz]) (listed_set k1 hsz k2 (by simp) hls)
    rw [hd]
    exact this
theorem tj_pureY {i : Nat} {is : List Nat} {o : Oper} {d : Nat} {v : Value} (hk : pureB ops [] muts i is = true) (ho : ops[i]? = some o) (hd : o.dst = some d) (hdn : Nat.ble (d + 1) n = true)
    (hy : ∀ a, Fr n L a → YieldsIf P ops (fun _ => True) o v a)
    (k : ∀ a w, Fr n ((d, v) :: L) a → Sep W l w → JX W lf r w → TJ P ops Q (JX W lf r) muts is a w) :
    ∀ a w, Fr n L a → Sep W l w → JX W lf r w → TJ P ops Q (JX W lf r) muts (i :: is) a w := by
  intro a w hF hS hJ listed hsz hls
  simp only [pureB, ho, Bool.and_eq_true, decide_eq_true_eq, Bool.not_eq_true', List.all_eq_true, bne_iff_ne] at hk
  obtain ⟨⟨⟨⟨⟨⟨k1, k2⟩, k3⟩, k4⟩, k5⟩, k6⟩, k8⟩ := hk
  have hi0 : listed.getD i true = false := by rw [getD_tf (by omega), hls i k1]; simp
  have hrdy : i ∈ Region.ready .any ops listed := by
    refine depsB_yes k5 hi0 (fun k hk => ?_)
    simp only [Bool.and_eq_true, decide_eq_true_eq, bne_iff_ne, Bool.not_eq_true', List.all_eq_true] at hk
    obtain ⟨⟨⟨q1, q2⟩, q3⟩, q4⟩ := hk
    rw [hls k q1]
    have h1 : (i :: is).contains k = false := by rw [List.contains_cons, q3]; simp [q2]
    rw [h1]; rfl
  refine wpM_firstP ho (by simpa using k6) (Region.noSelect_spec k4) (fun c a w h => by cases h.1) _ listed a w ?_ hrdy (hy a hF) (fun _ => hJ) ?_
  · intro j oj hj hne hun hno
    have hlt := (Array.getElem?_eq_some_iff.1 hj).1
    rw [getD_tf (by omega), hls j hlt] at hun
    have hmem : j ∈ is ++ ([] : Alcs).map (·.1) := by
      rw [List.mem_append]
      left
      simp [List.contains_cons, hne] at hun; exact hun
    have := k8 j hmem
    simp only [hj, Bool.or_eq_true] at this
    rcases this with h | h
    · unfold waitsB at h
      rw [hj] at h
      obtain ⟨e, he, h2⟩ := Array.any_eq_true'.1 h
      simp only [Bool.and_eq_true, beq_iff_eq] at h2
      exact (hno e he h2.1 h2.2).elim
    · exact h
  · have := k (a.put (some d) v) w (hF.put hdn v) hS hJ (listed.setIfInBounds i true) (by simp [hsz]) (listed_set k1 hsz k2 (by simp) hls)
    rw [hd]
    exact this
theorem tj_pure {i : Nat} {is : List Nat} {o : Oper} {d : Nat} {v : Value} (hk : pureB ops [] muts i is = true) (ho : ops[i]? = some o) (hg : GW ops n L o) (hd : o.dst = some d) (hdn : Nat.ble (d + 1) n = true)
    (hy : ∀ a w', Fr n L a → (execOp a.eval o).run P w' = .ok (.value v) w')
    (k : ∀ a w, Fr n ((d, v) :: L) a → Sep W l w → JX W lf r w → TJ P ops Q (JX W lf r) muts is a w) :
    ∀ a w, Fr n L a → Sep W l w → JX W lf r w → TJ P ops Q (JX W lf r) muts (i :: is) a w :=
  tj_pureY hk ho hd hdn (fun a hF => .inl ⟨hg a hF, fun w _ => hy a w hF⟩) k
theorem tj_split {is : List Nat} (t : Nat) {b : Bool} (hl : lk L t = some (.bool b))
    (h1 : b = true → ∀ a w, Fr n ((t, .bool true) :: L) a → Sep W l w → JX W lf r w → TJ P ops Q (JX W lf r) muts is a w)
    (h2 : b = false → ∀ a w, Fr n ((t, .bool false) :: L) a → Sep W l w → JX W lf r w → TJ P ops Q (JX W lf r) muts is a w) :
    ∀ a w, Fr n L a → Sep W l w → JX W lf r w → TJ P ops Q (JX W lf r) muts is a w := by
  intro a w hF hS hJ
  cases b with
  | true => exact h1 rfl a w (hF.keep hF hl) hS hJ
  | false => exact h2 rfl a w (hF.keep hF hl) hS hJ
/-- the next in order -/
theorem tj_step {i : Nat} {is : List Nat} (hk : stepB ops [] i is = true)
    (hop : ∀ a w, Fr n L a → Sep W l w → JX W lf r w → wpOp P ops (QN Q) i (fun a' w' => JX W lf r w' ∧ TJ P ops Q (JX W lf r) muts is a' w') a w) :
    ∀ a w, Fr n L a → Sep W l w → JX W lf r w → TJ P ops Q (JX W lf r) muts (i :: is) a w := by
  simp only [stepB, Bool.and_eq_true, decide_eq_true_eq, Bool.not_eq_true', List.all_eq_true, bne_iff_ne] at hk
  obtain ⟨⟨⟨⟨k1, k2⟩, k3⟩, k4⟩, k5⟩ := hk
  intro a w hF hS hJ listed hsz hls
  have hmem : ∀ j ∈ Region.ready .any ops listed, j = i := fun j hj => by
    have h0 := (mem_ready.1 hj).1
    obtain ⟨o, ho, _⟩ := (mem_ready.1 hj).2
    have hlt := (Array.getElem?_eq_some_iff.1 ho).1
    rw [getD_tf (by omega), hls j hlt] at h0
    by_cases e : j = i
    · exact e
    · have hm : j ∈ is := by
        simp [List.contains_cons, e] at h0; exact h0
      refine (waitsB_no (k4 j hm) (fun k hk => ?_) hj).elim
      rcases Nat.lt_or_ge k ops.size with hlt | hge
      · rw [hls k hlt]
        have : (i :: is).contains k = true := by simpa [List.contains_cons] using hk
        rw [this]; rfl
      · simp [Array.getD, hsz, Nat.not_lt.2 hge]
  have hrdy : i ∈ Region.ready .any ops listed := by
    refine depsB_yes k5 ?_ (fun k hk => ?_)
    · rw [getD_tf (by omega), hls i k1]; simp
    · simp only [Bool.and_eq_true, decide_eq_true_eq, bne_iff_ne, Bool.not_eq_true'] at hk
      rw [hls k hk.1.1]
      have : (i :: is).contains k = false := by rw [List.contains_cons, hk.2]; simp [hk.1.2]
      rw [this]; rfl
  refine ⟨fun h => (by rw [h] at hrdy; cases hrdy), fun j hj => ?_⟩
  obtain rfl := hmem j hj
  exact wpOp_mono (fun a' w' h => ⟨fun _ => h.1, h.2 (listed.setIfInBounds j true) (by simp [hsz]) (listed_set k1 hsz k2 (by simp) hls)⟩) (hop a w hF hS hJ)
/-- a call that changes parts, the others' reads stand -/
theorem tj_mc {Γ : Type} {i : Nat} {is : List Nat} {o : Oper} {d : Nat} {f : FuncId} {args : Array Value} {val : Γ → Value} {l2 : Γ → List Res} (hk : stepB ops [] i is = true) (ho : ops[i]? = some o) (hg : GW ops n L o) (hd : o.dst = some d) (hdn : Nat.ble (d + 1) n = true)
    (hr : ∀ a w, Fr n L a → (execOp a.eval o).run P w = .ok (.enter f args) w) (hc : ∀ w, Sep W l w → Calls P f args w (Ret fun v w' => ∃ γ, v = val γ ∧ Sep W (l2 γ) w'))
    (hx : ∀ γ w', Sep W (l2 γ) w' → JX W lf r w')
    (k : ∀ γ a w, Fr n ((d, val γ) :: L) a → Sep W (l2 γ) w → JX W lf r w → TJ P ops Q (JX W lf r) muts is a w) :
    ∀ a w, Fr n L a → Sep W l w → JX W lf r w → TJ P ops Q (JX W lf r) muts (i :: is) a w := by
  refine tj_step hk (fun a w hF hS hJ => wpOp_ofW ho (hg a hF) ?_)
  unfold Oper.wp
  rw [hr a w hF, Oper.upon_enter]
  refine (hc w hS).mono ?_
  rintro e w1 ⟨v, rfl, γ, rfl, hS⟩
  show _ ∧ _
  rw [hd]
  exact ⟨hx γ w1 hS, k γ _ _ (hF.put hdn _) hS (hx γ w1 hS)⟩
/-- a call that reads -/
theorem tj_rd {i : Nat} {is : List Nat} {o : Oper} {d : Nat} {f : FuncId} {args : Array Value} {v : Value} (hk : stepB ops [] i is = true) (ho : ops[i]? = some o) (hg : GW ops n L o) (hd : o.dst = some d) (hdn : Nat.ble (d + 1) n = true)
    (hr : ∀ a w, Fr n L a → (execOp a.eval o).run P w = .ok (.enter f args) w) (hc : ∀ w, Sep W l w → Calls P f args w (Ret fun u w' => u = v ∧ Below w.heap.size w w'))
    (k : ∀ a w, Fr n ((d, v) :: L) a → Sep W l w → JX W lf r w → TJ P ops Q (JX W lf r) muts is a w) :
    ∀ a w, Fr n L a → Sep W l w → JX W lf r w → TJ P ops Q (JX W lf r) muts (i :: is) a w := by
  refine tj_step hk (fun a w hF hS hJ => wpOp_ofW ho (hg a hF) ?_)
  unfold Oper.wp
  rw [hr a w hF, Oper.upon_enter]
  refine (hc w hS).mono ?_
  rintro e w1 ⟨u, rfl, rfl, hb⟩
  show _ ∧ _
  rw [hd]
  obtain ⟨x, hx⟩ := hJ
  exact ⟨⟨x, hx.ext hb⟩, k _ _ (hF.put hdn _) (hS.ext hb) ⟨x, hx.ext hb⟩⟩
theorem wpM_seqJ {S : World → Prop} : ∀ (ts : List Nat) (tl : List Oper) (listed : Array Bool) (a : Act) (w : World), tailB ops ts = true → (∀ m ∈ ts, m ∈ muts) → ts.map (fun i => ops[i]?) = tl.map some → listed.size = ops.size →
    (∀ j, j < ops.size → listed.getD j false = !ts.contains j) → wpList P ops (QN Q) tl a w → wpM P ops (QN Q) S muts ts.length listed a w
  | [], tl, listed, a, w, _, _, hts, hsz, hls, h => by
    obtain rfl : tl = [] := by cases tl <;> simp_all
    refine ⟨?_, h⟩
    apply List.eq_nil_iff_forall_not_mem.2
    intro j hj
    obtain ⟨o, ho, _⟩ := (mem_ready.1 hj).2
    have hlt := (Array.getElem?_eq_some_iff.1 ho).1
    have h0 := (mem_ready.1 hj).1
    rw [getD_tf (by omega), hls j hlt] at h0
    simp at h0
  | i :: is, tl, listed, a, w, hB, hmu, hts, hsz, hls, h => by
    simp only [tailB, Bool.and_eq_true, decide_eq_true_eq, Bool.not_eq_true', List.all_eq_true] at hB
    obtain ⟨⟨⟨⟨k1, k2⟩, k4⟩, k5⟩, k6⟩ := hB
    match tl, hts with
    | [], hts => simp at hts
    | o :: tl, hts =>
      simp only [List.map_cons, List.cons.injEq] at hts
      have hrdy : i ∈ Region.ready .any ops listed := by
        refine depsB_yes k5 ?_ (fun k hk => ?_)
        · rw [getD_tf (by omega), hls i k1]; simp
        · simp only [Bool.and_eq_true, decide_eq_true_eq, bne_iff_ne, Bool.not_eq_true'] at hk
          rw [hls k hk.1.1]
          have : (i :: is).contains k = false := by rw [List.contains_cons, hk.2]; simp [hk.1.2]
          rw [this]; rfl
      refine ⟨fun h => (by rw [h] at hrdy; cases hrdy), fun j hj => ?_⟩
      have h0 := (mem_ready.1 hj).1
      obtain ⟨oj, hoj, _⟩ := (mem_ready.1 hj).2
      have hlt := (Array.getElem?_eq_some_iff.1 hoj).1
      rw [getD_tf (by omega), hls j hlt] at h0
      by_cases e : j = i
      · subst e
        have hl' : ∀ k, k < ops.size → (listed.setIfInBounds j true).getD k false = !is.contains k := fun k hk => by
          have := listed_set (rem := []) k1 hsz k2 (by simp) (fun k hk => by rw [hls k hk]; simp) k hk
          rw [this]; simp
        have hph : ¬ phB muts (listed.setIfInBounds j true) = true := by
          intro hp
          have := List.all_eq_true.1 hp j (hmu j (by simp))
          simp [Array.getD, hsz, k1] at this
        unfold wpOp
        rw [hts.1]
        simp only []
        unfold wpList at h
        split
        · rename_i hw
          rw [if_pos hw] at h
          exact h.imp (Oper.wp_mono (fun a w h => ⟨fun x => (hph x).elim, wpM_seqJ is tl _ a w k6 (fun m hm => hmu m (by simp [hm])) hts.2 (by simp [hsz]) hl' h⟩)) id
        · rename_i hw
          rw [if_neg hw] at h
          exact ⟨fun x => (hph x).elim, wpM_seqJ is tl _ _ w k6 (fun m hm => hmu m (by simp [hm])) hts.2 (by simp [hsz]) hl' h⟩
      · have hm : j ∈ is := by
          simp [List.contains_cons, e] at h0; exact h0
        refine (waitsB_no (k4 j hm) (fun k hk => ?_) hj).elim
        rcases Nat.lt_or_ge k ops.size with hlt | hge
        · rw [hls k hlt]
          have : (i :: is).contains k = true := by simpa [List.contains_cons] using hk
          rw [this]; rfl
        · simp [Array.getD, hsz, Nat.not_lt.2 hge]
theorem tj_fin {ts : List Nat} {tl : List Oper} (hk : tailB ops ts = true) (hts : ts.map (fun i => ops[i]?) = tl.map some)
    (k : ∀ a w, Fr n L a → Sep W l w → wpList P ops (QN Q) tl a w) :
    ∀ a w, Fr n L a → Sep W l w → JX W lf r w → TJ P ops Q (JX W lf r) ts ts a w :=
  fun a w hF hS hJ listed hsz hls => wpM_seqJ ts tl listed a w hk (fun m hm => hm) hts hsz (fun j hj => by rw [hls j hj]; simp) (k a w hF hS)
theorem wp_region_J {id : Nat} {lo : List Oper} {is : List Nat} {a : Act} {w : World} (lf : X → List Res → List Res) (r : List Res) (x : X) (muts : List Nat) (hm : P.follows .mixedOrders = true) (hF : Fr n L a) (hS : Sep W (lf x r) w)
    (hc : ((List.range lo.length).all (fun j => is.contains j) && is.length == lo.length) = true)
    (k : ∀ a w, Fr n L a → Sep W (lf x r) w → JX W lf r w → TJ P lo.toArray Q (JX W lf r) muts is a w) : (Code.region id lo.toArray true).wp P Q a w := by
  have hw : (Code.region id lo.toArray true).wp P (QN Q) a w := by
    refine wp_region_any hm (wpAny_of_M (S := JX W lf r) (muts := muts) _ _ _ _ ?_)
    simp only [Bool.and_eq_true, List.all_eq_true, List.mem_range, beq_iff_eq] at hc
    have := k a { w with drawn := w.drawn + 1 } hF hS.drawn ⟨x, hS.drawn⟩ (Array.replicate lo.toArray.size false) (by simp) (fun j hj => by
          have := hc.1 j (by simpa using hj)
          simp only [List.size_toArray] at hj
          rw [this]; simp [Array.getD, hj])
    rw [hc.2] at this
    simpa using this
  exact wp_mono hw (fun e a w ⟨h1, h2⟩ => by subst h1; exact h2)
end
/-- places of fields; types of one cell; types of several and how many; types of slices -/
structure Tab where
  offs : List (Nat × Nat × Nat)
  scs : List Nat
  ags : List (Nat × Nat)
  sls : List Nat
def slcB (P : Program) (t : TypeId) : Bool := match P.underlying t with
  | some (.slice e) => Nat.beq e (P.elem t)
  | _ => false
def Tab.okB (P : Program) (T : Tab) : Bool := T.offs.all (fun e => decide (offB P e.1 e.2.1 = some e.2.2)) && T.scs.all (scalB P) && T.ags.all (fun e => aggB P e.1 && decide (szB P e.1 = some e.2)) && T.sls.all (slcB P)
def offT : List (Nat × Nat × Nat) → Nat → Nat → Option Nat
  | [], _, _ => none
  | (t, f, m) :: l, t', f' => cond (Nat.beq t t' && Nat.beq f f') (some m) (offT l t' f')
def memT : List Nat → Nat → Bool
  | [], _ => false
  | t :: l, t' => cond (Nat.beq t t') true (memT l t')
def agT : List (Nat × Nat) → Nat → Option Nat
  | [], _ => none
  | (t, m) :: l, t' => cond (Nat.beq t t') (some m) (agT l t')
def binV : BinOp → Int → Int → Option Value
  | .add, m, q => some (.int .i64 (IntKind.i64.wrap (m + q)))
  | .sub, m, q => some (.int .i64 (IntKind.i64.wrap (m - q)))
  | .mul, m, q => some (.int .i64 (IntKind.i64.wrap (m * q)))
  | .eql, m, q => some (.bool (decide (m = q)))
  | .neq, m, q => some (.bool (!decide (m = q)))
  | .lss, m, q => some (.bool (decide (m < q)))
  | .leq, m, q => some (.bool (decide (m ≤ q)))
  | .gtr, m, q => some (.bool (decide (q < m)))
  | .geq, m, q => some (.bool (decide (q ≤ m)))
  | _, _, _ => none
def pureV (T : Tab) (L : List (Nat × Value)) : Go.Op → Option Value
  | .move x => oval L x
  | .assign x => oval L x
  | .nilCheck x => match oval L x with
    | some (.pointer (some ⟨g, o, none⟩)) => some (.pointer (some ⟨g, o, none⟩))
    | _ => none
  | .fieldAddr t x f => match oval L x with
    | some (.pointer (some ⟨g, o, none⟩)) => match offT T.offs t f with
      | some m => some (.pointer (some ⟨g, o + m, none⟩))
      | none => none
    | _ => none
  | .binOp op _ x y _ => match oval L x with
    | some (.int .i64 m) => match oval L y with
      | some (.int .i64 q) => binV op m q
      | _ => none
    | _ => none
  | .unOp .not _ x => match oval L x with
    | some (.bool b) => some (.bool (!b))
    | _ => none
  | .pick c x y => match oval L c with
    | some (.bool true) => oval L x
    | some (.bool false) => oval L y
    | _ => none
  | .extract x i => match oval L x with
    | some (.tuple us) => us[i]?
    | _ => none
  | .call ⟨.builtin .len, ⟨[x]⟩, ⟨[t]⟩⟩ => match oval L x with
    | some (.slice _ m _) => cond (memT T.sls t) (some (.int .i64 (m : Int))) none
    | _ => none
  | _ => none
/-- a load out of a box: what it gives, and the block it reads -/
def loadV (T : Tab) (cs : List Value) (L : List (Nat × Value)) : Go.Op → Option (Value × Nat)
  | .load t x => match oval L x with
    | some (.pointer (some ⟨g, o, none⟩)) => match memT T.scs t with
      | true => match cs[o]? with
        | some u => some (u, g)
        | none => none
      | false => match agT T.ags t with
        | some sz => cond (Nat.beq o 0 && Nat.beq sz cs.length) (some (.agg cs.toArray, g)) none
        | none => none
    | _ => none
  | _ => none
/-- a run of m operations: the slots then, what is left, the blocks that were read -/
def gos (T : Tab) (ops : Array Oper) (n : Nat) (cs : List Value) : Nat → List Oper → List (Nat × Value) → Option (List (Nat × Value) × List Oper × List Nat)
  | 0, l, L => some (L, l, [])
  | m + 1, [], L => none
  | m + 1, o :: l, L => match o.dst with
    | none => none
    | some d => match Nat.ble (d + 1) n with
      | false => none
      | true => match wantL ops L o with
        | none => none
        | some false => gos T ops n cs m l ((d, undef) :: L)
        | some true => match pureV T L o.op with
          | some v => gos T ops n cs m l ((d, v) :: L)
          | none => match loadV T cs L o.op with
            | none => none
            | some (v, g) => match gos T ops n cs m l ((d, v) :: L) with
              | none => none
              | some (L', l', gs) => some (L', l', g :: gs)
section
variable {P : Program} {ops : Array Oper} {Q : Exit → Act → World → Prop} {a : Act} {w w' w0 : World} {rest : List Oper} {o : Oper} {n d : Nat} {L L' : List (Nat × Value)} {v : Value} {Qa : Act → Prop} {T : Tab} {t f m : Nat}
theorem offT_of : ∀ {l : List (Nat × Nat × Nat)}, l.all (fun e => decide (offB P e.1 e.2.1 = some e.2.2)) = true → offT l t f = some m → offB P t f = some m
  | [], _, h => by simp [offT] at h
  | (t', f', m') :: l, ha, h => by
    simp only [List.all_cons, Bool.and_eq_true, decide_eq_true_eq] at ha
    simp only [offT] at h
    cases hb : (Nat.beq t' t && Nat.beq f' f) with
    | true =>
      rw [hb] at h
      simp only [Bool.and_eq_true] at hb
      have e1 := Nat.eq_of_beq_eq_true hb.1
      have e2 := Nat.eq_of_beq_eq_true hb.2
      subst e1; subst e2
      simp only [cond_true, Option.some.injEq] at h
      subst h; exact ha.1
    | false => rw [hb] at h; exact offT_of ha.2 h
theorem memT_of {q : Nat → Bool} : ∀ {l : List Nat}, l.all q = true → memT l t = true → q t = true
  | [], _, h => by simp [memT] at h
  | t' :: l, ha, h => by
    simp only [List.all_cons, Bool.and_eq_true] at ha
    simp only [memT] at h
    cases hb : Nat.beq t' t with
    | true => have e := Nat.eq_of_beq_eq_true hb; subst e; exact ha.1
    | false => rw [hb] at h; exact memT_of ha.2 h
theorem agT_of : ∀ {l : List (Nat × Nat)}, l.all (fun e => aggB P e.1 && decide (szB P e.1 = some e.2)) = true → agT l t = some m → aggB P t = true ∧ szB P t = some m
  | [], _, h => by simp [agT] at h
  | (t', m') :: l, ha, h => by
    simp only [List.all_cons, Bool.and_eq_true, decide_eq_true_eq] at ha
    simp only [agT] at h
    cases hb : Nat.beq t' t with
    | true =>
      have e := Nat.eq_of_beq_eq_true hb; subst e
      rw [hb] at h; simp only [cond_true, Option.some.injEq] at h; subst h
      exact ha.1
    | false => rw [hb] at h; exact agT_of ha.2 h
theorem slcB_of (h : slcB P t = true) : P.underlying t = some (.slice (P.elem t)) := by
 unfold slcB at h
 split at h
 · rename_i e he
   rw [he, Nat.eq_of_beq_eq_true h]
 · cases h
theorem pureV_run (hT : T.okB P = true) (hF : Fr n L a) (h : pureV T L o.op = some v) : (execOp a.eval o).run P w = .ok (.value v) w := by
 unfold Tab.okB at hT
 simp only [Bool.and_eq_true] at hT
 obtain ⟨⟨⟨h1, h2⟩, h3⟩, h4⟩ := hT
 obtain ⟨D, op, ty, ps, af, gd⟩ := o
 dsimp only at h
 unfold pureV at h
 split at h
 · exact r_move (oval_ev hF h)
 · exact r_assign (oval_ev hF h)
 · split at h
   · rename_i hx; cases h; exact r_nilCheck (oval_ev hF hx)
   · cases h
 · split at h
   · rename_i hx
     split at h
     · rename_i hm; cases h; exact r_field (offT_of h1 hm) (oval_ev hF hx)
     · cases h
   · cases h
 · rename_i op t x y t'
   split at h
   · rename_i mm hx
     split at h
     · rename_i q hy
       have ex := oval_ev hF hx
       have ey := oval_ev hF hy
       cases op <;> simp only [binV] at h <;> first | (cases h; done) | (cases h; first | exact r_add ex ey | exact r_sub ex ey | exact r_mul ex ey | exact r_eql ex ey | exact r_neq ex ey | exact r_lss ex ey | exact r_leq ex ey | exact r_gtr ex ey | exact r_geq ex ey)
     · cases h
   · cases h
 · split at h
   · rename_i hx; cases h; exact r_not (oval_ev hF hx)
   · cases h
 · split at h
   · rename_i hx; exact r_pick_t (oval_ev hF hx) (oval_ev hF h)
   · rename_i hx; exact r_pick_f (oval_ev hF hx) (oval_ev hF h)
   · cases h
 · split at h
   · rename_i hx; exact r_extract (oval_ev hF hx) h
   · cases h
 · split at h
   · rename_i hx
     cases hm : memT T.sls _ with
     | true => rw [hm] at h; cases h; exact r_len (slcB_of (memT_of h4 hm)) (oval_ev hF hx)
     | false => rw [hm] at h; cases h
   · cases h
 · cases h
theorem loadV_run {cs : List Value} {g : Nat} (hT : T.okB P = true) (hF : Fr n L a) (hb : ∀ j u, cs[j]? = some u → w.cell? ⟨g, j, none⟩ = some u) (h : loadV T cs L o.op = some (v, g)) : (execOp a.eval o).run P w = .ok (.value v) w := by
 unfold Tab.okB at hT
 simp only [Bool.and_eq_true] at hT
 obtain ⟨⟨⟨h1, h2⟩, h3⟩, h4⟩ := hT
 obtain ⟨D, op, ty, ps, af, gd⟩ := o
 dsimp only at h
 unfold loadV at h
 split at h
 · split at h
   · rename_i hx
     split at h
     · rename_i hs
       split at h
       · rename_i hu
         simp only [Option.some.injEq, Prod.mk.injEq] at h
         obtain ⟨rfl, rfl⟩ := h
         exact r_load1 (memT_of h2 hs) (oval_ev hF hx) (hb _ _ hu)
       · cases h
     · split at h
       · rename_i sz hs
         obtain ⟨e1, e2⟩ := agT_of h3 hs
         rename_i g' q _ _ _
         cases hl : (Nat.beq q 0 && Nat.beq sz cs.length) with
         | true =>
           rw [hl] at h
           simp only [cond_true, Option.some.injEq, Prod.mk.injEq] at h
           obtain ⟨rfl, rfl⟩ := h
           simp only [Bool.and_eq_true] at hl
           have e := Nat.eq_of_beq_eq_true hl.1
           subst e
           exact r_loadn e1 (oval_ev hF hx) (fun j u hu => by rw [Nat.zero_add]; exact hb _ _ hu) (by rw [e2, Nat.eq_of_beq_eq_true hl.2])
         | false => rw [hl] at h; cases h
       · cases h
   · cases h
 · cases h
theorem gos_wl (hT : T.okB P = true) {cs : List Value} {g : Nat} (hb : ∀ j u, cs[j]? = some u → w.cell? ⟨g, j, none⟩ = some u) : ∀ {m : Nat} {l : List Oper} {L : List (Nat × Value)} {a : Act} {gs : List Nat} {L' : List (Nat × Value)}, Fr n L a → gos T ops n cs m l L = some (L', rest, gs) → (∀ x ∈ gs, x = g) → (∀ a, Fr n L' a → wpList P ops Q rest a w) → wpList P ops Q l a w
  | 0, l, L, a, gs, L', hF, h, hg, k => by
    simp only [gos, Option.some.injEq, Prod.mk.injEq] at h
    obtain ⟨rfl, rfl, rfl⟩ := h
    exact k a hF
  | m + 1, [], L, a, gs, L', hF, h, hg, k => by simp [gos] at h
  | m + 1, o :: l, L, a, gs, L', hF, h, hg, k => by
    simp only [gos] at h
    cases hd : o.dst with
    | none => rw [hd] at h; cases h
    | some d =>
      rw [hd] at h
      dsimp only at h
      cases hdn : Nat.ble (d + 1) n with
      | false => rw [hdn] at h; cases h
      | true =>
        rw [hdn] at h
        dsimp only at h
        cases hw : wantL ops L o with
        | none => rw [hw] at h; cases h
        | some c =>
          rw [hw] at h
          have hwn := want_of (ops := ops) hF hw
          unfold wpList
          rw [hwn]
          cases c with
          | false =>
            dsimp only at h
            simp only [Bool.false_eq_true, if_false, hd]
            exact gos_wl hT hb (hF.put hdn undef) h hg k
          | true =>
            dsimp only at h
            rw [if_pos rfl]
            unfold Oper.wp
            cases hm : pureV T L o.op with
            | some v =>
              rw [hm] at h
              dsimp only at h
              rw [pureV_run hT hF hm, Oper.upon_value]
              refine .inl ?_
              show wpList P ops Q l (a.put o.dst v) w
              rw [hd]
              exact gos_wl hT hb (hF.put hdn v) h hg k
            | none =>
              rw [hm] at h
              dsimp only at h
              cases hl : loadV T cs L o.op with
              | none => rw [hl] at h; cases h
              | some q =>
                obtain ⟨v, g'⟩ := q
                rw [hl] at h
                dsimp only at h
                cases hr : gos T ops n cs m l ((d, v) :: L) with
                | none => rw [hr] at h; cases h
                | some z =>
                  obtain ⟨L1, l1, gs1⟩ := z
                  rw [hr] at h
                  simp only [Option.some.injEq, Prod.mk.injEq] at h
                  obtain ⟨e1, e2, e3⟩ := h
                  have hr' : gos T ops n cs m l ((d, v) :: L) = some (L', rest, gs1) := by rw [hr, e1, e2]
                  have eg : g' = g := hg g' (e3 ▸ List.mem_cons_self)
                  have hl' : loadV T cs L o.op = some (v, g) := by rw [hl, eg]
                  rw [loadV_run hT hF hb hl', Oper.upon_value]
                  refine .inl ?_
                  show wpList P ops Q l (a.put o.dst v) w
                  rw [hd]
                  exact gos_wl hT hb (hF.put hdn v) hr' (fun x hx => hg x (e3 ▸ List.mem_cons_of_mem _ hx)) k
theorem gos_wq (hT : T.okB P = true) {cs : List Value} {g : Nat} (hb : ∀ w', Below w.heap.size w w' → ∀ j u, cs[j]? = some u → w'.cell? ⟨g, j, none⟩ = some u) : ∀ {m : Nat} {l : List Oper} {L : List (Nat × Value)} {a : Act} {gs : List Nat} {L' : List (Nat × Value)}, Fr n L a → gos T ops n cs m l L = some (L', rest, gs) → (∀ x ∈ gs, x = g) → (∀ a, Fr n L' a → wpQuiet P ops (fun w' => Below w.heap.size w w') Qa rest a) → wpQuiet P ops (fun w' => Below w.heap.size w w') Qa l a
  | 0, l, L, a, gs, L', hF, h, hg, k => by
    simp only [gos, Option.some.injEq, Prod.mk.injEq] at h
    obtain ⟨rfl, rfl, rfl⟩ := h
    exact k a hF
  | m + 1, [], L, a, gs, L', hF, h, hg, k => by simp [gos] at h
  | m + 1, o :: l, L, a, gs, L', hF, h, hg, k => by
    simp only [gos] at h
    cases hd : o.dst with
    | none => rw [hd] at h; cases h
    | some d =>
      rw [hd] at h
      dsimp only at h
      cases hdn : Nat.ble (d + 1) n with
      | false => rw [hdn] at h; cases h
      | true =>
        rw [hdn] at h
        dsimp only at h
        cases hw : wantL ops L o with
        | none => rw [hw] at h; cases h
        | some c =>
          rw [hw] at h
          have hwn := want_of (ops := ops) hF hw
          unfold wpQuiet
          rw [hwn]
          cases c with
          | false =>
            dsimp only at h
            simp only [Bool.false_eq_true, if_false, hd]
            exact gos_wq hT hb (hF.put hdn undef) h hg k
          | true =>
            dsimp only at h
            rw [if_pos rfl]
            cases hm : pureV T L o.op with
            | some v =>
              rw [hm] at h
              dsimp only at h
              refine ⟨v, fun w' hw' => ?_, ?_⟩
              · unfold Oper.quietAt
                rw [pureV_run hT hF hm]
                exact ⟨rfl, rfl⟩
              · rw [hd]; exact gos_wq hT hb (hF.put hdn v) h hg k
            | none =>
              rw [hm] at h
              dsimp only at h
              cases hl : loadV T cs L o.op with
              | none => rw [hl] at h; cases h
              | some q =>
                obtain ⟨v, g'⟩ := q
                rw [hl] at h
                dsimp only at h
                cases hr : gos T ops n cs m l ((d, v) :: L) with
                | none => rw [hr] at h; cases h
                | some z =>
                  obtain ⟨L1, l1, gs1⟩ := z
                  rw [hr] at h
                  simp only [Option.some.injEq, Prod.mk.injEq] at h
                  obtain ⟨e1, e2, e3⟩ := h
                  have hr' : gos T ops n cs m l ((d, v) :: L) = some (L', rest, gs1) := by rw [hr, e1, e2]
                  have eg : g' = g := hg g' (e3 ▸ List.mem_cons_self)
                  have hl' : loadV T cs L o.op = some (v, g) := by rw [hl, eg]
                  refine ⟨v, fun w' hw' => ?_, ?_⟩
                  · unfold Oper.quietAt
                    rw [loadV_run hT hF (hb w' hw') hl']
                    exact ⟨rfl, rfl⟩
                  · rw [hd]; exact gos_wq hT hb (hF.put hdn v) hr' (fun x hx => hg x (e3 ▸ List.mem_cons_of_mem _ hx)) k
/-- m operations that read no memory; m operations that read one box at most (part i); the same in calm regions -/
theorem ra (m : Nat) (hF : Fr n L a) (hT : T.okB P = true) {l : List Oper} (h : gos T ops n [] m l L = some (L', rest, [])) (k : ∀ a, Fr n L' a → wpList P ops Q rest a w) : wpList P ops Q l a w :=
  gos_wl (g := 0) hT (fun j u hu => by simp at hu) hF h (fun x hx => by cases hx) k
theorem all_g {gs : List Nat} {g : Nat} (h : gs = gs.map fun _ => g) : ∀ x ∈ gs, x = g := fun x hx => by
  rw [h] at hx; obtain ⟨_, _, rfl⟩ := List.mem_map.1 hx; rfl
theorem rb {lr : List Res} {g : Nat} {cs : List Value} {gs : List Nat} (m i : Nat) (hF : Fr n L a) (hT : T.okB P = true) {l : List Oper} (hS : Sep w0 lr w) (hi : lr[i]? = some (Box g cs)) (h : gos T ops n cs m l L = some (L', rest, gs)) (hg : gs = gs.map fun _ => g) (k : ∀ a, Fr n L' a → wpList P ops Q rest a w) : wpList P ops Q l a w :=
  gos_wl hT (fun j u hu => hS.box hi hu) hF h (all_g hg) k
theorem qa (m : Nat) (hF : Fr n L a) (hT : T.okB P = true) {l : List Oper} (h : gos T ops n [] m l L = some (L', rest, [])) (k : ∀ a, Fr n L' a → wpQuiet P ops (fun w' => Below w.heap.size w w') Qa rest a) : wpQuiet P ops (fun w' => Below w.heap.size w w') Qa l a :=
  gos_wq (g := 0) hT (fun w' hb j u hu => by simp at hu) hF h (fun x hx => by cases hx) k
theorem qb {lr : List Res} {g : Nat} {cs : List Value} {gs : List Nat} (m i : Nat) (hF : Fr n L a) (hT : T.okB P = true) {l : List Oper} (hS : Sep w0 lr w) (hi : lr[i]? = some (Box g cs)) (h : gos T ops n cs m l L = some (L', rest, gs)) (hg : gs = gs.map fun _ => g) (k : ∀ a, Fr n L' a → wpQuiet P ops (fun w' => Below w.heap.size w w') Qa rest a) : wpQuiet P ops (fun w' => Below w.heap.size w w') Qa l a :=
  gos_wq hT (fun w' hb j u hu => (hS.ext hb).box hi hu) hF h (all_g hg) k
end
end Go.Proofs.YtgofolgogfmhgaaGreat.Sl
namespace Go.Proofs.YtgofolgogfmhgaaGreat.Wk
open Go Go.RowKit Sl
def tb : Tab := ⟨[(25, 0, 0), (25, 1, 1), (25, 2, 2), (25, 3, 3), (25, 4, 4), (25, 5, 5), (29, 0, 0), (29, 1, 6), (29, 2, 7), (29, 3, 8), (29, 4, 9), (29, 5, 10), (29, 6, 11), (29, 7, 12), (31, 0, 0), (31, 1, 1), (31, 2, 2), (39, 0, 0), (39, 1, 1), (42, 0, 0), (42, 1, 1), (42, 2, 4), (42, 3, 6), (42, 4, 7), (42, 5, 8), (42, 6, 9), (42, 7, 10), (42, 8, 11), (42, 9, 12), (42, 10, 13), (42, 11, 14), (42, 12, 15), (42, 13, 16), (42, 14, 17), (42, 15, 18), (76, 0, 0), (76, 1, 1), (76, 2, 2), (83, 0, 0), (83, 1, 1), (83, 2, 2), (83, 3, 3), (97, 0, 0), (97, 1, 1), (97, 2, 2)], [3, 5, 9, 22, 26, 27, 40, 62, 67], [(25, 6), (29, 13), (31, 3), (39, 2), (42, 19), (76, 3), (83, 4)], [22, 26, 27, 40]⟩
theorem tk : tb.okB Tryz.prog = true := by kernel_rfl
def fns : List Nat := [7, 8, 9, 10, 11, 12, 13, 14, 15, 16, 17, 18, 19, 20, 21, 22, 23, 24, 25, 26, 27, 28, 29, 30, 31, 32, 33, 34, 35, 36, 37, 38, 39, 40, 41, 42, 43, 44, 45, 46, 47, 48, 49, 50, 51, 52, 53, 54, 55, 56, 57, 58, 61, 62, 63, 67, 68, 69, 70, 72, 74, 76, 77, 78, 79, 81, 82, 83, 84, 85, 86, 87, 88, 89, 90, 91, 92, 93, 94, 95, 96, 97, 98, 99, 100, 101, 102, 103, 104, 105, 106, 107, 108, 109, 110, 111, 112, 113, 114, 115, 116, 117, 118, 119, 120, 121, 122, 123, 124, 125, 126, 127, 128, 129, 130, 131, 132, 133, 134, 135, 136, 137, 138, 139, 140, 141, 142, 143, 144, 145, 146, 147, 148, 149, 150, 152, 153, 154, 155, 156, 157, 158, 159, 160, 161, 162, 163, 164, 165, 166, 167, 168, 169, 170, 171, 172, 173, 174, 176, 177, 178, 179, 180, 181, 182, 183, 184, 187, 188, 189, 190, 191, 192, 193, 196, 197, 198, 199, 201, 202, 203, 204, 205, 206, 207]
theorem fk : fns.all (enterB Tryz.prog) = true := by kernel_rfl
def t1 : List Nat := [3, 26, 27, 40]
theorem t1k : t1.all (fun t => decide (szB Tryz.prog t = some 1)) = true := by kernel_rfl
end Go.Proofs.YtgofolgogfmhgaaGreat.Wk
namespace Go.Proofs.YtgofolgogfmhgaaGreat.Sl
open Go Go.RowKit
set_option linter.unusedVariables false
set_option linter.unusedSimpArgs false
section
variable {P : Program} {ops : Array Oper} {Q : Exit → Act → World → Prop} {X : Type} {lf : X → List Res → List Res} {r l : List Res} {W : World} {muts : List Nat} {n : Nat} {L : List (Nat × Value)}
theorem tj_fork (C : List (Nat × List Nat)) {is : List Nat} (hk : forkB ops [] C is = true)
    (hop : ∀ p ∈ C, ∀ a w, Fr n L a → Sep W l w → JX W lf r w → wpOp P ops (QN Q) p.1 (fun a' w' => JX W lf r w' ∧ TJ P ops Q (JX W lf r) muts p.2 a' w') a w) :
    ∀ a w, Fr n L a → Sep W l w → JX W lf r w → TJ P ops Q (JX W lf r) muts is a w := by
  simp only [forkB, Bool.and_eq_true, decide_eq_true_eq, Bool.not_eq_true', List.all_eq_true, Bool.or_eq_true] at hk
  obtain ⟨⟨⟨⟨k1, k2⟩, k3⟩, k4⟩, k5⟩ := hk
  have hlist : ∀ (listed : Array Bool) (p : Nat × List Nat), listed.size = ops.size → (∀ j, j < ops.size → listed.getD j false = (!is.contains j && !([] : List Nat).contains j)) → p ∈ C →
      ∀ j, j < ops.size → (listed.setIfInBounds p.1 true).getD j false = (!p.2.contains j && !([] : List Nat).contains j) := by
    intro listed p hsz hls hp j hj
    obtain ⟨⟨⟨h1, h2⟩, h3⟩, _⟩ := k3 p hp
    by_cases e : p.1 = j
    · subst e
      rw [h3]
      simp [Array.getD, hsz, hj]
    · rw [getD_set_ne false e, hls j hj]
      have : is.contains j = p.2.contains j := by
        rw [← sameB_contains h2 j, Bool.eq_iff_iff]
        simp only [List.contains_iff_mem]
        exact ⟨fun h => (List.mem_erase_of_ne (fun x => e x.symm)).2 h, fun h => List.mem_of_mem_erase h⟩
      rw [this]
  have hlen : ∀ p ∈ C, is.length = p.2.length + 1 := fun p hp => by
    obtain ⟨⟨⟨h1, h2⟩, h3⟩, _⟩ := k3 p hp
    have hm : p.1 ∈ is := by simpa using h1
    have e1 := List.length_erase_of_mem hm
    have e2 : 0 < is.length := List.length_pos_of_mem hm
    simp only [sameB, Bool.and_eq_true, beq_iff_eq] at h2
    omega
  obtain ⟨p0, hp0⟩ : ∃ p, p ∈ C := by
    cases C with
    | nil => simp at k1
    | cons p C => exact ⟨p, by simp⟩
  intro a w hF hS hJ listed hsz hls
  have hrdy : p0.1 ∈ Region.ready .any ops listed := by
    obtain ⟨⟨⟨h1, h2⟩, h3⟩, h4⟩ := k3 p0 hp0
    have hlt := k2 p0.1 (by simpa using h1)
    refine depsB_yes h4 ?_ (fun k hk => ?_)
    · rw [getD_tf (by omega), hls _ hlt, h1]; rfl
    · simp only [Bool.and_eq_true, decide_eq_true_eq, Bool.not_eq_true'] at hk
      rw [hls k hk.1.1, hk.1.2]; rfl
  rw [hlen p0 hp0]
  refine ⟨fun h => (by rw [h] at hrdy; cases hrdy), fun j hj => ?_⟩
  have h0 := (mem_ready.1 hj).1
  obtain ⟨o, ho, _⟩ := (mem_ready.1 hj).2
  have hlt := (Array.getElem?_eq_some_iff.1 ho).1
  rw [getD_tf (by omega), hls j hlt] at h0
  have hm : j ∈ is := by simpa using h0
  obtain ⟨p, hp, rfl⟩ : ∃ p ∈ C, p.1 = j := by
    rcases k5 j hm with h | h
    · obtain ⟨p, hp, e⟩ := List.mem_map.1 (List.contains_iff_mem.1 h)
      exact ⟨p, hp, e⟩
    · refine (waitsB_no h (fun k hk => ?_) hj).elim
      have hlt := k2 k (by simpa using hk)
      rw [hls k hlt, hk]; rfl
  refine wpOp_mono (fun a' w' h => ⟨fun _ => h.1, ?_⟩) (hop p hp a w hF hS hJ)
  have e1 := hlen p hp
  have e2 := hlen p0 hp0
  rw [show p0.2.length = p.2.length by omega]
  exact h.2 (listed.setIfInBounds p.1 true) (by simp [hsz]) (hlist listed p hsz hls hp)
/-- a call that changes parts, as one of several -/
theorem jo_mc {Γ : Type} {i : Nat} {is : List Nat} {o : Oper} {d : Nat} {f : FuncId} {args : Array Value} {val : Γ → Value} {l2 : Γ → List Res} (ho : ops[i]? = some o) (hg : GW ops n L o) (hd : o.dst = some d) (hdn : Nat.ble (d + 1) n = true)
    (hr : ∀ a w, Fr n L a → (execOp a.eval o).run P w = .ok (.enter f args) w) (hc : ∀ w, Sep W l w → Calls P f args w (Ret fun v w' => ∃ γ, v = val γ ∧ Sep W (l2 γ) w'))
    (hx : ∀ γ w', Sep W (l2 γ) w' → JX W lf r w')
    (k : ∀ γ a w, Fr n ((d, val γ) :: L) a → Sep W (l2 γ) w → JX W lf r w → TJ P ops Q (JX W lf r) muts is a w) :
    ∀ a w, Fr n L a → Sep W l w → JX W lf r w → wpOp P ops (QN Q) i (fun a' w' => JX W lf r w' ∧ TJ P ops Q (JX W lf r) muts is a' w') a w := by
  intro a w hF hS hJ
  refine wpOp_ofW ho (hg a hF) ?_
  unfold Oper.wp
  rw [hr a w hF, Oper.upon_enter]
  refine (hc w hS).mono ?_
  rintro e w1 ⟨v, rfl, γ, rfl, hS⟩
  show _ ∧ _
  rw [hd]
  exact ⟨hx γ w1 hS, k γ _ _ (hF.put hdn _) hS (hx γ w1 hS)⟩
theorem jo_rd {i : Nat} {is : List Nat} {o : Oper} {d : Nat} {f : FuncId} {args : Array Value} {v : Value} (ho : ops[i]? = some o) (hg : GW ops n L o) (hd : o.dst = some d) (hdn : Nat.ble (d + 1) n = true)
    (hr : ∀ a w, Fr n L a → (execOp a.eval o).run P w = .ok (.enter f args) w) (hc : ∀ w, Sep W l w → Calls P f args w (Ret fun u w' => u = v ∧ Below w.heap.size w w'))
    (k : ∀ a w, Fr n ((d, v) :: L) a → Sep W l w → JX W lf r w → TJ P ops Q (JX W lf r) muts is a w) :
    ∀ a w, Fr n L a → Sep W l w → JX W lf r w → wpOp P ops (QN Q) i (fun a' w' => JX W lf r w' ∧ TJ P ops Q (JX W lf r) muts is a' w') a w := by
  intro a w hF hS hJ
  refine wpOp_ofW ho (hg a hF) ?_
  unfold Oper.wp
  rw [hr a w hF, Oper.upon_enter]
  refine (hc w hS).mono ?_
  rintro e w1 ⟨u, rfl, rfl, hb⟩
  show _ ∧ _
  rw [hd]
  obtain ⟨x, hx⟩ := hJ
  exact ⟨⟨x, hx.ext hb⟩, k _ _ (hF.put hdn _) (hS.ext hb) ⟨x, hx.ext hb⟩⟩
/-- an operation that makes something new -/
theorem jo_op {Γ : Type} {i : Nat} {is : List Nat} {o : Oper} {d : Nat} {val : Γ → Value} {l1 : Γ → List Res} (ho : ops[i]? = some o) (hg : GW ops n L o) (hd : o.dst = some d) (hdn : Nat.ble (d + 1) n = true)
    (hr : ∀ a w, Fr n L a → Sep W l w → ∃ γ w', (execOp a.eval o).run P w = .ok (.value (val γ)) w' ∧ Sep w (l1 γ) w')
    (k : ∀ γ a w, Fr n ((d, val γ) :: L) a → Sep W (l1 γ ++ l) w → JX W lf r w → TJ P ops Q (JX W lf r) muts is a w) :
    ∀ a w, Fr n L a → Sep W l w → JX W lf r w → wpOp P ops (QN Q) i (fun a' w' => JX W lf r w' ∧ TJ P ops Q (JX W lf r) muts is a' w') a w := by
  intro a w hF hS hJ
  refine wpOp_ofW ho (hg a hF) ?_
  obtain ⟨γ, w1, hrun, h1⟩ := hr a w hF hS
  unfold Oper.wp
  rw [hrun, Oper.upon_value, hd]
  obtain ⟨x, hx⟩ := hJ
  exact ⟨⟨x, hx.ext h1.old⟩, k γ _ _ (hF.put hdn _) (hS.add h1) ⟨x, hx.ext h1.old⟩⟩
/-- the next in order makes something new -/
theorem tj_op {Γ : Type} {i : Nat} {is : List Nat} {o : Oper} {d : Nat} {val : Γ → Value} {l1 : Γ → List Res} (hk : stepB ops [] i is = true) (ho : ops[i]? = some o) (hg : GW ops n L o) (hd : o.dst = some d) (hdn : Nat.ble (d + 1) n = true)
    (hr : ∀ a w, Fr n L a → Sep W l w → ∃ γ w', (execOp a.eval o).run P w = .ok (.value (val γ)) w' ∧ Sep w (l1 γ) w')
    (k : ∀ γ a w, Fr n ((d, val γ) :: L) a → Sep W (l1 γ ++ l) w → JX W lf r w → TJ P ops Q (JX W lf r) muts is a w) :
    ∀ a w, Fr n L a → Sep W l w → JX W lf r w → TJ P ops Q (JX W lf r) muts (i :: is) a w :=
  tj_step hk (jo_op ho hg hd hdn hr k)
end
theorem r_max {P : Program} {ρ : Operand → Value} {w : World} {D : Option Tmp} {ty : TypeId} {ps : String} {af : Array Edge} {gd : Option (Nat × Bool)} {x y : Operand} {m q : Int} {ts : Array TypeId} (hx : ρ x = .int .i64 m) (hy : ρ y = .int .i64 q) : (execOp ρ ⟨D, .call ⟨.builtin .max, #[x, y], ts⟩, ty, ps, af, gd⟩).run P w = .ok (.value (.int .i64 (if q > m then q else m))) w := by
 simp [execOp, resolve, invoke, builtin, Builtin.max_, Builtin.max2, hx, hy, go_sem]
end Go.Proofs.YtgofolgogfmhgaaGreat.Sl
namespace Go.Proofs.YtgofolgogfmhgaaGreat.Wk
open Go Go.RowKit Sl
set_option linter.unusedVariables false
set_option linter.unusedSimpArgs false
theorem zb : (∀ b : Bool, ((!b) = true) = (b = false)) ∧ (∀ b : Bool, ((!b) = false) = (b = true)) ∧ (∀ a b : Bool, ((a || b) = true) = (a = true ∨ b = true)) ∧ (∀ a b : Bool, ((a && b) = true) = (a = true ∧ b = true)) ∧ (∀ a b : Bool, ((a || b) = false) = (a = false ∧ b = false)) ∧ (∀ a b : Bool, ((a && b) = false) = (a = false ∨ b = false)) ∧ (∀ (p : Prop) [Decidable p], (decide p = true) = p) ∧ (∀ (p : Prop) [Decidable p], (decide p = false) = ¬ p) :=
  ⟨Bool.not_eq_true', Bool.not_eq_false', Bool.or_eq_true, Bool.and_eq_true, fun a b => by cases a <;> cases b <;> simp, fun a b => by cases a <;> cases b <;> simp, fun p _ => decide_eq_true_eq, fun p _ => by simp⟩
theorem t1_of {t : Nat} : ∀ {l : List Nat}, l.all (fun t => decide (szB Tryz.prog t = some 1)) = true → memT l t = true → szB Tryz.prog t = some 1 := fun h h' => of_decide_eq_true (memT_of h h')
theorem ag_of {t m : Nat} (h : agT tb.ags t = some m) : aggB Tryz.prog t = true ∧ szB Tryz.prog t = some m := by
 have hT := tk
 unfold Tab.okB at hT
 simp only [Bool.and_eq_true] at hT
 exact agT_of hT.1.2 h
/-- the list with one changed, if the place is there -/
def setO {α : Type} : List α → Nat → α → Option (List α)
  | [], _, _ => none
  | _ :: l, 0, y => some (y :: l)
  | x :: l, n + 1, y => match setO l n y with
    | some l' => some (x :: l')
    | none => none
theorem setO_of {α : Type} : ∀ {l : List α} {n : Nat} {y : α} {l' : List α}, setO l n y = some l' → l.set n y = l' ∧ n < l.length
  | [], n, y, l', h => by simp [setO] at h
  | x :: l, 0, y, l', h => by simp only [setO, Option.some.injEq] at h; subst h; simp
  | x :: l, n + 1, y, l', h => by
    simp only [setO] at h
    split at h
    · rename_i e
      cases h
      have := setO_of e
      exact ⟨by simp [this.1], by simp [this.2]⟩
    · cases h
def splitO {α : Type} : Nat → List α → Option (List α × List α)
  | 0, l => some ([], l)
  | n + 1, x :: l => match splitO n l with
    | some (a, b) => some (x :: a, b)
    | none => none
  | _ + 1, [] => none
theorem splitO_of {α : Type} : ∀ {n : Nat} {l a b : List α}, splitO n l = some (a, b) → l = a ++ b ∧ a.length = n
  | 0, l, a, b, h => by simp only [splitO, Option.some.injEq, Prod.mk.injEq] at h; obtain ⟨rfl, rfl⟩ := h; simp
  | n + 1, [], a, b, h => by simp [splitO] at h
  | n + 1, x :: l, a, b, h => by
    simp only [splitO] at h
    split at h
    · rename_i e
      simp only [Option.some.injEq, Prod.mk.injEq] at h
      obtain ⟨rfl, rfl⟩ := h
      have := splitO_of e
      exact ⟨by simp [this.1], by simp [this.2]⟩
    · cases h
def ovals (L : List (Nat × Value)) : List Operand → Option (List Value)
  | [] => some []
  | x :: l => match oval L x with
    | some v => match ovals L l with
      | some vs => some (v :: vs)
      | none => none
    | none => none
theorem ovals_ev {n : Nat} {L : List (Nat × Value)} {a : Act} (hF : Fr n L a) : ∀ {xs : List Operand} {vs : List Value}, ovals L xs = some vs → xs.map a.eval = vs
  | [], vs, h => by simp only [ovals, Option.some.injEq] at h; subst h; rfl
  | x :: xs, vs, h => by
    simp only [ovals] at h
    split at h
    · rename_i e
      split at h
      · rename_i e'
        simp only [Option.some.injEq] at h
        subst h
        rw [List.map_cons, oval_ev hF e, ovals_ev hF e']
      · cases h
    · cases h
/-- what an operation calls, and with what -/
def callV (ops : Array Oper) (n : Nat) (L : List (Nat × Value)) (o : Oper) : Option (Nat × Nat × List Value) := match o.dst with
  | none => none
  | some d => match Nat.ble (d + 1) n with
    | false => none
    | true => match wantL ops L o with
      | some true => match o.op with
        | .call ⟨.value (.func f), xs, _⟩ => match memT fns f with
          | true => match ovals L xs.toList with
            | some vs => some (d, f, vs)
            | none => none
          | false => none
        | _ => none
      | _ => none
section
variable {ops : Array Oper} {Q : Exit → Act → World → Prop} {a : Act} {w w' w0 W : World} {rest : List Oper} {o : Oper} {n d f : Nat} {L L' L2 : List (Nat × Value)} {v : Value} {vs : List Value} {Qa : Act → Prop} {lr lr' : List Res} {l B A : List Oper} {B' : List (Nat × Value)} {c e : Bool} {g : Nat} {cs : List Value} {gs : List Nat} {K Y : Act → World → Prop}
theorem callV_of (hF : Fr n L a) (h : callV ops n L o = some (d, f, vs)) : o.dst = some d ∧ Nat.ble (d + 1) n = true ∧ Region.wanted o (yielded ops a.tmps) = true ∧ ∀ w, (execOp a.eval o).run Tryz.prog w = .ok (.enter f vs.toArray) w := by
 unfold callV at h
 split at h
 · cases h
 rename_i d' hd
 split at h
 · cases h
 rename_i hb
 split at h
 · rename_i hw
   split at h
   · rename_i f' xs ts hop
     split at h
     · rename_i hm
       split at h
       · rename_i vs' hv
         simp only [Option.some.injEq, Prod.mk.injEq] at h
         obtain ⟨rfl, rfl, rfl⟩ := h
         refine ⟨hd, hb, want_of hF hw, fun w => ?_⟩
         have he : enterB Tryz.prog f' = true := memT_of (q := enterB Tryz.prog) fk hm
         obtain ⟨D, op, ty, ps, af, gd⟩ := o
         dsimp only at hop
         subst hop
         have hx : xs.map a.eval = vs'.toArray := by
           have := ovals_ev hF hv
           apply Array.ext'
           simpa using this
         have := rr_call (P := Tryz.prog) (ts := ts) (ty := ty) (ps := ps) (af := af) (gd := gd) (D := D) (w := w) (x := .func f') (cap := #[]) he (ef (a := a)) hx
         simpa using this
       · cases h
     · cases h
   · cases h
 · cases h
theorem xt {P R : Prop} (k : R) (h : R → P := by (intro k_; (try simp only [Exit.then, Exit.inBlock, ↓reduceIte]); exact k_)) : P := h k
theorem xr {P : Program} {R : Prop} (k : R) (h : R → Q .ret a w := by (intro k_; (try simp only [Exit.then, Exit.inBlock, ↓reduceIte]); exact k_)) : Code.ret.wp P Q a w := wp_ret (h k)
theorem ga (m : Nat) (hF : Fr n L a) (h : gos tb ops n [] m l L = some (L', rest, [])) (k : ∀ a, Fr n L' a → wpList Tryz.prog ops Q rest a w) : wpList Tryz.prog ops Q l a w := ra m hF tk h k
theorem gb (m i : Nat) (hF : Fr n L a) (hS : Sep w0 lr w) (hi : lr[i]? = some (Box g cs)) (h : gos tb ops n cs m l L = some (L', rest, gs)) (hg : gs = gs.map fun _ => g) (k : ∀ a, Fr n L' a → wpList Tryz.prog ops Q rest a w) : wpList Tryz.prog ops Q l a w := rb m i hF tk hS hi h hg k
/-- the end of a region -/
theorem ge (hK : ∀ a w, Y a w → K a w) (hF : Fr n L a) (h : gos tb ops n [] l.length l L = some (L', [], [])) (k : ∀ a, Fr n L' a → Y a w) : wpList Tryz.prog ops (Exit.then K Q) l a w := ga l.length hF h fun a hF => wl_nil (hK _ _ (k a hF))
theorem gf (hK : ∀ a w, Y a w → K a w) (i : Nat) (hF : Fr n L a) (hS : Sep w0 lr w) (hi : lr[i]? = some (Box g cs)) (h : gos tb ops n cs l.length l L = some (L', [], gs)) (hg : gs = gs.map fun _ => g) (k : ∀ a, Fr n L' a → Y a w) : wpList Tryz.prog ops (Exit.then K Q) l a w := gb l.length i hF hS hi h hg fun a hF => wl_nil (hK _ _ (k a hF))
/-- a whole region -/
theorem rg {id : Nat} {y : Code} (hF : Fr n L a) (h : gos tb l.toArray n [] l.length l L = some (L', [], [])) (k : ∀ a, Fr n L' a → y.wp Tryz.prog Q a w) : (Code.seq (.region id l.toArray false) y).wp Tryz.prog Q a w := ws fun K hK => ge hK hF h k
theorem rh {id : Nat} {y : Code} (i : Nat) (hF : Fr n L a) (hS : Sep w0 lr w) (hi : lr[i]? = some (Box g cs)) (h : gos tb l.toArray n cs l.length l L = some (L', [], gs)) (hg : gs = gs.map fun _ => g) (k : ∀ a, Fr n L' a → y.wp Tryz.prog Q a w) : (Code.seq (.region id l.toArray false) y).wp Tryz.prog Q a w := ws fun K hK => gf hK i hF hS hi h hg k
theorem rl {id : Nat} (hF : Fr n L a) (h : gos tb l.toArray n [] l.length l L = some (L', [], [])) (k : ∀ a, Fr n L' a → Q .normal a w) : (Code.region id l.toArray false).wp Tryz.prog Q a w := wp_region_lit (ga l.length hF h fun a hF => wl_nil (k a hF))
/-- a call -/
theorem ck {R : Value → World → Prop} (hF : Fr n L a) (hv : callV ops n L o = some (d, f, vs)) (hc : Calls Tryz.prog f vs.toArray w (Ret R)) (k : ∀ v w' a, R v w' → Fr n ((d, v) :: L) a → wpList Tryz.prog ops Q rest a w') : wpList Tryz.prog ops Q (o :: rest) a w := by
 obtain ⟨hd, hb, hw, hr⟩ := callV_of hF hv
 have h0 : wpList Tryz.prog ops Q ({ o with guard := none } :: rest) a w := wl_call hF rfl hd hb (hr w) hc k
 unfold wpList at h0 ⊢
 rw [hw]
 exact h0
theorem ckr (hF : Fr n L a) (hS : Sep w0 lr w) (hv : callV ops n L o = some (d, f, vs)) (hc : Calls Tryz.prog f vs.toArray w (Ret fun u w' => u = v ∧ Below w.heap.size w w')) (k : ∀ w' a, Sep w0 lr w' → Fr n ((d, v) :: L) a → wpList Tryz.prog ops Q rest a w') : wpList Tryz.prog ops Q (o :: rest) a w :=
  ck hF hv hc fun u w' a ⟨e, hB⟩ hF => k w' a (hS.ext hB) (e ▸ hF)
theorem qk (hF : Fr n L a) (hv : callV ops n L o = some (d, f, vs)) (hc : ∀ w', Below w.heap.size w w' → Calls Tryz.prog f vs.toArray w' (Ret fun u w'' => u = v ∧ Below w'.heap.size w' w'')) (k : ∀ a, Fr n ((d, v) :: L) a → wpQuiet Tryz.prog ops (fun w' => Below w.heap.size w w') Qa rest a) : wpQuiet Tryz.prog ops (fun w' => Below w.heap.size w w') Qa (o :: rest) a := by
 obtain ⟨hd, hb, hw, hr⟩ := callV_of hF hv
 have h0 : wpQuiet Tryz.prog ops (fun w' => Below w.heap.size w w') Qa ({ o with guard := none } :: rest) a := wq_call hF rfl hd hb (fun w' _ => hr w') hc k
 unfold wpQuiet at h0 ⊢
 rw [hw]
 exact h0
/-- the ways of a condition -/
theorem cx {A B : Prop} {b : Bool} {x y : Code} (t : Nat) (hF : Fr n L a) (ht : lk L t = some (.bool b)) (h1 : A → Fr n ((t, .bool true) :: L) a → x.wp Tryz.prog Q a w) (h2 : B → Fr n ((t, .bool false) :: L) a → y.wp Tryz.prog Q a w) (s1 : b = true → A := by (intro h; (try simp only [zb] at h); exact h)) (s2 : b = false → B := by (intro h; (try simp only [zb] at h); exact h)) : (Code.cond (.tmp t) x y).wp Tryz.prog Q a w :=
  wc_fx hF ht (fun e => h1 (s1 e)) (fun e => h2 (s2 e))
/-- a second part of a condition that is left out -/
theorem wa {X : Prop} (k tc pk : Nat) (hF : Fr n L a) (hS : Sep w0 lr w) (ht : lk L tc = some (.bool c) := by exact rfl) (hs : splitO k l = some (A, B) := by exact rfl) (h2 : gos tb ops n [] k A ((tc, .bool false) :: L) = some (L2, [], []) := by exact rfl) (h3 : splitO k L2 = some (L', (tc, .bool false) :: L) := by exact rfl) (h4 : L'.all (fun x => (lk ((tc, .bool false) :: L) x.1).isNone) = true := by exact rfl) (h5 : lk L2 pk = some (.bool false) := by exact rfl) (s1 : c = true → X := by (intro h; (try simp only [zb] at h); exact h))
    (h1 : X → ∀ a, Fr n ((tc, .bool true) :: L) a → wpList Tryz.prog ops (JS n ((tc, .bool true) :: L) pk e w0 lr) A a w)
    (j : ∀ a w, Fr n ((pk, .bool (c && e)) :: L) a → Sep w0 lr w → wpList Tryz.prog ops Q B a w) : wpList Tryz.prog ops Q l a w := by
  obtain ⟨rfl, hk⟩ := splitO_of hs
  refine wl_and hF hS ht (fun h => h1 (s1 h)) (fun h a hF => ?_) j
  refine ga k hF h2 fun a hF => wl_nil ⟨rfl, ?_, hS⟩
  have hF' := hF
  rw [(splitO_of h3).1] at hF'
  exact (Fr.pre hF' h4).keep hF h5
theorem wo {X : Prop} (k tc pk : Nat) (hF : Fr n L a) (hS : Sep w0 lr w) (ht : lk L tc = some (.bool c) := by exact rfl) (hs : splitO k l = some (A, B) := by exact rfl) (h2 : gos tb ops n [] k A ((tc, .bool true) :: L) = some (L2, [], []) := by exact rfl) (h3 : splitO k L2 = some (L', (tc, .bool true) :: L) := by exact rfl) (h4 : L'.all (fun x => (lk ((tc, .bool true) :: L) x.1).isNone) = true := by exact rfl) (h5 : lk L2 pk = some (.bool true) := by exact rfl) (s1 : c = false → X := by (intro h; (try simp only [zb] at h); exact h))
    (h1 : X → ∀ a, Fr n ((tc, .bool false) :: L) a → wpList Tryz.prog ops (JS n ((tc, .bool false) :: L) pk e w0 lr) A a w)
    (j : ∀ a w, Fr n ((pk, .bool (c || e)) :: L) a → Sep w0 lr w → wpList Tryz.prog ops Q B a w) : wpList Tryz.prog ops Q l a w := by
  obtain ⟨rfl, hk⟩ := splitO_of hs
  refine wl_or hF hS ht (fun h => h1 (s1 h)) (fun h a hF => ?_) j
  refine ga k hF h2 fun a hF => wl_nil ⟨rfl, ?_, hS⟩
  have hF' := hF
  rw [(splitO_of h3).1] at hF'
  exact (Fr.pre hF' h4).keep hF h5
/-- the end of such a part -/
theorem je (k : Nat) {pk : Nat} (hF : Fr n L a) (hS : Sep w0 lr w) (h2 : gos tb ops n [] l.length l L = some (L2, [], [])) (h3 : splitO k L2 = some (L', B')) (h4 : L'.all (fun x => (lk B' x.1).isNone) = true) (h5 : lk L2 pk = some (.bool e)) : wpList Tryz.prog ops (JS n B' pk e w0 lr) l a w := by
 refine ga l.length hF h2 fun a hF => wl_nil ⟨rfl, ?_, hS⟩
 have hF' := hF
 rw [(splitO_of h3).1] at hF'
 exact (Fr.pre hF' h4).keep hF h5
theorem jf (k i : Nat) {pk : Nat} (hF : Fr n L a) (hS : Sep w0 lr w) (hi : lr[i]? = some (Box g cs)) (h2 : gos tb ops n cs l.length l L = some (L2, [], gs)) (hg : gs = gs.map fun _ => g) (h3 : splitO k L2 = some (L', B')) (h4 : L'.all (fun x => (lk B' x.1).isNone) = true) (h5 : lk L2 pk = some (.bool e)) : wpList Tryz.prog ops (JS n B' pk e w0 lr) l a w := by
 refine gb l.length i hF hS hi h2 hg fun a hF => wl_nil ⟨rfl, ?_, hS⟩
 have hF' := hF
 rw [(splitO_of h3).1] at hF'
 exact (Fr.pre hF' h4).keep hF h5
/-- a store into a box, of the whole or of one cell -/
theorem ww {T ty : TypeId} {ps : String} {af : Array Edge} {x y : Operand} (i : Nat) (hF : Fr n L a) (hS : Sep w0 lr w) (hi : lr[i]? = some (Box g cs)) (hx : oval L x = some (.pointer (some ⟨g, 0, none⟩))) (hy : oval L y = some (.agg ⟨vs⟩)) (hz : agT tb.ags T = some vs.length) (hb : (evenB vs cs && vs.all (fun u => u.oneCell')) = true) (hs : setO lr i (Box g vs) = some lr') (k : ∀ w', Sep w0 lr' w' → wpList Tryz.prog ops Q rest a w') : wpList Tryz.prog ops Q (⟨none, .store T x y, ty, ps, af, none⟩ :: rest) a w := by
 simp only [Bool.and_eq_true] at hb
 refine wl_storew hF hS hi (oval_ev hF hx) (oval_ev hF hy) (ag_of hz).2 hb.1 hb.2 fun w' h => k w' ?_
 rw [← (setO_of hs).1]; exact h
theorem wv {T ty : TypeId} {ps : String} {af : Array Edge} {x y : Operand} {q : Nat} {cs' : List Value} (i : Nat) (hF : Fr n L a) (hS : Sep w0 lr w) (hi : lr[i]? = some (Box g cs)) (hx : oval L x = some (.pointer (some ⟨g, q, none⟩))) (hy : oval L y = some v) (hz : (memT t1 T && v.oneCell') = true) (hc : setO cs q v = some cs') (hs : setO lr i (Box g cs') = some lr') (k : ∀ w', Sep w0 lr' w' → wpList Tryz.prog ops Q rest a w') : wpList Tryz.prog ops Q (⟨none, .store T x y, ty, ps, af, none⟩ :: rest) a w := by
 simp only [Bool.and_eq_true] at hz
 obtain ⟨e, hq⟩ := setO_of hc
 refine wl_store hF hS hi (t1_of t1k hz.1) (oval_ev hF hx) (oval_ev hF hy) hz.2 (by simp [hq]) fun w' h => k w' ?_
 rw [e, (setO_of hs).1] at h; exact h
/-- a store into a field of the thread that is stepped -/
theorem es {T ty : TypeId} {ps : String} {af : Array Edge} {x y : Operand} {p i oo m kc : Nat} {xs : List Sl.Thread} {t : Sl.Thread} {f0 f1 f2 f3 f4 f5 f6 f7 f8 f9 f10 f11 f12 f13 : Int} {h0 h1 h4 : List Int} {h2 h3 : List Entry} (q j : Nat) (hF : Fr n L a) (hS : Sep w0 lr w) (hi : i < xs.length) (hq : lr[q]? = some (Own threadEK (.slice (some ⟨g, oo, none⟩) m kc) (xs.set i t)))
    (hx : oval L x = some (.pointer (some ⟨g, p, none⟩))) (hpe : p = oo + i * threadEK.sz + j) (hy : oval L y = some v) (hz : (memT t1 T && v.oneCell') = true) (hs : setO lr q (Own threadEK (.slice (some ⟨g, oo, none⟩) m kc) (xs.set i ⟨f0, ⟨f1, f2, f3⟩, ⟨f4, f5⟩, f6, f7, f8, f9, f10, f11, f12, f13, h0, h1, h2, h3, h4⟩)) = some lr')
    (k : ∀ w', Sep w0 lr' w' → wpList Tryz.prog ops Q rest a w')
    (hj : ∀ vs, ((threadEK.cells t vs)[j]?).isSome = true := by (intro _; rfl)) (hc : ∀ vs, (threadEK.cells t vs).set j v = threadEK.cells ⟨f0, ⟨f1, f2, f3⟩, ⟨f4, f5⟩, f6, f7, f8, f9, f10, f11, f12, f13, h0, h1, h2, h3, h4⟩ vs := by (intro _; dsimp only [threadEK, Thread.encv, List.set] <;> rfl)) (hn : ∀ vs, threadEK.inner ⟨f0, ⟨f1, f2, f3⟩, ⟨f4, f5⟩, f6, f7, f8, f9, f10, f11, f12, f13, h0, h1, h2, h3, h4⟩ vs = threadEK.inner t vs := by (intro _; rfl)) : wpList Tryz.prog ops Q (⟨none, .store T x y, ty, ps, af, none⟩ :: rest) a w := by
  simp only [Bool.and_eq_true] at hz
  refine wl_estore (q := q) (j := j) _ hF hS hi hq (t1_of t1k hz.1) (oval_ev hF hx) hpe (oval_ev hF hy) hz.2 hj hc hn fun w' h => k w' ?_
  rw [(setO_of hs).1] at h; exact h
end
/-! runs of plain operations in regions that draw their order -/
def nthO {α : Type} : List α → Nat → Option α
  | [], _ => none
  | x :: _, 0 => some x
  | _ :: l, n + 1 => nthO l n
theorem nthO_of {α : Type} : ∀ {l : List α} {n : Nat}, nthO l n = l[n]?
  | [], n => by simp [nthO]
  | x :: l, 0 => by simp [nthO]
  | x :: l, n + 1 => by simp [nthO, nthO_of (l := l)]
def tpB (ops : Array Oper) (T : Alcs) (muts : List Nat) : Nat → List Nat → Bool
  | 0, _ => true
  | m + 1, i :: is => pureB ops T muts i is && tpB ops T muts m is
  | _ + 1, [] => false
def tpV (ops : Array Oper) (T : Alcs) (n : Nat) : Nat → List Nat → List (Nat × Value) → Option (List (Nat × Value) × List Nat)
  | 0, is, L => some (L, is)
  | _ + 1, [], _ => none
  | m + 1, i :: is, L => match nthO ops.toList i with
    | none => none
    | some o => match o.dst with
      | none => none
      | some d => match Nat.ble (d + 1) n && T.all (fun t => t.2.1 != d) with
        | false => none
        | true => match wantL ops L o with
          | none => none
          | some false => tpV ops T n m is ((d, undef) :: L)
          | some true => match pureV tb L o.op with
            | some v => tpV ops T n m is ((d, v) :: L)
            | none => none
section
variable {ops : Array Oper} {Q : Exit → Act → World → Prop} {wd W : World} {T : Alcs} {muts : List Nat} {n : Nat} {L' : List (Nat × Value)} {l r : List Res} {X : Type} {lf : X → List Res → List Res} {is' : List Nat}
theorem tpV_one {i : Nat} {is : List Nat} {m : Nat} {L : List (Nat × Value)} (h : tpV ops T n (m + 1) (i :: is) L = some (L', is')) : ∃ o d v, ops[i]? = some o ∧ o.dst = some d ∧ Nat.ble (d + 1) n = true ∧ T.all (fun t => t.2.1 != d) = true ∧ (∀ (C : World → Prop) a, Fr n L a → YieldsIf Tryz.prog ops C o v a) ∧ tpV ops T n m is ((d, v) :: L) = some (L', is') := by
 simp only [tpV] at h
 split at h
 · cases h
 rename_i o ho
 rw [nthO_of] at ho
 split at h
 · cases h
 rename_i d hd
 split at h
 · cases h
 rename_i hb
 simp only [Bool.and_eq_true] at hb
 have ho' : ops[i]? = some o := by rw [← ho]; simp
 split at h
 · cases h
 · rename_i hw
   exact ⟨o, d, undef, ho', hd, hb.1, hb.2, fun C a hF => .inr ⟨want_of hF hw, rfl⟩, h⟩
 · rename_i hw
   split at h
   · rename_i v hv
     exact ⟨o, d, v, ho', hd, hb.1, hb.2, fun C a hF => .inl ⟨want_of hF hw, fun w _ => pureV_run tk hF hv⟩, h⟩
   · cases h
theorem tp : ∀ (m : Nat) {is : List Nat} {L : List (Nat × Value)} (hl : Lay Tryz.prog ops T n) (h : tpV ops T n m is L = some (L', is')) (k : ∀ rem a w, Rem T rem → Fr n L' a → At T wd W l rem a w → Todo Tryz.prog ops Q wd muts rem is' a w) (hk : tpB ops T muts m is = true := by kernel_rfl),
    ∀ rem a w, Rem T rem → Fr n L a → At T wd W l rem a w → Todo Tryz.prog ops Q wd muts rem is a w
  | 0, is, L, hl, h, k, hk => by simp only [tpV, Option.some.injEq, Prod.mk.injEq] at h; obtain ⟨rfl, rfl⟩ := h; exact k
  | m + 1, [], L, hl, h, k, hk => by simp [tpV] at h
  | m + 1, i :: is, L, hl, h, k, hk => by
    obtain ⟨o, d, v, ho, hd, hb, hT, hy, h'⟩ := tpV_one h
    simp only [tpB, Bool.and_eq_true] at hk
    exact todo_pureY hl hk.1 ho hd hb hT (hy _) (tp m hl h' k hk.2)
theorem tq : ∀ (m : Nat) {is : List Nat} {L : List (Nat × Value)} (h : tpV ops [] n m is L = some (L', is')) (k : ∀ a w, Fr n L' a → Sep W l w → JX W lf r w → TJ Tryz.prog ops Q (JX W lf r) muts is' a w) (hk : tpB ops [] muts m is = true := by kernel_rfl),
    ∀ a w, Fr n L a → Sep W l w → JX W lf r w → TJ Tryz.prog ops Q (JX W lf r) muts is a w
  | 0, is, L, h, k, hk => by simp only [tpV, Option.some.injEq, Prod.mk.injEq] at h; obtain ⟨rfl, rfl⟩ := h; exact k
  | m + 1, [], L, h, k, hk => by simp [tpV] at h
  | m + 1, i :: is, L, h, k, hk => by
    obtain ⟨o, d, v, ho, hd, hb, hT, hy, h'⟩ := tpV_one h
    simp only [tpB, Bool.and_eq_true] at hk
    exact tj_pureY hk.1 ho hd hb (hy _) (tq m h' k hk.2)
end
/-! parts in another order -/
def permK (A T : List Res) : List Nat → Option (List Res)
  | [] => some T
  | i :: σ => match nthO A i with
    | some x => match permK A T σ with
      | some l => some (x :: l)
      | none => none
    | none => none
def permO (n : Nat) (σ : List Nat) (l : List Res) : Option (List Res) := match splitO n l with
  | some (A, T) => permK A T σ
  | none => none
theorem permK_of {A T : List Res} : ∀ {σ : List Nat} {l : List Res}, permK A T σ = some l → ∃ B, l = B ++ T ∧ σ.map (fun i => A[i]?) = B.map some ∧ σ.all (fun i => decide (i < A.length)) = true
  | [], l, h => by simp only [permK, Option.some.injEq] at h; exact ⟨[], by simp [h], rfl, rfl⟩
  | i :: σ, l, h => by
    simp only [permK] at h
    split at h
    · rename_i x hx
      split at h
      · rename_i l' hl
        simp only [Option.some.injEq] at h
        obtain ⟨B, h1, h2, h3⟩ := permK_of hl
        rw [nthO_of] at hx
        have := (List.getElem?_eq_some_iff.1 hx).1
        exact ⟨x :: B, by rw [← h, h1]; rfl, by rw [List.map_cons, List.map_cons, hx, h2], by rw [List.all_cons, h3]; simp [this]⟩
      · cases h
    · cases h
theorem _root_.Go.Proofs.YtgofolgogfmhgaaGreat.Sl.Sep.pm {w0 w : World} {l l' : List Res} (h : Sl.Sep w0 l w) (n : Nat) (σ : List Nat) (hp : permO n σ l = some l') (hn : σ.Nodup := by decide) : Sl.Sep w0 l' w := by
 unfold permO at hp
 split at hp
 · rename_i A T hs
   obtain ⟨B, rfl, h2, h3⟩ := permK_of hp
   obtain ⟨rfl, _⟩ := splitO_of hs
   exact Sl.Sep.headp h σ hn h3 h2
 · cases hp
theorem cfr {f : FuncId} {fn : Func} {c : Code} {args : List Value} {w : World} {R : Ending → World → Prop} {n : Nat} (hf : Tryz.prog.funcs[f]? = some fn) (hn : fn.ntmps = n) (h : ∀ a, Fr n (en 0 args) a → c.wp Tryz.prog (bodyPost Tryz.prog fn R) a w) (hb : fn.body = some c := by exact rfl) (hl : Nat.ble args.length n = true := by exact rfl) : Calls Tryz.prog f args.toArray w R := calls_fr hf hb hn hl h
theorem ag25 : aggB Tryz.prog 25 = true := by kernel_rfl
theorem ag29 : aggB Tryz.prog 29 = true := by kernel_rfl
theorem ag31 : aggB Tryz.prog 31 = true := by kernel_rfl
theorem ag42 : aggB Tryz.prog 42 = true := by kernel_rfl
theorem ag83 : aggB Tryz.prog 83 = true := by kernel_rfl
theorem bd83 : Tryz.prog.built 83 [] = some [.int .i64 0, .int .i64 0, .int .i64 0, .int .i64 0].toArray := by kernel_rfl
theorem en46 : enterB Tryz.prog 46 = true := by kernel_rfl
theorem en89 : enterB Tryz.prog 89 = true := by kernel_rfl
theorem en125 : enterB Tryz.prog 125 = true := by kernel_rfl
theorem en130 : enterB Tryz.prog 130 = true := by kernel_rfl
theorem en131 : enterB Tryz.prog 131 = true := by kernel_rfl
theorem en137 : enterB Tryz.prog 137 = true := by kernel_rfl
theorem en138 : enterB Tryz.prog 138 = true := by kernel_rfl
theorem en156 : enterB Tryz.prog 156 = true := by kernel_rfl
theorem en196 : enterB Tryz.prog 196 = true := by kernel_rfl
theorem en202 : enterB Tryz.prog 202 = true := by kernel_rfl
theorem mk26 : mkB Tryz.prog 26 = some ([.int .i64 0], 1, 8) := by kernel_rfl
theorem mk142 : mkB Tryz.prog 142 = some ([.string ⟨#[]⟩], 1, 16) := by kernel_rfl
theorem sc3 : scalB Tryz.prog 3 = true := by kernel_rfl
theorem sc9 : scalB Tryz.prog 9 = true := by kernel_rfl
theorem sc26 : scalB Tryz.prog 26 = true := by kernel_rfl
theorem sc27 : scalB Tryz.prog 27 = true := by kernel_rfl
theorem sc40 : scalB Tryz.prog 40 = true := by kernel_rfl
theorem sl26 : slB Tryz.prog 26 = some (1, 8) := by kernel_rfl
theorem sl27 : slB Tryz.prog 27 = some (19, 232) := by kernel_rfl
theorem sl40 : slB Tryz.prog 40 = some (4, 32) := by kernel_rfl
theorem sl142 : slB Tryz.prog 142 = some (1, 16) := by kernel_rfl
theorem sz25 : szB Tryz.prog 25 = some 6 := by kernel_rfl
theorem sz29 : szB Tryz.prog 29 = some 13 := by kernel_rfl
theorem sz31 : szB Tryz.prog 31 = some 3 := by kernel_rfl
theorem sz42 : szB Tryz.prog 42 = some 19 := by kernel_rfl
theorem sz83 : szB Tryz.prog 83 = some 4 := by kernel_rfl
theorem ul26 : Tryz.prog.underlying 26 = some (.slice (Tryz.prog.elem 26)) := by kernel_rfl
theorem ul40 : Tryz.prog.underlying 40 = some (.slice (Tryz.prog.elem 40)) := by kernel_rfl
theorem zr25 : zeroOf Tryz.prog 25 = some [.int .i64 0, .int .i64 0, .int .i64 0, .int .i64 0, .int .i64 0, .int .i64 0] := by kernel_rfl
theorem zr42 : zeroOf Tryz.prog 42 = some [.int .i64 0, .int .i64 0, .int .i64 0, .int .i64 0, .int .i64 0, .int .i64 0, .int .i64 0, .int .i64 0, .int .i64 0, .int .i64 0, .int .i64 0, .int .i64 0, .int .i64 0, .int .i64 0, .slice none 0 0, .slice none 0 0, .slice none 0 0, .slice none 0 0, .slice none 0 0] := by kernel_rfl
theorem zr83 : zeroOf Tryz.prog 83 = some [.int .i64 0, .int .i64 0, .int .i64 0, .int .i64 0] := by kernel_rfl
set_option maxRecDepth 20000
theorem wk {k : Nat} (h : k < 9223372036854775807) : vi (IntKind.i64.wrap ((k : Int) + 1)) = vi ((k + 1 : Nat) : Int) := by
 rw [w64_id (by omega) (by omega)]; rfl
section
variable {α : Type} {xs ys : List α} {k : Nat} {x y : α}
theorem take_next (h : xs.take k = ys.take k) (hx : xs[k]? = some x) (hy : ys[k]? = some y) (e : x = y) : xs.take (k + 1) = ys.take (k + 1) := by
 rw [List.take_add_one, List.take_add_one, h, hx, hy, e]
variable [DecidableEq α]
theorem eq_len (h : ¬ (xs.length : Int) = ys.length) : Value.bool false = .bool (decide (xs = ys)) := by
 rw [decide_eq_false]; intro e; exact h (by rw [e])
theorem eq_at (hx : xs[k]? = some x) (hy : ys[k]? = some y) (h : ¬ x = y) : Value.bool false = .bool (decide (xs = ys)) := by
 rw [decide_eq_false]; intro e; subst e; rw [hx] at hy; exact h (Option.some.inj hy)
theorem eq_all (h : xs.take k = ys.take k) (hk : k ≤ xs.length) (hl : xs.length = ys.length) (h1 : ¬ (k : Int) < xs.length) : Value.bool true = .bool (decide (xs = ys)) := by
 rw [decide_eq_true]
 have : k = xs.length := by omega
 subst this
 rw [List.take_length, hl, List.take_length] at h
 exact h
end
set_option maxRecDepth 20000
/-- what a row counts, element by element; what marking makes of it -/
def crow {α : Type} (c : α → Nat) : List α → Nat
  | [] => 0
  | x :: xs => c x + crow c xs
section
variable {α : Type} {f : Int → α → α} {c : α → Nat} {xs : List α} {x : α} {k : Nat}
theorem crow_append (xs ys : List α) : crow c (xs ++ ys) = crow c xs + crow c ys := by
 induction xs with
 | nil => simp [crow]
 | cons x xs ih => simp only [List.cons_append, crow, ih]; omega
theorem crow_next (hx : xs[k]? = some x) : crow c (xs.take (k + 1)) = crow c (xs.take k) + c x := by
 rw [List.take_add_one, hx, crow_append]; simp [crow]
theorem crow_le (xs : List α) (k : Nat) : crow c (xs.take k) ≤ crow c xs := by
 have := crow_append (c := c) (xs.take k) (xs.drop k)
 rw [List.take_append_drop] at this
 omega
theorem crow_le1 (hx : xs[k]? = some x) : crow c (xs.take k) + c x ≤ crow c xs := by
 rw [← crow_next hx]; exact crow_le _ _
end
def _root_.Go.Proofs.YtgofolgogfmhgaaGreat.Sl.Model.size (m : Model) : Nat := m.values.length + (m.snapshots.length + crow List.length m.snapshots)
set_option maxRecDepth 20000
set_option maxRecDepth 20000
/-- handles, as the reference reads them -/
def isHandle (h : Int) : Bool := decide (1 < h) && decide (0 < h / 2 % 64) && decide (h / 2 / 64 ≤ 9999)
def indexOf (h : Int) : Int := if isHandle h = true then h / 2 % 64 - 1 else -1
def genOf (h : Int) : Int := if isHandle h = true then h / 2 / 64 else -1
def isMarked (h : Int) : Bool := decide (h = 1) || (isHandle h && decide (h % 2 = 1))
def unmarked (h : Int) : Int := if isMarked h = true then h - 1 else h
def isNode (c : Config) (h : Int) : Bool := isHandle h && decide (indexOf h < c.capacity)
def isLink (c : Config) (h : Int) : Bool := decide (h = 0) || (isNode c h && !isMarked h)
def zeroOk (c : Config) (h : Int) : Bool := decide (unmarked h = 0) || isNode c (unmarked h)
section
variable {h : Int}
theorem isHandle_iff : isHandle h = true ↔ 1 < h ∧ 0 < h / 2 % 64 ∧ h / 2 / 64 ≤ 9999 := by
 simp only [isHandle, Bool.and_eq_true, decide_eq_true_eq, and_assoc]
theorem half_pos (h0 : 0 ≤ h) (h1 : int64 h) : IntKind.i64.wrap (h.tdiv 2) = h / 2 := by
 unfold int64 at h1
 rw [Int.tdiv_eq_ediv_of_nonneg h0, w64_id (by omega) (by omega)]
theorem q64_pos (h0 : 0 ≤ h) (h1 : int64 h) : IntKind.i64.wrap (h.tdiv 64) = h / 64 := by
 unfold int64 at h1
 rw [Int.tdiv_eq_ediv_of_nonneg h0, w64_id (by omega) (by omega)]
theorem rem_pos (m : Int) (h0 : 0 ≤ h) : h.tmod m = h % m := Int.tmod_eq_emod_of_nonneg h0
theorem int64_half (h1 : int64 h) (h0 : 0 ≤ h) : int64 (h / 2) := by unfold int64 at *; omega
theorem isMarked_unmarked : isMarked (unmarked h) = false := by
 unfold unmarked
 split
 · rename_i hm
   unfold isMarked at hm ⊢
   simp only [Bool.or_eq_true, Bool.and_eq_true, decide_eq_true_eq, isHandle_iff, Bool.or_eq_false_iff, decide_eq_false_iff_not, Bool.and_eq_false_iff] at hm ⊢
   omega
 · rename_i hm; simpa using hm
theorem isLink_unmarked {c : Config} : isLink c (unmarked h) = zeroOk c h := by simp [isLink, zeroOk, isMarked_unmarked]
theorem isLink_zero {c : Config} : isLink c h = (zeroOk c h && !isMarked h) := by
 unfold zeroOk unmarked isLink
 split
 · rename_i hm
   have : ¬ h = 0 := by
     intro e; subst e; revert hm; decide
   simp [hm, this]
 · rename_i hm
   have hm' : isMarked h = false := by simpa using hm
   simp [hm']
theorem unmark_wrap (hm : isMarked h = true) (h1 : int64 h) : IntKind.i64.wrap (h - 1) = h - 1 := by
 unfold isMarked at hm
 simp only [Bool.or_eq_true, Bool.and_eq_true, decide_eq_true_eq, isHandle_iff] at hm
 unfold int64 at h1
 exact w64_id (by omega) (by omega)
theorem int64_unmarked (h1 : int64 h) : int64 (unmarked h) := by
 unfold unmarked
 split
 · rename_i hm
   unfold isMarked at hm
   simp only [Bool.or_eq_true, Bool.and_eq_true, decide_eq_true_eq, isHandle_iff] at hm
   unfold int64 at *; omega
 · exact h1
end
theorem specIsHandle_c {W : World} {h : Int} (h1 : int64 h) : Calls Tryz.prog 157 #[vi h] W (Ret fun v w' => v = .bool (isHandle h) ∧ Below W.heap.size W w') := by
 refine cfr Tryz.func157 Tryz.ntmps157 fun a hF => ?_
 have hS := Sep.refl W
 refine rg hF rfl fun a hF => ws fun K2 hK2 => ga 1 hF rfl fun a hF => wl hF rfl rfl rfl (r_quo (by first | decide | omega) (hF.ev rfl) ec) fun a hF => ge hK2 hF rfl fun a hF => ws fun K3 hK3 => ga 3 hF rfl fun a hF => ?_
 apply wa 4 8 12 hF hS
 ·
  intro hg8 a hF
  refine ga 1 hF rfl fun a hF => wl_take hF rfl rfl rfl rfl <| wl hF rfl rfl rfl (r_rem (by first | decide | omega) (hF.ev rfl) ec) fun a hF => ?_
  exact je 4 hF hS rfl rfl rfl rfl
 intro a w1 hF hS
 refine ga 1 hF rfl fun a hF => ?_
 apply wa 4 13 17 hF hS
 ·
  intro hg13 a hF
  refine ga 1 hF rfl fun a hF => wl_take hF rfl rfl rfl rfl <| wl hF rfl rfl rfl (r_quo (by first | decide | omega) (hF.ev rfl) ec) fun a hF => ?_
  exact je 4 hF hS rfl rfl rfl rfl
 intro a w2 hF hS
 refine ge hK3 hF rfl fun a hF => ?_
 refine xr ?_
 refine ret1 rfl hF rfl ⟨congrArg Value.bool ?_, hS.old⟩
 by_cases h0 : 0 ≤ h
 · rw [half_pos h0 h1, rem_pos _ (by omega), q64_pos (by omega) (int64_half h1 h0)]; rfl
 · unfold isHandle; rw [decide_eq_false (show ¬ 1 < h by omega)]; rfl
theorem specIndexOf_c {W : World} {h : Int} (h1 : int64 h) : Calls Tryz.prog 110 #[vi h] W (Ret fun v w' => v = vi (indexOf h) ∧ Below W.heap.size W w') := by
 refine cfr Tryz.func110 Tryz.ntmps110 fun a hF => ?_
 have hS := Sep.refl W
 refine rg hF rfl fun a hF => wp_seq_k fun K2 hK2 => ws fun K3 hK3 => ga 1 hF rfl fun a hF => ckr hF hS rfl (specIsHandle_c h1) fun w1 a hS hF => ge hK3 hF rfl fun a hF => cx 5 hF rfl (fun c5 hF => ?_) fun c5 hF => ?_
 ·
  refine rg hF rfl fun a hF => ?_
  refine xr ?_
  refine ret1 rfl hF rfl ⟨?_, hS.old⟩
  unfold indexOf; rw [c5]
  first | rfl | (have hi := isHandle_iff.1 c5; have h1u := h1; unfold int64 at h1u; rw [if_pos rfl, half_pos (by omega) h1, rem_pos _ (by omega), w64_id (by omega) (by omega)])
 refine wp_skip <| hK2 _ _ <| ws fun K5 hK5 => ga 1 hF rfl fun a hF => wl hF rfl rfl rfl (r_quo (by first | decide | omega) (hF.ev rfl) ec) fun a hF => wl hF rfl rfl rfl (r_rem (by first | decide | omega) (hF.ev rfl) ec) fun a hF => ge hK5 hF rfl fun a hF => ?_
 refine xr ?_
 refine ret1 rfl hF rfl ⟨?_, hS.old⟩
 unfold indexOf; rw [c5]
 first | rfl | (have hi := isHandle_iff.1 c5; have h1u := h1; unfold int64 at h1u; rw [if_pos rfl, half_pos (by omega) h1, rem_pos _ (by omega), w64_id (by omega) (by omega)])
theorem specGenOf_c {W : World} {h : Int} (h1 : int64 h) : Calls Tryz.prog 189 #[vi h] W (Ret fun v w' => v = vi (genOf h) ∧ Below W.heap.size W w') := by
 refine cfr Tryz.func189 Tryz.ntmps189 fun a hF => ?_
 have hS := Sep.refl W
 refine rg hF rfl fun a hF => wp_seq_k fun K2 hK2 => ws fun K3 hK3 => ga 1 hF rfl fun a hF => ckr hF hS rfl (specIsHandle_c h1) fun w1 a hS hF => ge hK3 hF rfl fun a hF => cx 5 hF rfl (fun c5 hF => ?_) fun c5 hF => ?_
 ·
  refine rg hF rfl fun a hF => ?_
  refine xr ?_
  refine ret1 rfl hF rfl ⟨?_, hS.old⟩
  unfold genOf; rw [c5]
  first | rfl | (have hi := isHandle_iff.1 c5; rw [if_pos rfl, half_pos (by omega) h1, q64_pos (by omega) (int64_half h1 (by omega))])
 refine wp_skip <| hK2 _ _ <| ws fun K5 hK5 => ga 1 hF rfl fun a hF => wl hF rfl rfl rfl (r_quo (by first | decide | omega) (hF.ev rfl) ec) fun a hF => wl hF rfl rfl rfl (r_quo (by first | decide | omega) (hF.ev rfl) ec) fun a hF => ge hK5 hF rfl fun a hF => ?_
 refine xr ?_
 refine ret1 rfl hF rfl ⟨?_, hS.old⟩
 unfold genOf; rw [c5]
 first | rfl | (have hi := isHandle_iff.1 c5; rw [if_pos rfl, half_pos (by omega) h1, q64_pos (by omega) (int64_half h1 (by omega))])
theorem specIsMarked_c {W : World} {h : Int} (h1 : int64 h) : Calls Tryz.prog 96 #[vi h] W (Ret fun v w' => v = .bool (isMarked h) ∧ Below W.heap.size W w') := by
 refine cfr Tryz.func96 Tryz.ntmps96 fun a hF => ?_
 have hS := Sep.refl W
 refine rg hF rfl fun a hF => ws fun K2 hK2 => ga 3 hF rfl fun a hF => ?_
 apply wo 8 5 13 hF hS
 ·
  intro hg5 a hF
  refine ga 1 hF rfl fun a hF => ckr hF hS rfl (specIsHandle_c h1) fun w1 a hS hF => ga 1 hF rfl fun a hF => ?_
  apply wa 4 8 12 hF hS
  ·
   intro hg8 a hF
   refine ga 1 hF rfl fun a hF => wl_take hF rfl rfl rfl rfl <| wl hF rfl rfl rfl (r_rem (by first | decide | omega) (hF.ev rfl) ec) fun a hF => ?_
   exact je 4 hF hS rfl rfl rfl rfl
  intro a w2 hF hS
  exact je 5 hF hS rfl rfl rfl rfl
 intro a w3 hF hS
 refine ge hK2 hF rfl fun a hF => ?_
 refine xr ?_
 refine ret1 rfl hF rfl ⟨congrArg Value.bool ?_, hS.old⟩
 by_cases h0 : 0 ≤ h
 · rw [rem_pos _ h0]; rfl
 · have e : isHandle h = false := by rw [Bool.eq_false_iff]; intro e; rw [isHandle_iff] at e; omega
   unfold isMarked; rw [e, Bool.false_and, Bool.false_and]
theorem specUnmarked_c {W : World} {h : Int} (h1 : int64 h) : Calls Tryz.prog 156 #[vi h] W (Ret fun v w' => v = vi (unmarked h) ∧ Below W.heap.size W w') := by
 refine cfr Tryz.func156 Tryz.ntmps156 fun a hF => ?_
 have hS := Sep.refl W
 refine rg hF rfl fun a hF => wp_seq_k fun K2 hK2 => ws fun K3 hK3 => ga 1 hF rfl fun a hF => ckr hF hS rfl (specIsMarked_c h1) fun w1 a hS hF => wl_nil <| hK3 _ _ <| cx 4 hF rfl (fun c4 hF => ?_) fun c4 hF => ?_
 ·
  refine rg hF rfl fun a hF => ?_
  refine xr ?_
  refine ret1 rfl hF rfl ⟨?_, hS.old⟩
  unfold unmarked; rw [c4]
  first | rfl | (rw [if_pos rfl, unmark_wrap c4 h1])
 refine wp_skip <| hK2 _ _ <| rg hF rfl fun a hF => ?_
 refine xr ?_
 refine ret1 rfl hF rfl ⟨?_, hS.old⟩
 unfold unmarked; rw [c4]
 first | rfl | (rw [if_pos rfl, unmark_wrap c4 h1])
theorem parts_c {W : World} {h : Int} (h1 : int64 h) : Calls Tryz.prog 162 #[vi h] W (Ret fun v w' => v = .tuple #[vi (indexOf h), vi (genOf h), .bool (isHandle h)] ∧ Below W.heap.size W w') := by
 refine cfr Tryz.func162 Tryz.ntmps162 fun a hF => ?_
 have hS := Sep.refl W
 refine rg hF rfl fun a hF => wp_seq_k fun K2 hK2 => rg hF rfl fun a hF => cx 7 hF rfl (fun c7 hF => ?_) fun c7 hF => ?_
 ·
  refine rg hF rfl fun a hF => ?_
  refine xr ?_
  first
    | (have e : isHandle h = false := by rw [Bool.eq_false_iff]; intro e; rw [isHandle_iff] at e; omega
       exact ret3 rfl hF rfl rfl rfl ⟨by unfold indexOf genOf; rw [e]; rfl, hS.old⟩)
    | (have e : isHandle h = true := by rw [isHandle_iff]; omega
       refine ret3 rfl hF rfl rfl rfl ⟨?_, hS.old⟩
       unfold indexOf genOf; rw [e, if_pos rfl, if_pos rfl]
       rw [hw3, hw4, show (h / 2 - 1) % 64 = h / 2 % 64 - 1 by omega, show (h / 2 - 1) / 64 = h / 2 / 64 by omega])
 have hw1 := half_pos (by omega) h1
 have h1u := h1; unfold int64 at h1u
 have hw2 : IntKind.i64.wrap (h / 2 - 1) = h / 2 - 1 := w64_id (by omega) (by omega)
 have hw3 := rem_pos (h := h / 2 - 1) 64 (by omega)
 have hw4 := q64_pos (h := h / 2 - 1) (by omega) (by unfold int64; omega)
 refine wp_skip <| hK2 _ _ <| ws fun K5 hK5 => ga 1 hF rfl fun a hF => wl hF rfl rfl rfl (r_quo (by first | decide | omega) (hF.ev rfl) ec) fun a hF => ge hK5 hF rfl fun a hF => wp_seq_k fun K6 hK6 => ?_
 refine ws fun K7 hK7 => ga 1 hF rfl fun a hF => wl hF rfl rfl rfl (r_rem (by first | decide | omega) (hF.ev rfl) ec) fun a hF => ga 2 hF rfl fun a hF => ?_
 apply wo 4 14 18 hF hS
 ·
  intro hg14 a hF
  refine ga 1 hF rfl fun a hF => wl_take hF rfl rfl rfl rfl <| wl hF rfl rfl rfl (r_quo (by first | decide | omega) (hF.ev rfl) ec) fun a hF => ?_
  exact je 4 hF hS rfl rfl rfl rfl
 intro a w1 hF hS
 refine wl_nil <| hK7 _ _ <| cx 18 hF rfl (fun c18 hF => ?_) fun c18 hF => ?_
 ·
  rw [hw1, hw2, hw3, hw4] at c18
  refine rg hF rfl fun a hF => ?_
  refine xr ?_
  first
    | (have e : isHandle h = false := by rw [Bool.eq_false_iff]; intro e; rw [isHandle_iff] at e; omega
       exact ret3 rfl hF rfl rfl rfl ⟨by unfold indexOf genOf; rw [e]; rfl, hS.old⟩)
    | (have e : isHandle h = true := by rw [isHandle_iff]; omega
       refine ret3 rfl hF rfl rfl rfl ⟨?_, hS.old⟩
       unfold indexOf genOf; rw [e, if_pos rfl, if_pos rfl]
       rw [hw3, hw4, show (h / 2 - 1) % 64 = h / 2 % 64 - 1 by omega, show (h / 2 - 1) / 64 = h / 2 / 64 by omega])
 rw [hw1, hw2, hw3, hw4] at c18
 rw [hw1, hw2, hw3, hw4] at hF
 refine wp_skip <| hK6 _ _ <| ws fun K9 hK9 => ga 1 hF rfl fun a hF => wl hF rfl rfl rfl (r_rem (by first | decide | omega) (hF.ev rfl) ec) fun a hF => ga 1 hF rfl fun a hF => wl hF rfl rfl rfl (r_quo (by first | decide | omega) (hF.ev rfl) ec) fun a hF => ?_
 refine ge hK9 hF rfl fun a hF => ?_
 refine xr ?_
 first
   | (have e : isHandle h = false := by rw [Bool.eq_false_iff]; intro e; rw [isHandle_iff] at e; omega
      exact ret3 rfl hF rfl rfl rfl ⟨by unfold indexOf genOf; rw [e]; rfl, hS.old⟩)
   | (have e : isHandle h = true := by rw [isHandle_iff]; omega
      refine ret3 rfl hF rfl rfl rfl ⟨?_, hS.old⟩
      unfold indexOf genOf; rw [e, if_pos rfl, if_pos rfl]
      rw [hw3, hw4, show (h / 2 - 1) % 64 = h / 2 % 64 - 1 by omega, show (h / 2 - 1) / 64 = h / 2 / 64 by omega])
theorem implIsHandle_c {W : World} {h : Int} (h1 : int64 h) : Calls Tryz.prog 173 #[vi h] W (Ret fun v w' => v = .bool (isHandle h) ∧ Below W.heap.size W w') := by
 refine cfr Tryz.func173 Tryz.ntmps173 fun a hF => ?_
 have hS := Sep.refl W
 refine rg hF rfl fun a hF => ws fun K2 hK2 => ga 1 hF rfl fun a hF => ckr hF hS rfl (parts_c h1) fun w1 a hS hF => ge hK2 hF rfl fun a hF => rg hF rfl fun a hF => ?_
 refine xr ?_
 exact ret1 rfl hF rfl ⟨rfl, hS.old⟩
theorem implIndexOf_c {W : World} {h : Int} (h1 : int64 h) : Calls Tryz.prog 107 #[vi h] W (Ret fun v w' => v = vi (indexOf h) ∧ Below W.heap.size W w') := by
 refine cfr Tryz.func107 Tryz.ntmps107 fun a hF => ?_
 have hS := Sep.refl W
 refine rg hF rfl fun a hF => ws fun K2 hK2 => ga 1 hF rfl fun a hF => ckr hF hS rfl (parts_c h1) fun w1 a hS hF => ge hK2 hF rfl fun a hF => rg hF rfl fun a hF => ?_
 refine xr ?_
 exact ret1 rfl hF rfl ⟨rfl, hS.old⟩
theorem implGenOf_c {W : World} {h : Int} (h1 : int64 h) : Calls Tryz.prog 192 #[vi h] W (Ret fun v w' => v = vi (genOf h) ∧ Below W.heap.size W w') := by
 refine cfr Tryz.func192 Tryz.ntmps192 fun a hF => ?_
 have hS := Sep.refl W
 refine rg hF rfl fun a hF => ws fun K2 hK2 => ga 1 hF rfl fun a hF => ckr hF hS rfl (parts_c h1) fun w1 a hS hF => ge hK2 hF rfl fun a hF => rg hF rfl fun a hF => ?_
 refine xr ?_
 exact ret1 rfl hF rfl ⟨rfl, hS.old⟩
theorem implIsMarked_c {W : World} {h : Int} (h1 : int64 h) : Calls Tryz.prog 137 #[vi h] W (Ret fun v w' => v = .bool (isMarked h) ∧ Below W.heap.size W w') := by
 refine cfr Tryz.func137 Tryz.ntmps137 fun a hF => ?_
 have hS := Sep.refl W
 refine rg hF rfl fun a hF => ws fun K2 hK2 => ga 3 hF rfl fun a hF => ?_
 apply wo 8 5 13 hF hS
 ·
  intro hg5 a hF
  refine ga 1 hF rfl fun a hF => ckr hF hS rfl (implIsHandle_c h1) fun w1 a hS hF => ga 1 hF rfl fun a hF => ?_
  apply wa 4 8 12 hF hS
  ·
   intro hg8 a hF
   refine ga 1 hF rfl fun a hF => wl_take hF rfl rfl rfl rfl <| wl hF rfl rfl rfl (r_rem (by first | decide | omega) (hF.ev rfl) ec) fun a hF => ?_
   exact je 4 hF hS rfl rfl rfl rfl
  intro a w2 hF hS
  exact je 5 hF hS rfl rfl rfl rfl
 intro a w3 hF hS
 refine ge hK2 hF rfl fun a hF => ?_
 refine xr ?_
 refine ret1 rfl hF rfl ⟨congrArg Value.bool ?_, hS.old⟩
 by_cases h0 : 0 ≤ h
 · rw [rem_pos _ h0]; rfl
 · have e : isHandle h = false := by rw [Bool.eq_false_iff]; intro e; rw [isHandle_iff] at e; omega
   unfold isMarked; rw [e, Bool.false_and, Bool.false_and]
theorem implUnmarked_c {W : World} {h : Int} (h1 : int64 h) : Calls Tryz.prog 130 #[vi h] W (Ret fun v w' => v = vi (unmarked h) ∧ Below W.heap.size W w') := by
 refine cfr Tryz.func130 Tryz.ntmps130 fun a hF => ?_
 have hS := Sep.refl W
 refine rg hF rfl fun a hF => wp_seq_k fun K2 hK2 => ws fun K3 hK3 => ga 1 hF rfl fun a hF => ckr hF hS rfl (implIsMarked_c h1) fun w1 a hS hF => wl_nil <| hK3 _ _ <| cx 4 hF rfl (fun c4 hF => ?_) fun c4 hF => ?_
 ·
  refine rg hF rfl fun a hF => ?_
  refine xr ?_
  refine ret1 rfl hF rfl ⟨?_, hS.old⟩
  unfold unmarked; rw [c4]
  first | rfl | (rw [if_pos rfl, unmark_wrap c4 h1])
 refine wp_skip <| hK2 _ _ <| rg hF rfl fun a hF => ?_
 refine xr ?_
 refine ret1 rfl hF rfl ⟨?_, hS.old⟩
 unfold unmarked; rw [c4]
 first | rfl | (rw [if_pos rfl, unmark_wrap c4 h1])
set_option maxRecDepth 20000
def _root_.Go.Proofs.YtgofolgogfmhgaaGreat.Sl.Thread.size (t : Sl.Thread) : Nat := t.found.length + t.free.length + t.buffer.length + t.work.length + t.limbo.length
set_option maxRecDepth 20000
/-- what IsOp asks -/
def _root_.Go.Proofs.YtgofolgogfmhgaaGreat.Sl.Op.ok (o : Sl.Op) : Prop := ((o.kind = 1 ∨ o.kind = 4 ∨ o.kind = 5) ∧ o.key = 0 ∧ o.value = 0) ∨ (o.kind = 2 ∧ (0 ≤ o.key ∧ o.key ≤ 9) ∧ o.value = 0) ∨ (o.kind = 3 ∧ (0 ≤ o.key ∧ o.key ≤ 9) ∧ (0 ≤ o.value ∧ o.value ≤ 99))
instance (o : Sl.Op) : Decidable o.ok := by unfold Sl.Op.ok; infer_instance
def cellCount (c : Config) : Int := if c.ok then 2 + 3 * c.threads + c.keys + 3 * c.capacity else 0
def announceCell (c : Config) (p : Int) : Int := if c.ok ∧ (0 ≤ p ∧ p ≤ c.threads - 1) then 2 + p else -1
def hazardCell (c : Config) (p s : Int) : Int := if c.ok ∧ (0 ≤ p ∧ p ≤ c.threads - 1) ∧ (0 ≤ s ∧ s ≤ 1) then 2 + c.threads + 2 * p + s else -1
def headCell (c : Config) (k : Int) : Int := if c.ok ∧ (0 ≤ k ∧ k ≤ c.keys - 1) then 2 + 3 * c.threads + k else -1
def nodeCell (c : Config) (i f : Int) : Int := if c.ok ∧ (0 ≤ i ∧ i ≤ c.capacity - 1) ∧ (0 ≤ f ∧ f ≤ 2) then 2 + 3 * c.threads + c.keys + 3 * i + f else -1
def isEntry (e : Entry) : Bool := isHandle e.handle && !isMarked e.handle && decide (0 ≤ e.key ∧ e.key ≤ 9) && decide (1 ≤ e.low ∧ e.low ≤ e.high) && decide (e.high ≤ 99)
def pcs : List Int := [0, 1, 2, 3, 4, 5, 10, 11, 12, 13, 14, 15, 16, 17, 18, 19, 20, 21, 30, 31, 32, 33, 34, 35, 36, 37, 38, 39, 40, 41, 42, 43, 44, 45, 46, 47, 50, 60, 61, 62, 63, 70, 80]
theorem wm1 {n : Int} (h0 : 0 ≤ n) (h1 : n ≤ 100) : IntKind.i64.wrap (n - 1) = n - 1 := w64_id (by omega) (by omega)
def pcNames : List ByteArray := [⟨#[105, 100, 108, 101]⟩, ⟨#[98, 101, 103, 105, 110, 32, 108, 111, 97, 100]⟩, ⟨#[98, 101, 103, 105, 110, 32, 97, 110, 110, 111, 117, 110, 99, 101]⟩, ⟨#[98, 101, 103, 105, 110, 32, 99, 104, 101, 99, 107]⟩, ⟨#[98, 101, 103, 105, 110, 32, 116, 105, 99, 107]⟩, ⟨#[98, 101, 103, 105, 110, 32, 99, 108, 101, 97, 114]⟩, ⟨#[119, 97, 108, 107, 32, 104, 101, 97, 100]⟩, ⟨#[119, 97, 108, 107, 32, 103, 117, 97, 114, 100]⟩, ⟨#[119, 97, 108, 107, 32, 99, 104, 101, 99, 107]⟩, ⟨#[119, 97, 108, 107, 32, 110, 101, 120, 116]⟩, ⟨#[119, 97, 108, 107, 32, 117, 110, 108, 105, 110, 107]⟩, ⟨#[119, 97, 108, 107, 32, 115, 104, 105, 102, 116]⟩, ⟨#[114, 101, 97, 100, 32, 115, 116, 97, 109, 112]⟩, ⟨#[114, 101, 97, 100, 32, 99, 108, 111, 99, 107]⟩, ⟨#[114, 101, 97, 100, 32, 104, 101, 108, 112]⟩, ⟨#[114, 101, 97, 100, 32, 118, 97, 108, 117, 101]⟩, ⟨#[114, 101, 97, 100, 32, 99, 108, 101, 97, 114]⟩, ⟨#[114, 101, 97, 100, 32, 100, 111, 110, 101]⟩, ⟨#[119, 114, 105, 116, 101, 32, 97, 114, 101, 110, 97]⟩, ⟨#[119, 114, 105, 116, 101, 32, 116, 97, 107, 101]⟩, ⟨#[119, 114, 105, 116, 101, 32, 118, 97, 108, 117, 101]⟩, ⟨#[119, 114, 105, 116, 101, 32, 114, 101, 115, 101, 116]⟩, ⟨#[119, 114, 105, 116, 101, 32, 103, 117, 97, 114, 100]⟩, ⟨#[119, 114, 105, 116, 101, 32, 104, 101, 97, 100]⟩, ⟨#[119, 114, 105, 116, 101, 32, 104, 97, 122, 97, 114, 100]⟩, ⟨#[119, 114, 105, 116, 101, 32, 99, 104, 101, 99, 107]⟩, ⟨#[119, 114, 105, 116, 101, 32, 115, 116, 97, 109, 112]⟩, ⟨#[119, 114, 105, 116, 101, 32, 99, 108, 111, 99, 107]⟩, ⟨#[119, 114, 105, 116, 101, 32, 104, 101, 108, 112]⟩, ⟨#[119, 114, 105, 116, 101, 32, 108, 105, 110, 107]⟩, ⟨#[119, 114, 105, 116, 101, 32, 112, 117, 98, 108, 105, 115, 104]⟩, ⟨#[119, 114, 105, 116, 101, 32, 111, 119, 110, 32, 99, 108, 111, 99, 107]⟩, ⟨#[119, 114, 105, 116, 101, 32, 111, 119, 110, 32, 115, 116, 97, 109, 112]⟩, ⟨#[119, 114, 105, 116, 101, 32, 114, 101, 116, 105, 114, 101]⟩, ⟨#[119, 114, 105, 116, 101, 32, 99, 108, 101, 97, 114]⟩, ⟨#[119, 114, 105, 116, 101, 32, 100, 111, 110, 101]⟩, ⟨#[115, 99, 97, 110, 32, 97, 110, 110, 111, 117, 110, 99, 101, 100]⟩, ⟨#[109, 97, 114, 107, 32, 108, 111, 97, 100]⟩, ⟨#[109, 97, 114, 107, 32, 115, 119, 97, 112]⟩, ⟨#[102, 108, 117, 115, 104, 32, 99, 108, 101, 97, 114]⟩, ⟨#[102, 108, 117, 115, 104, 32, 100, 111, 110, 101]⟩, ⟨#[115, 99, 97, 110, 32, 104, 97, 122, 97, 114, 100, 115]⟩, ⟨#[101, 110, 100, 32, 99, 108, 101, 97, 114]⟩]
theorem pcNames_ne {s : ByteArray} (h : s ∈ pcNames) : (s.data.toList == []) = false := by
 have : ∀ s ∈ pcNames, (s.data.toList == []) = false := by decide
 exact this s h
section
variable {α : Type} {xs : List α} {p : α → Bool} {x : α} {k : Nat}
theorem any_next (h : (xs.take k).any p = false) (hx : xs[k]? = some x) (hp : p x = false) : (xs.take (k + 1)).any p = false := by
 rw [List.take_add_one, hx, List.any_append, h]; simp [hp]
theorem any_at (hx : xs[k]? = some x) (hp : p x = true) : xs.any p = true := List.any_eq_true.2 ⟨x, List.mem_of_getElem? hx, hp⟩
theorem any_all (h : (xs.take k).any p = false) (hk : k ≤ xs.length) (h1 : ¬ (k : Int) < xs.length) : xs.any p = false := by
 have : k = xs.length := by omega
 subst this
 rwa [List.take_length] at h
end
theorem l1In_c {W : World} (x lo hi : Int) : Calls Tryz.prog 46 #[vi x, vi lo, vi hi] W (Ret fun v w' => v = .bool (decide (lo ≤ x ∧ x ≤ hi)) ∧ Below W.heap.size W w') := by
 refine cfr Tryz.func46 Tryz.ntmps46 fun a hF => ?_
 have hS := Sep.refl W
 refine rg hF rfl fun a hF => ws fun K2 hK2 => ga 4 hF rfl fun a hF => ?_
 revert hF; intro hF0; refine bsplit (t := 10) hF0 rfl (fun b10 hF => ?_) (fun b10 hF => ?_)
 ·
  clear hF0
  try simp only [decide_eq_true_eq, decide_eq_false_iff_not, Bool.not_eq_true', Bool.not_eq_false'] at b10
  refine ge hK2 hF rfl fun a hF => ?_
  refine xr ?_
  refine ret1 rfl hF rfl ⟨?_, hS.old⟩
  first | exact congrArg Value.bool (decide_eq_decide.2 (by omega)) | exact (congrArg Value.bool (decide_eq_false (by omega))).symm | exact (congrArg Value.bool (decide_eq_true (by omega))).symm
 clear hF0
 try simp only [decide_eq_true_eq, decide_eq_false_iff_not, Bool.not_eq_true', Bool.not_eq_false'] at b10
 refine ge hK2 hF rfl fun a hF => ?_
 refine xr ?_
 refine ret1 rfl hF rfl ⟨?_, hS.old⟩
 first | exact congrArg Value.bool (decide_eq_decide.2 (by omega)) | exact (congrArg Value.bool (decide_eq_false (by omega))).symm | exact (congrArg Value.bool (decide_eq_true (by omega))).symm
theorem in_c {W : World} (x lo hi : Int) : Calls Tryz.prog 89 #[vi x, vi lo, vi hi] W (Ret fun v w' => v = .bool (decide (lo ≤ x ∧ x ≤ hi)) ∧ Below W.heap.size W w') := by
 refine cfr Tryz.func89 Tryz.ntmps89 fun a hF => ?_
 have hS := Sep.refl W
 refine rg hF rfl fun a hF => ws fun K2 hK2 => ga 4 hF rfl fun a hF => ?_
 revert hF; intro hF0; refine bsplit (t := 10) hF0 rfl (fun b10 hF => ?_) (fun b10 hF => ?_)
 ·
  clear hF0
  try simp only [decide_eq_true_eq, decide_eq_false_iff_not, Bool.not_eq_true', Bool.not_eq_false'] at b10
  refine ge hK2 hF rfl fun a hF => ?_
  refine xr ?_
  refine ret1 rfl hF rfl ⟨?_, hS.old⟩
  first | exact congrArg Value.bool (decide_eq_decide.2 (by omega)) | exact (congrArg Value.bool (decide_eq_false (by omega))).symm | exact (congrArg Value.bool (decide_eq_true (by omega))).symm
 clear hF0
 try simp only [decide_eq_true_eq, decide_eq_false_iff_not, Bool.not_eq_true', Bool.not_eq_false'] at b10
 refine ge hK2 hF rfl fun a hF => ?_
 refine xr ?_
 refine ret1 rfl hF rfl ⟨?_, hS.old⟩
 first | exact congrArg Value.bool (decide_eq_decide.2 (by omega)) | exact (congrArg Value.bool (decide_eq_false (by omega))).symm | exact (congrArg Value.bool (decide_eq_true (by omega))).symm
theorem specIsConfig_c {W : World} (c : Config) : Calls Tryz.prog 91 #[.agg c.enc.toArray] W (Ret fun v w' => v = .bool (decide c.ok) ∧ Below W.heap.size W w') := by
 refine cfr Tryz.func91 Tryz.ntmps91 fun a hF => ?_
 have hS := Sep.refl W
 refine ws fun K1 hK1 => wl_box (cs := [_, _, _, _, _, _]) hF hS rfl (hF.ev rfl) rfl fun g1 w1 a hS _ hF => ge hK1 hF rfl fun a hF => ws fun K2 hK2 => gb 2 0 hF hS rfl rfl rfl fun a hF => ckr hF hS rfl (l1In_c _ _ _) fun w2 a hS hF => ga 1 hF rfl fun a hF => ?_
 revert hF; intro hF0; refine bsplit (t := 6) hF0 rfl (fun b6 hF => ?_) (fun b6 hF => ?_)
 ·
  clear hF0
  try simp only [decide_eq_true_eq, decide_eq_false_iff_not, Bool.not_eq_true', Bool.not_eq_false'] at b6
  refine gb 2 0 hF hS rfl rfl rfl fun a hF => ckr hF hS rfl (l1In_c _ _ _) fun w3 a hS hF => ga 2 hF rfl fun a hF => ?_
  revert hF; intro hF0; refine bsplit (t := 11) hF0 rfl (fun b11 hF => ?_) (fun b11 hF => ?_)
  ·
   clear hF0
   try simp only [decide_eq_true_eq, decide_eq_false_iff_not, Bool.not_eq_true', Bool.not_eq_false'] at b11
   refine gb 2 0 hF hS rfl rfl rfl fun a hF => ckr hF hS rfl (l1In_c _ _ _) fun w4 a hS hF => ga 2 hF rfl fun a hF => ?_
   revert hF; intro hF0; refine bsplit (t := 16) hF0 rfl (fun b16 hF => ?_) (fun b16 hF => ?_)
   ·
    clear hF0
    try simp only [decide_eq_true_eq, decide_eq_false_iff_not, Bool.not_eq_true', Bool.not_eq_false'] at b16
    refine gb 2 0 hF hS rfl rfl rfl fun a hF => ckr hF hS rfl (l1In_c _ _ _) fun w5 a hS hF => ga 2 hF rfl fun a hF => ?_
    revert hF; intro hF0; refine bsplit (t := 21) hF0 rfl (fun b21 hF => ?_) (fun b21 hF => ?_)
    ·
     clear hF0
     try simp only [decide_eq_true_eq, decide_eq_false_iff_not, Bool.not_eq_true', Bool.not_eq_false'] at b21
     refine gb 2 0 hF hS rfl rfl rfl fun a hF => ckr hF hS rfl (l1In_c _ _ _) fun w6 a hS hF => ga 2 hF rfl fun a hF => ?_
     revert hF; intro hF0; refine bsplit (t := 26) hF0 rfl (fun b26 hF => ?_) (fun b26 hF => ?_)
     ·
      clear hF0
      try simp only [decide_eq_true_eq, decide_eq_false_iff_not, Bool.not_eq_true', Bool.not_eq_false'] at b26
      refine gb 2 0 hF hS rfl rfl rfl fun a hF => ckr hF hS rfl (l1In_c _ _ _) fun w7 a hS hF => ge hK2 hF rfl fun a hF => ?_
      refine xr ?_
      refine ret1 rfl hF rfl ⟨?_, hS.old⟩
      first | exact congrArg Value.bool (decide_eq_decide.2 (by unfold Config.ok; omega)) | exact (congrArg Value.bool (decide_eq_false (by unfold Config.ok; omega))).symm | exact (congrArg Value.bool (decide_eq_true (by unfold Config.ok; omega))).symm
     clear hF0
     try simp only [decide_eq_true_eq, decide_eq_false_iff_not, Bool.not_eq_true', Bool.not_eq_false'] at b26
     refine ge hK2 hF rfl fun a hF => ?_
     refine xr ?_
     refine ret1 rfl hF rfl ⟨?_, hS.old⟩
     first | exact congrArg Value.bool (decide_eq_decide.2 (by unfold Config.ok; omega)) | exact (congrArg Value.bool (decide_eq_false (by unfold Config.ok; omega))).symm | exact (congrArg Value.bool (decide_eq_true (by unfold Config.ok; omega))).symm
    clear hF0
    try simp only [decide_eq_true_eq, decide_eq_false_iff_not, Bool.not_eq_true', Bool.not_eq_false'] at b21
    refine ge hK2 hF rfl fun a hF => ?_
    refine xr ?_
    refine ret1 rfl hF rfl ⟨?_, hS.old⟩
    first | exact congrArg Value.bool (decide_eq_decide.2 (by unfold Config.ok; omega)) | exact (congrArg Value.bool (decide_eq_false (by unfold Config.ok; omega))).symm | exact (congrArg Value.bool (decide_eq_true (by unfold Config.ok; omega))).symm
   clear hF0
   try simp only [decide_eq_true_eq, decide_eq_false_iff_not, Bool.not_eq_true', Bool.not_eq_false'] at b16
   refine ge hK2 hF rfl fun a hF => ?_
   refine xr ?_
   refine ret1 rfl hF rfl ⟨?_, hS.old⟩
   first | exact congrArg Value.bool (decide_eq_decide.2 (by unfold Config.ok; omega)) | exact (congrArg Value.bool (decide_eq_false (by unfold Config.ok; omega))).symm | exact (congrArg Value.bool (decide_eq_true (by unfold Config.ok; omega))).symm
  clear hF0
  try simp only [decide_eq_true_eq, decide_eq_false_iff_not, Bool.not_eq_true', Bool.not_eq_false'] at b11
  refine ge hK2 hF rfl fun a hF => ?_
  refine xr ?_
  refine ret1 rfl hF rfl ⟨?_, hS.old⟩
  first | exact congrArg Value.bool (decide_eq_decide.2 (by unfold Config.ok; omega)) | exact (congrArg Value.bool (decide_eq_false (by unfold Config.ok; omega))).symm | exact (congrArg Value.bool (decide_eq_true (by unfold Config.ok; omega))).symm
 clear hF0
 try simp only [decide_eq_true_eq, decide_eq_false_iff_not, Bool.not_eq_true', Bool.not_eq_false'] at b6
 refine ge hK2 hF rfl fun a hF => ?_
 refine xr ?_
 refine ret1 rfl hF rfl ⟨?_, hS.old⟩
 first | exact congrArg Value.bool (decide_eq_decide.2 (by unfold Config.ok; omega)) | exact (congrArg Value.bool (decide_eq_false (by unfold Config.ok; omega))).symm | exact (congrArg Value.bool (decide_eq_true (by unfold Config.ok; omega))).symm
theorem implIsConfig_c {W : World} (c : Config) : Calls Tryz.prog 129 #[.agg c.enc.toArray] W (Ret fun v w' => v = .bool (decide c.ok) ∧ Below W.heap.size W w') := by
 refine cfr Tryz.func129 Tryz.ntmps129 fun a hF => ?_
 have hS := Sep.refl W
 refine ws fun K1 hK1 => wl_box (cs := [_, _, _, _, _, _]) hF hS rfl (hF.ev rfl) rfl fun g1 w1 a hS _ hF => ge hK1 hF rfl fun a hF => ws fun K2 hK2 => gb 2 0 hF hS rfl rfl rfl fun a hF => ckr hF hS rfl (in_c _ _ _) fun w2 a hS hF => ga 1 hF rfl fun a hF => ?_
 revert hF; intro hF0; refine bsplit (t := 6) hF0 rfl (fun b6 hF => ?_) (fun b6 hF => ?_)
 ·
  clear hF0
  try simp only [decide_eq_true_eq, decide_eq_false_iff_not, Bool.not_eq_true', Bool.not_eq_false'] at b6
  refine gb 2 0 hF hS rfl rfl rfl fun a hF => ckr hF hS rfl (in_c _ _ _) fun w3 a hS hF => ga 2 hF rfl fun a hF => ?_
  revert hF; intro hF0; refine bsplit (t := 11) hF0 rfl (fun b11 hF => ?_) (fun b11 hF => ?_)
  ·
   clear hF0
   try simp only [decide_eq_true_eq, decide_eq_false_iff_not, Bool.not_eq_true', Bool.not_eq_false'] at b11
   refine gb 2 0 hF hS rfl rfl rfl fun a hF => ckr hF hS rfl (in_c _ _ _) fun w4 a hS hF => ga 2 hF rfl fun a hF => ?_
   revert hF; intro hF0; refine bsplit (t := 16) hF0 rfl (fun b16 hF => ?_) (fun b16 hF => ?_)
   ·
    clear hF0
    try simp only [decide_eq_true_eq, decide_eq_false_iff_not, Bool.not_eq_true', Bool.not_eq_false'] at b16
    refine gb 2 0 hF hS rfl rfl rfl fun a hF => ckr hF hS rfl (in_c _ _ _) fun w5 a hS hF => ga 2 hF rfl fun a hF => ?_
    revert hF; intro hF0; refine bsplit (t := 21) hF0 rfl (fun b21 hF => ?_) (fun b21 hF => ?_)
    ·
     clear hF0
     try simp only [decide_eq_true_eq, decide_eq_false_iff_not, Bool.not_eq_true', Bool.not_eq_false'] at b21
     refine gb 2 0 hF hS rfl rfl rfl fun a hF => ckr hF hS rfl (in_c _ _ _) fun w6 a hS hF => ga 2 hF rfl fun a hF => ?_
     revert hF; intro hF0; refine bsplit (t := 26) hF0 rfl (fun b26 hF => ?_) (fun b26 hF => ?_)
     ·
      clear hF0
      try simp only [decide_eq_true_eq, decide_eq_false_iff_not, Bool.not_eq_true', Bool.not_eq_false'] at b26
      refine gb 2 0 hF hS rfl rfl rfl fun a hF => ckr hF hS rfl (in_c _ _ _) fun w7 a hS hF => ge hK2 hF rfl fun a hF => ?_
      refine xr ?_
      refine ret1 rfl hF rfl ⟨?_, hS.old⟩
      first | exact congrArg Value.bool (decide_eq_decide.2 (by unfold Config.ok; omega)) | exact (congrArg Value.bool (decide_eq_false (by unfold Config.ok; omega))).symm | exact (congrArg Value.bool (decide_eq_true (by unfold Config.ok; omega))).symm
     clear hF0
     try simp only [decide_eq_true_eq, decide_eq_false_iff_not, Bool.not_eq_true', Bool.not_eq_false'] at b26
     refine ge hK2 hF rfl fun a hF => ?_
     refine xr ?_
     refine ret1 rfl hF rfl ⟨?_, hS.old⟩
     first | exact congrArg Value.bool (decide_eq_decide.2 (by unfold Config.ok; omega)) | exact (congrArg Value.bool (decide_eq_false (by unfold Config.ok; omega))).symm | exact (congrArg Value.bool (decide_eq_true (by unfold Config.ok; omega))).symm
    clear hF0
    try simp only [decide_eq_true_eq, decide_eq_false_iff_not, Bool.not_eq_true', Bool.not_eq_false'] at b21
    refine ge hK2 hF rfl fun a hF => ?_
    refine xr ?_
    refine ret1 rfl hF rfl ⟨?_, hS.old⟩
    first | exact congrArg Value.bool (decide_eq_decide.2 (by unfold Config.ok; omega)) | exact (congrArg Value.bool (decide_eq_false (by unfold Config.ok; omega))).symm | exact (congrArg Value.bool (decide_eq_true (by unfold Config.ok; omega))).symm
   clear hF0
   try simp only [decide_eq_true_eq, decide_eq_false_iff_not, Bool.not_eq_true', Bool.not_eq_false'] at b16
   refine ge hK2 hF rfl fun a hF => ?_
   refine xr ?_
   refine ret1 rfl hF rfl ⟨?_, hS.old⟩
   first | exact congrArg Value.bool (decide_eq_decide.2 (by unfold Config.ok; omega)) | exact (congrArg Value.bool (decide_eq_false (by unfold Config.ok; omega))).symm | exact (congrArg Value.bool (decide_eq_true (by unfold Config.ok; omega))).symm
  clear hF0
  try simp only [decide_eq_true_eq, decide_eq_false_iff_not, Bool.not_eq_true', Bool.not_eq_false'] at b11
  refine ge hK2 hF rfl fun a hF => ?_
  refine xr ?_
  refine ret1 rfl hF rfl ⟨?_, hS.old⟩
  first | exact congrArg Value.bool (decide_eq_decide.2 (by unfold Config.ok; omega)) | exact (congrArg Value.bool (decide_eq_false (by unfold Config.ok; omega))).symm | exact (congrArg Value.bool (decide_eq_true (by unfold Config.ok; omega))).symm
 clear hF0
 try simp only [decide_eq_true_eq, decide_eq_false_iff_not, Bool.not_eq_true', Bool.not_eq_false'] at b6
 refine ge hK2 hF rfl fun a hF => ?_
 refine xr ?_
 refine ret1 rfl hF rfl ⟨?_, hS.old⟩
 first | exact congrArg Value.bool (decide_eq_decide.2 (by unfold Config.ok; omega)) | exact (congrArg Value.bool (decide_eq_false (by unfold Config.ok; omega))).symm | exact (congrArg Value.bool (decide_eq_true (by unfold Config.ok; omega))).symm
theorem specIsOp_c {W : World} (o : Sl.Op) : Calls Tryz.prog 47 #[.agg o.enc.toArray] W (Ret fun v w' => v = .bool (decide o.ok) ∧ Below W.heap.size W w') := by
 refine cfr Tryz.func47 Tryz.ntmps47 fun a hF => ?_
 have hS := Sep.refl W
 refine ws fun K1 hK1 => wl_box (cs := [_, _, _]) hF hS rfl (hF.ev rfl) rfl fun g1 w1 a hS _ hF => ge hK1 hF rfl fun a hF => wp_seq_k fun K2 hK2 => rh 0 hF hS rfl rfl rfl fun a hF => wp_block <| wp_seq_k fun K4 hK4 => ?_
 refine rg hF rfl fun a hF => cx 5 hF rfl (fun c5 hF => ?_) fun c5 hF => ?_
 ·
  refine wp_skip <| hK4 _ _ <| wc_true (hF.ev rfl) <| ws fun K6 hK6 => gb 4 0 hF hS rfl rfl rfl fun a hF => ?_
  apply wa 4 12 16 hF hS
  ·
   intro hg12 a hF
   exact jf 4 0 hF hS rfl rfl rfl rfl rfl rfl
  intro a w2 hF hS
  refine ge hK6 hF rfl fun a hF => ?_
  refine xr ?_
  refine ret1 rfl hF rfl ⟨congrArg Value.bool (Bool.eq_iff_iff.2 ?_), hS.old⟩
  simp only [Bool.false_eq_true, Bool.true_eq_false, Bool.and_eq_true, Bool.or_eq_true, Bool.not_eq_true', decide_eq_true_eq, decide_eq_false_iff_not, iff_true, true_iff, false_iff, iff_false]
  unfold Sl.Op.ok
  omega
 refine rg hF rfl fun a hF => cx 5 hF rfl (fun c5 hF => ?_) fun c5 hF => ?_
 ·
  refine wp_skip <| hK4 _ _ <| wc_true (hF.ev rfl) <| ws fun K8 hK8 => gb 4 0 hF hS rfl rfl rfl fun a hF => ?_
  apply wa 4 12 16 hF hS
  ·
   intro hg12 a hF
   exact jf 4 0 hF hS rfl rfl rfl rfl rfl rfl
  intro a w3 hF hS
  refine ge hK8 hF rfl fun a hF => ?_
  refine xr ?_
  refine ret1 rfl hF rfl ⟨congrArg Value.bool (Bool.eq_iff_iff.2 ?_), hS.old⟩
  simp only [Bool.false_eq_true, Bool.true_eq_false, Bool.and_eq_true, Bool.or_eq_true, Bool.not_eq_true', decide_eq_true_eq, decide_eq_false_iff_not, iff_true, true_iff, false_iff, iff_false]
  unfold Sl.Op.ok
  omega
 refine wp_region_lit <| ge hK4 hF rfl fun a hF => cx 5 hF rfl (fun c5 hF => ?_) fun c5 hF => ?_
 ·
  refine ws fun K9 hK9 => gb 4 0 hF hS rfl rfl rfl fun a hF => ?_
  apply wa 4 12 16 hF hS
  ·
   intro hg12 a hF
   exact jf 4 0 hF hS rfl rfl rfl rfl rfl rfl
  intro a w4 hF hS
  refine ge hK9 hF rfl fun a hF => ?_
  refine xr ?_
  refine ret1 rfl hF rfl ⟨congrArg Value.bool (Bool.eq_iff_iff.2 ?_), hS.old⟩
  simp only [Bool.false_eq_true, Bool.true_eq_false, Bool.and_eq_true, Bool.or_eq_true, Bool.not_eq_true', decide_eq_true_eq, decide_eq_false_iff_not, iff_true, true_iff, false_iff, iff_false]
  unfold Sl.Op.ok
  omega
 refine rg hF rfl fun a hF => cx 17 hF rfl (fun c17 hF => ?_) fun c17 hF => ?_
 ·
  refine ws fun K11 hK11 => gb 2 0 hF hS rfl rfl rfl fun a hF => ckr hF hS rfl (l1In_c _ _ _) fun w5 a hS hF => ga 1 hF rfl fun a hF => ?_
  apply wa 4 22 26 hF hS
  ·
   intro hg22 a hF
   exact jf 4 0 hF hS rfl rfl rfl rfl rfl rfl
  intro a w6 hF hS
  refine ge hK11 hF rfl fun a hF => ?_
  refine xr ?_
  refine ret1 rfl hF rfl ⟨congrArg Value.bool (Bool.eq_iff_iff.2 ?_), hS.old⟩
  simp only [Bool.false_eq_true, Bool.true_eq_false, Bool.and_eq_true, Bool.or_eq_true, Bool.not_eq_true', decide_eq_true_eq, decide_eq_false_iff_not, iff_true, true_iff, false_iff, iff_false]
  unfold Sl.Op.ok
  omega
 refine rg hF rfl fun a hF => cx 27 hF rfl (fun c27 hF => ?_) fun c27 hF => ?_
 ·
  refine ws fun K13 hK13 => gb 2 0 hF hS rfl rfl rfl fun a hF => ckr hF hS rfl (l1In_c _ _ _) fun w7 a hS hF => ga 1 hF rfl fun a hF => ?_
  apply wa 4 32 36 hF hS
  ·
   intro hg32 a hF
   refine gb 2 0 hF hS rfl rfl rfl fun a hF => ckr hF hS rfl (l1In_c _ _ _) fun w8 a hS hF => ?_
   exact je 4 hF hS rfl rfl rfl rfl
  intro a w9 hF hS
  refine ge hK13 hF rfl fun a hF => ?_
  refine xr ?_
  refine ret1 rfl hF rfl ⟨congrArg Value.bool (Bool.eq_iff_iff.2 ?_), hS.old⟩
  simp only [Bool.false_eq_true, Bool.true_eq_false, Bool.and_eq_true, Bool.or_eq_true, Bool.not_eq_true', decide_eq_true_eq, decide_eq_false_iff_not, iff_true, true_iff, false_iff, iff_false]
  unfold Sl.Op.ok
  omega
 refine wp_skip ?_
 refine xt ?_
 refine hK2 _ _ <| rg hF rfl fun a hF => ?_
 refine xr ?_
 refine ret1 rfl hF rfl ⟨congrArg Value.bool (Bool.eq_iff_iff.2 ?_), hS.old⟩
 simp only [Bool.false_eq_true, Bool.true_eq_false, Bool.and_eq_true, Bool.or_eq_true, Bool.not_eq_true', decide_eq_true_eq, decide_eq_false_iff_not, iff_true, true_iff, false_iff, iff_false]
 unfold Sl.Op.ok
 omega
theorem implIsOp_c {W : World} (o : Sl.Op) : Calls Tryz.prog 41 #[.agg o.enc.toArray] W (Ret fun v w' => v = .bool (decide o.ok) ∧ Below W.heap.size W w') := by
 refine cfr Tryz.func41 Tryz.ntmps41 fun a hF => ?_
 have hS := Sep.refl W
 refine ws fun K1 hK1 => wl_box (cs := [_, _, _]) hF hS rfl (hF.ev rfl) rfl fun g1 w1 a hS _ hF => ge hK1 hF rfl fun a hF => wp_seq_k fun K2 hK2 => rh 0 hF hS rfl rfl rfl fun a hF => wp_block <| wp_seq_k fun K4 hK4 => ?_
 refine rg hF rfl fun a hF => cx 5 hF rfl (fun c5 hF => ?_) fun c5 hF => ?_
 ·
  refine wp_skip <| hK4 _ _ <| wc_true (hF.ev rfl) <| ws fun K6 hK6 => gb 4 0 hF hS rfl rfl rfl fun a hF => ?_
  apply wa 4 12 16 hF hS
  ·
   intro hg12 a hF
   exact jf 4 0 hF hS rfl rfl rfl rfl rfl rfl
  intro a w2 hF hS
  refine ge hK6 hF rfl fun a hF => ?_
  refine xr ?_
  refine ret1 rfl hF rfl ⟨congrArg Value.bool (Bool.eq_iff_iff.2 ?_), hS.old⟩
  simp only [Bool.false_eq_true, Bool.true_eq_false, Bool.and_eq_true, Bool.or_eq_true, Bool.not_eq_true', decide_eq_true_eq, decide_eq_false_iff_not, iff_true, true_iff, false_iff, iff_false]
  unfold Sl.Op.ok
  omega
 refine rg hF rfl fun a hF => cx 5 hF rfl (fun c5 hF => ?_) fun c5 hF => ?_
 ·
  refine wp_skip <| hK4 _ _ <| wc_true (hF.ev rfl) <| ws fun K8 hK8 => gb 4 0 hF hS rfl rfl rfl fun a hF => ?_
  apply wa 4 12 16 hF hS
  ·
   intro hg12 a hF
   exact jf 4 0 hF hS rfl rfl rfl rfl rfl rfl
  intro a w3 hF hS
  refine ge hK8 hF rfl fun a hF => ?_
  refine xr ?_
  refine ret1 rfl hF rfl ⟨congrArg Value.bool (Bool.eq_iff_iff.2 ?_), hS.old⟩
  simp only [Bool.false_eq_true, Bool.true_eq_false, Bool.and_eq_true, Bool.or_eq_true, Bool.not_eq_true', decide_eq_true_eq, decide_eq_false_iff_not, iff_true, true_iff, false_iff, iff_false]
  unfold Sl.Op.ok
  omega
 refine wp_region_lit <| ge hK4 hF rfl fun a hF => cx 5 hF rfl (fun c5 hF => ?_) fun c5 hF => ?_
 ·
  refine ws fun K9 hK9 => gb 4 0 hF hS rfl rfl rfl fun a hF => ?_
  apply wa 4 12 16 hF hS
  ·
   intro hg12 a hF
   exact jf 4 0 hF hS rfl rfl rfl rfl rfl rfl
  intro a w4 hF hS
  refine ge hK9 hF rfl fun a hF => ?_
  refine xr ?_
  refine ret1 rfl hF rfl ⟨congrArg Value.bool (Bool.eq_iff_iff.2 ?_), hS.old⟩
  simp only [Bool.false_eq_true, Bool.true_eq_false, Bool.and_eq_true, Bool.or_eq_true, Bool.not_eq_true', decide_eq_true_eq, decide_eq_false_iff_not, iff_true, true_iff, false_iff, iff_false]
  unfold Sl.Op.ok
  omega
 refine rg hF rfl fun a hF => cx 17 hF rfl (fun c17 hF => ?_) fun c17 hF => ?_
 ·
  refine ws fun K11 hK11 => gb 2 0 hF hS rfl rfl rfl fun a hF => ckr hF hS rfl (in_c _ _ _) fun w5 a hS hF => ga 1 hF rfl fun a hF => ?_
  apply wa 4 22 26 hF hS
  ·
   intro hg22 a hF
   exact jf 4 0 hF hS rfl rfl rfl rfl rfl rfl
  intro a w6 hF hS
  refine ge hK11 hF rfl fun a hF => ?_
  refine xr ?_
  refine ret1 rfl hF rfl ⟨congrArg Value.bool (Bool.eq_iff_iff.2 ?_), hS.old⟩
  simp only [Bool.false_eq_true, Bool.true_eq_false, Bool.and_eq_true, Bool.or_eq_true, Bool.not_eq_true', decide_eq_true_eq, decide_eq_false_iff_not, iff_true, true_iff, false_iff, iff_false]
  unfold Sl.Op.ok
  omega
 refine rg hF rfl fun a hF => cx 27 hF rfl (fun c27 hF => ?_) fun c27 hF => ?_
 ·
  refine ws fun K13 hK13 => gb 2 0 hF hS rfl rfl rfl fun a hF => ckr hF hS rfl (in_c _ _ _) fun w7 a hS hF => ga 1 hF rfl fun a hF => ?_
  apply wa 4 32 36 hF hS
  ·
   intro hg32 a hF
   refine gb 2 0 hF hS rfl rfl rfl fun a hF => ckr hF hS rfl (in_c _ _ _) fun w8 a hS hF => ?_
   exact je 4 hF hS rfl rfl rfl rfl
  intro a w9 hF hS
  refine ge hK13 hF rfl fun a hF => ?_
  refine xr ?_
  refine ret1 rfl hF rfl ⟨congrArg Value.bool (Bool.eq_iff_iff.2 ?_), hS.old⟩
  simp only [Bool.false_eq_true, Bool.true_eq_false, Bool.and_eq_true, Bool.or_eq_true, Bool.not_eq_true', decide_eq_true_eq, decide_eq_false_iff_not, iff_true, true_iff, false_iff, iff_false]
  unfold Sl.Op.ok
  omega
 refine wp_skip ?_
 refine xt ?_
 refine hK2 _ _ <| rg hF rfl fun a hF => ?_
 refine xr ?_
 refine ret1 rfl hF rfl ⟨congrArg Value.bool (Bool.eq_iff_iff.2 ?_), hS.old⟩
 simp only [Bool.false_eq_true, Bool.true_eq_false, Bool.and_eq_true, Bool.or_eq_true, Bool.not_eq_true', decide_eq_true_eq, decide_eq_false_iff_not, iff_true, true_iff, false_iff, iff_false]
 unfold Sl.Op.ok
 omega
theorem specCellCount_c {W : World} (c : Config)  : Calls Tryz.prog 92 #[.agg c.enc.toArray] W (Ret fun v w' => v = vi (cellCount c) ∧ Below W.heap.size W w') := by
 refine cfr Tryz.func92 Tryz.ntmps92 fun a hF => ?_
 have hS := Sep.refl W
 refine ws fun K1 hK1 => wl_box (cs := [_, _, _, _, _, _]) hF hS rfl (hF.ev rfl) rfl fun g1 w1 a hS _ hF => ge hK1 hF rfl fun a hF => wp_seq_k fun K2 hK2 => ws fun K3 hK3 => gb 1 0 hF hS rfl rfl rfl fun a hF => ckr hF hS rfl (specIsConfig_c _) fun w2 a hS hF => ?_
 refine ge hK3 hF rfl fun a hF => cx 5 hF rfl (fun c5 hF => ?_) fun c5 hF => ?_
 ·
  refine rg hF rfl fun a hF => ?_
  refine xr ?_
  refine ret1 rfl hF rfl ⟨congrArg vi ?_, hS.old⟩
  unfold cellCount
  have hw : c.ok → IntKind.i64.wrap (c.threads - 1) = c.threads - 1 ∧ IntKind.i64.wrap (c.keys - 1) = c.keys - 1 ∧ IntKind.i64.wrap (c.capacity - 1) = c.capacity - 1 := fun h => by unfold Config.ok at h; exact ⟨wm1 (by omega) (by omega), wm1 (by omega) (by omega), wm1 (by omega) (by omega)⟩
  split
  · rename_i hif
    first
    | (exfalso; have hw1 := hw (by simp_all); simp_all; done)
    | (have hok : c.ok := (by simp_all); unfold Config.ok at hok; clear hw; simp only [w64]; omega)
  · rename_i hif
    first | rfl | (exfalso; have hw1 := hw (by simp_all); simp_all; done)
 refine wp_skip <| hK2 _ _ <| rh 0 hF hS rfl rfl rfl fun a hF => ?_
 refine xr ?_
 refine ret1 rfl hF rfl ⟨congrArg vi ?_, hS.old⟩
 unfold cellCount
 have hw : c.ok → IntKind.i64.wrap (c.threads - 1) = c.threads - 1 ∧ IntKind.i64.wrap (c.keys - 1) = c.keys - 1 ∧ IntKind.i64.wrap (c.capacity - 1) = c.capacity - 1 := fun h => by unfold Config.ok at h; exact ⟨wm1 (by omega) (by omega), wm1 (by omega) (by omega), wm1 (by omega) (by omega)⟩
 split
 · rename_i hif
   first
   | (exfalso; have hw1 := hw (by simp_all); simp_all; done)
   | (have hok : c.ok := (by simp_all); unfold Config.ok at hok; clear hw; simp only [w64]; omega)
 · rename_i hif
   first | rfl | (exfalso; have hw1 := hw (by simp_all); simp_all; done)
theorem specAnnounceCell_c {W : World} (c : Config) (p : Int) : Calls Tryz.prog 124 #[.agg c.enc.toArray, vi p] W (Ret fun v w' => v = vi (announceCell c p) ∧ Below W.heap.size W w') := by
 refine cfr Tryz.func124 Tryz.ntmps124 fun a hF => ?_
 have hS := Sep.refl W
 refine ws fun K1 hK1 => wl_box (cs := [_, _, _, _, _, _]) hF hS rfl (hF.ev rfl) rfl fun g1 w1 a hS _ hF => ge hK1 hF rfl fun a hF => wp_seq_k fun K2 hK2 => ws fun K3 hK3 => gb 1 0 hF hS rfl rfl rfl fun a hF => ckr hF hS rfl (specIsConfig_c _) fun w2 a hS hF => ?_
 refine ga 2 hF rfl fun a hF => ?_
 apply wo 7 8 15 hF hS
 ·
  intro hg8 a hF
  refine gb 4 0 hF hS rfl rfl rfl fun a hF => ckr hF hS rfl (l1In_c _ _ _) fun w3 a hS hF => ?_
  exact je 7 hF hS rfl rfl rfl rfl
 intro a w4 hF hS
 refine wl_nil <| hK3 _ _ <| cx 15 hF rfl (fun c15 hF => ?_) fun c15 hF => ?_
 ·
  refine rg hF rfl fun a hF => ?_
  refine xr ?_
  refine ret1 rfl hF rfl ⟨congrArg vi ?_, hS.old⟩
  unfold announceCell
  have hw : c.ok → IntKind.i64.wrap (c.threads - 1) = c.threads - 1 ∧ IntKind.i64.wrap (c.keys - 1) = c.keys - 1 ∧ IntKind.i64.wrap (c.capacity - 1) = c.capacity - 1 := fun h => by unfold Config.ok at h; exact ⟨wm1 (by omega) (by omega), wm1 (by omega) (by omega), wm1 (by omega) (by omega)⟩
  split
  · rename_i hif
    first
    | (exfalso; have hw1 := hw (by simp_all); simp_all; done)
    | (have hok : c.ok := (by simp_all); unfold Config.ok at hok; clear hw; simp only [w64]; omega)
  · rename_i hif
    first | rfl | (exfalso; have hw1 := hw (by simp_all); simp_all; done)
 refine wp_skip <| hK2 _ _ <| rg hF rfl fun a hF => ?_
 refine xr ?_
 refine ret1 rfl hF rfl ⟨congrArg vi ?_, hS.old⟩
 unfold announceCell
 have hw : c.ok → IntKind.i64.wrap (c.threads - 1) = c.threads - 1 ∧ IntKind.i64.wrap (c.keys - 1) = c.keys - 1 ∧ IntKind.i64.wrap (c.capacity - 1) = c.capacity - 1 := fun h => by unfold Config.ok at h; exact ⟨wm1 (by omega) (by omega), wm1 (by omega) (by omega), wm1 (by omega) (by omega)⟩
 split
 · rename_i hif
   first
   | (exfalso; have hw1 := hw (by simp_all); simp_all; done)
   | (have hok : c.ok := (by simp_all); unfold Config.ok at hok; clear hw; simp only [w64]; omega)
 · rename_i hif
   first | rfl | (exfalso; have hw1 := hw (by simp_all); simp_all; done)
theorem specHazardCell_c {W : World} (c : Config) (p s : Int) : Calls Tryz.prog 109 #[.agg c.enc.toArray, vi p, vi s] W (Ret fun v w' => v = vi (hazardCell c p s) ∧ Below W.heap.size W w') := by
 refine cfr Tryz.func109 Tryz.ntmps109 fun a hF => ?_
 have hS := Sep.refl W
 refine ws fun K1 hK1 => wl_box (cs := [_, _, _, _, _, _]) hF hS rfl (hF.ev rfl) rfl fun g1 w1 a hS _ hF => ge hK1 hF rfl fun a hF => wp_seq_k fun K2 hK2 => ws fun K3 hK3 => gb 1 0 hF hS rfl rfl rfl fun a hF => ckr hF hS rfl (specIsConfig_c _) fun w2 a hS hF => ?_
 refine ga 2 hF rfl fun a hF => ?_
 apply wo 7 10 17 hF hS
 ·
  intro hg10 a hF
  refine gb 4 0 hF hS rfl rfl rfl fun a hF => ckr hF hS rfl (l1In_c _ _ _) fun w3 a hS hF => ?_
  exact je 7 hF hS rfl rfl rfl rfl
 intro a w4 hF hS
 refine ga 1 hF rfl fun a hF => ?_
 apply wo 4 18 22 hF hS
 ·
  intro hg18 a hF
  refine ga 1 hF rfl fun a hF => ckr hF hS rfl (l1In_c _ _ _) fun w5 a hS hF => ?_
  exact je 4 hF hS rfl rfl rfl rfl
 intro a w6 hF hS
 refine wl_nil <| hK3 _ _ <| cx 22 hF rfl (fun c22 hF => ?_) fun c22 hF => ?_
 ·
  refine rg hF rfl fun a hF => ?_
  refine xr ?_
  refine ret1 rfl hF rfl ⟨congrArg vi ?_, hS.old⟩
  unfold hazardCell
  have hw : c.ok → IntKind.i64.wrap (c.threads - 1) = c.threads - 1 ∧ IntKind.i64.wrap (c.keys - 1) = c.keys - 1 ∧ IntKind.i64.wrap (c.capacity - 1) = c.capacity - 1 := fun h => by unfold Config.ok at h; exact ⟨wm1 (by omega) (by omega), wm1 (by omega) (by omega), wm1 (by omega) (by omega)⟩
  split
  · rename_i hif
    first
    | (exfalso; have hw1 := hw (by simp_all); simp_all; done)
    | (have hok : c.ok := (by simp_all); unfold Config.ok at hok; clear hw; simp only [w64]; omega)
  · rename_i hif
    first | rfl | (exfalso; have hw1 := hw (by simp_all); simp_all; done)
 refine wp_skip <| hK2 _ _ <| rh 0 hF hS rfl rfl rfl fun a hF => ?_
 refine xr ?_
 refine ret1 rfl hF rfl ⟨congrArg vi ?_, hS.old⟩
 unfold hazardCell
 have hw : c.ok → IntKind.i64.wrap (c.threads - 1) = c.threads - 1 ∧ IntKind.i64.wrap (c.keys - 1) = c.keys - 1 ∧ IntKind.i64.wrap (c.capacity - 1) = c.capacity - 1 := fun h => by unfold Config.ok at h; exact ⟨wm1 (by omega) (by omega), wm1 (by omega) (by omega), wm1 (by omega) (by omega)⟩
 split
 · rename_i hif
   first
   | (exfalso; have hw1 := hw (by simp_all); simp_all; done)
   | (have hok : c.ok := (by simp_all); unfold Config.ok at hok; clear hw; simp only [w64]; omega)
 · rename_i hif
   first | rfl | (exfalso; have hw1 := hw (by simp_all); simp_all; done)
theorem specHeadCell_c {W : World} (c : Config) (k : Int) : Calls Tryz.prog 94 #[.agg c.enc.toArray, vi k] W (Ret fun v w' => v = vi (headCell c k) ∧ Below W.heap.size W w') := by
 refine cfr Tryz.func94 Tryz.ntmps94 fun a hF => ?_
 have hS := Sep.refl W
 refine ws fun K1 hK1 => wl_box (cs := [_, _, _, _, _, _]) hF hS rfl (hF.ev rfl) rfl fun g1 w1 a hS _ hF => ge hK1 hF rfl fun a hF => wp_seq_k fun K2 hK2 => ws fun K3 hK3 => gb 1 0 hF hS rfl rfl rfl fun a hF => ckr hF hS rfl (specIsConfig_c _) fun w2 a hS hF => ?_
 refine ga 2 hF rfl fun a hF => ?_
 apply wo 7 8 15 hF hS
 ·
  intro hg8 a hF
  refine gb 4 0 hF hS rfl rfl rfl fun a hF => ckr hF hS rfl (l1In_c _ _ _) fun w3 a hS hF => ?_
  exact je 7 hF hS rfl rfl rfl rfl
 intro a w4 hF hS
 refine wl_nil <| hK3 _ _ <| cx 15 hF rfl (fun c15 hF => ?_) fun c15 hF => ?_
 ·
  refine rg hF rfl fun a hF => ?_
  refine xr ?_
  refine ret1 rfl hF rfl ⟨congrArg vi ?_, hS.old⟩
  unfold headCell
  have hw : c.ok → IntKind.i64.wrap (c.threads - 1) = c.threads - 1 ∧ IntKind.i64.wrap (c.keys - 1) = c.keys - 1 ∧ IntKind.i64.wrap (c.capacity - 1) = c.capacity - 1 := fun h => by unfold Config.ok at h; exact ⟨wm1 (by omega) (by omega), wm1 (by omega) (by omega), wm1 (by omega) (by omega)⟩
  split
  · rename_i hif
    first
    | (exfalso; have hw1 := hw (by simp_all); simp_all; done)
    | (have hok : c.ok := (by simp_all); unfold Config.ok at hok; clear hw; simp only [w64]; omega)
  · rename_i hif
    first | rfl | (exfalso; have hw1 := hw (by simp_all); simp_all; done)
 refine wp_skip <| hK2 _ _ <| rh 0 hF hS rfl rfl rfl fun a hF => ?_
 refine xr ?_
 refine ret1 rfl hF rfl ⟨congrArg vi ?_, hS.old⟩
 unfold headCell
 have hw : c.ok → IntKind.i64.wrap (c.threads - 1) = c.threads - 1 ∧ IntKind.i64.wrap (c.keys - 1) = c.keys - 1 ∧ IntKind.i64.wrap (c.capacity - 1) = c.capacity - 1 := fun h => by unfold Config.ok at h; exact ⟨wm1 (by omega) (by omega), wm1 (by omega) (by omega), wm1 (by omega) (by omega)⟩
 split
 · rename_i hif
   first
   | (exfalso; have hw1 := hw (by simp_all); simp_all; done)
   | (have hok : c.ok := (by simp_all); unfold Config.ok at hok; clear hw; simp only [w64]; omega)
 · rename_i hif
   first | rfl | (exfalso; have hw1 := hw (by simp_all); simp_all; done)
theorem specNodeCell_c {W : World} (c : Config) (i f : Int) : Calls Tryz.prog 97 #[.agg c.enc.toArray, vi i, vi f] W (Ret fun v w' => v = vi (nodeCell c i f) ∧ Below W.heap.size W w') := by
 refine cfr Tryz.func97 Tryz.ntmps97 fun a hF => ?_
 have hS := Sep.refl W
 refine ws fun K1 hK1 => wl_box (cs := [_, _, _, _, _, _]) hF hS rfl (hF.ev rfl) rfl fun g1 w1 a hS _ hF => ge hK1 hF rfl fun a hF => wp_seq_k fun K2 hK2 => ws fun K3 hK3 => gb 1 0 hF hS rfl rfl rfl fun a hF => ckr hF hS rfl (specIsConfig_c _) fun w2 a hS hF => ?_
 refine ga 2 hF rfl fun a hF => ?_
 apply wo 7 10 17 hF hS
 ·
  intro hg10 a hF
  refine gb 4 0 hF hS rfl rfl rfl fun a hF => ckr hF hS rfl (l1In_c _ _ _) fun w3 a hS hF => ?_
  exact je 7 hF hS rfl rfl rfl rfl
 intro a w4 hF hS
 refine ga 1 hF rfl fun a hF => ?_
 apply wo 4 18 22 hF hS
 ·
  intro hg18 a hF
  refine ga 1 hF rfl fun a hF => ckr hF hS rfl (l1In_c _ _ _) fun w5 a hS hF => ?_
  exact je 4 hF hS rfl rfl rfl rfl
 intro a w6 hF hS
 refine wl_nil <| hK3 _ _ <| cx 22 hF rfl (fun c22 hF => ?_) fun c22 hF => ?_
 ·
  refine rg hF rfl fun a hF => ?_
  refine xr ?_
  refine ret1 rfl hF rfl ⟨congrArg vi ?_, hS.old⟩
  unfold nodeCell
  have hw : c.ok → IntKind.i64.wrap (c.threads - 1) = c.threads - 1 ∧ IntKind.i64.wrap (c.keys - 1) = c.keys - 1 ∧ IntKind.i64.wrap (c.capacity - 1) = c.capacity - 1 := fun h => by unfold Config.ok at h; exact ⟨wm1 (by omega) (by omega), wm1 (by omega) (by omega), wm1 (by omega) (by omega)⟩
  split
  · rename_i hif
    first
    | (exfalso; have hw1 := hw (by simp_all); simp_all; done)
    | (have hok : c.ok := (by simp_all); unfold Config.ok at hok; clear hw; simp only [w64]; omega)
  · rename_i hif
    first | rfl | (exfalso; have hw1 := hw (by simp_all); simp_all; done)
 refine wp_skip <| hK2 _ _ <| rh 0 hF hS rfl rfl rfl fun a hF => ?_
 refine xr ?_
 refine ret1 rfl hF rfl ⟨congrArg vi ?_, hS.old⟩
 unfold nodeCell
 have hw : c.ok → IntKind.i64.wrap (c.threads - 1) = c.threads - 1 ∧ IntKind.i64.wrap (c.keys - 1) = c.keys - 1 ∧ IntKind.i64.wrap (c.capacity - 1) = c.capacity - 1 := fun h => by unfold Config.ok at h; exact ⟨wm1 (by omega) (by omega), wm1 (by omega) (by omega), wm1 (by omega) (by omega)⟩
 split
 · rename_i hif
   first
   | (exfalso; have hw1 := hw (by simp_all); simp_all; done)
   | (have hok : c.ok := (by simp_all); unfold Config.ok at hok; clear hw; simp only [w64]; omega)
 · rename_i hif
   first | rfl | (exfalso; have hw1 := hw (by simp_all); simp_all; done)
theorem specClockCell_c {W : World}  : Calls Tryz.prog 203 #[] W (Ret fun v w' => v = vi 0 ∧ Below W.heap.size W w') := by
 refine cfr Tryz.func203 Tryz.ntmps203 fun a hF => ?_
 have hS := Sep.refl W
 refine rg hF rfl fun a hF => rg hF rfl fun a hF => ?_
 refine xr ?_
 exact ret1 rfl hF rfl ⟨rfl, hS.old⟩
theorem implCellCount_c {W : World} (c : Config)  : Calls Tryz.prog 147 #[.agg c.enc.toArray] W (Ret fun v w' => v = vi (cellCount c) ∧ Below W.heap.size W w') := by
 refine cfr Tryz.func147 Tryz.ntmps147 fun a hF => ?_
 have hS := Sep.refl W
 refine ws fun K1 hK1 => wl_box (cs := [_, _, _, _, _, _]) hF hS rfl (hF.ev rfl) rfl fun g1 w1 a hS _ hF => ge hK1 hF rfl fun a hF => wp_seq_k fun K2 hK2 => ws fun K3 hK3 => gb 1 0 hF hS rfl rfl rfl fun a hF => ckr hF hS rfl (implIsConfig_c _) fun w2 a hS hF => ?_
 refine ge hK3 hF rfl fun a hF => cx 5 hF rfl (fun c5 hF => ?_) fun c5 hF => ?_
 ·
  refine rg hF rfl fun a hF => ?_
  refine xr ?_
  refine ret1 rfl hF rfl ⟨congrArg vi ?_, hS.old⟩
  unfold cellCount
  have hw : c.ok → IntKind.i64.wrap (c.threads - 1) = c.threads - 1 ∧ IntKind.i64.wrap (c.keys - 1) = c.keys - 1 ∧ IntKind.i64.wrap (c.capacity - 1) = c.capacity - 1 := fun h => by unfold Config.ok at h; exact ⟨wm1 (by omega) (by omega), wm1 (by omega) (by omega), wm1 (by omega) (by omega)⟩
  split
  · rename_i hif
    first
    | (exfalso; have hw1 := hw (by simp_all); simp_all; done)
    | (have hok : c.ok := (by simp_all); unfold Config.ok at hok; clear hw; simp only [w64]; omega)
  · rename_i hif
    first | rfl | (exfalso; have hw1 := hw (by simp_all); simp_all; done)
 refine wp_skip <| hK2 _ _ <| rh 0 hF hS rfl rfl rfl fun a hF => ?_
 refine xr ?_
 refine ret1 rfl hF rfl ⟨congrArg vi ?_, hS.old⟩
 unfold cellCount
 have hw : c.ok → IntKind.i64.wrap (c.threads - 1) = c.threads - 1 ∧ IntKind.i64.wrap (c.keys - 1) = c.keys - 1 ∧ IntKind.i64.wrap (c.capacity - 1) = c.capacity - 1 := fun h => by unfold Config.ok at h; exact ⟨wm1 (by omega) (by omega), wm1 (by omega) (by omega), wm1 (by omega) (by omega)⟩
 split
 · rename_i hif
   first
   | (exfalso; have hw1 := hw (by simp_all); simp_all; done)
   | (have hok : c.ok := (by simp_all); unfold Config.ok at hok; clear hw; simp only [w64]; omega)
 · rename_i hif
   first | rfl | (exfalso; have hw1 := hw (by simp_all); simp_all; done)
theorem implAnnounceCell_c {W : World} (c : Config) (p : Int) : Calls Tryz.prog 68 #[.agg c.enc.toArray, vi p] W (Ret fun v w' => v = vi (announceCell c p) ∧ Below W.heap.size W w') := by
 refine cfr Tryz.func68 Tryz.ntmps68 fun a hF => ?_
 have hS := Sep.refl W
 refine ws fun K1 hK1 => wl_box (cs := [_, _, _, _, _, _]) hF hS rfl (hF.ev rfl) rfl fun g1 w1 a hS _ hF => ge hK1 hF rfl fun a hF => wp_seq_k fun K2 hK2 => ws fun K3 hK3 => gb 1 0 hF hS rfl rfl rfl fun a hF => ckr hF hS rfl (implIsConfig_c _) fun w2 a hS hF => ?_
 refine ga 2 hF rfl fun a hF => ?_
 apply wo 7 8 15 hF hS
 ·
  intro hg8 a hF
  refine gb 4 0 hF hS rfl rfl rfl fun a hF => ckr hF hS rfl (in_c _ _ _) fun w3 a hS hF => ?_
  exact je 7 hF hS rfl rfl rfl rfl
 intro a w4 hF hS
 refine wl_nil <| hK3 _ _ <| cx 15 hF rfl (fun c15 hF => ?_) fun c15 hF => ?_
 ·
  refine rg hF rfl fun a hF => ?_
  refine xr ?_
  refine ret1 rfl hF rfl ⟨congrArg vi ?_, hS.old⟩
  unfold announceCell
  have hw : c.ok → IntKind.i64.wrap (c.threads - 1) = c.threads - 1 ∧ IntKind.i64.wrap (c.keys - 1) = c.keys - 1 ∧ IntKind.i64.wrap (c.capacity - 1) = c.capacity - 1 := fun h => by unfold Config.ok at h; exact ⟨wm1 (by omega) (by omega), wm1 (by omega) (by omega), wm1 (by omega) (by omega)⟩
  split
  · rename_i hif
    first
    | (exfalso; have hw1 := hw (by simp_all); simp_all; done)
    | (have hok : c.ok := (by simp_all); unfold Config.ok at hok; clear hw; simp only [w64]; omega)
  · rename_i hif
    first | rfl | (exfalso; have hw1 := hw (by simp_all); simp_all; done)
 refine wp_skip <| hK2 _ _ <| rg hF rfl fun a hF => ?_
 refine xr ?_
 refine ret1 rfl hF rfl ⟨congrArg vi ?_, hS.old⟩
 unfold announceCell
 have hw : c.ok → IntKind.i64.wrap (c.threads - 1) = c.threads - 1 ∧ IntKind.i64.wrap (c.keys - 1) = c.keys - 1 ∧ IntKind.i64.wrap (c.capacity - 1) = c.capacity - 1 := fun h => by unfold Config.ok at h; exact ⟨wm1 (by omega) (by omega), wm1 (by omega) (by omega), wm1 (by omega) (by omega)⟩
 split
 · rename_i hif
   first
   | (exfalso; have hw1 := hw (by simp_all); simp_all; done)
   | (have hok : c.ok := (by simp_all); unfold Config.ok at hok; clear hw; simp only [w64]; omega)
 · rename_i hif
   first | rfl | (exfalso; have hw1 := hw (by simp_all); simp_all; done)
theorem implHazardCell_c {W : World} (c : Config) (p s : Int) : Calls Tryz.prog 106 #[.agg c.enc.toArray, vi p, vi s] W (Ret fun v w' => v = vi (hazardCell c p s) ∧ Below W.heap.size W w') := by
 refine cfr Tryz.func106 Tryz.ntmps106 fun a hF => ?_
 have hS := Sep.refl W
 refine ws fun K1 hK1 => wl_box (cs := [_, _, _, _, _, _]) hF hS rfl (hF.ev rfl) rfl fun g1 w1 a hS _ hF => ge hK1 hF rfl fun a hF => wp_seq_k fun K2 hK2 => ws fun K3 hK3 => gb 1 0 hF hS rfl rfl rfl fun a hF => ckr hF hS rfl (implIsConfig_c _) fun w2 a hS hF => ?_
 refine ga 2 hF rfl fun a hF => ?_
 apply wo 7 10 17 hF hS
 ·
  intro hg10 a hF
  refine gb 4 0 hF hS rfl rfl rfl fun a hF => ckr hF hS rfl (in_c _ _ _) fun w3 a hS hF => ?_
  exact je 7 hF hS rfl rfl rfl rfl
 intro a w4 hF hS
 refine ga 1 hF rfl fun a hF => ?_
 apply wo 4 18 22 hF hS
 ·
  intro hg18 a hF
  refine ga 1 hF rfl fun a hF => ckr hF hS rfl (in_c _ _ _) fun w5 a hS hF => ?_
  exact je 4 hF hS rfl rfl rfl rfl
 intro a w6 hF hS
 refine wl_nil <| hK3 _ _ <| cx 22 hF rfl (fun c22 hF => ?_) fun c22 hF => ?_
 ·
  refine rg hF rfl fun a hF => ?_
  refine xr ?_
  refine ret1 rfl hF rfl ⟨congrArg vi ?_, hS.old⟩
  unfold hazardCell
  have hw : c.ok → IntKind.i64.wrap (c.threads - 1) = c.threads - 1 ∧ IntKind.i64.wrap (c.keys - 1) = c.keys - 1 ∧ IntKind.i64.wrap (c.capacity - 1) = c.capacity - 1 := fun h => by unfold Config.ok at h; exact ⟨wm1 (by omega) (by omega), wm1 (by omega) (by omega), wm1 (by omega) (by omega)⟩
  split
  · rename_i hif
    first
    | (exfalso; have hw1 := hw (by simp_all); simp_all; done)
    | (have hok : c.ok := (by simp_all); unfold Config.ok at hok; clear hw; simp only [w64]; omega)
  · rename_i hif
    first | rfl | (exfalso; have hw1 := hw (by simp_all); simp_all; done)
 refine wp_skip <| hK2 _ _ <| rh 0 hF hS rfl rfl rfl fun a hF => ?_
 refine xr ?_
 refine ret1 rfl hF rfl ⟨congrArg vi ?_, hS.old⟩
 unfold hazardCell
 have hw : c.ok → IntKind.i64.wrap (c.threads - 1) = c.threads - 1 ∧ IntKind.i64.wrap (c.keys - 1) = c.keys - 1 ∧ IntKind.i64.wrap (c.capacity - 1) = c.capacity - 1 := fun h => by unfold Config.ok at h; exact ⟨wm1 (by omega) (by omega), wm1 (by omega) (by omega), wm1 (by omega) (by omega)⟩
 split
 · rename_i hif
   first
   | (exfalso; have hw1 := hw (by simp_all); simp_all; done)
   | (have hok : c.ok := (by simp_all); unfold Config.ok at hok; clear hw; simp only [w64]; omega)
 · rename_i hif
   first | rfl | (exfalso; have hw1 := hw (by simp_all); simp_all; done)
theorem implHeadCell_c {W : World} (c : Config) (k : Int) : Calls Tryz.prog 131 #[.agg c.enc.toArray, vi k] W (Ret fun v w' => v = vi (headCell c k) ∧ Below W.heap.size W w') := by
 refine cfr Tryz.func131 Tryz.ntmps131 fun a hF => ?_
 have hS := Sep.refl W
 refine ws fun K1 hK1 => wl_box (cs := [_, _, _, _, _, _]) hF hS rfl (hF.ev rfl) rfl fun g1 w1 a hS _ hF => ge hK1 hF rfl fun a hF => wp_seq_k fun K2 hK2 => ws fun K3 hK3 => gb 1 0 hF hS rfl rfl rfl fun a hF => ckr hF hS rfl (implIsConfig_c _) fun w2 a hS hF => ?_
 refine ga 2 hF rfl fun a hF => ?_
 apply wo 7 8 15 hF hS
 ·
  intro hg8 a hF
  refine gb 4 0 hF hS rfl rfl rfl fun a hF => ckr hF hS rfl (in_c _ _ _) fun w3 a hS hF => ?_
  exact je 7 hF hS rfl rfl rfl rfl
 intro a w4 hF hS
 refine wl_nil <| hK3 _ _ <| cx 15 hF rfl (fun c15 hF => ?_) fun c15 hF => ?_
 ·
  refine rg hF rfl fun a hF => ?_
  refine xr ?_
  refine ret1 rfl hF rfl ⟨congrArg vi ?_, hS.old⟩
  unfold headCell
  have hw : c.ok → IntKind.i64.wrap (c.threads - 1) = c.threads - 1 ∧ IntKind.i64.wrap (c.keys - 1) = c.keys - 1 ∧ IntKind.i64.wrap (c.capacity - 1) = c.capacity - 1 := fun h => by unfold Config.ok at h; exact ⟨wm1 (by omega) (by omega), wm1 (by omega) (by omega), wm1 (by omega) (by omega)⟩
  split
  · rename_i hif
    first
    | (exfalso; have hw1 := hw (by simp_all); simp_all; done)
    | (have hok : c.ok := (by simp_all); unfold Config.ok at hok; clear hw; simp only [w64]; omega)
  · rename_i hif
    first | rfl | (exfalso; have hw1 := hw (by simp_all); simp_all; done)
 refine wp_skip <| hK2 _ _ <| rh 0 hF hS rfl rfl rfl fun a hF => ?_
 refine xr ?_
 refine ret1 rfl hF rfl ⟨congrArg vi ?_, hS.old⟩
 unfold headCell
 have hw : c.ok → IntKind.i64.wrap (c.threads - 1) = c.threads - 1 ∧ IntKind.i64.wrap (c.keys - 1) = c.keys - 1 ∧ IntKind.i64.wrap (c.capacity - 1) = c.capacity - 1 := fun h => by unfold Config.ok at h; exact ⟨wm1 (by omega) (by omega), wm1 (by omega) (by omega), wm1 (by omega) (by omega)⟩
 split
 · rename_i hif
   first
   | (exfalso; have hw1 := hw (by simp_all); simp_all; done)
   | (have hok : c.ok := (by simp_all); unfold Config.ok at hok; clear hw; simp only [w64]; omega)
 · rename_i hif
   first | rfl | (exfalso; have hw1 := hw (by simp_all); simp_all; done)
theorem implNodeCell_c {W : World} (c : Config) (i f : Int) : Calls Tryz.prog 149 #[.agg c.enc.toArray, vi i, vi f] W (Ret fun v w' => v = vi (nodeCell c i f) ∧ Below W.heap.size W w') := by
 refine cfr Tryz.func149 Tryz.ntmps149 fun a hF => ?_
 have hS := Sep.refl W
 refine ws fun K1 hK1 => wl_box (cs := [_, _, _, _, _, _]) hF hS rfl (hF.ev rfl) rfl fun g1 w1 a hS _ hF => ge hK1 hF rfl fun a hF => wp_seq_k fun K2 hK2 => ws fun K3 hK3 => gb 1 0 hF hS rfl rfl rfl fun a hF => ckr hF hS rfl (implIsConfig_c _) fun w2 a hS hF => ?_
 refine ga 2 hF rfl fun a hF => ?_
 apply wo 7 10 17 hF hS
 ·
  intro hg10 a hF
  refine gb 4 0 hF hS rfl rfl rfl fun a hF => ckr hF hS rfl (in_c _ _ _) fun w3 a hS hF => ?_
  exact je 7 hF hS rfl rfl rfl rfl
 intro a w4 hF hS
 refine ga 1 hF rfl fun a hF => ?_
 apply wo 4 18 22 hF hS
 ·
  intro hg18 a hF
  refine ga 1 hF rfl fun a hF => ckr hF hS rfl (in_c _ _ _) fun w5 a hS hF => ?_
  exact je 4 hF hS rfl rfl rfl rfl
 intro a w6 hF hS
 refine wl_nil <| hK3 _ _ <| cx 22 hF rfl (fun c22 hF => ?_) fun c22 hF => ?_
 ·
  refine rg hF rfl fun a hF => ?_
  refine xr ?_
  refine ret1 rfl hF rfl ⟨congrArg vi ?_, hS.old⟩
  unfold nodeCell
  have hw : c.ok → IntKind.i64.wrap (c.threads - 1) = c.threads - 1 ∧ IntKind.i64.wrap (c.keys - 1) = c.keys - 1 ∧ IntKind.i64.wrap (c.capacity - 1) = c.capacity - 1 := fun h => by unfold Config.ok at h; exact ⟨wm1 (by omega) (by omega), wm1 (by omega) (by omega), wm1 (by omega) (by omega)⟩
  split
  · rename_i hif
    first
    | (exfalso; have hw1 := hw (by simp_all); simp_all; done)
    | (have hok : c.ok := (by simp_all); unfold Config.ok at hok; clear hw; simp only [w64]; omega)
  · rename_i hif
    first | rfl | (exfalso; have hw1 := hw (by simp_all); simp_all; done)
 refine wp_skip <| hK2 _ _ <| rh 0 hF hS rfl rfl rfl fun a hF => ?_
 refine xr ?_
 refine ret1 rfl hF rfl ⟨congrArg vi ?_, hS.old⟩
 unfold nodeCell
 have hw : c.ok → IntKind.i64.wrap (c.threads - 1) = c.threads - 1 ∧ IntKind.i64.wrap (c.keys - 1) = c.keys - 1 ∧ IntKind.i64.wrap (c.capacity - 1) = c.capacity - 1 := fun h => by unfold Config.ok at h; exact ⟨wm1 (by omega) (by omega), wm1 (by omega) (by omega), wm1 (by omega) (by omega)⟩
 split
 · rename_i hif
   first
   | (exfalso; have hw1 := hw (by simp_all); simp_all; done)
   | (have hok : c.ok := (by simp_all); unfold Config.ok at hok; clear hw; simp only [w64]; omega)
 · rename_i hif
   first | rfl | (exfalso; have hw1 := hw (by simp_all); simp_all; done)
theorem implClockCell_c {W : World}  : Calls Tryz.prog 125 #[] W (Ret fun v w' => v = vi 0 ∧ Below W.heap.size W w') := by
 refine cfr Tryz.func125 Tryz.ntmps125 fun a hF => ?_
 have hS := Sep.refl W
 refine rg hF rfl fun a hF => rg hF rfl fun a hF => ?_
 refine xr ?_
 exact ret1 rfl hF rfl ⟨rfl, hS.old⟩
theorem implArenaCell_c {W : World}  : Calls Tryz.prog 138 #[] W (Ret fun v w' => v = vi 1 ∧ Below W.heap.size W w') := by
 refine cfr Tryz.func138 Tryz.ntmps138 fun a hF => ?_
 have hS := Sep.refl W
 refine rg hF rfl fun a hF => rg hF rfl fun a hF => ?_
 refine xr ?_
 exact ret1 rfl hF rfl ⟨rfl, hS.old⟩
theorem specIsEntry_c {W : World} {e : Entry} (hw : e.wf) : Calls Tryz.prog 153 #[.agg e.enc.toArray] W (Ret fun v w' => v = .bool (isEntry e) ∧ Below W.heap.size W w') := by
 refine cfr Tryz.func153 Tryz.ntmps153 fun a hF => ?_
 have hS := Sep.refl W
 refine ws fun K1 hK1 => wl_box (cs := [_, _, _, _]) hF hS rfl (hF.ev rfl) rfl fun g1 w1 a hS _ hF => ge hK1 hF rfl fun a hF => ws fun K2 hK2 => gb 2 0 hF hS rfl rfl rfl fun a hF => ckr hF hS rfl (specIsHandle_c hw.1) fun w2 a hS hF => ga 1 hF rfl fun a hF => ?_
 apply wa 5 6 11 hF hS
 ·
  intro hg6 a hF
  refine gb 2 0 hF hS rfl rfl rfl fun a hF => ckr hF hS rfl (specIsMarked_c hw.1) fun w3 a hS hF => ?_
  exact je 5 hF hS rfl rfl rfl rfl
 intro a w4 hF hS
 refine ga 1 hF rfl fun a hF => ?_
 apply wa 4 12 16 hF hS
 ·
  intro hg12 a hF
  refine gb 2 0 hF hS rfl rfl rfl fun a hF => ckr hF hS rfl (l1In_c _ _ _) fun w5 a hS hF => ?_
  exact je 4 hF hS rfl rfl rfl rfl
 intro a w6 hF hS
 refine ga 1 hF rfl fun a hF => ?_
 apply wa 6 17 23 hF hS
 ·
  intro hg17 a hF
  refine gb 4 0 hF hS rfl rfl rfl fun a hF => ckr hF hS rfl (l1In_c _ _ _) fun w7 a hS hF => ?_
  exact je 6 hF hS rfl rfl rfl rfl
 intro a w8 hF hS
 refine ga 1 hF rfl fun a hF => ?_
 apply wa 4 24 28 hF hS
 ·
  intro hg24 a hF
  exact jf 4 0 hF hS rfl rfl rfl rfl rfl rfl
 intro a w9 hF hS
 refine ge hK2 hF rfl fun a hF => ?_
 refine xr ?_
 refine ret1 rfl hF rfl ⟨congrArg Value.bool ?_, hS.old⟩
 unfold isEntry
 first | rfl | (rw [Bool.eq_iff_iff]; simp only [Bool.and_eq_true, decide_eq_true_eq, and_assoc])
theorem implIsEntry_c {W : World} {e : Entry} (hw : e.wf) : Calls Tryz.prog 139 #[.agg e.enc.toArray] W (Ret fun v w' => v = .bool (isEntry e) ∧ Below W.heap.size W w') := by
 refine cfr Tryz.func139 Tryz.ntmps139 fun a hF => ?_
 have hS := Sep.refl W
 refine ws fun K1 hK1 => wl_box (cs := [_, _, _, _]) hF hS rfl (hF.ev rfl) rfl fun g1 w1 a hS _ hF => ge hK1 hF rfl fun a hF => ws fun K2 hK2 => gb 2 0 hF hS rfl rfl rfl fun a hF => ckr hF hS rfl (implIsHandle_c hw.1) fun w2 a hS hF => ga 1 hF rfl fun a hF => ?_
 apply wa 5 6 11 hF hS
 ·
  intro hg6 a hF
  refine gb 2 0 hF hS rfl rfl rfl fun a hF => ckr hF hS rfl (implIsMarked_c hw.1) fun w3 a hS hF => ?_
  exact je 5 hF hS rfl rfl rfl rfl
 intro a w4 hF hS
 refine ga 1 hF rfl fun a hF => ?_
 apply wa 4 12 16 hF hS
 ·
  intro hg12 a hF
  refine gb 2 0 hF hS rfl rfl rfl fun a hF => ckr hF hS rfl (in_c _ _ _) fun w5 a hS hF => ?_
  exact je 4 hF hS rfl rfl rfl rfl
 intro a w6 hF hS
 refine ga 1 hF rfl fun a hF => ?_
 apply wa 4 17 21 hF hS
 ·
  intro hg17 a hF
  exact jf 4 0 hF hS rfl rfl rfl rfl rfl rfl
 intro a w7 hF hS
 refine ga 1 hF rfl fun a hF => ?_
 apply wa 6 22 28 hF hS
 ·
  intro hg22 a hF
  exact jf 6 0 hF hS rfl rfl rfl rfl rfl rfl
 intro a w8 hF hS
 refine ga 1 hF rfl fun a hF => ?_
 apply wa 4 29 33 hF hS
 ·
  intro hg29 a hF
  exact jf 4 0 hF hS rfl rfl rfl rfl rfl rfl
 intro a w9 hF hS
 refine ge hK2 hF rfl fun a hF => ?_
 refine xr ?_
 refine ret1 rfl hF rfl ⟨congrArg Value.bool ?_, hS.old⟩
 unfold isEntry
 first | rfl | (rw [Bool.eq_iff_iff]; simp only [Bool.and_eq_true, decide_eq_true_eq, and_assoc])
theorem l7Pcs_c {W : World}  : Calls Tryz.prog 196 #[] W (Ret (Mk W (fun s : Slv => sv s) (fun s => [Own intEK (sv s) pcs]))) := by
 refine cfr Tryz.func196 Tryz.ntmps196 fun a hF => ?_
 have hS := Sep.refl W
 refine rg hF rfl fun a hF => ws fun K2 hK2 => wl_bslice intEK [vi 0, vi 1, vi 2, vi 3, vi 4, vi 5, vi 10, vi 11, vi 12, vi 13, vi 14, vi 15, vi 16, vi 17, vi 18, vi 19, vi 20, vi 21, vi 30, vi 31, vi 32, vi 33, vi 34, vi 35, vi 36, vi 37, vi 38, vi 39, vi 40, vi 41, vi 42, vi 43, vi 44, vi 45, vi 46, vi 47, vi 50, vi 60, vi 61, vi 62, vi 63, vi 70, vi 80] [0, 1, 2, 3, 4, 5, 10, 11, 12, 13, 14, 15, 16, 17, 18, 19, 20, 21, 30, 31, 32, 33, 34, 35, 36, 37, 38, 39, 40, 41, 42, 43, 44, 45, 46, 47, 50, 60, 61, 62, 63, 70, 80] rfl hF hS rfl mk26 rfl ⟨rfl, ec, rfl, ec, rfl, ec, rfl, ec, rfl, ec, rfl, ec, rfl, ec, rfl, ec, rfl, ec, rfl, ec, rfl, ec, rfl, ec, rfl, ec, rfl, ec, rfl, ec, rfl, ec, rfl, ec, rfl, ec, rfl, ec, rfl, ec, rfl, ec, rfl, ec, rfl, ec, rfl, ec, rfl, ec, rfl, ec, rfl, ec, rfl, ec, rfl, ec, rfl, ec, rfl, ec, rfl, ec, rfl, ec, rfl, ec, rfl, ec, rfl, ec, rfl, ec, rfl, ec, rfl, ec, rfl, ec, rfl, ec, rfl, ec, rfl, ec, trivial⟩ rfl rfl rfl rfl fun gl_1 w1 a hS hF => ge hK2 hF rfl fun a hF => ?_
 refine xr ?_
 exact ret1 rfl hF rfl ⟨(_, _, _), rfl, hS.pick [0] (by decide) rfl⟩
theorem l7Names_c {W : World}  : Calls Tryz.prog 202 #[] W (Ret (Mk W (fun s : Slv => sv s) (fun s => [Own stringEK (sv s) pcNames]))) := by
 refine cfr Tryz.func202 Tryz.ntmps202 fun a hF => ?_
 have hS := Sep.refl W
 refine rg hF rfl fun a hF => ws fun K2 hK2 => wl_bslice stringEK [.string ⟨#[105, 100, 108, 101]⟩, .string ⟨#[98, 101, 103, 105, 110, 32, 108, 111, 97, 100]⟩, .string ⟨#[98, 101, 103, 105, 110, 32, 97, 110, 110, 111, 117, 110, 99, 101]⟩, .string ⟨#[98, 101, 103, 105, 110, 32, 99, 104, 101, 99, 107]⟩, .string ⟨#[98, 101, 103, 105, 110, 32, 116, 105, 99, 107]⟩, .string ⟨#[98, 101, 103, 105, 110, 32, 99, 108, 101, 97, 114]⟩, .string ⟨#[119, 97, 108, 107, 32, 104, 101, 97, 100]⟩, .string ⟨#[119, 97, 108, 107, 32, 103, 117, 97, 114, 100]⟩, .string ⟨#[119, 97, 108, 107, 32, 99, 104, 101, 99, 107]⟩, .string ⟨#[119, 97, 108, 107, 32, 110, 101, 120, 116]⟩, .string ⟨#[119, 97, 108, 107, 32, 117, 110, 108, 105, 110, 107]⟩, .string ⟨#[119, 97, 108, 107, 32, 115, 104, 105, 102, 116]⟩, .string ⟨#[114, 101, 97, 100, 32, 115, 116, 97, 109, 112]⟩, .string ⟨#[114, 101, 97, 100, 32, 99, 108, 111, 99, 107]⟩, .string ⟨#[114, 101, 97, 100, 32, 104, 101, 108, 112]⟩, .string ⟨#[114, 101, 97, 100, 32, 118, 97, 108, 117, 101]⟩, .string ⟨#[114, 101, 97, 100, 32, 99, 108, 101, 97, 114]⟩, .string ⟨#[114, 101, 97, 100, 32, 100, 111, 110, 101]⟩, .string ⟨#[119, 114, 105, 116, 101, 32, 97, 114, 101, 110, 97]⟩, .string ⟨#[119, 114, 105, 116, 101, 32, 116, 97, 107, 101]⟩, .string ⟨#[119, 114, 105, 116, 101, 32, 118, 97, 108, 117, 101]⟩, .string ⟨#[119, 114, 105, 116, 101, 32, 114, 101, 115, 101, 116]⟩, .string ⟨#[119, 114, 105, 116, 101, 32, 103, 117, 97, 114, 100]⟩, .string ⟨#[119, 114, 105, 116, 101, 32, 104, 101, 97, 100]⟩, .string ⟨#[119, 114, 105, 116, 101, 32, 104, 97, 122, 97, 114, 100]⟩, .string ⟨#[119, 114, 105, 116, 101, 32, 99, 104, 101, 99, 107]⟩, .string ⟨#[119, 114, 105, 116, 101, 32, 115, 116, 97, 109, 112]⟩, .string ⟨#[119, 114, 105, 116, 101, 32, 99, 108, 111, 99, 107]⟩, .string ⟨#[119, 114, 105, 116, 101, 32, 104, 101, 108, 112]⟩, .string ⟨#[119, 114, 105, 116, 101, 32, 108, 105, 110, 107]⟩, .string ⟨#[119, 114, 105, 116, 101, 32, 112, 117, 98, 108, 105, 115, 104]⟩, .string ⟨#[119, 114, 105, 116, 101, 32, 111, 119, 110, 32, 99, 108, 111, 99, 107]⟩, .string ⟨#[119, 114, 105, 116, 101, 32, 111, 119, 110, 32, 115, 116, 97, 109, 112]⟩, .string ⟨#[119, 114, 105, 116, 101, 32, 114, 101, 116, 105, 114, 101]⟩, .string ⟨#[119, 114, 105, 116, 101, 32, 99, 108, 101, 97, 114]⟩, .string ⟨#[119, 114, 105, 116, 101, 32, 100, 111, 110, 101]⟩, .string ⟨#[115, 99, 97, 110, 32, 97, 110, 110, 111, 117, 110, 99, 101, 100]⟩, .string ⟨#[109, 97, 114, 107, 32, 108, 111, 97, 100]⟩, .string ⟨#[109, 97, 114, 107, 32, 115, 119, 97, 112]⟩, .string ⟨#[102, 108, 117, 115, 104, 32, 99, 108, 101, 97, 114]⟩, .string ⟨#[102, 108, 117, 115, 104, 32, 100, 111, 110, 101]⟩, .string ⟨#[115, 99, 97, 110, 32, 104, 97, 122, 97, 114, 100, 115]⟩, .string ⟨#[101, 110, 100, 32, 99, 108, 101, 97, 114]⟩] [⟨#[105, 100, 108, 101]⟩, ⟨#[98, 101, 103, 105, 110, 32, 108, 111, 97, 100]⟩, ⟨#[98, 101, 103, 105, 110, 32, 97, 110, 110, 111, 117, 110, 99, 101]⟩, ⟨#[98, 101, 103, 105, 110, 32, 99, 104, 101, 99, 107]⟩, ⟨#[98, 101, 103, 105, 110, 32, 116, 105, 99, 107]⟩, ⟨#[98, 101, 103, 105, 110, 32, 99, 108, 101, 97, 114]⟩, ⟨#[119, 97, 108, 107, 32, 104, 101, 97, 100]⟩, ⟨#[119, 97, 108, 107, 32, 103, 117, 97, 114, 100]⟩, ⟨#[119, 97, 108, 107, 32, 99, 104, 101, 99, 107]⟩, ⟨#[119, 97, 108, 107, 32, 110, 101, 120, 116]⟩, ⟨#[119, 97, 108, 107, 32, 117, 110, 108, 105, 110, 107]⟩, ⟨#[119, 97, 108, 107, 32, 115, 104, 105, 102, 116]⟩, ⟨#[114, 101, 97, 100, 32, 115, 116, 97, 109, 112]⟩, ⟨#[114, 101, 97, 100, 32, 99, 108, 111, 99, 107]⟩, ⟨#[114, 101, 97, 100, 32, 104, 101, 108, 112]⟩, ⟨#[114, 101, 97, 100, 32, 118, 97, 108, 117, 101]⟩, ⟨#[114, 101, 97, 100, 32, 99, 108, 101, 97, 114]⟩, ⟨#[114, 101, 97, 100, 32, 100, 111, 110, 101]⟩, ⟨#[119, 114, 105, 116, 101, 32, 97, 114, 101, 110, 97]⟩, ⟨#[119, 114, 105, 116, 101, 32, 116, 97, 107, 101]⟩, ⟨#[119, 114, 105, 116, 101, 32, 118, 97, 108, 117, 101]⟩, ⟨#[119, 114, 105, 116, 101, 32, 114, 101, 115, 101, 116]⟩, ⟨#[119, 114, 105, 116, 101, 32, 103, 117, 97, 114, 100]⟩, ⟨#[119, 114, 105, 116, 101, 32, 104, 101, 97, 100]⟩, ⟨#[119, 114, 105, 116, 101, 32, 104, 97, 122, 97, 114, 100]⟩, ⟨#[119, 114, 105, 116, 101, 32, 99, 104, 101, 99, 107]⟩, ⟨#[119, 114, 105, 116, 101, 32, 115, 116, 97, 109, 112]⟩, ⟨#[119, 114, 105, 116, 101, 32, 99, 108, 111, 99, 107]⟩, ⟨#[119, 114, 105, 116, 101, 32, 104, 101, 108, 112]⟩, ⟨#[119, 114, 105, 116, 101, 32, 108, 105, 110, 107]⟩, ⟨#[119, 114, 105, 116, 101, 32, 112, 117, 98, 108, 105, 115, 104]⟩, ⟨#[119, 114, 105, 116, 101, 32, 111, 119, 110, 32, 99, 108, 111, 99, 107]⟩, ⟨#[119, 114, 105, 116, 101, 32, 111, 119, 110, 32, 115, 116, 97, 109, 112]⟩, ⟨#[119, 114, 105, 116, 101, 32, 114, 101, 116, 105, 114, 101]⟩, ⟨#[119, 114, 105, 116, 101, 32, 99, 108, 101, 97, 114]⟩, ⟨#[119, 114, 105, 116, 101, 32, 100, 111, 110, 101]⟩, ⟨#[115, 99, 97, 110, 32, 97, 110, 110, 111, 117, 110, 99, 101, 100]⟩, ⟨#[109, 97, 114, 107, 32, 108, 111, 97, 100]⟩, ⟨#[109, 97, 114, 107, 32, 115, 119, 97, 112]⟩, ⟨#[102, 108, 117, 115, 104, 32, 99, 108, 101, 97, 114]⟩, ⟨#[102, 108, 117, 115, 104, 32, 100, 111, 110, 101]⟩, ⟨#[115, 99, 97, 110, 32, 104, 97, 122, 97, 114, 100, 115]⟩, ⟨#[101, 110, 100, 32, 99, 108, 101, 97, 114]⟩] rfl hF hS rfl mk142 rfl ⟨rfl, ec, rfl, ec, rfl, ec, rfl, ec, rfl, ec, rfl, ec, rfl, ec, rfl, ec, rfl, ec, rfl, ec, rfl, ec, rfl, ec, rfl, ec, rfl, ec, rfl, ec, rfl, ec, rfl, ec, rfl, ec, rfl, ec, rfl, ec, rfl, ec, rfl, ec, rfl, ec, rfl, ec, rfl, ec, rfl, ec, rfl, ec, rfl, ec, rfl, ec, rfl, ec, rfl, ec, rfl, ec, rfl, ec, rfl, ec, rfl, ec, rfl, ec, rfl, ec, rfl, ec, rfl, ec, rfl, ec, rfl, ec, rfl, ec, rfl, ec, trivial⟩ rfl rfl rfl rfl fun gl_1 w1 a hS hF => ge hK2 hF rfl fun a hF => ?_
 refine xr ?_
 exact ret1 rfl hF rfl ⟨(_, _, _), rfl, hS.pick [0] (by decide) rfl⟩
theorem specPcName_c {W : World} {pc : Int} : Calls Tryz.prog 187 #[vi pc] W (Ret fun v w' => (∃ s : ByteArray, v = .string s ∧ (s.data.toList == []) = !decide (pc ∈ pcs)) ∧ Below W.heap.size W w') := by
 refine cfr Tryz.func187 Tryz.ntmps187 fun a hF => ?_
 have hpl : pcs.length = 43 := rfl
 have hnl : pcNames.length = 43 := rfl
 have hS := Sep.refl W
 refine rg hF rfl fun a hF => ws fun K2 hK2 => ?_
 refine wl_mk hF hS rfl rfl rfl (r_call0 en196 ) (l7Pcs_c) ?_; rintro s5 w1 a hS_ hF; replace hS := hS_; clear hS_; dsimp only [List.cons_append, List.nil_append] at hS
 have hln5 := hS.own_len (q := 0) rfl
 refine ge hK2 hF rfl fun a hF => wp_seq_k fun K3 hK3 => rg hF rfl fun a hF => wp_block ?_
 have hL_ := (((hF.nil.keep hF (t := 3) rfl).keep hF (t := 2) rfl).keep hF (t := 0) rfl)
 refine wp_loop_r (σ := Nat) (fun k L_ => (4, vi k) :: L_) (fun k => (k ≤ pcs.length) ∧ ((pcs.take k).any (fun x => decide (x = pc)) = false)) (fun k => 43 - k) 0 hS (hL_.keepE hF (t := 4) rfl rfl) ?_ ?_
 · exact ⟨Nat.zero_le _, rfl⟩
 rintro k a w2 ⟨hk, hn⟩ hS hF; try dsimp only at hF; try dsimp only at hS
 refine wp_seq_k fun K5 hK5 => rg hF rfl fun a hF => cx 9 hF rfl (fun c9 hF => ?_) fun c9 hF => ?_
 ·
  refine wp_skip <| hK5 _ _ <| wp_seq_k fun K7 hK7 => wp_block <| ws fun K8 hK8 => ga 2 hF rfl fun a hF => ?_
  obtain ⟨g14, o14, m14, q14, hv14, hm14, hl14, hc14⟩ := Rd.atF ((hS.own_rd (i := 0) rfl)) (a := a) (X := .tmp 13) (hF.ev rfl) (by omega) (by omega)
  refine wl hF rfl rfl rfl (r_index sl26 ((hF.ev rfl).trans hv14) (hF.ev rfl) (by omega) (by first | omega | (simp at hm14; omega))) fun a hF => ?_
  refine wl hF rfl rfl rfl (r_load1 sc3 (hF.ev rfl) (hc14 0 _ rfl)) fun a hF => ge hK8 hF rfl fun a hF => cx 17 hF rfl (fun c17 hF => ?_) fun c17 hF => ?_
  ·
   refine ws fun K9 hK9 => ?_
   refine wl_mk hF hS rfl rfl rfl (r_call0 en202 ) (l7Names_c) ?_; rintro s18 w3 a hS_ hF; replace hS := hS_; clear hS_; dsimp only [List.cons_append, List.nil_append] at hS
   have hln18 := hS.own_len (q := 0) rfl
   refine ga 1 hF rfl fun a hF => ?_
   obtain ⟨g20, o20, m20, q20, hv20, hm20, hl20, hc20⟩ := Rd.atF ((hS.own_rd (i := 0) rfl)) (a := a) (X := .tmp 19) (hF.ev rfl) (by omega) (by have : pcs.length = 43 := rfl; have : pcNames.length = 43 := rfl; omega)
   refine wl hF rfl rfl rfl (r_index sl142 ((hF.ev rfl).trans hv20) (hF.ev rfl) (by omega) (by first | omega | (simp at hm20; omega))) fun a hF => ?_
   refine wl hF rfl rfl rfl (r_load1 sc9 (hF.ev rfl) (hc20 0 _ rfl)) fun a hF => ge hK9 hF rfl fun a hF => ?_
   refine xr ?_
   first
     | (refine ret1 rfl hF rfl ⟨⟨_, rfl, ?_⟩, hS.old⟩
        rw [pcNames_ne (at0_mem (by omega) (by have : pcs.length = 43 := rfl; have : pcNames.length = 43 := rfl; omega)), decide_eq_true (show pc ∈ pcs from c17 ▸ at0_mem (by omega) (by omega))]; rfl)
     | (refine ret1 rfl hF rfl ⟨⟨_, rfl, ?_⟩, hS.old⟩
        have hn2 := any_all hn hk (by omega)
        rw [decide_eq_false (fun h => by have := List.any_eq_false.1 hn2 pc h; simp at this)]; rfl)
  refine wp_skip ?_
  refine xt ?_
  refine hK7 _ _ <| rl hF rfl fun a hF => ?_
  refine xt ?_
  refine ⟨k + 1, ⟨by omega, any_next hn (at0_nat (by omega)) (decide_eq_false c17)⟩, hS, ((((hF.nil.keep hF (t := 3) rfl).keep hF (t := 2) rfl).keep hF (t := 0) rfl).keepE hF (t := 4) rfl (wk (by omega))), by have : pcs.length = 43 := rfl; omega⟩
 refine wp_exit ?_
 refine xt ?_
 refine hK3 _ _ <| rg hF rfl fun a hF => ?_
 refine xr ?_
 first
   | (refine ret1 rfl hF rfl ⟨⟨_, rfl, ?_⟩, hS.old⟩
      rw [pcNames_ne (at0_mem (by omega) (by have : pcs.length = 43 := rfl; have : pcNames.length = 43 := rfl; omega)), decide_eq_true (show pc ∈ pcs from c17 ▸ at0_mem (by omega) (by omega))]; rfl)
   | (refine ret1 rfl hF rfl ⟨⟨_, rfl, ?_⟩, hS.old⟩
      have hn2 := any_all hn hk (by omega)
      rw [decide_eq_false (fun h => by have := List.any_eq_false.1 hn2 pc h; simp at this)]; rfl)
theorem implPcName_c {W : World} {pc : Int} : Calls Tryz.prog 199 #[vi pc] W (Ret fun v w' => (∃ s : ByteArray, v = .string s ∧ (s.data.toList == []) = !decide (pc ∈ pcs)) ∧ Below W.heap.size W w') := by
 refine cfr Tryz.func199 Tryz.ntmps199 fun a hF => ?_
 have hS := Sep.refl W
 refine rg hF rfl fun a hF => wp_seq_k fun K2 hK2 => rg hF rfl fun a hF => wp_block <| rg hF rfl fun a hF => cx 4 hF rfl (fun c4 hF => ?_) fun c4 hF => ?_
 ·
  refine rg hF rfl fun a hF => ?_
  refine xr ?_
  refine ret1 rfl hF rfl ⟨⟨_, rfl, ?_⟩, hS.old⟩
  first
    | (rw [decide_eq_true (show pc ∈ pcs from by subst_vars; decide)]; rfl)
    | (rw [decide_eq_false (show ¬ pc ∈ pcs from by unfold pcs; simp only [List.mem_cons, List.not_mem_nil, or_false]; omega)]; rfl)
 refine rg hF rfl fun a hF => cx 6 hF rfl (fun c6 hF => ?_) fun c6 hF => ?_
 ·
  refine rg hF rfl fun a hF => ?_
  refine xr ?_
  refine ret1 rfl hF rfl ⟨⟨_, rfl, ?_⟩, hS.old⟩
  first
    | (rw [decide_eq_true (show pc ∈ pcs from by subst_vars; decide)]; rfl)
    | (rw [decide_eq_false (show ¬ pc ∈ pcs from by unfold pcs; simp only [List.mem_cons, List.not_mem_nil, or_false]; omega)]; rfl)
 refine rg hF rfl fun a hF => cx 8 hF rfl (fun c8 hF => ?_) fun c8 hF => ?_
 ·
  refine rg hF rfl fun a hF => ?_
  refine xr ?_
  refine ret1 rfl hF rfl ⟨⟨_, rfl, ?_⟩, hS.old⟩
  first
    | (rw [decide_eq_true (show pc ∈ pcs from by subst_vars; decide)]; rfl)
    | (rw [decide_eq_false (show ¬ pc ∈ pcs from by unfold pcs; simp only [List.mem_cons, List.not_mem_nil, or_false]; omega)]; rfl)
 refine rg hF rfl fun a hF => cx 10 hF rfl (fun c10 hF => ?_) fun c10 hF => ?_
 ·
  refine rg hF rfl fun a hF => ?_
  refine xr ?_
  refine ret1 rfl hF rfl ⟨⟨_, rfl, ?_⟩, hS.old⟩
  first
    | (rw [decide_eq_true (show pc ∈ pcs from by subst_vars; decide)]; rfl)
    | (rw [decide_eq_false (show ¬ pc ∈ pcs from by unfold pcs; simp only [List.mem_cons, List.not_mem_nil, or_false]; omega)]; rfl)
 refine rg hF rfl fun a hF => cx 12 hF rfl (fun c12 hF => ?_) fun c12 hF => ?_
 ·
  refine rg hF rfl fun a hF => ?_
  refine xr ?_
  refine ret1 rfl hF rfl ⟨⟨_, rfl, ?_⟩, hS.old⟩
  first
    | (rw [decide_eq_true (show pc ∈ pcs from by subst_vars; decide)]; rfl)
    | (rw [decide_eq_false (show ¬ pc ∈ pcs from by unfold pcs; simp only [List.mem_cons, List.not_mem_nil, or_false]; omega)]; rfl)
 refine rg hF rfl fun a hF => cx 14 hF rfl (fun c14 hF => ?_) fun c14 hF => ?_
 ·
  refine rg hF rfl fun a hF => ?_
  refine xr ?_
  refine ret1 rfl hF rfl ⟨⟨_, rfl, ?_⟩, hS.old⟩
  first
    | (rw [decide_eq_true (show pc ∈ pcs from by subst_vars; decide)]; rfl)
    | (rw [decide_eq_false (show ¬ pc ∈ pcs from by unfold pcs; simp only [List.mem_cons, List.not_mem_nil, or_false]; omega)]; rfl)
 refine rg hF rfl fun a hF => cx 16 hF rfl (fun c16 hF => ?_) fun c16 hF => ?_
 ·
  refine rg hF rfl fun a hF => ?_
  refine xr ?_
  refine ret1 rfl hF rfl ⟨⟨_, rfl, ?_⟩, hS.old⟩
  first
    | (rw [decide_eq_true (show pc ∈ pcs from by subst_vars; decide)]; rfl)
    | (rw [decide_eq_false (show ¬ pc ∈ pcs from by unfold pcs; simp only [List.mem_cons, List.not_mem_nil, or_false]; omega)]; rfl)
 refine rg hF rfl fun a hF => cx 18 hF rfl (fun c18 hF => ?_) fun c18 hF => ?_
 ·
  refine rg hF rfl fun a hF => ?_
  refine xr ?_
  refine ret1 rfl hF rfl ⟨⟨_, rfl, ?_⟩, hS.old⟩
  first
    | (rw [decide_eq_true (show pc ∈ pcs from by subst_vars; decide)]; rfl)
    | (rw [decide_eq_false (show ¬ pc ∈ pcs from by unfold pcs; simp only [List.mem_cons, List.not_mem_nil, or_false]; omega)]; rfl)
 refine rg hF rfl fun a hF => cx 20 hF rfl (fun c20 hF => ?_) fun c20 hF => ?_
 ·
  refine rg hF rfl fun a hF => ?_
  refine xr ?_
  refine ret1 rfl hF rfl ⟨⟨_, rfl, ?_⟩, hS.old⟩
  first
    | (rw [decide_eq_true (show pc ∈ pcs from by subst_vars; decide)]; rfl)
    | (rw [decide_eq_false (show ¬ pc ∈ pcs from by unfold pcs; simp only [List.mem_cons, List.not_mem_nil, or_false]; omega)]; rfl)
 refine rg hF rfl fun a hF => cx 22 hF rfl (fun c22 hF => ?_) fun c22 hF => ?_
 ·
  refine rg hF rfl fun a hF => ?_
  refine xr ?_
  refine ret1 rfl hF rfl ⟨⟨_, rfl, ?_⟩, hS.old⟩
  first
    | (rw [decide_eq_true (show pc ∈ pcs from by subst_vars; decide)]; rfl)
    | (rw [decide_eq_false (show ¬ pc ∈ pcs from by unfold pcs; simp only [List.mem_cons, List.not_mem_nil, or_false]; omega)]; rfl)
 refine rg hF rfl fun a hF => cx 24 hF rfl (fun c24 hF => ?_) fun c24 hF => ?_
 ·
  refine rg hF rfl fun a hF => ?_
  refine xr ?_
  refine ret1 rfl hF rfl ⟨⟨_, rfl, ?_⟩, hS.old⟩
  first
    | (rw [decide_eq_true (show pc ∈ pcs from by subst_vars; decide)]; rfl)
    | (rw [decide_eq_false (show ¬ pc ∈ pcs from by unfold pcs; simp only [List.mem_cons, List.not_mem_nil, or_false]; omega)]; rfl)
 refine rg hF rfl fun a hF => cx 26 hF rfl (fun c26 hF => ?_) fun c26 hF => ?_
 ·
  refine rg hF rfl fun a hF => ?_
  refine xr ?_
  refine ret1 rfl hF rfl ⟨⟨_, rfl, ?_⟩, hS.old⟩
  first
    | (rw [decide_eq_true (show pc ∈ pcs from by subst_vars; decide)]; rfl)
    | (rw [decide_eq_false (show ¬ pc ∈ pcs from by unfold pcs; simp only [List.mem_cons, List.not_mem_nil, or_false]; omega)]; rfl)
 refine rg hF rfl fun a hF => cx 28 hF rfl (fun c28 hF => ?_) fun c28 hF => ?_
 ·
  refine rg hF rfl fun a hF => ?_
  refine xr ?_
  refine ret1 rfl hF rfl ⟨⟨_, rfl, ?_⟩, hS.old⟩
  first
    | (rw [decide_eq_true (show pc ∈ pcs from by subst_vars; decide)]; rfl)
    | (rw [decide_eq_false (show ¬ pc ∈ pcs from by unfold pcs; simp only [List.mem_cons, List.not_mem_nil, or_false]; omega)]; rfl)
 refine rg hF rfl fun a hF => cx 30 hF rfl (fun c30 hF => ?_) fun c30 hF => ?_
 ·
  refine rg hF rfl fun a hF => ?_
  refine xr ?_
  refine ret1 rfl hF rfl ⟨⟨_, rfl, ?_⟩, hS.old⟩
  first
    | (rw [decide_eq_true (show pc ∈ pcs from by subst_vars; decide)]; rfl)
    | (rw [decide_eq_false (show ¬ pc ∈ pcs from by unfold pcs; simp only [List.mem_cons, List.not_mem_nil, or_false]; omega)]; rfl)
 refine rg hF rfl fun a hF => cx 32 hF rfl (fun c32 hF => ?_) fun c32 hF => ?_
 ·
  refine rg hF rfl fun a hF => ?_
  refine xr ?_
  refine ret1 rfl hF rfl ⟨⟨_, rfl, ?_⟩, hS.old⟩
  first
    | (rw [decide_eq_true (show pc ∈ pcs from by subst_vars; decide)]; rfl)
    | (rw [decide_eq_false (show ¬ pc ∈ pcs from by unfold pcs; simp only [List.mem_cons, List.not_mem_nil, or_false]; omega)]; rfl)
 refine rg hF rfl fun a hF => cx 34 hF rfl (fun c34 hF => ?_) fun c34 hF => ?_
 ·
  refine rg hF rfl fun a hF => ?_
  refine xr ?_
  refine ret1 rfl hF rfl ⟨⟨_, rfl, ?_⟩, hS.old⟩
  first
    | (rw [decide_eq_true (show pc ∈ pcs from by subst_vars; decide)]; rfl)
    | (rw [decide_eq_false (show ¬ pc ∈ pcs from by unfold pcs; simp only [List.mem_cons, List.not_mem_nil, or_false]; omega)]; rfl)
 refine rg hF rfl fun a hF => cx 36 hF rfl (fun c36 hF => ?_) fun c36 hF => ?_
 ·
  refine rg hF rfl fun a hF => ?_
  refine xr ?_
  refine ret1 rfl hF rfl ⟨⟨_, rfl, ?_⟩, hS.old⟩
  first
    | (rw [decide_eq_true (show pc ∈ pcs from by subst_vars; decide)]; rfl)
    | (rw [decide_eq_false (show ¬ pc ∈ pcs from by unfold pcs; simp only [List.mem_cons, List.not_mem_nil, or_false]; omega)]; rfl)
 refine rg hF rfl fun a hF => cx 38 hF rfl (fun c38 hF => ?_) fun c38 hF => ?_
 ·
  refine rg hF rfl fun a hF => ?_
  refine xr ?_
  refine ret1 rfl hF rfl ⟨⟨_, rfl, ?_⟩, hS.old⟩
  first
    | (rw [decide_eq_true (show pc ∈ pcs from by subst_vars; decide)]; rfl)
    | (rw [decide_eq_false (show ¬ pc ∈ pcs from by unfold pcs; simp only [List.mem_cons, List.not_mem_nil, or_false]; omega)]; rfl)
 refine rg hF rfl fun a hF => cx 40 hF rfl (fun c40 hF => ?_) fun c40 hF => ?_
 ·
  refine rg hF rfl fun a hF => ?_
  refine xr ?_
  refine ret1 rfl hF rfl ⟨⟨_, rfl, ?_⟩, hS.old⟩
  first
    | (rw [decide_eq_true (show pc ∈ pcs from by subst_vars; decide)]; rfl)
    | (rw [decide_eq_false (show ¬ pc ∈ pcs from by unfold pcs; simp only [List.mem_cons, List.not_mem_nil, or_false]; omega)]; rfl)
 refine rg hF rfl fun a hF => cx 42 hF rfl (fun c42 hF => ?_) fun c42 hF => ?_
 ·
  refine rg hF rfl fun a hF => ?_
  refine xr ?_
  refine ret1 rfl hF rfl ⟨⟨_, rfl, ?_⟩, hS.old⟩
  first
    | (rw [decide_eq_true (show pc ∈ pcs from by subst_vars; decide)]; rfl)
    | (rw [decide_eq_false (show ¬ pc ∈ pcs from by unfold pcs; simp only [List.mem_cons, List.not_mem_nil, or_false]; omega)]; rfl)
 refine rg hF rfl fun a hF => cx 44 hF rfl (fun c44 hF => ?_) fun c44 hF => ?_
 ·
  refine rg hF rfl fun a hF => ?_
  refine xr ?_
  refine ret1 rfl hF rfl ⟨⟨_, rfl, ?_⟩, hS.old⟩
  first
    | (rw [decide_eq_true (show pc ∈ pcs from by subst_vars; decide)]; rfl)
    | (rw [decide_eq_false (show ¬ pc ∈ pcs from by unfold pcs; simp only [List.mem_cons, List.not_mem_nil, or_false]; omega)]; rfl)
 refine rg hF rfl fun a hF => cx 46 hF rfl (fun c46 hF => ?_) fun c46 hF => ?_
 ·
  refine rg hF rfl fun a hF => ?_
  refine xr ?_
  refine ret1 rfl hF rfl ⟨⟨_, rfl, ?_⟩, hS.old⟩
  first
    | (rw [decide_eq_true (show pc ∈ pcs from by subst_vars; decide)]; rfl)
    | (rw [decide_eq_false (show ¬ pc ∈ pcs from by unfold pcs; simp only [List.mem_cons, List.not_mem_nil, or_false]; omega)]; rfl)
 refine rg hF rfl fun a hF => cx 48 hF rfl (fun c48 hF => ?_) fun c48 hF => ?_
 ·
  refine rg hF rfl fun a hF => ?_
  refine xr ?_
  refine ret1 rfl hF rfl ⟨⟨_, rfl, ?_⟩, hS.old⟩
  first
    | (rw [decide_eq_true (show pc ∈ pcs from by subst_vars; decide)]; rfl)
    | (rw [decide_eq_false (show ¬ pc ∈ pcs from by unfold pcs; simp only [List.mem_cons, List.not_mem_nil, or_false]; omega)]; rfl)
 refine rg hF rfl fun a hF => cx 50 hF rfl (fun c50 hF => ?_) fun c50 hF => ?_
 ·
  refine rg hF rfl fun a hF => ?_
  refine xr ?_
  refine ret1 rfl hF rfl ⟨⟨_, rfl, ?_⟩, hS.old⟩
  first
    | (rw [decide_eq_true (show pc ∈ pcs from by subst_vars; decide)]; rfl)
    | (rw [decide_eq_false (show ¬ pc ∈ pcs from by unfold pcs; simp only [List.mem_cons, List.not_mem_nil, or_false]; omega)]; rfl)
 refine rg hF rfl fun a hF => cx 52 hF rfl (fun c52 hF => ?_) fun c52 hF => ?_
 ·
  refine rg hF rfl fun a hF => ?_
  refine xr ?_
  refine ret1 rfl hF rfl ⟨⟨_, rfl, ?_⟩, hS.old⟩
  first
    | (rw [decide_eq_true (show pc ∈ pcs from by subst_vars; decide)]; rfl)
    | (rw [decide_eq_false (show ¬ pc ∈ pcs from by unfold pcs; simp only [List.mem_cons, List.not_mem_nil, or_false]; omega)]; rfl)
 refine rg hF rfl fun a hF => cx 54 hF rfl (fun c54 hF => ?_) fun c54 hF => ?_
 ·
  refine rg hF rfl fun a hF => ?_
  refine xr ?_
  refine ret1 rfl hF rfl ⟨⟨_, rfl, ?_⟩, hS.old⟩
  first
    | (rw [decide_eq_true (show pc ∈ pcs from by subst_vars; decide)]; rfl)
    | (rw [decide_eq_false (show ¬ pc ∈ pcs from by unfold pcs; simp only [List.mem_cons, List.not_mem_nil, or_false]; omega)]; rfl)
 refine rg hF rfl fun a hF => cx 56 hF rfl (fun c56 hF => ?_) fun c56 hF => ?_
 ·
  refine rg hF rfl fun a hF => ?_
  refine xr ?_
  refine ret1 rfl hF rfl ⟨⟨_, rfl, ?_⟩, hS.old⟩
  first
    | (rw [decide_eq_true (show pc ∈ pcs from by subst_vars; decide)]; rfl)
    | (rw [decide_eq_false (show ¬ pc ∈ pcs from by unfold pcs; simp only [List.mem_cons, List.not_mem_nil, or_false]; omega)]; rfl)
 refine rg hF rfl fun a hF => cx 58 hF rfl (fun c58 hF => ?_) fun c58 hF => ?_
 ·
  refine rg hF rfl fun a hF => ?_
  refine xr ?_
  refine ret1 rfl hF rfl ⟨⟨_, rfl, ?_⟩, hS.old⟩
  first
    | (rw [decide_eq_true (show pc ∈ pcs from by subst_vars; decide)]; rfl)
    | (rw [decide_eq_false (show ¬ pc ∈ pcs from by unfold pcs; simp only [List.mem_cons, List.not_mem_nil, or_false]; omega)]; rfl)
 refine rg hF rfl fun a hF => cx 60 hF rfl (fun c60 hF => ?_) fun c60 hF => ?_
 ·
  refine rg hF rfl fun a hF => ?_
  refine xr ?_
  refine ret1 rfl hF rfl ⟨⟨_, rfl, ?_⟩, hS.old⟩
  first
    | (rw [decide_eq_true (show pc ∈ pcs from by subst_vars; decide)]; rfl)
    | (rw [decide_eq_false (show ¬ pc ∈ pcs from by unfold pcs; simp only [List.mem_cons, List.not_mem_nil, or_false]; omega)]; rfl)
 refine rg hF rfl fun a hF => cx 62 hF rfl (fun c62 hF => ?_) fun c62 hF => ?_
 ·
  refine rg hF rfl fun a hF => ?_
  refine xr ?_
  refine ret1 rfl hF rfl ⟨⟨_, rfl, ?_⟩, hS.old⟩
  first
    | (rw [decide_eq_true (show pc ∈ pcs from by subst_vars; decide)]; rfl)
    | (rw [decide_eq_false (show ¬ pc ∈ pcs from by unfold pcs; simp only [List.mem_cons, List.not_mem_nil, or_false]; omega)]; rfl)
 refine rg hF rfl fun a hF => cx 64 hF rfl (fun c64 hF => ?_) fun c64 hF => ?_
 ·
  refine rg hF rfl fun a hF => ?_
  refine xr ?_
  refine ret1 rfl hF rfl ⟨⟨_, rfl, ?_⟩, hS.old⟩
  first
    | (rw [decide_eq_true (show pc ∈ pcs from by subst_vars; decide)]; rfl)
    | (rw [decide_eq_false (show ¬ pc ∈ pcs from by unfold pcs; simp only [List.mem_cons, List.not_mem_nil, or_false]; omega)]; rfl)
 refine rg hF rfl fun a hF => cx 66 hF rfl (fun c66 hF => ?_) fun c66 hF => ?_
 ·
  refine rg hF rfl fun a hF => ?_
  refine xr ?_
  refine ret1 rfl hF rfl ⟨⟨_, rfl, ?_⟩, hS.old⟩
  first
    | (rw [decide_eq_true (show pc ∈ pcs from by subst_vars; decide)]; rfl)
    | (rw [decide_eq_false (show ¬ pc ∈ pcs from by unfold pcs; simp only [List.mem_cons, List.not_mem_nil, or_false]; omega)]; rfl)
 refine rg hF rfl fun a hF => cx 68 hF rfl (fun c68 hF => ?_) fun c68 hF => ?_
 ·
  refine rg hF rfl fun a hF => ?_
  refine xr ?_
  refine ret1 rfl hF rfl ⟨⟨_, rfl, ?_⟩, hS.old⟩
  first
    | (rw [decide_eq_true (show pc ∈ pcs from by subst_vars; decide)]; rfl)
    | (rw [decide_eq_false (show ¬ pc ∈ pcs from by unfold pcs; simp only [List.mem_cons, List.not_mem_nil, or_false]; omega)]; rfl)
 refine rg hF rfl fun a hF => cx 70 hF rfl (fun c70 hF => ?_) fun c70 hF => ?_
 ·
  refine rg hF rfl fun a hF => ?_
  refine xr ?_
  refine ret1 rfl hF rfl ⟨⟨_, rfl, ?_⟩, hS.old⟩
  first
    | (rw [decide_eq_true (show pc ∈ pcs from by subst_vars; decide)]; rfl)
    | (rw [decide_eq_false (show ¬ pc ∈ pcs from by unfold pcs; simp only [List.mem_cons, List.not_mem_nil, or_false]; omega)]; rfl)
 refine rg hF rfl fun a hF => cx 72 hF rfl (fun c72 hF => ?_) fun c72 hF => ?_
 ·
  refine rg hF rfl fun a hF => ?_
  refine xr ?_
  refine ret1 rfl hF rfl ⟨⟨_, rfl, ?_⟩, hS.old⟩
  first
    | (rw [decide_eq_true (show pc ∈ pcs from by subst_vars; decide)]; rfl)
    | (rw [decide_eq_false (show ¬ pc ∈ pcs from by unfold pcs; simp only [List.mem_cons, List.not_mem_nil, or_false]; omega)]; rfl)
 refine rg hF rfl fun a hF => cx 74 hF rfl (fun c74 hF => ?_) fun c74 hF => ?_
 ·
  refine rg hF rfl fun a hF => ?_
  refine xr ?_
  refine ret1 rfl hF rfl ⟨⟨_, rfl, ?_⟩, hS.old⟩
  first
    | (rw [decide_eq_true (show pc ∈ pcs from by subst_vars; decide)]; rfl)
    | (rw [decide_eq_false (show ¬ pc ∈ pcs from by unfold pcs; simp only [List.mem_cons, List.not_mem_nil, or_false]; omega)]; rfl)
 refine rg hF rfl fun a hF => cx 76 hF rfl (fun c76 hF => ?_) fun c76 hF => ?_
 ·
  refine rg hF rfl fun a hF => ?_
  refine xr ?_
  refine ret1 rfl hF rfl ⟨⟨_, rfl, ?_⟩, hS.old⟩
  first
    | (rw [decide_eq_true (show pc ∈ pcs from by subst_vars; decide)]; rfl)
    | (rw [decide_eq_false (show ¬ pc ∈ pcs from by unfold pcs; simp only [List.mem_cons, List.not_mem_nil, or_false]; omega)]; rfl)
 refine rg hF rfl fun a hF => cx 78 hF rfl (fun c78 hF => ?_) fun c78 hF => ?_
 ·
  refine rg hF rfl fun a hF => ?_
  refine xr ?_
  refine ret1 rfl hF rfl ⟨⟨_, rfl, ?_⟩, hS.old⟩
  first
    | (rw [decide_eq_true (show pc ∈ pcs from by subst_vars; decide)]; rfl)
    | (rw [decide_eq_false (show ¬ pc ∈ pcs from by unfold pcs; simp only [List.mem_cons, List.not_mem_nil, or_false]; omega)]; rfl)
 refine rg hF rfl fun a hF => cx 80 hF rfl (fun c80 hF => ?_) fun c80 hF => ?_
 ·
  refine rg hF rfl fun a hF => ?_
  refine xr ?_
  refine ret1 rfl hF rfl ⟨⟨_, rfl, ?_⟩, hS.old⟩
  first
    | (rw [decide_eq_true (show pc ∈ pcs from by subst_vars; decide)]; rfl)
    | (rw [decide_eq_false (show ¬ pc ∈ pcs from by unfold pcs; simp only [List.mem_cons, List.not_mem_nil, or_false]; omega)]; rfl)
 refine rg hF rfl fun a hF => cx 82 hF rfl (fun c82 hF => ?_) fun c82 hF => ?_
 ·
  refine rg hF rfl fun a hF => ?_
  refine xr ?_
  refine ret1 rfl hF rfl ⟨⟨_, rfl, ?_⟩, hS.old⟩
  first
    | (rw [decide_eq_true (show pc ∈ pcs from by subst_vars; decide)]; rfl)
    | (rw [decide_eq_false (show ¬ pc ∈ pcs from by unfold pcs; simp only [List.mem_cons, List.not_mem_nil, or_false]; omega)]; rfl)
 refine rg hF rfl fun a hF => cx 84 hF rfl (fun c84 hF => ?_) fun c84 hF => ?_
 ·
  refine rg hF rfl fun a hF => ?_
  refine xr ?_
  refine ret1 rfl hF rfl ⟨⟨_, rfl, ?_⟩, hS.old⟩
  first
    | (rw [decide_eq_true (show pc ∈ pcs from by subst_vars; decide)]; rfl)
    | (rw [decide_eq_false (show ¬ pc ∈ pcs from by unfold pcs; simp only [List.mem_cons, List.not_mem_nil, or_false]; omega)]; rfl)
 refine rg hF rfl fun a hF => cx 86 hF rfl (fun c86 hF => ?_) fun c86 hF => ?_
 ·
  refine rg hF rfl fun a hF => ?_
  refine xr ?_
  refine ret1 rfl hF rfl ⟨⟨_, rfl, ?_⟩, hS.old⟩
  first
    | (rw [decide_eq_true (show pc ∈ pcs from by subst_vars; decide)]; rfl)
    | (rw [decide_eq_false (show ¬ pc ∈ pcs from by unfold pcs; simp only [List.mem_cons, List.not_mem_nil, or_false]; omega)]; rfl)
 refine rg hF rfl fun a hF => cx 88 hF rfl (fun c88 hF => ?_) fun c88 hF => ?_
 ·
  refine rg hF rfl fun a hF => ?_
  refine xr ?_
  refine ret1 rfl hF rfl ⟨⟨_, rfl, ?_⟩, hS.old⟩
  first
    | (rw [decide_eq_true (show pc ∈ pcs from by subst_vars; decide)]; rfl)
    | (rw [decide_eq_false (show ¬ pc ∈ pcs from by unfold pcs; simp only [List.mem_cons, List.not_mem_nil, or_false]; omega)]; rfl)
 refine wp_skip ?_
 refine xt ?_
 refine hK2 _ _ <| rg hF rfl fun a hF => ?_
 refine xr ?_
 refine ret1 rfl hF rfl ⟨⟨_, rfl, ?_⟩, hS.old⟩
 first
   | (rw [decide_eq_true (show pc ∈ pcs from by subst_vars; decide)]; rfl)
   | (rw [decide_eq_false (show ¬ pc ∈ pcs from by unfold pcs; simp only [List.mem_cons, List.not_mem_nil, or_false]; omega)]; rfl)
theorem specIsPc_c {W : World} {pc : Int} : Calls Tryz.prog 154 #[vi pc] W (Ret fun v w' => v = .bool (decide (pc ∈ pcs)) ∧ Below W.heap.size W w') := by
 refine cfr Tryz.func154 Tryz.ntmps154 fun a hF => ?_
 have hS := Sep.refl W
 refine rg hF rfl fun a hF => ws fun K2 hK2 => ga 1 hF rfl fun a hF => ?_
 refine ck hF rfl (specPcName_c) ?_; rintro v w1 a ⟨⟨s4, rfl, hp4⟩, hB_⟩ hF; have hS := hS.ext hB_
 refine wl hF rfl rfl rfl (r_neqs (hF.ev rfl) ec) fun a hF => ge hK2 hF rfl fun a hF => ?_
 refine xr ?_
 refine ret1 rfl hF rfl ⟨congrArg Value.bool ?_, hS.old⟩
 show (!(s4.data.toList == [])) = _
 rw [hp4, Bool.not_not]
theorem implIsPc_c {W : World} {pc : Int} : Calls Tryz.prog 182 #[vi pc] W (Ret fun v w' => v = .bool (decide (pc ∈ pcs)) ∧ Below W.heap.size W w') := by
 refine cfr Tryz.func182 Tryz.ntmps182 fun a hF => ?_
 have hS := Sep.refl W
 refine rg hF rfl fun a hF => ws fun K2 hK2 => ga 1 hF rfl fun a hF => ?_
 refine ck hF rfl (implPcName_c) ?_; rintro v w1 a ⟨⟨s4, rfl, hp4⟩, hB_⟩ hF; have hS := hS.ext hB_
 refine wl hF rfl rfl rfl (r_neqs (hF.ev rfl) ec) fun a hF => ge hK2 hF rfl fun a hF => ?_
 refine xr ?_
 refine ret1 rfl hF rfl ⟨congrArg Value.bool ?_, hS.old⟩
 show (!(s4.data.toList == [])) = _
 rw [hp4, Bool.not_not]
set_option maxRecDepth 20000
/-- what is asked of an entry, of a thread, of a state -/
def entOk (c : Config) (e : Entry) : Bool := isEntry e && decide (e.key < c.keys) && decide (indexOf e.handle < c.capacity)
def pcOk (c : Config) (t : Thread) : Prop := (t.pc ∈ pcs ∧ (t.pc = 0 ∨ (t.op.ok ∧ t.op.key < c.keys))) ∧ ¬ ((t.pc = 60 ∨ t.pc = 61) ∧ (t.work.length : Int) = 0) ∧ (t.pc = 50 → 0 ≤ t.at_ ∧ t.at_ ≤ c.threads - 1) ∧ (t.pc = 70 → 0 ≤ t.at_ ∧ t.at_ ≤ 2 * c.threads - 1)
instance (c : Config) (t : Thread) : Decidable (pcOk c t) := by unfold pcOk; infer_instance
def regsOk (c : Config) (t : Thread) : Bool := isLink c t.node && isLink c t.prev && isLink c t.curr && zeroOk c t.next
def sizesOk (t : Thread) : Prop := (0 ≤ t.snapshot ∧ t.snapshot ≤ 99) ∧ (t.buffer.length : Int) ≤ 100 ∧ (t.work.length : Int) ≤ 100 ∧ (t.free.length : Int) ≤ 100 ∧ (t.found.length : Int) ≤ 100 ∧ (t.limbo.length : Int) ≤ 100
instance (t : Thread) : Decidable (sizesOk t) := by unfold sizesOk; infer_instance
def freeOk (c : Config) (t : Thread) : Bool := t.free.all fun x => decide (0 ≤ x ∧ x ≤ c.capacity - 1)
def threadOk (c : Config) (t : Thread) : Bool := freeOk c t && (t.buffer ++ t.work).all (entOk c) && decide (pcOk c t) && regsOk c t && t.limbo.all (isNode c) && decide (sizesOk t)
def gensOk (s : State) : Bool := (List.range s.config.capacity.toNat).all fun i => decide (0 ≤ at0 s.generations i ∧ at0 s.generations i ≤ 9998)
def headsOk (s : State) : Bool := (List.range s.config.keys.toNat).all fun k => isLink s.config (at0 s.cells (headCell s.config k))
def nodesOk (s : State) : Bool := (List.range s.config.capacity.toNat).all fun i => zeroOk s.config (at0 s.cells (nodeCell s.config i 2)) && decide (0 ≤ at0 s.cells (nodeCell s.config i 0) ∧ at0 s.cells (nodeCell s.config i 0) ≤ 99)
def shapeOk (s : State) : Prop := s.config.ok ∧ (s.cells.length : Int) = cellCount s.config ∧ (s.generations.length : Int) = s.config.capacity ∧ (s.threads.length : Int) = s.config.threads
instance (s : State) : Decidable (shapeOk s) := by unfold shapeOk; infer_instance
def countsOk (s : State) : Prop := (1 ≤ at0 s.cells 0 ∧ at0 s.cells 0 ≤ s.config.clockMax) ∧ (0 ≤ at0 s.cells 1 ∧ at0 s.cells 1 ≤ s.config.capacity) ∧ (0 ≤ s.steps ∧ s.steps ≤ 1000000) ∧ (0 ≤ s.changes ∧ s.changes ≤ 1000000) ∧ (0 ≤ s.retries ∧ s.retries ≤ 1000000) ∧ (0 ≤ s.faults ∧ s.faults ≤ 1000000)
instance (s : State) : Decidable (countsOk s) := by unfold countsOk; infer_instance
def stateOk (s : State) : Bool := decide (shapeOk s) && gensOk s && s.threads.all (threadOk s.config) && headsOk s && nodesOk s && decide (countsOk s)
section
variable {α : Type} {c : Config} {e : Entry} {t : Thread} {s : State} {k n : Nat} {p : Nat → Bool} {q : α → Bool} {xs ys : List α} {x : α}
theorem entOk_node : (!isEntry e || decide (c.keys ≤ e.key) || !isNode c e.handle) = !entOk c e := by
 unfold entOk isNode
 cases h : isEntry e with
 | false => rfl
 | true =>
   have h2 : isHandle e.handle = true := by
     unfold isEntry at h
     simp only [Bool.and_eq_true] at h
     exact h.1.1.1.1
   rw [h2, Bool.eq_iff_iff]
   simp
theorem app_1 (a b : Value) : #[a] ++ #[b] = #[a, b] := by simp
theorem range_at (h : k < n) : (List.range n)[k]? = some k := by simp [h]
theorem range_no (h : k < n) (hp : p k = false) : (List.range n).all p = false := List.all_eq_false.2 ⟨k, by simpa using h, by simp [hp]⟩
theorem all_no (hx : xs[k]? = some x) (hp : q x = false) : xs.all q = false := List.all_eq_false.2 ⟨x, List.mem_of_getElem? hx, by simp [hp]⟩
theorem all_nxt (h : (xs.take k).all q = true) (hx : xs[k]? = some x) (hp : q x = true) : (xs.take (k + 1)).all q = true := by
 rw [List.take_add_one, hx, List.all_append, h]; simp [hp]
theorem all_done (h : (xs.take k).all q = true) (hk : xs.length ≤ k) : xs.all q = true := by
 rwa [List.take_of_length_le hk] at h
theorem any_not : xs.any (fun x => !q x) = !xs.all q := by rw [List.all_eq_not_any_not, Bool.not_not]
theorem at0_app1 [Inhabited α] (h : (k : Int) < xs.length) : at0 (xs ++ ys) (k : Int) = at0 xs (k : Int) := by
 unfold at0; rw [Int.toNat_natCast, List.getElem?_append_left (by omega)]
theorem at0_app2 [Inhabited α] (h : ¬ (k : Int) < xs.length) : at0 (xs ++ ys) (k : Int) = at0 ys ((k : Int) - xs.length) := by
 unfold at0
 rw [Int.toNat_natCast, List.getElem?_append_right (by omega), show ((k : Int) - xs.length).toNat = k - xs.length by omega]
end
theorem isNode_c {W : World} {c : Config} {h : Int} (h1 : int64 h) : Calls Tryz.prog 180 #[.agg c.enc.toArray, vi h] W (Ret fun v w' => v = .bool (isNode c h) ∧ Below W.heap.size W w') := by
 refine cfr Tryz.func180 Tryz.ntmps180 fun a hF => ?_
 have hS := Sep.refl W
 refine ws fun K1 hK1 => wl_box (cs := [_, _, _, _, _, _]) hF hS rfl (hF.ev rfl) rfl fun g1 w1 a hS _ hF => ge hK1 hF rfl fun a hF => wp_seq_k fun K2 hK2 => wp_region_calm (by kernel_rfl) (by kernel_rfl) <| qa 1 hF tk rfl fun a hF => qk hF rfl (fun w_ hB_ => implIsHandle_c h1) fun a hF => ?_
 refine qa 1 hF tk rfl fun a hF => ?_
 apply wq_and (A := [_, _, _, _, _, _]) (pk := 13) hF (tc := 7) rfl
 ·
  intro hg7 a hF; try simp only [zb] at hg7
  refine qa 1 hF tk rfl fun a hF => qk hF rfl (fun w_ hB_ => implIndexOf_c h1) fun a hF => qb 4 0 hF tk hS rfl rfl rfl fun a hF => ?_
  exact wpQuiet_nil ((Fr.pre (A := [_, _, _, _, _, _]) hF rfl).keep hF (t := 13) rfl)
 ·
  intro hg7 a hF; try simp only [zb] at hg7
  refine qa 6 hF tk rfl fun a hF => ?_
  exact wpQuiet_nil ((Fr.pre (A := [_, _, _, _, _, _]) hF rfl).keep hF (t := 13) rfl)
 intro a hF
 refine qa 1 hF tk rfl fun a hF => ?_
 refine wpQuiet_nil ?_; intro w3 hB_; have hS := hS.ext hB_
 refine hK2 _ _ ?_
 refine xr ?_
 exact ret1 rfl hF rfl ⟨rfl, hS.old⟩
theorem isLink_c {W : World} {c : Config} {h : Int} (h1 : int64 h) : Calls Tryz.prog 148 #[.agg c.enc.toArray, vi h] W (Ret fun v w' => v = .bool (isLink c h) ∧ Below W.heap.size W w') := by
 refine cfr Tryz.func148 Tryz.ntmps148 fun a hF => ?_
 have hS := Sep.refl W
 refine ws fun K1 hK1 => wl_box (cs := [_, _, _, _, _, _]) hF hS rfl (hF.ev rfl) rfl fun g1 w1 a hS _ hF => ge hK1 hF rfl fun a hF => ws fun K2 hK2 => ga 3 hF rfl fun a hF => ?_
 apply wo 9 7 16 hF hS
 ·
  intro hg7 a hF
  refine gb 2 0 hF hS rfl rfl rfl fun a hF => ckr hF hS rfl (isNode_c h1) fun w2 a hS hF => ga 1 hF rfl fun a hF => ?_
  apply wa 4 11 15 hF hS
  ·
   intro hg11 a hF
   refine ga 1 hF rfl fun a hF => ckr hF hS rfl (implIsMarked_c h1) fun w3 a hS hF => ?_
   exact je 4 hF hS rfl rfl rfl rfl
  intro a w4 hF hS
  exact je 6 hF hS rfl rfl rfl rfl
 intro a w5 hF hS
 refine ge hK2 hF rfl fun a hF => ?_
 refine xr ?_
 exact ret1 rfl hF rfl ⟨rfl, hS.old⟩
theorem l8Zero_c {W : World} {c : Config} {h : Int} (h1 : int64 h) : Calls Tryz.prog 95 #[.agg c.enc.toArray, vi h] W (Ret fun v w' => v = .bool (zeroOk c h) ∧ Below W.heap.size W w') := by
 refine cfr Tryz.func95 Tryz.ntmps95 fun a hF => ?_
 have hS := Sep.refl W
 refine ws fun K1 hK1 => wl_box (cs := [_, _, _, _, _, _]) hF hS rfl (hF.ev rfl) rfl fun g1 w1 a hS _ hF => ge hK1 hF rfl fun a hF => ws fun K2 hK2 => ga 1 hF rfl fun a hF => ckr hF hS rfl (specUnmarked_c h1) fun w2 a hS hF => ge hK2 hF rfl fun a hF => ?_
 refine wp_seq_k fun K3 hK3 => wp_region_calm (by kernel_rfl) (by kernel_rfl) <| qa 3 hF tk rfl fun a hF => ?_
 apply wq_or (A := [_, _, _, _, _, _, _, _, _, _]) (pk := 20) hF (tc := 10) rfl
 ·
  intro hg10 a hF; try simp only [zb] at hg10
  refine qa 1 hF tk rfl fun a hF => qk hF rfl (fun w_ hB_ => specIsHandle_c (int64_unmarked h1)) fun a hF => qa 1 hF tk rfl fun a hF => ?_
  apply wq_and (A := [_, _, _, _, _, _]) (pk := 19) hF (tc := 13) rfl
  ·
   intro hg13 a hF; try simp only [zb] at hg13
   refine qa 1 hF tk rfl fun a hF => qk hF rfl (fun w_ hB_ => specIndexOf_c (int64_unmarked h1)) fun a hF => qb 4 0 hF tk hS rfl rfl rfl fun a hF => ?_
   exact wpQuiet_nil ((Fr.pre (A := [_, _, _, _, _, _]) hF rfl).keep hF (t := 19) rfl)
  ·
   intro hg13 a hF; try simp only [zb] at hg13
   refine qa 6 hF tk rfl fun a hF => ?_
   exact wpQuiet_nil ((Fr.pre (A := [_, _, _, _, _, _]) hF rfl).keep hF (t := 19) rfl)
  intro a hF
  refine qa 1 hF tk rfl fun a hF => ?_
  exact wpQuiet_nil ((Fr.pre (A := [_, _, _, _, _]) hF rfl).keep hF (t := 20) rfl)
 ·
  intro hg10 a hF; try simp only [zb] at hg10
  refine qa 10 hF tk rfl fun a hF => ?_
  exact wpQuiet_nil ((Fr.pre (A := [_, _, _, _, _, _, _, _, _, _]) hF rfl).keep hF (t := 20) rfl)
 intro a hF
 refine qa 1 hF tk rfl fun a hF => ?_
 refine wpQuiet_nil ?_; intro w5 hB_; have hS := hS.ext hB_
 refine hK3 _ _ ?_
 refine xr ?_
 exact ret1 rfl hF rfl ⟨rfl, hS.old⟩
theorem l8Handles_c {W : World} {c : Config} {va : Value} {xs : List Int} (ha : intEK.Rd W va xs) (hw : ∀ x ∈ xs, int64 x) : Calls Tryz.prog 155 #[.agg c.enc.toArray, va] W (Ret fun v w' => v = .bool (xs.all (isNode c) && decide ((xs.length : Int) ≤ 100)) ∧ Below W.heap.size W w') := by
 refine cfr Tryz.func155 Tryz.ntmps155 fun a hF => ?_
 have hS := Sep.refl W
 obtain ⟨A_a, q_a, rfl, hq_a, hn_a⟩ := ha.sl; unfold maxLen at hn_a
 refine ws fun K1 hK1 => wl_box (cs := [_, _, _, _, _, _]) hF hS rfl (hF.ev rfl) rfl fun g1 w1 a hS _ hF => ge hK1 hF rfl fun a hF => wp_seq_k fun K2 hK2 => rg hF rfl fun a hF => wp_block ?_
 have hL_ := (((hF.nil.keep hF (t := 4) rfl).keep hF (t := 2) rfl).keep hF (t := 1) rfl)
 refine wp_loop_r (σ := Nat) (fun k L_ => (5, vi k) :: L_) (fun k => (k ≤ xs.length) ∧ ((xs.take k).all (isNode c) = true)) (fun k => xs.length - k) 0 hS (hL_.keepE hF (t := 5) rfl rfl) ?_ ?_
 · exact ⟨Nat.zero_le _, rfl⟩
 rintro k a w2 ⟨hk, hn⟩ hS hF; try dsimp only at hF; try dsimp only at hS
 refine wp_seq_k fun K4 hK4 => rg hF rfl fun a hF => cx 9 hF rfl (fun c9 hF => ?_) fun c9 hF => ?_
 ·
  have hlt : k < xs.length := by omega
  have hx := at0_nat hlt
  have h1 : int64 (at0 xs (k : Int)) := hw _ (at0_mem (by omega) (by omega))
  refine wp_skip <| hK4 _ _ <| wp_seq_k fun K6 hK6 => wp_block <| wp_seq_k fun K7 hK7 => wp_region_calm (by kernel_rfl) (by kernel_rfl) <| qa 2 hF tk rfl fun a hF => ?_
  obtain ⟨g14, o14, m14, q14, hv14, hm14, hl14, hc14⟩ := Rd.atF (ha) (a := a) (X := .tmp 13) (hF.ev rfl) (by omega) (by omega)
  refine wq hF rfl rfl rfl (fun w_ hB_ => r_index sl26 ((hF.ev rfl).trans hv14) (hF.ev rfl) (by omega) (by first | omega | (simp at hm14; omega))) fun a hF => ?_
  refine wq hF rfl rfl rfl (fun w_ hB_ => r_load1 sc3 (hF.ev rfl) (cellB (hS.ext hB_).old (hc14 0 _ rfl))) fun a hF => qk hF rfl (fun w_ hB_ => specIsHandle_c h1) fun a hF => qa 2 hF tk rfl fun a hF => ?_
  apply wq_or (A := [_, _, _, _, _, _, _, _, _]) (pk := 27) hF (tc := 18) rfl
  ·
   intro hg18 a hF; try simp only [zb] at hg18
   refine qa 2 hF tk rfl fun a hF => wq_take hF rfl rfl rfl rfl ?_
   obtain ⟨g21, o21, m21, q21, hv21, hm21, hl21, hc21⟩ := Rd.atF (ha) (a := a) (X := .tmp 20) (hF.ev rfl) (by omega) (by omega)
   refine wq hF rfl rfl rfl (fun w_ hB_ => r_index sl26 ((hF.ev rfl).trans hv21) (hF.ev rfl) (by omega) (by first | omega | (simp at hm21; omega))) fun a hF => ?_
   refine wq_take hF rfl rfl rfl rfl <| wq hF rfl rfl rfl (fun w_ hB_ => r_load1 sc3 (hF.ev rfl) (cellB (hS.ext hB_).old (hc21 0 _ rfl))) fun a hF => qk hF rfl (fun w_ hB_ => specIndexOf_c h1) fun a hF => qb 4 0 hF tk hS rfl rfl rfl fun a hF => ?_
   exact wpQuiet_nil ((Fr.pre (A := [_, _, _, _, _, _, _, _, _]) hF rfl).keep hF (t := 27) rfl)
  ·
   intro hg18 a hF; try simp only [zb] at hg18
   refine qa 9 hF tk rfl fun a hF => ?_
   exact wpQuiet_nil ((Fr.pre (A := [_, _, _, _, _, _, _, _, _]) hF rfl).keep hF (t := 27) rfl)
  intro a hF
  refine wpQuiet_nil ?_; intro w4 hB_; have hS := hS.ext hB_
  refine hK7 _ _ <| cx 27 hF rfl (fun c27 hF => ?_) fun c27 hF => ?_
  ·
   refine rg hF rfl fun a hF => ?_
   refine xr ?_
   first
     | (refine ret1 rfl hF rfl ⟨?_, hS.old⟩; rw [all_no (q := isNode c) hx (by unfold isNode; rcases c27 with c27 | c27 <;> simp [c27]), Bool.false_and])
     | (refine ret1 rfl hF rfl ⟨?_, hS.old⟩; rw [all_done hn (by omega), Bool.true_and])
  refine wp_skip ?_
  refine xt ?_
  refine hK6 _ _ <| rl hF rfl fun a hF => ?_
  refine xt ?_
  refine ⟨k + 1, ⟨by omega, all_nxt hn hx (by unfold isNode; simp [c27]; omega)⟩, hS, ((((hF.nil.keep hF (t := 4) rfl).keep hF (t := 2) rfl).keep hF (t := 1) rfl).keepE hF (t := 5) rfl (wk (by omega))), by omega⟩
 refine wp_exit ?_
 refine xt ?_
 refine hK2 _ _ <| rg hF rfl fun a hF => ?_
 refine xr ?_
 first
   | (refine ret1 rfl hF rfl ⟨?_, hS.old⟩; rw [all_no (q := isNode c) hx (by unfold isNode; rcases c27 with c27 | c27 <;> simp [c27]), Bool.false_and])
   | (refine ret1 rfl hF rfl ⟨?_, hS.old⟩; rw [all_done hn (by omega), Bool.true_and])
theorem areEntries1_c {W : World} {c : Config} {g : Nat} {x : Entry} (hw : x.wf) (hc : ∀ j u, c.enc[j]? = some u → W.cell? ⟨g, 0 + j, none⟩ = some u) : Calls Tryz.prog 200 #[.agg x.enc.toArray, .pointer (some ⟨g, 0, none⟩)] W (Ret fun v w' => v = .bool (!entOk c x) ∧ Below W.heap.size W w') := by
 refine cfr Tryz.func200 Tryz.ntmps200 fun a hF => ?_
 have hS := Sep.refl W
 refine ws fun K1 hK1 => wl_box (cs := [_, _, _, _]) hF hS rfl (hF.ev rfl) rfl fun g1 w1 a hS _ hF => ge hK1 hF rfl fun a hF => ws fun K2 hK2 => gb 1 0 hF hS rfl rfl rfl fun a hF => ckr hF hS rfl (implIsEntry_c hw) fun w2 a hS hF => ga 2 hF rfl fun a hF => ?_
 apply wo 6 7 13 hF hS
 ·
  intro hg7 a hF
  refine gb 3 0 hF hS rfl rfl rfl fun a hF => wl_take hF rfl rfl rfl rfl <| wl hF rfl rfl rfl (r_load1 sc3 (hF.ev rfl) (cellB hS.old (hc 1 _ rfl))) fun a hF => ?_
  exact je 6 hF hS rfl rfl rfl rfl
 intro a w3 hF hS
 refine ga 1 hF rfl fun a hF => ?_
 apply wo 6 14 20 hF hS
 ·
  intro hg14 a hF
  refine wl_take hF rfl rfl rfl rfl <| wl hF rfl rfl rfl (r_loadn ag25 (hF.ev rfl) (fun j_ u_ hu_ => cellB hS.old (hc j_ u_ hu_)) sz25) fun a hF => gb 2 0 hF hS rfl rfl rfl fun a hF => ckr hF hS rfl (isNode_c hw.1) fun w4 a hS hF => ?_
  exact je 6 hF hS rfl rfl rfl rfl
 intro a w5 hF hS
 refine ge hK2 hF rfl fun a hF => ?_
 refine xr ?_
 refine ret1 rfl hF rfl ⟨?_, hS.old⟩
 rw [← entOk_node]
theorem indexFuncE_c {W : World} {va : Value} {xs : List Entry} {f : FuncId} {cap : Array Value} {p : Entry → Bool} (ha : entryEK.Rd W va xs) (hen : enterB Tryz.prog f = true) (hf : ∀ (w : World) (x : Entry), x ∈ xs → Below W.heap.size W w → Calls Tryz.prog f (#[.agg x.enc.toArray] ++ cap) w (Ret fun v w' => v = .bool (p x) ∧ Below w.heap.size w w')) : Calls Tryz.prog 193 #[va, .func (.func f) #[] cap] W (Ret fun v w' => (∃ j : Int, v = vi j ∧ (0 ≤ j ↔ xs.any p = true)) ∧ Below W.heap.size W w') := by
 refine cfr Tryz.func193 Tryz.ntmps193 fun a hF => ?_
 obtain ⟨A_a, q_a, rfl, hq_a, hn_a⟩ := ha.sl; unfold maxLen at hn_a
 have hS := Sep.refl W
 refine rg hF rfl fun a hF => wp_seq_k fun K2 hK2 => rg hF rfl fun a hF => wp_block <| wp_loop_g (σ := Nat) (fun k a w => k ≤ xs.length ∧ (xs.take k).any p = false ∧ Sep W [] w ∧ Fr 19 [(8, vi k), (7, vi xs.length), (1, .func (.func f) #[] cap), (0, .slice A_a xs.length q_a)] a) (fun k => xs.length - k) 0 ?_ ?_
 · exact ⟨Nat.zero_le _, by simp, hS, ((((hF.nil.keep hF (t := 0) rfl).keep hF (t := 1) rfl).keep hF (t := 7) rfl).keep hF (t := 8) rfl)⟩
 rintro k a w ⟨hk, hn, hS, hF⟩
 refine rg hF rfl fun a hF => wp_seq_k fun K5 hK5 => ?_
 first | refine wc_dec (hF.ev rfl) (fun c9 => ?_) (fun c9 => ?_) | refine wc_ndec (hF.ev rfl) (fun c9 => ?_) (fun c9 => ?_) | refine wc_b (hF.ev rfl) (fun c9 => ?_) (fun c9 => ?_)
 ·
  have hlt : k < xs.length := by omega
  obtain ⟨x, hx⟩ : ∃ x, xs[k]? = some x := ⟨_, List.getElem?_eq_getElem hlt⟩
  refine wp_skip <| hK5 _ _ <| wp_seq_k fun K6 hK6 => wp_block <| rg hF rfl fun a hF => ws fun K8 hK8 => ga 3 hF rfl fun a hF => ?_
  obtain ⟨g14, o14, m14, q14, hv14, hm14, hl14, hc14⟩ := Rd.idxF (hS.rd ha) hx
  refine wl hF rfl rfl rfl (r_index sl40 ((hF.ev rfl).trans hv14) (hF.ev rfl) (by omega) (by omega)) fun a hF => wl hF rfl rfl rfl (r_loadn ag83 (hF.ev rfl) (hc14) sz83) fun a hF => ?_
  refine wl_call hF rfl rfl rfl (r_callv1 hen (hF.ev rfl) (hF.ev rfl)) (hf _ x (List.mem_of_getElem? hx) hS.old) ?_; rintro v w1 a ⟨rfl, hB_⟩ hF; have hS := hS.ext hB_
  refine wl_nil (hK8 _ _ ?_)
  first | refine wc_dec (hF.ev rfl) (fun c16 => ?_) (fun c16 => ?_) | refine wc_ndec (hF.ev rfl) (fun c16 => ?_) (fun c16 => ?_) | refine wc_b (hF.ev rfl) (fun c16 => ?_) (fun c16 => ?_)
  ·
   refine rg hF rfl fun a hF => ?_
   refine xr ?_
   first | exact ret1 rfl hF rfl ⟨⟨_, rfl, ⟨fun _ => any_at hx c16, fun _ => by omega⟩⟩, hS.old⟩ | exact ret1 rfl hF rfl ⟨⟨_, rfl, ⟨fun h => absurd h (by omega), fun h => absurd h (by rw [any_all hn hk (by assumption)]; decide)⟩⟩, hS.old⟩
  refine wp_skip ?_
  refine xt ?_
  refine hK6 _ _ <| rl hF rfl fun a hF => ?_
  refine xt ?_
  exact ⟨k + 1, ⟨by omega, any_next hn hx c16, hS, ((((hF.nil.keep hF (t := 0) rfl).keep hF (t := 1) rfl).keep hF (t := 7) rfl).keepE hF (t := 8) rfl (wk (by omega)))⟩, by omega⟩
 refine wp_exit ?_
 refine xt ?_
 refine hK2 _ _ <| rg hF rfl fun a hF => ?_
 refine xr ?_
 first | exact ret1 rfl hF rfl ⟨⟨_, rfl, ⟨fun _ => any_at hx c16, fun _ => by omega⟩⟩, hS.old⟩ | exact ret1 rfl hF rfl ⟨⟨_, rfl, ⟨fun h => absurd h (by omega), fun h => absurd h (by rw [any_all hn hk (by assumption)]; decide)⟩⟩, hS.old⟩
theorem containsFuncE_c {W : World} {va : Value} {xs : List Entry} {f : FuncId} {cap : Array Value} {p : Entry → Bool} (ha : entryEK.Rd W va xs) (hen : enterB Tryz.prog f = true) (hf : ∀ (w : World) (x : Entry), x ∈ xs → Below W.heap.size W w → Calls Tryz.prog f (#[.agg x.enc.toArray] ++ cap) w (Ret fun v w' => v = .bool (p x) ∧ Below w.heap.size w w')) : Calls Tryz.prog 174 #[va, .func (.func f) #[] cap] W (Ret fun v w' => v = .bool (xs.any p) ∧ Below W.heap.size W w') := by
 refine cfr Tryz.func174 Tryz.ntmps174 fun a hF => ?_
 have hS := Sep.refl W
 refine rg hF rfl fun a hF => ws fun K2 hK2 => ga 2 hF rfl fun a hF => ?_
 refine ck hF rfl (indexFuncE_c (hS.rd ha) hen hf) ?_; rintro v w1 a ⟨⟨j, rfl, hj⟩, hB_⟩ hF; have hS := hS.ext hB_
 refine ge hK2 hF rfl fun a hF => ?_
 refine xr ?_
 refine ret1 rfl hF rfl ⟨congrArg Value.bool ?_, hS.old⟩
 cases hb : xs.any p with
 | true => exact decide_eq_true (hj.2 hb)
 | false => exact decide_eq_false (fun h => by rw [hj.1 h] at hb; cases hb)
theorem indexFuncI_c {W : World} {va : Value} {xs : List Int} {f : FuncId} {cap : Array Value} {p : Int → Bool} (ha : intEK.Rd W va xs) (hen : enterB Tryz.prog f = true) (hf : ∀ (w : World) (x : Int), x ∈ xs → Below W.heap.size W w → Calls Tryz.prog f (#[vi x] ++ cap) w (Ret fun v w' => v = .bool (p x) ∧ Below w.heap.size w w')) : Calls Tryz.prog 201 #[va, .func (.func f) #[] cap] W (Ret fun v w' => (∃ j : Int, v = vi j ∧ (0 ≤ j ↔ xs.any p = true)) ∧ Below W.heap.size W w') := by
 refine cfr Tryz.func201 Tryz.ntmps201 fun a hF => ?_
 obtain ⟨A_a, q_a, rfl, hq_a, hn_a⟩ := ha.sl; unfold maxLen at hn_a
 have hS := Sep.refl W
 refine rg hF rfl fun a hF => wp_seq_k fun K2 hK2 => rg hF rfl fun a hF => wp_block <| wp_loop_g (σ := Nat) (fun k a w => k ≤ xs.length ∧ (xs.take k).any p = false ∧ Sep W [] w ∧ Fr 19 [(8, vi k), (7, vi xs.length), (1, .func (.func f) #[] cap), (0, .slice A_a xs.length q_a)] a) (fun k => xs.length - k) 0 ?_ ?_
 · exact ⟨Nat.zero_le _, by simp, hS, ((((hF.nil.keep hF (t := 0) rfl).keep hF (t := 1) rfl).keep hF (t := 7) rfl).keep hF (t := 8) rfl)⟩
 rintro k a w ⟨hk, hn, hS, hF⟩
 refine rg hF rfl fun a hF => wp_seq_k fun K5 hK5 => ?_
 first | refine wc_dec (hF.ev rfl) (fun c9 => ?_) (fun c9 => ?_) | refine wc_ndec (hF.ev rfl) (fun c9 => ?_) (fun c9 => ?_) | refine wc_b (hF.ev rfl) (fun c9 => ?_) (fun c9 => ?_)
 ·
  have hlt : k < xs.length := by omega
  obtain ⟨x, hx⟩ : ∃ x, xs[k]? = some x := ⟨_, List.getElem?_eq_getElem hlt⟩
  refine wp_skip <| hK5 _ _ <| wp_seq_k fun K6 hK6 => wp_block <| rg hF rfl fun a hF => ws fun K8 hK8 => ga 3 hF rfl fun a hF => ?_
  obtain ⟨g14, o14, m14, q14, hv14, hm14, hl14, hc14⟩ := Rd.idxF (hS.rd ha) hx
  refine wl hF rfl rfl rfl (r_index sl26 ((hF.ev rfl).trans hv14) (hF.ev rfl) (by omega) (by omega)) fun a hF => wl hF rfl rfl rfl (r_load1 sc3 (hF.ev rfl) (hc14 0 _ rfl)) fun a hF => ?_
  refine wl_call hF rfl rfl rfl (r_callv1 hen (hF.ev rfl) (hF.ev rfl)) (hf _ x (List.mem_of_getElem? hx) hS.old) ?_; rintro v w1 a ⟨rfl, hB_⟩ hF; have hS := hS.ext hB_
  refine wl_nil (hK8 _ _ ?_)
  first | refine wc_dec (hF.ev rfl) (fun c16 => ?_) (fun c16 => ?_) | refine wc_ndec (hF.ev rfl) (fun c16 => ?_) (fun c16 => ?_) | refine wc_b (hF.ev rfl) (fun c16 => ?_) (fun c16 => ?_)
  ·
   refine rg hF rfl fun a hF => ?_
   refine xr ?_
   first | exact ret1 rfl hF rfl ⟨⟨_, rfl, ⟨fun _ => any_at hx c16, fun _ => by omega⟩⟩, hS.old⟩ | exact ret1 rfl hF rfl ⟨⟨_, rfl, ⟨fun h => absurd h (by omega), fun h => absurd h (by rw [any_all hn hk (by assumption)]; decide)⟩⟩, hS.old⟩
  refine wp_skip ?_
  refine xt ?_
  refine hK6 _ _ <| rl hF rfl fun a hF => ?_
  refine xt ?_
  exact ⟨k + 1, ⟨by omega, any_next hn hx c16, hS, ((((hF.nil.keep hF (t := 0) rfl).keep hF (t := 1) rfl).keep hF (t := 7) rfl).keepE hF (t := 8) rfl (wk (by omega)))⟩, by omega⟩
 refine wp_exit ?_
 refine xt ?_
 refine hK2 _ _ <| rg hF rfl fun a hF => ?_
 refine xr ?_
 first | exact ret1 rfl hF rfl ⟨⟨_, rfl, ⟨fun _ => any_at hx c16, fun _ => by omega⟩⟩, hS.old⟩ | exact ret1 rfl hF rfl ⟨⟨_, rfl, ⟨fun h => absurd h (by omega), fun h => absurd h (by rw [any_all hn hk (by assumption)]; decide)⟩⟩, hS.old⟩
theorem containsFuncI_c {W : World} {va : Value} {xs : List Int} {f : FuncId} {cap : Array Value} {p : Int → Bool} (ha : intEK.Rd W va xs) (hen : enterB Tryz.prog f = true) (hf : ∀ (w : World) (x : Int), x ∈ xs → Below W.heap.size W w → Calls Tryz.prog f (#[vi x] ++ cap) w (Ret fun v w' => v = .bool (p x) ∧ Below w.heap.size w w')) : Calls Tryz.prog 184 #[va, .func (.func f) #[] cap] W (Ret fun v w' => v = .bool (xs.any p) ∧ Below W.heap.size W w') := by
 refine cfr Tryz.func184 Tryz.ntmps184 fun a hF => ?_
 have hS := Sep.refl W
 refine rg hF rfl fun a hF => ws fun K2 hK2 => ga 2 hF rfl fun a hF => ?_
 refine ck hF rfl (indexFuncI_c (hS.rd ha) hen hf) ?_; rintro v w1 a ⟨⟨j, rfl, hj⟩, hB_⟩ hF; have hS := hS.ext hB_
 refine ge hK2 hF rfl fun a hF => ?_
 refine xr ?_
 refine ret1 rfl hF rfl ⟨congrArg Value.bool ?_, hS.old⟩
 cases hb : xs.any p with
 | true => exact decide_eq_true (hj.2 hb)
 | false => exact decide_eq_false (fun h => by rw [hj.1 h] at hb; cases hb)
theorem areEntries_c {W : World} {c : Config} {va : Value} {xs : List Entry} (ha : entryEK.Rd W va xs) (hw : ∀ x ∈ xs, x.wf) : Calls Tryz.prog 183 #[.agg c.enc.toArray, va] W (Ret fun v w' => v = .bool (decide ((xs.length : Int) ≤ 100) && xs.all (entOk c)) ∧ Below W.heap.size W w') := by
 refine cfr Tryz.func183 Tryz.ntmps183 fun a hF => ?_
 have hS := Sep.refl W
 obtain ⟨A_a, q_a, rfl, hq_a, hn_a⟩ := ha.sl; unfold maxLen at hn_a
 refine ws fun K1 hK1 => wl_box (cs := [_, _, _, _, _, _]) hF hS rfl (hF.ev rfl) rfl fun g1 w1 a hS _ hF => ge hK1 hF rfl fun a hF => ws fun K2 hK2 => ga 4 hF rfl fun a hF => ?_
 apply wa 5 8 13 hF hS
 ·
  intro hg8 a hF
  refine ga 1 hF rfl fun a hF => wl_take hF rfl rfl rfl rfl ?_
  refine wl hF rfl rfl rfl (r_makeFunc (by simp only [List.map_toArray, List.map_cons, List.map_nil]; rw [hF.ev rfl])) fun a hF => ?_
  refine ckr hF hS rfl (containsFuncE_c (p := fun e => !entOk c e) (cap := #[.pointer (some ⟨g1, 0, none⟩)]) (hS.rd ha) (by kernel_rfl) (fun w_ x hx hB => by rw [app_1]; exact areEntries1_c (hw x hx) (fun j u hu => cellB hB (hS.box_rd (i := 0) rfl j u hu)))) fun w2 a hS hF => ?_
  exact je 5 hF hS rfl rfl rfl rfl
 intro a w3 hF hS
 refine ge hK2 hF rfl fun a hF => ?_
 refine xr ?_
 refine ret1 rfl hF rfl ⟨?_, hS.old⟩
 rw [any_not, Bool.not_not]
theorem isThread1_c {W : World} {c : Config} {g : Nat} {x : Int} (hc : ∀ j u, c.enc[j]? = some u → W.cell? ⟨g, 0 + j, none⟩ = some u) (hok : c.ok) : Calls Tryz.prog 185 #[vi x, .pointer (some ⟨g, 0, none⟩)] W (Ret fun v w' => v = .bool (!decide (0 ≤ x ∧ x ≤ c.capacity - 1)) ∧ Below W.heap.size W w') := by
 refine cfr Tryz.func185 Tryz.ntmps185 fun a hF => ?_
 have hS := Sep.refl W
 have hb := hok; unfold Config.ok at hb
 have hw1 : IntKind.i64.wrap (c.threads - 1) = c.threads - 1 := w64_id (by omega) (by omega)
 have hw2 : IntKind.i64.wrap (c.capacity - 1) = c.capacity - 1 := w64_id (by omega) (by omega)
 have hw3 : IntKind.i64.wrap (IntKind.i64.wrap (2 * c.threads) - 1) = 2 * c.threads - 1 := by rw [w64_id (q := 2 * c.threads) (by omega) (by omega)]; exact w64_id (by omega) (by omega)
 refine rg hF rfl fun a hF => ws fun K2 hK2 => ga 2 hF rfl fun a hF => wl hF rfl rfl rfl (r_load1 sc3 (hF.ev rfl) (cellB hS.old (hc 2 _ rfl))) fun a hF => ga 1 hF rfl fun a hF => ckr hF hS rfl (in_c _ _ _) fun w1 a hS hF => ge hK2 hF rfl fun a hF => ?_
 refine xr ?_
 refine ret1 rfl hF rfl ⟨?_, hS.old⟩
 rw [hw2]
theorem isThread2_c {W : World} {c : Config} {g : Nat} {x : Int} (hc : ∀ j u, c.enc[j]? = some u → W.cell? ⟨g, 0 + j, none⟩ = some u) (h1 : int64 x) : Calls Tryz.prog 186 #[vi x, .pointer (some ⟨g, 0, none⟩)] W (Ret fun v w' => v = .bool (!isNode c x) ∧ Below W.heap.size W w') := by
 refine cfr Tryz.func186 Tryz.ntmps186 fun a hF => ?_
 have hS := Sep.refl W
 refine rg hF rfl fun a hF => ws fun K2 hK2 => wl hF rfl rfl rfl (r_loadn ag25 (hF.ev rfl) (fun j_ u_ hu_ => cellB hS.old (hc j_ u_ hu_)) sz25) fun a hF => ga 1 hF rfl fun a hF => ckr hF hS rfl (isNode_c h1) fun w1 a hS hF => ge hK2 hF rfl fun a hF => ?_
 refine xr ?_
 exact ret1 rfl hF rfl ⟨rfl, hS.old⟩
set_option maxRecDepth 20000
section
variable {c : Config} {t : Thread}
theorem th_no (h : ¬ pcOk c t) : threadOk c t = false := by unfold threadOk; rw [decide_eq_false h]; simp
theorem th_no1 (h : ¬t.pc ∈ pcs ∨ ¬t.pc = 0 ∧ (¬t.op.ok ∨ c.keys ≤ t.op.key)) : threadOk c t = false := th_no fun hp => by
  obtain ⟨⟨h1, h2⟩, _⟩ := hp
  rcases h with h | ⟨h3, h | h⟩
  · exact h h1
  · rcases h2 with h2 | h2
    · exact h3 h2
    · exact h h2.1
  · rcases h2 with h2 | h2
    · exact h3 h2
    · have := h2.2; omega
theorem th_no2 (h : (t.pc = 60 ∨ t.pc = 61) ∧ (t.work.length : Int) = 0) : threadOk c t = false := th_no fun hp => hp.2.1 h
theorem th_no4 (h : t.pc = 50 ∧ ¬(0 ≤ t.at_ ∧ t.at_ ≤ c.threads - 1)) : threadOk c t = false := th_no fun hp => h.2 (hp.2.2.1 h.1)
theorem th_no5 (h : t.pc = 70 ∧ ¬(0 ≤ t.at_ ∧ t.at_ ≤ 2 * c.threads - 1)) : threadOk c t = false := th_no fun hp => h.2 (hp.2.2.2 h.1)
theorem th_no3 (h : (((isLink c t.node = false ∨ isLink c t.prev = false) ∨ isLink c t.curr = false) ∨ isLink c (unmarked t.next) = false) ∨ ¬(0 ≤ t.snapshot ∧ t.snapshot ≤ 99)) : threadOk c t = false := by
 rw [isLink_unmarked] at h
 unfold threadOk
 rcases h with h | h
 · have e : regsOk c t = false := by unfold regsOk; rcases h with ((h | h) | h) | h <;> simp [h]
   rw [e]; simp
 · rw [decide_eq_false (show ¬ sizesOk t from fun hs => h hs.1)]; simp
theorem th_yes (hp : pcOk c t) (h : (((isLink c t.node = true ∧ isLink c t.prev = true) ∧ isLink c t.curr = true) ∧ isLink c (unmarked t.next) = true) ∧ 0 ≤ t.snapshot ∧ t.snapshot ≤ 99) :
    threadOk c t = ((decide ((t.free.length : Int) ≤ 100) && decide ((t.limbo.length : Int) ≤ 100) && decide ((t.found.length : Int) ≤ 100) && (decide ((t.buffer.length : Int) ≤ 100) && t.buffer.all (entOk c)) && (decide ((t.work.length : Int) ≤ 100) && t.work.all (entOk c)) && t.free.all fun x => decide (0 ≤ x ∧ x ≤ c.capacity - 1)) && t.limbo.all (isNode c)) := by
  rw [isLink_unmarked] at h
  have e : regsOk c t = true := by unfold regsOk; simp [h.1.1.1.1, h.1.1.1.2, h.1.1.2, h.1.2]
  unfold threadOk
  rw [decide_eq_true hp, e, Bool.eq_iff_iff]
  simp only [List.all_append, Bool.and_eq_true, decide_eq_true_eq, Bool.and_true]
  unfold freeOk sizesOk
  have := h.2
  constructor
  · rintro ⟨⟨⟨h1, h2, h3⟩, h4⟩, h5, h6, h7, h8, h9, h10⟩
    exact ⟨⟨⟨⟨⟨⟨h8, h10⟩, h9⟩, h6, h2⟩, h7, h3⟩, h1⟩, h4⟩
  · rintro ⟨⟨⟨⟨⟨⟨h8, h10⟩, h9⟩, h6, h2⟩, h7, h3⟩, h1⟩, h4⟩
    exact ⟨⟨⟨h1, h2, h3⟩, h4⟩, this, h6, h7, h8, h9, h10⟩
end
theorem isThread_c {W : World} {c : Config} {t : Sl.Thread} {cs : List Value} (hm : threadEK.K W t cs) (hw : t.wf) (hok : c.ok) : Calls Tryz.prog 152 #[.agg c.enc.toArray, .agg cs.toArray] W (Ret fun v w' => v = .bool (threadOk c t) ∧ Below W.heap.size W w') := by
 refine cfr Tryz.func152 Tryz.ntmps152 fun a hF => ?_
 have hS := Sep.refl W
 obtain ⟨v0, v1, v2, v3, v4, rfl, r0, r1, r2, r3, r4⟩ := hm
 obtain ⟨A_a, q_a, rfl, hq_a, hn_a⟩ := r0.sl; unfold maxLen at hn_a
 obtain ⟨A_b, q_b, rfl, hq_b, hn_b⟩ := r1.sl; unfold maxLen at hn_b
 obtain ⟨A_c, q_c, rfl, hq_c, hn_c⟩ := r2.sl; unfold maxLen at hn_c
 obtain ⟨A_d, q_d, rfl, hq_d, hn_d⟩ := r3.sl; unfold maxLen at hn_d
 obtain ⟨A_e, q_e, rfl, hq_e, hn_e⟩ := r4.sl; unfold maxLen at hn_e
 obtain ⟨wpc, wop, wres, wsnap, wnode, wprev, wcurr, wnext, wseen, wstamp, wat, wfound, wfree, wbuf, wwork, wlimbo⟩ := hw
 have hb := hok; unfold Config.ok at hb
 have hw1 : IntKind.i64.wrap (c.threads - 1) = c.threads - 1 := w64_id (by omega) (by omega)
 have hw2 : IntKind.i64.wrap (c.capacity - 1) = c.capacity - 1 := w64_id (by omega) (by omega)
 have hw3 : IntKind.i64.wrap (IntKind.i64.wrap (2 * c.threads) - 1) = 2 * c.threads - 1 := by rw [w64_id (q := 2 * c.threads) (by omega) (by omega)]; exact w64_id (by omega) (by omega)
 refine ws fun K1 hK1 => wl_box (cs := [_, _, _, _, _, _]) hF hS rfl (hF.ev rfl) rfl fun g1 w1 a hS _ hF => wl_box (cs := [_, _, _, _, _, _, _, _, _, _, _, _, _, _, _, _, _, _, _]) hF hS rfl (hF.ev rfl) rfl fun g2 w2 a hS _ hF => ge hK1 hF rfl fun a hF => wp_seq_k fun K2 hK2 => ws fun K3 hK3 => gb 2 0 hF hS rfl rfl rfl fun a hF => ?_
 refine ckr hF hS rfl (implIsPc_c) fun w3 a hS hF => ga 2 hF rfl fun a hF => ?_
 apply wo 18 9 27 hF hS
 ·
  intro hg9 a hF
  refine gb 4 0 hF hS rfl rfl rfl fun a hF => ?_
  apply wa 13 13 26 hF hS
  ·
   intro hg13 a hF
   refine ga 1 hF rfl fun a hF => wl_take hF rfl rfl rfl rfl <| wl hF rfl rfl rfl (r_loadn ag31 (hF.ev rfl) (hS.boxn (vs := [_, _, _]) (i := 0) (m := 3) rfl rfl) sz31) fun a hF => ckr hF hS rfl (implIsOp_c _) fun w4 a hS hF => ga 2 hF rfl fun a hF => ?_
   apply wo 7 18 25 hF hS
   ·
    intro hg18 a hF
    refine gb 4 0 hF hS rfl rfl rfl fun a hF => wl_take hF rfl rfl rfl rfl ?_
    exact jf 7 1 hF hS rfl rfl rfl rfl rfl rfl
   intro a w5 hF hS
   exact je 7 hF hS rfl rfl rfl rfl
  intro a w6 hF hS
  exact je 6 hF hS rfl rfl rfl rfl
 intro a w7 hF hS
 refine wl_nil <| hK3 _ _ <| cx 27 hF rfl (fun c27 hF => ?_) fun c27 hF => ?_
 ·
  refine rg hF rfl fun a hF => ?_
  refine xr ?_
  refine ret1 rfl hF rfl ⟨congrArg Value.bool (Eq.symm ?_), hS.old⟩
  first
    | exact th_no1 c27
    | exact th_no3 c100
    | (simp only [any_not, Bool.not_not]
       exact th_yes ⟨⟨c27.1, c27.2.imp_right fun h => ⟨h.1, by omega⟩⟩, by omega, fun h => by omega, fun h => by omega⟩ c100)
    | exact th_no2 c28
    | exact th_no4 ⟨c28.1, by have := c28.2; omega⟩
    | exact th_no5 ⟨c28.1, by have := c28.2; omega⟩
 refine wp_skip <| hK2 _ _ <| wp_seq_k fun K5 hK5 => wp_block <| wp_seq_k fun K6 hK6 => ws fun K7 hK7 => gb 4 0 hF hS rfl rfl rfl fun a hF => ?_
 apply wo 4 32 36 hF hS
 ·
  intro hg32 a hF
  exact jf 4 0 hF hS rfl rfl rfl rfl rfl rfl
 intro a w8 hF hS
 refine ga 1 hF rfl fun a hF => ?_
 apply wa 5 37 42 hF hS
 ·
  intro hg37 a hF
  exact jf 5 0 hF hS rfl rfl rfl rfl rfl rfl
 intro a w9 hF hS
 refine ge hK7 hF rfl fun a hF => cx 28 hF rfl (fun c28 hF => ?_) fun c28 hF => ?_
 ·
  refine wp_skip <| hK6 _ _ <| wc_true (hF.ev rfl) <| rg hF rfl fun a hF => ?_
  refine xr ?_
  refine ret1 rfl hF rfl ⟨congrArg Value.bool (Eq.symm ?_), hS.old⟩
  first
    | exact th_no1 c27
    | exact th_no3 c100
    | (simp only [any_not, Bool.not_not]
       exact th_yes ⟨⟨c27.1, c27.2.imp_right fun h => ⟨h.1, by omega⟩⟩, by omega, fun h => by omega, fun h => by omega⟩ c100)
    | exact th_no2 c28
    | exact th_no4 ⟨c28.1, by have := c28.2; omega⟩
    | exact th_no5 ⟨c28.1, by have := c28.2; omega⟩
 refine ws fun K9 hK9 => gb 4 0 hF hS rfl rfl rfl fun a hF => ?_
 apply wa 8 46 54 hF hS
 ·
  intro hg46 a hF
  refine gb 3 0 hF hS rfl rfl rfl fun a hF => wl_take hF rfl rfl rfl rfl <| gb 2 1 hF hS rfl rfl rfl fun a hF => ckr hF hS rfl (in_c _ _ _) fun w10 a hS hF => ?_
  exact je 8 hF hS rfl rfl rfl rfl
 intro a w11 hF hS
 refine ge hK9 hF rfl fun a hF => cx 28 hF rfl (fun c28 hF => ?_) fun c28 hF => ?_
 ·
  refine wp_skip <| hK6 _ _ <| wc_true (hF.ev rfl) <| rg hF rfl fun a hF => ?_
  refine xr ?_
  refine ret1 rfl hF rfl ⟨congrArg Value.bool (Eq.symm ?_), hS.old⟩
  first
    | exact th_no1 c27
    | exact th_no3 c100
    | (simp only [any_not, Bool.not_not]
       exact th_yes ⟨⟨c27.1, c27.2.imp_right fun h => ⟨h.1, by omega⟩⟩, by omega, fun h => by omega, fun h => by omega⟩ c100)
    | exact th_no2 c28
    | exact th_no4 ⟨c28.1, by have := c28.2; omega⟩
    | exact th_no5 ⟨c28.1, by have := c28.2; omega⟩
 refine wp_region_lit <| gb 4 0 hF hS rfl rfl rfl fun a hF => ?_
 apply wa 9 58 67 hF hS
 ·
  intro hg58 a hF
  refine gb 3 0 hF hS rfl rfl rfl fun a hF => wl_take hF rfl rfl rfl rfl <| gb 3 1 hF hS rfl rfl rfl fun a hF => ckr hF hS rfl (in_c _ _ _) fun w12 a hS hF => ?_
  exact je 9 hF hS rfl rfl rfl rfl
 intro a w13 hF hS
 refine ge hK6 hF rfl fun a hF => cx 28 hF rfl (fun c28 hF => ?_) fun c28 hF => ?_
 ·
  refine rg hF rfl fun a hF => ?_
  refine xr ?_
  refine ret1 rfl hF rfl ⟨congrArg Value.bool (Eq.symm ?_), hS.old⟩
  first
    | exact th_no1 c27
    | exact th_no3 c100
    | (simp only [any_not, Bool.not_not]
       exact th_yes ⟨⟨c27.1, c27.2.imp_right fun h => ⟨h.1, by omega⟩⟩, by omega, fun h => by omega, fun h => by omega⟩ c100)
    | exact th_no2 c28
    | exact th_no4 ⟨c28.1, by have := c28.2; omega⟩
    | exact th_no5 ⟨c28.1, by have := c28.2; omega⟩
 refine wp_skip ?_
 refine xt ?_
 refine hK5 _ _ <| wp_seq_k fun K12 hK12 => wp_seq_k fun K13 hK13 => wp_region_calm (by kernel_rfl) (by kernel_rfl) <| qb 2 1 hF tk hS rfl rfl rfl fun a hF => qb 1 0 hF tk hS rfl rfl rfl fun a hF => qk hF rfl (fun w_ hB_ => isLink_c (by first | assumption | exact int64_unmarked wnext)) fun a hF => ?_
 refine qa 2 hF tk rfl fun a hF => ?_
 apply wq_or (A := [_, _, _, _, _, _]) (pk := 79) hF (tc := 73) rfl
 ·
  intro hg73 a hF; try simp only [zb] at hg73
  refine qb 2 1 hF tk hS rfl rfl rfl fun a hF => wq_take hF rfl rfl rfl rfl <| qb 1 0 hF tk hS rfl rfl rfl fun a hF => qk hF rfl (fun w_ hB_ => isLink_c (by first | assumption | exact int64_unmarked wnext)) fun a hF => qa 2 hF tk rfl fun a hF => ?_
  exact wpQuiet_nil ((Fr.pre (A := [_, _, _, _, _, _]) hF rfl).keep hF (t := 79) rfl)
 ·
  intro hg73 a hF; try simp only [zb] at hg73
  refine qa 6 hF tk rfl fun a hF => ?_
  exact wpQuiet_nil ((Fr.pre (A := [_, _, _, _, _, _]) hF rfl).keep hF (t := 79) rfl)
 intro a hF
 refine qa 1 hF tk rfl fun a hF => ?_
 apply wq_or (A := [_, _, _, _, _, _]) (pk := 86) hF (tc := 80) rfl
 ·
  intro hg80 a hF; try simp only [zb] at hg80
  refine qb 2 1 hF tk hS rfl rfl rfl fun a hF => wq_take hF rfl rfl rfl rfl <| qb 1 0 hF tk hS rfl rfl rfl fun a hF => qk hF rfl (fun w_ hB_ => isLink_c (by first | assumption | exact int64_unmarked wnext)) fun a hF => qa 2 hF tk rfl fun a hF => ?_
  exact wpQuiet_nil ((Fr.pre (A := [_, _, _, _, _, _]) hF rfl).keep hF (t := 86) rfl)
 ·
  intro hg80 a hF; try simp only [zb] at hg80
  refine qa 6 hF tk rfl fun a hF => ?_
  exact wpQuiet_nil ((Fr.pre (A := [_, _, _, _, _, _]) hF rfl).keep hF (t := 86) rfl)
 intro a hF
 refine qa 1 hF tk rfl fun a hF => ?_
 apply wq_or (A := [_, _, _, _, _, _, _]) (pk := 94) hF (tc := 87) rfl
 ·
  intro hg87 a hF; try simp only [zb] at hg87
  refine qb 2 1 hF tk hS rfl rfl rfl fun a hF => wq_take hF rfl rfl rfl rfl <| qb 1 0 hF tk hS rfl rfl rfl fun a hF => qk hF rfl (fun w_ hB_ => implUnmarked_c wnext) fun a hF => qk hF rfl (fun w_ hB_ => isLink_c (by first | assumption | exact int64_unmarked wnext)) fun a hF => qa 2 hF tk rfl fun a hF => ?_
  exact wpQuiet_nil ((Fr.pre (A := [_, _, _, _, _, _, _]) hF rfl).keep hF (t := 94) rfl)
 ·
  intro hg87 a hF; try simp only [zb] at hg87
  refine qa 7 hF tk rfl fun a hF => ?_
  exact wpQuiet_nil ((Fr.pre (A := [_, _, _, _, _, _, _]) hF rfl).keep hF (t := 94) rfl)
 intro a hF
 refine qa 1 hF tk rfl fun a hF => ?_
 apply wq_or (A := [_, _, _, _, _]) (pk := 100) hF (tc := 95) rfl
 ·
  intro hg95 a hF; try simp only [zb] at hg95
  refine qb 2 0 hF tk hS rfl rfl rfl fun a hF => qk hF rfl (fun w_ hB_ => in_c _ _ _) fun a hF => qa 2 hF tk rfl fun a hF => ?_
  exact wpQuiet_nil ((Fr.pre (A := [_, _, _, _, _]) hF rfl).keep hF (t := 100) rfl)
 ·
  intro hg95 a hF; try simp only [zb] at hg95
  refine qa 5 hF tk rfl fun a hF => ?_
  exact wpQuiet_nil ((Fr.pre (A := [_, _, _, _, _]) hF rfl).keep hF (t := 100) rfl)
 intro a hF
 refine wpQuiet_nil ?_; intro w18 hB_; have hS := hS.ext hB_
 refine hK13 _ _ <| cx 100 hF rfl (fun c100 hF => ?_) fun c100 hF => ?_
 ·
  refine rg hF rfl fun a hF => ?_
  refine xr ?_
  refine ret1 rfl hF rfl ⟨congrArg Value.bool (Eq.symm ?_), hS.old⟩
  first
    | exact th_no1 c27
    | exact th_no3 c100
    | (simp only [any_not, Bool.not_not]
       exact th_yes ⟨⟨c27.1, c27.2.imp_right fun h => ⟨h.1, by omega⟩⟩, by omega, fun h => by omega, fun h => by omega⟩ c100)
    | exact th_no2 c28
    | exact th_no4 ⟨c28.1, by have := c28.2; omega⟩
    | exact th_no5 ⟨c28.1, by have := c28.2; omega⟩
 refine wp_skip <| hK12 _ _ <| ws fun K15 hK15 => gb 5 0 hF hS rfl rfl rfl fun a hF => ?_
 apply wa 5 105 110 hF hS
 ·
  intro hg105 a hF
  exact jf 5 0 hF hS rfl rfl rfl rfl rfl rfl
 intro a w19 hF hS
 refine ga 1 hF rfl fun a hF => ?_
 apply wa 5 111 116 hF hS
 ·
  intro hg111 a hF
  exact jf 5 0 hF hS rfl rfl rfl rfl rfl rfl
 intro a w20 hF hS
 refine ga 1 hF rfl fun a hF => ?_
 apply wa 5 117 122 hF hS
 ·
  intro hg117 a hF
  refine gb 2 1 hF hS rfl rfl rfl fun a hF => wl_take hF rfl rfl rfl rfl <| gb 1 0 hF hS rfl rfl rfl fun a hF => ckr hF hS rfl (areEntries_c (hS.rd r2) wbuf) fun w21 a hS hF => ?_
  exact je 5 hF hS rfl rfl rfl rfl
 intro a w22 hF hS
 refine ga 1 hF rfl fun a hF => ?_
 apply wa 5 123 128 hF hS
 ·
  intro hg123 a hF
  refine gb 2 1 hF hS rfl rfl rfl fun a hF => wl_take hF rfl rfl rfl rfl <| gb 1 0 hF hS rfl rfl rfl fun a hF => ckr hF hS rfl (areEntries_c (hS.rd r3) wwork) fun w23 a hS hF => ?_
  exact je 5 hF hS rfl rfl rfl rfl
 intro a w24 hF hS
 refine ga 1 hF rfl fun a hF => ?_
 apply wa 6 129 135 hF hS
 ·
  intro hg129 a hF
  refine gb 2 0 hF hS rfl rfl rfl fun a hF => wl_take hF rfl rfl rfl rfl ?_
  refine wl hF rfl rfl rfl (r_makeFunc (by simp only [List.map_toArray, List.map_cons, List.map_nil]; rw [hF.ev rfl])) fun a hF => ?_
  refine ckr hF hS rfl (containsFuncI_c (p := fun x => !decide (0 ≤ x ∧ x ≤ c.capacity - 1)) (cap := #[.pointer (some ⟨g1, 0, none⟩)]) (hS.rd r1) (by kernel_rfl) (fun w_ x hx hB => by rw [app_1]; exact isThread1_c (fun j u hu => cellB hB (hS.box_rd (i := 1) rfl j u hu)) hok)) fun w25 a hS hF => ?_
  exact je 6 hF hS rfl rfl rfl rfl
 intro a w26 hF hS
 refine ga 1 hF rfl fun a hF => ?_
 apply wa 6 136 142 hF hS
 ·
  intro hg136 a hF
  refine gb 2 0 hF hS rfl rfl rfl fun a hF => wl_take hF rfl rfl rfl rfl ?_
  refine wl hF rfl rfl rfl (r_makeFunc (by simp only [List.map_toArray, List.map_cons, List.map_nil]; rw [hF.ev rfl])) fun a hF => ?_
  refine ckr hF hS rfl (containsFuncI_c (p := fun x => !isNode c x) (cap := #[.pointer (some ⟨g1, 0, none⟩)]) (hS.rd r4) (by kernel_rfl) (fun w_ x hx hB => by rw [app_1]; exact isThread2_c (fun j u hu => cellB hB (hS.box_rd (i := 1) rfl j u hu)) (wlimbo x hx))) fun w27 a hS hF => ?_
  exact je 6 hF hS rfl rfl rfl rfl
 intro a w28 hF hS
 refine ge hK15 hF rfl fun a hF => ?_
 refine xr ?_
 refine ret1 rfl hF rfl ⟨congrArg Value.bool (Eq.symm ?_), hS.old⟩
 first
   | exact th_no1 c27
   | exact th_no3 c100
   | (simp only [any_not, Bool.not_not]
      exact th_yes ⟨⟨c27.1, c27.2.imp_right fun h => ⟨h.1, by omega⟩⟩, by omega, fun h => by omega, fun h => by omega⟩ c100)
   | exact th_no2 c28
   | exact th_no4 ⟨c28.1, by have := c28.2; omega⟩
   | exact th_no5 ⟨c28.1, by have := c28.2; omega⟩
set_option maxRecDepth 20000
section
variable {c : Config} {e : Entry} {t : Thread}
theorem ent_yes (h : (isEntry e = true ∧ ¬ c.keys ≤ e.key) ∧ ¬ c.capacity ≤ indexOf e.handle) : entOk c e = true := by
 unfold entOk; rw [h.1.1, decide_eq_true (show e.key < c.keys by omega), decide_eq_true (show indexOf e.handle < c.capacity by omega)]; rfl
theorem ent_no (h : (isEntry e = false ∨ c.keys ≤ e.key) ∨ c.capacity ≤ indexOf e.handle) : entOk c e = false := by
 unfold entOk
 rcases h with (h | h) | h
 · rw [h]; rfl
 · rw [decide_eq_false (show ¬ e.key < c.keys by omega)]; simp
 · rw [decide_eq_false (show ¬ indexOf e.handle < c.capacity by omega)]; simp
theorem th_noS (h : (¬t.pc ∈ pcs ∨ ¬t.pc = 0 ∧ ¬t.op.ok) ∨ c.keys ≤ t.op.key ∧ ¬t.pc = 0) : threadOk c t = false := th_no1 (by
  rcases h with (h | h) | h
  · exact .inl h
  · exact .inr ⟨h.1, .inl h.2⟩
  · exact .inr ⟨h.2, .inr h.1⟩)
theorem th_yesS (hf : freeOk c t = true) (he : (t.buffer ++ t.work).all (entOk c) = true) (hp : pcOk c t) :
    threadOk c t = (zeroOk c t.node && zeroOk c t.prev && zeroOk c t.curr && zeroOk c t.next && !isMarked t.node && !isMarked t.prev && !isMarked t.curr && (t.limbo.all (isNode c) && decide ((t.limbo.length : Int) ≤ 100)) && decide (0 ≤ t.snapshot ∧ t.snapshot ≤ 99) && decide ((t.buffer.length : Int) ≤ 100) && decide ((t.work.length : Int) ≤ 100) && decide ((t.free.length : Int) ≤ 100) && decide ((t.found.length : Int) ≤ 100)) := by
  unfold threadOk
  rw [hf, he, decide_eq_true hp, Bool.eq_iff_iff]
  unfold regsOk
  simp only [isLink_zero, Bool.and_eq_true, decide_eq_true_eq, Bool.true_and]
  unfold sizesOk
  constructor
  · rintro ⟨⟨⟨⟨⟨⟨a1, b1⟩, a2, b2⟩, a3, b3⟩, a4⟩, l⟩, h5, h6, h7, h8, h9, h10⟩
    exact ⟨⟨⟨⟨⟨⟨⟨⟨⟨⟨⟨⟨a1, a2⟩, a3⟩, a4⟩, b1⟩, b2⟩, b3⟩, l, h10⟩, h5⟩, h6⟩, h7⟩, h8⟩, h9⟩
  · rintro ⟨⟨⟨⟨⟨⟨⟨⟨⟨⟨⟨⟨a1, a2⟩, a3⟩, a4⟩, b1⟩, b2⟩, b3⟩, l, h10⟩, h5⟩, h6⟩, h7⟩, h8⟩, h9⟩
    exact ⟨⟨⟨⟨⟨⟨a1, b1⟩, a2, b2⟩, a3, b3⟩, a4⟩, l⟩, h5, h6, h7, h8, h9, h10⟩
theorem th_free (hx : freeOk c t = false) : threadOk c t = false := by unfold threadOk; rw [hx]; rfl
theorem th_ents (hx : (t.buffer ++ t.work).all (entOk c) = false) : threadOk c t = false := by unfold threadOk; rw [hx]; simp
end
theorem l8Thread_c {W : World} {c : Config} {t : Sl.Thread} {cs : List Value} (hm : threadEK.K W t cs) (hw : t.wf) (hok : c.ok) (hz : (t.size : Int) ≤ 1048576) : Calls Tryz.prog 93 #[.agg c.enc.toArray, .agg cs.toArray] W (Ret fun v w' => v = .bool (threadOk c t) ∧ Below W.heap.size W w') := by
 refine cfr Tryz.func93 Tryz.ntmps93 fun a hF => ?_
 have hS := Sep.refl W
 obtain ⟨v0, v1, v2, v3, v4, rfl, r0, r1, r2, r3, r4⟩ := hm
 obtain ⟨A_a, q_a, rfl, hq_a, hn_a⟩ := r0.sl; unfold maxLen at hn_a
 obtain ⟨A_b, q_b, rfl, hq_b, hn_b⟩ := r1.sl; unfold maxLen at hn_b
 obtain ⟨A_c, q_c, rfl, hq_c, hn_c⟩ := r2.sl; unfold maxLen at hn_c
 obtain ⟨A_d, q_d, rfl, hq_d, hn_d⟩ := r3.sl; unfold maxLen at hn_d
 obtain ⟨A_e, q_e, rfl, hq_e, hn_e⟩ := r4.sl; unfold maxLen at hn_e
 obtain ⟨wpc, wop, wres, wsnap, wnode, wprev, wcurr, wnext, wseen, wstamp, wat, wfound, wfree, wbuf, wwork, wlimbo⟩ := hw
 have hb := hok; unfold Config.ok at hb
 have hw1 : IntKind.i64.wrap (c.threads - 1) = c.threads - 1 := w64_id (by omega) (by omega)
 have hw2 : IntKind.i64.wrap (c.capacity - 1) = c.capacity - 1 := w64_id (by omega) (by omega)
 have hw3 : IntKind.i64.wrap (IntKind.i64.wrap (2 * c.threads) - 1) = 2 * c.threads - 1 := by rw [w64_id (q := 2 * c.threads) (by omega) (by omega)]; exact w64_id (by omega) (by omega)
 have hz1 := hz; unfold Sl.Thread.size at hz1
 have hw5 : IntKind.i64.wrap (t.buffer.length + t.work.length) = t.buffer.length + t.work.length := w64_id (by omega) (by omega)
 refine ws fun K1 hK1 => wl_box (cs := [_, _, _, _, _, _]) hF hS rfl (hF.ev rfl) rfl fun g1 w1 a hS _ hF => wl_box (cs := [_, _, _, _, _, _, _, _, _, _, _, _, _, _, _, _, _, _, _]) hF hS rfl (hF.ev rfl) rfl fun g2 w2 a hS _ hF => ge hK1 hF rfl fun a hF => wp_seq_k fun K2 hK2 => rg hF rfl fun a hF => wp_block ?_
 have hL_ := (((hF.nil.keep hF (t := 4) rfl).keep hF (t := 3) rfl).keep hF (t := 2) rfl)
 refine wp_loop_r (σ := Nat) (fun k L_ => (5, vi k) :: L_) (fun k => (k ≤ t.free.length) ∧ ((t.free.take k).all (fun x => decide (0 ≤ x ∧ x ≤ c.capacity - 1)) = true)) (fun k => t.free.length - k) 0 hS (hL_.keepE hF (t := 5) rfl rfl) ?_ ?_
 · exact ⟨Nat.zero_le _, rfl⟩
 rintro k a w3 ⟨hk, hn⟩ hS hF; try dsimp only at hF; try dsimp only at hS
 refine wp_seq_k fun K4 hK4 => rh 0 hF hS rfl rfl rfl fun a hF => cx 13 hF rfl (fun c13 hF => ?_) fun c13 hF => ?_
 ·
  have hlt : k < t.free.length := by omega
  have hx := at0_nat hlt
  refine wp_skip <| hK4 _ _ <| wp_seq_k fun K6 hK6 => wp_block <| wp_seq_k fun K7 hK7 => wp_region_calm (by kernel_rfl) (by kernel_rfl) <| qb 3 0 hF tk hS rfl rfl rfl fun a hF => ?_
  obtain ⟨g19, o19, m19, q19, hv19, hm19, hl19, hc19⟩ := Rd.atF (r1) (a := a) (X := .tmp 18) (hF.ev rfl) (by omega) (by omega)
  refine wq hF rfl rfl rfl (fun w_ hB_ => r_index sl26 ((hF.ev rfl).trans hv19) (hF.ev rfl) (by omega) (by first | omega | (simp at hm19; omega))) fun a hF => ?_
  refine wq hF rfl rfl rfl (fun w_ hB_ => r_load1 sc3 (hF.ev rfl) (cellB (hS.ext hB_).old (hc19 0 _ rfl))) fun a hF => qb 3 1 hF tk hS rfl rfl rfl fun a hF => qk hF rfl (fun w_ hB_ => l1In_c _ _ _) fun a hF => qa 1 hF tk rfl fun a hF => ?_
  refine wpQuiet_nil ?_; intro w4 hB_; have hS := hS.ext hB_
  refine hK7 _ _ <| cx 25 hF rfl (fun c25 hF => ?_) fun c25 hF => ?_
  ·
   refine rg hF rfl fun a hF => ?_
   refine xr ?_
   refine ret1 rfl hF rfl ⟨congrArg Value.bool (Eq.symm ?_), hS.old⟩
   first
     | exact th_free (all_no hx (decide_eq_false (hw2 ▸ c25)))
     | exact th_ents (all_no hx (ent_no c74))
     | exact th_noS c102
     | exact th_yesS (all_done hn (by omega)) (all_done hn2 (by rw [List.length_append]; omega)) ⟨⟨c102.1.1, by rcases c102.1.2 with h | h; exact .inl h; exact c102.2.elim (fun h2 => .inr ⟨h, by omega⟩) .inl⟩, by omega, fun h => by omega, fun h => by omega⟩
     | exact th_no fun hp => by
         obtain ⟨-, p1, p2, p3⟩ := hp
         rcases c148 with (c148 | c148) | c148
         · exact p1 c148
         · rcases c148.1 with h | h
           · have := p2 h; omega
           · have := p3 h; omega
         · have := p2 c148.1; omega
  refine wp_skip ?_
  refine xt ?_
  refine hK6 _ _ <| rl hF rfl fun a hF => ?_
  refine xt ?_
  refine ⟨k + 1, ⟨by omega, all_nxt hn hx (by rw [decide_eq_true (hw2 ▸ c25)])⟩, hS, ((((hF.nil.keep hF (t := 4) rfl).keep hF (t := 3) rfl).keep hF (t := 2) rfl).keepE hF (t := 5) rfl (wk (by omega))), by omega⟩
 refine wp_exit ?_
 refine xt ?_
 refine hK2 _ _ <| wp_seq_k fun K9 hK9 => rg hF rfl fun a hF => wp_block ?_
 have hL_ := (((hF.nil.keep hF (t := 4) rfl).keep hF (t := 3) rfl).keep hF (t := 2) rfl)
 refine wp_loop_r (σ := Nat) (fun k L_ => (6, vi k) :: L_) (fun k => (k ≤ t.buffer.length + t.work.length) ∧ (((t.buffer ++ t.work).take k).all (entOk c) = true)) (fun k => (t.buffer ++ t.work).length - k) 0 hS (hL_.keepE hF (t := 6) rfl rfl) ?_ ?_
 · exact ⟨Nat.zero_le _, rfl⟩
 rintro k a w5 ⟨hk, hn2⟩ hS hF; try dsimp only at hF; try dsimp only at hS
 refine wp_seq_k fun K11 hK11 => rh 0 hF hS rfl rfl rfl fun a hF => cx 34 hF rfl (fun c34 hF => ?_) fun c34 hF => ?_
 ·
  rw [hw5] at c34
  refine wp_skip <| hK11 _ _ <| wp_seq_k fun K13 hK13 => wp_block <| ws fun K14 hK14 => wl hF rfl rfl rfl (r_build (bd83) trivial) fun a hF => wl_alloc hF hS rfl zr83 fun g3 w6 a hS _ hF => ?_
  refine ww 0 hF hS rfl rfl rfl rfl rfl rfl fun w7 hS => wl_nil <| hK14 _ _ <| wp_seq_k fun K15 hK15 => rh 1 hF hS rfl rfl rfl fun a hF => cx 42 hF rfl (fun c42 hF => ?_) fun c42 hF => ?_
  ·
   have hlt : k < t.buffer.length := by omega
   have hwf := wbuf _ (at0_mem (xs := t.buffer) (i := (k : Int)) (by omega) (by omega))
   have hx := (at0_nat (xs := t.buffer ++ t.work) (k := k) (by rw [List.length_append]; omega)).trans (congrArg some (at0_app1 c42))
   refine wp_region_lit <| gb 3 1 hF hS rfl rfl rfl fun a hF => ?_
   obtain ⟨g46, o46, m46, q46, hv46, hm46, hl46, hc46⟩ := Rd.atF (r2) (a := a) (X := .tmp 45) (hF.ev rfl) (by omega) (by omega)
   refine wl hF rfl rfl rfl (r_index sl40 ((hF.ev rfl).trans hv46) (hF.ev rfl) (by omega) (by first | omega | (simp at hm46; omega))) fun a hF => ?_
   refine wl hF rfl rfl rfl (r_loadn ag83 (hF.ev rfl) (fun j_ u_ hu_ => cellB hS.old (hc46 j_ u_ hu_)) sz83) fun a hF => ?_
   refine wl_storen (cs' := [_, _, _, _]) hF hS (i := 0) rfl (hF.ev rfl) (hF.ev rfl) sz83 ⟨rfl, rfl⟩ rfl rfl fun w8 hS => ?_; dsimp only [List.set] at hS
   refine wl_nil <| hK15 _ _ <| wp_seq_k fun K17 hK17 => wp_region_calm (by kernel_rfl) (by kernel_rfl) <| qb 1 0 hF tk hS rfl rfl rfl fun a hF => qk hF rfl (fun w_ hB_ => specIsEntry_c hwf) fun a hF => qa 2 hF tk rfl fun a hF => ?_
   apply wq_or (A := [_, _, _, _, _, _]) (pk := 66) hF (tc := 60) rfl
   ·
    intro hg60 a hF; try simp only [zb] at hg60
    refine qb 3 0 hF tk hS rfl rfl rfl fun a hF => wq_take hF rfl rfl rfl rfl <| qb 3 2 hF tk hS rfl rfl rfl fun a hF => ?_
    exact wpQuiet_nil ((Fr.pre (A := [_, _, _, _, _, _]) hF rfl).keep hF (t := 66) rfl)
   ·
    intro hg60 a hF; try simp only [zb] at hg60
    refine qa 6 hF tk rfl fun a hF => ?_
    exact wpQuiet_nil ((Fr.pre (A := [_, _, _, _, _, _]) hF rfl).keep hF (t := 66) rfl)
   intro a hF
   refine qa 1 hF tk rfl fun a hF => ?_
   apply wq_or (A := [_, _, _, _, _, _, _]) (pk := 74) hF (tc := 67) rfl
   ·
    intro hg67 a hF; try simp only [zb] at hg67
    refine qb 2 0 hF tk hS rfl rfl rfl fun a hF => qk hF rfl (fun w_ hB_ => specIndexOf_c hwf.1) fun a hF => qb 4 2 hF tk hS rfl rfl rfl fun a hF => ?_
    exact wpQuiet_nil ((Fr.pre (A := [_, _, _, _, _, _, _]) hF rfl).keep hF (t := 74) rfl)
   ·
    intro hg67 a hF; try simp only [zb] at hg67
    refine qa 7 hF tk rfl fun a hF => ?_
    exact wpQuiet_nil ((Fr.pre (A := [_, _, _, _, _, _, _]) hF rfl).keep hF (t := 74) rfl)
   intro a hF
   refine wpQuiet_nil ?_; intro w11 hB_; have hS := hS.ext hB_
   refine hK17 _ _ <| cx 74 hF rfl (fun c74 hF => ?_) fun c74 hF => ?_
   ·
    refine rg hF rfl fun a hF => ?_
    refine xr ?_
    refine ret1 rfl hF rfl ⟨congrArg Value.bool (Eq.symm ?_), hS.old⟩
    first
      | exact th_free (all_no hx (decide_eq_false (hw2 ▸ c25)))
      | exact th_ents (all_no hx (ent_no c74))
      | exact th_noS c102
      | exact th_yesS (all_done hn (by omega)) (all_done hn2 (by rw [List.length_append]; omega)) ⟨⟨c102.1.1, by rcases c102.1.2 with h | h; exact .inl h; exact c102.2.elim (fun h2 => .inr ⟨h, by omega⟩) .inl⟩, by omega, fun h => by omega, fun h => by omega⟩
      | exact th_no fun hp => by
          obtain ⟨-, p1, p2, p3⟩ := hp
          rcases c148 with (c148 | c148) | c148
          · exact p1 c148
          · rcases c148.1 with h | h
            · have := p2 h; omega
            · have := p3 h; omega
          · have := p2 c148.1; omega
   refine wp_skip ?_
   refine xt ?_
   refine hK13 _ _ <| rl hF rfl fun a hF => ?_
   refine xt ?_
   refine ⟨k + 1, ⟨by omega, all_nxt hn2 hx (ent_yes c74)⟩, (hS.pick [1, 2] (by decide) rfl), ((((hF.nil.keep hF (t := 4) rfl).keep hF (t := 3) rfl).keep hF (t := 2) rfl).keepE hF (t := 6) rfl (wk (by omega))), by rw [List.length_append]; omega⟩
  have hw4 : IntKind.i64.wrap ((k : Int) - t.buffer.length) = k - t.buffer.length := w64_id (by omega) (by omega)
  have hwf := wwork _ (at0_mem (xs := t.work) (i := IntKind.i64.wrap ((k : Int) - t.buffer.length)) (by omega) (by omega))
  have hx : (t.buffer ++ t.work)[k]? = some (at0 t.work (IntKind.i64.wrap ((k : Int) - t.buffer.length))) := by rw [hw4]; exact (at0_nat (xs := t.buffer ++ t.work) (k := k) (by rw [List.length_append]; omega)).trans (congrArg some (at0_app2 c42))
  refine wp_region_lit <| gb 7 1 hF hS rfl rfl rfl fun a hF => ?_
  obtain ⟨g55, o55, m55, q55, hv55, hm55, hl55, hc55⟩ := Rd.atF (r3) (a := a) (X := .tmp 54) (hF.ev rfl) (by omega) (by omega)
  refine wl hF rfl rfl rfl (r_index sl40 ((hF.ev rfl).trans hv55) (hF.ev rfl) (by omega) (by first | omega | (simp at hm55; omega))) fun a hF => ?_
  refine wl hF rfl rfl rfl (r_loadn ag83 (hF.ev rfl) (fun j_ u_ hu_ => cellB hS.old (hc55 j_ u_ hu_)) sz83) fun a hF => ?_
  refine wl_storen (cs' := [_, _, _, _]) hF hS (i := 0) rfl (hF.ev rfl) (hF.ev rfl) sz83 ⟨rfl, rfl⟩ rfl rfl fun w12 hS => ?_; dsimp only [List.set] at hS
  refine wl_nil <| hK15 _ _ <| wp_seq_k fun K19 hK19 => wp_region_calm (by kernel_rfl) (by kernel_rfl) <| qb 1 0 hF tk hS rfl rfl rfl fun a hF => qk hF rfl (fun w_ hB_ => specIsEntry_c hwf) fun a hF => qa 2 hF tk rfl fun a hF => ?_
  apply wq_or (A := [_, _, _, _, _, _]) (pk := 66) hF (tc := 60) rfl
  ·
   intro hg60 a hF; try simp only [zb] at hg60
   refine qb 3 0 hF tk hS rfl rfl rfl fun a hF => wq_take hF rfl rfl rfl rfl <| qb 3 2 hF tk hS rfl rfl rfl fun a hF => ?_
   exact wpQuiet_nil ((Fr.pre (A := [_, _, _, _, _, _]) hF rfl).keep hF (t := 66) rfl)
  ·
   intro hg60 a hF; try simp only [zb] at hg60
   refine qa 6 hF tk rfl fun a hF => ?_
   exact wpQuiet_nil ((Fr.pre (A := [_, _, _, _, _, _]) hF rfl).keep hF (t := 66) rfl)
  intro a hF
  refine qa 1 hF tk rfl fun a hF => ?_
  apply wq_or (A := [_, _, _, _, _, _, _]) (pk := 74) hF (tc := 67) rfl
  ·
   intro hg67 a hF; try simp only [zb] at hg67
   refine qb 2 0 hF tk hS rfl rfl rfl fun a hF => qk hF rfl (fun w_ hB_ => specIndexOf_c hwf.1) fun a hF => qb 4 2 hF tk hS rfl rfl rfl fun a hF => ?_
   exact wpQuiet_nil ((Fr.pre (A := [_, _, _, _, _, _, _]) hF rfl).keep hF (t := 74) rfl)
  ·
   intro hg67 a hF; try simp only [zb] at hg67
   refine qa 7 hF tk rfl fun a hF => ?_
   exact wpQuiet_nil ((Fr.pre (A := [_, _, _, _, _, _, _]) hF rfl).keep hF (t := 74) rfl)
  intro a hF
  refine wpQuiet_nil ?_; intro w15 hB_; have hS := hS.ext hB_
  refine hK19 _ _ <| cx 74 hF rfl (fun c74 hF => ?_) fun c74 hF => ?_
  ·
   refine rg hF rfl fun a hF => ?_
   refine xr ?_
   refine ret1 rfl hF rfl ⟨congrArg Value.bool (Eq.symm ?_), hS.old⟩
   first
     | exact th_free (all_no hx (decide_eq_false (hw2 ▸ c25)))
     | exact th_ents (all_no hx (ent_no c74))
     | exact th_noS c102
     | exact th_yesS (all_done hn (by omega)) (all_done hn2 (by rw [List.length_append]; omega)) ⟨⟨c102.1.1, by rcases c102.1.2 with h | h; exact .inl h; exact c102.2.elim (fun h2 => .inr ⟨h, by omega⟩) .inl⟩, by omega, fun h => by omega, fun h => by omega⟩
     | exact th_no fun hp => by
         obtain ⟨-, p1, p2, p3⟩ := hp
         rcases c148 with (c148 | c148) | c148
         · exact p1 c148
         · rcases c148.1 with h | h
           · have := p2 h; omega
           · have := p3 h; omega
         · have := p2 c148.1; omega
  refine wp_skip ?_
  refine xt ?_
  refine hK13 _ _ <| rl hF rfl fun a hF => ?_
  refine xt ?_
  refine ⟨k + 1, ⟨by omega, all_nxt hn2 hx (ent_yes c74)⟩, (hS.pick [1, 2] (by decide) rfl), ((((hF.nil.keep hF (t := 4) rfl).keep hF (t := 3) rfl).keep hF (t := 2) rfl).keepE hF (t := 6) rfl (wk (by omega))), by rw [List.length_append]; omega⟩
 rw [hw5] at c34
 refine wp_exit ?_
 refine xt ?_
 refine hK9 _ _ <| wp_seq_k fun K21 hK21 => ws fun K22 hK22 => gb 2 0 hF hS rfl rfl rfl fun a hF => ckr hF hS rfl (specIsPc_c) fun w16 a hS hF => ga 2 hF rfl fun a hF => ?_
 apply wo 10 79 89 hF hS
 ·
  intro hg79 a hF
  refine gb 4 0 hF hS rfl rfl rfl fun a hF => ?_
  apply wa 5 83 88 hF hS
  ·
   intro hg83 a hF
   refine ga 1 hF rfl fun a hF => wl_take hF rfl rfl rfl rfl <| wl hF rfl rfl rfl (r_loadn ag31 (hF.ev rfl) (hS.boxn (vs := [_, _, _]) (i := 0) (m := 3) rfl rfl) sz31) fun a hF => ckr hF hS rfl (specIsOp_c _) fun w17 a hS hF => ?_
   exact je 5 hF hS rfl rfl rfl rfl
  intro a w18 hF hS
  exact je 6 hF hS rfl rfl rfl rfl
 intro a w19 hF hS
 refine ga 1 hF rfl fun a hF => ?_
 apply wo 12 90 102 hF hS
 ·
  intro hg90 a hF
  refine gb 4 0 hF hS rfl rfl rfl fun a hF => wl_take hF rfl rfl rfl rfl <| gb 3 1 hF hS rfl rfl rfl fun a hF => ?_
  apply wa 4 97 101 hF hS
  ·
   intro hg97 a hF
   exact jf 4 0 hF hS rfl rfl rfl rfl rfl rfl
  intro a w20 hF hS
  exact je 9 hF hS rfl rfl rfl rfl
 intro a w21 hF hS
 refine wl_nil <| hK22 _ _ <| cx 102 hF rfl (fun c102 hF => ?_) fun c102 hF => ?_
 ·
  refine rg hF rfl fun a hF => ?_
  refine xr ?_
  refine ret1 rfl hF rfl ⟨congrArg Value.bool (Eq.symm ?_), hS.old⟩
  first
    | exact th_free (all_no hx (decide_eq_false (hw2 ▸ c25)))
    | exact th_ents (all_no hx (ent_no c74))
    | exact th_noS c102
    | exact th_yesS (all_done hn (by omega)) (all_done hn2 (by rw [List.length_append]; omega)) ⟨⟨c102.1.1, by rcases c102.1.2 with h | h; exact .inl h; exact c102.2.elim (fun h2 => .inr ⟨h, by omega⟩) .inl⟩, by omega, fun h => by omega, fun h => by omega⟩
    | exact th_no fun hp => by
        obtain ⟨-, p1, p2, p3⟩ := hp
        rcases c148 with (c148 | c148) | c148
        · exact p1 c148
        · rcases c148.1 with h | h
          · have := p2 h; omega
          · have := p3 h; omega
        · have := p2 c148.1; omega
 refine wp_skip <| hK21 _ _ <| wp_seq_k fun K24 hK24 => ws fun K25 hK25 => gb 4 0 hF hS rfl rfl rfl fun a hF => ?_
 apply wo 4 106 110 hF hS
 ·
  intro hg106 a hF
  exact jf 4 0 hF hS rfl rfl rfl rfl rfl rfl
 intro a w22 hF hS
 refine ga 1 hF rfl fun a hF => ?_
 apply wa 5 111 116 hF hS
 ·
  intro hg111 a hF
  exact jf 5 0 hF hS rfl rfl rfl rfl rfl rfl
 intro a w23 hF hS
 refine ga 1 hF rfl fun a hF => ?_
 apply wo 19 117 136 hF hS
 ·
  intro hg117 a hF
  refine gb 4 0 hF hS rfl rfl rfl fun a hF => ?_
  apply wo 4 121 125 hF hS
  ·
   intro hg121 a hF
   exact jf 4 0 hF hS rfl rfl rfl rfl rfl rfl
  intro a w24 hF hS
  refine ga 1 hF rfl fun a hF => ?_
  apply wa 9 126 135 hF hS
  ·
   intro hg126 a hF
   refine gb 3 0 hF hS rfl rfl rfl fun a hF => wl_take hF rfl rfl rfl rfl <| gb 3 1 hF hS rfl rfl rfl fun a hF => ckr hF hS rfl (l1In_c _ _ _) fun w25 a hS hF => ?_
   exact je 9 hF hS rfl rfl rfl rfl
  intro a w26 hF hS
  exact je 8 hF hS rfl rfl rfl rfl
 intro a w27 hF hS
 refine ga 1 hF rfl fun a hF => ?_
 apply wo 11 137 148 hF hS
 ·
  intro hg137 a hF
  refine gb 4 0 hF hS rfl rfl rfl fun a hF => ?_
  apply wa 6 141 147 hF hS
  ·
   intro hg141 a hF
   refine gb 3 0 hF hS rfl rfl rfl fun a hF => wl_take hF rfl rfl rfl rfl ?_
   exact jf 6 1 hF hS rfl rfl rfl rfl rfl rfl
  intro a w28 hF hS
  exact je 6 hF hS rfl rfl rfl rfl
 intro a w29 hF hS
 refine wl_nil <| hK25 _ _ <| cx 148 hF rfl (fun c148 hF => ?_) fun c148 hF => ?_
 ·
  refine rg hF rfl fun a hF => ?_
  refine xr ?_
  refine ret1 rfl hF rfl ⟨congrArg Value.bool (Eq.symm ?_), hS.old⟩
  first
    | exact th_free (all_no hx (decide_eq_false (hw2 ▸ c25)))
    | exact th_ents (all_no hx (ent_no c74))
    | exact th_noS c102
    | exact th_yesS (all_done hn (by omega)) (all_done hn2 (by rw [List.length_append]; omega)) ⟨⟨c102.1.1, by rcases c102.1.2 with h | h; exact .inl h; exact c102.2.elim (fun h2 => .inr ⟨h, by omega⟩) .inl⟩, by omega, fun h => by omega, fun h => by omega⟩
    | exact th_no fun hp => by
        obtain ⟨-, p1, p2, p3⟩ := hp
        rcases c148 with (c148 | c148) | c148
        · exact p1 c148
        · rcases c148.1 with h | h
          · have := p2 h; omega
          · have := p3 h; omega
        · have := p2 c148.1; omega
 refine wp_skip <| hK24 _ _ <| ws fun K27 hK27 => gb 2 1 hF hS rfl rfl rfl fun a hF => gb 1 0 hF hS rfl rfl rfl fun a hF => ckr hF hS rfl (l8Zero_c (by assumption)) fun w30 a hS hF => ga 1 hF rfl fun a hF => ?_
 apply wa 5 153 158 hF hS
 ·
  intro hg153 a hF
  refine gb 2 1 hF hS rfl rfl rfl fun a hF => wl_take hF rfl rfl rfl rfl <| gb 1 0 hF hS rfl rfl rfl fun a hF => ckr hF hS rfl (l8Zero_c (by assumption)) fun w31 a hS hF => ?_
  exact je 5 hF hS rfl rfl rfl rfl
 intro a w32 hF hS
 refine ga 1 hF rfl fun a hF => ?_
 apply wa 5 159 164 hF hS
 ·
  intro hg159 a hF
  refine gb 2 1 hF hS rfl rfl rfl fun a hF => wl_take hF rfl rfl rfl rfl <| gb 1 0 hF hS rfl rfl rfl fun a hF => ckr hF hS rfl (l8Zero_c (by assumption)) fun w33 a hS hF => ?_
  exact je 5 hF hS rfl rfl rfl rfl
 intro a w34 hF hS
 refine ga 1 hF rfl fun a hF => ?_
 apply wa 5 165 170 hF hS
 ·
  intro hg165 a hF
  refine gb 2 1 hF hS rfl rfl rfl fun a hF => wl_take hF rfl rfl rfl rfl <| gb 1 0 hF hS rfl rfl rfl fun a hF => ckr hF hS rfl (l8Zero_c (by assumption)) fun w35 a hS hF => ?_
  exact je 5 hF hS rfl rfl rfl rfl
 intro a w36 hF hS
 refine ga 1 hF rfl fun a hF => ?_
 apply wa 5 171 176 hF hS
 ·
  intro hg171 a hF
  refine gb 2 0 hF hS rfl rfl rfl fun a hF => ckr hF hS rfl (specIsMarked_c (by assumption)) fun w37 a hS hF => ?_
  exact je 5 hF hS rfl rfl rfl rfl
 intro a w38 hF hS
 refine ga 1 hF rfl fun a hF => ?_
 apply wa 5 177 182 hF hS
 ·
  intro hg177 a hF
  refine gb 2 0 hF hS rfl rfl rfl fun a hF => ckr hF hS rfl (specIsMarked_c (by assumption)) fun w39 a hS hF => ?_
  exact je 5 hF hS rfl rfl rfl rfl
 intro a w40 hF hS
 refine ga 1 hF rfl fun a hF => ?_
 apply wa 5 183 188 hF hS
 ·
  intro hg183 a hF
  refine gb 2 0 hF hS rfl rfl rfl fun a hF => ckr hF hS rfl (specIsMarked_c (by assumption)) fun w41 a hS hF => ?_
  exact je 5 hF hS rfl rfl rfl rfl
 intro a w42 hF hS
 refine ge hK27 hF rfl fun a hF => ws fun K28 hK28 => ga 2 hF rfl fun a hF => ?_
 apply wa 5 190 195 hF hS
 ·
  intro hg190 a hF
  refine gb 2 1 hF hS rfl rfl rfl fun a hF => wl_take hF rfl rfl rfl rfl <| gb 1 0 hF hS rfl rfl rfl fun a hF => ckr hF hS rfl (l8Handles_c (hS.rd r4) wlimbo) fun w43 a hS hF => ?_
  exact je 5 hF hS rfl rfl rfl rfl
 intro a w44 hF hS
 refine ga 1 hF rfl fun a hF => ?_
 apply wa 4 196 200 hF hS
 ·
  intro hg196 a hF
  refine gb 2 0 hF hS rfl rfl rfl fun a hF => ckr hF hS rfl (l1In_c _ _ _) fun w45 a hS hF => ?_
  exact je 4 hF hS rfl rfl rfl rfl
 intro a w46 hF hS
 refine ga 1 hF rfl fun a hF => ?_
 apply wa 5 201 206 hF hS
 ·
  intro hg201 a hF
  exact jf 5 0 hF hS rfl rfl rfl rfl rfl rfl
 intro a w47 hF hS
 refine ga 1 hF rfl fun a hF => ?_
 apply wa 5 207 212 hF hS
 ·
  intro hg207 a hF
  exact jf 5 0 hF hS rfl rfl rfl rfl rfl rfl
 intro a w48 hF hS
 refine ga 1 hF rfl fun a hF => ?_
 apply wa 5 213 218 hF hS
 ·
  intro hg213 a hF
  exact jf 5 0 hF hS rfl rfl rfl rfl rfl rfl
 intro a w49 hF hS
 refine ga 1 hF rfl fun a hF => ?_
 apply wa 5 219 224 hF hS
 ·
  intro hg219 a hF
  exact jf 5 0 hF hS rfl rfl rfl rfl rfl rfl
 intro a w50 hF hS
 refine ge hK28 hF rfl fun a hF => ?_
 refine xr ?_
 refine ret1 rfl hF rfl ⟨congrArg Value.bool (Eq.symm ?_), hS.old⟩
 first
   | exact th_free (all_no hx (decide_eq_false (hw2 ▸ c25)))
   | exact th_ents (all_no hx (ent_no c74))
   | exact th_noS c102
   | exact th_yesS (all_done hn (by omega)) (all_done hn2 (by rw [List.length_append]; omega)) ⟨⟨c102.1.1, by rcases c102.1.2 with h | h; exact .inl h; exact c102.2.elim (fun h2 => .inr ⟨h, by omega⟩) .inl⟩, by omega, fun h => by omega, fun h => by omega⟩
   | exact th_no fun hp => by
       obtain ⟨-, p1, p2, p3⟩ := hp
       rcases c148 with (c148 | c148) | c148
       · exact p1 c148
       · rcases c148.1 with h | h
         · have := p2 h; omega
         · have := p3 h; omega
       · have := p2 c148.1; omega
set_option maxRecDepth 20000
theorem thread_inner0 (w : World) : Sat (threadEK.inner default []) (fun _ => False) w := by
 have h := Sat.nil (fun _ => False) w
 have c := fun {α : Type} (ek : EK α) {l : List Res} (h : Sat l (fun _ => False) w) => Sat.cons (S1 := fun _ => False) (S' := fun _ => False) h (own_nil ek _ w) (fun k hk => hk) (fun k hk => hk) (fun k hk _ => hk)
 exact c intEK (c intEK (c entryEK (c entryEK (c intEK h))))
def _root_.Go.Proofs.YtgofolgogfmhgaaGreat.Sl.State.size (t : Sl.State) : Nat := t.cells.length + t.generations.length + (t.threads.length + crow Sl.Thread.size t.threads)
set_option maxRecDepth 20000
theorem headCell_eq {c : Config} {k : Int} (hok : c.ok) (h0 : 0 ≤ k) (h1 : k < c.keys) : headCell c k = 2 + 3 * c.threads + k := by
 unfold headCell; rw [if_pos ⟨hok, h0, by omega⟩]
theorem nodeCell_eq {c : Config} {i f : Int} (hok : c.ok) (h0 : 0 ≤ i) (h1 : i < c.capacity) (h2 : 0 ≤ f) (h3 : f ≤ 2) : nodeCell c i f = 2 + 3 * c.threads + c.keys + 3 * i + f := by
 unfold nodeCell; rw [if_pos ⟨hok, ⟨h0, by omega⟩, h2, h3⟩]
theorem cellCount_eq {c : Config} (hok : c.ok) : cellCount c = 2 + 3 * c.threads + c.keys + 3 * c.capacity := by
 unfold cellCount; rw [if_pos hok]
section
variable {s : State}
theorem st_shape (h : ¬ shapeOk s) : stateOk s = false := by unfold stateOk; rw [decide_eq_false h]; rfl
theorem st_counts (h : ¬ countsOk s) : stateOk s = false := by unfold stateOk; rw [decide_eq_false h]; simp
theorem st_gens (h : gensOk s = false) : stateOk s = false := by unfold stateOk; rw [h]; simp
theorem st_heads (h : headsOk s = false) : stateOk s = false := by unfold stateOk; rw [h]; simp
theorem st_nodes (h : nodesOk s = false) : stateOk s = false := by unfold stateOk; rw [h]; simp
theorem st_threads (h : s.threads.all (threadOk s.config) = false) : stateOk s = false := by unfold stateOk; rw [h]; simp
theorem st_yes (h1 : shapeOk s) (h2 : gensOk s = true) (h3 : headsOk s = true) (h4 : nodesOk s = true) : stateOk s = (s.threads.all (threadOk s.config) && decide (countsOk s)) := by
 unfold stateOk; rw [decide_eq_true h1, h2, h3, h4]; simp
end
theorem indexFuncT_c {W : World} {va : Value} {xs : List Sl.Thread} {f : FuncId} {cap : Array Value} {p : Sl.Thread → Bool} (ha : threadEK.Rd W va xs) (hen : enterB Tryz.prog f = true) (hf : ∀ (w : World) (cs : List Value) (x : Sl.Thread), x ∈ xs → Below W.heap.size W w → threadEK.K w x cs → Calls Tryz.prog f (#[.agg cs.toArray] ++ cap) w (Ret fun v w' => v = .bool (p x) ∧ Below w.heap.size w w')) : Calls Tryz.prog 181 #[va, .func (.func f) #[] cap] W (Ret fun v w' => (∃ j : Int, v = vi j ∧ (0 ≤ j ↔ xs.any p = true)) ∧ Below W.heap.size W w') := by
 refine cfr Tryz.func181 Tryz.ntmps181 fun a hF => ?_
 obtain ⟨A_a, q_a, rfl, hq_a, hn_a⟩ := ha.sl; unfold maxLen at hn_a
 have hS := Sep.refl W
 refine rg hF rfl fun a hF => wp_seq_k fun K2 hK2 => rg hF rfl fun a hF => wp_block <| wp_loop_g (σ := Nat) (fun k a w => k ≤ xs.length ∧ (xs.take k).any p = false ∧ Sep W [] w ∧ Fr 19 [(8, vi k), (7, vi xs.length), (1, .func (.func f) #[] cap), (0, .slice A_a xs.length q_a)] a) (fun k => xs.length - k) 0 ?_ ?_
 · exact ⟨Nat.zero_le _, by simp, hS, ((((hF.nil.keep hF (t := 0) rfl).keep hF (t := 1) rfl).keep hF (t := 7) rfl).keep hF (t := 8) rfl)⟩
 rintro k a w ⟨hk, hn, hS, hF⟩
 refine rg hF rfl fun a hF => wp_seq_k fun K5 hK5 => ?_
 first | refine wc_dec (hF.ev rfl) (fun c9 => ?_) (fun c9 => ?_) | refine wc_ndec (hF.ev rfl) (fun c9 => ?_) (fun c9 => ?_) | refine wc_b (hF.ev rfl) (fun c9 => ?_) (fun c9 => ?_)
 ·
  have hlt : k < xs.length := by omega
  obtain ⟨x, hx⟩ : ∃ x, xs[k]? = some x := ⟨_, List.getElem?_eq_getElem hlt⟩
  refine wp_skip <| hK5 _ _ <| wp_seq_k fun K6 hK6 => wp_block <| rg hF rfl fun a hF => ws fun K8 hK8 => ga 3 hF rfl fun a hF => ?_
  obtain ⟨g14, o14, m14, q14, cs14, hv14, hm14, hl14, hk14, hz14, hc14⟩ := Rd.idx (ha) hx
  refine wl hF rfl rfl rfl (r_index sl27 ((hF.ev rfl).trans hv14) (hF.ev rfl) (by omega) (by omega)) fun a hF => wl hF rfl rfl rfl (r_loadn ag42 (hF.ev rfl) (fun j_ u_ hu_ => cellB hS.old (hc14 j_ u_ hu_)) (sz42.trans (congrArg some hz14.symm))) fun a hF => ?_
  refine wl_call hF rfl rfl rfl (r_callv1 hen (hF.ev rfl) (hF.ev rfl)) (hf _ cs14 x (List.mem_of_getElem? hx) hS.old (threadEK.ext hS.old hk14)) ?_; rintro v w1 a ⟨rfl, hB_⟩ hF; have hS := hS.ext hB_
  refine wl_nil (hK8 _ _ ?_)
  first | refine wc_dec (hF.ev rfl) (fun c16 => ?_) (fun c16 => ?_) | refine wc_ndec (hF.ev rfl) (fun c16 => ?_) (fun c16 => ?_) | refine wc_b (hF.ev rfl) (fun c16 => ?_) (fun c16 => ?_)
  ·
   refine rg hF rfl fun a hF => ?_
   refine xr ?_
   first | exact ret1 rfl hF rfl ⟨⟨_, rfl, ⟨fun _ => any_at hx c16, fun _ => by omega⟩⟩, hS.old⟩ | exact ret1 rfl hF rfl ⟨⟨_, rfl, ⟨fun h => absurd h (by omega), fun h => absurd h (by rw [any_all hn hk (by assumption)]; decide)⟩⟩, hS.old⟩
  refine wp_skip ?_
  refine xt ?_
  refine hK6 _ _ <| rl hF rfl fun a hF => ?_
  refine xt ?_
  exact ⟨k + 1, ⟨by omega, any_next hn hx c16, hS, ((((hF.nil.keep hF (t := 0) rfl).keep hF (t := 1) rfl).keep hF (t := 7) rfl).keepE hF (t := 8) rfl (wk (by omega)))⟩, by omega⟩
 refine wp_exit ?_
 refine xt ?_
 refine hK2 _ _ <| rg hF rfl fun a hF => ?_
 refine xr ?_
 first | exact ret1 rfl hF rfl ⟨⟨_, rfl, ⟨fun _ => any_at hx c16, fun _ => by omega⟩⟩, hS.old⟩ | exact ret1 rfl hF rfl ⟨⟨_, rfl, ⟨fun h => absurd h (by omega), fun h => absurd h (by rw [any_all hn hk (by assumption)]; decide)⟩⟩, hS.old⟩
theorem containsFuncT_c {W : World} {va : Value} {xs : List Sl.Thread} {f : FuncId} {cap : Array Value} {p : Sl.Thread → Bool} (ha : threadEK.Rd W va xs) (hen : enterB Tryz.prog f = true) (hf : ∀ (w : World) (cs : List Value) (x : Sl.Thread), x ∈ xs → Below W.heap.size W w → threadEK.K w x cs → Calls Tryz.prog f (#[.agg cs.toArray] ++ cap) w (Ret fun v w' => v = .bool (p x) ∧ Below w.heap.size w w')) : Calls Tryz.prog 150 #[va, .func (.func f) #[] cap] W (Ret fun v w' => v = .bool (xs.any p) ∧ Below W.heap.size W w') := by
 refine cfr Tryz.func150 Tryz.ntmps150 fun a hF => ?_
 have hS := Sep.refl W
 refine rg hF rfl fun a hF => ws fun K2 hK2 => ga 2 hF rfl fun a hF => ?_
 refine ck hF rfl (indexFuncT_c (hS.rd ha) hen hf) ?_; rintro v w1 a ⟨⟨j, rfl, hj⟩, hB_⟩ hF; have hS := hS.ext hB_
 refine ge hK2 hF rfl fun a hF => ?_
 refine xr ?_
 refine ret1 rfl hF rfl ⟨congrArg Value.bool ?_, hS.old⟩
 cases hb : xs.any p with
 | true => exact decide_eq_true (hj.2 hb)
 | false => exact decide_eq_false (fun h => by rw [hj.1 h] at hb; cases hb)
theorem isState1_c {W : World} {c : Config} {g : Nat} {t : Sl.Thread} {cs : List Value} (hm : threadEK.K W t cs) (hw : t.wf) (hok : c.ok) (hc : ∀ j u, c.enc[j]? = some u → W.cell? ⟨g, 0 + j, none⟩ = some u) : Calls Tryz.prog 151 #[.agg cs.toArray, .pointer (some ⟨g, 0, none⟩)] W (Ret fun v w' => v = .bool (!threadOk c t) ∧ Below W.heap.size W w') := by
 refine cfr Tryz.func151 Tryz.ntmps151 fun a hF => ?_
 have hS := Sep.refl W
 obtain ⟨v0, v1, v2, v3, v4, rfl, r0, r1, r2, r3, r4⟩ := hm
 have hm : threadEK.K W t (t.encv v0 v1 v2 v3 v4) := ⟨_, _, _, _, _, rfl, r0, r1, r2, r3, r4⟩
 refine ws fun K1 hK1 => wl_box (cs := [_, _, _, _, _, _, _, _, _, _, _, _, _, _, _, _, _, _, _]) hF hS rfl (hF.ev rfl) rfl fun g1 w1 a hS _ hF => ge hK1 hF rfl fun a hF => ws fun K2 hK2 => wl hF rfl rfl rfl (r_loadn ag25 (hF.ev rfl) (fun j_ u_ hu_ => cellB hS.old (hc j_ u_ hu_)) sz25) fun a hF => gb 1 0 hF hS rfl rfl rfl fun a hF => ckr hF hS rfl (isThread_c (hS.k hm) hw hok) fun w2 a hS hF => ?_
 refine ge hK2 hF rfl fun a hF => ?_
 refine xr ?_
 exact ret1 rfl hF rfl ⟨rfl, hS.old⟩
theorem implIsState_c {W : World} {s : Sl.State} {cs : List Value} (hm : stateEK.K W s cs) (hw : s.wf) (hz : (s.size : Int) ≤ 1048576) : Calls Tryz.prog 88 #[.agg cs.toArray] W (Ret fun v w' => v = .bool (stateOk s) ∧ Below W.heap.size W w') := by
 refine cfr Tryz.func88 Tryz.ntmps88 fun a hF => ?_
 have hS := Sep.refl W
 obtain ⟨v0, v1, v2, rfl, r0, r1, r2⟩ := hm
 obtain ⟨A_a, q_a, rfl, hq_a, hn_a⟩ := r0.sl; unfold maxLen at hn_a
 obtain ⟨A_b, q_b, rfl, hq_b, hn_b⟩ := r1.sl; unfold maxLen at hn_b
 obtain ⟨A_c, q_c, rfl, hq_c, hn_c⟩ := r2.sl; unfold maxLen at hn_c
 obtain ⟨wcfg, wcells, wgens, wthr, wsteps, wchanges, wretries, wfaults⟩ := hw
 have hz1 := hz; unfold Sl.State.size at hz1
 refine ws fun K1 hK1 => wl_box (cs := [_, _, _, _, _, _, _, _, _, _, _, _, _]) hF hS rfl (hF.ev rfl) rfl fun g1 w1 a hS _ hF => ge hK1 hF rfl fun a hF => ws fun K2 hK2 => ga 1 hF rfl fun a hF => wl hF rfl rfl rfl (r_loadn ag25 (hF.ev rfl) (hS.boxn (vs := [_, _, _, _, _, _]) (i := 0) (m := 6) rfl rfl) sz25) fun a hF => wl_alloc hF hS rfl zr25 fun g2 w2 a hS _ hF => ?_
 refine wl_storen (cs' := [_, _, _, _, _, _]) hF hS (i := 0) rfl (hF.ev rfl) (hF.ev rfl) sz25 ⟨rfl, rfl⟩ rfl rfl fun w3 hS => ?_; dsimp only [List.set] at hS
 refine wl_nil <| hK2 _ _ <| wp_seq_k fun K3 hK3 => wp_seq_k fun K4 hK4 => wp_region_calm (by kernel_rfl) (by kernel_rfl) <| qb 1 0 hF tk hS rfl rfl rfl fun a hF => qk hF rfl (fun w_ hB_ => implIsConfig_c _) fun a hF => qa 2 hF tk rfl fun a hF => ?_
 apply wq_or (A := [_, _, _, _, _, _, _]) (pk := 18) hF (tc := 11) rfl
 ·
  intro hg11 a hF; try simp only [zb] at hg11
  refine qb 3 1 hF tk hS rfl rfl rfl fun a hF => wq_take hF rfl rfl rfl rfl <| qb 1 0 hF tk hS rfl rfl rfl fun a hF => qk hF rfl (fun w_ hB_ => implCellCount_c _) fun a hF => qa 2 hF tk rfl fun a hF => ?_
  exact wpQuiet_nil ((Fr.pre (A := [_, _, _, _, _, _, _]) hF rfl).keep hF (t := 18) rfl)
 ·
  intro hg11 a hF; try simp only [zb] at hg11
  refine qa 7 hF tk rfl fun a hF => ?_
  exact wpQuiet_nil ((Fr.pre (A := [_, _, _, _, _, _, _]) hF rfl).keep hF (t := 18) rfl)
 intro a hF
 refine qa 1 hF tk rfl fun a hF => ?_
 apply wq_or (A := [_, _, _, _, _, _, _]) (pk := 26) hF (tc := 19) rfl
 ·
  intro hg19 a hF; try simp only [zb] at hg19
  refine qb 4 1 hF tk hS rfl rfl rfl fun a hF => wq_take hF rfl rfl rfl rfl <| qb 3 0 hF tk hS rfl rfl rfl fun a hF => ?_
  exact wpQuiet_nil ((Fr.pre (A := [_, _, _, _, _, _, _]) hF rfl).keep hF (t := 26) rfl)
 ·
  intro hg19 a hF; try simp only [zb] at hg19
  refine qa 7 hF tk rfl fun a hF => ?_
  exact wpQuiet_nil ((Fr.pre (A := [_, _, _, _, _, _, _]) hF rfl).keep hF (t := 26) rfl)
 intro a hF
 refine qa 1 hF tk rfl fun a hF => ?_
 apply wq_or (A := [_, _, _, _, _, _, _]) (pk := 34) hF (tc := 27) rfl
 ·
  intro hg27 a hF; try simp only [zb] at hg27
  refine qb 4 1 hF tk hS rfl rfl rfl fun a hF => wq_take hF rfl rfl rfl rfl <| qb 3 0 hF tk hS rfl rfl rfl fun a hF => ?_
  exact wpQuiet_nil ((Fr.pre (A := [_, _, _, _, _, _, _]) hF rfl).keep hF (t := 34) rfl)
 ·
  intro hg27 a hF; try simp only [zb] at hg27
  refine qa 7 hF tk rfl fun a hF => ?_
  exact wpQuiet_nil ((Fr.pre (A := [_, _, _, _, _, _, _]) hF rfl).keep hF (t := 34) rfl)
 intro a hF
 refine wpQuiet_nil ?_; intro w7 hB_; have hS := hS.ext hB_
 refine hK4 _ _ <| cx 34 hF rfl (fun c34 hF => ?_) fun c34 hF => ?_
 ·
  refine rg hF rfl fun a hF => ?_
  refine xr ?_
  refine ret1 rfl hF rfl ⟨congrArg Value.bool (Eq.symm ?_), hS.old⟩
  first
    | exact st_heads (range_no (by omega) c93)
    | exact st_shape fun h => by
        unfold shapeOk at h
        rcases c34 with ((c | c) | c) | c
        · exact c h.1
        · exact c h.2.1
        · exact c h.2.2.1
        · exact c h.2.2.2
    | (rcases c130 with (c | c) | c
       · exact st_gens (range_no (by omega) (decide_eq_false c))
       · exact st_nodes (range_no (k := k) (by omega) (Bool.and_eq_false_iff.2 (.inr (decide_eq_false c))))
       · exact st_nodes (range_no (k := k) (by omega) (Bool.and_eq_false_iff.2 (.inl (isLink_unmarked ▸ c)))))
    | (rw [st_yes ⟨hok, hl1, hl2, hl3⟩ (all_done hg (by rw [List.length_range]; omega)) (all_done hn (by rw [List.length_range]; omega)) (all_done hv (by rw [List.length_range]; omega)), any_not, Bool.not_not, decide_eq_true (show countsOk s from by unfold countsOk; omega), Bool.and_true])
    | exact st_counts fun h => by unfold countsOk at h; omega
 obtain ⟨⟨⟨hok, hl1⟩, hl2⟩, hl3⟩ := c34
 have hb := hok; unfold Config.ok at hb
 have hcc := cellCount_eq hok
 refine wp_skip <| hK3 _ _ <| wp_seq_k fun K6 hK6 => wp_seq_k fun K7 hK7 => wp_region_calm (by kernel_rfl) (by kernel_rfl) <| qb 2 1 hF tk hS rfl rfl rfl fun a hF => wq_call hF rfl rfl rfl (fun w_ hB_ => r_call0 en125 ) (fun w_ hB_ => implClockCell_c) fun a hF => ?_
 obtain ⟨g38, o38, m38, q38, hv38, hm38, hl38, hc38⟩ := Rd.atF (r0) (a := a) (X := .tmp 37) (hF.ev rfl) (by omega) (by omega)
 refine wq hF rfl rfl rfl (fun w_ hB_ => r_index sl26 ((hF.ev rfl).trans hv38) (hF.ev rfl) (by omega) (by first | omega | (simp at hm38; omega))) fun a hF => ?_
 refine wq hF rfl rfl rfl (fun w_ hB_ => r_load1 sc3 (hF.ev rfl) (cellB (hS.ext hB_).old (hc38 0 _ rfl))) fun a hF => qb 2 0 hF tk hS rfl rfl rfl fun a hF => qk hF rfl (fun w_ hB_ => in_c _ _ _) fun a hF => qa 2 hF tk rfl fun a hF => ?_
 apply wq_or (A := [_, _, _, _, _, _, _, _, _, _]) (pk := 54) hF (tc := 44) rfl
 ·
  intro hg44 a hF; try simp only [zb] at hg44
  refine qb 2 1 hF tk hS rfl rfl rfl fun a hF => wq_take hF rfl rfl rfl rfl <| wq_call hF rfl rfl rfl (fun w_ hB_ => r_call0 en138 ) (fun w_ hB_ => implArenaCell_c) fun a hF => wq_take hF rfl rfl rfl rfl ?_
  obtain ⟨g48, o48, m48, q48, hv48, hm48, hl48, hc48⟩ := Rd.atF (r0) (a := a) (X := .tmp 47) (hF.ev rfl) (by omega) (by omega)
  refine wq hF rfl rfl rfl (fun w_ hB_ => r_index sl26 ((hF.ev rfl).trans hv48) (hF.ev rfl) (by omega) (by first | omega | (simp at hm48; omega))) fun a hF => ?_
  refine wq_take hF rfl rfl rfl rfl <| wq hF rfl rfl rfl (fun w_ hB_ => r_load1 sc3 (hF.ev rfl) (cellB (hS.ext hB_).old (hc48 0 _ rfl))) fun a hF => qb 2 0 hF tk hS rfl rfl rfl fun a hF => qk hF rfl (fun w_ hB_ => in_c _ _ _) fun a hF => qa 2 hF tk rfl fun a hF => ?_
  exact wpQuiet_nil ((Fr.pre (A := [_, _, _, _, _, _, _, _, _, _]) hF rfl).keep hF (t := 54) rfl)
 ·
  intro hg44 a hF; try simp only [zb] at hg44
  refine qa 10 hF tk rfl fun a hF => ?_
  exact wpQuiet_nil ((Fr.pre (A := [_, _, _, _, _, _, _, _, _, _]) hF rfl).keep hF (t := 54) rfl)
 intro a hF
 refine qa 1 hF tk rfl fun a hF => ?_
 apply wq_or (A := [_, _, _, _, _]) (pk := 60) hF (tc := 55) rfl
 ·
  intro hg55 a hF; try simp only [zb] at hg55
  refine qb 2 1 hF tk hS rfl rfl rfl fun a hF => qk hF rfl (fun w_ hB_ => in_c _ _ _) fun a hF => qa 2 hF tk rfl fun a hF => ?_
  exact wpQuiet_nil ((Fr.pre (A := [_, _, _, _, _]) hF rfl).keep hF (t := 60) rfl)
 ·
  intro hg55 a hF; try simp only [zb] at hg55
  refine qa 5 hF tk rfl fun a hF => ?_
  exact wpQuiet_nil ((Fr.pre (A := [_, _, _, _, _]) hF rfl).keep hF (t := 60) rfl)
 intro a hF
 refine qa 1 hF tk rfl fun a hF => ?_
 apply wq_or (A := [_, _, _, _, _]) (pk := 66) hF (tc := 61) rfl
 ·
  intro hg61 a hF; try simp only [zb] at hg61
  refine qb 2 1 hF tk hS rfl rfl rfl fun a hF => qk hF rfl (fun w_ hB_ => in_c _ _ _) fun a hF => qa 2 hF tk rfl fun a hF => ?_
  exact wpQuiet_nil ((Fr.pre (A := [_, _, _, _, _]) hF rfl).keep hF (t := 66) rfl)
 ·
  intro hg61 a hF; try simp only [zb] at hg61
  refine qa 5 hF tk rfl fun a hF => ?_
  exact wpQuiet_nil ((Fr.pre (A := [_, _, _, _, _]) hF rfl).keep hF (t := 66) rfl)
 intro a hF
 refine qa 1 hF tk rfl fun a hF => ?_
 apply wq_or (A := [_, _, _, _, _]) (pk := 72) hF (tc := 67) rfl
 ·
  intro hg67 a hF; try simp only [zb] at hg67
  refine qb 2 1 hF tk hS rfl rfl rfl fun a hF => qk hF rfl (fun w_ hB_ => in_c _ _ _) fun a hF => qa 2 hF tk rfl fun a hF => ?_
  exact wpQuiet_nil ((Fr.pre (A := [_, _, _, _, _]) hF rfl).keep hF (t := 72) rfl)
 ·
  intro hg67 a hF; try simp only [zb] at hg67
  refine qa 5 hF tk rfl fun a hF => ?_
  exact wpQuiet_nil ((Fr.pre (A := [_, _, _, _, _]) hF rfl).keep hF (t := 72) rfl)
 intro a hF
 refine qa 1 hF tk rfl fun a hF => ?_
 apply wq_or (A := [_, _, _, _, _]) (pk := 78) hF (tc := 73) rfl
 ·
  intro hg73 a hF; try simp only [zb] at hg73
  refine qb 2 1 hF tk hS rfl rfl rfl fun a hF => qk hF rfl (fun w_ hB_ => in_c _ _ _) fun a hF => qa 2 hF tk rfl fun a hF => ?_
  exact wpQuiet_nil ((Fr.pre (A := [_, _, _, _, _]) hF rfl).keep hF (t := 78) rfl)
 ·
  intro hg73 a hF; try simp only [zb] at hg73
  refine qa 5 hF tk rfl fun a hF => ?_
  exact wpQuiet_nil ((Fr.pre (A := [_, _, _, _, _]) hF rfl).keep hF (t := 78) rfl)
 intro a hF
 refine wpQuiet_nil ?_; intro w13 hB_; have hS := hS.ext hB_
 refine hK7 _ _ <| cx 78 hF rfl (fun c78 hF => ?_) fun c78 hF => ?_
 ·
  refine rg hF rfl fun a hF => ?_
  refine xr ?_
  refine ret1 rfl hF rfl ⟨congrArg Value.bool (Eq.symm ?_), hS.old⟩
  first
    | exact st_heads (range_no (by omega) c93)
    | exact st_shape fun h => by
        unfold shapeOk at h
        rcases c34 with ((c | c) | c) | c
        · exact c h.1
        · exact c h.2.1
        · exact c h.2.2.1
        · exact c h.2.2.2
    | (rcases c130 with (c | c) | c
       · exact st_gens (range_no (by omega) (decide_eq_false c))
       · exact st_nodes (range_no (k := k) (by omega) (Bool.and_eq_false_iff.2 (.inr (decide_eq_false c))))
       · exact st_nodes (range_no (k := k) (by omega) (Bool.and_eq_false_iff.2 (.inl (isLink_unmarked ▸ c)))))
    | (rw [st_yes ⟨hok, hl1, hl2, hl3⟩ (all_done hg (by rw [List.length_range]; omega)) (all_done hn (by rw [List.length_range]; omega)) (all_done hv (by rw [List.length_range]; omega)), any_not, Bool.not_not, decide_eq_true (show countsOk s from by unfold countsOk; omega), Bool.and_true])
    | exact st_counts fun h => by unfold countsOk at h; omega
 refine wp_skip <| hK6 _ _ <| wp_seq_k fun K9 hK9 => rh 0 hF hS rfl rfl rfl fun a hF => wp_block ?_
 have hL_ := ((((hF.nil.keep hF (t := 80) rfl).keep hF (t := 3) rfl).keep hF (t := 2) rfl).keep hF (t := 1) rfl)
 refine wp_loop_r (σ := Nat) (fun k L_ => (81, vi k) :: L_) (fun k => (k ≤ s.config.keys.toNat) ∧ (((List.range s.config.keys.toNat).take k).all (fun k => isLink s.config (at0 s.cells (headCell s.config (k : Int)))) = true)) (fun k => s.config.keys.toNat - k) 0 hS (hL_.keepE hF (t := 81) rfl rfl) ?_ ?_
 · exact ⟨Nat.zero_le _, rfl⟩
 rintro k a w14 ⟨hk, hn⟩ hS hF; try dsimp only at hF; try dsimp only at hS
 refine rg hF rfl fun a hF => wp_seq_k fun K12 hK12 => cx 82 hF rfl (fun c82 hF => ?_) fun c82 hF => ?_
 ·
  have hd := headCell_eq hok (k := (k : Int)) (by omega) (by omega)
  have h1 : int64 (at0 s.cells (headCell s.config (k : Int))) := wcells _ (at0_mem (by omega) (by omega))
  refine wp_skip <| hK12 _ _ <| wp_seq_k fun K13 hK13 => wp_block <| rg hF rfl fun a hF => wp_seq_k fun K15 hK15 => wp_region_calm (by kernel_rfl) (by kernel_rfl) ?_
  refine qb 2 0 hF tk hS rfl rfl rfl fun a hF => qb 1 1 hF tk hS rfl rfl rfl fun a hF => qb 2 0 hF tk hS rfl rfl rfl fun a hF => qk hF rfl (fun w_ hB_ => implHeadCell_c _ _) fun a hF => ?_
  obtain ⟨g90, o90, m90, q90, hv90, hm90, hl90, hc90⟩ := Rd.atF (r0) (a := a) (X := .tmp 89) (hF.ev rfl) (by omega) (by omega)
  refine wq hF rfl rfl rfl (fun w_ hB_ => r_index sl26 ((hF.ev rfl).trans hv90) (hF.ev rfl) (by omega) (by first | omega | (simp at hm90; omega))) fun a hF => ?_
  refine wq hF rfl rfl rfl (fun w_ hB_ => r_load1 sc3 (hF.ev rfl) (cellB (hS.ext hB_).old (hc90 0 _ rfl))) fun a hF => qk hF rfl (fun w_ hB_ => isLink_c h1) fun a hF => qa 1 hF tk rfl fun a hF => ?_
  refine wpQuiet_nil ?_; intro w15 hB_; have hS := hS.ext hB_
  refine hK15 _ _ <| cx 93 hF rfl (fun c93 hF => ?_) fun c93 hF => ?_
  ·
   refine rg hF rfl fun a hF => ?_
   refine xr ?_
   refine ret1 rfl hF rfl ⟨congrArg Value.bool (Eq.symm ?_), hS.old⟩
   first
     | exact st_heads (range_no (by omega) c93)
     | exact st_shape fun h => by
         unfold shapeOk at h
         rcases c34 with ((c | c) | c) | c
         · exact c h.1
         · exact c h.2.1
         · exact c h.2.2.1
         · exact c h.2.2.2
     | (rcases c130 with (c | c) | c
        · exact st_gens (range_no (by omega) (decide_eq_false c))
        · exact st_nodes (range_no (k := k) (by omega) (Bool.and_eq_false_iff.2 (.inr (decide_eq_false c))))
        · exact st_nodes (range_no (k := k) (by omega) (Bool.and_eq_false_iff.2 (.inl (isLink_unmarked ▸ c)))))
     | (rw [st_yes ⟨hok, hl1, hl2, hl3⟩ (all_done hg (by rw [List.length_range]; omega)) (all_done hn (by rw [List.length_range]; omega)) (all_done hv (by rw [List.length_range]; omega)), any_not, Bool.not_not, decide_eq_true (show countsOk s from by unfold countsOk; omega), Bool.and_true])
     | exact st_counts fun h => by unfold countsOk at h; omega
  refine wp_skip ?_
  refine xt ?_
  refine hK13 _ _ <| rl hF rfl fun a hF => ?_
  refine xt ?_
  refine ⟨k + 1, ⟨by omega, all_nxt hn (range_at (by omega)) c93⟩, hS, (((((hF.nil.keep hF (t := 80) rfl).keep hF (t := 3) rfl).keep hF (t := 2) rfl).keep hF (t := 1) rfl).keepE hF (t := 81) rfl (wk (by omega))), by omega⟩
 refine wp_exit ?_
 refine xt ?_
 refine hK9 _ _ <| wp_seq_k fun K17 hK17 => rh 0 hF hS rfl rfl rfl fun a hF => wp_block ?_
 have hL_ := ((((hF.nil.keep hF (t := 96) rfl).keep hF (t := 3) rfl).keep hF (t := 2) rfl).keep hF (t := 1) rfl)
 refine wp_loop_r (σ := Nat) (fun k L_ => (97, vi k) :: L_) (fun k => (k ≤ s.config.capacity.toNat) ∧ (((List.range s.config.capacity.toNat).take k).all (fun k => decide (0 ≤ at0 s.generations (k : Int) ∧ at0 s.generations (k : Int) ≤ 9998)) = true) ∧ (((List.range s.config.capacity.toNat).take k).all (fun k => zeroOk s.config (at0 s.cells (nodeCell s.config (k : Int) 2)) && decide (0 ≤ at0 s.cells (nodeCell s.config (k : Int) 0) ∧ at0 s.cells (nodeCell s.config (k : Int) 0) ≤ 99)) = true)) (fun k => s.config.capacity.toNat - k) 0 hS (hL_.keepE hF (t := 97) rfl rfl) ?_ ?_
 · exact ⟨Nat.zero_le _, rfl, rfl⟩
 rintro k a w16 ⟨hk, hg, hv⟩ hS hF; try dsimp only at hF; try dsimp only at hS
 refine rg hF rfl fun a hF => wp_seq_k fun K20 hK20 => cx 98 hF rfl (fun c98 hF => ?_) fun c98 hF => ?_
 ·
  have hn0 := nodeCell_eq hok (i := (k : Int)) (f := 0) (by omega) (by omega) (by omega) (by omega)
  have hn2 := nodeCell_eq hok (i := (k : Int)) (f := 2) (by omega) (by omega) (by omega) (by omega)
  have h1 : int64 (at0 s.cells (nodeCell s.config (k : Int) 2)) := wcells _ (at0_mem (by omega) (by omega))
  refine wp_skip <| hK20 _ _ <| wp_seq_k fun K21 hK21 => wp_block <| rg hF rfl fun a hF => wp_seq_k fun K23 hK23 => wp_region_calm (by kernel_rfl) (by kernel_rfl) ?_
  refine qb 3 1 hF tk hS rfl rfl rfl fun a hF => ?_
  obtain ⟨g103, o103, m103, q103, hv103, hm103, hl103, hc103⟩ := Rd.atF (r1) (a := a) (X := .tmp 102) (hF.ev rfl) (by omega) (by omega)
  refine wq hF rfl rfl rfl (fun w_ hB_ => r_index sl26 ((hF.ev rfl).trans hv103) (hF.ev rfl) (by omega) (by first | omega | (simp at hm103; omega))) fun a hF => ?_
  refine wq hF rfl rfl rfl (fun w_ hB_ => r_load1 sc3 (hF.ev rfl) (cellB (hS.ext hB_).old (hc103 0 _ rfl))) fun a hF => qk hF rfl (fun w_ hB_ => in_c _ _ _) fun a hF => qa 2 hF tk rfl fun a hF => ?_
  apply wq_or (A := [_, _, _, _, _, _, _, _, _, _]) (pk := 117) hF (tc := 107) rfl
  ·
   intro hg107 a hF; try simp only [zb] at hg107
   refine qb 2 1 hF tk hS rfl rfl rfl fun a hF => wq_take hF rfl rfl rfl rfl <| qb 2 0 hF tk hS rfl rfl rfl fun a hF => qk hF rfl (fun w_ hB_ => implNodeCell_c _ _ _) fun a hF => wq_take hF rfl rfl rfl rfl ?_
   obtain ⟨g113, o113, m113, q113, hv113, hm113, hl113, hc113⟩ := Rd.atF (r0) (a := a) (X := .tmp 112) (hF.ev rfl) (by omega) (by omega)
   refine wq hF rfl rfl rfl (fun w_ hB_ => r_index sl26 ((hF.ev rfl).trans hv113) (hF.ev rfl) (by omega) (by first | omega | (simp at hm113; omega))) fun a hF => ?_
   refine wq_take hF rfl rfl rfl rfl <| wq hF rfl rfl rfl (fun w_ hB_ => r_load1 sc3 (hF.ev rfl) (cellB (hS.ext hB_).old (hc113 0 _ rfl))) fun a hF => qk hF rfl (fun w_ hB_ => in_c _ _ _) fun a hF => qa 2 hF tk rfl fun a hF => ?_
   exact wpQuiet_nil ((Fr.pre (A := [_, _, _, _, _, _, _, _, _, _]) hF rfl).keep hF (t := 117) rfl)
  ·
   intro hg107 a hF; try simp only [zb] at hg107
   refine qa 10 hF tk rfl fun a hF => ?_
   exact wpQuiet_nil ((Fr.pre (A := [_, _, _, _, _, _, _, _, _, _]) hF rfl).keep hF (t := 117) rfl)
  intro a hF
  refine qa 1 hF tk rfl fun a hF => ?_
  apply wq_or (A := [_, _, _, _, _, _, _, _, _, _, _, _]) (pk := 130) hF (tc := 118) rfl
  ·
   intro hg118 a hF; try simp only [zb] at hg118
   refine qb 2 0 hF tk hS rfl rfl rfl fun a hF => wq_take hF rfl rfl rfl rfl <| qb 1 1 hF tk hS rfl rfl rfl fun a hF => wq_take hF rfl rfl rfl rfl <| qb 2 0 hF tk hS rfl rfl rfl fun a hF => qk hF rfl (fun w_ hB_ => implNodeCell_c _ _ _) fun a hF => wq_take hF rfl rfl rfl rfl ?_
   obtain ⟨g125, o125, m125, q125, hv125, hm125, hl125, hc125⟩ := Rd.atF (r0) (a := a) (X := .tmp 124) (hF.ev rfl) (by omega) (by omega)
   refine wq hF rfl rfl rfl (fun w_ hB_ => r_index sl26 ((hF.ev rfl).trans hv125) (hF.ev rfl) (by omega) (by first | omega | (simp at hm125; omega))) fun a hF => ?_
   refine wq_take hF rfl rfl rfl rfl <| wq hF rfl rfl rfl (fun w_ hB_ => r_load1 sc3 (hF.ev rfl) (cellB (hS.ext hB_).old (hc125 0 _ rfl))) fun a hF => qk hF rfl (fun w_ hB_ => implUnmarked_c h1) fun a hF => qk hF rfl (fun w_ hB_ => isLink_c (int64_unmarked h1)) fun a hF => qa 2 hF tk rfl fun a hF => ?_
   exact wpQuiet_nil ((Fr.pre (A := [_, _, _, _, _, _, _, _, _, _, _, _]) hF rfl).keep hF (t := 130) rfl)
  ·
   intro hg118 a hF; try simp only [zb] at hg118
   refine qa 12 hF tk rfl fun a hF => ?_
   exact wpQuiet_nil ((Fr.pre (A := [_, _, _, _, _, _, _, _, _, _, _, _]) hF rfl).keep hF (t := 130) rfl)
  intro a hF
  refine wpQuiet_nil ?_; intro w19 hB_; have hS := hS.ext hB_
  refine hK23 _ _ <| cx 130 hF rfl (fun c130 hF => ?_) fun c130 hF => ?_
  ·
   refine rg hF rfl fun a hF => ?_
   refine xr ?_
   refine ret1 rfl hF rfl ⟨congrArg Value.bool (Eq.symm ?_), hS.old⟩
   first
     | exact st_heads (range_no (by omega) c93)
     | exact st_shape fun h => by
         unfold shapeOk at h
         rcases c34 with ((c | c) | c) | c
         · exact c h.1
         · exact c h.2.1
         · exact c h.2.2.1
         · exact c h.2.2.2
     | (rcases c130 with (c | c) | c
        · exact st_gens (range_no (by omega) (decide_eq_false c))
        · exact st_nodes (range_no (k := k) (by omega) (Bool.and_eq_false_iff.2 (.inr (decide_eq_false c))))
        · exact st_nodes (range_no (k := k) (by omega) (Bool.and_eq_false_iff.2 (.inl (isLink_unmarked ▸ c)))))
     | (rw [st_yes ⟨hok, hl1, hl2, hl3⟩ (all_done hg (by rw [List.length_range]; omega)) (all_done hn (by rw [List.length_range]; omega)) (all_done hv (by rw [List.length_range]; omega)), any_not, Bool.not_not, decide_eq_true (show countsOk s from by unfold countsOk; omega), Bool.and_true])
     | exact st_counts fun h => by unfold countsOk at h; omega
  refine wp_skip ?_
  refine xt ?_
  refine hK21 _ _ <| rl hF rfl fun a hF => ?_
  refine xt ?_
  refine ⟨k + 1, ⟨by omega, all_nxt hg (range_at (by omega)) (decide_eq_true c130.1.1), all_nxt hv (range_at (by omega)) (by rw [← isLink_unmarked, c130.2, decide_eq_true c130.1.2]; rfl)⟩, hS, (((((hF.nil.keep hF (t := 96) rfl).keep hF (t := 3) rfl).keep hF (t := 2) rfl).keep hF (t := 1) rfl).keepE hF (t := 97) rfl (wk (by omega))), by omega⟩
 refine wp_exit ?_
 refine xt ?_
 refine hK17 _ _ <| ws fun K25 hK25 => gb 2 1 hF hS rfl rfl rfl fun a hF => ?_
 refine wl hF rfl rfl rfl (r_makeFunc (by simp only [List.map_toArray, List.map_cons, List.map_nil]; rw [hF.ev rfl])) fun a hF => ?_
 refine ckr hF hS rfl (containsFuncT_c (p := fun t => !threadOk s.config t) (cap := #[.pointer (some ⟨g2, 0, none⟩)]) (hS.rd r2) (by kernel_rfl) (fun w_ cs x hx hB hk => by rw [app_1]; exact isState1_c hk (wthr x hx) hok (fun j u hu => cellB hB (hS.box_rd (i := 0) rfl j u hu)))) fun w20 a hS hF => ?_
 refine ge hK25 hF rfl fun a hF => ?_
 refine xr ?_
 refine ret1 rfl hF rfl ⟨congrArg Value.bool (Eq.symm ?_), hS.old⟩
 first
   | exact st_heads (range_no (by omega) c93)
   | exact st_shape fun h => by
       unfold shapeOk at h
       rcases c34 with ((c | c) | c) | c
       · exact c h.1
       · exact c h.2.1
       · exact c h.2.2.1
       · exact c h.2.2.2
   | (rcases c130 with (c | c) | c
      · exact st_gens (range_no (by omega) (decide_eq_false c))
      · exact st_nodes (range_no (k := k) (by omega) (Bool.and_eq_false_iff.2 (.inr (decide_eq_false c))))
      · exact st_nodes (range_no (k := k) (by omega) (Bool.and_eq_false_iff.2 (.inl (isLink_unmarked ▸ c)))))
   | (rw [st_yes ⟨hok, hl1, hl2, hl3⟩ (all_done hg (by rw [List.length_range]; omega)) (all_done hn (by rw [List.length_range]; omega)) (all_done hv (by rw [List.length_range]; omega)), any_not, Bool.not_not, decide_eq_true (show countsOk s from by unfold countsOk; omega), Bool.and_true])
   | exact st_counts fun h => by unfold countsOk at h; omega
end Go.Proofs.YtgofolgogfmhgaaGreat.Wk
