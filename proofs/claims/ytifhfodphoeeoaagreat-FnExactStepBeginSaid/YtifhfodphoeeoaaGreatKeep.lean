/- Regions that draw their order and hold calls that change some parts in the middle: what the other operations read stands in all worlds that may be met (parts 'lf x r', x open). No allocations. No program in sight. -/
import Derived.Test.YtifhfodphoeeoaaGreatLend
namespace Go.Proofs.YtifhfodphoeeoaaGreat.Sl
open Go Go.RowKit
set_option linter.unusedVariables false
set_option linter.unusedSimpArgs false

def _root_.Go.Proofs.YtifhfodphoeeoaaGreat.Sl.State.encf (s : State) (v0 v1 v2 : Value) (f : Int) : List Value := [vi s.config.threads, vi s.config.keys, vi s.config.capacity, vi s.config.batch, vi s.config.policy, vi s.config.clockMax, v0, v1, v2, vi s.steps, vi s.changes, vi s.retries, vi f]
def _root_.Go.Proofs.YtifhfodphoeeoaaGreat.Sl.State.encg (s : State) (v0 v1 v2 : Value) (c f : Int) : List Value := [vi s.config.threads, vi s.config.keys, vi s.config.capacity, vi s.config.batch, vi s.config.policy, vi s.config.clockMax, v0, v1, v2, vi s.steps, vi c, vi s.retries, vi f]
abbrev JX {X : Type} (W : World) (lf : X → List Res → List Res) (r : List Res) (w : World) : Prop := ∃ x, Sep W (lf x r) w
def TJ (P : Program) (ops : Array Oper) (Q : Exit → Act → World → Prop) (J : World → Prop) (muts is : List Nat) (a : Act) (w : World) : Prop :=
  ∀ listed : Array Bool, listed.size = ops.size → (∀ j, j < ops.size → listed.getD j false = (!is.contains j && !([] : List Nat).contains j)) → wpM P ops (QN Q) J muts is.length listed a w
section
variable {P : Program} {ops : Array Oper} {Q : Exit → Act → World → Prop} {X : Type} {lf : X → List Res → List Res} {r l : List Res} {W : World} {muts : List Nat} {n : Nat} {L : List (Nat × Value)}
theorem tj_load (Xs : List Nat) {i : Nat} {is : List Nat} {o : Oper} {d : Nat} {v : Value} (hk : loadB ops [] muts Xs i is = true) (ho : ops[i]? = some o) (hg : GW ops n L o) (hd : o.dst = some d) (hdn : Nat.ble (d + 1) n = true)
    (hy : ∀ a w' x, Fr n L a → Sep W (lf x r) w' → (execOp a.eval o).run P w' = .ok (.value v) w')
    (k : ∀ a w, Fr n ((d, v) :: L) a → Sep W l w → JX W lf r w → TJ P ops Q (JX W lf r) muts is a w) :
    ∀ a w, Fr n L a → Sep W l w → JX W lf r w → TJ P ops Q (JX W lf r) muts (i :: is) a w := by
  intro a w hF hS hJ listed hsz hls
  simp only [loadB, pureB, ho, Bool.and_eq_true, decide_eq_true_eq, Bool.not_eq_true', List.all_eq_true, bne_iff_ne] at hk
  obtain ⟨⟨⟨⟨⟨⟨⟨⟨⟨k1, k2⟩, k3⟩, k4⟩, k5⟩, k6⟩, k8⟩, x1⟩, x2⟩, x3⟩ := hk
  have hi0 : listed.getD i true = false := by rw [getD_tf (by omega), hls i k1]; simp
  have hrdy : i ∈ Region.ready .any ops listed := by
    refine depsB_yes k5 hi0 (fun k hk => ?_)
    simp only [Bool.and_eq_true, decide_eq_true_eq, bne_iff_ne, Bool.not_eq_true', List.all_eq_true] at hk
    obtain ⟨⟨⟨q1, q2⟩, q3⟩, q4⟩ := hk
    rw [hls k q1]
    have h1 : (i :: is).contains k = false := by rw [List.contains_cons, q3]; simp [q2]
    rw [h1]; rfl
  refine wpM_firstX (X := Xs) ho (by simpa using x1) (fun m hm => List.contains_iff_mem.1 (x2 m hm)) (Region.noSelect_spec k4) (fun c a w h => by cases h.1) (fun m hm om hom => ?_) _ listed a w ?_ hrdy (.inl ⟨hg a hF, fun w ⟨x, hw⟩ => hy a w x hF hw⟩) hJ ?_ ?_
  · have := (x3 m hm).2
    unfold waitsB at this
    rw [hom] at this
    obtain ⟨e, he, h2⟩ := Array.any_eq_true'.1 this
    simp only [Bool.and_eq_true, Bool.or_eq_true, beq_iff_eq] at h2
    exact ⟨e, he, h2.1, h2.2.imp id List.contains_iff_mem.1⟩
  · intro j oj hj hne hun hno
    have hlt := (Array.getElem?_eq_some_iff.1 hj).1
    rw [getD_tf (by omega), hls j hlt] at hun
    have hmem : j ∈ is ++ ([] : Alcs).map (·.1) := by
      rw [List.mem_append]
      left
      simp [List.contains_cons, hne] at hun; exact hun
    have := k8 j hmem
    simp only [hj, Bool.or_eq_true] at this
    rcases this with h | h
    · unfold waitsB at h
      rw [hj] at h
      obtain ⟨e, he, h2⟩ := Array.any_eq_true'.1 h
      simp only [Bool.and_eq_true, beq_iff_eq] at h2
      exact (hno e he h2.1 h2.2).elim
    · exact h
  · unfold phB
    rw [List.all_eq_true]
    intro m hm
    have hm' := (x3 m hm).1
    rcases Nat.lt_or_ge m ops.size with hlt | hge
    · rw [hls m hlt]
      have : (i :: is).contains m = true := by rw [List.contains_cons, hm']; simp
      rw [this]; rfl
    · simp [Array.getD, hsz, Nat.not_lt.2 hge]
  · have := k (a.put (some d) v) w (hF.put hdn v) hS hJ (listed.setIfInBounds i true) (by simp [hsz]) (listed_set k1 hsz k2 (by simp) hls)
    rw [hd]
    exact this
theorem tj_pureY {i : Nat} {is : List Nat} {o : Oper} {d : Nat} {v : Value} (hk : pureB ops [] muts i is = true) (ho : ops[i]? = some o) (hd : o.dst = some d) (hdn : Nat.ble (d + 1) n = true)
    (hy : ∀ a, Fr n L a → YieldsIf P ops (fun _ => True) o v a)
    (k : ∀ a w, Fr n ((d, v) :: L) a → Sep W l w → JX W lf r w → TJ P ops Q (JX W lf r) muts is a w) :
    ∀ a w, Fr n L a → Sep W l w → JX W lf r w → TJ P ops Q (JX W lf r) muts (i :: is) a w := by
  intro a w hF hS hJ listed hsz hls
  simp only [pureB, ho, Bool.and_eq_true, decide_eq_true_eq, Bool.not_eq_true', List.all_eq_true, bne_iff_ne] at hk
  obtain ⟨⟨⟨⟨⟨⟨k1, k2⟩, k3⟩, k4⟩, k5⟩, k6⟩, k8⟩ := hk
  have hi0 : listed.getD i true = false := by rw [getD_tf (by omega), hls i k1]; simp
  have hrdy : i ∈ Region.ready .any ops listed := by
    refine depsB_yes k5 hi0 (fun k hk => ?_)
    simp only [Bool.and_eq_true, decide_eq_true_eq, bne_iff_ne, Bool.not_eq_true', List.all_eq_true] at hk
    obtain ⟨⟨⟨q1, q2⟩, q3⟩, q4⟩ := hk
    rw [hls k q1]
    have h1 : (i :: is).contains k = false := by rw [List.contains_cons, q3]; simp [q2]
    rw [h1]; rfl
  refine wpM_firstP ho (by simpa using k6) (Region.noSelect_spec k4) (fun c a w h => by cases h.1) _ listed a w ?_ hrdy (hy a hF) (fun _ => hJ) ?_
  · intro j oj hj hne hun hno
    have hlt := (Array.getElem?_eq_some_iff.1 hj).1
    rw [getD_tf (by omega), hls j hlt] at hun
    have hmem : j ∈ is ++ ([] : Alcs).map (·.1) := by
      rw [List.mem_append]
      left
      simp [List.contains_cons, hne] at hun; exact hun
    have := k8 j hmem
    simp only [hj, Bool.or_eq_true] at this
    rcases this with h | h
    · unfold waitsB at h
      rw [hj] at h
      obtain ⟨e, he, h2⟩ := Array.any_eq_true'.1 h
      simp only [Bool.and_eq_true, beq_iff_eq] at h2
      exact (hno e he h2.1 h2.2).elim
    · exact h
  · have := k (a.put (some d) v) w (hF.put hdn v) hS hJ (listed.setIfInBounds i true) (by simp [hsz]) (listed_set k1 hsz k2 (by simp) hls)
    rw [hd]
    exact this
theorem tj_pure {i : Nat} {is : List Nat} {o : Oper} {d : Nat} {v : Value} (hk : pureB ops [] muts i is = true) (ho : ops[i]? = some o) (hg : GW ops n L o) (hd : o.dst = some d) (hdn : Nat.ble (d + 1) n = true)
    (hy : ∀ a w', Fr n L a → (execOp a.eval o).run P w' = .ok (.value v) w')
    (k : ∀ a w, Fr n ((d, v) :: L) a → Sep W l w → JX W lf r w → TJ P ops Q (JX W lf r) muts is a w) :
    ∀ a w, Fr n L a → Sep W l w → JX W lf r w → TJ P ops Q (JX W lf r) muts (i :: is) a w :=
  tj_pureY hk ho hd hdn (fun a hF => .inl ⟨hg a hF, fun w _ => hy a w hF⟩) k
/-- the next in order -/
theorem tj_step {i : Nat} {is : List Nat} (hk : stepB ops [] i is = true)
    (hop : ∀ a w, Fr n L a → Sep W l w → JX W lf r w → wpOp P ops (QN Q) i (fun a' w' => JX W lf r w' ∧ TJ P ops Q (JX W lf r) muts is a' w') a w) :
    ∀ a w, Fr n L a → Sep W l w → JX W lf r w → TJ P ops Q (JX W lf r) muts (i :: is) a w := by
  simp only [stepB, Bool.and_eq_true, decide_eq_true_eq, Bool.not_eq_true', List.all_eq_true, bne_iff_ne] at hk
  obtain ⟨⟨⟨⟨k1, k2⟩, k3⟩, k4⟩, k5⟩ := hk
  intro a w hF hS hJ listed hsz hls
  have hmem : ∀ j ∈ Region.ready .any ops listed, j = i := fun j hj => by
    have h0 := (mem_ready.1 hj).1
    obtain ⟨o, ho, _⟩ := (mem_ready.1 hj).2
    have hlt := (Array.getElem?_eq_some_iff.1 ho).1
    rw [getD_tf (by omega), hls j hlt] at h0
    by_cases e : j = i
    · exact e
    · have hm : j ∈ is := by
        simp [List.contains_cons, e] at h0; exact h0
      refine (waitsB_no (k4 j hm) (fun k hk => ?_) hj).elim
      rcases Nat.lt_or_ge k ops.size with hlt | hge
      · rw [hls k hlt]
        have : (i :: is).contains k = true := by simpa [List.contains_cons] using hk
        rw [this]; rfl
      · simp [Array.getD, hsz, Nat.not_lt.2 hge]
  have hrdy : i ∈ Region.ready .any ops listed := by
    refine depsB_yes k5 ?_ (fun k hk => ?_)
    · rw [getD_tf (by omega), hls i k1]; simp
    · simp only [Bool.and_eq_true, decide_eq_true_eq, bne_iff_ne, Bool.not_eq_true'] at hk
      rw [hls k hk.1.1]
      have : (i :: is).contains k = false := by rw [List.contains_cons, hk.2]; simp [hk.1.2]
      rw [this]; rfl
  refine ⟨fun h => (by rw [h] at hrdy; cases hrdy), fun j hj => ?_⟩
  obtain rfl := hmem j hj
  exact wpOp_mono (fun a' w' h => ⟨fun _ => h.1, h.2 (listed.setIfInBounds j true) (by simp [hsz]) (listed_set k1 hsz k2 (by simp) hls)⟩) (hop a w hF hS hJ)
/-- a call that changes parts, the others' reads stand -/
theorem tj_mc {Γ : Type} {i : Nat} {is : List Nat} {o : Oper} {d : Nat} {f : FuncId} {args : Array Value} {val : Γ → Value} {l2 : Γ → List Res} (hk : stepB ops [] i is = true) (ho : ops[i]? = some o) (hg : GW ops n L o) (hd : o.dst = some d) (hdn : Nat.ble (d + 1) n = true)
    (hr : ∀ a w, Fr n L a → (execOp a.eval o).run P w = .ok (.enter f args) w) (hc : ∀ w, Sep W l w → Calls P f args w (Ret fun v w' => ∃ γ, v = val γ ∧ Sep W (l2 γ) w'))
    (hx : ∀ γ w', Sep W (l2 γ) w' → JX W lf r w')
    (k : ∀ γ a w, Fr n ((d, val γ) :: L) a → Sep W (l2 γ) w → JX W lf r w → TJ P ops Q (JX W lf r) muts is a w) :
    ∀ a w, Fr n L a → Sep W l w → JX W lf r w → TJ P ops Q (JX W lf r) muts (i :: is) a w := by
  refine tj_step hk (fun a w hF hS hJ => wpOp_ofW ho (hg a hF) ?_)
  unfold Oper.wp
  rw [hr a w hF, Oper.upon_enter]
  refine (hc w hS).mono ?_
  rintro e w1 ⟨v, rfl, γ, rfl, hS⟩
  show _ ∧ _
  rw [hd]
  exact ⟨hx γ w1 hS, k γ _ _ (hF.put hdn _) hS (hx γ w1 hS)⟩
/-- a call that reads -/
theorem tj_rd {i : Nat} {is : List Nat} {o : Oper} {d : Nat} {f : FuncId} {args : Array Value} {v : Value} (hk : stepB ops [] i is = true) (ho : ops[i]? = some o) (hg : GW ops n L o) (hd : o.dst = some d) (hdn : Nat.ble (d + 1) n = true)
    (hr : ∀ a w, Fr n L a → (execOp a.eval o).run P w = .ok (.enter f args) w) (hc : ∀ w, Sep W l w → Calls P f args w (Ret fun u w' => u = v ∧ Below w.heap.size w w'))
    (k : ∀ a w, Fr n ((d, v) :: L) a → Sep W l w → JX W lf r w → TJ P ops Q (JX W lf r) muts is a w) :
    ∀ a w, Fr n L a → Sep W l w → JX W lf r w → TJ P ops Q (JX W lf r) muts (i :: is) a w := by
  refine tj_step hk (fun a w hF hS hJ => wpOp_ofW ho (hg a hF) ?_)
  unfold Oper.wp
  rw [hr a w hF, Oper.upon_enter]
  refine (hc w hS).mono ?_
  rintro e w1 ⟨u, rfl, rfl, hb⟩
  show _ ∧ _
  rw [hd]
  obtain ⟨x, hx⟩ := hJ
  exact ⟨⟨x, hx.ext hb⟩, k _ _ (hF.put hdn _) (hS.ext hb) ⟨x, hx.ext hb⟩⟩
theorem wpM_seqJ {S : World → Prop} : ∀ (ts : List Nat) (tl : List Oper) (listed : Array Bool) (a : Act) (w : World), tailB ops ts = true → (∀ m ∈ ts, m ∈ muts) → ts.map (fun i => ops[i]?) = tl.map some → listed.size = ops.size →
    (∀ j, j < ops.size → listed.getD j false = !ts.contains j) → wpList P ops (QN Q) tl a w → wpM P ops (QN Q) S muts ts.length listed a w
  | [], tl, listed, a, w, _, _, hts, hsz, hls, h => by
    obtain rfl : tl = [] := by cases tl <;> simp_all
    refine ⟨?_, h⟩
    apply List.eq_nil_iff_forall_not_mem.2
    intro j hj
    obtain ⟨o, ho, _⟩ := (mem_ready.1 hj).2
    have hlt := (Array.getElem?_eq_some_iff.1 ho).1
    have h0 := (mem_ready.1 hj).1
    rw [getD_tf (by omega), hls j hlt] at h0
    simp at h0
  | i :: is, tl, listed, a, w, hB, hmu, hts, hsz, hls, h => by
    simp only [tailB, Bool.and_eq_true, decide_eq_true_eq, Bool.not_eq_true', List.all_eq_true] at hB
    obtain ⟨⟨⟨⟨k1, k2⟩, k4⟩, k5⟩, k6⟩ := hB
    match tl, hts with
    | [], hts => simp at hts
    | o :: tl, hts =>
      simp only [List.map_cons, List.cons.injEq] at hts
      have hrdy : i ∈ Region.ready .any ops listed := by
        refine depsB_yes k5 ?_ (fun k hk => ?_)
        · rw [getD_tf (by omega), hls i k1]; simp
        · simp only [Bool.and_eq_true, decide_eq_true_eq, bne_iff_ne, Bool.not_eq_true'] at hk
          rw [hls k hk.1.1]
          have : (i :: is).contains k = false := by rw [List.contains_cons, hk.2]; simp [hk.1.2]
          rw [this]; rfl
      refine ⟨fun h => (by rw [h] at hrdy; cases hrdy), fun j hj => ?_⟩
      have h0 := (mem_ready.1 hj).1
      obtain ⟨oj, hoj, _⟩ := (mem_ready.1 hj).2
      have hlt := (Array.getElem?_eq_some_iff.1 hoj).1
      rw [getD_tf (by omega), hls j hlt] at h0
      by_cases e : j = i
      · subst e
        have hl' : ∀ k, k < ops.size → (listed.setIfInBounds j true).getD k false = !is.contains k := fun k hk => by
          have := listed_set (rem := []) k1 hsz k2 (by simp) (fun k hk => by rw [hls k hk]; simp) k hk
          rw [this]; simp
        have hph : ¬ phB muts (listed.setIfInBounds j true) = true := by
          intro hp
          have := List.all_eq_true.1 hp j (hmu j (by simp))
          simp [Array.getD, hsz, k1] at this
        unfold wpOp
        rw [hts.1]
        simp only []
        unfold wpList at h
        split
        · rename_i hw
          rw [if_pos hw] at h
          exact h.imp (Oper.wp_mono (fun a w h => ⟨fun x => (hph x).elim, wpM_seqJ is tl _ a w k6 (fun m hm => hmu m (by simp [hm])) hts.2 (by simp [hsz]) hl' h⟩)) id
        · rename_i hw
          rw [if_neg hw] at h
          exact ⟨fun x => (hph x).elim, wpM_seqJ is tl _ _ w k6 (fun m hm => hmu m (by simp [hm])) hts.2 (by simp [hsz]) hl' h⟩
      · have hm : j ∈ is := by
          simp [List.contains_cons, e] at h0; exact h0
        refine (waitsB_no (k4 j hm) (fun k hk => ?_) hj).elim
        rcases Nat.lt_or_ge k ops.size with hlt | hge
        · rw [hls k hlt]
          have : (i :: is).contains k = true := by simpa [List.contains_cons] using hk
          rw [this]; rfl
        · simp [Array.getD, hsz, Nat.not_lt.2 hge]
theorem tj_fin {ts : List Nat} {tl : List Oper} (hk : tailB ops ts = true) (hts : ts.map (fun i => ops[i]?) = tl.map some)
    (k : ∀ a w, Fr n L a → Sep W l w → wpList P ops (QN Q) tl a w) :
    ∀ a w, Fr n L a → Sep W l w → JX W lf r w → TJ P ops Q (JX W lf r) ts ts a w :=
  fun a w hF hS hJ listed hsz hls => wpM_seqJ ts tl listed a w hk (fun m hm => hm) hts hsz (fun j hj => by rw [hls j hj]; simp) (k a w hF hS)
theorem wp_region_J {id : Nat} {lo : List Oper} {is : List Nat} {a : Act} {w : World} (lf : X → List Res → List Res) (r : List Res) (x : X) (muts : List Nat) (hm : P.follows .mixedOrders = true) (hF : Fr n L a) (hS : Sep W (lf x r) w)
    (hc : ((List.range lo.length).all (fun j => is.contains j) && is.length == lo.length) = true)
    (k : ∀ a w, Fr n L a → Sep W (lf x r) w → JX W lf r w → TJ P lo.toArray Q (JX W lf r) muts is a w) : (Code.region id lo.toArray true).wp P Q a w := by
  have hw : (Code.region id lo.toArray true).wp P (QN Q) a w := by
    refine wp_region_any hm (wpAny_of_M (S := JX W lf r) (muts := muts) _ _ _ _ ?_)
    simp only [Bool.and_eq_true, List.all_eq_true, List.mem_range, beq_iff_eq] at hc
    have := k a { w with drawn := w.drawn + 1 } hF hS.drawn ⟨x, hS.drawn⟩ (Array.replicate lo.toArray.size false) (by simp) (fun j hj => by
          have := hc.1 j (by simpa using hj)
          simp only [List.size_toArray] at hj
          rw [this]; simp [Array.getD, hj])
    rw [hc.2] at this
    simpa using this
  exact wp_mono hw (fun e a w ⟨h1, h2⟩ => by subst h1; exact h2)
end
end Go.Proofs.YtifhfodphoeeoaaGreat.Sl
