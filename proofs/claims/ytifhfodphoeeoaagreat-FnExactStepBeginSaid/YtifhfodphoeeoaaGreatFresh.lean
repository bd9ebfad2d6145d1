/- Rows that were made within a region that draws its order: what is appended to them leaves all else alone. No program in sight. -/
import Derived.Test.YtifhfodphoeeoaaGreatRun
namespace Go.Proofs.YtifhfodphoeeoaaGreat.Sl
open Go Go.RowKit
set_option linter.unusedVariables false
set_option linter.unusedSimpArgs false

/-- a part whose blocks all lie above b -/
def Above (b : Nat) (r : Res) : Res where
  P := fun S w => ∃ S', (∀ k, S' k → S k ∧ b ≤ k) ∧ r.P S' w
  loc := by
    rintro S w w' hk ⟨S', h1, h2⟩
    exact ⟨S', h1, r.loc (fun k h => hk k (h1 k h).1) h2⟩
  mono := by
    rintro S S1 w hs ⟨S', h1, h2⟩
    exact ⟨S', fun k h => ⟨hs k (h1 k h).1, (h1 k h).2⟩, h2⟩
section
variable {w0 w w' : World} {l : List Res} {r : Res} {i b : Nat}
theorem Sep.above_new (hb : b ≤ w.heap.size) (h : Sep w [r] w') : Sep w [Above b r] w' :=
  ⟨h.old, Sat.cons (S := fun _ => False) (S1 := fun k => w.heap.size ≤ k ∧ k < w'.heap.size) (Sat.nil _ _) ⟨_, fun k hk => ⟨hk, Nat.le_trans hb hk.1⟩, h.sat.get (i := 0) rfl⟩ (fun k hk => hk) (fun k hk => hk.elim) (fun k _ hk => hk)⟩
theorem Sep.above_rd {α : Type} {ek : EK α} {v : Value} {xs : List α} (h : Sep w0 l w) (hi : l[i]? = some (Above b (Own ek v xs))) : ek.Rd w v xs := by
  obtain ⟨S', _, h2⟩ := h.sat.get hi
  exact Sl.own_rd h2
theorem Sep.unabove (h : Sep w0 l w) (hi : l[i]? = some (Above b r)) : Sep w0 (l.set i r) w := by
  obtain ⟨f, f1, f2, f3⟩ := h.sat
  refine ⟨h.old, f, fun j q hj => ?_, f2, f3⟩
  by_cases e : j = i
  · subst e
    have hlt := (List.getElem?_eq_some_iff.1 hi).1
    rw [List.getElem?_set_self hlt] at hj
    obtain rfl := Option.some.inj hj
    obtain ⟨S', h1, h2⟩ := f1 j _ hi
    exact r.mono (fun k hk => (h1 k hk).1) h2
  · rw [List.getElem?_set_ne (Ne.symm e)] at hj
    exact f1 j q hj
end
section
variable {P : Program} {ops : Array Oper} {Q : Exit → Act → World → Prop} {wd W : World} {T : Alcs} {muts : List Nat} {n : Nat} {L : List (Nat × Value)} {l : List Res}
theorem append_above {α : Type} {sz b q b0 : Nat} {enc : α → List Value} {hl : ∀ x, (enc x).length = sz} {h1 : ∀ x u, u ∈ enc x → u.oneCell' = true} {T : TypeId} {zs : List Value} {xs ys : List α} {w0 w : World} {u v : Value} {ty : TypeId} (hS : Sep w0 l w)
    (hq : l[q]? = some (Above b0 (Own (flatEK sz enc hl h1) v xs))) (hb0 : b0 ≤ w.heap.size) (hu : (flatEK sz enc hl h1).Rd w u ys) (hm : mkB P T = some (zs, sz, b)) (hzl : zs.length = sz) (hb : (xs.length + ys.length) * b ≤ 140737488355328) (hn : xs.length + ys.length ≤ maxLen) :
    ∃ A c w', (Builtin.append_ #[T, T] ty #[v, u]).run P w = .ok (.slice A (xs.length + ys.length) c) w' ∧ Sep w0 (l.set q (Above b0 (Own (flatEK sz enc hl h1) (.slice A (xs.length + ys.length) c) (xs ++ ys)))) w' ∧ Below b0 w w' := by
  obtain ⟨e, i, z, he, hi, hz, hzs, hsz, hby⟩ := mkB_parts hm
  obtain ⟨f, g1, g2, g3⟩ := hS.sat
  have hys : 0 < ys.length → ∃ g o m c, u = .slice (some ⟨g, o, none⟩) m c := fun hp => by
    obtain ⟨g, o, m, c, hv, _⟩ := Rd.idxF hu (i := 0) (List.getElem?_eq_getElem hp)
    exact ⟨g, o, m, c, hv⟩
  obtain ⟨S', s1, s2⟩ := g1 q _ hq
  obtain ⟨A, c, w', hrun, e1, e2, e3, e4, hown, hk⟩ := run_append_any (P := P) (ty := ty) he hi hz (by rw [← hzl, ← hzs]; simp) hsz hby s2 hu hys hb hn
  refine ⟨A, c, w', hrun, ⟨?_, ?_⟩, ⟨e1, e2, e3, e4, fun k hk' => hk k (Nat.lt_of_lt_of_le hk' hb0) (fun hf => ?_)⟩⟩
  · refine hS.old.trans ⟨e1, e2, e3, e4, fun k hk' => hk k (Nat.lt_of_lt_of_le hk' hS.old.size) (fun hf => ?_)⟩
    have := (g2 q k (s1 k hf).1).1
    omega
  · refine Sat.mono (Sat.upd' ⟨f, g1, g2, g3⟩ (N := fun k => w.heap.size ≤ k ∧ k < w'.heap.size) (r' := Above b0 (Own (flatEK sz enc hl h1) (.slice A (xs.length + ys.length) c) (xs ++ ys))) hq (fun k h1 h2 => by omega)
      ⟨_, fun k hk => hk.elim (fun h => ⟨.inl (s1 k h).1, (s1 k h).2⟩) (fun h => ⟨.inr h, Nat.le_trans hb0 h.1⟩), hown⟩ (fun k hk1 hk2 => hk k hk1.2 (fun h => hk2 (s1 k h).1)) g1 g2 g3) (fun k hk => ?_)
    rcases hk with hk | hk
    · exact ⟨hk.1, Nat.lt_of_lt_of_le hk.2 e4⟩
    · exact ⟨Nat.le_trans hS.old.size hk.1, hk.2⟩
  · have := (s1 k hf).2
    omega
theorem opF_core {Γ : Type} {i : Nat} {is : List Nat} {o : Oper} {d : Nat} {val : Γ → Value} {r : Γ → Res} (ho : ops[i]? = some o) (hg : GW ops n L o) (hd : o.dst = some d) (hdn : Nat.ble (d + 1) n = true) (hT : T.all (fun t => t.2.1 != d) = true)
    (hr : ∀ a w, Fr n L a → Sep W l w → ∃ γ w', (execOp a.eval o).run P w = .ok (.value (val γ)) w' ∧ Sep w [r γ] w')
    (k : ∀ γ rem a w, Rem T rem → Fr n ((d, val γ) :: L) a → At T wd W (Above wd.heap.size (r γ) :: l) rem a w → Todo P ops Q wd muts rem is a w) :
    ∀ rem a w, Rem T rem → Fr n L a → At T wd W l rem a w → wpOp P ops (QN Q) i (fun a' w' => Below wd.heap.size wd w' ∧ Todo P ops Q wd muts rem is a' w') a w := by
  intro rem a w hR hF hA
  refine wpOp_ofW ho (hg a hF) ?_
  obtain ⟨γ, w1, hrun, hS⟩ := hr a w hF hA.sep
  unfold Oper.wp
  rw [hrun, Oper.upon_value, hd]
  exact ⟨hA.s.trans (hS.old.mono hA.s.size), k γ rem _ _ hR (hF.put hdn _) ((hA.made (hS.above_new hA.s.size)).put (fun t ht => by simpa using List.all_eq_true.1 hT t ht))⟩
theorem todo_opF {Γ : Type} {i : Nat} {is : List Nat} {o : Oper} {d : Nat} {val : Γ → Value} {r : Γ → Res} (hl : Lay P ops T n) (hL : T.all (fun t => (lk L t.2.1).isNone) = true) (hk : stepB ops T i is = true) (ho : ops[i]? = some o) (hg : GW ops n L o) (hd : o.dst = some d) (hdn : Nat.ble (d + 1) n = true) (hT : T.all (fun t => t.2.1 != d) = true)
    (hr : ∀ a w, Fr n L a → Sep W l w → ∃ γ w', (execOp a.eval o).run P w = .ok (.value (val γ)) w' ∧ Sep w [r γ] w')
    (k : ∀ γ rem a w, Rem T rem → Fr n ((d, val γ) :: L) a → At T wd W (Above wd.heap.size (r γ) :: l) rem a w → Todo P ops Q wd muts rem is a w) :
    ∀ rem a w, Rem T rem → Fr n L a → At T wd W l rem a w → Todo P ops Q wd muts rem (i :: is) a w :=
  todo_step hl (fun t ht => by simpa using List.all_eq_true.1 hL t ht) hk (opF_core ho hg hd hdn hT hr k)
theorem op_opF {Γ : Type} {i : Nat} {is : List Nat} {o : Oper} {d : Nat} {val : Γ → Value} {r : Γ → Res} (hL : T.all (fun t => (lk L t.2.1).isNone) = true) (ho : ops[i]? = some o) (hg : GW ops n L o) (hd : o.dst = some d) (hdn : Nat.ble (d + 1) n = true) (hT : T.all (fun t => t.2.1 != d) = true)
    (hr : ∀ a w, Fr n L a → Sep W l w → ∃ γ w', (execOp a.eval o).run P w = .ok (.value (val γ)) w' ∧ Sep w [r γ] w')
    (k : ∀ γ rem a w, Rem T rem → Fr n ((d, val γ) :: L) a → At T wd W (Above wd.heap.size (r γ) :: l) rem a w → Todo P ops Q wd muts rem is a w) :
    ∀ rem a w, Rem T rem → Fr n L a → At T wd W l rem a w → wpOp P ops (QN Q) i (fun a' w' => (Below wd.heap.size wd w' ∧ Todo P ops Q wd muts rem is a' w') ∨ (muts.contains i = true ∧ ∃ m', Todo P ops Q w' m' rem is a' w')) a w :=
  fun rem a w hR hF hA => wpOp_mono (fun _ _ h => .inl h) (opF_core ho hg hd hdn hT hr k rem a w hR hF hA)
theorem apF_core {α : Type} {sz b i j d : Nat} {enc : α → List Value} {hl : ∀ x, (enc x).length = sz} {h1 : ∀ x u, u ∈ enc x → u.oneCell' = true} {T' : TypeId} {X Y : Operand} {zs : List Value} {xs ys : List α} {u v : Value} {is : List Nat} {o : Oper} {ty : TypeId} {ps : String} {af : Array Edge}
    (ho : ops[i]? = some o) (hoe : o = ⟨some d, .call ⟨.builtin .append, #[X, Y], #[T', T']⟩, ty, ps, af, none⟩) (hdn : Nat.ble (d + 1) n = true) (hT : T.all (fun t => t.2.1 != d) = true) (hi : l[j]? = some (Above wd.heap.size (Own (flatEK sz enc hl h1) v xs)))
    (hu : ∀ w, Sep W l w → (flatEK sz enc hl h1).Rd w u ys) (hmk : mkB P T' = some (zs, sz, b)) (hzl : zs.length = sz) (hX : ∀ a, Fr n L a → a.eval X = v) (hY : ∀ a, Fr n L a → a.eval Y = u) (hb : (xs.length + ys.length) * b ≤ 140737488355328) (hn : xs.length + ys.length ≤ maxLen)
    (k : ∀ A c rem a w, Rem T rem → Fr n ((d, .slice A (xs.length + ys.length) c) :: L) a → At T wd W (l.set j (Above wd.heap.size (Own (flatEK sz enc hl h1) (.slice A (xs.length + ys.length) c) (xs ++ ys)))) rem a w → Todo P ops Q wd muts rem is a w) :
    ∀ rem a w, Rem T rem → Fr n L a → At T wd W l rem a w → wpOp P ops (QN Q) i (fun a' w' => Below wd.heap.size wd w' ∧ Todo P ops Q wd muts rem is a' w') a w := by
  intro rem a w hR hF hA
  subst hoe
  refine wpOp_of ho rfl ?_
  obtain ⟨gs, hbx, hby⟩ := hA.box
  obtain ⟨A, c, w', hrun, hS', hbl⟩ := append_above (P := P) (q := j + 1) (ty := ty) hbx (by simpa using hi) hA.s.size (hu w hA.sep) hmk hzl hb hn
  have hr := r_append (D := some d) (gd := none) (ty := ty) (ps := ps) (af := af) (hX a hF) (hY a hF) hrun
  unfold Oper.wp
  rw [hr, Oper.upon_value]
  refine ⟨hA.s.trans hbl, k A c rem _ w' hR (hF.put hdn _) ⟨hA.s.trans hbl, gs, by simpa using hS', fun t ht hr => ?_⟩⟩
  obtain ⟨g, h1, h2⟩ := hby t ht hr
  have hne : t.2.1 ≠ d := by simpa using List.all_eq_true.1 hT t ht
  exact ⟨g, h1, by simpa [Act.put, Array.getElem?_setIfInBounds, Ne.symm hne] using h2⟩
theorem todo_apF {α : Type} {sz b i j d : Nat} {enc : α → List Value} {hl : ∀ x, (enc x).length = sz} {h1 : ∀ x u, u ∈ enc x → u.oneCell' = true} {T' : TypeId} {X Y : Operand} {zs : List Value} {xs ys : List α} {u v : Value} {is : List Nat} {o : Oper} {ty : TypeId} {ps : String} {af : Array Edge}
    (hly : Lay P ops T n) (hL : T.all (fun t => (lk L t.2.1).isNone) = true) (hk : stepB ops T i is = true) (ho : ops[i]? = some o) (hoe : o = ⟨some d, .call ⟨.builtin .append, #[X, Y], #[T', T']⟩, ty, ps, af, none⟩) (hdn : Nat.ble (d + 1) n = true) (hT : T.all (fun t => t.2.1 != d) = true) (hi : l[j]? = some (Above wd.heap.size (Own (flatEK sz enc hl h1) v xs)))
    (hu : ∀ w, Sep W l w → (flatEK sz enc hl h1).Rd w u ys) (hmk : mkB P T' = some (zs, sz, b)) (hzl : zs.length = sz) (hX : ∀ a, Fr n L a → a.eval X = v) (hY : ∀ a, Fr n L a → a.eval Y = u) (hb : (xs.length + ys.length) * b ≤ 140737488355328) (hn : xs.length + ys.length ≤ maxLen)
    (k : ∀ A c rem a w, Rem T rem → Fr n ((d, .slice A (xs.length + ys.length) c) :: L) a → At T wd W (l.set j (Above wd.heap.size (Own (flatEK sz enc hl h1) (.slice A (xs.length + ys.length) c) (xs ++ ys)))) rem a w → Todo P ops Q wd muts rem is a w) :
    ∀ rem a w, Rem T rem → Fr n L a → At T wd W l rem a w → Todo P ops Q wd muts rem (i :: is) a w :=
  todo_step hly (fun t ht => by simpa using List.all_eq_true.1 hL t ht) hk (apF_core ho hoe hdn hT hi hu hmk hzl hX hY hb hn k)
theorem op_apF {α : Type} {sz b i j d : Nat} {enc : α → List Value} {hl : ∀ x, (enc x).length = sz} {h1 : ∀ x u, u ∈ enc x → u.oneCell' = true} {T' : TypeId} {X Y : Operand} {zs : List Value} {xs ys : List α} {u v : Value} {is : List Nat} {o : Oper} {ty : TypeId} {ps : String} {af : Array Edge}
    (hL : T.all (fun t => (lk L t.2.1).isNone) = true) (ho : ops[i]? = some o) (hoe : o = ⟨some d, .call ⟨.builtin .append, #[X, Y], #[T', T']⟩, ty, ps, af, none⟩) (hdn : Nat.ble (d + 1) n = true) (hT : T.all (fun t => t.2.1 != d) = true) (hi : l[j]? = some (Above wd.heap.size (Own (flatEK sz enc hl h1) v xs)))
    (hu : ∀ w, Sep W l w → (flatEK sz enc hl h1).Rd w u ys) (hmk : mkB P T' = some (zs, sz, b)) (hzl : zs.length = sz) (hX : ∀ a, Fr n L a → a.eval X = v) (hY : ∀ a, Fr n L a → a.eval Y = u) (hb : (xs.length + ys.length) * b ≤ 140737488355328) (hn : xs.length + ys.length ≤ maxLen)
    (k : ∀ A c rem a w, Rem T rem → Fr n ((d, .slice A (xs.length + ys.length) c) :: L) a → At T wd W (l.set j (Above wd.heap.size (Own (flatEK sz enc hl h1) (.slice A (xs.length + ys.length) c) (xs ++ ys)))) rem a w → Todo P ops Q wd muts rem is a w) :
    ∀ rem a w, Rem T rem → Fr n L a → At T wd W l rem a w → wpOp P ops (QN Q) i (fun a' w' => (Below wd.heap.size wd w' ∧ Todo P ops Q wd muts rem is a' w') ∨ (muts.contains i = true ∧ ∃ m', Todo P ops Q w' m' rem is a' w')) a w :=
  fun rem a w hR hF hA => wpOp_mono (fun _ _ h => .inl h) (apF_core ho hoe hdn hT hi hu hmk hzl hX hY hb hn k rem a w hR hF hA)
theorem r_alloc0 {ρ : Operand → Value} {w : World} {D : Option Tmp} {ty T' : TypeId} {ps : String} {af : Array Edge} {gd : Option (Nat × Bool)} {cs : List Value} (hz : zeroOf P T' = some cs) :
    ∃ (g : Nat) (w' : World), (execOp ρ ⟨D, .alloc T', ty, ps, af, gd⟩).run P w = .ok (.value (.pointer (some ⟨g, 0, none⟩))) w' ∧ Sep w [Box g cs] w' :=
  ⟨_, _, r_alloc hz, by simpa using (Sep.refl w).box_new cs T'⟩
/-- a call that makes one part -/
theorem mkF_core {Γ : Type} {i : Nat} {is : List Nat} {o : Oper} {d : Nat} {f : FuncId} {args : Array Value} {val : Γ → Value} {r : Γ → Res} (ho : ops[i]? = some o) (hg : GW ops n L o) (hd : o.dst = some d) (hdn : Nat.ble (d + 1) n = true) (hT : T.all (fun t => t.2.1 != d) = true)
    (hr : ∀ a w, Fr n L a → (execOp a.eval o).run P w = .ok (.enter f args) w) (hc : ∀ w, Sep W l w → Calls P f args w (Ret (Mk w val (fun γ => [r γ]))))
    (k : ∀ γ rem a w, Rem T rem → Fr n ((d, val γ) :: L) a → At T wd W (Above wd.heap.size (r γ) :: l) rem a w → Todo P ops Q wd muts rem is a w) :
    ∀ rem a w, Rem T rem → Fr n L a → At T wd W l rem a w → wpOp P ops (QN Q) i (fun a' w' => Below wd.heap.size wd w' ∧ Todo P ops Q wd muts rem is a' w') a w := by
  intro rem a w hR hF hA
  refine wpOp_ofW ho (hg a hF) ?_
  unfold Oper.wp
  rw [hr a w hF, Oper.upon_enter]
  refine (hc w hA.sep).mono ?_
  rintro e w1 ⟨v, rfl, γ, rfl, hS⟩
  show _ ∧ _
  rw [hd]
  exact ⟨hA.s.trans (hS.old.mono hA.s.size), k γ rem _ _ hR (hF.put hdn _) ((hA.made (hS.above_new hA.s.size)).put (fun t ht => by simpa using List.all_eq_true.1 hT t ht))⟩
theorem todo_mkF {Γ : Type} {i : Nat} {is : List Nat} {o : Oper} {d : Nat} {f : FuncId} {args : Array Value} {val : Γ → Value} {r : Γ → Res} (hl : Lay P ops T n) (hL : T.all (fun t => (lk L t.2.1).isNone) = true) (hk : stepB ops T i is = true) (ho : ops[i]? = some o) (hg : GW ops n L o) (hd : o.dst = some d) (hdn : Nat.ble (d + 1) n = true) (hT : T.all (fun t => t.2.1 != d) = true)
    (hr : ∀ a w, Fr n L a → (execOp a.eval o).run P w = .ok (.enter f args) w) (hc : ∀ w, Sep W l w → Calls P f args w (Ret (Mk w val (fun γ => [r γ]))))
    (k : ∀ γ rem a w, Rem T rem → Fr n ((d, val γ) :: L) a → At T wd W (Above wd.heap.size (r γ) :: l) rem a w → Todo P ops Q wd muts rem is a w) :
    ∀ rem a w, Rem T rem → Fr n L a → At T wd W l rem a w → Todo P ops Q wd muts rem (i :: is) a w :=
  todo_step hl (fun t ht => by simpa using List.all_eq_true.1 hL t ht) hk (mkF_core ho hg hd hdn hT hr hc k)
theorem op_mkF {Γ : Type} {i : Nat} {is : List Nat} {o : Oper} {d : Nat} {f : FuncId} {args : Array Value} {val : Γ → Value} {r : Γ → Res} (hL : T.all (fun t => (lk L t.2.1).isNone) = true) (ho : ops[i]? = some o) (hg : GW ops n L o) (hd : o.dst = some d) (hdn : Nat.ble (d + 1) n = true) (hT : T.all (fun t => t.2.1 != d) = true)
    (hr : ∀ a w, Fr n L a → (execOp a.eval o).run P w = .ok (.enter f args) w) (hc : ∀ w, Sep W l w → Calls P f args w (Ret (Mk w val (fun γ => [r γ]))))
    (k : ∀ γ rem a w, Rem T rem → Fr n ((d, val γ) :: L) a → At T wd W (Above wd.heap.size (r γ) :: l) rem a w → Todo P ops Q wd muts rem is a w) :
    ∀ rem a w, Rem T rem → Fr n L a → At T wd W l rem a w → wpOp P ops (QN Q) i (fun a' w' => (Below wd.heap.size wd w' ∧ Todo P ops Q wd muts rem is a' w') ∨ (muts.contains i = true ∧ ∃ m', Todo P ops Q w' m' rem is a' w')) a w :=
  fun rem a w hR hF hA => wpOp_mono (fun _ _ h => .inl h) (mkF_core ho hg hd hdn hT hr hc k rem a w hR hF hA)
/-- a call that changes parts: the rest goes on from there -/
theorem op_mc {Γ : Type} {m' : List Nat} {i : Nat} {is : List Nat} {o : Oper} {d : Nat} {f : FuncId} {args : Array Value} {val : Γ → Value} {l2 : Γ → List Res} (ho : ops[i]? = some o) (hg : GW ops n L o) (hd : o.dst = some d) (hdn : Nat.ble (d + 1) n = true) (hm : muts.contains i = true)
    (hr : ∀ a w, Fr n L a → (execOp a.eval o).run P w = .ok (.enter f args) w) (hc : ∀ w, Sep W l w → Calls P f args w (Ret fun v w' => ∃ γ, v = val γ ∧ Sep W (l2 γ) w'))
    (k : ∀ γ wd', Sep W (l2 γ) wd' → ∀ rem a w, Rem [] rem → Fr n ((d, val γ) :: L) a → At [] wd' W (l2 γ) rem a w → Todo P ops Q wd' m' rem is a w) :
    ∀ rem a w, Rem [] rem → Fr n L a → At [] wd W l rem a w → wpOp P ops (QN Q) i (fun a' w' => (Below wd.heap.size wd w' ∧ Todo P ops Q wd muts rem is a' w') ∨ (muts.contains i = true ∧ ∃ m', Todo P ops Q w' m' rem is a' w')) a w := by
  intro rem a w hR hF hA
  refine wpOp_ofW ho (hg a hF) ?_
  unfold Oper.wp
  rw [hr a w hF, Oper.upon_enter]
  refine (hc w hA.sep).mono ?_
  rintro e w1 ⟨v, rfl, γ, rfl, hS⟩
  show _ ∨ _
  rw [hd]
  exact .inr ⟨hm, m', k γ w1 hS rem _ _ hR (hF.put hdn _) ⟨Below.refl _ _, [], hS.many_nil, fun t ht => by cases ht⟩⟩
end
end Go.Proofs.YtifhfodphoeeoaaGreat.Sl
