/- Rows of elements with slices inside, taken apart into their bare cells and the memory of the elements; append of one such element. No program in sight. -/
import Derived.Test.YtifhfodphoeeoaaGreatNest
namespace Go.Proofs.YtifhfodphoeeoaaGreat.Sl
open Go Go.RowKit
set_option linter.unusedVariables false
set_option linter.unusedSimpArgs false

/-- bare cells -/
abbrev RawC (sz : Nat) := { cs : List Value // cs.length = sz ∧ ∀ u ∈ cs, u.oneCell' = true }
abbrev rawEK (sz : Nat) : EK (RawC sz) := flatEK sz (fun c => c.1) (fun c => c.2.1) (fun c => c.2.2)
def raw {α : Type} (ek : EK α) (x : α) (vs : List Slv) : RawC ek.sz := ⟨ek.cells x vs, ek.len x vs, ek.one x vs⟩
def raws {α : Type} (ek : EK α) (xs : List α) (vs : Nat → List Slv) : List (RawC ek.sz) := xs.mapIdx fun i x => raw ek x (vs i)
/-- the memory of a row's elements -/
def Inners {α : Type} (ek : EK α) (xs : List α) (vs : Nat → List Slv) : Res where
  P := fun S w => ∃ f : Nat → Nat → Prop, (∀ i x, xs[i]? = some x → Sat (ek.inner x (vs i)) (f i) w) ∧ (∀ i k, f i k → S k) ∧ (∀ i j k, f i k → f j k → i = j)
  loc := fun hk ⟨f, f1, f2, f3⟩ => ⟨f, fun i x hx => (f1 i x hx).loc (fun k hf => hk k (f2 i k hf)), f2, f3⟩
  mono := fun hs ⟨f, f1, f2, f3⟩ => ⟨f, f1, fun i k hf => hs k (f2 i k hf), f3⟩
section
variable {α : Type} {ek : EK α} {w0 w : World} {l : List Res} {q : Nat} {v : Value} {xs : List α} {vs : Nat → List Slv}
theorem raws_at {i : Nat} {c : RawC ek.sz} (h : (raws ek xs vs)[i]? = some c) : ∃ x, xs[i]? = some x ∧ c = raw ek x (vs i) := by
  simp only [raws, List.getElem?_mapIdx] at h
  obtain ⟨x, hx, e⟩ := Option.map_eq_some_iff.1 h
  exact ⟨x, hx, e.symm⟩
theorem raws_len : (raws ek xs vs).length = xs.length := by simp [raws]
/-- taken apart -/
theorem Sep.raw (h : Sep w0 (Own ek v xs :: l) w) : ∃ vs, Sep w0 (Own (rawEK ek.sz) v (raws ek xs vs) :: Inners ek xs vs :: l) w := by
  obtain ⟨S0, S1, a1, a2, a3, a4, a5⟩ := h.sat.uncons
  obtain ⟨A, n, c, h1, h2, h3, h4⟩ := a1
  rcases h4 with ⟨rfl, rfl⟩ | ⟨g, o, cur, T, vs, e, hS, hg, hr, f, f1, f2, f3⟩
  · refine ⟨fun _ => [], h.old, Sat.cons (S := S1) (S1 := fun _ => False) (Sat.cons (S1 := fun _ => False) a2 ⟨fun _ _ => False, by simp, by simp, by simp⟩ (fun k hk => hk.elim) (fun k hk => hk) (fun k hk _ => hk)) ?_ (fun k hk => hk.elim) a4 (fun k hk _ => hk)⟩
    exact ⟨A, n, 0, h1, by simpa [raws] using h2, h3, .inl ⟨rfl, rfl⟩⟩
  · refine ⟨vs, h.old, Sat.cons (S := fun k => (S0 k ∧ k ≠ g) ∨ S1 k) (S1 := fun k => k = g) (Sat.cons (S := S1) (S1 := fun k => S0 k ∧ k ≠ g) a2 ⟨f, f1, f2, f3⟩ (fun k hk => .inl hk) (fun k hk => .inr hk) (fun k h0 h1 => a5 k h0.1 h1)) ?_ (fun k hk => a3 k (hk ▸ hS)) (fun k hk => hk.elim (fun h => a3 k h.1) (a4 k)) (fun k hk hk' => hk'.elim (fun h => h.2 hk) (fun h => a5 k (hk ▸ hS) h))⟩
    refine ⟨A, n, c, h1, by rw [raws_len]; exact h2, h3, .inr ⟨g, o, cur, T, fun _ => [], e, rfl, hg, ⟨hr.room, by rw [raws_len]; exact hr.fits, fun i x hx j u hu => ?_⟩, fun _ _ => False, fun i x _ => Sat.nil _ _, by simp, by simp⟩⟩
    obtain ⟨x', hx', rfl⟩ := raws_at hx
    exact hr.at_ i x' hx' j u hu
/-- put together -/
theorem Sep.cook (h : Sep w0 (Own (rawEK ek.sz) v (raws ek xs vs) :: Inners ek xs vs :: l) w) : Sep w0 (Own ek v xs :: l) w := by
  obtain ⟨S0, S1, a1, a2, a3, a4, a5⟩ := h.sat.uncons
  obtain ⟨S2, S3, b1, b2, b3, b4, b5⟩ := a2.uncons
  refine ⟨h.old, Sat.cons (S := S3) (S1 := fun k => S0 k ∨ S2 k) b2 ?_ (fun k hk => hk.elim (a3 k) (fun h => a4 k (b3 k h))) (fun k hk => a4 k (b4 k hk)) (fun k h1 h2 => h1.elim (fun h => a5 k h (b4 k h2)) (fun h => b5 k h h2))⟩
  obtain ⟨A, n, c, h1, h2, h3, h4⟩ := a1
  rw [raws_len] at h2
  obtain ⟨f, f1, f2, f3⟩ := b1
  rcases h4 with ⟨rfl, hnil⟩ | ⟨g, o, cur, T, vs', e, hS, hg, hr, _⟩
  · have : xs = [] := by
      have := congrArg List.length hnil
      rw [raws_len] at this
      exact List.eq_nil_of_length_eq_zero (by simpa using this)
    exact ⟨A, n, 0, h1, h2, h3, .inl ⟨rfl, this⟩⟩
  · refine ⟨A, n, c, h1, h2, h3, .inr ⟨g, o, cur, T, vs, e, .inl hS, hg, ⟨hr.room, by have := hr.fits; rwa [raws_len] at this, fun i x hx j u hu => ?_⟩, f, f1, fun i k hf => ⟨.inr (f2 i k hf), fun e => a5 k (e ▸ hS) (b3 k (f2 i k hf))⟩, f3⟩⟩
    exact hr.at_ i (Sl.raw ek x (vs i)) (by simp [raws, List.getElem?_mapIdx, hx]) j u hu
/-- the memory of one element more -/
theorem Sep.inners_snoc {y : α} {ws : List Slv} (h : Sep w0 (Part ek y ws :: Inners ek xs vs :: l) w) : Sep w0 (Inners ek (xs ++ [y]) (fun i => if i < xs.length then vs i else ws) :: l) w := by
  obtain ⟨S0, S1, a1, a2, a3, a4, a5⟩ := h.sat.uncons
  obtain ⟨S2, S3, b1, b2, b3, b4, b5⟩ := a2.uncons
  refine ⟨h.old, Sat.cons (S := S3) (S1 := fun k => S0 k ∨ S2 k) b2 ?_ (fun k hk => hk.elim (a3 k) (fun h => a4 k (b3 k h))) (fun k hk => a4 k (b4 k hk)) (fun k h1 h2 => h1.elim (fun h => a5 k h (b4 k h2)) (fun h => b5 k h h2))⟩
  obtain ⟨f, f1, f2, f3⟩ := b1
  refine ⟨fun i k => if i < xs.length then f i k else (i = xs.length ∧ S0 k), fun i x hx => ?_, fun i k hf => ?_, fun i j k hi hj => ?_⟩
  · by_cases hi : i < xs.length
    · rw [List.getElem?_append_left hi] at hx
      simp only [if_pos hi]
      exact f1 i x hx
    · rw [List.getElem?_append_right (by omega)] at hx
      have hi' : i = xs.length := by
        have := (List.getElem?_eq_some_iff.1 hx).1
        simp at this; omega
      subst hi'
      simp at hx
      subst hx
      simp only [Nat.lt_irrefl, if_false, true_and]
      exact a1
  · simp only [] at hf
    split at hf
    · exact .inr (f2 i k hf)
    · exact .inl hf.2
  · simp only [] at hi hj
    split at hi <;> split at hj
    · exact f3 i j k hi hj
    · exact (a5 k hj.2 (b3 k (f2 i k hi))).elim
    · exact (a5 k hi.2 (b3 k (f2 j k hj))).elim
    · omega
theorem raws_snoc {y : α} {ws : List Slv} : raws ek (xs ++ [y]) (fun i => if i < xs.length then vs i else ws) = raws ek xs vs ++ [raw ek y ws] := by
  unfold raws
  rw [List.mapIdx_append]
  congr 1
  · apply List.ext_getElem?
    intro i
    simp only [List.getElem?_mapIdx]
    cases h : xs[i]? with
    | none => rfl
    | some x =>
      have := (List.getElem?_eq_some_iff.1 h).1
      simp [this]
  · simp
/-- the first parts in another order, some dropped -/
theorem Sep.headp {A B : List Res} (h : Sep w0 (A ++ l) w) (σ : List Nat) (hn : σ.Nodup) (hσ : σ.all (fun i => decide (i < A.length)) = true) (e : σ.map (fun i => A[i]?) = B.map some) : Sep w0 (B ++ l) w := by
  have hlen : σ.length = B.length := by simpa using congrArg List.length e
  have hlt : ∀ i (hi : i < σ.length), σ[i] < A.length := fun i hi => by simpa using List.all_eq_true.1 hσ _ (List.getElem_mem hi)
  refine h.sub (fun i => if h : i < σ.length then σ[i] else A.length + (i - σ.length)) (fun i j _ _ hij => ?_) (fun i r hr => ?_)
  · split at hij <;> split at hij
    · exact (List.getElem_inj hn).1 hij
    · rename_i h1 h2; have := hlt i h1; omega
    · rename_i h1 h2; have := hlt j h2; omega
    · omega
  · split
    · rename_i hi
      rw [List.getElem?_append_left (by omega)] at hr
      have := congrArg (fun (z : List (Option Res)) => z[i]?) e
      simp only [List.getElem?_map, hr, Option.map_some, List.getElem?_eq_getElem hi, Option.some.injEq] at this
      rw [List.getElem?_append_left (hlt i hi)]
      exact this
    · rename_i hi
      rw [List.getElem?_append_right (by omega)] at hr
      rw [List.getElem?_append_right (by omega), Nat.add_sub_cancel_left, hlen]
      exact hr
end
section
variable {P : Program} {ops : Array Oper} {Q : Exit → Act → World → Prop} {a : Act} {w w0 : World} {rest : List Oper} {n d : Nat} {L : List (Nat × Value)} {l : List Res} {v u : Value}
variable {ty : TypeId} {ps : String} {af : Array Edge}
/-- append of one element whose memory goes with it -/
theorem wl_appendn {α : Type} {ek : EK α} {b : Nat} {T : TypeId} {X Y : Operand} {zs : List Value} {xs : List α} {y : α} {ws : List Slv} (hF : Fr n L a) (hS : Sep w0 (Own ek v xs :: Part ek y ws :: l) w) (hdn : Nat.ble (d + 1) n = true)
    (hu : (rawEK ek.sz).Rd w u [raw ek y ws]) (hm : mkB P T = some (zs, ek.sz, b)) (hzl : zs.length = ek.sz) (hX : a.eval X = v) (hY : a.eval Y = u)
    (hb : (xs.length + 1) * b ≤ 140737488355328) (hn : xs.length + 1 ≤ maxLen)
    (k : ∀ A c w' a, Sep w0 (Own ek (.slice A (xs.length + 1) c) (xs ++ [y]) :: l) w' → Fr n ((d, .slice A (xs.length + 1) c) :: L) a → wpList P ops Q rest a w') :
    wpList P ops Q (⟨some d, .call ⟨.builtin .append, #[X, Y], #[T, T]⟩, ty, ps, af, none⟩ :: rest) a w := by
  obtain ⟨vs, h1⟩ := hS.raw
  refine wl_append (q := 0) hF h1 hdn rfl hu hm hzl hX hY (by rw [raws_len]; simpa using hb) (by rw [raws_len]; simpa using hn) ?_
  intro A c w' a' h2 hF'
  rw [raws_len] at h2 hF'
  simp only [List.set_cons_zero, List.length_cons, List.length_nil, Nat.zero_add] at h2 hF'
  have h3 := Sep.headp (A := [_, _, _]) (B := [_, _, _]) h2 [2, 1, 0] (by decide) rfl rfl
  have h4 := Sep.inners_snoc h3
  have h5 := Sep.headp (A := [_, _]) (B := [_, _]) h4 [1, 0] (by decide) rfl rfl
  rw [← raws_snoc] at h5
  exact k A c w' a' (Sep.cook h5) hF'
end
end Go.Proofs.YtifhfodphoeeoaaGreat.Sl
