/- More operations: calls that make memory, slice literals, tuples; structs with slices inside as one part. No program in sight. -/
import Derived.Test.YtifhfodphoeeoaaGreatDraw
namespace Go.Proofs.YtifhfodphoeeoaaGreat.Sl
open Go Go.RowKit
set_option linter.unusedVariables false
set_option linter.unusedSimpArgs false

/-- the memory that belongs to a value of a struct type: its slices -/
def Part {α : Type} (ek : EK α) (x : α) (vs : List Slv) : Res := Many (ek.inner x vs)
section
variable {α : Type} {ek : EK α} {w0 w : World} {l : List Res} {i : Nat} {x : α} {vs : List Slv} {cs : List Value}
theorem Sep.k (h : Sep w0 l w) (hk : ek.K w0 x cs) : ek.K w x cs := ek.ext h.old hk
theorem Sep.part_k (h : Sep w0 l w) (hi : l[i]? = some (Part ek x vs)) : ek.K w x (ek.cells x vs) := ek.rd (h.sat.get hi)
theorem Sep.box_rd (h : Sep w0 l w) {g : Nat} (hi : l[i]? = some (Box g cs)) : ∀ j u, cs[j]? = some u → w.cell? ⟨g, 0 + j, none⟩ = some u := fun j u hu => by rw [Nat.zero_add]; exact h.box hi hu
/-- the first part is opened -/
theorem Sep.part_open (h : Sep w0 (Part ek x vs :: l) w) : Sep w0 (ek.inner x vs ++ l) w := h.many_flat
theorem Sat.many_mk : ∀ {A : List Res} {l : List Res} {S : Nat → Prop} {w : World}, Sat (A ++ l) S w → Sat (Many A :: l) S w
  | [], l, S, w, h => Sat.cons (S1 := fun _ => False) h (Sat.nil _ _) (fun k hk => hk.elim) (fun k hk => hk) (fun k hk _ => hk)
  | r :: A, l, S, w, h => by
    obtain ⟨S0, S1, a1, a2, a3, a4, a5⟩ := Sat.uncons h
    obtain ⟨S2, S3, b1, b2, b3, b4, b5⟩ := (Sat.many_mk a2).uncons
    exact Sat.cons (S := S3) (S1 := fun k => S0 k ∨ S2 k) b2 (Sat.cons (S := S2) b1 a1 (fun k hk => .inl hk) (fun k hk => .inr hk) (fun k h1 h2 => a5 k h1 (b3 k h2))) (fun k hk => hk.elim (a3 k) (fun h => a4 k (b3 k h))) (fun k hk => a4 k (b4 k hk)) (fun k h1 h2 => h1.elim (fun h => a5 k h (b4 k h2)) (fun h => b5 k h h2))
theorem Sep.part_mk {l' : List Res} (h : Sep w0 l' w) (e : l' = ek.inner x vs ++ l) : Sep w0 (Part ek x vs :: l) w := by
  subst e; exact ⟨h.old, Sat.many_mk h.sat⟩
/-- other order, some dropped -/
theorem Sep.pick {l' : List Res} (h : Sep w0 l w) (σ : List Nat) (hn : σ.Nodup) (e : σ.map (fun i => l[i]?) = l'.map some) : Sep w0 l' w := by
  have hlen : σ.length = l'.length := by simpa using congrArg List.length e
  refine h.sub (fun i => σ.getD i 0) (fun i j hi hj hij => ?_) (fun i r hr => ?_)
  · have hi' : i < σ.length := by omega
    have hj' : j < σ.length := by omega
    simp only [List.getD_eq_getElem?_getD, List.getElem?_eq_getElem hi', List.getElem?_eq_getElem hj', Option.getD_some] at hij
    exact (List.getElem_inj hn).1 hij
  · have hi := (List.getElem?_eq_some_iff.1 hr).1
    have hi' : i < σ.length := by omega
    have := congrArg (fun (z : List (Option Res)) => z[i]?) e
    simp only [List.getElem?_map, hr, Option.map_some, List.getElem?_eq_getElem hi', Option.some.injEq] at this
    simp only [List.getD_eq_getElem?_getD, List.getElem?_eq_getElem hi', Option.getD_some]
    exact this
end

/-- the operands of a literal -/
def pev (a : Act) : Nat → List (Nat × Operand) → List Value → Prop
  | _, [], [] => True
  | k, (i, x) :: ps, u :: us => i = k ∧ a.eval x = u ∧ pev a (k + 1) ps us
  | _, _, _ => False
theorem pev_map {a : Act} : ∀ (ps : List (Nat × Operand)) (us : List Value) (k : Nat), pev a k ps us → ps.map (fun p => (p.1, a.eval p.2)) = (us.zipIdx k).map fun p => (p.2, p.1)
  | [], [], _, _ => rfl
  | [], _ :: _, _, h => h.elim
  | _ :: _, [], _, h => h.elim
  | (i, x) :: ps, u :: us, k, ⟨h1, h2, h3⟩ => by
    subst h1; subst h2
    simp only [List.map_cons, List.zipIdx_cons, pev_map ps us (i + 1) h3]
theorem fold_set : ∀ (us old A B : List Value), us.length = old.length → (us.zipIdx).foldl (fun (cs : Array Value) (p : Value × Nat) => cs.setIfInBounds (A.length + p.2) p.1) (A ++ old ++ B).toArray = (A ++ us ++ B).toArray
  | [], [], A, B, _ => rfl
  | [], _ :: _, _, _, h => by simp at h
  | _ :: _, [], _, _, h => by simp at h
  | u :: us, o :: old, A, B, h => by
    have ih := fold_set us old (A ++ [u]) B (by simpa using h)
    rw [List.zipIdx_cons, List.foldl_cons]
    have h1 : (A ++ o :: old ++ B).toArray.setIfInBounds (A.length + 0) u = (A ++ [u] ++ old ++ B).toArray := by
      simp
    rw [h1]
    have h2 : us.zipIdx (0 + 1) = us.zipIdx.map fun p => (p.1, p.2 + 1) := by
      rw [List.zipIdx_succ]
    rw [h2, List.foldl_map]
    simp only [List.length_append, List.length_cons, List.length_nil, Nat.zero_add] at ih
    have h3 : (fun (cs : Array Value) (p : Value × Nat) => cs.setIfInBounds (A.length + (p.2 + 1)) p.1) = fun cs p => cs.setIfInBounds (A.length + 1 + p.2) p.1 := by
      funext cs p; congr 1; omega
    show List.foldl (fun (cs : Array Value) (p : Value × Nat) => cs.setIfInBounds (A.length + (p.2 + 1)) p.1) _ _ = _
    rw [h3, ih]
    simp
theorem fill_all {sz : Nat} : ∀ (us : List Value) (A B : List Value) (k : Nat), A.length = k * sz → B.length = us.length * sz → (∀ u ∈ us, u.cells.size = sz) →
    Instr.fill (fun i => some (i * sz, sz)) (A ++ B).toArray ((us.zipIdx k).map fun p => (p.2, p.1)) = some (A ++ us.flatMap fun u => u.cells.toList).toArray
  | [], A, B, k, _, hB, _ => by
    obtain rfl : B = [] := List.eq_nil_of_length_eq_zero (by simpa using hB)
    simp [Instr.fill]
  | u :: us, A, B, k, hA, hB, hu => by
    have hsz := hu u (by simp)
    have hB' : B.length = sz + us.length * sz := by rw [hB, List.length_cons, Nat.add_mul]; omega
    have ih := fill_all us (A ++ u.cells.toList) (B.drop sz) (k + 1) (by simp [hA, hsz, Nat.add_mul]) (by simp [hB']) (fun x hx => hu x (by simp [hx]))
    rw [List.zipIdx_cons, List.map_cons]
    unfold Instr.fill
    simp only []
    rw [if_neg (by simp [hsz, hA, hB'])]
    have hf : Array.foldl (fun (cs : Array Value) (x : Value × Nat) => cs.setIfInBounds (k * sz + x.2) x.1) (A ++ B).toArray u.cells.zipIdx = (A ++ u.cells.toList ++ B.drop sz).toArray := by
      have := fold_set u.cells.toList (B.take sz) A (B.drop sz) (by simp [hsz, hB'])
      rw [List.append_assoc A, List.take_append_drop, hA] at this
      rw [← this, ← Array.foldl_toList]
      simp
    have : (u.cells.zipIdx.foldl (fun (cs : Array Value) (x : Value × Nat) => match x with | (c, j) => cs.setIfInBounds (k * sz + j) c) (A ++ B).toArray) = (A ++ u.cells.toList ++ B.drop sz).toArray := hf
    rw [this, ih]
    simp

section
variable {P : Program} {ops : Array Oper} {Q : Exit → Act → World → Prop} {a : Act} {w w0 : World} {rest : List Oper} {o : Oper} {n d : Nat} {L : List (Nat × Value)} {l : List Res} {v : Value}
variable {ty : TypeId} {ps : String} {af : Array Edge} {D : Option Tmp} {gd : Option (Nat × Bool)}
/-- a call that makes memory -/
theorem wl_mk {Γ : Type} {f : FuncId} {args : Array Value} {val : Γ → Value} {l1 : Γ → List Res} (hF : Fr n L a) (hS : Sep w0 l w) (hg : o.guard = none) (hd : o.dst = some d) (hdn : Nat.ble (d + 1) n = true)
    (hr : (execOp a.eval o).run P w = .ok (.enter f args) w) (hc : Calls P f args w (Ret (Mk w val l1)))
    (k : ∀ γ w' a, Sep w0 (l1 γ ++ l) w' → Fr n ((d, val γ) :: L) a → wpList P ops Q rest a w') : wpList P ops Q (o :: rest) a w :=
  wl_call hF hg hd hdn hr hc (fun v w' a ⟨γ, e, h⟩ hF => by subst e; exact k γ w' a (hS.add h) hF)
theorem r_extract {ρ : Operand → Value} {x : Operand} {i : Nat} {us : Array Value} {u : Value} (hx : ρ x = .tuple us) (hi : us[i]? = some u) : (execOp ρ ⟨D, .extract x i, ty, ps, af, gd⟩).run P w = .ok (.value u) w := by
  simp [execOp, hx, Instr.extract, hi]

/-- a slice literal of flat elements -/
theorem r_bslice {α : Type} {sz b : Nat} {enc : α → List Value} {hl : ∀ x, (enc x).length = sz} {h1 : ∀ x u, u ∈ enc x → u.oneCell' = true} {T m : Nat} {parts : Array (Nat × Operand)} {zs : List Value} (ek : EK α) (us : List Value) (xs : List α) (hek : ek = flatEK sz enc hl h1)
    (hm : mkB P T = some (zs, sz, b)) (hz : zs.length = sz) (hp : pev a 0 parts.toList us) (hmu : m = us.length) (hu : us.map (fun u => u.cells.toList) = xs.map enc) (hpos : Nat.ble 1 sz = true) (hsmall : Nat.ble (m * sz) 16777216 = true) :
    ∃ g w', (execOp a.eval ⟨D, .buildSlice T m parts, ty, ps, af, gd⟩).run P w = .ok (.value (.slice (some ⟨g, 0, none⟩) m m)) w' ∧ Sep w [Own ek (.slice (some ⟨g, 0, none⟩) m m) xs] w' := by
  subst hek
  obtain ⟨e, i, z, he, hi, hzz, hzs, hsz, hby⟩ := mkB_parts hm
  have hxl : xs.length = m := by
    have := congrArg List.length hu
    simp only [List.length_map] at this
    omega
  have hcell : us.flatMap (fun u => u.cells.toList) = flatC enc xs := by
    unfold flatC
    rw [List.flatMap_def, List.flatMap_def, hu]
  have hul : ∀ u ∈ us, u.cells.size = sz := fun u hmem => by
    have : u.cells.toList ∈ xs.map enc := by rw [← hu]; exact List.mem_map.2 ⟨u, hmem, rfl⟩
    obtain ⟨x, _, e⟩ := List.mem_map.1 this
    have := congrArg List.length e
    rw [hl] at this
    simpa using this.symm
  have hfill : ∀ B : Array Value, B.size = m * sz → Instr.fill (fun i => some (i * sz, sz)) B (parts.toList.map fun p => (p.1, a.eval p.2)) = some (flatC enc xs).toArray := fun B hB => by
    have := fill_all (sz := sz) us [] B.toList 0 (by simp) (by simp [hB, hmu]) hul
    rw [List.nil_append, List.nil_append, hcell] at this
    rw [pev_map _ _ _ hp]
    exact this
  have hrun : (Instr.buildSlice T m (parts.map fun (i, x) => (i, a.eval x))).run P w = .ok (.slice (some ⟨w.heap.size, 0, none⟩) m m) (w.alloc (.cells (flatC enc xs).toArray e)) := by
    have hs : ¬ m * i.size > 2 ^ 24 := by
      have := Nat.le_of_ble_eq_true hsmall
      rw [hsz]
      omega
    by_cases h0 : m * i.size = 0
    · have hm0 : m = 0 := by
        have := Nat.le_of_ble_eq_true hpos
        rcases Nat.mul_eq_zero.1 h0 with h | h <;> omega
      subst hm0
      obtain rfl := List.eq_nil_of_length_eq_zero hmu.symm
      obtain rfl := List.eq_nil_of_length_eq_zero hxl
      have hpl : parts.toList = [] := by
        cases h : parts.toList with
        | nil => rfl
        | cons p l => rw [h] at hp; exact hp.elim
      obtain rfl : parts = #[] := by cases parts; simp at hpl; rw [hpl]
      simp [Instr.buildSlice, run_underlying he, sizeOf, typeInfo, hi, newRow, Instr.fill, flatC]
      rw [show Array.range 0 = #[] from by simp]; simp
    · have h := hfill ((Array.range (m * sz)).map (z.cells[· % z.cells.size]!)) (by simp)
      subst hsz
      simp [Instr.buildSlice, run_underlying he, sizeOf, typeInfo, zeroValue, hi, hzz, hs, h0, h, newRow]
  refine ⟨w.heap.size, w.alloc (.cells (flatC enc xs).toArray e), by simp [execOp, hrun], ?_⟩
  refine (Sep.refl w).new ((Below.refl _ _).alloc (Nat.le_refl _) _) ⟨_, m, m, rfl, hxl.symm, ?_, .inr ⟨w.heap.size, 0, _, e, fun _ => [], rfl, ⟨Nat.le_refl _, by simp⟩, heap_alloc_new w _, ⟨by simp [flatEK, flatC_len hl, hxl], by simp [hxl], ?_⟩, fun _ _ => False, fun i x _ => Sat.nil _ _, by simp, by simp⟩⟩
  · have h1 := Nat.le_of_ble_eq_true hsmall
    have h2 := Nat.le_of_ble_eq_true hpos
    have h3 : m * 1 ≤ m * sz := Nat.mul_le_mul_left _ h2
    simp only [maxLen]
    omega
  · intro i x hx j u hu'
    have := flatC_at hl xs i x j u hx hu'
    simpa [flatEK] using this
theorem wl_bslice {α : Type} {sz b : Nat} {enc : α → List Value} {hl : ∀ x, (enc x).length = sz} {h1 : ∀ x u, u ∈ enc x → u.oneCell' = true} {T m : Nat} {parts : Array (Nat × Operand)} {zs : List Value} (ek : EK α) (us : List Value) (xs : List α) (hek : ek = flatEK sz enc hl h1) (hF : Fr n L a) (hS : Sep w0 l w) (hdn : Nat.ble (d + 1) n = true)
    (hm : mkB P T = some (zs, sz, b)) (hz : zs.length = sz) (hp : pev a 0 parts.toList us) (hmu : m = us.length) (hu : us.map (fun u => u.cells.toList) = xs.map enc) (hpos : Nat.ble 1 sz = true) (hsmall : Nat.ble (m * sz) 16777216 = true)
    (k : ∀ g w' a, Sep w0 (Own ek (.slice (some ⟨g, 0, none⟩) m m) xs :: l) w' → Fr n ((d, .slice (some ⟨g, 0, none⟩) m m) :: L) a → wpList P ops Q rest a w') :
    wpList P ops Q (⟨some d, .buildSlice T m parts, ty, ps, af, none⟩ :: rest) a w := by
  obtain ⟨g, w', hrun, hS'⟩ := r_bslice (D := some d) (gd := none) (ty := ty) (ps := ps) (af := af) (P := P) (w := w) (hl := hl) (h1 := h1) ek us xs hek hm hz hp hmu hu hpos hsmall
  exact wl hF rfl rfl hdn hrun (fun a hF => k g w' a (by simpa using hS.add hS') hF)
/-- a whole box is written over -/
theorem wl_storew {T : TypeId} {x y : Operand} {i g : Nat} {cs vs : List Value} (hF : Fr n L a) (hS : Sep w0 l w) (hi : l[i]? = some (Box g cs)) (hp : a.eval x = .pointer (some ⟨g, 0, none⟩)) (hy : a.eval y = .agg vs.toArray) (hsz : szB P T = some vs.length)
    (hl : evenB vs cs = true) (h1 : vs.all (fun u => u.oneCell') = true) (k : ∀ w', Sep w0 (l.set i (Box g vs)) w' → wpList P ops Q rest a w') : wpList P ops Q (⟨none, .store T x y, ty, ps, af, none⟩ :: rest) a w := by
  have hl' := evenB_eq _ _ hl
  obtain ⟨w', hr, hS'⟩ := hS.box_row (P := P) (o := 0) (vs := vs) hi (by omega) (fun u hu => List.all_eq_true.1 h1 u hu)
  have e : cs.take 0 ++ vs ++ cs.drop (0 + vs.length) = vs := by
    rw [Nat.zero_add, hl', List.drop_length]; simp
  rw [e] at hS'
  exact wl0 (w' := w') hF rfl rfl (r_storen hsz hp hy hr) (k _ hS')
end
end Go.Proofs.YtifhfodphoeeoaaGreat.Sl
