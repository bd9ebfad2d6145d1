/- Memory as a list of parts that lie apart: what each part says, and how a step changes one of them. No program in sight. -/
import Derived.Test.YtifhfodphoeeoaaGreatSl
namespace Go.Proofs.YtifhfodphoeeoaaGreat.Sl
open Go Go.RowKit
set_option linter.unusedVariables false
set_option linter.unusedSimpArgs false

/-- a part of memory: it holds within a set of blocks; whoever leaves these blocks alone leaves it alone -/
structure Res where
  P : (Nat → Prop) → World → Prop
  loc : ∀ {S : Nat → Prop} {w w' : World}, (∀ k, S k → w'.heap[k]? = w.heap[k]?) → P S w → P S w'
  mono : ∀ {S S' : Nat → Prop} {w : World}, (∀ k, S k → S' k) → P S w → P S' w

def Sat (l : List Res) (S : Nat → Prop) (w : World) : Prop :=
  ∃ f : Nat → Nat → Prop, (∀ i (r : Res), l[i]? = some r → r.P (f i) w) ∧ (∀ i k, f i k → S k) ∧ (∀ i j k, f i k → f j k → i = j)

theorem Sat.nil (S : Nat → Prop) (w : World) : Sat [] S w := ⟨fun _ _ => False, by simp, by simp, by simp⟩
theorem Sat.loc {l : List Res} {S : Nat → Prop} {w w' : World} (h : Sat l S w) (hk : ∀ k, S k → w'.heap[k]? = w.heap[k]?) : Sat l S w' := by
  obtain ⟨f, h1, h2, h3⟩ := h
  exact ⟨f, fun i r hi => r.loc (fun k hf => hk k (h2 i k hf)) (h1 i r hi), h2, h3⟩
theorem Sat.mono {l : List Res} {S S' : Nat → Prop} {w : World} (h : Sat l S w) (hs : ∀ k, S k → S' k) : Sat l S' w := by
  obtain ⟨f, h1, h2, h3⟩ := h
  exact ⟨f, h1, fun i k hf => hs k (h2 i k hf), h3⟩
theorem Sat.get {l : List Res} {S : Nat → Prop} {w : World} (h : Sat l S w) {i : Nat} {r : Res} (hi : l[i]? = some r) : r.P S w := by
  obtain ⟨f, h1, h2, h3⟩ := h
  exact r.mono (h2 i) (h1 i r hi)
/-- other places for the parts; some may be dropped -/
theorem Sat.sub {l l' : List Res} {S : Nat → Prop} {w : World} (h : Sat l S w) (σ : Nat → Nat) (hinj : ∀ i j, i < l'.length → j < l'.length → σ i = σ j → i = j) (hσ : ∀ i r, l'[i]? = some r → l[σ i]? = some r) : Sat l' S w := by
  obtain ⟨f, h1, h2, h3⟩ := h
  refine ⟨fun i k => i < l'.length ∧ f (σ i) k, fun i r hi => ?_, fun i k hf => h2 _ k hf.2, fun i j k hi hj => hinj i j hi.1 hj.1 (h3 _ _ k hi.2 hj.2)⟩
  have hlt := (List.getElem?_eq_some_iff.1 hi).1
  exact r.mono (fun k hk => ⟨hlt, hk⟩) (h1 _ r (hσ i r hi))
/-- one part more, in blocks of its own -/
theorem Sat.cons {l : List Res} {S S1 S' : Nat → Prop} {w : World} {r : Res} (h : Sat l S w) (hr : r.P S1 w) (h1 : ∀ k, S1 k → S' k) (h2 : ∀ k, S k → S' k) (hd : ∀ k, S1 k → S k → False) : Sat (r :: l) S' w := by
  obtain ⟨f, g1, g2, g3⟩ := h
  refine ⟨fun i => match i with | 0 => S1 | i + 1 => f i, fun i q hi => ?_, fun i k hf => ?_, fun i j k hi hj => ?_⟩
  · cases i with
    | zero => simp at hi; subst hi; exact hr
    | succ i => exact g1 i q (by simpa using hi)
  · cases i with
    | zero => exact h1 k hf
    | succ i => exact h2 k (g2 i k hf)
  · cases i with
    | zero =>
      cases j with
      | zero => rfl
      | succ j => exact (hd k hi (g2 j k hj)).elim
    | succ i =>
      cases j with
      | zero => exact (hd k hj (g2 i k hi)).elim
      | succ j => rw [g3 i j k hi hj]
/-- two lists side by side -/
theorem Sat.append {l l' : List Res} {S S1 S' : Nat → Prop} {w : World} (h : Sat l' S w) (hr : Sat l S1 w) (h1 : ∀ k, S1 k → S' k) (h2 : ∀ k, S k → S' k) (hd : ∀ k, S1 k → S k → False) : Sat (l ++ l') S' w := by
  obtain ⟨f, f1, f2, f3⟩ := hr
  obtain ⟨g, g1, g2, g3⟩ := h
  refine ⟨fun i k => if i < l.length then f i k else g (i - l.length) k, fun i r hi => ?_, fun i k hf => ?_, fun i j k hi hj => ?_⟩
  · by_cases hlt : i < l.length
    · rw [List.getElem?_append_left hlt] at hi
      exact r.mono (fun k hk => by simp only [if_pos hlt]; exact hk) (f1 i r hi)
    · rw [List.getElem?_append_right (by omega)] at hi
      exact r.mono (fun k hk => by simp only [if_neg hlt]; exact hk) (g1 _ r hi)
  · by_cases hlt : i < l.length
    · simp only [if_pos hlt] at hf; exact h1 k (f2 i k hf)
    · simp only [if_neg hlt] at hf; exact h2 k (g2 _ k hf)
  · by_cases hi' : i < l.length <;> by_cases hj' : j < l.length
    · simp only [if_pos hi'] at hi; simp only [if_pos hj'] at hj; exact f3 i j k hi hj
    · simp only [if_pos hi'] at hi; simp only [if_neg hj'] at hj; exact (hd k (f2 _ k hi) (g2 _ k hj)).elim
    · simp only [if_neg hi'] at hi; simp only [if_pos hj'] at hj; exact (hd k (f2 _ k hj) (g2 _ k hi)).elim
    · simp only [if_neg hi'] at hi; simp only [if_neg hj'] at hj; have := g3 _ _ k hi hj; omega
/-- the same, the places in hand -/
theorem Sat.upd' {l : List Res} {S N : Nat → Prop} {w w' : World} {i : Nat} {r r' : Res} {f : Nat → Nat → Prop} (_h : Sat l S w) (hi : l[i]? = some r) (hN : ∀ k, N k → S k → False)
    (hr' : r'.P (fun k => f i k ∨ N k) w') (hk : ∀ k, S k → ¬ f i k → w'.heap[k]? = w.heap[k]?) (f1 : ∀ i (r : Res), l[i]? = some r → r.P (f i) w) (f2 : ∀ i k, f i k → S k) (f3 : ∀ i j k, f i k → f j k → i = j) : Sat (l.set i r') (fun k => S k ∨ N k) w' := by
  refine ⟨fun j k => if j = i then f i k ∨ N k else f j k, fun j q hj => ?_, fun j k hf => ?_, fun j m k hj hm => ?_⟩
  · by_cases e : j = i
    · subst e
      have hlt := (List.getElem?_eq_some_iff.1 hi).1
      rw [List.getElem?_set_self hlt] at hj
      obtain rfl := Option.some.inj hj
      exact r'.mono (fun k hk => by simp only [if_true]; exact hk) hr'
    · rw [List.getElem?_set_ne (fun h => e h.symm)] at hj
      refine q.mono (S := f j) (fun k hk => by simp only [if_neg e]; exact hk) (q.loc (fun k hfk => hk k (f2 j k hfk) (fun hik => e (f3 j i k hfk hik))) (f1 j q hj))
  · by_cases e : j = i
    · simp only [if_pos e] at hf
      exact hf.imp (f2 i k) id
    · simp only [if_neg e] at hf
      exact .inl (f2 j k hf)
  · by_cases ej : j = i <;> by_cases em : m = i
    · rw [ej, em]
    · simp only [if_pos ej] at hj; simp only [if_neg em] at hm
      rcases hj with hj | hj
      · rw [ej]; exact f3 i m k hj hm
      · exact (hN k hj (f2 m k hm)).elim
    · simp only [if_neg ej] at hj; simp only [if_pos em] at hm
      rcases hm with hm | hm
      · rw [em]; exact f3 j i k hj hm
      · exact (hN k hm (f2 j k hj)).elim
    · simp only [if_neg ej] at hj; simp only [if_neg em] at hm; exact f3 j m k hj hm
/-- one part is changed: by a step that leaves all but its blocks, and new ones, alone -/
theorem Sat.upd {l : List Res} {S N : Nat → Prop} {w w' : World} {i : Nat} {r r' : Res} (h : Sat l S w) (hi : l[i]? = some r) (hN : ∀ k, N k → S k → False)
    (hstep : ∀ F, r.P F w → (∀ k, F k → S k) → r'.P (fun k => F k ∨ N k) w' ∧ (∀ k, S k → ¬ F k → w'.heap[k]? = w.heap[k]?)) : Sat (l.set i r') (fun k => S k ∨ N k) w' := by
  obtain ⟨f, f1, f2, f3⟩ := h
  obtain ⟨hr', hk⟩ := hstep (f i) (f1 i r hi) (f2 i)
  exact Sat.upd' ⟨f, f1, f2, f3⟩ hi hN hr' hk f1 f2 f3

/-- below the world w0's size all is as in w0; above it lie the parts, apart from each other -/
structure Sep (w0 : World) (l : List Res) (w : World) : Prop where
  old : Below w0.heap.size w0 w
  sat : Sat l (fun k => w0.heap.size ≤ k ∧ k < w.heap.size) w

theorem Sep.refl (w : World) : Sep w [] w := ⟨Below.refl _ _, Sat.nil _ _⟩
/-- a step that changes no block that is there -/
theorem Sep.ext {w0 w w' : World} {l : List Res} (h : Sep w0 l w) (hb : Below w.heap.size w w') : Sep w0 l w' := by
  refine ⟨h.old.trans (hb.mono h.old.size), ?_⟩
  refine Sat.mono (Sat.loc h.sat (fun k hk => hb.block k hk.2)) (fun k hk => ⟨hk.1, Nat.lt_of_lt_of_le hk.2 hb.size⟩)
theorem Sep.sub {w0 w : World} {l l' : List Res} (h : Sep w0 l w) (σ : Nat → Nat) (hinj : ∀ i j, i < l'.length → j < l'.length → σ i = σ j → i = j) (hσ : ∀ i r, l'[i]? = some r → l[σ i]? = some r) : Sep w0 l' w :=
  ⟨h.old, h.sat.sub σ hinj hσ⟩
theorem Sep.tail {w0 w : World} {r : Res} {l : List Res} (h : Sep w0 (r :: l) w) : Sep w0 l w :=
  h.sub (· + 1) (fun i j _ _ e => by omega) (fun i r hi => by simpa using hi)
/-- a callee, begun at w, has made parts of its own -/
theorem Sep.add {w0 w w' : World} {l l' : List Res} (h : Sep w0 l w) (h' : Sep w l' w') : Sep w0 (l' ++ l) w' := by
  have hx := h.ext h'.old
  refine ⟨hx.old, ?_⟩
  refine Sat.append (S := fun k => w0.heap.size ≤ k ∧ k < w.heap.size) ?_ h'.sat (fun k hk => ⟨Nat.le_trans h.old.size hk.1, hk.2⟩) (fun k hk => ⟨hk.1, Nat.lt_of_lt_of_le hk.2 h'.old.size⟩) (fun k h1 h2 => by omega)
  exact Sat.loc h.sat (fun k hk => h'.old.block k hk.2)
/-- the same, one part alone -/
theorem Sep.new {w0 w w' : World} {l : List Res} {r : Res} (h : Sep w0 l w) (hb : Below w.heap.size w w') (hr : r.P (fun k => w.heap.size ≤ k ∧ k < w'.heap.size) w') : Sep w0 (r :: l) w' := by
  have := h.add (l' := [r]) ⟨hb, Sat.cons (Sat.nil (fun _ => False) w') hr (fun k hk => hk) (fun k hk => hk.elim) (fun k _ hk => hk)⟩
  simpa using this
/-- one part is changed -/
theorem Sep.upd {w0 w w' : World} {l : List Res} {i : Nat} {r r' : Res} (h : Sep w0 l w) (hi : l[i]? = some r) (hos : w'.os = w.os) (htape : w'.tape = w.tape) (hout : w'.output = w.output) (hsize : w.heap.size ≤ w'.heap.size)
    (hstep : ∀ F, r.P F w → (∀ k, F k → w0.heap.size ≤ k ∧ k < w.heap.size) → r'.P (fun k => F k ∨ (w.heap.size ≤ k ∧ k < w'.heap.size)) w' ∧ (∀ k, k < w.heap.size → ¬ F k → w'.heap[k]? = w.heap[k]?)) : Sep w0 (l.set i r') w' := by
  refine ⟨?_, ?_⟩
  · obtain ⟨f, f1, f2, f3⟩ := h.sat
    have := hstep (f i) (f1 i r hi) (f2 i)
    refine h.old.trans ⟨hos, htape, hout, hsize, fun k hk => this.2 k (Nat.lt_of_lt_of_le hk h.old.size) (fun hf => ?_)⟩
    have := (f2 i k hf).1
    omega
  · refine Sat.mono (Sat.upd (N := fun k => w.heap.size ≤ k ∧ k < w'.heap.size) h.sat hi (fun k h1 h2 => by omega) (fun F hF hs => ?_)) (fun k hk => ?_)
    · obtain ⟨h1, h2⟩ := hstep F hF hs
      exact ⟨h1, fun k hk hn => h2 k hk.2 hn⟩
    · rcases hk with hk | hk
      · exact ⟨hk.1, Nat.lt_of_lt_of_le hk.2 hsize⟩
      · exact ⟨Nat.le_trans h.old.size hk.1, hk.2⟩

/-! ### a block whose cells are known -/
def Box (g : Nat) (cs : List Value) : Res where
  P := fun S w => S g ∧ ∃ T, w.heap[g]? = some (.cells cs.toArray T (0, 0))
  loc := fun hk ⟨h1, T, h2⟩ => ⟨h1, T, (hk g h1).trans h2⟩
  mono := fun hs ⟨h1, h2⟩ => ⟨hs g h1, h2⟩

theorem cell_of {w : World} {g o : Nat} {cur : Array Value} {T : TypeId} {fz : Nat × Nat} (h : w.heap[g]? = some (.cells cur T fz)) : w.cell? ⟨g, o, none⟩ = cur[o]? := by
  simp [World.cell?, h]
theorem frozen_of {w : World} {g o : Nat} {cur : Array Value} {T : TypeId} (h : w.heap[g]? = some (.cells cur T (0, 0))) : w.frozen? ⟨g, o, none⟩ = false := by
  simp [World.frozen?, h]
theorem heap_setCell_at {w : World} {g o : Nat} {cur : Array Value} {T : TypeId} {fz : Nat × Nat} (h : w.heap[g]? = some (.cells cur T fz)) (v : Value) : (w.setCell ⟨g, o, none⟩ v).heap[g]? = some (.cells (cur.setIfInBounds o v) T fz) := by
  simp [World.setCell, Array.getElem?_modify, h]

theorem Sep.box {w0 w : World} {l : List Res} {i g : Nat} {cs : List Value} (h : Sep w0 l w) (hi : l[i]? = some (Box g cs)) {o : Nat} {v : Value} (hv : cs[o]? = some v) : w.cell? ⟨g, o, none⟩ = some v := by
  obtain ⟨_, T, hT⟩ := h.sat.get hi
  rw [cell_of hT]
  simpa using hv
theorem Sep.box_frozen {w0 w : World} {l : List Res} {i g : Nat} {cs : List Value} (h : Sep w0 l w) (hi : l[i]? = some (Box g cs)) (o : Nat) : w.frozen? ⟨g, o, none⟩ = false := by
  obtain ⟨_, T, hT⟩ := h.sat.get hi
  exact frozen_of hT
theorem Sep.box_set {w0 w : World} {l : List Res} {i g : Nat} {cs : List Value} (h : Sep w0 l w) (hi : l[i]? = some (Box g cs)) (o : Nat) (v : Value) : Sep w0 (l.set i (Box g (cs.set o v))) (w.setCell ⟨g, o, none⟩ v) := by
  refine h.upd hi rfl rfl rfl (by simp) (fun F hF hs => ?_)
  obtain ⟨h1, T, hT⟩ := hF
  refine ⟨⟨.inl h1, T, ?_⟩, fun k hk hn => Below.heap_setCell _ _ _ _ (fun e => hn (e ▸ h1))⟩
  rw [heap_setCell_at hT]
  simp
theorem Sep.box_new {w0 w : World} {l : List Res} (h : Sep w0 l w) (cs : List Value) (T : TypeId) : Sep w0 (Box w.heap.size cs :: l) (w.alloc (.cells cs.toArray T)) :=
  h.new ((Below.refl _ _).alloc (Nat.le_refl _) _) ⟨⟨Nat.le_refl _, by simp⟩, T, heap_alloc_new w _⟩
theorem Sep.drew {w0 w : World} {l : List Res} (h : Sep w0 l w) : Sep w0 l w.drew := h.ext ((Below.refl _ _).drew)
theorem Sep.drawn {w0 w : World} {l : List Res} (h : Sep w0 l w) : Sep w0 l { w with drawn := w.drawn + 1 } := h.ext ((Below.refl _ _).drew)

/-! ### kinds of elements; rows of them -/
abbrev Slv := Option Addr × Nat × Nat
def sv (s : Slv) : Value := .slice s.1 s.2.1 s.2.2

/-- a row that is read: K says what the cells of an element say -/
def Rd {α : Type} (sz : Nat) (K : World → α → List Value → Prop) (w : World) (v : Value) (xs : List α) : Prop :=
  ∃ A n c, v = .slice A n c ∧ n = xs.length ∧ n ≤ c ∧ n ≤ maxLen ∧ ∀ i x, xs[i]? = some x → ∃ g o, A = some ⟨g, o, none⟩ ∧ ∃ cs, K w x cs ∧ cs.length = sz ∧ ∀ j u, cs[j]? = some u → w.cell? ⟨g, o + i * sz + j, none⟩ = some u

theorem Rd.imp {α : Type} {sz : Nat} {K K' : World → α → List Value → Prop} {w w' : World} {v : Value} {xs : List α} (h : Rd sz K w v xs) (hb : Below w.heap.size w w') (hK : ∀ x cs, K w x cs → K' w' x cs) : Rd sz K' w' v xs := by
  obtain ⟨A, n, c, h1, h2, h3, h3', h4⟩ := h
  refine ⟨A, n, c, h1, h2, h3, h3', fun i x hx => ?_⟩
  obtain ⟨g, o, e, cs, k, hl, hc⟩ := h4 i x hx
  refine ⟨g, o, e, cs, hK x cs k, hl, fun j u hu => ?_⟩
  have := hc j u hu
  rw [hb.cell (p := ⟨g, o + i * sz + j, none⟩) (World.block_lt_of_cell? w _ this)]
  exact this

/-- a kind of element: its cells (with the values of the slices inside it), the parts inside it, and what reading it says -/
structure EK (α : Type) where
  sz : Nat
  cells : α → List Slv → List Value
  inner : α → List Slv → List Res
  K : World → α → List Value → Prop
  len : ∀ x vs, (cells x vs).length = sz
  one : ∀ x vs u, u ∈ cells x vs → u.oneCell' = true
  rd : ∀ {x vs S w}, Sat (inner x vs) S w → K w x (cells x vs)
  ext : ∀ {w w' x cs}, Below w.heap.size w w' → K w x cs → K w' x cs
  klen : ∀ {w x cs}, K w x cs → cs.length = sz

def EK.Rd {α : Type} (ek : EK α) (w : World) (v : Value) (xs : List α) : Prop := Sl.Rd ek.sz ek.K w v xs
theorem EK.Rd.mov {α : Type} {ek : EK α} {w w' : World} {v : Value} {xs : List α} (h : ek.Rd w v xs) (hb : Below w.heap.size w w') : ek.Rd w' v xs := Rd.imp h hb (fun _ _ => ek.ext hb)

/-- elements without slices inside -/
def flatEK {α : Type} (sz : Nat) (enc : α → List Value) (hl : ∀ x, (enc x).length = sz) (h1 : ∀ x u, u ∈ enc x → u.oneCell' = true) : EK α where
  sz := sz
  cells := fun x _ => enc x
  inner := fun _ _ => []
  K := fun _ x cs => cs = enc x
  len := fun x _ => hl x
  one := fun x _ u hu => h1 x u hu
  rd := fun _ => rfl
  ext := fun _ h => h
  klen := fun h => by rw [h]; exact hl _

/-- the cells of a row of one's own: block, first cell, room -/
structure RowAt {α : Type} (ek : EK α) (g o c : Nat) (xs : List α) (cur : Array Value) (vs : Nat → List Slv) : Prop where
  room : o + c * ek.sz ≤ cur.size
  fits : xs.length ≤ c
  at_ : ∀ i x, xs[i]? = some x → ∀ j u, (ek.cells x (vs i))[j]? = some u → cur[o + i * ek.sz + j]? = some u

/-- a row of one's own -/
def Own {α : Type} (ek : EK α) (v : Value) (xs : List α) : Res where
  P := fun S w => ∃ A n c, v = .slice A n c ∧ n = xs.length ∧ c ≤ maxLen ∧
    ((c = 0 ∧ xs = []) ∨ ∃ g o cur T vs, A = some ⟨g, o, none⟩ ∧ S g ∧ w.heap[g]? = some (.cells cur T (0, 0)) ∧ RowAt ek g o c xs cur vs ∧
      ∃ f : Nat → Nat → Prop, (∀ i x, xs[i]? = some x → Sat (ek.inner x (vs i)) (f i) w) ∧ (∀ i k, f i k → S k ∧ k ≠ g) ∧ (∀ i j k, f i k → f j k → i = j))
  loc := by
    rintro S w w' hk ⟨A, n, c, h1, h2, h3, h4⟩
    refine ⟨A, n, c, h1, h2, h3, h4.imp id ?_⟩
    rintro ⟨g, o, cur, T, vs, e, hS, hg, hr, f, f1, f2, f3⟩
    exact ⟨g, o, cur, T, vs, e, hS, (hk g hS).trans hg, hr, f, fun i x hx => (f1 i x hx).loc (fun k hf => hk k (f2 i k hf).1), f2, f3⟩
  mono := by
    rintro S S' w hs ⟨A, n, c, h1, h2, h3, h4⟩
    refine ⟨A, n, c, h1, h2, h3, h4.imp id ?_⟩
    rintro ⟨g, o, cur, T, vs, e, hS, hg, hr, f, f1, f2, f3⟩
    exact ⟨g, o, cur, T, vs, e, hs g hS, hg, hr, f, f1, fun i k hf => ⟨hs k (f2 i k hf).1, (f2 i k hf).2⟩, f3⟩

theorem own_rd {α : Type} {ek : EK α} {S : Nat → Prop} {w : World} {v : Value} {xs : List α} (h : (Own ek v xs).P S w) : ek.Rd w v xs := by
  obtain ⟨A, n, c, h1, h2, h3, h4⟩ := h
  rcases h4 with ⟨rfl, rfl⟩ | ⟨g, o, cur, T, vs, e, hS, hg, hr, f, f1, f2, f3⟩
  · exact ⟨A, n, 0, h1, h2, by simp at h2; omega, by simp at h2; omega, fun i x hx => by simp at hx⟩
  · refine ⟨A, n, c, h1, h2, by have := hr.fits; omega, by have := hr.fits; omega, fun i x hx => ⟨g, o, e, ek.cells x (vs i), ek.rd (f1 i x hx), ek.len _ _, fun j u hu => ?_⟩⟩
    rw [cell_of hg]
    exact hr.at_ i x hx j u hu
theorem Sep.own_rd {α : Type} {ek : EK α} {w0 w : World} {l : List Res} {i : Nat} {v : Value} {xs : List α} (h : Sep w0 l w) (hi : l[i]? = some (Own ek v xs)) : ek.Rd w v xs := Sl.own_rd (h.sat.get hi)
theorem Sep.rd {α : Type} {ek : EK α} {w0 w : World} {l : List Res} {v : Value} {xs : List α} (h : Sep w0 l w) (hr : ek.Rd w0 v xs) : ek.Rd w v xs := hr.mov h.old
theorem Rd.idx {α : Type} {ek : EK α} {w : World} {v : Value} {xs : List α} (h : ek.Rd w v xs) {i : Nat} {x : α} (hx : xs[i]? = some x) :
    ∃ g o m c cs, v = .slice (some ⟨g, o, none⟩) m c ∧ m = xs.length ∧ i < m ∧ ek.K w x cs ∧ cs.length = ek.sz ∧ ∀ j u, cs[j]? = some u → w.cell? ⟨g, o + i * ek.sz + j, none⟩ = some u := by
  obtain ⟨A, n, c, rfl, h2, h3, h3', h4⟩ := h
  obtain ⟨g, o, rfl, cs, h5, h6, h7⟩ := h4 i x hx
  have := (List.getElem?_eq_some_iff.1 hx).1
  exact ⟨g, o, n, c, cs, rfl, h2, by omega, h5, h6, h7⟩
theorem Rd.idxF {α : Type} {sz : Nat} {enc : α → List Value} {hl : ∀ x, (enc x).length = sz} {h1 : ∀ x u, u ∈ enc x → u.oneCell' = true} {w : World} {v : Value} {xs : List α} (h : (flatEK sz enc hl h1).Rd w v xs) {i : Nat} {x : α} (hx : xs[i]? = some x) :
    ∃ g o m c, v = .slice (some ⟨g, o, none⟩) m c ∧ m = xs.length ∧ i < m ∧ ∀ j u, (enc x)[j]? = some u → w.cell? ⟨g, o + i * sz + j, none⟩ = some u := by
  obtain ⟨g, o, m, c, cs, e1, e2, e3, hk, _, hc⟩ := Rd.idx h hx
  obtain rfl : cs = enc x := hk
  exact ⟨g, o, m, c, e1, e2, e3, hc⟩
theorem EK.Rd.sl {α : Type} {ek : EK α} {w : World} {v : Value} {xs : List α} (h : ek.Rd w v xs) : ∃ A c, v = .slice A xs.length c ∧ xs.length ≤ c ∧ xs.length ≤ maxLen := by
  obtain ⟨A, n, c, h1, h2, h3, h3', _⟩ := h
  subst h2
  exact ⟨A, c, h1, h3, h3'⟩

theorem Rd.nil {α : Type} (sz : Nat) (K : World → α → List Value → Prop) (w : World) : Rd sz K w (.slice none 0 0) [] := ⟨none, 0, 0, rfl, rfl, Nat.le_refl _, Nat.zero_le _, fun i x hx => by simp at hx⟩
theorem own_nil {α : Type} (ek : EK α) (S : Nat → Prop) (w : World) : (Own ek (.slice none 0 0) []).P S w := ⟨none, 0, 0, rfl, rfl, Nat.zero_le _, .inl ⟨rfl, rfl⟩⟩
theorem Sep.own_nil {α : Type} {w0 w : World} {l : List Res} (h : Sep w0 l w) (ek : EK α) : Sep w0 (Own ek (.slice none 0 0) [] :: l) w := h.new (Below.refl _ _) (Sl.own_nil ek _ w)
end Go.Proofs.YtifhfodphoeeoaaGreat.Sl
