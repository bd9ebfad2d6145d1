/- Lemmas for the row of RwLz. -/
import Derived.Test.YtbgacfdnmbhloaaGreatClzA
import Derived.Test.YtbgacfdnmbhloaaGreatChecked
import Derived.Test.YtbgacfdnmbhloaaGreatProg
set_option maxHeartbeats 4000000
set_option maxRecDepth 20000
namespace Go.Proofs.YtbgacfdnmbhloaaGreat.Sl
open Go Go.RowKit
set_option linter.unusedVariables false
set_option linter.unusedSimpArgs false
section
variable {P : Program} {ρ : Operand → Value} {w : World} {D : Option Tmp} {ty : TypeId} {ps : String} {af : Array Edge} {gd : Option (Nat × Bool)} {t t' : TypeId} {x y : Operand} {k k' yk : IntKind} {m q : Int}
theorem r_nilCheck {g o : Nat} (hx : ρ x = .pointer (some ⟨g, o, none⟩)) :
    (execOp ρ ⟨D, .nilCheck x, ty, ps, af, gd⟩).run P w = .ok (.value (.pointer (some ⟨g, o, none⟩))) w := by simp [execOp, hx, go_sem]
theorem r_and (hx : ρ x = .int k m) (hy : ρ y = .int k q) : (execOp ρ ⟨D, .binOp .and t x y t', ty, ps, af, gd⟩).run P w = .ok (.value (.int k (bits .and k m q))) w := by
 simp [execOp, hx, hy, go_sem]
theorem r_xor (hx : ρ x = .int k m) (hy : ρ y = .int k q) : (execOp ρ ⟨D, .binOp .xor t x y t', ty, ps, af, gd⟩).run P w = .ok (.value (.int k (bits .xor k m q))) w := by
 simp [execOp, hx, hy, go_sem]
theorem r_shr (h0 : 0 ≤ q) (hx : ρ x = .int k m) (hy : ρ y = .int yk q) : (execOp ρ ⟨D, .binOp .shr t x y t', ty, ps, af, gd⟩).run P w = .ok (.value (.int k (m / 2 ^ min q.toNat k.bits))) w := by
 simp [execOp, hx, hy, go_sem, binOp, shift_shr_any _ _ _ _ h0]
theorem r_convw (ht : P.underlying t = some (.int k)) (ht' : P.underlying t' = some (.int k')) (hx : ρ x = .int k m) : (execOp ρ ⟨D, .convert t t' x, ty, ps, af, gd⟩).run P w = .ok (.value (.int k' (k'.wrap m))) w := by
 simp [execOp, hx, convert, run_underlying ht, run_underlying ht', Conv.intToInt, go_sem]
theorem and_low {m : Int} {n : Nat} (hn : n < 9223372036854775808) : 0 ≤ bits .and .i64 m n ∧ bits .and .i64 m n ≤ n := by
 have h : (BitVec.ofInt 64 m &&& BitVec.ofInt 64 (n : Int)).toNat ≤ n := by
   rw [BitVec.toNat_and]
   refine Nat.le_trans Nat.and_le_right ?_
   simp
   omega
 have e : bits .and .i64 m n = IntKind.i64.wrap (BitVec.ofInt 64 m &&& BitVec.ofInt 64 (n : Int)).toNat := rfl
 rw [e, w64_id (by omega) (by omega)]
 omega
end
/-- bytes -/
abbrev byteEK : EK Int := flatEK 1 (fun n => [.int .u8 n]) (fun _ => rfl) (fun x u hu => by simp at hu; subst hu; rfl)
/-- a cursor over n bytes: where it stands and what it has mixed is left open -/
def Cur (g : Nat) (vb : Value) (n : Nat) : Res where
  P := fun S w => ∃ i h : Int, (0 ≤ i ∧ i ≤ n) ∧ (Box g [vb, vi i, vi h]).P S w
  loc := fun hk ⟨i, h, h0, hb⟩ => ⟨i, h, h0, (Box g [vb, vi i, vi h]).loc hk hb⟩
  mono := fun hs ⟨i, h, h0, hb⟩ => ⟨i, h, h0, (Box g [vb, vi i, vi h]).mono hs hb⟩
section
variable {w0 w : World} {l : List Res} {g n q : Nat} {vb : Value}
theorem Sep.head_as {r r' : Res} (h : Sep w0 (r :: l) w) (hr : ∀ S, r.P S w → r'.P S w) : Sep w0 (r' :: l) w := by
 obtain ⟨f, f1, f2, f3⟩ := h.sat
 refine ⟨h.old, f, fun j s hj => ?_, f2, f3⟩
 cases j with
 | zero => simp at hj; subst hj; exact hr _ (f1 0 r rfl)
 | succ j => exact f1 (j + 1) s hj
theorem Sep.cur_open (h : Sep w0 (Cur g vb n :: l) w) : ∃ i k : Int, (0 ≤ i ∧ i ≤ n) ∧ Sep w0 (Box g [vb, vi i, vi k] :: l) w := by
 obtain ⟨f, f1, f2, f3⟩ := h.sat
 obtain ⟨i, k, h0, hb⟩ := f1 0 _ rfl
 refine ⟨i, k, h0, h.old, f, fun j s hj => ?_, f2, f3⟩
 cases j with
 | zero => simp at hj; subst hj; exact hb
 | succ j => exact f1 (j + 1) s hj
theorem Sep.cur_close {i k : Int} (h : Sep w0 (Box g [vb, vi i, vi k] :: l) w) (hi : 0 ≤ i ∧ i ≤ n) : Sep w0 (Cur g vb n :: l) w :=
  h.head_as fun _ hb => ⟨i, k, hi, hb⟩
theorem Sep.unpull {r : Res} {p : Nat} (h : Sep w0 (r :: l.eraseIdx p) w) (hp : l[p]? = some r) : Sep w0 l w := by
 have hlt := (List.getElem?_eq_some_iff.1 hp).1
 refine h.sub (fun i => if i = p then 0 else if i < p then i + 1 else i) ?_ ?_
 · intro i j _ _ e
   revert e
   repeat' split
   all_goals intro e; omega
 · intro i s hs
   by_cases e : i = p
   · subst e; simp only [if_true, List.getElem?_cons_zero]; rw [← hp, hs]
   · simp only [if_neg e]
     by_cases e2 : i < p
     · simp only [if_pos e2, List.getElem?_cons_succ, List.getElem?_eraseIdx]; exact hs
     · obtain ⟨i', rfl⟩ : ∃ i', i = i' + 1 := ⟨i - 1, by omega⟩
       simp only [if_neg e2, List.getElem?_cons_succ, List.getElem?_eraseIdx]
       rw [if_neg (by omega)]; exact hs
/-- a draw, wherever the cursor stands among the parts -/
theorem draw_at {P : Program} {F : FuncId} {args : Array Value} {R : Value → Prop} (hc : ∀ l w, Sep w0 (Cur g vb n :: l) w → Calls P F args w (Ret fun v w' => R v ∧ Sep w0 (Cur g vb n :: l) w'))
    (hS : Sep w0 l w) (hq : l[q]? = some (Cur g vb n)) : Calls P F args w (Ret fun v w' => R v ∧ Sep w0 l w') := by
  refine (hc _ _ (hS.pull hq)).mono ?_
  rintro e w' ⟨v, rfl, hr, h⟩
  exact ⟨v, rfl, hr, h.unpull hq⟩
end
section
variable {P : Program} {ops : Array Oper} {Q : Exit → Act → World → Prop} {wd W : World} {T : Alcs} {muts : List Nat} {n : Nat} {L : List (Nat × Value)} {l : List Res}
/-- a call that makes parts, inside a region that draws its order and in which allocations float -/
theorem op_mcT {Γ : Type} {m' : List Nat} {i : Nat} {is : List Nat} {o : Oper} {d : Nat} {f : FuncId} {args : Array Value} {val : Γ → Value} {l2 : Γ → List Res} (hL : T.all (fun t => (lk L t.2.1).isNone) = true) (ho : ops[i]? = some o) (hg : GW ops n L o) (hd : o.dst = some d) (hdn : Nat.ble (d + 1) n = true) (hT : T.all (fun t => t.2.1 != d) = true) (hm : muts.contains i = true)
    (hr : ∀ a w, Fr n L a → (execOp a.eval o).run P w = .ok (.enter f args) w) (hc : ∀ M w, Sep W (M :: l) w → Calls P f args w (Ret fun v w' => ∃ γ, v = val γ ∧ Sep W (M :: l2 γ) w'))
    (k : ∀ γ wd', Sep W (l2 γ) wd' → ∀ rem a w, Rem T rem → Fr n ((d, val γ) :: L) a → At T wd' W (l2 γ) rem a w → Todo P ops Q wd' m' rem is a w) :
    ∀ rem a w, Rem T rem → Fr n L a → At T wd W l rem a w → wpOp P ops (QN Q) i (fun a' w' => (Below wd.heap.size wd w' ∧ Todo P ops Q wd muts rem is a' w') ∨ (muts.contains i = true ∧ ∃ m', Todo P ops Q w' m' rem is a' w')) a w := by
  intro rem a w hR hF hA
  refine wpOp_ofW ho (hg a hF) ?_
  unfold Oper.wp
  rw [hr a w hF, Oper.upon_enter]
  obtain ⟨gs, hb, hp⟩ := hA.box
  refine (hc _ w hb).mono ?_
  rintro e w1 ⟨v, rfl, γ, rfl, hS⟩
  show _ ∨ _
  rw [hd]
  have hA' : At T w1 W (l2 γ) rem a w1 := ⟨Below.refl _ _, gs, hS, hp⟩
  exact .inr ⟨hm, m', k γ w1 hS.tail rem _ _ hR (hF.put hdn _) (hA'.put (fun t ht => by simpa using List.all_eq_true.1 hT t ht))⟩
theorem calls_subM {α : Type} {P : Program} {f : FuncId} {args : Array Value} {w W : World} {M B : Res} {l : List Res} {R : α → Prop} {val : α → Value} {A : α → Res} (h : Calls P f args w (Ret fun v w' => ∃ z : α, (v = val z ∧ R z) ∧ Sep W (A z :: B :: M :: l) w')) : Calls P f args w (Ret fun v w' => ∃ γ : {z : α // R z}, v = val γ.1 ∧ Sep W (M :: A γ.1 :: B :: l) w') := by
 refine h.mono ?_
 rintro e w' ⟨v, rfl, z, ⟨rfl, hR⟩, hS⟩
 exact ⟨_, rfl, ⟨z, hR⟩, rfl, by simpa only [List.eraseIdx] using hS.pull (p := 2) rfl⟩
end
theorem four_bytes {a b c d : Int} (ha : 0 ≤ a ∧ a ≤ 255) (hb : 0 ≤ b ∧ b ≤ 255) (hc : 0 ≤ c ∧ c ≤ 255) (hd : 0 ≤ d ∧ d ≤ 255) :
    0 ≤ IntKind.i64.wrap (IntKind.i64.wrap (IntKind.i64.wrap (IntKind.i64.wrap (a * 16777216) + IntKind.i64.wrap (b * 65536)) + IntKind.i64.wrap (c * 256)) + d) := by
  rw [w64_id (q := a * 16777216) (by omega) (by omega), w64_id (q := b * 65536) (by omega) (by omega), w64_id (q := c * 256) (by omega) (by omega), w64_id (q := a * 16777216 + b * 65536) (by omega) (by omega), w64_id (q := a * 16777216 + b * 65536 + c * 256) (by omega) (by omega), w64_id (by omega) (by omega)]
  omega
section
variable {P : Program} {a : Act} {w w0 : World} {n : Nat} {L : List (Nat × Value)} {l : List Res}
end
theorem opens_byte {P : Program} {t : TypeId} (ht : P.underlying t = some (.int .u8)) (hc : P.cellsOf t = 1) : Opens P t 1 (fun _ n cs => cs = [.int .u8 n]) (fun _ => True) := by
 refine ⟨hc, fun H enc W sp fuel cs y h => ?_⟩
 obtain ⟨n, rfl, _, hw⟩ := DataW.trod_int ht h
 exact ⟨n, rfl, rfl, trivial⟩
section
variable {P : Program} {ops : Array Oper} {Q : Exit → Act → World → Prop} {a : Act} {w w0 : World} {rest : List Oper} {n d : Nat} {L : List (Nat × Value)} {l : List Res} {v u : Value}
variable {ty : TypeId} {ps : String} {af : Array Edge}
variable {α : Type} {ek : EK α} {q i m c g o j : Nat} {xs : List α} {x x' : α}
theorem Sep.elt_lend (h : Sep w0 l w) (hi : i < xs.length) (hq : l[q]? = some (Own ek v (xs.set i x))) : ∃ vs, Sep w0 (Part ek x vs :: l.set q (OwnBut ek v (xs.set i x) i (ek.cells x vs))) w ∧ (Part ek x vs :: l.set q (OwnBut ek v (xs.set i x) i (ek.cells x vs)))[q + 1]? = some (OwnBut ek v (xs.set i x) i (ek.cells x vs)) := by
 obtain ⟨vs, hb⟩ := h.borrow hq (List.getElem?_set_self hi)
 have hlt := (List.getElem?_eq_some_iff.1 hq).1
 exact ⟨vs, hb, by rw [List.getElem?_cons_succ, List.getElem?_set_self hlt]⟩
theorem Sep.elt1 (h : Sep w0 l w) (hi : i < xs.length) (hq : l[q]? = some (Own ek (.slice (some ⟨g, o, none⟩) m c) (xs.set i x))) (hu : ∀ vs, (ek.cells x vs)[j]? = some u) : w.cell? ⟨g, o + i * ek.sz + j, none⟩ = some u := by
 obtain ⟨vs, hb, hq'⟩ := h.elt_lend hi hq
 exact hb.but1 hq' (hu vs)
theorem Sep.eltK (h : Sep w0 l w) (hi : i < xs.length) (hq : l[q]? = some (Own ek (.slice (some ⟨g, o, none⟩) m c) (xs.set i x))) : ∃ cs, ek.K w x cs ∧ cs.length = ek.sz ∧ ∀ j u, cs[j]? = some u → w.cell? ⟨g, o + i * ek.sz + j, none⟩ = some u := by
 obtain ⟨g', o', m', c', cs, e, _, _, hk, hz, hc⟩ := Rd.idx (h.own_rd hq) (List.getElem?_set_self hi)
 simp only [Value.slice.injEq, Option.some.injEq, Addr.mk.injEq] at e
 obtain ⟨⟨rfl, rfl, _⟩, rfl, rfl⟩ := e
 exact ⟨cs, hk, hz, hc⟩
theorem set_set_succ {r r' r'' : Res} : ((r :: l.set q r').set (q + 1) r'') = r :: l.set q r'' := by simp
/-- one cell of an element is written -/
theorem wl_estore {T : TypeId} {X Y : Operand} {p : Nat} (x' : α) (hF : Fr n L a) (hS : Sep w0 l w) (hi : i < xs.length) (hq : l[q]? = some (Own ek (.slice (some ⟨g, o, none⟩) m c) (xs.set i x)))
    (hsz : szB P T = some 1) (hp : a.eval X = .pointer (some ⟨g, p, none⟩)) (hpe : p = o + i * ek.sz + j) (hy : a.eval Y = u) (h1 : u.oneCell' = true) (hj : ∀ vs, ((ek.cells x vs)[j]?).isSome = true)
    (hc : ∀ vs, (ek.cells x vs).set j u = ek.cells x' vs) (hn : ∀ vs, ek.inner x' vs = ek.inner x vs)
    (k : ∀ w', Sep w0 (l.set q (Own ek (.slice (some ⟨g, o, none⟩) m c) (xs.set i x'))) w' → wpList P ops Q rest a w') : wpList P ops Q (⟨none, .store T X Y, ty, ps, af, none⟩ :: rest) a w := by
  obtain ⟨vs, hb, hq'⟩ := hS.elt_lend hi hq
  have hlt := (List.getElem?_eq_some_iff.1 hq).1
  refine wl_bstore hF hb hq' hsz hp hpe hy h1 (hj vs) fun w' h' => k w' ?_
  rw [set_set_succ, hc vs] at h'
  have h2 : Sep w0 (Part ek x' vs :: l.set q (OwnBut ek (.slice (some ⟨g, o, none⟩) m c) (xs.set i x) i (ek.cells x' vs))) w' := by
    unfold Part at h' ⊢; rw [hn vs]; exact h'
  have h3 := h2.giveback (q := q) (List.getElem?_set_self hlt) rfl
  rwa [List.set_set, List.set_set] at h3
/-- some cells of an element are written -/
theorem wl_estoren {T : TypeId} {X Y : Operand} {p : Nat} {us : List Value} (x' : α) (hF : Fr n L a) (hS : Sep w0 l w) (hi : i < xs.length) (hq : l[q]? = some (Own ek (.slice (some ⟨g, o, none⟩) m c) (xs.set i x)))
    (hsz : szB P T = some us.length) (hp : a.eval X = .pointer (some ⟨g, p, none⟩)) (hpe : p = o + i * ek.sz + j) (hy : a.eval Y = .agg us.toArray) (h1 : us.all (fun u => u.oneCell') = true) (hj : ∀ vs, longB ((ek.cells x vs).drop j) us = true ∧ (((ek.cells x vs).drop j)[0]?).isSome = true)
    (hc : ∀ vs, (ek.cells x vs).take j ++ us ++ (ek.cells x vs).drop (j + us.length) = ek.cells x' vs) (hn : ∀ vs, ek.inner x' vs = ek.inner x vs)
    (k : ∀ w', Sep w0 (l.set q (Own ek (.slice (some ⟨g, o, none⟩) m c) (xs.set i x'))) w' → wpList P ops Q rest a w') : wpList P ops Q (⟨none, .store T X Y, ty, ps, af, none⟩ :: rest) a w := by
  obtain ⟨vs, hb, hq'⟩ := hS.elt_lend hi hq
  have hlt := (List.getElem?_eq_some_iff.1 hq).1
  refine wl_bstoren hF hb hq' hsz hp hpe hy h1 (hj vs) (hc vs) fun w' h' => k w' ?_
  rw [set_set_succ] at h'
  have h2 : Sep w0 (Part ek x' vs :: l.set q (OwnBut ek (.slice (some ⟨g, o, none⟩) m c) (xs.set i x) i (ek.cells x' vs))) w' := by
    unfold Part at h' ⊢; rw [hn vs]; exact h'
  have h3 := h2.giveback (q := q) (List.getElem?_set_self hlt) rfl
  rwa [List.set_set, List.set_set] at h3
/-- some cells of an element of a row, under any form of the row -/
theorem wl_ostoren {v : Value} {T : TypeId} {X Y : Operand} {p : Nat} {us : List Value} (x' : α) (hF : Fr n L a) (hS : Sep w0 l w) (hq : l[q]? = some (Own ek v xs)) (hv : v = .slice (some ⟨g, o, none⟩) m c) (hx : xs[i]? = some x)
    (hsz : szB P T = some us.length) (hp : a.eval X = .pointer (some ⟨g, p, none⟩)) (hpe : p = o + i * ek.sz + j) (hy : a.eval Y = .agg us.toArray) (h1 : us.all (fun u => u.oneCell') = true) (hj : ∀ vs, longB ((ek.cells x vs).drop j) us = true ∧ (((ek.cells x vs).drop j)[0]?).isSome = true)
    (hc : ∀ vs, (ek.cells x vs).take j ++ us ++ (ek.cells x vs).drop (j + us.length) = ek.cells x' vs) (hn : ∀ vs, ek.inner x' vs = ek.inner x vs)
    (k : ∀ w', Sep w0 (l.set q (Own ek v (xs.set i x'))) w' → wpList P ops Q rest a w') : wpList P ops Q (⟨none, .store T X Y, ty, ps, af, none⟩ :: rest) a w := by
  subst hv
  obtain ⟨hi, e⟩ := List.getElem?_eq_some_iff.1 hx
  have hs : xs.set i x = xs := by rw [← e, List.set_getElem_self]
  exact wl_estoren x' hF hS hi (by rw [hs]; exact hq) hsz hp hpe hy h1 hj hc hn k
/-- one of many parts is put in another's place -/
theorem Sep.put_in {A B : List Res} {r : Res} {k : Nat} (h : Sep w0 (A ++ r :: B) w) (hk : k < A.length) : Sep w0 (A.set k r ++ B) w := by
 refine h.sub (fun i => if i = k then A.length else if i < A.length then i else i + 1) (fun i j _ _ e => ?_) (fun i s hs => ?_)
 · revert e
   repeat' split
   all_goals intro e; omega
 · by_cases e : i = k
   · subst e
     rw [List.getElem?_append_left (by simpa using hk), List.getElem?_set_self hk] at hs
     simp only [if_true]
     rw [List.getElem?_append_right (Nat.le_refl _), Nat.sub_self]; exact hs
   · simp only [if_neg e]
     by_cases e2 : i < A.length
     · rw [List.getElem?_append_left (by simpa using e2), List.getElem?_set_ne (fun x => e x.symm)] at hs
       rw [if_pos e2, List.getElem?_append_left e2]; exact hs
     · rw [List.getElem?_append_right (by simpa using Nat.le_of_not_lt e2), List.length_set] at hs
       rw [if_neg e2, List.getElem?_append_right (by omega), show i + 1 - A.length = (i - A.length) + 1 by omega, List.getElem?_cons_succ]; exact hs
/-- a slice goes into a field of an element: its memory goes with it -/
theorem wl_eslice {β : Type} {ek' : EK β} {T : TypeId} {X Y : Operand} {p k' : Nat} {s : Slv} {ys : List β} (x' : α) (vs' : List Slv → List Slv) (hF : Fr n L a) (hS : Sep w0 (Own ek' (sv s) ys :: l) w) (hi : i < xs.length) (hq : l[q]? = some (Own ek (.slice (some ⟨g, o, none⟩) m c) (xs.set i x)))
    (hsz : szB P T = some 1) (hp : a.eval X = .pointer (some ⟨g, p, none⟩)) (hpe : p = o + i * ek.sz + j) (hy : a.eval Y = sv s) (hj : ∀ vs, ((ek.cells x vs)[j]?).isSome = true)
    (hc : ∀ vs, (ek.cells x vs).set j (sv s) = ek.cells x' (vs' vs)) (hn : ∀ vs, ek.inner x' (vs' vs) = (ek.inner x vs).set k' (Own ek' (sv s) ys)) (hk : ∀ vs, Nat.blt k' (ek.inner x vs).length = true)
    (k : ∀ w', Sep w0 (l.set q (Own ek (.slice (some ⟨g, o, none⟩) m c) (xs.set i x'))) w' → wpList P ops Q rest a w') : wpList P ops Q (⟨none, .store T X Y, ty, ps, af, none⟩ :: rest) a w := by
  have hlt := (List.getElem?_eq_some_iff.1 hq).1
  obtain ⟨vs, hb, hq'⟩ := hS.elt_lend (q := q + 1) hi (by rw [List.getElem?_cons_succ]; exact hq)
  refine wl_bstore hF hb hq' hsz hp hpe hy rfl (hj vs) fun w' h' => k w' ?_
  rw [set_set_succ, hc vs, List.set_cons_succ] at h'
  have h1 := (Sep.many_flat (L := ek.inner x vs) h').put_in (k := k') (by simpa using hk vs)
  rw [← hn vs] at h1
  have h2 : Sep w0 (Part ek x' (vs' vs) :: l.set q (OwnBut ek (.slice (some ⟨g, o, none⟩) m c) (xs.set i x) i (ek.cells x' (vs' vs)))) w' := h1.part_mk rfl
  have h3 := h2.giveback (q := q) (List.getElem?_set_self hlt) rfl
  rwa [List.set_set, List.set_set] at h3
theorem ret0 {fn : Func} {R : Value → World → Prop} (hres : fn.results = #[]) (hF : Fr n L a) (hR : R (.tuple #[]) w) : bodyPost P fn (Ret R) .ret a w := by
 refine ⟨hF.defs, .tuple #[], ?_, _, rfl, hR⟩
 simp [results, hres]
theorem ret0n {fn : Func} {R : Value → World → Prop} (hres : fn.results = #[]) (hF : Fr n L a) (hR : R (.tuple #[]) w) : bodyPost P fn (Ret R) .normal a w := by
 refine ⟨hF.defs, .tuple #[], ?_, _, rfl, hR⟩
 simp [results, hres]
end
theorem Sep.own_nilA {α : Type} {w0 w : World} {l : List Res} (h : Sep w0 l w) (ek : EK α) (A : Option Addr) : Sep w0 (Own ek (.slice A 0 0) [] :: l) w := h.new (Below.refl _ _) ⟨A, 0, 0, rfl, rfl, Nat.zero_le _, .inl ⟨rfl, rfl⟩⟩
theorem Sep.elt_form {α : Type} {ek : EK α} {w0 w : World} {l : List Res} {q i : Nat} {s : Slv} {xs : List α} {x : α} (h : Sep w0 l w) (hq : l[q]? = some (Own ek (sv s) xs)) (hx : xs[i]? = some x) : ∃ g o m c, s = (some ⟨g, o, none⟩, m, c) := by
 obtain ⟨g, o, m, c, cs, e, _⟩ := Rd.idx (h.own_rd hq) hx
 obtain ⟨A, m', c'⟩ := s
 simp only [sv, Value.slice.injEq] at e
 obtain ⟨rfl, rfl, rfl⟩ := e
 exact ⟨g, o, m', c', rfl⟩
theorem Sep.set_form {α : Type} {ek : EK α} {w0 w : World} {l : List Res} {q i : Nat} {v : Value} {xs : List α} {x : α} (h : Sep w0 l w) (hq : l[q]? = some (Own ek v xs)) (hx : xs[i]? = some x) : Sep w0 (l.set q (Own ek v (xs.set i x))) w := by
 obtain ⟨hlt, e⟩ := List.getElem?_eq_some_iff.1 hx
 obtain ⟨hlq, eq⟩ := List.getElem?_eq_some_iff.1 hq
 rw [show xs.set i x = xs from by subst e; exact List.set_getElem_self hlt, ← eq, List.set_getElem_self hlq]; exact h
section
variable {P : Program} {ops : Array Oper} {Q : Exit → Act → World → Prop} {wd W : World} {T : Alcs} {muts : List Nat} {n : Nat} {L : List (Nat × Value)} {l : List Res}
end
theorem calls_unit {P : Program} {f : FuncId} {args : Array Value} {w : World} {V : Value} {R : World → Prop} (h : Calls P f args w (Ret fun u w' => u = V ∧ R w')) : Calls P f args w (Ret fun u w' => ∃ _ : Unit, u = V ∧ R w') :=
  h.mono (by rintro e w' ⟨v, rfl, rfl, hr⟩; exact ⟨_, rfl, (), rfl, hr⟩)
section
variable {w0 w : World} {l : List Res} {ts : List Thread} {t t' : Thread} {p g o m c : Nat} {v : Value}
theorem Sep.thr_lend (h : Sep w0 (Own threadEK (.slice (some ⟨g, o, none⟩) m c) (ts.set p t) :: l) w) (hp : p < ts.length) : ∃ (A0 A1 A2 A3 A4 : Option Addr) (c0 c1 c2 c3 c4 : Nat), (t.found.length ≤ maxLen ∧ t.free.length ≤ maxLen ∧ t.buffer.length ≤ maxLen ∧ t.work.length ≤ maxLen ∧ t.limbo.length ≤ maxLen) ∧ (t.found.length ≤ c0 ∧ t.free.length ≤ c1 ∧ t.buffer.length ≤ c2 ∧ t.work.length ≤ c3 ∧ t.limbo.length ≤ c4) ∧
    Sep w0 (Own intEK (.slice A0 t.found.length c0) t.found :: Own intEK (.slice A1 t.free.length c1) t.free :: Own entryEK (.slice A2 t.buffer.length c2) t.buffer :: Own entryEK (.slice A3 t.work.length c3) t.work :: Own intEK (.slice A4 t.limbo.length c4) t.limbo :: OwnBut threadEK (.slice (some ⟨g, o, none⟩) m c) (ts.set p t) p (t.encv (.slice A0 t.found.length c0) (.slice A1 t.free.length c1) (.slice A2 t.buffer.length c2) (.slice A3 t.work.length c3) (.slice A4 t.limbo.length c4)) :: l) w := by
  obtain ⟨vs, hb, _⟩ := h.elt_lend (q := 0) hp rfl
  replace hb : Sep w0 (Own intEK (sv (vs.getD 0 (none, 0, 0))) t.found :: Own intEK (sv (vs.getD 1 (none, 0, 0))) t.free :: Own entryEK (sv (vs.getD 2 (none, 0, 0))) t.buffer :: Own entryEK (sv (vs.getD 3 (none, 0, 0))) t.work :: Own intEK (sv (vs.getD 4 (none, 0, 0))) t.limbo :: OwnBut threadEK (.slice (some ⟨g, o, none⟩) m c) (ts.set p t) p (t.encv (sv (vs.getD 0 (none, 0, 0))) (sv (vs.getD 1 (none, 0, 0))) (sv (vs.getD 2 (none, 0, 0))) (sv (vs.getD 3 (none, 0, 0))) (sv (vs.getD 4 (none, 0, 0)))) :: l) w := hb.part_open
  obtain ⟨A0, c0, e0, k0, n0⟩ := (hb.own_rd (i := 0) rfl).sl
  obtain ⟨A1, c1, e1, k1, n1⟩ := (hb.own_rd (i := 1) rfl).sl
  obtain ⟨A2, c2, e2, k2, n2⟩ := (hb.own_rd (i := 2) rfl).sl
  obtain ⟨A3, c3, e3, k3, n3⟩ := (hb.own_rd (i := 3) rfl).sl
  obtain ⟨A4, c4, e4, k4, n4⟩ := (hb.own_rd (i := 4) rfl).sl
  rw [e0, e1, e2, e3, e4] at hb
  exact ⟨A0, A1, A2, A3, A4, c0, c1, c2, c3, c4, ⟨n0, n1, n2, n3, n4⟩, ⟨k0, k1, k2, k3, k4⟩, hb⟩
theorem Sep.thr_back {y0 y1 y2 y3 y4 : Slv} {cs : List Value} (h : Sep w0 (Own intEK (sv y0) t'.found :: Own intEK (sv y1) t'.free :: Own entryEK (sv y2) t'.buffer :: Own entryEK (sv y3) t'.work :: Own intEK (sv y4) t'.limbo :: OwnBut threadEK v (ts.set p t) p cs :: l) w)
    (hc : cs = t'.encv (sv y0) (sv y1) (sv y2) (sv y3) (sv y4)) : Sep w0 (Own threadEK v (ts.set p t') :: l) w := by
  have h1 := Sep.part_mk (ek := threadEK) (x := t') (vs := [y0, y1, y2, y3, y4]) (l := OwnBut threadEK v (ts.set p t) p cs :: l) h rfl
  have h2 := h1.giveback (q := 0) rfl hc
  rw [List.set_cons_zero, List.set_set] at h2
  exact h2
theorem Sep.box7 {l : List Res} {i g : Nat} {u0 u1 u2 u3 u4 u5 u6 : Value} {us : List Value} (h : Sep w0 l w) (hi : l[i]? = some (Box g (u0 :: u1 :: u2 :: u3 :: u4 :: u5 :: u6 :: us))) : ∀ j u, [u0, u1, u2, u3, u4, u5, u6][j]? = some u → w.cell? ⟨g, 0 + j, none⟩ = some u := fun j u hu => by
  refine h.box_rd hi j u ?_
  have h1 : ([u0, u1, u2, u3, u4, u5, u6] ++ us)[j]? = some u := by rw [List.getElem?_append_left (List.getElem?_eq_some_iff.1 hu).1]; exact hu
  exact h1
theorem Sep.own_cell {α : Type} {sz : Nat} {enc : α → List Value} {hl : ∀ x, (enc x).length = sz} {h1 : ∀ x u, u ∈ enc x → u.oneCell' = true} {l : List Res} {q g o m c i j : Nat} {xs : List α} {x : α} {u : Value} (h : Sep w0 l w) (hq : l[q]? = some (Own (flatEK sz enc hl h1) (.slice (some ⟨g, o, none⟩) m c) xs)) (hx : xs[i]? = some x) (hu : (enc x)[j]? = some u) : w.cell? ⟨g, o + i * sz + j, none⟩ = some u := by
 obtain ⟨g', o', m', c', e, _, _, hc⟩ := Rd.idxF (h.own_rd hq) hx
 simp only [Value.slice.injEq, Option.some.injEq, Addr.mk.injEq] at e
 obtain ⟨⟨rfl, rfl, _⟩, rfl, rfl⟩ := e
 exact hc j u hu
theorem Sep.own_cuthi {α : Type} {ek : EK α} {l : List Res} {q n c j : Nat} {A : Option Addr} {xs : List α} (h : Sep w0 l w) (hq : l[q]? = some (Own ek (.slice A n c) xs)) (hj : j ≤ n) : Sep w0 (l.set q (Own ek (.slice A j c) (xs.take j))) w := by
 have h1 := h.own_cut hq (Nat.zero_le j) hj
 have ha : ∀ (a : Addr), a.add 0 = a := fun a => Addr.add_zero' a
 have e : cutA A ek.sz c 0 = A := by
   unfold cutA
   split
   · rfl
   · cases A <;> simp [ha]
 rw [e, List.drop_zero, Nat.sub_zero, Nat.sub_zero] at h1
 exact h1
theorem threadK_of {w : World} {t : Thread} {v0 v1 v2 v3 v4 : Value} (h0 : intEK.Rd w v0 t.found) (h1 : intEK.Rd w v1 t.free) (h2 : entryEK.Rd w v2 t.buffer) (h3 : entryEK.Rd w v3 t.work) (h4 : intEK.Rd w v4 t.limbo) : threadEK.K w t (t.encv v0 v1 v2 v3 v4) := ⟨_, _, _, _, _, rfl, h0, h1, h2, h3, h4⟩
end
def _root_.Go.Proofs.YtbgacfdnmbhloaaGreat.Sl.State.encw (s : State) (tl : List Value) (v0 v1 v2 : Value) : List Value := vi s.config.threads :: vi s.config.keys :: vi s.config.capacity :: vi s.config.batch :: vi s.config.policy :: vi s.config.clockMax :: v0 :: v1 :: v2 :: vi s.steps :: vi s.changes :: vi s.retries :: vi s.faults :: tl
def _root_.Go.Proofs.YtbgacfdnmbhloaaGreat.Sl.State.encfw (s : State) (tl : List Value) (v0 v1 v2 : Value) (f : Int) : List Value := vi s.config.threads :: vi s.config.keys :: vi s.config.capacity :: vi s.config.batch :: vi s.config.policy :: vi s.config.clockMax :: v0 :: v1 :: v2 :: vi s.steps :: vi s.changes :: vi s.retries :: vi f :: tl
abbrev JX {X : Type} (W : World) (lf : X → List Res → List Res) (r : List Res) (w : World) : Prop := ∃ x, Sep W (lf x r) w
def TJ (P : Program) (ops : Array Oper) (Q : Exit → Act → World → Prop) (J : World → Prop) (muts is : List Nat) (a : Act) (w : World) : Prop :=
  ∀ listed : Array Bool, listed.size = ops.size → (∀ j, j < ops.size → listed.getD j false = (!is.contains j && !([] : List Nat).contains j)) → wpM P ops (QN Q) J muts is.length listed a w
section
variable {P : Program} {ops : Array Oper} {Q : Exit → Act → World → Prop} {X : Type} {lf : X → List Res → List Res} {r l : List Res} {W : World} {muts : List Nat} {n : Nat} {L : List (Nat × Value)}
theorem tj_load (Xs : List Nat) {i : Nat} {is : List Nat} {o : Oper} {d : Nat} {v : Value} (hk : loadB ops [] muts Xs i is = true) (ho : ops[i]? = some o) (hg : GW ops n L o) (hd : o.dst = some d) (hdn : Nat.ble (d + 1) n = true)
    (hy : ∀ a w' x, Fr n L a → Sep W (lf x r) w' → (execOp a.eval o).run P w' = .ok (.value v) w')
    (k : ∀ a w, Fr n ((d, v) :: L) a → Sep W l w → JX W lf r w → TJ P ops Q (JX W lf r) muts is a w) :
    ∀ a w, Fr n L a → Sep W l w → JX W lf r w → TJ P ops Q (JX W lf r) muts (i :: is) a w := by
  intro a w hF hS hJ listed hsz hls
  simp only [loadB, pureB, ho, Bool.and_eq_true, decide_eq_true_eq, Bool.not_eq_true', List.all_eq_true, bne_iff_ne] at hk
  obtain ⟨⟨⟨⟨⟨⟨⟨⟨⟨k1, k2⟩, k3⟩, k4⟩, k5⟩, k6⟩, k8⟩, x1⟩, x2⟩, x3⟩ := hk
  have hi0 : listed.getD i true = false := by rw [getD_tf (by omega), hls i k1]; simp
  have hrdy : i ∈ Region.ready .any ops listed := by
    refine depsB_yes k5 hi0 (fun k hk => ?_)
    simp only [Bool.and_eq_true, decide_eq_true_eq, bne_iff_ne, Bool.not_eq_true', List.all_eq_true] at hk
    obtain ⟨⟨⟨q1, q2⟩, q3⟩, q4⟩ := hk
    rw [hls k q1]
    have h1 : (i :: is).contains k = false := by rw [List.contains_cons, q3]; simp [q2]
    rw [h1]; rfl
  refine wpM_firstX (X := Xs) ho (by simpa using x1) (fun m hm => List.contains_iff_mem.1 (x2 m hm)) (Region.noSelect_spec k4) (fun c a w h => by cases h.1) (fun m hm om hom => ?_) _ listed a w ?_ hrdy (.inl ⟨hg a hF, fun w ⟨x, hw⟩ => hy a w x hF hw⟩) hJ ?_ ?_
  · have := (x3 m hm).2
    unfold waitsB at this
    rw [hom] at this
    obtain ⟨e, he, h2⟩ := Array.any_eq_true'.1 this
    simp only [Bool.and_eq_true, Bool.or_eq_true, beq_iff_eq] at h2
    exact ⟨e, he, h2.1, h2.2.imp id List.contains_iff_mem.1⟩
  · intro j oj hj hne hun hno
    have hlt := (Array.getElem?_eq_some_iff.1 hj).1
    rw [getD_tf (by omega), hls j hlt] at hun
    have hmem : j ∈ is ++ ([] : Alcs).map (·.1) := by
      rw [List.mem_append]
      left
      simp [List.contains_cons, hne] at hun; exact hun
    have := k8 j hmem
    simp only [hj, Bool.or_eq_true] at this
    rcases this with h | h
    · unfold waitsB at h
      rw [hj] at h
      obtain ⟨e, he, h2⟩ := Array.any_eq_true'.1 h
      simp only [Bool.and_eq_true, beq_iff_eq] at h2
      exact (hno e he h2.1 h2.2).elim
    · exact h
  · unfold phB
    rw [List.all_eq_true]
    intro m hm
    have hm' := (x3 m hm).1
    rcases Nat.lt_or_ge m ops.size with hlt | hge
    · rw [hls m hlt]
      have : (i :: is).contains m = true := by rw [List.contains_cons, hm']; simp
      rw [this]; rfl
    · simp [Array.getD, hsz, Nat.not_lt.2 hge]
  · have := k (a.put (some d) v) w (hF.put hdn v) hS hJ (listed.setIfInBounds i true) (by simp [hsz]) (listed_set k1 hsz k2 (by simp) hls)
    rw [hd]
    exact this
theorem tj_pureY {i : Nat} {is : List Nat} {o : Oper} {d : Nat} {v : Value} (hk : pureB ops [] muts i is = true) (ho : ops[i]? = some o) (hd : o.dst = some d) (hdn : Nat.ble (d + 1) n = true)
    (hy : ∀ a, Fr n L a → YieldsIf P ops (fun _ => True) o v a)
    (k : ∀ a w, Fr n ((d, v) :: L) a → Sep W l w → JX W lf r w → TJ P ops Q (JX W lf r) muts is a w) :
    ∀ a w, Fr n L a → Sep W l w → JX W lf r w → TJ P ops Q (JX W lf r) muts (i :: is) a w := by
  intro a w hF hS hJ listed hsz hls
  simp only [pureB, ho, Bool.and_eq_true, decide_eq_true_eq, Bool.not_eq_true', List.all_eq_true, bne_iff_ne] at hk
  obtain ⟨⟨⟨⟨⟨⟨k1, k2⟩, k3⟩, k4⟩, k5⟩, k6⟩, k8⟩ := hk
  have hi0 : listed.getD i true = false := by rw [getD_tf (by omega), hls i k1]; simp
  have hrdy : i ∈ Region.ready .any ops listed := by
    refine depsB_yes k5 hi0 (fun k hk => ?_)
    simp only [Bool.and_eq_true, decide_eq_true_eq, bne_iff_ne, Bool.not_eq_true', List.all_eq_true] at hk
    obtain ⟨⟨⟨q1, q2⟩, q3⟩, q4⟩ := hk
    rw [hls k q1]
    have h1 : (i :: is).contains k = false := by rw [List.contains_cons, q3]; simp [q2]
    rw [h1]; rfl
  refine wpM_firstP ho (by simpa using k6) (Region.noSelect_spec k4) (fun c a w h => by cases h.1) _ listed a w ?_ hrdy (hy a hF) (fun _ => hJ) ?_
  · intro j oj hj hne hun hno
    have hlt := (Array.getElem?_eq_some_iff.1 hj).1
    rw [getD_tf (by omega), hls j hlt] at hun
    have hmem : j ∈ is ++ ([] : Alcs).map (·.1) := by
      rw [List.mem_append]
      left
      simp [List.contains_cons, hne] at hun; exact hun
    have := k8 j hmem
    simp only [hj, Bool.or_eq_true] at this
    rcases this with h | h
    · unfold waitsB at h
      rw [hj] at h
      obtain ⟨e, he, h2⟩ := Array.any_eq_true'.1 h
      simp only [Bool.and_eq_true, beq_iff_eq] at h2
      exact (hno e he h2.1 h2.2).elim
    · exact h
  · have := k (a.put (some d) v) w (hF.put hdn v) hS hJ (listed.setIfInBounds i true) (by simp [hsz]) (listed_set k1 hsz k2 (by simp) hls)
    rw [hd]
    exact this
theorem tj_pure {i : Nat} {is : List Nat} {o : Oper} {d : Nat} {v : Value} (hk : pureB ops [] muts i is = true) (ho : ops[i]? = some o) (hg : GW ops n L o) (hd : o.dst = some d) (hdn : Nat.ble (d + 1) n = true)
    (hy : ∀ a w', Fr n L a → (execOp a.eval o).run P w' = .ok (.value v) w')
    (k : ∀ a w, Fr n ((d, v) :: L) a → Sep W l w → JX W lf r w → TJ P ops Q (JX W lf r) muts is a w) :
    ∀ a w, Fr n L a → Sep W l w → JX W lf r w → TJ P ops Q (JX W lf r) muts (i :: is) a w :=
  tj_pureY hk ho hd hdn (fun a hF => .inl ⟨hg a hF, fun w _ => hy a w hF⟩) k
theorem tj_split {is : List Nat} (t : Nat) {b : Bool} (hl : lk L t = some (.bool b))
    (h1 : b = true → ∀ a w, Fr n ((t, .bool true) :: L) a → Sep W l w → JX W lf r w → TJ P ops Q (JX W lf r) muts is a w)
    (h2 : b = false → ∀ a w, Fr n ((t, .bool false) :: L) a → Sep W l w → JX W lf r w → TJ P ops Q (JX W lf r) muts is a w) :
    ∀ a w, Fr n L a → Sep W l w → JX W lf r w → TJ P ops Q (JX W lf r) muts is a w := by
  intro a w hF hS hJ
  cases b with
  | true => exact h1 rfl a w (hF.keep hF hl) hS hJ
  | false => exact h2 rfl a w (hF.keep hF hl) hS hJ
/-- the next in order -/
theorem tj_step {i : Nat} {is : List Nat} (hk : stepB ops [] i is = true)
    (hop : ∀ a w, Fr n L a → Sep W l w → JX W lf r w → wpOp P ops (QN Q) i (fun a' w' => JX W lf r w' ∧ TJ P ops Q (JX W lf r) muts is a' w') a w) :
    ∀ a w, Fr n L a → Sep W l w → JX W lf r w → TJ P ops Q (JX W lf r) muts (i :: is) a w := by
  simp only [stepB, Bool.and_eq_true, decide_eq_true_eq, Bool.not_eq_true', List.all_eq_true, bne_iff_ne] at hk
  obtain ⟨⟨⟨⟨k1, k2⟩, k3⟩, k4⟩, k5⟩ := hk
  intro a w hF hS hJ listed hsz hls
  have hmem : ∀ j ∈ Region.ready .any ops listed, j = i := fun j hj => by
    have h0 := (mem_ready.1 hj).1
    obtain ⟨o, ho, _⟩ := (mem_ready.1 hj).2
    have hlt := (Array.getElem?_eq_some_iff.1 ho).1
    rw [getD_tf (by omega), hls j hlt] at h0
    by_cases e : j = i
    · exact e
    · have hm : j ∈ is := by
        simp [List.contains_cons, e] at h0; exact h0
      refine (waitsB_no (k4 j hm) (fun k hk => ?_) hj).elim
      rcases Nat.lt_or_ge k ops.size with hlt | hge
      · rw [hls k hlt]
        have : (i :: is).contains k = true := by simpa [List.contains_cons] using hk
        rw [this]; rfl
      · simp [Array.getD, hsz, Nat.not_lt.2 hge]
  have hrdy : i ∈ Region.ready .any ops listed := by
    refine depsB_yes k5 ?_ (fun k hk => ?_)
    · rw [getD_tf (by omega), hls i k1]; simp
    · simp only [Bool.and_eq_true, decide_eq_true_eq, bne_iff_ne, Bool.not_eq_true'] at hk
      rw [hls k hk.1.1]
      have : (i :: is).contains k = false := by rw [List.contains_cons, hk.2]; simp [hk.1.2]
      rw [this]; rfl
  refine ⟨fun h => (by rw [h] at hrdy; cases hrdy), fun j hj => ?_⟩
  obtain rfl := hmem j hj
  exact wpOp_mono (fun a' w' h => ⟨fun _ => h.1, h.2 (listed.setIfInBounds j true) (by simp [hsz]) (listed_set k1 hsz k2 (by simp) hls)⟩) (hop a w hF hS hJ)
/-- a call that changes parts, the others' reads stand -/
theorem tj_mc {Γ : Type} {i : Nat} {is : List Nat} {o : Oper} {d : Nat} {f : FuncId} {args : Array Value} {val : Γ → Value} {l2 : Γ → List Res} (hk : stepB ops [] i is = true) (ho : ops[i]? = some o) (hg : GW ops n L o) (hd : o.dst = some d) (hdn : Nat.ble (d + 1) n = true)
    (hr : ∀ a w, Fr n L a → (execOp a.eval o).run P w = .ok (.enter f args) w) (hc : ∀ w, Sep W l w → Calls P f args w (Ret fun v w' => ∃ γ, v = val γ ∧ Sep W (l2 γ) w'))
    (hx : ∀ γ w', Sep W (l2 γ) w' → JX W lf r w')
    (k : ∀ γ a w, Fr n ((d, val γ) :: L) a → Sep W (l2 γ) w → JX W lf r w → TJ P ops Q (JX W lf r) muts is a w) :
    ∀ a w, Fr n L a → Sep W l w → JX W lf r w → TJ P ops Q (JX W lf r) muts (i :: is) a w := by
  refine tj_step hk (fun a w hF hS hJ => wpOp_ofW ho (hg a hF) ?_)
  unfold Oper.wp
  rw [hr a w hF, Oper.upon_enter]
  refine (hc w hS).mono ?_
  rintro e w1 ⟨v, rfl, γ, rfl, hS⟩
  show _ ∧ _
  rw [hd]
  exact ⟨hx γ w1 hS, k γ _ _ (hF.put hdn _) hS (hx γ w1 hS)⟩
/-- a call that reads -/
theorem tj_rd {i : Nat} {is : List Nat} {o : Oper} {d : Nat} {f : FuncId} {args : Array Value} {v : Value} (hk : stepB ops [] i is = true) (ho : ops[i]? = some o) (hg : GW ops n L o) (hd : o.dst = some d) (hdn : Nat.ble (d + 1) n = true)
    (hr : ∀ a w, Fr n L a → (execOp a.eval o).run P w = .ok (.enter f args) w) (hc : ∀ w, Sep W l w → Calls P f args w (Ret fun u w' => u = v ∧ Below w.heap.size w w'))
    (k : ∀ a w, Fr n ((d, v) :: L) a → Sep W l w → JX W lf r w → TJ P ops Q (JX W lf r) muts is a w) :
    ∀ a w, Fr n L a → Sep W l w → JX W lf r w → TJ P ops Q (JX W lf r) muts (i :: is) a w := by
  refine tj_step hk (fun a w hF hS hJ => wpOp_ofW ho (hg a hF) ?_)
  unfold Oper.wp
  rw [hr a w hF, Oper.upon_enter]
  refine (hc w hS).mono ?_
  rintro e w1 ⟨u, rfl, rfl, hb⟩
  show _ ∧ _
  rw [hd]
  obtain ⟨x, hx⟩ := hJ
  exact ⟨⟨x, hx.ext hb⟩, k _ _ (hF.put hdn _) (hS.ext hb) ⟨x, hx.ext hb⟩⟩
theorem wpM_seqJ {S : World → Prop} : ∀ (ts : List Nat) (tl : List Oper) (listed : Array Bool) (a : Act) (w : World), tailB ops ts = true → (∀ m ∈ ts, m ∈ muts) → ts.map (fun i => ops[i]?) = tl.map some → listed.size = ops.size →
    (∀ j, j < ops.size → listed.getD j false = !ts.contains j) → wpList P ops (QN Q) tl a w → wpM P ops (QN Q) S muts ts.length listed a w
  | [], tl, listed, a, w, _, _, hts, hsz, hls, h => by
    obtain rfl : tl = [] := by cases tl <;> simp_all
    refine ⟨?_, h⟩
    apply List.eq_nil_iff_forall_not_mem.2
    intro j hj
    obtain ⟨o, ho, _⟩ := (mem_ready.1 hj).2
    have hlt := (Array.getElem?_eq_some_iff.1 ho).1
    have h0 := (mem_ready.1 hj).1
    rw [getD_tf (by omega), hls j hlt] at h0
    simp at h0
  | i :: is, tl, listed, a, w, hB, hmu, hts, hsz, hls, h => by
    simp only [tailB, Bool.and_eq_true, decide_eq_true_eq, Bool.not_eq_true', List.all_eq_true] at hB
    obtain ⟨⟨⟨⟨k1, k2⟩, k4⟩, k5⟩, k6⟩ := hB
    match tl, hts with
    | [], hts => simp at hts
    | o :: tl, hts =>
      simp only [List.map_cons, List.cons.injEq] at hts
      have hrdy : i ∈ Region.ready .any ops listed := by
        refine depsB_yes k5 ?_ (fun k hk => ?_)
        · rw [getD_tf (by omega), hls i k1]; simp
        · simp only [Bool.and_eq_true, decide_eq_true_eq, bne_iff_ne, Bool.not_eq_true'] at hk
          rw [hls k hk.1.1]
          have : (i :: is).contains k = false := by rw [List.contains_cons, hk.2]; simp [hk.1.2]
          rw [this]; rfl
      refine ⟨fun h => (by rw [h] at hrdy; cases hrdy), fun j hj => ?_⟩
      have h0 := (mem_ready.1 hj).1
      obtain ⟨oj, hoj, _⟩ := (mem_ready.1 hj).2
      have hlt := (Array.getElem?_eq_some_iff.1 hoj).1
      rw [getD_tf (by omega), hls j hlt] at h0
      by_cases e : j = i
      · subst e
        have hl' : ∀ k, k < ops.size → (listed.setIfInBounds j true).getD k false = !is.contains k := fun k hk => by
          have := listed_set (rem := []) k1 hsz k2 (by simp) (fun k hk => by rw [hls k hk]; simp) k hk
          rw [this]; simp
        have hph : ¬ phB muts (listed.setIfInBounds j true) = true := by
          intro hp
          have := List.all_eq_true.1 hp j (hmu j (by simp))
          simp [Array.getD, hsz, k1] at this
        unfold wpOp
        rw [hts.1]
        simp only []
        unfold wpList at h
        split
        · rename_i hw
          rw [if_pos hw] at h
          exact h.imp (Oper.wp_mono (fun a w h => ⟨fun x => (hph x).elim, wpM_seqJ is tl _ a w k6 (fun m hm => hmu m (by simp [hm])) hts.2 (by simp [hsz]) hl' h⟩)) id
        · rename_i hw
          rw [if_neg hw] at h
          exact ⟨fun x => (hph x).elim, wpM_seqJ is tl _ _ w k6 (fun m hm => hmu m (by simp [hm])) hts.2 (by simp [hsz]) hl' h⟩
      · have hm : j ∈ is := by
          simp [List.contains_cons, e] at h0; exact h0
        refine (waitsB_no (k4 j hm) (fun k hk => ?_) hj).elim
        rcases Nat.lt_or_ge k ops.size with hlt | hge
        · rw [hls k hlt]
          have : (i :: is).contains k = true := by simpa [List.contains_cons] using hk
          rw [this]; rfl
        · simp [Array.getD, hsz, Nat.not_lt.2 hge]
theorem tj_fin {ts : List Nat} {tl : List Oper} (hk : tailB ops ts = true) (hts : ts.map (fun i => ops[i]?) = tl.map some)
    (k : ∀ a w, Fr n L a → Sep W l w → wpList P ops (QN Q) tl a w) :
    ∀ a w, Fr n L a → Sep W l w → JX W lf r w → TJ P ops Q (JX W lf r) ts ts a w :=
  fun a w hF hS hJ listed hsz hls => wpM_seqJ ts tl listed a w hk (fun m hm => hm) hts hsz (fun j hj => by rw [hls j hj]; simp) (k a w hF hS)
theorem wp_region_J {id : Nat} {lo : List Oper} {is : List Nat} {a : Act} {w : World} (lf : X → List Res → List Res) (r : List Res) (x : X) (muts : List Nat) (hm : P.follows .mixedOrders = true) (hF : Fr n L a) (hS : Sep W (lf x r) w)
    (hc : ((List.range lo.length).all (fun j => is.contains j) && is.length == lo.length) = true)
    (k : ∀ a w, Fr n L a → Sep W (lf x r) w → JX W lf r w → TJ P lo.toArray Q (JX W lf r) muts is a w) : (Code.region id lo.toArray true).wp P Q a w := by
  have hw : (Code.region id lo.toArray true).wp P (QN Q) a w := by
    refine wp_region_any hm (wpAny_of_M (S := JX W lf r) (muts := muts) _ _ _ _ ?_)
    simp only [Bool.and_eq_true, List.all_eq_true, List.mem_range, beq_iff_eq] at hc
    have := k a { w with drawn := w.drawn + 1 } hF hS.drawn ⟨x, hS.drawn⟩ (Array.replicate lo.toArray.size false) (by simp) (fun j hj => by
          have := hc.1 j (by simpa using hj)
          simp only [List.size_toArray] at hj
          rw [this]; simp [Array.getD, hj])
    rw [hc.2] at this
    simpa using this
  exact wp_mono hw (fun e a w ⟨h1, h2⟩ => by subst h1; exact h2)
end
/-- places of fields; types of one cell; types of several and how many; types of slices -/
structure Tab where
  offs : List (Nat × Nat × Nat)
  scs : List Nat
  ags : List (Nat × Nat)
  sls : List Nat
def slcB (P : Program) (t : TypeId) : Bool := match P.underlying t with
  | some (.slice e) => Nat.beq e (P.elem t)
  | _ => false
def Tab.okB (P : Program) (T : Tab) : Bool := T.offs.all (fun e => decide (offB P e.1 e.2.1 = some e.2.2)) && T.scs.all (scalB P) && T.ags.all (fun e => aggB P e.1 && decide (szB P e.1 = some e.2)) && T.sls.all (slcB P)
def offT : List (Nat × Nat × Nat) → Nat → Nat → Option Nat
  | [], _, _ => none
  | (t, f, m) :: l, t', f' => cond (Nat.beq t t' && Nat.beq f f') (some m) (offT l t' f')
def memT : List Nat → Nat → Bool
  | [], _ => false
  | t :: l, t' => cond (Nat.beq t t') true (memT l t')
def agT : List (Nat × Nat) → Nat → Option Nat
  | [], _ => none
  | (t, m) :: l, t' => cond (Nat.beq t t') (some m) (agT l t')
def binV : BinOp → Int → Int → Option Value
  | .add, m, q => some (.int .i64 (IntKind.i64.wrap (m + q)))
  | .sub, m, q => some (.int .i64 (IntKind.i64.wrap (m - q)))
  | .mul, m, q => some (.int .i64 (IntKind.i64.wrap (m * q)))
  | .eql, m, q => some (.bool (decide (m = q)))
  | .neq, m, q => some (.bool (!decide (m = q)))
  | .lss, m, q => some (.bool (decide (m < q)))
  | .leq, m, q => some (.bool (decide (m ≤ q)))
  | .gtr, m, q => some (.bool (decide (q < m)))
  | .geq, m, q => some (.bool (decide (q ≤ m)))
  | _, _, _ => none
def pureV (T : Tab) (L : List (Nat × Value)) : Go.Op → Option Value
  | .move x => oval L x
  | .assign x => oval L x
  | .nilCheck x => match oval L x with
    | some (.pointer (some ⟨g, o, none⟩)) => some (.pointer (some ⟨g, o, none⟩))
    | _ => none
  | .fieldAddr t x f => match oval L x with
    | some (.pointer (some ⟨g, o, none⟩)) => match offT T.offs t f with
      | some m => some (.pointer (some ⟨g, o + m, none⟩))
      | none => none
    | _ => none
  | .binOp op _ x y _ => match oval L x with
    | some (.int .i64 m) => match oval L y with
      | some (.int .i64 q) => binV op m q
      | _ => none
    | _ => none
  | .unOp .not _ x => match oval L x with
    | some (.bool b) => some (.bool (!b))
    | _ => none
  | .pick c x y => match oval L c with
    | some (.bool true) => oval L x
    | some (.bool false) => oval L y
    | _ => none
  | .extract x i => match oval L x with
    | some (.tuple us) => us[i]?
    | _ => none
  | .call ⟨.builtin .len, ⟨[x]⟩, ⟨[t]⟩⟩ => match oval L x with
    | some (.slice _ m _) => cond (memT T.sls t) (some (.int .i64 (m : Int))) none
    | _ => none
  | _ => none
/-- a load out of a box: what it gives, and the block it reads -/
def loadV (T : Tab) (cs : List Value) (L : List (Nat × Value)) : Go.Op → Option (Value × Nat)
  | .load t x => match oval L x with
    | some (.pointer (some ⟨g, o, none⟩)) => match memT T.scs t with
      | true => match cs[o]? with
        | some u => some (u, g)
        | none => none
      | false => match agT T.ags t with
        | some sz => cond (Nat.beq o 0 && Nat.beq sz cs.length) (some (.agg cs.toArray, g)) none
        | none => none
    | _ => none
  | _ => none
/-- a run of m operations: the slots then, what is left, the blocks that were read -/
def gos (T : Tab) (ops : Array Oper) (n : Nat) (cs : List Value) : Nat → List Oper → List (Nat × Value) → Option (List (Nat × Value) × List Oper × List Nat)
  | 0, l, L => some (L, l, [])
  | m + 1, [], L => none
  | m + 1, o :: l, L => match o.dst with
    | none => none
    | some d => match Nat.ble (d + 1) n with
      | false => none
      | true => match wantL ops L o with
        | none => none
        | some false => gos T ops n cs m l ((d, undef) :: L)
        | some true => match pureV T L o.op with
          | some v => gos T ops n cs m l ((d, v) :: L)
          | none => match loadV T cs L o.op with
            | none => none
            | some (v, g) => match gos T ops n cs m l ((d, v) :: L) with
              | none => none
              | some (L', l', gs) => some (L', l', g :: gs)
section
variable {P : Program} {ops : Array Oper} {Q : Exit → Act → World → Prop} {a : Act} {w w' w0 : World} {rest : List Oper} {o : Oper} {n d : Nat} {L L' : List (Nat × Value)} {v : Value} {Qa : Act → Prop} {T : Tab} {t f m : Nat}
theorem offT_of : ∀ {l : List (Nat × Nat × Nat)}, l.all (fun e => decide (offB P e.1 e.2.1 = some e.2.2)) = true → offT l t f = some m → offB P t f = some m
  | [], _, h => by simp [offT] at h
  | (t', f', m') :: l, ha, h => by
    simp only [List.all_cons, Bool.and_eq_true, decide_eq_true_eq] at ha
    simp only [offT] at h
    cases hb : (Nat.beq t' t && Nat.beq f' f) with
    | true =>
      rw [hb] at h
      simp only [Bool.and_eq_true] at hb
      have e1 := Nat.eq_of_beq_eq_true hb.1
      have e2 := Nat.eq_of_beq_eq_true hb.2
      subst e1; subst e2
      simp only [cond_true, Option.some.injEq] at h
      subst h; exact ha.1
    | false => rw [hb] at h; exact offT_of ha.2 h
theorem memT_of {q : Nat → Bool} : ∀ {l : List Nat}, l.all q = true → memT l t = true → q t = true
  | [], _, h => by simp [memT] at h
  | t' :: l, ha, h => by
    simp only [List.all_cons, Bool.and_eq_true] at ha
    simp only [memT] at h
    cases hb : Nat.beq t' t with
    | true => have e := Nat.eq_of_beq_eq_true hb; subst e; exact ha.1
    | false => rw [hb] at h; exact memT_of ha.2 h
theorem agT_of : ∀ {l : List (Nat × Nat)}, l.all (fun e => aggB P e.1 && decide (szB P e.1 = some e.2)) = true → agT l t = some m → aggB P t = true ∧ szB P t = some m
  | [], _, h => by simp [agT] at h
  | (t', m') :: l, ha, h => by
    simp only [List.all_cons, Bool.and_eq_true, decide_eq_true_eq] at ha
    simp only [agT] at h
    cases hb : Nat.beq t' t with
    | true =>
      have e := Nat.eq_of_beq_eq_true hb; subst e
      rw [hb] at h; simp only [cond_true, Option.some.injEq] at h; subst h
      exact ha.1
    | false => rw [hb] at h; exact agT_of ha.2 h
theorem slcB_of (h : slcB P t = true) : P.underlying t = some (.slice (P.elem t)) := by
 unfold slcB at h
 split at h
 · rename_i e he
   rw [he, Nat.eq_of_beq_eq_true h]
 · cases h
theorem pureV_run (hT : T.okB P = true) (hF : Fr n L a) (h : pureV T L o.op = some v) : (execOp a.eval o).run P w = .ok (.value v) w := by
 unfold Tab.okB at hT
 simp only [Bool.and_eq_true] at hT
 obtain ⟨⟨⟨h1, h2⟩, h3⟩, h4⟩ := hT
 obtain ⟨D, op, ty, ps, af, gd⟩ := o
 dsimp only at h
 unfold pureV at h
 split at h
 · exact r_move (oval_ev hF h)
 · exact r_assign (oval_ev hF h)
 · split at h
   · rename_i hx; cases h; exact r_nilCheck (oval_ev hF hx)
   · cases h
 · split at h
   · rename_i hx
     split at h
     · rename_i hm; cases h; exact r_field (offT_of h1 hm) (oval_ev hF hx)
     · cases h
   · cases h
 · rename_i op t x y t'
   split at h
   · rename_i mm hx
     split at h
     · rename_i q hy
       have ex := oval_ev hF hx
       have ey := oval_ev hF hy
       cases op <;> simp only [binV] at h <;> first | (cases h; done) | (cases h; first | exact r_add ex ey | exact r_sub ex ey | exact r_mul ex ey | exact r_eql ex ey | exact r_neq ex ey | exact r_lss ex ey | exact r_leq ex ey | exact r_gtr ex ey | exact r_geq ex ey)
     · cases h
   · cases h
 · split at h
   · rename_i hx; cases h; exact r_not (oval_ev hF hx)
   · cases h
 · split at h
   · rename_i hx; exact r_pick_t (oval_ev hF hx) (oval_ev hF h)
   · rename_i hx; exact r_pick_f (oval_ev hF hx) (oval_ev hF h)
   · cases h
 · split at h
   · rename_i hx; exact r_extract (oval_ev hF hx) h
   · cases h
 · split at h
   · rename_i hx
     cases hm : memT T.sls _ with
     | true => rw [hm] at h; cases h; exact r_len (slcB_of (memT_of h4 hm)) (oval_ev hF hx)
     | false => rw [hm] at h; cases h
   · cases h
 · cases h
theorem loadV_run {cs : List Value} {g : Nat} (hT : T.okB P = true) (hF : Fr n L a) (hb : ∀ j u, cs[j]? = some u → w.cell? ⟨g, j, none⟩ = some u) (h : loadV T cs L o.op = some (v, g)) : (execOp a.eval o).run P w = .ok (.value v) w := by
 unfold Tab.okB at hT
 simp only [Bool.and_eq_true] at hT
 obtain ⟨⟨⟨h1, h2⟩, h3⟩, h4⟩ := hT
 obtain ⟨D, op, ty, ps, af, gd⟩ := o
 dsimp only at h
 unfold loadV at h
 split at h
 · split at h
   · rename_i hx
     split at h
     · rename_i hs
       split at h
       · rename_i hu
         simp only [Option.some.injEq, Prod.mk.injEq] at h
         obtain ⟨rfl, rfl⟩ := h
         exact r_load1 (memT_of h2 hs) (oval_ev hF hx) (hb _ _ hu)
       · cases h
     · split at h
       · rename_i sz hs
         obtain ⟨e1, e2⟩ := agT_of h3 hs
         rename_i g' q _ _ _
         cases hl : (Nat.beq q 0 && Nat.beq sz cs.length) with
         | true =>
           rw [hl] at h
           simp only [cond_true, Option.some.injEq, Prod.mk.injEq] at h
           obtain ⟨rfl, rfl⟩ := h
           simp only [Bool.and_eq_true] at hl
           have e := Nat.eq_of_beq_eq_true hl.1
           subst e
           exact r_loadn e1 (oval_ev hF hx) (fun j u hu => by rw [Nat.zero_add]; exact hb _ _ hu) (by rw [e2, Nat.eq_of_beq_eq_true hl.2])
         | false => rw [hl] at h; cases h
       · cases h
   · cases h
 · cases h
theorem gos_wl (hT : T.okB P = true) {cs : List Value} {g : Nat} (hb : ∀ j u, cs[j]? = some u → w.cell? ⟨g, j, none⟩ = some u) : ∀ {m : Nat} {l : List Oper} {L : List (Nat × Value)} {a : Act} {gs : List Nat} {L' : List (Nat × Value)}, Fr n L a → gos T ops n cs m l L = some (L', rest, gs) → (∀ x ∈ gs, x = g) → (∀ a, Fr n L' a → wpList P ops Q rest a w) → wpList P ops Q l a w
  | 0, l, L, a, gs, L', hF, h, hg, k => by
    simp only [gos, Option.some.injEq, Prod.mk.injEq] at h
    obtain ⟨rfl, rfl, rfl⟩ := h
    exact k a hF
  | m + 1, [], L, a, gs, L', hF, h, hg, k => by simp [gos] at h
  | m + 1, o :: l, L, a, gs, L', hF, h, hg, k => by
    simp only [gos] at h
    cases hd : o.dst with
    | none => rw [hd] at h; cases h
    | some d =>
      rw [hd] at h
      dsimp only at h
      cases hdn : Nat.ble (d + 1) n with
      | false => rw [hdn] at h; cases h
      | true =>
        rw [hdn] at h
        dsimp only at h
        cases hw : wantL ops L o with
        | none => rw [hw] at h; cases h
        | some c =>
          rw [hw] at h
          have hwn := want_of (ops := ops) hF hw
          unfold wpList
          rw [hwn]
          cases c with
          | false =>
            dsimp only at h
            simp only [Bool.false_eq_true, if_false, hd]
            exact gos_wl hT hb (hF.put hdn undef) h hg k
          | true =>
            dsimp only at h
            rw [if_pos rfl]
            unfold Oper.wp
            cases hm : pureV T L o.op with
            | some v =>
              rw [hm] at h
              dsimp only at h
              rw [pureV_run hT hF hm, Oper.upon_value]
              refine .inl ?_
              show wpList P ops Q l (a.put o.dst v) w
              rw [hd]
              exact gos_wl hT hb (hF.put hdn v) h hg k
            | none =>
              rw [hm] at h
              dsimp only at h
              cases hl : loadV T cs L o.op with
              | none => rw [hl] at h; cases h
              | some q =>
                obtain ⟨v, g'⟩ := q
                rw [hl] at h
                dsimp only at h
                cases hr : gos T ops n cs m l ((d, v) :: L) with
                | none => rw [hr] at h; cases h
                | some z =>
                  obtain ⟨L1, l1, gs1⟩ := z
                  rw [hr] at h
                  simp only [Option.some.injEq, Prod.mk.injEq] at h
                  obtain ⟨e1, e2, e3⟩ := h
                  have hr' : gos T ops n cs m l ((d, v) :: L) = some (L', rest, gs1) := by rw [hr, e1, e2]
                  have eg : g' = g := hg g' (e3 ▸ List.mem_cons_self)
                  have hl' : loadV T cs L o.op = some (v, g) := by rw [hl, eg]
                  rw [loadV_run hT hF hb hl', Oper.upon_value]
                  refine .inl ?_
                  show wpList P ops Q l (a.put o.dst v) w
                  rw [hd]
                  exact gos_wl hT hb (hF.put hdn v) hr' (fun x hx => hg x (e3 ▸ List.mem_cons_of_mem _ hx)) k
theorem gos_wq (hT : T.okB P = true) {cs : List Value} {g : Nat} (hb : ∀ w', Below w.heap.size w w' → ∀ j u, cs[j]? = some u → w'.cell? ⟨g, j, none⟩ = some u) : ∀ {m : Nat} {l : List Oper} {L : List (Nat × Value)} {a : Act} {gs : List Nat} {L' : List (Nat × Value)}, Fr n L a → gos T ops n cs m l L = some (L', rest, gs) → (∀ x ∈ gs, x = g) → (∀ a, Fr n L' a → wpQuiet P ops (fun w' => Below w.heap.size w w') Qa rest a) → wpQuiet P ops (fun w' => Below w.heap.size w w') Qa l a
  | 0, l, L, a, gs, L', hF, h, hg, k => by
    simp only [gos, Option.some.injEq, Prod.mk.injEq] at h
    obtain ⟨rfl, rfl, rfl⟩ := h
    exact k a hF
  | m + 1, [], L, a, gs, L', hF, h, hg, k => by simp [gos] at h
  | m + 1, o :: l, L, a, gs, L', hF, h, hg, k => by
    simp only [gos] at h
    cases hd : o.dst with
    | none => rw [hd] at h; cases h
    | some d =>
      rw [hd] at h
      dsimp only at h
      cases hdn : Nat.ble (d + 1) n with
      | false => rw [hdn] at h; cases h
      | true =>
        rw [hdn] at h
        dsimp only at h
        cases hw : wantL ops L o with
        | none => rw [hw] at h; cases h
        | some c =>
          rw [hw] at h
          have hwn := want_of (ops := ops) hF hw
          unfold wpQuiet
          rw [hwn]
          cases c with
          | false =>
            dsimp only at h
            simp only [Bool.false_eq_true, if_false, hd]
            exact gos_wq hT hb (hF.put hdn undef) h hg k
          | true =>
            dsimp only at h
            rw [if_pos rfl]
            cases hm : pureV T L o.op with
            | some v =>
              rw [hm] at h
              dsimp only at h
              refine ⟨v, fun w' hw' => ?_, ?_⟩
              · unfold Oper.quietAt
                rw [pureV_run hT hF hm]
                exact ⟨rfl, rfl⟩
              · rw [hd]; exact gos_wq hT hb (hF.put hdn v) h hg k
            | none =>
              rw [hm] at h
              dsimp only at h
              cases hl : loadV T cs L o.op with
              | none => rw [hl] at h; cases h
              | some q =>
                obtain ⟨v, g'⟩ := q
                rw [hl] at h
                dsimp only at h
                cases hr : gos T ops n cs m l ((d, v) :: L) with
                | none => rw [hr] at h; cases h
                | some z =>
                  obtain ⟨L1, l1, gs1⟩ := z
                  rw [hr] at h
                  simp only [Option.some.injEq, Prod.mk.injEq] at h
                  obtain ⟨e1, e2, e3⟩ := h
                  have hr' : gos T ops n cs m l ((d, v) :: L) = some (L', rest, gs1) := by rw [hr, e1, e2]
                  have eg : g' = g := hg g' (e3 ▸ List.mem_cons_self)
                  have hl' : loadV T cs L o.op = some (v, g) := by rw [hl, eg]
                  refine ⟨v, fun w' hw' => ?_, ?_⟩
                  · unfold Oper.quietAt
                    rw [loadV_run hT hF (hb w' hw') hl']
                    exact ⟨rfl, rfl⟩
                  · rw [hd]; exact gos_wq hT hb (hF.put hdn v) hr' (fun x hx => hg x (e3 ▸ List.mem_cons_of_mem _ hx)) k
/-- m operations that read no memory; m operations that read one box at most (part i); the same in calm regions -/
theorem ra (m : Nat) (hF : Fr n L a) (hT : T.okB P = true) {l : List Oper} (h : gos T ops n [] m l L = some (L', rest, [])) (k : ∀ a, Fr n L' a → wpList P ops Q rest a w) : wpList P ops Q l a w :=
  gos_wl (g := 0) hT (fun j u hu => by simp at hu) hF h (fun x hx => by cases hx) k
theorem all_g {gs : List Nat} {g : Nat} (h : gs = gs.map fun _ => g) : ∀ x ∈ gs, x = g := fun x hx => by
  rw [h] at hx; obtain ⟨_, _, rfl⟩ := List.mem_map.1 hx; rfl
theorem rb {lr : List Res} {g : Nat} {cs : List Value} {gs : List Nat} (m i : Nat) (hF : Fr n L a) (hT : T.okB P = true) {l : List Oper} (hS : Sep w0 lr w) (hi : lr[i]? = some (Box g cs)) (h : gos T ops n cs m l L = some (L', rest, gs)) (hg : gs = gs.map fun _ => g) (k : ∀ a, Fr n L' a → wpList P ops Q rest a w) : wpList P ops Q l a w :=
  gos_wl hT (fun j u hu => hS.box hi hu) hF h (all_g hg) k
theorem qa (m : Nat) (hF : Fr n L a) (hT : T.okB P = true) {l : List Oper} (h : gos T ops n [] m l L = some (L', rest, [])) (k : ∀ a, Fr n L' a → wpQuiet P ops (fun w' => Below w.heap.size w w') Qa rest a) : wpQuiet P ops (fun w' => Below w.heap.size w w') Qa l a :=
  gos_wq (g := 0) hT (fun w' hb j u hu => by simp at hu) hF h (fun x hx => by cases hx) k
theorem qb {lr : List Res} {g : Nat} {cs : List Value} {gs : List Nat} (m i : Nat) (hF : Fr n L a) (hT : T.okB P = true) {l : List Oper} (hS : Sep w0 lr w) (hi : lr[i]? = some (Box g cs)) (h : gos T ops n cs m l L = some (L', rest, gs)) (hg : gs = gs.map fun _ => g) (k : ∀ a, Fr n L' a → wpQuiet P ops (fun w' => Below w.heap.size w w') Qa rest a) : wpQuiet P ops (fun w' => Below w.heap.size w w') Qa l a :=
  gos_wq hT (fun w' hb j u hu => (hS.ext hb).box hi hu) hF h (all_g hg) k
end
end Go.Proofs.YtbgacfdnmbhloaaGreat.Sl
namespace Go.Proofs.YtbgacfdnmbhloaaGreat.Wk
open Go Go.RowKit Sl
def tb : Tab := ⟨[(25, 0, 0), (25, 1, 1), (25, 2, 2), (25, 3, 3), (25, 4, 4), (25, 5, 5), (36, 0, 0), (36, 1, 1), (42, 0, 0), (42, 1, 1), (42, 2, 2), (44, 0, 0), (44, 1, 1), (46, 0, 0), (46, 1, 1), (46, 2, 4), (46, 3, 6), (46, 4, 7), (72, 0, 0), (72, 1, 1), (72, 2, 2), (75, 0, 0), (75, 1, 6), (75, 2, 7), (75, 3, 8), (75, 4, 9), (75, 5, 10), (75, 6, 11), (75, 7, 12), (78, 0, 0), (78, 1, 13), (78, 2, 14), (78, 3, 15), (78, 4, 16), (110, 0, 0), (110, 1, 1), (110, 2, 4), (110, 3, 6), (110, 4, 7), (110, 5, 8), (110, 6, 9), (110, 7, 10), (110, 8, 11), (110, 9, 12), (110, 10, 13), (110, 11, 14), (110, 12, 15), (110, 13, 16), (110, 14, 17), (110, 15, 18), (139, 0, 0), (139, 1, 1), (139, 2, 2), (139, 3, 3)], [3, 4, 5, 9, 22, 26, 29, 34, 73, 76, 96, 108], [(25, 6), (36, 2), (42, 3), (44, 2), (46, 8), (75, 13), (78, 17), (110, 19), (139, 4)], [22, 26, 29, 34, 50, 73, 76, 96, 108]⟩
theorem tk : tb.okB Tryz.prog = true := by kernel_rfl
def fns : List Nat := [4, 5, 6, 7, 8, 9, 10, 11, 12, 13, 14, 15, 16, 17, 18, 19, 20, 21, 22, 23, 24, 25, 26, 27, 28, 29, 30, 31, 32, 33, 34, 35, 36, 38, 39, 40, 41, 42, 43, 44, 45, 46, 47, 48, 49, 50, 51, 52, 53, 54, 55, 56, 58, 59, 60, 61, 62, 63, 64, 65, 66, 67, 68, 69, 70, 71, 72, 73, 74, 75, 76, 77, 78, 79, 80, 81, 82, 83, 84, 85, 86, 87, 88, 89, 90, 91, 92, 93, 94, 95, 96, 97, 98, 99, 100, 101, 102, 103, 104, 105, 106, 107, 108, 109, 110, 111, 112, 113, 114, 115, 116, 117, 118, 119, 120, 121, 122, 123, 124, 125, 126, 127, 128, 129, 130, 131, 132, 133, 134]
theorem fk : fns.all (enterB Tryz.prog) = true := by kernel_rfl
def t1 : List Nat := [3, 4, 26, 29, 34, 73, 76, 108]
theorem t1k : t1.all (fun t => decide (szB Tryz.prog t = some 1)) = true := by kernel_rfl
end Go.Proofs.YtbgacfdnmbhloaaGreat.Wk
namespace Go.Proofs.YtbgacfdnmbhloaaGreat.Sl
open Go Go.RowKit
set_option linter.unusedVariables false
set_option linter.unusedSimpArgs false
section
variable {P : Program} {ops : Array Oper} {Q : Exit → Act → World → Prop} {X : Type} {lf : X → List Res → List Res} {r l : List Res} {W : World} {muts : List Nat} {n : Nat} {L : List (Nat × Value)}
end
end Go.Proofs.YtbgacfdnmbhloaaGreat.Sl
namespace Go.Proofs.YtbgacfdnmbhloaaGreat.Wk
open Go Go.RowKit Sl
set_option linter.unusedVariables false
set_option linter.unusedSimpArgs false
theorem zb : (∀ b : Bool, ((!b) = true) = (b = false)) ∧ (∀ b : Bool, ((!b) = false) = (b = true)) ∧ (∀ a b : Bool, ((a || b) = true) = (a = true ∨ b = true)) ∧ (∀ a b : Bool, ((a && b) = true) = (a = true ∧ b = true)) ∧ (∀ a b : Bool, ((a || b) = false) = (a = false ∧ b = false)) ∧ (∀ a b : Bool, ((a && b) = false) = (a = false ∨ b = false)) ∧ (∀ (p : Prop) [Decidable p], (decide p = true) = p) ∧ (∀ (p : Prop) [Decidable p], (decide p = false) = ¬ p) :=
  ⟨Bool.not_eq_true', Bool.not_eq_false', Bool.or_eq_true, Bool.and_eq_true, fun a b => by cases a <;> cases b <;> simp, fun a b => by cases a <;> cases b <;> simp, fun p _ => decide_eq_true_eq, fun p _ => by simp⟩
theorem t1_of {t : Nat} : ∀ {l : List Nat}, l.all (fun t => decide (szB Tryz.prog t = some 1)) = true → memT l t = true → szB Tryz.prog t = some 1 := fun h h' => of_decide_eq_true (memT_of h h')
theorem ag_of {t m : Nat} (h : agT tb.ags t = some m) : aggB Tryz.prog t = true ∧ szB Tryz.prog t = some m := by
 have hT := tk
 unfold Tab.okB at hT
 simp only [Bool.and_eq_true] at hT
 exact agT_of hT.1.2 h
/-- the list with one changed, if the place is there -/
def setO {α : Type} : List α → Nat → α → Option (List α)
  | [], _, _ => none
  | _ :: l, 0, y => some (y :: l)
  | x :: l, n + 1, y => match setO l n y with
    | some l' => some (x :: l')
    | none => none
theorem setO_of {α : Type} : ∀ {l : List α} {n : Nat} {y : α} {l' : List α}, setO l n y = some l' → l.set n y = l' ∧ n < l.length
  | [], n, y, l', h => by simp [setO] at h
  | x :: l, 0, y, l', h => by simp only [setO, Option.some.injEq] at h; subst h; simp
  | x :: l, n + 1, y, l', h => by
    simp only [setO] at h
    split at h
    · rename_i e
      cases h
      have := setO_of e
      exact ⟨by simp [this.1], by simp [this.2]⟩
    · cases h
def splitO {α : Type} : Nat → List α → Option (List α × List α)
  | 0, l => some ([], l)
  | n + 1, x :: l => match splitO n l with
    | some (a, b) => some (x :: a, b)
    | none => none
  | _ + 1, [] => none
theorem splitO_of {α : Type} : ∀ {n : Nat} {l a b : List α}, splitO n l = some (a, b) → l = a ++ b ∧ a.length = n
  | 0, l, a, b, h => by simp only [splitO, Option.some.injEq, Prod.mk.injEq] at h; obtain ⟨rfl, rfl⟩ := h; simp
  | n + 1, [], a, b, h => by simp [splitO] at h
  | n + 1, x :: l, a, b, h => by
    simp only [splitO] at h
    split at h
    · rename_i e
      simp only [Option.some.injEq, Prod.mk.injEq] at h
      obtain ⟨rfl, rfl⟩ := h
      have := splitO_of e
      exact ⟨by simp [this.1], by simp [this.2]⟩
    · cases h
def ovals (L : List (Nat × Value)) : List Operand → Option (List Value)
  | [] => some []
  | x :: l => match oval L x with
    | some v => match ovals L l with
      | some vs => some (v :: vs)
      | none => none
    | none => none
theorem ovals_ev {n : Nat} {L : List (Nat × Value)} {a : Act} (hF : Fr n L a) : ∀ {xs : List Operand} {vs : List Value}, ovals L xs = some vs → xs.map a.eval = vs
  | [], vs, h => by simp only [ovals, Option.some.injEq] at h; subst h; rfl
  | x :: xs, vs, h => by
    simp only [ovals] at h
    split at h
    · rename_i e
      split at h
      · rename_i e'
        simp only [Option.some.injEq] at h
        subst h
        rw [List.map_cons, oval_ev hF e, ovals_ev hF e']
      · cases h
    · cases h
/-- what an operation calls, and with what -/
def callV (ops : Array Oper) (n : Nat) (L : List (Nat × Value)) (o : Oper) : Option (Nat × Nat × List Value) := match o.dst with
  | none => none
  | some d => match Nat.ble (d + 1) n with
    | false => none
    | true => match wantL ops L o with
      | some true => match o.op with
        | .call ⟨.value (.func f), xs, _⟩ => match memT fns f with
          | true => match ovals L xs.toList with
            | some vs => some (d, f, vs)
            | none => none
          | false => none
        | _ => none
      | _ => none
section
variable {ops : Array Oper} {Q : Exit → Act → World → Prop} {a : Act} {w w' w0 W : World} {rest : List Oper} {o : Oper} {n d f : Nat} {L L' L2 : List (Nat × Value)} {v : Value} {vs : List Value} {Qa : Act → Prop} {lr lr' : List Res} {l B A : List Oper} {B' : List (Nat × Value)} {c e : Bool} {g : Nat} {cs : List Value} {gs : List Nat} {K Y : Act → World → Prop}
theorem callV_of (hF : Fr n L a) (h : callV ops n L o = some (d, f, vs)) : o.dst = some d ∧ Nat.ble (d + 1) n = true ∧ Region.wanted o (yielded ops a.tmps) = true ∧ ∀ w, (execOp a.eval o).run Tryz.prog w = .ok (.enter f vs.toArray) w := by
 unfold callV at h
 split at h
 · cases h
 rename_i d' hd
 split at h
 · cases h
 rename_i hb
 split at h
 · rename_i hw
   split at h
   · rename_i f' xs ts hop
     split at h
     · rename_i hm
       split at h
       · rename_i vs' hv
         simp only [Option.some.injEq, Prod.mk.injEq] at h
         obtain ⟨rfl, rfl, rfl⟩ := h
         refine ⟨hd, hb, want_of hF hw, fun w => ?_⟩
         have he : enterB Tryz.prog f' = true := memT_of (q := enterB Tryz.prog) fk hm
         obtain ⟨D, op, ty, ps, af, gd⟩ := o
         dsimp only at hop
         subst hop
         have hx : xs.map a.eval = vs'.toArray := by
           have := ovals_ev hF hv
           apply Array.ext'
           simpa using this
         have := rr_call (P := Tryz.prog) (ts := ts) (ty := ty) (ps := ps) (af := af) (gd := gd) (D := D) (w := w) (x := .func f') (cap := #[]) he (ef (a := a)) hx
         simpa using this
       · cases h
     · cases h
   · cases h
 · cases h
theorem xt {P R : Prop} (k : R) (h : R → P := by (intro k_; (try simp only [Exit.then, Exit.inBlock, ↓reduceIte]); exact k_)) : P := h k
theorem xr {P : Program} {R : Prop} (k : R) (h : R → Q .ret a w := by (intro k_; (try simp only [Exit.then, Exit.inBlock, ↓reduceIte]); exact k_)) : Code.ret.wp P Q a w := wp_ret (h k)
theorem ga (m : Nat) (hF : Fr n L a) (h : gos tb ops n [] m l L = some (L', rest, [])) (k : ∀ a, Fr n L' a → wpList Tryz.prog ops Q rest a w) : wpList Tryz.prog ops Q l a w := ra m hF tk h k
theorem gB (m i : Nat) (hF : Fr n L a) (hS : Sep w0 lr w) (hi : lr[i]? = some (Box g cs)) (h : gos tb ops n cs m l L = some (L', rest, gs)) (hg : gs = gs.map fun _ => g) (k : ∀ a, Fr n L' a → wpList Tryz.prog ops Q rest a w) : wpList Tryz.prog ops Q l a w := rb m i hF tk hS hi h hg k
/-- the end of a region -/
theorem ge (hK : ∀ a w, Y a w → K a w) (hF : Fr n L a) (h : gos tb ops n [] l.length l L = some (L', [], [])) (k : ∀ a, Fr n L' a → Y a w) : wpList Tryz.prog ops (Exit.then K Q) l a w := ga l.length hF h fun a hF => wl_nil (hK _ _ (k a hF))
theorem gf (hK : ∀ a w, Y a w → K a w) (i : Nat) (hF : Fr n L a) (hS : Sep w0 lr w) (hi : lr[i]? = some (Box g cs)) (h : gos tb ops n cs l.length l L = some (L', [], gs)) (hg : gs = gs.map fun _ => g) (k : ∀ a, Fr n L' a → Y a w) : wpList Tryz.prog ops (Exit.then K Q) l a w := gB l.length i hF hS hi h hg fun a hF => wl_nil (hK _ _ (k a hF))
/-- a whole region -/
theorem rg {id : Nat} {y : Code} (hF : Fr n L a) (h : gos tb l.toArray n [] l.length l L = some (L', [], [])) (k : ∀ a, Fr n L' a → y.wp Tryz.prog Q a w) : (Code.seq (.region id l.toArray false) y).wp Tryz.prog Q a w := ws fun K hK => ge hK hF h k
theorem rh {id : Nat} {y : Code} (i : Nat) (hF : Fr n L a) (hS : Sep w0 lr w) (hi : lr[i]? = some (Box g cs)) (h : gos tb l.toArray n cs l.length l L = some (L', [], gs)) (hg : gs = gs.map fun _ => g) (k : ∀ a, Fr n L' a → y.wp Tryz.prog Q a w) : (Code.seq (.region id l.toArray false) y).wp Tryz.prog Q a w := ws fun K hK => gf hK i hF hS hi h hg k
theorem rl {id : Nat} (hF : Fr n L a) (h : gos tb l.toArray n [] l.length l L = some (L', [], [])) (k : ∀ a, Fr n L' a → Q .normal a w) : (Code.region id l.toArray false).wp Tryz.prog Q a w := wp_region_lit (ga l.length hF h fun a hF => wl_nil (k a hF))
/-- a call -/
theorem ck {R : Value → World → Prop} (hF : Fr n L a) (hv : callV ops n L o = some (d, f, vs)) (hc : Calls Tryz.prog f vs.toArray w (Ret R)) (k : ∀ v w' a, R v w' → Fr n ((d, v) :: L) a → wpList Tryz.prog ops Q rest a w') : wpList Tryz.prog ops Q (o :: rest) a w := by
 obtain ⟨hd, hb, hw, hr⟩ := callV_of hF hv
 have h0 : wpList Tryz.prog ops Q ({ o with guard := none } :: rest) a w := wl_call hF rfl hd hb (hr w) hc k
 unfold wpList at h0 ⊢
 rw [hw]
 exact h0
theorem ckr (hF : Fr n L a) (hS : Sep w0 lr w) (hv : callV ops n L o = some (d, f, vs)) (hc : Calls Tryz.prog f vs.toArray w (Ret fun u w' => u = v ∧ Below w.heap.size w w')) (k : ∀ w' a, Sep w0 lr w' → Fr n ((d, v) :: L) a → wpList Tryz.prog ops Q rest a w') : wpList Tryz.prog ops Q (o :: rest) a w :=
  ck hF hv hc fun u w' a ⟨e, hB⟩ hF => k w' a (hS.ext hB) (e ▸ hF)
theorem qk (hF : Fr n L a) (hv : callV ops n L o = some (d, f, vs)) (hc : ∀ w', Below w.heap.size w w' → Calls Tryz.prog f vs.toArray w' (Ret fun u w'' => u = v ∧ Below w'.heap.size w' w'')) (k : ∀ a, Fr n ((d, v) :: L) a → wpQuiet Tryz.prog ops (fun w' => Below w.heap.size w w') Qa rest a) : wpQuiet Tryz.prog ops (fun w' => Below w.heap.size w w') Qa (o :: rest) a := by
 obtain ⟨hd, hb, hw, hr⟩ := callV_of hF hv
 have h0 : wpQuiet Tryz.prog ops (fun w' => Below w.heap.size w w') Qa ({ o with guard := none } :: rest) a := wq_call hF rfl hd hb (fun w' _ => hr w') hc k
 unfold wpQuiet at h0 ⊢
 rw [hw]
 exact h0
/-- the ways of a condition -/
theorem cx {A B : Prop} {b : Bool} {x y : Code} (t : Nat) (hF : Fr n L a) (ht : lk L t = some (.bool b)) (h1 : A → Fr n ((t, .bool true) :: L) a → x.wp Tryz.prog Q a w) (h2 : B → Fr n ((t, .bool false) :: L) a → y.wp Tryz.prog Q a w) (s1 : b = true → A := by (intro h; (try simp only [zb] at h); exact h)) (s2 : b = false → B := by (intro h; (try simp only [zb] at h); exact h)) : (Code.cond (.tmp t) x y).wp Tryz.prog Q a w :=
  wc_fx hF ht (fun e => h1 (s1 e)) (fun e => h2 (s2 e))
/-- a second part of a condition that is left out -/
theorem wa {X : Prop} (k tc pk : Nat) (hF : Fr n L a) (hS : Sep w0 lr w) (ht : lk L tc = some (.bool c) := by exact rfl) (hs : splitO k l = some (A, B) := by exact rfl) (h2 : gos tb ops n [] k A ((tc, .bool false) :: L) = some (L2, [], []) := by exact rfl) (h3 : splitO k L2 = some (L', (tc, .bool false) :: L) := by exact rfl) (h4 : L'.all (fun x => (lk ((tc, .bool false) :: L) x.1).isNone) = true := by exact rfl) (h5 : lk L2 pk = some (.bool false) := by exact rfl) (s1 : c = true → X := by (intro h; (try simp only [zb] at h); exact h))
    (h1 : X → ∀ a, Fr n ((tc, .bool true) :: L) a → wpList Tryz.prog ops (JS n ((tc, .bool true) :: L) pk e w0 lr) A a w)
    (j : ∀ a w, Fr n ((pk, .bool (c && e)) :: L) a → Sep w0 lr w → wpList Tryz.prog ops Q B a w) : wpList Tryz.prog ops Q l a w := by
  obtain ⟨rfl, hk⟩ := splitO_of hs
  refine wl_and hF hS ht (fun h => h1 (s1 h)) (fun h a hF => ?_) j
  refine ga k hF h2 fun a hF => wl_nil ⟨rfl, ?_, hS⟩
  have hF' := hF
  rw [(splitO_of h3).1] at hF'
  exact (Fr.pre hF' h4).keep hF h5
theorem wo {X : Prop} (k tc pk : Nat) (hF : Fr n L a) (hS : Sep w0 lr w) (ht : lk L tc = some (.bool c) := by exact rfl) (hs : splitO k l = some (A, B) := by exact rfl) (h2 : gos tb ops n [] k A ((tc, .bool true) :: L) = some (L2, [], []) := by exact rfl) (h3 : splitO k L2 = some (L', (tc, .bool true) :: L) := by exact rfl) (h4 : L'.all (fun x => (lk ((tc, .bool true) :: L) x.1).isNone) = true := by exact rfl) (h5 : lk L2 pk = some (.bool true) := by exact rfl) (s1 : c = false → X := by (intro h; (try simp only [zb] at h); exact h))
    (h1 : X → ∀ a, Fr n ((tc, .bool false) :: L) a → wpList Tryz.prog ops (JS n ((tc, .bool false) :: L) pk e w0 lr) A a w)
    (j : ∀ a w, Fr n ((pk, .bool (c || e)) :: L) a → Sep w0 lr w → wpList Tryz.prog ops Q B a w) : wpList Tryz.prog ops Q l a w := by
  obtain ⟨rfl, hk⟩ := splitO_of hs
  refine wl_or hF hS ht (fun h => h1 (s1 h)) (fun h a hF => ?_) j
  refine ga k hF h2 fun a hF => wl_nil ⟨rfl, ?_, hS⟩
  have hF' := hF
  rw [(splitO_of h3).1] at hF'
  exact (Fr.pre hF' h4).keep hF h5
/-- the end of such a part -/
theorem je (k : Nat) {pk : Nat} (hF : Fr n L a) (hS : Sep w0 lr w) (h2 : gos tb ops n [] l.length l L = some (L2, [], [])) (h3 : splitO k L2 = some (L', B')) (h4 : L'.all (fun x => (lk B' x.1).isNone) = true) (h5 : lk L2 pk = some (.bool e)) : wpList Tryz.prog ops (JS n B' pk e w0 lr) l a w := by
 refine ga l.length hF h2 fun a hF => wl_nil ⟨rfl, ?_, hS⟩
 have hF' := hF
 rw [(splitO_of h3).1] at hF'
 exact (Fr.pre hF' h4).keep hF h5
theorem jf (k i : Nat) {pk : Nat} (hF : Fr n L a) (hS : Sep w0 lr w) (hi : lr[i]? = some (Box g cs)) (h2 : gos tb ops n cs l.length l L = some (L2, [], gs)) (hg : gs = gs.map fun _ => g) (h3 : splitO k L2 = some (L', B')) (h4 : L'.all (fun x => (lk B' x.1).isNone) = true) (h5 : lk L2 pk = some (.bool e)) : wpList Tryz.prog ops (JS n B' pk e w0 lr) l a w := by
 refine gB l.length i hF hS hi h2 hg fun a hF => wl_nil ⟨rfl, ?_, hS⟩
 have hF' := hF
 rw [(splitO_of h3).1] at hF'
 exact (Fr.pre hF' h4).keep hF h5
/-- a store into a box, of the whole or of one cell -/
theorem ww {T ty : TypeId} {ps : String} {af : Array Edge} {x y : Operand} (i : Nat) (hF : Fr n L a) (hS : Sep w0 lr w) (hi : lr[i]? = some (Box g cs)) (hx : oval L x = some (.pointer (some ⟨g, 0, none⟩))) (hy : oval L y = some (.agg ⟨vs⟩)) (hz : agT tb.ags T = some vs.length) (hb : (evenB vs cs && vs.all (fun u => u.oneCell')) = true) (hs : setO lr i (Box g vs) = some lr') (k : ∀ w', Sep w0 lr' w' → wpList Tryz.prog ops Q rest a w') : wpList Tryz.prog ops Q (⟨none, .store T x y, ty, ps, af, none⟩ :: rest) a w := by
 simp only [Bool.and_eq_true] at hb
 refine wl_storew hF hS hi (oval_ev hF hx) (oval_ev hF hy) (ag_of hz).2 hb.1 hb.2 fun w' h => k w' ?_
 rw [← (setO_of hs).1]; exact h
theorem wv {T ty : TypeId} {ps : String} {af : Array Edge} {x y : Operand} {q : Nat} {cs' : List Value} (i : Nat) (hF : Fr n L a) (hS : Sep w0 lr w) (hi : lr[i]? = some (Box g cs)) (hx : oval L x = some (.pointer (some ⟨g, q, none⟩))) (hy : oval L y = some v) (hz : (memT t1 T && v.oneCell') = true) (hc : setO cs q v = some cs') (hs : setO lr i (Box g cs') = some lr') (k : ∀ w', Sep w0 lr' w' → wpList Tryz.prog ops Q rest a w') : wpList Tryz.prog ops Q (⟨none, .store T x y, ty, ps, af, none⟩ :: rest) a w := by
 simp only [Bool.and_eq_true] at hz
 obtain ⟨e, hq⟩ := setO_of hc
 refine wl_store hF hS hi (t1_of t1k hz.1) (oval_ev hF hx) (oval_ev hF hy) hz.2 (by simp [hq]) fun w' h => k w' ?_
 rw [e, (setO_of hs).1] at h; exact h
/-- a store into a field of the thread that is stepped -/
theorem es {T ty : TypeId} {ps : String} {af : Array Edge} {x y : Operand} {p i oo m kc : Nat} {xs : List Sl.Thread} {t : Sl.Thread} {f0 f1 f2 f3 f4 f5 f6 f7 f8 f9 f10 f11 f12 f13 : Int} {h0 h1 h4 : List Int} {h2 h3 : List Entry} (q j : Nat) (hF : Fr n L a) (hS : Sep w0 lr w) (hi : i < xs.length) (hq : lr[q]? = some (Own threadEK (.slice (some ⟨g, oo, none⟩) m kc) (xs.set i t)))
    (hx : oval L x = some (.pointer (some ⟨g, p, none⟩))) (hpe : p = oo + i * threadEK.sz + j) (hy : oval L y = some v) (hz : (memT t1 T && v.oneCell') = true) (hs : setO lr q (Own threadEK (.slice (some ⟨g, oo, none⟩) m kc) (xs.set i ⟨f0, ⟨f1, f2, f3⟩, ⟨f4, f5⟩, f6, f7, f8, f9, f10, f11, f12, f13, h0, h1, h2, h3, h4⟩)) = some lr')
    (k : ∀ w', Sep w0 lr' w' → wpList Tryz.prog ops Q rest a w')
    (hj : ∀ vs, ((threadEK.cells t vs)[j]?).isSome = true := by (intro _; rfl)) (hc : ∀ vs, (threadEK.cells t vs).set j v = threadEK.cells ⟨f0, ⟨f1, f2, f3⟩, ⟨f4, f5⟩, f6, f7, f8, f9, f10, f11, f12, f13, h0, h1, h2, h3, h4⟩ vs := by (intro _; dsimp only [threadEK, Thread.encv, List.set] <;> rfl)) (hn : ∀ vs, threadEK.inner ⟨f0, ⟨f1, f2, f3⟩, ⟨f4, f5⟩, f6, f7, f8, f9, f10, f11, f12, f13, h0, h1, h2, h3, h4⟩ vs = threadEK.inner t vs := by (intro _; rfl)) : wpList Tryz.prog ops Q (⟨none, .store T x y, ty, ps, af, none⟩ :: rest) a w := by
  simp only [Bool.and_eq_true] at hz
  refine wl_estore (q := q) (j := j) _ hF hS hi hq (t1_of t1k hz.1) (oval_ev hF hx) hpe (oval_ev hF hy) hz.2 hj hc hn fun w' h => k w' ?_
  rw [(setO_of hs).1] at h; exact h
end
/-! runs of plain operations in regions that draw their order -/
def nthO {α : Type} : List α → Nat → Option α
  | [], _ => none
  | x :: _, 0 => some x
  | _ :: l, n + 1 => nthO l n
theorem nthO_of {α : Type} : ∀ {l : List α} {n : Nat}, nthO l n = l[n]?
  | [], n => by simp [nthO]
  | x :: l, 0 => by simp [nthO]
  | x :: l, n + 1 => by simp [nthO, nthO_of (l := l)]
def tpB (ops : Array Oper) (T : Alcs) (muts : List Nat) : Nat → List Nat → Bool
  | 0, _ => true
  | m + 1, i :: is => pureB ops T muts i is && tpB ops T muts m is
  | _ + 1, [] => false
def tpV (ops : Array Oper) (T : Alcs) (n : Nat) : Nat → List Nat → List (Nat × Value) → Option (List (Nat × Value) × List Nat)
  | 0, is, L => some (L, is)
  | _ + 1, [], _ => none
  | m + 1, i :: is, L => match nthO ops.toList i with
    | none => none
    | some o => match o.dst with
      | none => none
      | some d => match Nat.ble (d + 1) n && T.all (fun t => t.2.1 != d) with
        | false => none
        | true => match wantL ops L o with
          | none => none
          | some false => tpV ops T n m is ((d, undef) :: L)
          | some true => match pureV tb L o.op with
            | some v => tpV ops T n m is ((d, v) :: L)
            | none => none
section
variable {ops : Array Oper} {Q : Exit → Act → World → Prop} {wd W : World} {T : Alcs} {muts : List Nat} {n : Nat} {L' : List (Nat × Value)} {l r : List Res} {X : Type} {lf : X → List Res → List Res} {is' : List Nat}
theorem tpV_one {i : Nat} {is : List Nat} {m : Nat} {L : List (Nat × Value)} (h : tpV ops T n (m + 1) (i :: is) L = some (L', is')) : ∃ o d v, ops[i]? = some o ∧ o.dst = some d ∧ Nat.ble (d + 1) n = true ∧ T.all (fun t => t.2.1 != d) = true ∧ (∀ (C : World → Prop) a, Fr n L a → YieldsIf Tryz.prog ops C o v a) ∧ tpV ops T n m is ((d, v) :: L) = some (L', is') := by
 simp only [tpV] at h
 split at h
 · cases h
 rename_i o ho
 rw [nthO_of] at ho
 split at h
 · cases h
 rename_i d hd
 split at h
 · cases h
 rename_i hb
 simp only [Bool.and_eq_true] at hb
 have ho' : ops[i]? = some o := by rw [← ho]; simp
 split at h
 · cases h
 · rename_i hw
   exact ⟨o, d, undef, ho', hd, hb.1, hb.2, fun C a hF => .inr ⟨want_of hF hw, rfl⟩, h⟩
 · rename_i hw
   split at h
   · rename_i v hv
     exact ⟨o, d, v, ho', hd, hb.1, hb.2, fun C a hF => .inl ⟨want_of hF hw, fun w _ => pureV_run tk hF hv⟩, h⟩
   · cases h
theorem tp : ∀ (m : Nat) {is : List Nat} {L : List (Nat × Value)} (hl : Lay Tryz.prog ops T n) (h : tpV ops T n m is L = some (L', is')) (k : ∀ rem a w, Rem T rem → Fr n L' a → At T wd W l rem a w → Todo Tryz.prog ops Q wd muts rem is' a w) (hk : tpB ops T muts m is = true := by kernel_rfl),
    ∀ rem a w, Rem T rem → Fr n L a → At T wd W l rem a w → Todo Tryz.prog ops Q wd muts rem is a w
  | 0, is, L, hl, h, k, hk => by simp only [tpV, Option.some.injEq, Prod.mk.injEq] at h; obtain ⟨rfl, rfl⟩ := h; exact k
  | m + 1, [], L, hl, h, k, hk => by simp [tpV] at h
  | m + 1, i :: is, L, hl, h, k, hk => by
    obtain ⟨o, d, v, ho, hd, hb, hT, hy, h'⟩ := tpV_one h
    simp only [tpB, Bool.and_eq_true] at hk
    exact todo_pureY hl hk.1 ho hd hb hT (hy _) (tp m hl h' k hk.2)
theorem tq : ∀ (m : Nat) {is : List Nat} {L : List (Nat × Value)} (h : tpV ops [] n m is L = some (L', is')) (k : ∀ a w, Fr n L' a → Sep W l w → JX W lf r w → TJ Tryz.prog ops Q (JX W lf r) muts is' a w) (hk : tpB ops [] muts m is = true := by kernel_rfl),
    ∀ a w, Fr n L a → Sep W l w → JX W lf r w → TJ Tryz.prog ops Q (JX W lf r) muts is a w
  | 0, is, L, h, k, hk => by simp only [tpV, Option.some.injEq, Prod.mk.injEq] at h; obtain ⟨rfl, rfl⟩ := h; exact k
  | m + 1, [], L, h, k, hk => by simp [tpV] at h
  | m + 1, i :: is, L, h, k, hk => by
    obtain ⟨o, d, v, ho, hd, hb, hT, hy, h'⟩ := tpV_one h
    simp only [tpB, Bool.and_eq_true] at hk
    exact tj_pureY hk.1 ho hd hb (hy _) (tq m h' k hk.2)
end
/-! parts in another order -/
def permK (A T : List Res) : List Nat → Option (List Res)
  | [] => some T
  | i :: σ => match nthO A i with
    | some x => match permK A T σ with
      | some l => some (x :: l)
      | none => none
    | none => none
def permO (n : Nat) (σ : List Nat) (l : List Res) : Option (List Res) := match splitO n l with
  | some (A, T) => permK A T σ
  | none => none
theorem permK_of {A T : List Res} : ∀ {σ : List Nat} {l : List Res}, permK A T σ = some l → ∃ B, l = B ++ T ∧ σ.map (fun i => A[i]?) = B.map some ∧ σ.all (fun i => decide (i < A.length)) = true
  | [], l, h => by simp only [permK, Option.some.injEq] at h; exact ⟨[], by simp [h], rfl, rfl⟩
  | i :: σ, l, h => by
    simp only [permK] at h
    split at h
    · rename_i x hx
      split at h
      · rename_i l' hl
        simp only [Option.some.injEq] at h
        obtain ⟨B, h1, h2, h3⟩ := permK_of hl
        rw [nthO_of] at hx
        have := (List.getElem?_eq_some_iff.1 hx).1
        exact ⟨x :: B, by rw [← h, h1]; rfl, by rw [List.map_cons, List.map_cons, hx, h2], by rw [List.all_cons, h3]; simp [this]⟩
      · cases h
    · cases h
theorem _root_.Go.Proofs.YtbgacfdnmbhloaaGreat.Sl.Sep.pm {w0 w : World} {l l' : List Res} (h : Sl.Sep w0 l w) (n : Nat) (σ : List Nat) (hp : permO n σ l = some l') (hn : σ.Nodup := by decide) : Sl.Sep w0 l' w := by
 unfold permO at hp
 split at hp
 · rename_i A T hs
   obtain ⟨B, rfl, h2, h3⟩ := permK_of hp
   obtain ⟨rfl, _⟩ := splitO_of hs
   exact Sl.Sep.headp h σ hn h3 h2
 · cases hp
theorem cfr {f : FuncId} {fn : Func} {c : Code} {args : List Value} {w : World} {R : Ending → World → Prop} {n : Nat} (hf : Tryz.prog.funcs[f]? = some fn) (hn : fn.ntmps = n) (h : ∀ a, Fr n (en 0 args) a → c.wp Tryz.prog (bodyPost Tryz.prog fn R) a w) (hb : fn.body = some c := by exact rfl) (hl : Nat.ble args.length n = true := by exact rfl) : Calls Tryz.prog f args.toArray w R := calls_fr hf hb hn hl h
theorem ag25 : aggB Tryz.prog 25 = true := by kernel_rfl
theorem ag42 : aggB Tryz.prog 42 = true := by kernel_rfl
theorem ag75 : aggB Tryz.prog 75 = true := by kernel_rfl
theorem ag110 : aggB Tryz.prog 110 = true := by kernel_rfl
theorem ag139 : aggB Tryz.prog 139 = true := by kernel_rfl
theorem bd139 : Tryz.prog.built 139 [] = some [.int .i64 0, .int .i64 0, .int .i64 0, .int .i64 0].toArray := by kernel_rfl
theorem en41 : enterB Tryz.prog 41 = true := by kernel_rfl
theorem en111 : enterB Tryz.prog 111 = true := by kernel_rfl
theorem en131 : enterB Tryz.prog 131 = true := by kernel_rfl
theorem en132 : enterB Tryz.prog 132 = true := by kernel_rfl
theorem mk29 : mkB Tryz.prog 29 = some ([.int .i64 0], 1, 8) := by kernel_rfl
theorem mk153 : mkB Tryz.prog 153 = some ([.string ⟨#[]⟩], 1, 16) := by kernel_rfl
theorem sc3 : scalB Tryz.prog 3 = true := by kernel_rfl
theorem sc9 : scalB Tryz.prog 9 = true := by kernel_rfl
theorem sc29 : scalB Tryz.prog 29 = true := by kernel_rfl
theorem sc73 : scalB Tryz.prog 73 = true := by kernel_rfl
theorem sc108 : scalB Tryz.prog 108 = true := by kernel_rfl
theorem sl29 : slB Tryz.prog 29 = some (1, 8) := by kernel_rfl
theorem sl73 : slB Tryz.prog 73 = some (19, 232) := by kernel_rfl
theorem sl108 : slB Tryz.prog 108 = some (4, 32) := by kernel_rfl
theorem sl153 : slB Tryz.prog 153 = some (1, 16) := by kernel_rfl
theorem sz25 : szB Tryz.prog 25 = some 6 := by kernel_rfl
theorem sz42 : szB Tryz.prog 42 = some 3 := by kernel_rfl
theorem sz75 : szB Tryz.prog 75 = some 13 := by kernel_rfl
theorem sz110 : szB Tryz.prog 110 = some 19 := by kernel_rfl
theorem sz139 : szB Tryz.prog 139 = some 4 := by kernel_rfl
theorem ul29 : Tryz.prog.underlying 29 = some (.slice (Tryz.prog.elem 29)) := by kernel_rfl
theorem zr110 : zeroOf Tryz.prog 110 = some [.int .i64 0, .int .i64 0, .int .i64 0, .int .i64 0, .int .i64 0, .int .i64 0, .int .i64 0, .int .i64 0, .int .i64 0, .int .i64 0, .int .i64 0, .int .i64 0, .int .i64 0, .int .i64 0, .slice none 0 0, .slice none 0 0, .slice none 0 0, .slice none 0 0, .slice none 0 0] := by kernel_rfl
theorem zr139 : zeroOf Tryz.prog 139 = some [.int .i64 0, .int .i64 0, .int .i64 0, .int .i64 0] := by kernel_rfl
set_option maxRecDepth 20000
theorem wk {k : Nat} (h : k < 9223372036854775807) : vi (IntKind.i64.wrap ((k : Int) + 1)) = vi ((k + 1 : Nat) : Int) := by
 rw [w64_id (by omega) (by omega)]; rfl
section
variable {α : Type} {xs ys : List α} {k : Nat} {x y : α}
theorem take_next (h : xs.take k = ys.take k) (hx : xs[k]? = some x) (hy : ys[k]? = some y) (e : x = y) : xs.take (k + 1) = ys.take (k + 1) := by
 rw [List.take_add_one, List.take_add_one, h, hx, hy, e]
variable [DecidableEq α]
theorem eq_len (h : ¬ (xs.length : Int) = ys.length) : Value.bool false = .bool (decide (xs = ys)) := by
 rw [decide_eq_false]; intro e; exact h (by rw [e])
theorem eq_at (hx : xs[k]? = some x) (hy : ys[k]? = some y) (h : ¬ x = y) : Value.bool false = .bool (decide (xs = ys)) := by
 rw [decide_eq_false]; intro e; subst e; rw [hx] at hy; exact h (Option.some.inj hy)
theorem eq_all (h : xs.take k = ys.take k) (hk : k ≤ xs.length) (hl : xs.length = ys.length) (h1 : ¬ (k : Int) < xs.length) : Value.bool true = .bool (decide (xs = ys)) := by
 rw [decide_eq_true]
 have : k = xs.length := by omega
 subst this
 rw [List.take_length, hl, List.take_length] at h
 exact h
end
set_option maxRecDepth 20000
/-- what a row counts, element by element; what marking makes of it -/
def crow {α : Type} (c : α → Nat) : List α → Nat
  | [] => 0
  | x :: xs => c x + crow c xs
section
variable {α : Type} {f : Int → α → α} {c : α → Nat} {xs : List α} {x : α} {k : Nat}
theorem crow_append (xs ys : List α) : crow c (xs ++ ys) = crow c xs + crow c ys := by
 induction xs with
 | nil => simp [crow]
 | cons x xs ih => simp only [List.cons_append, crow, ih]; omega
theorem crow_next (hx : xs[k]? = some x) : crow c (xs.take (k + 1)) = crow c (xs.take k) + c x := by
 rw [List.take_add_one, hx, crow_append]; simp [crow]
theorem crow_le (xs : List α) (k : Nat) : crow c (xs.take k) ≤ crow c xs := by
 have := crow_append (c := c) (xs.take k) (xs.drop k)
 rw [List.take_append_drop] at this
 omega
theorem crow_le1 (hx : xs[k]? = some x) : crow c (xs.take k) + c x ≤ crow c xs := by
 rw [← crow_next hx]; exact crow_le _ _
end
def _root_.Go.Proofs.YtbgacfdnmbhloaaGreat.Sl.Model.size (m : Model) : Nat := m.values.length + (m.snapshots.length + crow List.length m.snapshots)
def _root_.Go.Proofs.YtbgacfdnmbhloaaGreat.Sl.Model.cnt (m : Model) : Nat := m.values.length + crow List.length m.snapshots
set_option maxRecDepth 20000
set_option maxRecDepth 20000
def _root_.Go.Proofs.YtbgacfdnmbhloaaGreat.Sl.Thread.size (t : Sl.Thread) : Nat := t.found.length + t.free.length + t.buffer.length + t.work.length + t.limbo.length
set_option maxRecDepth 20000
theorem thread_inner0 (w : World) : Sat (threadEK.inner default []) (fun _ => False) w := by
 have h := Sat.nil (fun _ => False) w
 have c := fun {α : Type} (ek : EK α) {l : List Res} (h : Sat l (fun _ => False) w) => Sat.cons (S1 := fun _ => False) (S' := fun _ => False) h (own_nil ek _ w) (fun k hk => hk) (fun k hk => hk) (fun k hk _ => hk)
 exact c intEK (c intEK (c entryEK (c entryEK (c intEK h))))
def _root_.Go.Proofs.YtbgacfdnmbhloaaGreat.Sl.State.size (t : Sl.State) : Nat := t.cells.length + t.generations.length + (t.threads.length + crow Sl.Thread.size t.threads)
theorem bd44_0 (x0) : Tryz.prog.built 44 [(0, .int .i64 x0)] = some [.int .i64 x0, .int .i64 0].toArray := by kernel_rfl
theorem bd44_0_1 (x0) (x1) : Tryz.prog.built 44 [(0, .int .i64 x0), (1, .int .i64 x1)] = some [.int .i64 x0, .int .i64 x1].toArray := by kernel_rfl
theorem en72 : enterB Tryz.prog 72 = true := by kernel_rfl
theorem en82 : enterB Tryz.prog 82 = true := by kernel_rfl
theorem en106 : enterB Tryz.prog 106 = true := by kernel_rfl
theorem en113 : enterB Tryz.prog 113 = true := by kernel_rfl
theorem en114 : enterB Tryz.prog 114 = true := by kernel_rfl
theorem en115 : enterB Tryz.prog 115 = true := by kernel_rfl
theorem en117 : enterB Tryz.prog 117 = true := by kernel_rfl
theorem en118 : enterB Tryz.prog 118 = true := by kernel_rfl
theorem en123 : enterB Tryz.prog 123 = true := by kernel_rfl
theorem en125 : enterB Tryz.prog 125 = true := by kernel_rfl
theorem en128 : enterB Tryz.prog 128 = true := by kernel_rfl
theorem mk73 : mkB Tryz.prog 73 = some ([.int .i64 0, .int .i64 0, .int .i64 0, .int .i64 0, .int .i64 0, .int .i64 0, .int .i64 0, .int .i64 0, .int .i64 0, .int .i64 0, .int .i64 0, .int .i64 0, .int .i64 0, .int .i64 0, .slice none 0 0, .slice none 0 0, .slice none 0 0, .slice none 0 0, .slice none 0 0], 19, 232) := by kernel_rfl
theorem mk108 : mkB Tryz.prog 108 = some ([.int .i64 0, .int .i64 0, .int .i64 0, .int .i64 0], 4, 32) := by kernel_rfl
theorem sz3 : szB Tryz.prog 3 = some 1 := by kernel_rfl
theorem sz29 : szB Tryz.prog 29 = some 1 := by kernel_rfl
theorem sz44 : szB Tryz.prog 44 = some 2 := by kernel_rfl
theorem sz108 : szB Tryz.prog 108 = some 1 := by kernel_rfl
theorem zr75 : zeroOf Tryz.prog 75 = some [.int .i64 0, .int .i64 0, .int .i64 0, .int .i64 0, .int .i64 0, .int .i64 0, .slice none 0 0, .slice none 0 0, .slice none 0 0, .int .i64 0, .int .i64 0, .int .i64 0, .int .i64 0] := by kernel_rfl
theorem bd139_0_1_2_3 (x0) (x1) (x2) (x3) : Tryz.prog.built 139 [(0, .int .i64 x0), (1, .int .i64 x1), (2, .int .i64 x2), (3, .int .i64 x3)] = some [.int .i64 x0, .int .i64 x1, .int .i64 x2, .int .i64 x3].toArray := by kernel_rfl
theorem bd25_0_1_2_3_4_5 (x0) (x1) (x2) (x3) (x4) (x5) : Tryz.prog.built 25 [(0, .int .i64 x0), (1, .int .i64 x1), (2, .int .i64 x2), (3, .int .i64 x3), (4, .int .i64 x4), (5, .int .i64 x5)] = some [.int .i64 x0, .int .i64 x1, .int .i64 x2, .int .i64 x3, .int .i64 x4, .int .i64 x5].toArray := by kernel_rfl
theorem bd42_0 (x0) : Tryz.prog.built 42 [(0, .int .i64 x0)] = some [.int .i64 x0, .int .i64 0, .int .i64 0].toArray := by kernel_rfl
theorem bd42_0_1 (x0) (x1) : Tryz.prog.built 42 [(0, .int .i64 x0), (1, .int .i64 x1)] = some [.int .i64 x0, .int .i64 x1, .int .i64 0].toArray := by kernel_rfl
theorem bd42_0_1_2 (x0) (x1) (x2) : Tryz.prog.built 42 [(0, .int .i64 x0), (1, .int .i64 x1), (2, .int .i64 x2)] = some [.int .i64 x0, .int .i64 x1, .int .i64 x2].toArray := by kernel_rfl
theorem bd72_0_2 (x0) (x1) (x2) (x3) : Tryz.prog.built 72 [(0, .slice x0 x1 x2), (2, .int .i64 x3)] = some [.slice x0 x1 x2, .int .i64 0, .int .i64 x3].toArray := by kernel_rfl
theorem bd75 : Tryz.prog.built 75 [] = some [.int .i64 0, .int .i64 0, .int .i64 0, .int .i64 0, .int .i64 0, .int .i64 0, .slice none 0 0, .slice none 0 0, .slice none 0 0, .int .i64 0, .int .i64 0, .int .i64 0, .int .i64 0].toArray := by kernel_rfl
theorem bd75_0_1_2 (x0) (x1) (x2) (x3) (x4) (x5) (x6) (x7) (x8) (x9) (x10) (x11) : Tryz.prog.built 75 [(0, .agg #[.int .i64 x0, .int .i64 x1, .int .i64 x2, .int .i64 x3, .int .i64 x4, .int .i64 x5]), (1, .slice x6 x7 x8), (2, .slice x9 x10 x11)] = some [.int .i64 x0, .int .i64 x1, .int .i64 x2, .int .i64 x3, .int .i64 x4, .int .i64 x5, .slice x6 x7 x8, .slice x9 x10 x11, .slice none 0 0, .int .i64 0, .int .i64 0, .int .i64 0, .int .i64 0].toArray := by kernel_rfl
theorem bd110 : Tryz.prog.built 110 [] = some [.int .i64 0, .int .i64 0, .int .i64 0, .int .i64 0, .int .i64 0, .int .i64 0, .int .i64 0, .int .i64 0, .int .i64 0, .int .i64 0, .int .i64 0, .int .i64 0, .int .i64 0, .int .i64 0, .slice none 0 0, .slice none 0 0, .slice none 0 0, .slice none 0 0, .slice none 0 0].toArray := by kernel_rfl
theorem en70 : enterB Tryz.prog 70 = true := by kernel_rfl
theorem en81 : enterB Tryz.prog 81 = true := by kernel_rfl
theorem iu3 : Tryz.prog.underlying 3 = some (.int .i64) := by kernel_rfl
theorem iu5 : Tryz.prog.underlying 5 = some (.int .u8) := by kernel_rfl
theorem sc5 : scalB Tryz.prog 5 = true := by kernel_rfl
theorem sl22 : slB Tryz.prog 22 = some (1, 1) := by kernel_rfl
theorem zr25 : zeroOf Tryz.prog 25 = some [.int .i64 0, .int .i64 0, .int .i64 0, .int .i64 0, .int .i64 0, .int .i64 0] := by kernel_rfl
theorem zr42 : zeroOf Tryz.prog 42 = some [.int .i64 0, .int .i64 0, .int .i64 0] := by kernel_rfl
theorem ag46 : aggB Tryz.prog 46 = true := by kernel_rfl
theorem ag78 : aggB Tryz.prog 78 = true := by kernel_rfl
theorem bd78 : Tryz.prog.built 78 [] = some [.int .i64 0, .int .i64 0, .int .i64 0, .int .i64 0, .int .i64 0, .int .i64 0, .slice none 0 0, .slice none 0 0, .slice none 0 0, .int .i64 0, .int .i64 0, .int .i64 0, .int .i64 0, .slice none 0 0, .slice none 0 0, .slice none 0 0, .int .i64 0].toArray := by kernel_rfl
theorem bd78_0_2 (x0) (x1) (x2) (x3) (x4) (x5) (x6) (x7) (x8) (x9) (x10) (x11) (x12) (x13) (x14) (x15) (x16) (x17) (x18) (x19) (x20) (x21) : Tryz.prog.built 78 [(0, .agg #[.int .i64 x0, .int .i64 x1, .int .i64 x2, .int .i64 x3, .int .i64 x4, .int .i64 x5, .slice x6 x7 x8, .slice x9 x10 x11, .slice x12 x13 x14, .int .i64 x15, .int .i64 x16, .int .i64 x17, .int .i64 x18]), (2, .slice x19 x20 x21)] = some [.int .i64 x0, .int .i64 x1, .int .i64 x2, .int .i64 x3, .int .i64 x4, .int .i64 x5, .slice x6 x7 x8, .slice x9 x10 x11, .slice x12 x13 x14, .int .i64 x15, .int .i64 x16, .int .i64 x17, .int .i64 x18, .slice none 0 0, .slice x19 x20 x21, .slice none 0 0, .int .i64 0].toArray := by kernel_rfl
theorem en60 : enterB Tryz.prog 60 = true := by kernel_rfl
theorem mk76 : mkB Tryz.prog 76 = some ([.slice none 0 0], 1, 24) := by kernel_rfl
theorem mk96 : mkB Tryz.prog 96 = some ([.int .i64 0, .int .i64 0, .int .i64 0], 3, 24) := by kernel_rfl
theorem sc26 : scalB Tryz.prog 26 = true := by kernel_rfl
theorem sc76 : scalB Tryz.prog 76 = true := by kernel_rfl
theorem sc96 : scalB Tryz.prog 96 = true := by kernel_rfl
theorem sl26 : slB Tryz.prog 26 = some (8, 64) := by kernel_rfl
theorem sl76 : slB Tryz.prog 76 = some (1, 24) := by kernel_rfl
theorem sl96 : slB Tryz.prog 96 = some (3, 24) := by kernel_rfl
theorem sz46 : szB Tryz.prog 46 = some 8 := by kernel_rfl
theorem sz78 : szB Tryz.prog 78 = some 17 := by kernel_rfl
theorem zr46 : zeroOf Tryz.prog 46 = some [.int .i64 0, .int .i64 0, .int .i64 0, .int .i64 0, .int .i64 0, .int .i64 0, .int .i64 0, .int .i64 0] := by kernel_rfl
theorem zr78 : zeroOf Tryz.prog 78 = some [.int .i64 0, .int .i64 0, .int .i64 0, .int .i64 0, .int .i64 0, .int .i64 0, .slice none 0 0, .slice none 0 0, .slice none 0 0, .int .i64 0, .int .i64 0, .int .i64 0, .int .i64 0, .slice none 0 0, .slice none 0 0, .slice none 0 0, .int .i64 0] := by kernel_rfl
set_option maxRecDepth 20000
def _root_.Go.Proofs.YtbgacfdnmbhloaaGreat.Sl.Entry.cnt (x : Sl.Entry) : Nat := 4
def _root_.Go.Proofs.YtbgacfdnmbhloaaGreat.Sl.Thread.cnt (x : Sl.Thread) : Nat := 14 + x.found.length + x.free.length + (crow Sl.Entry.cnt x.buffer) + (crow Sl.Entry.cnt x.work) + x.limbo.length
set_option maxRecDepth 20000
def _root_.Go.Proofs.YtbgacfdnmbhloaaGreat.Sl.Op.cnt (x : Sl.Op) : Nat := 3
def _root_.Go.Proofs.YtbgacfdnmbhloaaGreat.Sl.Event.cnt (x : Sl.Event) : Nat := 8
set_option maxRecDepth 20000
def _root_.Go.Proofs.YtbgacfdnmbhloaaGreat.Sl.State.cnt (s : Sl.State) : Nat := s.cells.length + s.generations.length + crow Sl.Thread.cnt s.threads
set_option maxRecDepth 20000
def _root_.Go.Proofs.YtbgacfdnmbhloaaGreat.Sl.Machine.size (m : Sl.Machine) : Nat := m.state.size + (m.programs.length + crow List.length m.programs) + m.next.length + m.events.length
def _root_.Go.Proofs.YtbgacfdnmbhloaaGreat.Sl.Machine.cnt (m : Sl.Machine) : Nat := m.state.cnt + crow (crow Sl.Op.cnt) m.programs + m.next.length + crow Sl.Event.cnt m.events
set_option maxRecDepth 20000
/-- handles, as the reference reads them -/
def isHandle (h : Int) : Bool := decide (1 < h) && decide (0 < h / 2 % 64) && decide (h / 2 / 64 ≤ 9999)
def indexOf (h : Int) : Int := if isHandle h = true then h / 2 % 64 - 1 else -1
def genOf (h : Int) : Int := if isHandle h = true then h / 2 / 64 else -1
def isMarked (h : Int) : Bool := decide (h = 1) || (isHandle h && decide (h % 2 = 1))
def unmarked (h : Int) : Int := if isMarked h = true then h - 1 else h
def isNode (c : Config) (h : Int) : Bool := isHandle h && decide (indexOf h < c.capacity)
def isLink (c : Config) (h : Int) : Bool := decide (h = 0) || (isNode c h && !isMarked h)
def zeroOk (c : Config) (h : Int) : Bool := decide (unmarked h = 0) || isNode c (unmarked h)
section
variable {h : Int}
theorem isHandle_iff : isHandle h = true ↔ 1 < h ∧ 0 < h / 2 % 64 ∧ h / 2 / 64 ≤ 9999 := by
 simp only [isHandle, Bool.and_eq_true, decide_eq_true_eq, and_assoc]
theorem half_pos (h0 : 0 ≤ h) (h1 : int64 h) : IntKind.i64.wrap (h.tdiv 2) = h / 2 := by
 unfold int64 at h1
 rw [Int.tdiv_eq_ediv_of_nonneg h0, w64_id (by omega) (by omega)]
theorem q64_pos (h0 : 0 ≤ h) (h1 : int64 h) : IntKind.i64.wrap (h.tdiv 64) = h / 64 := by
 unfold int64 at h1
 rw [Int.tdiv_eq_ediv_of_nonneg h0, w64_id (by omega) (by omega)]
theorem rem_pos (m : Int) (h0 : 0 ≤ h) : h.tmod m = h % m := Int.tmod_eq_emod_of_nonneg h0
theorem int64_half (h1 : int64 h) (h0 : 0 ≤ h) : int64 (h / 2) := by unfold int64 at *; omega
theorem isLink_zero {c : Config} : isLink c h = (zeroOk c h && !isMarked h) := by
 unfold zeroOk unmarked isLink
 split
 · rename_i hm
   have : ¬ h = 0 := by
     intro e; subst e; revert hm; decide
   simp [hm, this]
 · rename_i hm
   have hm' : isMarked h = false := by simpa using hm
   simp [hm']
theorem unmark_wrap (hm : isMarked h = true) (h1 : int64 h) : IntKind.i64.wrap (h - 1) = h - 1 := by
 unfold isMarked at hm
 simp only [Bool.or_eq_true, Bool.and_eq_true, decide_eq_true_eq, isHandle_iff] at hm
 unfold int64 at h1
 exact w64_id (by omega) (by omega)
theorem int64_unmarked (h1 : int64 h) : int64 (unmarked h) := by
 unfold unmarked
 split
 · rename_i hm
   unfold isMarked at hm
   simp only [Bool.or_eq_true, Bool.and_eq_true, decide_eq_true_eq, isHandle_iff] at hm
   unfold int64 at *; omega
 · exact h1
end
theorem specIsHandle_c {W : World} {h : Int} (h1 : int64 h) : Calls Tryz.prog 112 #[vi h] W (Ret fun v w' => v = .bool (isHandle h) ∧ Below W.heap.size W w') := by
 refine cfr Tryz.func112 Tryz.ntmps112 fun a hF => ?_
 have hS := Sep.refl W
 refine rg hF rfl fun a hF => ws fun K2 hK2 => ga 1 hF rfl fun a hF => wl hF rfl rfl rfl (r_quo (by first | decide | omega) (hF.ev rfl) ec) fun a hF => ge hK2 hF rfl fun a hF => ws fun K3 hK3 => ga 3 hF rfl fun a hF => ?_
 apply wa 4 8 12 hF hS
 ·
  intro hg8 a hF
  refine ga 1 hF rfl fun a hF => wl_take hF rfl rfl rfl rfl <| wl hF rfl rfl rfl (r_rem (by first | decide | omega) (hF.ev rfl) ec) fun a hF => ?_
  exact je 4 hF hS rfl rfl rfl rfl
 intro a w1 hF hS
 refine ga 1 hF rfl fun a hF => ?_
 apply wa 4 13 17 hF hS
 ·
  intro hg13 a hF
  refine ga 1 hF rfl fun a hF => wl_take hF rfl rfl rfl rfl <| wl hF rfl rfl rfl (r_quo (by first | decide | omega) (hF.ev rfl) ec) fun a hF => ?_
  exact je 4 hF hS rfl rfl rfl rfl
 intro a w2 hF hS
 refine ge hK3 hF rfl fun a hF => ?_
 refine xr ?_
 refine ret1 rfl hF rfl ⟨congrArg Value.bool ?_, hS.old⟩
 by_cases h0 : 0 ≤ h
 · rw [half_pos h0 h1, rem_pos _ (by omega), q64_pos (by omega) (int64_half h1 h0)]; rfl
 · unfold isHandle; rw [decide_eq_false (show ¬ 1 < h by omega)]; rfl
theorem specIndexOf_c {W : World} {h : Int} (h1 : int64 h) : Calls Tryz.prog 108 #[vi h] W (Ret fun v w' => v = vi (indexOf h) ∧ Below W.heap.size W w') := by
 refine cfr Tryz.func108 Tryz.ntmps108 fun a hF => ?_
 have hS := Sep.refl W
 refine rg hF rfl fun a hF => wp_seq_k fun K2 hK2 => ws fun K3 hK3 => ga 1 hF rfl fun a hF => ckr hF hS rfl (specIsHandle_c h1) fun w1 a hS hF => ge hK3 hF rfl fun a hF => cx 5 hF rfl (fun c5 hF => ?_) fun c5 hF => ?_
 ·
  refine rg hF rfl fun a hF => ?_
  refine xr ?_
  refine ret1 rfl hF rfl ⟨?_, hS.old⟩
  unfold indexOf; rw [c5]
  first | rfl | (have hi := isHandle_iff.1 c5; have h1u := h1; unfold int64 at h1u; rw [if_pos rfl, half_pos (by omega) h1, rem_pos _ (by omega), w64_id (by omega) (by omega)])
 refine wp_skip <| hK2 _ _ <| ws fun K5 hK5 => ga 1 hF rfl fun a hF => wl hF rfl rfl rfl (r_quo (by first | decide | omega) (hF.ev rfl) ec) fun a hF => wl hF rfl rfl rfl (r_rem (by first | decide | omega) (hF.ev rfl) ec) fun a hF => ge hK5 hF rfl fun a hF => ?_
 refine xr ?_
 refine ret1 rfl hF rfl ⟨?_, hS.old⟩
 unfold indexOf; rw [c5]
 first | rfl | (have hi := isHandle_iff.1 c5; have h1u := h1; unfold int64 at h1u; rw [if_pos rfl, half_pos (by omega) h1, rem_pos _ (by omega), w64_id (by omega) (by omega)])
theorem specGenOf_c {W : World} {h : Int} (h1 : int64 h) : Calls Tryz.prog 127 #[vi h] W (Ret fun v w' => v = vi (genOf h) ∧ Below W.heap.size W w') := by
 refine cfr Tryz.func127 Tryz.ntmps127 fun a hF => ?_
 have hS := Sep.refl W
 refine rg hF rfl fun a hF => wp_seq_k fun K2 hK2 => ws fun K3 hK3 => ga 1 hF rfl fun a hF => ckr hF hS rfl (specIsHandle_c h1) fun w1 a hS hF => ge hK3 hF rfl fun a hF => cx 5 hF rfl (fun c5 hF => ?_) fun c5 hF => ?_
 ·
  refine rg hF rfl fun a hF => ?_
  refine xr ?_
  refine ret1 rfl hF rfl ⟨?_, hS.old⟩
  unfold genOf; rw [c5]
  first | rfl | (have hi := isHandle_iff.1 c5; rw [if_pos rfl, half_pos (by omega) h1, q64_pos (by omega) (int64_half h1 (by omega))])
 refine wp_skip <| hK2 _ _ <| ws fun K5 hK5 => ga 1 hF rfl fun a hF => wl hF rfl rfl rfl (r_quo (by first | decide | omega) (hF.ev rfl) ec) fun a hF => wl hF rfl rfl rfl (r_quo (by first | decide | omega) (hF.ev rfl) ec) fun a hF => ge hK5 hF rfl fun a hF => ?_
 refine xr ?_
 refine ret1 rfl hF rfl ⟨?_, hS.old⟩
 unfold genOf; rw [c5]
 first | rfl | (have hi := isHandle_iff.1 c5; rw [if_pos rfl, half_pos (by omega) h1, q64_pos (by omega) (int64_half h1 (by omega))])
theorem specIsMarked_c {W : World} {h : Int} (h1 : int64 h) : Calls Tryz.prog 86 #[vi h] W (Ret fun v w' => v = .bool (isMarked h) ∧ Below W.heap.size W w') := by
 refine cfr Tryz.func86 Tryz.ntmps86 fun a hF => ?_
 have hS := Sep.refl W
 refine rg hF rfl fun a hF => ws fun K2 hK2 => ga 3 hF rfl fun a hF => ?_
 apply wo 8 5 13 hF hS
 ·
  intro hg5 a hF
  refine ga 1 hF rfl fun a hF => ckr hF hS rfl (specIsHandle_c h1) fun w1 a hS hF => ga 1 hF rfl fun a hF => ?_
  apply wa 4 8 12 hF hS
  ·
   intro hg8 a hF
   refine ga 1 hF rfl fun a hF => wl_take hF rfl rfl rfl rfl <| wl hF rfl rfl rfl (r_rem (by first | decide | omega) (hF.ev rfl) ec) fun a hF => ?_
   exact je 4 hF hS rfl rfl rfl rfl
  intro a w2 hF hS
  exact je 5 hF hS rfl rfl rfl rfl
 intro a w3 hF hS
 refine ge hK2 hF rfl fun a hF => ?_
 refine xr ?_
 refine ret1 rfl hF rfl ⟨congrArg Value.bool ?_, hS.old⟩
 by_cases h0 : 0 ≤ h
 · rw [rem_pos _ h0]; rfl
 · have e : isHandle h = false := by rw [Bool.eq_false_iff]; intro e; rw [isHandle_iff] at e; omega
   unfold isMarked; rw [e, Bool.false_and, Bool.false_and]
theorem specUnmarked_c {W : World} {h : Int} (h1 : int64 h) : Calls Tryz.prog 111 #[vi h] W (Ret fun v w' => v = vi (unmarked h) ∧ Below W.heap.size W w') := by
 refine cfr Tryz.func111 Tryz.ntmps111 fun a hF => ?_
 have hS := Sep.refl W
 refine rg hF rfl fun a hF => wp_seq_k fun K2 hK2 => ws fun K3 hK3 => ga 1 hF rfl fun a hF => ckr hF hS rfl (specIsMarked_c h1) fun w1 a hS hF => wl_nil <| hK3 _ _ <| cx 4 hF rfl (fun c4 hF => ?_) fun c4 hF => ?_
 ·
  refine rg hF rfl fun a hF => ?_
  refine xr ?_
  refine ret1 rfl hF rfl ⟨?_, hS.old⟩
  unfold unmarked; rw [c4]
  first | rfl | (rw [if_pos rfl, unmark_wrap c4 h1])
 refine wp_skip <| hK2 _ _ <| rg hF rfl fun a hF => ?_
 refine xr ?_
 refine ret1 rfl hF rfl ⟨?_, hS.old⟩
 unfold unmarked; rw [c4]
 first | rfl | (rw [if_pos rfl, unmark_wrap c4 h1])
set_option maxRecDepth 20000
/-- what IsOp asks -/
def _root_.Go.Proofs.YtbgacfdnmbhloaaGreat.Sl.Op.ok (o : Sl.Op) : Prop := ((o.kind = 1 ∨ o.kind = 4 ∨ o.kind = 5) ∧ o.key = 0 ∧ o.value = 0) ∨ (o.kind = 2 ∧ (0 ≤ o.key ∧ o.key ≤ 9) ∧ o.value = 0) ∨ (o.kind = 3 ∧ (0 ≤ o.key ∧ o.key ≤ 9) ∧ (0 ≤ o.value ∧ o.value ≤ 99))
instance (o : Sl.Op) : Decidable o.ok := by unfold Sl.Op.ok; infer_instance
def cellCount (c : Config) : Int := if c.ok then 2 + 3 * c.threads + c.keys + 3 * c.capacity else 0
def announceCell (c : Config) (p : Int) : Int := if c.ok ∧ (0 ≤ p ∧ p ≤ c.threads - 1) then 2 + p else -1
def hazardCell (c : Config) (p s : Int) : Int := if c.ok ∧ (0 ≤ p ∧ p ≤ c.threads - 1) ∧ (0 ≤ s ∧ s ≤ 1) then 2 + c.threads + 2 * p + s else -1
def headCell (c : Config) (k : Int) : Int := if c.ok ∧ (0 ≤ k ∧ k ≤ c.keys - 1) then 2 + 3 * c.threads + k else -1
def nodeCell (c : Config) (i f : Int) : Int := if c.ok ∧ (0 ≤ i ∧ i ≤ c.capacity - 1) ∧ (0 ≤ f ∧ f ≤ 2) then 2 + 3 * c.threads + c.keys + 3 * i + f else -1
def isEntry (e : Entry) : Bool := isHandle e.handle && !isMarked e.handle && decide (0 ≤ e.key ∧ e.key ≤ 9) && decide (1 ≤ e.low ∧ e.low ≤ e.high) && decide (e.high ≤ 99)
def pcs : List Int := [0, 1, 2, 3, 4, 5, 10, 11, 12, 13, 14, 15, 16, 17, 18, 19, 20, 21, 30, 31, 32, 33, 34, 35, 36, 37, 38, 39, 40, 41, 42, 43, 44, 45, 46, 47, 50, 60, 61, 62, 63, 70, 80]
theorem wm1 {n : Int} (h0 : 0 ≤ n) (h1 : n ≤ 100) : IntKind.i64.wrap (n - 1) = n - 1 := w64_id (by omega) (by omega)
def pcNames : List ByteArray := [⟨#[105, 100, 108, 101]⟩, ⟨#[98, 101, 103, 105, 110, 32, 108, 111, 97, 100]⟩, ⟨#[98, 101, 103, 105, 110, 32, 97, 110, 110, 111, 117, 110, 99, 101]⟩, ⟨#[98, 101, 103, 105, 110, 32, 99, 104, 101, 99, 107]⟩, ⟨#[98, 101, 103, 105, 110, 32, 116, 105, 99, 107]⟩, ⟨#[98, 101, 103, 105, 110, 32, 99, 108, 101, 97, 114]⟩, ⟨#[119, 97, 108, 107, 32, 104, 101, 97, 100]⟩, ⟨#[119, 97, 108, 107, 32, 103, 117, 97, 114, 100]⟩, ⟨#[119, 97, 108, 107, 32, 99, 104, 101, 99, 107]⟩, ⟨#[119, 97, 108, 107, 32, 110, 101, 120, 116]⟩, ⟨#[119, 97, 108, 107, 32, 117, 110, 108, 105, 110, 107]⟩, ⟨#[119, 97, 108, 107, 32, 115, 104, 105, 102, 116]⟩, ⟨#[114, 101, 97, 100, 32, 115, 116, 97, 109, 112]⟩, ⟨#[114, 101, 97, 100, 32, 99, 108, 111, 99, 107]⟩, ⟨#[114, 101, 97, 100, 32, 104, 101, 108, 112]⟩, ⟨#[114, 101, 97, 100, 32, 118, 97, 108, 117, 101]⟩, ⟨#[114, 101, 97, 100, 32, 99, 108, 101, 97, 114]⟩, ⟨#[114, 101, 97, 100, 32, 100, 111, 110, 101]⟩, ⟨#[119, 114, 105, 116, 101, 32, 97, 114, 101, 110, 97]⟩, ⟨#[119, 114, 105, 116, 101, 32, 116, 97, 107, 101]⟩, ⟨#[119, 114, 105, 116, 101, 32, 118, 97, 108, 117, 101]⟩, ⟨#[119, 114, 105, 116, 101, 32, 114, 101, 115, 101, 116]⟩, ⟨#[119, 114, 105, 116, 101, 32, 103, 117, 97, 114, 100]⟩, ⟨#[119, 114, 105, 116, 101, 32, 104, 101, 97, 100]⟩, ⟨#[119, 114, 105, 116, 101, 32, 104, 97, 122, 97, 114, 100]⟩, ⟨#[119, 114, 105, 116, 101, 32, 99, 104, 101, 99, 107]⟩, ⟨#[119, 114, 105, 116, 101, 32, 115, 116, 97, 109, 112]⟩, ⟨#[119, 114, 105, 116, 101, 32, 99, 108, 111, 99, 107]⟩, ⟨#[119, 114, 105, 116, 101, 32, 104, 101, 108, 112]⟩, ⟨#[119, 114, 105, 116, 101, 32, 108, 105, 110, 107]⟩, ⟨#[119, 114, 105, 116, 101, 32, 112, 117, 98, 108, 105, 115, 104]⟩, ⟨#[119, 114, 105, 116, 101, 32, 111, 119, 110, 32, 99, 108, 111, 99, 107]⟩, ⟨#[119, 114, 105, 116, 101, 32, 111, 119, 110, 32, 115, 116, 97, 109, 112]⟩, ⟨#[119, 114, 105, 116, 101, 32, 114, 101, 116, 105, 114, 101]⟩, ⟨#[119, 114, 105, 116, 101, 32, 99, 108, 101, 97, 114]⟩, ⟨#[119, 114, 105, 116, 101, 32, 100, 111, 110, 101]⟩, ⟨#[115, 99, 97, 110, 32, 97, 110, 110, 111, 117, 110, 99, 101, 100]⟩, ⟨#[109, 97, 114, 107, 32, 108, 111, 97, 100]⟩, ⟨#[109, 97, 114, 107, 32, 115, 119, 97, 112]⟩, ⟨#[102, 108, 117, 115, 104, 32, 99, 108, 101, 97, 114]⟩, ⟨#[102, 108, 117, 115, 104, 32, 100, 111, 110, 101]⟩, ⟨#[115, 99, 97, 110, 32, 104, 97, 122, 97, 114, 100, 115]⟩, ⟨#[101, 110, 100, 32, 99, 108, 101, 97, 114]⟩]
theorem pcNames_ne {s : ByteArray} (h : s ∈ pcNames) : (s.data.toList == []) = false := by
 have : ∀ s ∈ pcNames, (s.data.toList == []) = false := by decide
 exact this s h
section
variable {α : Type} {xs : List α} {p : α → Bool} {x : α} {k : Nat}
theorem any_next (h : (xs.take k).any p = false) (hx : xs[k]? = some x) (hp : p x = false) : (xs.take (k + 1)).any p = false := by
 rw [List.take_add_one, hx, List.any_append, h]; simp [hp]
theorem any_at (hx : xs[k]? = some x) (hp : p x = true) : xs.any p = true := List.any_eq_true.2 ⟨x, List.mem_of_getElem? hx, hp⟩
theorem any_all (h : (xs.take k).any p = false) (hk : k ≤ xs.length) (h1 : ¬ (k : Int) < xs.length) : xs.any p = false := by
 have : k = xs.length := by omega
 subst this
 rwa [List.take_length] at h
end
/-- what IsModel asks -/
def valOk (c : Config) (l : List Int) : Bool := l.all (fun x => decide (-1 ≤ x ∧ x ≤ 99)) && decide ((l.length : Int) = c.keys)
def isModel (c : Config) (m : Model) : Bool := decide c.ok && (valOk c m.values && (decide ((m.snapshots.length : Int) = c.threads) && m.snapshots.all fun l => !decide ((0 : Int) < l.length) || valOk c l))
theorem l1In_c {W : World} (x lo hi : Int) : Calls Tryz.prog 41 #[vi x, vi lo, vi hi] W (Ret fun v w' => v = .bool (decide (lo ≤ x ∧ x ≤ hi)) ∧ Below W.heap.size W w') := by
 refine cfr Tryz.func41 Tryz.ntmps41 fun a hF => ?_
 have hS := Sep.refl W
 refine rg hF rfl fun a hF => ws fun K2 hK2 => ga 4 hF rfl fun a hF => ?_
 revert hF; intro hF0; refine bsplit (t := 10) hF0 rfl (fun b10 hF => ?_) (fun b10 hF => ?_)
 ·
  clear hF0
  try simp only [decide_eq_true_eq, decide_eq_false_iff_not, Bool.not_eq_true', Bool.not_eq_false'] at b10
  refine ge hK2 hF rfl fun a hF => ?_
  refine xr ?_
  refine ret1 rfl hF rfl ⟨?_, hS.old⟩
  first | exact congrArg Value.bool (decide_eq_decide.2 (by omega)) | exact (congrArg Value.bool (decide_eq_false (by omega))).symm | exact (congrArg Value.bool (decide_eq_true (by omega))).symm
 clear hF0
 try simp only [decide_eq_true_eq, decide_eq_false_iff_not, Bool.not_eq_true', Bool.not_eq_false'] at b10
 refine ge hK2 hF rfl fun a hF => ?_
 refine xr ?_
 refine ret1 rfl hF rfl ⟨?_, hS.old⟩
 first | exact congrArg Value.bool (decide_eq_decide.2 (by omega)) | exact (congrArg Value.bool (decide_eq_false (by omega))).symm | exact (congrArg Value.bool (decide_eq_true (by omega))).symm
theorem in_c {W : World} (x lo hi : Int) : Calls Tryz.prog 40 #[vi x, vi lo, vi hi] W (Ret fun v w' => v = .bool (decide (lo ≤ x ∧ x ≤ hi)) ∧ Below W.heap.size W w') := by
 refine cfr Tryz.func40 Tryz.ntmps40 fun a hF => ?_
 have hS := Sep.refl W
 refine rg hF rfl fun a hF => ws fun K2 hK2 => ga 4 hF rfl fun a hF => ?_
 revert hF; intro hF0; refine bsplit (t := 10) hF0 rfl (fun b10 hF => ?_) (fun b10 hF => ?_)
 ·
  clear hF0
  try simp only [decide_eq_true_eq, decide_eq_false_iff_not, Bool.not_eq_true', Bool.not_eq_false'] at b10
  refine ge hK2 hF rfl fun a hF => ?_
  refine xr ?_
  refine ret1 rfl hF rfl ⟨?_, hS.old⟩
  first | exact congrArg Value.bool (decide_eq_decide.2 (by omega)) | exact (congrArg Value.bool (decide_eq_false (by omega))).symm | exact (congrArg Value.bool (decide_eq_true (by omega))).symm
 clear hF0
 try simp only [decide_eq_true_eq, decide_eq_false_iff_not, Bool.not_eq_true', Bool.not_eq_false'] at b10
 refine ge hK2 hF rfl fun a hF => ?_
 refine xr ?_
 refine ret1 rfl hF rfl ⟨?_, hS.old⟩
 first | exact congrArg Value.bool (decide_eq_decide.2 (by omega)) | exact (congrArg Value.bool (decide_eq_false (by omega))).symm | exact (congrArg Value.bool (decide_eq_true (by omega))).symm
theorem specIsConfig_c {W : World} (c : Config) : Calls Tryz.prog 26 #[.agg c.enc.toArray] W (Ret fun v w' => v = .bool (decide c.ok) ∧ Below W.heap.size W w') := by
 refine cfr Tryz.func26 Tryz.ntmps26 fun a hF => ?_
 have hS := Sep.refl W
 refine ws fun K1 hK1 => wl_box (cs := [_, _, _, _, _, _]) hF hS rfl (hF.ev rfl) rfl fun g1 w1 a hS _ hF => ge hK1 hF rfl fun a hF => ws fun K2 hK2 => gB 2 0 hF hS rfl rfl rfl fun a hF => ckr hF hS rfl (l1In_c _ _ _) fun w2 a hS hF => ga 1 hF rfl fun a hF => ?_
 revert hF; intro hF0; refine bsplit (t := 6) hF0 rfl (fun b6 hF => ?_) (fun b6 hF => ?_)
 ·
  clear hF0
  try simp only [decide_eq_true_eq, decide_eq_false_iff_not, Bool.not_eq_true', Bool.not_eq_false'] at b6
  refine gB 2 0 hF hS rfl rfl rfl fun a hF => ckr hF hS rfl (l1In_c _ _ _) fun w3 a hS hF => ga 2 hF rfl fun a hF => ?_
  revert hF; intro hF0; refine bsplit (t := 11) hF0 rfl (fun b11 hF => ?_) (fun b11 hF => ?_)
  ·
   clear hF0
   try simp only [decide_eq_true_eq, decide_eq_false_iff_not, Bool.not_eq_true', Bool.not_eq_false'] at b11
   refine gB 2 0 hF hS rfl rfl rfl fun a hF => ckr hF hS rfl (l1In_c _ _ _) fun w4 a hS hF => ga 2 hF rfl fun a hF => ?_
   revert hF; intro hF0; refine bsplit (t := 16) hF0 rfl (fun b16 hF => ?_) (fun b16 hF => ?_)
   ·
    clear hF0
    try simp only [decide_eq_true_eq, decide_eq_false_iff_not, Bool.not_eq_true', Bool.not_eq_false'] at b16
    refine gB 2 0 hF hS rfl rfl rfl fun a hF => ckr hF hS rfl (l1In_c _ _ _) fun w5 a hS hF => ga 2 hF rfl fun a hF => ?_
    revert hF; intro hF0; refine bsplit (t := 21) hF0 rfl (fun b21 hF => ?_) (fun b21 hF => ?_)
    ·
     clear hF0
     try simp only [decide_eq_true_eq, decide_eq_false_iff_not, Bool.not_eq_true', Bool.not_eq_false'] at b21
     refine gB 2 0 hF hS rfl rfl rfl fun a hF => ckr hF hS rfl (l1In_c _ _ _) fun w6 a hS hF => ga 2 hF rfl fun a hF => ?_
     revert hF; intro hF0; refine bsplit (t := 26) hF0 rfl (fun b26 hF => ?_) (fun b26 hF => ?_)
     ·
      clear hF0
      try simp only [decide_eq_true_eq, decide_eq_false_iff_not, Bool.not_eq_true', Bool.not_eq_false'] at b26
      refine gB 2 0 hF hS rfl rfl rfl fun a hF => ckr hF hS rfl (l1In_c _ _ _) fun w7 a hS hF => ge hK2 hF rfl fun a hF => ?_
      refine xr ?_
      refine ret1 rfl hF rfl ⟨?_, hS.old⟩
      first | exact congrArg Value.bool (decide_eq_decide.2 (by unfold Config.ok; omega)) | exact (congrArg Value.bool (decide_eq_false (by unfold Config.ok; omega))).symm | exact (congrArg Value.bool (decide_eq_true (by unfold Config.ok; omega))).symm
     clear hF0
     try simp only [decide_eq_true_eq, decide_eq_false_iff_not, Bool.not_eq_true', Bool.not_eq_false'] at b26
     refine ge hK2 hF rfl fun a hF => ?_
     refine xr ?_
     refine ret1 rfl hF rfl ⟨?_, hS.old⟩
     first | exact congrArg Value.bool (decide_eq_decide.2 (by unfold Config.ok; omega)) | exact (congrArg Value.bool (decide_eq_false (by unfold Config.ok; omega))).symm | exact (congrArg Value.bool (decide_eq_true (by unfold Config.ok; omega))).symm
    clear hF0
    try simp only [decide_eq_true_eq, decide_eq_false_iff_not, Bool.not_eq_true', Bool.not_eq_false'] at b21
    refine ge hK2 hF rfl fun a hF => ?_
    refine xr ?_
    refine ret1 rfl hF rfl ⟨?_, hS.old⟩
    first | exact congrArg Value.bool (decide_eq_decide.2 (by unfold Config.ok; omega)) | exact (congrArg Value.bool (decide_eq_false (by unfold Config.ok; omega))).symm | exact (congrArg Value.bool (decide_eq_true (by unfold Config.ok; omega))).symm
   clear hF0
   try simp only [decide_eq_true_eq, decide_eq_false_iff_not, Bool.not_eq_true', Bool.not_eq_false'] at b16
   refine ge hK2 hF rfl fun a hF => ?_
   refine xr ?_
   refine ret1 rfl hF rfl ⟨?_, hS.old⟩
   first | exact congrArg Value.bool (decide_eq_decide.2 (by unfold Config.ok; omega)) | exact (congrArg Value.bool (decide_eq_false (by unfold Config.ok; omega))).symm | exact (congrArg Value.bool (decide_eq_true (by unfold Config.ok; omega))).symm
  clear hF0
  try simp only [decide_eq_true_eq, decide_eq_false_iff_not, Bool.not_eq_true', Bool.not_eq_false'] at b11
  refine ge hK2 hF rfl fun a hF => ?_
  refine xr ?_
  refine ret1 rfl hF rfl ⟨?_, hS.old⟩
  first | exact congrArg Value.bool (decide_eq_decide.2 (by unfold Config.ok; omega)) | exact (congrArg Value.bool (decide_eq_false (by unfold Config.ok; omega))).symm | exact (congrArg Value.bool (decide_eq_true (by unfold Config.ok; omega))).symm
 clear hF0
 try simp only [decide_eq_true_eq, decide_eq_false_iff_not, Bool.not_eq_true', Bool.not_eq_false'] at b6
 refine ge hK2 hF rfl fun a hF => ?_
 refine xr ?_
 refine ret1 rfl hF rfl ⟨?_, hS.old⟩
 first | exact congrArg Value.bool (decide_eq_decide.2 (by unfold Config.ok; omega)) | exact (congrArg Value.bool (decide_eq_false (by unfold Config.ok; omega))).symm | exact (congrArg Value.bool (decide_eq_true (by unfold Config.ok; omega))).symm
theorem implIsConfig_c {W : World} (c : Config) : Calls Tryz.prog 23 #[.agg c.enc.toArray] W (Ret fun v w' => v = .bool (decide c.ok) ∧ Below W.heap.size W w') := by
 refine cfr Tryz.func23 Tryz.ntmps23 fun a hF => ?_
 have hS := Sep.refl W
 refine ws fun K1 hK1 => wl_box (cs := [_, _, _, _, _, _]) hF hS rfl (hF.ev rfl) rfl fun g1 w1 a hS _ hF => ge hK1 hF rfl fun a hF => ws fun K2 hK2 => gB 2 0 hF hS rfl rfl rfl fun a hF => ckr hF hS rfl (in_c _ _ _) fun w2 a hS hF => ga 1 hF rfl fun a hF => ?_
 revert hF; intro hF0; refine bsplit (t := 6) hF0 rfl (fun b6 hF => ?_) (fun b6 hF => ?_)
 ·
  clear hF0
  try simp only [decide_eq_true_eq, decide_eq_false_iff_not, Bool.not_eq_true', Bool.not_eq_false'] at b6
  refine gB 2 0 hF hS rfl rfl rfl fun a hF => ckr hF hS rfl (in_c _ _ _) fun w3 a hS hF => ga 2 hF rfl fun a hF => ?_
  revert hF; intro hF0; refine bsplit (t := 11) hF0 rfl (fun b11 hF => ?_) (fun b11 hF => ?_)
  ·
   clear hF0
   try simp only [decide_eq_true_eq, decide_eq_false_iff_not, Bool.not_eq_true', Bool.not_eq_false'] at b11
   refine gB 2 0 hF hS rfl rfl rfl fun a hF => ckr hF hS rfl (in_c _ _ _) fun w4 a hS hF => ga 2 hF rfl fun a hF => ?_
   revert hF; intro hF0; refine bsplit (t := 16) hF0 rfl (fun b16 hF => ?_) (fun b16 hF => ?_)
   ·
    clear hF0
    try simp only [decide_eq_true_eq, decide_eq_false_iff_not, Bool.not_eq_true', Bool.not_eq_false'] at b16
    refine gB 2 0 hF hS rfl rfl rfl fun a hF => ckr hF hS rfl (in_c _ _ _) fun w5 a hS hF => ga 2 hF rfl fun a hF => ?_
    revert hF; intro hF0; refine bsplit (t := 21) hF0 rfl (fun b21 hF => ?_) (fun b21 hF => ?_)
    ·
     clear hF0
     try simp only [decide_eq_true_eq, decide_eq_false_iff_not, Bool.not_eq_true', Bool.not_eq_false'] at b21
     refine gB 2 0 hF hS rfl rfl rfl fun a hF => ckr hF hS rfl (in_c _ _ _) fun w6 a hS hF => ga 2 hF rfl fun a hF => ?_
     revert hF; intro hF0; refine bsplit (t := 26) hF0 rfl (fun b26 hF => ?_) (fun b26 hF => ?_)
     ·
      clear hF0
      try simp only [decide_eq_true_eq, decide_eq_false_iff_not, Bool.not_eq_true', Bool.not_eq_false'] at b26
      refine gB 2 0 hF hS rfl rfl rfl fun a hF => ckr hF hS rfl (in_c _ _ _) fun w7 a hS hF => ge hK2 hF rfl fun a hF => ?_
      refine xr ?_
      refine ret1 rfl hF rfl ⟨?_, hS.old⟩
      first | exact congrArg Value.bool (decide_eq_decide.2 (by unfold Config.ok; omega)) | exact (congrArg Value.bool (decide_eq_false (by unfold Config.ok; omega))).symm | exact (congrArg Value.bool (decide_eq_true (by unfold Config.ok; omega))).symm
     clear hF0
     try simp only [decide_eq_true_eq, decide_eq_false_iff_not, Bool.not_eq_true', Bool.not_eq_false'] at b26
     refine ge hK2 hF rfl fun a hF => ?_
     refine xr ?_
     refine ret1 rfl hF rfl ⟨?_, hS.old⟩
     first | exact congrArg Value.bool (decide_eq_decide.2 (by unfold Config.ok; omega)) | exact (congrArg Value.bool (decide_eq_false (by unfold Config.ok; omega))).symm | exact (congrArg Value.bool (decide_eq_true (by unfold Config.ok; omega))).symm
    clear hF0
    try simp only [decide_eq_true_eq, decide_eq_false_iff_not, Bool.not_eq_true', Bool.not_eq_false'] at b21
    refine ge hK2 hF rfl fun a hF => ?_
    refine xr ?_
    refine ret1 rfl hF rfl ⟨?_, hS.old⟩
    first | exact congrArg Value.bool (decide_eq_decide.2 (by unfold Config.ok; omega)) | exact (congrArg Value.bool (decide_eq_false (by unfold Config.ok; omega))).symm | exact (congrArg Value.bool (decide_eq_true (by unfold Config.ok; omega))).symm
   clear hF0
   try simp only [decide_eq_true_eq, decide_eq_false_iff_not, Bool.not_eq_true', Bool.not_eq_false'] at b16
   refine ge hK2 hF rfl fun a hF => ?_
   refine xr ?_
   refine ret1 rfl hF rfl ⟨?_, hS.old⟩
   first | exact congrArg Value.bool (decide_eq_decide.2 (by unfold Config.ok; omega)) | exact (congrArg Value.bool (decide_eq_false (by unfold Config.ok; omega))).symm | exact (congrArg Value.bool (decide_eq_true (by unfold Config.ok; omega))).symm
  clear hF0
  try simp only [decide_eq_true_eq, decide_eq_false_iff_not, Bool.not_eq_true', Bool.not_eq_false'] at b11
  refine ge hK2 hF rfl fun a hF => ?_
  refine xr ?_
  refine ret1 rfl hF rfl ⟨?_, hS.old⟩
  first | exact congrArg Value.bool (decide_eq_decide.2 (by unfold Config.ok; omega)) | exact (congrArg Value.bool (decide_eq_false (by unfold Config.ok; omega))).symm | exact (congrArg Value.bool (decide_eq_true (by unfold Config.ok; omega))).symm
 clear hF0
 try simp only [decide_eq_true_eq, decide_eq_false_iff_not, Bool.not_eq_true', Bool.not_eq_false'] at b6
 refine ge hK2 hF rfl fun a hF => ?_
 refine xr ?_
 refine ret1 rfl hF rfl ⟨?_, hS.old⟩
 first | exact congrArg Value.bool (decide_eq_decide.2 (by unfold Config.ok; omega)) | exact (congrArg Value.bool (decide_eq_false (by unfold Config.ok; omega))).symm | exact (congrArg Value.bool (decide_eq_true (by unfold Config.ok; omega))).symm
theorem specIsOp_c {W : World} (o : Sl.Op) : Calls Tryz.prog 54 #[.agg o.enc.toArray] W (Ret fun v w' => v = .bool (decide o.ok) ∧ Below W.heap.size W w') := by
 refine cfr Tryz.func54 Tryz.ntmps54 fun a hF => ?_
 have hS := Sep.refl W
 refine ws fun K1 hK1 => wl_box (cs := [_, _, _]) hF hS rfl (hF.ev rfl) rfl fun g1 w1 a hS _ hF => ge hK1 hF rfl fun a hF => wp_seq_k fun K2 hK2 => rh 0 hF hS rfl rfl rfl fun a hF => wp_block <| wp_seq_k fun K4 hK4 => ?_
 refine rg hF rfl fun a hF => cx 5 hF rfl (fun c5 hF => ?_) fun c5 hF => ?_
 ·
  refine wp_skip <| hK4 _ _ <| wc_true (hF.ev rfl) <| ws fun K6 hK6 => gB 4 0 hF hS rfl rfl rfl fun a hF => ?_
  apply wa 4 12 16 hF hS
  ·
   intro hg12 a hF
   exact jf 4 0 hF hS rfl rfl rfl rfl rfl rfl
  intro a w2 hF hS
  refine ge hK6 hF rfl fun a hF => ?_
  refine xr ?_
  refine ret1 rfl hF rfl ⟨congrArg Value.bool (Bool.eq_iff_iff.2 ?_), hS.old⟩
  simp only [Bool.false_eq_true, Bool.true_eq_false, Bool.and_eq_true, Bool.or_eq_true, Bool.not_eq_true', decide_eq_true_eq, decide_eq_false_iff_not, iff_true, true_iff, false_iff, iff_false]
  unfold Sl.Op.ok
  omega
 refine rg hF rfl fun a hF => cx 5 hF rfl (fun c5 hF => ?_) fun c5 hF => ?_
 ·
  refine wp_skip <| hK4 _ _ <| wc_true (hF.ev rfl) <| ws fun K8 hK8 => gB 4 0 hF hS rfl rfl rfl fun a hF => ?_
  apply wa 4 12 16 hF hS
  ·
   intro hg12 a hF
   exact jf 4 0 hF hS rfl rfl rfl rfl rfl rfl
  intro a w3 hF hS
  refine ge hK8 hF rfl fun a hF => ?_
  refine xr ?_
  refine ret1 rfl hF rfl ⟨congrArg Value.bool (Bool.eq_iff_iff.2 ?_), hS.old⟩
  simp only [Bool.false_eq_true, Bool.true_eq_false, Bool.and_eq_true, Bool.or_eq_true, Bool.not_eq_true', decide_eq_true_eq, decide_eq_false_iff_not, iff_true, true_iff, false_iff, iff_false]
  unfold Sl.Op.ok
  omega
 refine wp_region_lit <| ge hK4 hF rfl fun a hF => cx 5 hF rfl (fun c5 hF => ?_) fun c5 hF => ?_
 ·
  refine ws fun K9 hK9 => gB 4 0 hF hS rfl rfl rfl fun a hF => ?_
  apply wa 4 12 16 hF hS
  ·
   intro hg12 a hF
   exact jf 4 0 hF hS rfl rfl rfl rfl rfl rfl
  intro a w4 hF hS
  refine ge hK9 hF rfl fun a hF => ?_
  refine xr ?_
  refine ret1 rfl hF rfl ⟨congrArg Value.bool (Bool.eq_iff_iff.2 ?_), hS.old⟩
  simp only [Bool.false_eq_true, Bool.true_eq_false, Bool.and_eq_true, Bool.or_eq_true, Bool.not_eq_true', decide_eq_true_eq, decide_eq_false_iff_not, iff_true, true_iff, false_iff, iff_false]
  unfold Sl.Op.ok
  omega
 refine rg hF rfl fun a hF => cx 17 hF rfl (fun c17 hF => ?_) fun c17 hF => ?_
 ·
  refine ws fun K11 hK11 => gB 2 0 hF hS rfl rfl rfl fun a hF => ckr hF hS rfl (l1In_c _ _ _) fun w5 a hS hF => ga 1 hF rfl fun a hF => ?_
  apply wa 4 22 26 hF hS
  ·
   intro hg22 a hF
   exact jf 4 0 hF hS rfl rfl rfl rfl rfl rfl
  intro a w6 hF hS
  refine ge hK11 hF rfl fun a hF => ?_
  refine xr ?_
  refine ret1 rfl hF rfl ⟨congrArg Value.bool (Bool.eq_iff_iff.2 ?_), hS.old⟩
  simp only [Bool.false_eq_true, Bool.true_eq_false, Bool.and_eq_true, Bool.or_eq_true, Bool.not_eq_true', decide_eq_true_eq, decide_eq_false_iff_not, iff_true, true_iff, false_iff, iff_false]
  unfold Sl.Op.ok
  omega
 refine rg hF rfl fun a hF => cx 27 hF rfl (fun c27 hF => ?_) fun c27 hF => ?_
 ·
  refine ws fun K13 hK13 => gB 2 0 hF hS rfl rfl rfl fun a hF => ckr hF hS rfl (l1In_c _ _ _) fun w7 a hS hF => ga 1 hF rfl fun a hF => ?_
  apply wa 4 32 36 hF hS
  ·
   intro hg32 a hF
   refine gB 2 0 hF hS rfl rfl rfl fun a hF => ckr hF hS rfl (l1In_c _ _ _) fun w8 a hS hF => ?_
   exact je 4 hF hS rfl rfl rfl rfl
  intro a w9 hF hS
  refine ge hK13 hF rfl fun a hF => ?_
  refine xr ?_
  refine ret1 rfl hF rfl ⟨congrArg Value.bool (Bool.eq_iff_iff.2 ?_), hS.old⟩
  simp only [Bool.false_eq_true, Bool.true_eq_false, Bool.and_eq_true, Bool.or_eq_true, Bool.not_eq_true', decide_eq_true_eq, decide_eq_false_iff_not, iff_true, true_iff, false_iff, iff_false]
  unfold Sl.Op.ok
  omega
 refine wp_skip ?_
 refine xt ?_
 refine hK2 _ _ <| rg hF rfl fun a hF => ?_
 refine xr ?_
 refine ret1 rfl hF rfl ⟨congrArg Value.bool (Bool.eq_iff_iff.2 ?_), hS.old⟩
 simp only [Bool.false_eq_true, Bool.true_eq_false, Bool.and_eq_true, Bool.or_eq_true, Bool.not_eq_true', decide_eq_true_eq, decide_eq_false_iff_not, iff_true, true_iff, false_iff, iff_false]
 unfold Sl.Op.ok
 omega
theorem implIsOp_c {W : World} (o : Sl.Op) : Calls Tryz.prog 49 #[.agg o.enc.toArray] W (Ret fun v w' => v = .bool (decide o.ok) ∧ Below W.heap.size W w') := by
 refine cfr Tryz.func49 Tryz.ntmps49 fun a hF => ?_
 have hS := Sep.refl W
 refine ws fun K1 hK1 => wl_box (cs := [_, _, _]) hF hS rfl (hF.ev rfl) rfl fun g1 w1 a hS _ hF => ge hK1 hF rfl fun a hF => wp_seq_k fun K2 hK2 => rh 0 hF hS rfl rfl rfl fun a hF => wp_block <| wp_seq_k fun K4 hK4 => ?_
 refine rg hF rfl fun a hF => cx 5 hF rfl (fun c5 hF => ?_) fun c5 hF => ?_
 ·
  refine wp_skip <| hK4 _ _ <| wc_true (hF.ev rfl) <| ws fun K6 hK6 => gB 4 0 hF hS rfl rfl rfl fun a hF => ?_
  apply wa 4 12 16 hF hS
  ·
   intro hg12 a hF
   exact jf 4 0 hF hS rfl rfl rfl rfl rfl rfl
  intro a w2 hF hS
  refine ge hK6 hF rfl fun a hF => ?_
  refine xr ?_
  refine ret1 rfl hF rfl ⟨congrArg Value.bool (Bool.eq_iff_iff.2 ?_), hS.old⟩
  simp only [Bool.false_eq_true, Bool.true_eq_false, Bool.and_eq_true, Bool.or_eq_true, Bool.not_eq_true', decide_eq_true_eq, decide_eq_false_iff_not, iff_true, true_iff, false_iff, iff_false]
  unfold Sl.Op.ok
  omega
 refine rg hF rfl fun a hF => cx 5 hF rfl (fun c5 hF => ?_) fun c5 hF => ?_
 ·
  refine wp_skip <| hK4 _ _ <| wc_true (hF.ev rfl) <| ws fun K8 hK8 => gB 4 0 hF hS rfl rfl rfl fun a hF => ?_
  apply wa 4 12 16 hF hS
  ·
   intro hg12 a hF
   exact jf 4 0 hF hS rfl rfl rfl rfl rfl rfl
  intro a w3 hF hS
  refine ge hK8 hF rfl fun a hF => ?_
  refine xr ?_
  refine ret1 rfl hF rfl ⟨congrArg Value.bool (Bool.eq_iff_iff.2 ?_), hS.old⟩
  simp only [Bool.false_eq_true, Bool.true_eq_false, Bool.and_eq_true, Bool.or_eq_true, Bool.not_eq_true', decide_eq_true_eq, decide_eq_false_iff_not, iff_true, true_iff, false_iff, iff_false]
  unfold Sl.Op.ok
  omega
 refine wp_region_lit <| ge hK4 hF rfl fun a hF => cx 5 hF rfl (fun c5 hF => ?_) fun c5 hF => ?_
 ·
  refine ws fun K9 hK9 => gB 4 0 hF hS rfl rfl rfl fun a hF => ?_
  apply wa 4 12 16 hF hS
  ·
   intro hg12 a hF
   exact jf 4 0 hF hS rfl rfl rfl rfl rfl rfl
  intro a w4 hF hS
  refine ge hK9 hF rfl fun a hF => ?_
  refine xr ?_
  refine ret1 rfl hF rfl ⟨congrArg Value.bool (Bool.eq_iff_iff.2 ?_), hS.old⟩
  simp only [Bool.false_eq_true, Bool.true_eq_false, Bool.and_eq_true, Bool.or_eq_true, Bool.not_eq_true', decide_eq_true_eq, decide_eq_false_iff_not, iff_true, true_iff, false_iff, iff_false]
  unfold Sl.Op.ok
  omega
 refine rg hF rfl fun a hF => cx 17 hF rfl (fun c17 hF => ?_) fun c17 hF => ?_
 ·
  refine ws fun K11 hK11 => gB 2 0 hF hS rfl rfl rfl fun a hF => ckr hF hS rfl (in_c _ _ _) fun w5 a hS hF => ga 1 hF rfl fun a hF => ?_
  apply wa 4 22 26 hF hS
  ·
   intro hg22 a hF
   exact jf 4 0 hF hS rfl rfl rfl rfl rfl rfl
  intro a w6 hF hS
  refine ge hK11 hF rfl fun a hF => ?_
  refine xr ?_
  refine ret1 rfl hF rfl ⟨congrArg Value.bool (Bool.eq_iff_iff.2 ?_), hS.old⟩
  simp only [Bool.false_eq_true, Bool.true_eq_false, Bool.and_eq_true, Bool.or_eq_true, Bool.not_eq_true', decide_eq_true_eq, decide_eq_false_iff_not, iff_true, true_iff, false_iff, iff_false]
  unfold Sl.Op.ok
  omega
 refine rg hF rfl fun a hF => cx 27 hF rfl (fun c27 hF => ?_) fun c27 hF => ?_
 ·
  refine ws fun K13 hK13 => gB 2 0 hF hS rfl rfl rfl fun a hF => ckr hF hS rfl (in_c _ _ _) fun w7 a hS hF => ga 1 hF rfl fun a hF => ?_
  apply wa 4 32 36 hF hS
  ·
   intro hg32 a hF
   refine gB 2 0 hF hS rfl rfl rfl fun a hF => ckr hF hS rfl (in_c _ _ _) fun w8 a hS hF => ?_
   exact je 4 hF hS rfl rfl rfl rfl
  intro a w9 hF hS
  refine ge hK13 hF rfl fun a hF => ?_
  refine xr ?_
  refine ret1 rfl hF rfl ⟨congrArg Value.bool (Bool.eq_iff_iff.2 ?_), hS.old⟩
  simp only [Bool.false_eq_true, Bool.true_eq_false, Bool.and_eq_true, Bool.or_eq_true, Bool.not_eq_true', decide_eq_true_eq, decide_eq_false_iff_not, iff_true, true_iff, false_iff, iff_false]
  unfold Sl.Op.ok
  omega
 refine wp_skip ?_
 refine xt ?_
 refine hK2 _ _ <| rg hF rfl fun a hF => ?_
 refine xr ?_
 refine ret1 rfl hF rfl ⟨congrArg Value.bool (Bool.eq_iff_iff.2 ?_), hS.old⟩
 simp only [Bool.false_eq_true, Bool.true_eq_false, Bool.and_eq_true, Bool.or_eq_true, Bool.not_eq_true', decide_eq_true_eq, decide_eq_false_iff_not, iff_true, true_iff, false_iff, iff_false]
 unfold Sl.Op.ok
 omega
theorem specCellCount_c {W : World} (c : Config)  : Calls Tryz.prog 80 #[.agg c.enc.toArray] W (Ret fun v w' => v = vi (cellCount c) ∧ Below W.heap.size W w') := by
 refine cfr Tryz.func80 Tryz.ntmps80 fun a hF => ?_
 have hS := Sep.refl W
 refine ws fun K1 hK1 => wl_box (cs := [_, _, _, _, _, _]) hF hS rfl (hF.ev rfl) rfl fun g1 w1 a hS _ hF => ge hK1 hF rfl fun a hF => wp_seq_k fun K2 hK2 => ws fun K3 hK3 => gB 1 0 hF hS rfl rfl rfl fun a hF => ckr hF hS rfl (specIsConfig_c _) fun w2 a hS hF => ?_
 refine ge hK3 hF rfl fun a hF => cx 5 hF rfl (fun c5 hF => ?_) fun c5 hF => ?_
 ·
  refine rg hF rfl fun a hF => ?_
  refine xr ?_
  refine ret1 rfl hF rfl ⟨congrArg vi ?_, hS.old⟩
  unfold cellCount
  have hw : c.ok → IntKind.i64.wrap (c.threads - 1) = c.threads - 1 ∧ IntKind.i64.wrap (c.keys - 1) = c.keys - 1 ∧ IntKind.i64.wrap (c.capacity - 1) = c.capacity - 1 := fun h => by unfold Config.ok at h; exact ⟨wm1 (by omega) (by omega), wm1 (by omega) (by omega), wm1 (by omega) (by omega)⟩
  split
  · rename_i hif
    first
    | (exfalso; have hw1 := hw (by simp_all); simp_all; done)
    | (have hok : c.ok := (by simp_all); unfold Config.ok at hok; clear hw; simp only [w64]; omega)
  · rename_i hif
    first | rfl | (exfalso; have hw1 := hw (by simp_all); simp_all; done)
 refine wp_skip <| hK2 _ _ <| rh 0 hF hS rfl rfl rfl fun a hF => ?_
 refine xr ?_
 refine ret1 rfl hF rfl ⟨congrArg vi ?_, hS.old⟩
 unfold cellCount
 have hw : c.ok → IntKind.i64.wrap (c.threads - 1) = c.threads - 1 ∧ IntKind.i64.wrap (c.keys - 1) = c.keys - 1 ∧ IntKind.i64.wrap (c.capacity - 1) = c.capacity - 1 := fun h => by unfold Config.ok at h; exact ⟨wm1 (by omega) (by omega), wm1 (by omega) (by omega), wm1 (by omega) (by omega)⟩
 split
 · rename_i hif
   first
   | (exfalso; have hw1 := hw (by simp_all); simp_all; done)
   | (have hok : c.ok := (by simp_all); unfold Config.ok at hok; clear hw; simp only [w64]; omega)
 · rename_i hif
   first | rfl | (exfalso; have hw1 := hw (by simp_all); simp_all; done)
theorem specAnnounceCell_c {W : World} (c : Config) (p : Int) : Calls Tryz.prog 102 #[.agg c.enc.toArray, vi p] W (Ret fun v w' => v = vi (announceCell c p) ∧ Below W.heap.size W w') := by
 refine cfr Tryz.func102 Tryz.ntmps102 fun a hF => ?_
 have hS := Sep.refl W
 refine ws fun K1 hK1 => wl_box (cs := [_, _, _, _, _, _]) hF hS rfl (hF.ev rfl) rfl fun g1 w1 a hS _ hF => ge hK1 hF rfl fun a hF => wp_seq_k fun K2 hK2 => ws fun K3 hK3 => gB 1 0 hF hS rfl rfl rfl fun a hF => ckr hF hS rfl (specIsConfig_c _) fun w2 a hS hF => ?_
 refine ga 2 hF rfl fun a hF => ?_
 apply wo 7 8 15 hF hS
 ·
  intro hg8 a hF
  refine gB 4 0 hF hS rfl rfl rfl fun a hF => ckr hF hS rfl (l1In_c _ _ _) fun w3 a hS hF => ?_
  exact je 7 hF hS rfl rfl rfl rfl
 intro a w4 hF hS
 refine wl_nil <| hK3 _ _ <| cx 15 hF rfl (fun c15 hF => ?_) fun c15 hF => ?_
 ·
  refine rg hF rfl fun a hF => ?_
  refine xr ?_
  refine ret1 rfl hF rfl ⟨congrArg vi ?_, hS.old⟩
  unfold announceCell
  have hw : c.ok → IntKind.i64.wrap (c.threads - 1) = c.threads - 1 ∧ IntKind.i64.wrap (c.keys - 1) = c.keys - 1 ∧ IntKind.i64.wrap (c.capacity - 1) = c.capacity - 1 := fun h => by unfold Config.ok at h; exact ⟨wm1 (by omega) (by omega), wm1 (by omega) (by omega), wm1 (by omega) (by omega)⟩
  split
  · rename_i hif
    first
    | (exfalso; have hw1 := hw (by simp_all); simp_all; done)
    | (have hok : c.ok := (by simp_all); unfold Config.ok at hok; clear hw; simp only [w64]; omega)
  · rename_i hif
    first | rfl | (exfalso; have hw1 := hw (by simp_all); simp_all; done)
 refine wp_skip <| hK2 _ _ <| rg hF rfl fun a hF => ?_
 refine xr ?_
 refine ret1 rfl hF rfl ⟨congrArg vi ?_, hS.old⟩
 unfold announceCell
 have hw : c.ok → IntKind.i64.wrap (c.threads - 1) = c.threads - 1 ∧ IntKind.i64.wrap (c.keys - 1) = c.keys - 1 ∧ IntKind.i64.wrap (c.capacity - 1) = c.capacity - 1 := fun h => by unfold Config.ok at h; exact ⟨wm1 (by omega) (by omega), wm1 (by omega) (by omega), wm1 (by omega) (by omega)⟩
 split
 · rename_i hif
   first
   | (exfalso; have hw1 := hw (by simp_all); simp_all; done)
   | (have hok : c.ok := (by simp_all); unfold Config.ok at hok; clear hw; simp only [w64]; omega)
 · rename_i hif
   first | rfl | (exfalso; have hw1 := hw (by simp_all); simp_all; done)
theorem specHazardCell_c {W : World} (c : Config) (p s : Int) : Calls Tryz.prog 117 #[.agg c.enc.toArray, vi p, vi s] W (Ret fun v w' => v = vi (hazardCell c p s) ∧ Below W.heap.size W w') := by
 refine cfr Tryz.func117 Tryz.ntmps117 fun a hF => ?_
 have hS := Sep.refl W
 refine ws fun K1 hK1 => wl_box (cs := [_, _, _, _, _, _]) hF hS rfl (hF.ev rfl) rfl fun g1 w1 a hS _ hF => ge hK1 hF rfl fun a hF => wp_seq_k fun K2 hK2 => ws fun K3 hK3 => gB 1 0 hF hS rfl rfl rfl fun a hF => ckr hF hS rfl (specIsConfig_c _) fun w2 a hS hF => ?_
 refine ga 2 hF rfl fun a hF => ?_
 apply wo 7 10 17 hF hS
 ·
  intro hg10 a hF
  refine gB 4 0 hF hS rfl rfl rfl fun a hF => ckr hF hS rfl (l1In_c _ _ _) fun w3 a hS hF => ?_
  exact je 7 hF hS rfl rfl rfl rfl
 intro a w4 hF hS
 refine ga 1 hF rfl fun a hF => ?_
 apply wo 4 18 22 hF hS
 ·
  intro hg18 a hF
  refine ga 1 hF rfl fun a hF => ckr hF hS rfl (l1In_c _ _ _) fun w5 a hS hF => ?_
  exact je 4 hF hS rfl rfl rfl rfl
 intro a w6 hF hS
 refine wl_nil <| hK3 _ _ <| cx 22 hF rfl (fun c22 hF => ?_) fun c22 hF => ?_
 ·
  refine rg hF rfl fun a hF => ?_
  refine xr ?_
  refine ret1 rfl hF rfl ⟨congrArg vi ?_, hS.old⟩
  unfold hazardCell
  have hw : c.ok → IntKind.i64.wrap (c.threads - 1) = c.threads - 1 ∧ IntKind.i64.wrap (c.keys - 1) = c.keys - 1 ∧ IntKind.i64.wrap (c.capacity - 1) = c.capacity - 1 := fun h => by unfold Config.ok at h; exact ⟨wm1 (by omega) (by omega), wm1 (by omega) (by omega), wm1 (by omega) (by omega)⟩
  split
  · rename_i hif
    first
    | (exfalso; have hw1 := hw (by simp_all); simp_all; done)
    | (have hok : c.ok := (by simp_all); unfold Config.ok at hok; clear hw; simp only [w64]; omega)
  · rename_i hif
    first | rfl | (exfalso; have hw1 := hw (by simp_all); simp_all; done)
 refine wp_skip <| hK2 _ _ <| rh 0 hF hS rfl rfl rfl fun a hF => ?_
 refine xr ?_
 refine ret1 rfl hF rfl ⟨congrArg vi ?_, hS.old⟩
 unfold hazardCell
 have hw : c.ok → IntKind.i64.wrap (c.threads - 1) = c.threads - 1 ∧ IntKind.i64.wrap (c.keys - 1) = c.keys - 1 ∧ IntKind.i64.wrap (c.capacity - 1) = c.capacity - 1 := fun h => by unfold Config.ok at h; exact ⟨wm1 (by omega) (by omega), wm1 (by omega) (by omega), wm1 (by omega) (by omega)⟩
 split
 · rename_i hif
   first
   | (exfalso; have hw1 := hw (by simp_all); simp_all; done)
   | (have hok : c.ok := (by simp_all); unfold Config.ok at hok; clear hw; simp only [w64]; omega)
 · rename_i hif
   first | rfl | (exfalso; have hw1 := hw (by simp_all); simp_all; done)
theorem specHeadCell_c {W : World} (c : Config) (k : Int) : Calls Tryz.prog 84 #[.agg c.enc.toArray, vi k] W (Ret fun v w' => v = vi (headCell c k) ∧ Below W.heap.size W w') := by
 refine cfr Tryz.func84 Tryz.ntmps84 fun a hF => ?_
 have hS := Sep.refl W
 refine ws fun K1 hK1 => wl_box (cs := [_, _, _, _, _, _]) hF hS rfl (hF.ev rfl) rfl fun g1 w1 a hS _ hF => ge hK1 hF rfl fun a hF => wp_seq_k fun K2 hK2 => ws fun K3 hK3 => gB 1 0 hF hS rfl rfl rfl fun a hF => ckr hF hS rfl (specIsConfig_c _) fun w2 a hS hF => ?_
 refine ga 2 hF rfl fun a hF => ?_
 apply wo 7 8 15 hF hS
 ·
  intro hg8 a hF
  refine gB 4 0 hF hS rfl rfl rfl fun a hF => ckr hF hS rfl (l1In_c _ _ _) fun w3 a hS hF => ?_
  exact je 7 hF hS rfl rfl rfl rfl
 intro a w4 hF hS
 refine wl_nil <| hK3 _ _ <| cx 15 hF rfl (fun c15 hF => ?_) fun c15 hF => ?_
 ·
  refine rg hF rfl fun a hF => ?_
  refine xr ?_
  refine ret1 rfl hF rfl ⟨congrArg vi ?_, hS.old⟩
  unfold headCell
  have hw : c.ok → IntKind.i64.wrap (c.threads - 1) = c.threads - 1 ∧ IntKind.i64.wrap (c.keys - 1) = c.keys - 1 ∧ IntKind.i64.wrap (c.capacity - 1) = c.capacity - 1 := fun h => by unfold Config.ok at h; exact ⟨wm1 (by omega) (by omega), wm1 (by omega) (by omega), wm1 (by omega) (by omega)⟩
  split
  · rename_i hif
    first
    | (exfalso; have hw1 := hw (by simp_all); simp_all; done)
    | (have hok : c.ok := (by simp_all); unfold Config.ok at hok; clear hw; simp only [w64]; omega)
  · rename_i hif
    first | rfl | (exfalso; have hw1 := hw (by simp_all); simp_all; done)
 refine wp_skip <| hK2 _ _ <| rh 0 hF hS rfl rfl rfl fun a hF => ?_
 refine xr ?_
 refine ret1 rfl hF rfl ⟨congrArg vi ?_, hS.old⟩
 unfold headCell
 have hw : c.ok → IntKind.i64.wrap (c.threads - 1) = c.threads - 1 ∧ IntKind.i64.wrap (c.keys - 1) = c.keys - 1 ∧ IntKind.i64.wrap (c.capacity - 1) = c.capacity - 1 := fun h => by unfold Config.ok at h; exact ⟨wm1 (by omega) (by omega), wm1 (by omega) (by omega), wm1 (by omega) (by omega)⟩
 split
 · rename_i hif
   first
   | (exfalso; have hw1 := hw (by simp_all); simp_all; done)
   | (have hok : c.ok := (by simp_all); unfold Config.ok at hok; clear hw; simp only [w64]; omega)
 · rename_i hif
   first | rfl | (exfalso; have hw1 := hw (by simp_all); simp_all; done)
theorem specNodeCell_c {W : World} (c : Config) (i f : Int) : Calls Tryz.prog 87 #[.agg c.enc.toArray, vi i, vi f] W (Ret fun v w' => v = vi (nodeCell c i f) ∧ Below W.heap.size W w') := by
 refine cfr Tryz.func87 Tryz.ntmps87 fun a hF => ?_
 have hS := Sep.refl W
 refine ws fun K1 hK1 => wl_box (cs := [_, _, _, _, _, _]) hF hS rfl (hF.ev rfl) rfl fun g1 w1 a hS _ hF => ge hK1 hF rfl fun a hF => wp_seq_k fun K2 hK2 => ws fun K3 hK3 => gB 1 0 hF hS rfl rfl rfl fun a hF => ckr hF hS rfl (specIsConfig_c _) fun w2 a hS hF => ?_
 refine ga 2 hF rfl fun a hF => ?_
 apply wo 7 10 17 hF hS
 ·
  intro hg10 a hF
  refine gB 4 0 hF hS rfl rfl rfl fun a hF => ckr hF hS rfl (l1In_c _ _ _) fun w3 a hS hF => ?_
  exact je 7 hF hS rfl rfl rfl rfl
 intro a w4 hF hS
 refine ga 1 hF rfl fun a hF => ?_
 apply wo 4 18 22 hF hS
 ·
  intro hg18 a hF
  refine ga 1 hF rfl fun a hF => ckr hF hS rfl (l1In_c _ _ _) fun w5 a hS hF => ?_
  exact je 4 hF hS rfl rfl rfl rfl
 intro a w6 hF hS
 refine wl_nil <| hK3 _ _ <| cx 22 hF rfl (fun c22 hF => ?_) fun c22 hF => ?_
 ·
  refine rg hF rfl fun a hF => ?_
  refine xr ?_
  refine ret1 rfl hF rfl ⟨congrArg vi ?_, hS.old⟩
  unfold nodeCell
  have hw : c.ok → IntKind.i64.wrap (c.threads - 1) = c.threads - 1 ∧ IntKind.i64.wrap (c.keys - 1) = c.keys - 1 ∧ IntKind.i64.wrap (c.capacity - 1) = c.capacity - 1 := fun h => by unfold Config.ok at h; exact ⟨wm1 (by omega) (by omega), wm1 (by omega) (by omega), wm1 (by omega) (by omega)⟩
  split
  · rename_i hif
    first
    | (exfalso; have hw1 := hw (by simp_all); simp_all; done)
    | (have hok : c.ok := (by simp_all); unfold Config.ok at hok; clear hw; simp only [w64]; omega)
  · rename_i hif
    first | rfl | (exfalso; have hw1 := hw (by simp_all); simp_all; done)
 refine wp_skip <| hK2 _ _ <| rh 0 hF hS rfl rfl rfl fun a hF => ?_
 refine xr ?_
 refine ret1 rfl hF rfl ⟨congrArg vi ?_, hS.old⟩
 unfold nodeCell
 have hw : c.ok → IntKind.i64.wrap (c.threads - 1) = c.threads - 1 ∧ IntKind.i64.wrap (c.keys - 1) = c.keys - 1 ∧ IntKind.i64.wrap (c.capacity - 1) = c.capacity - 1 := fun h => by unfold Config.ok at h; exact ⟨wm1 (by omega) (by omega), wm1 (by omega) (by omega), wm1 (by omega) (by omega)⟩
 split
 · rename_i hif
   first
   | (exfalso; have hw1 := hw (by simp_all); simp_all; done)
   | (have hok : c.ok := (by simp_all); unfold Config.ok at hok; clear hw; simp only [w64]; omega)
 · rename_i hif
   first | rfl | (exfalso; have hw1 := hw (by simp_all); simp_all; done)
theorem specClockCell_c {W : World}  : Calls Tryz.prog 81 #[] W (Ret fun v w' => v = vi 0 ∧ Below W.heap.size W w') := by
 refine cfr Tryz.func81 Tryz.ntmps81 fun a hF => ?_
 have hS := Sep.refl W
 refine rg hF rfl fun a hF => rg hF rfl fun a hF => ?_
 refine xr ?_
 exact ret1 rfl hF rfl ⟨rfl, hS.old⟩
theorem specIsEntry_c {W : World} {e : Entry} (hw : e.wf) : Calls Tryz.prog 107 #[.agg e.enc.toArray] W (Ret fun v w' => v = .bool (isEntry e) ∧ Below W.heap.size W w') := by
 refine cfr Tryz.func107 Tryz.ntmps107 fun a hF => ?_
 have hS := Sep.refl W
 refine ws fun K1 hK1 => wl_box (cs := [_, _, _, _]) hF hS rfl (hF.ev rfl) rfl fun g1 w1 a hS _ hF => ge hK1 hF rfl fun a hF => ws fun K2 hK2 => gB 2 0 hF hS rfl rfl rfl fun a hF => ckr hF hS rfl (specIsHandle_c hw.1) fun w2 a hS hF => ga 1 hF rfl fun a hF => ?_
 apply wa 5 6 11 hF hS
 ·
  intro hg6 a hF
  refine gB 2 0 hF hS rfl rfl rfl fun a hF => ckr hF hS rfl (specIsMarked_c hw.1) fun w3 a hS hF => ?_
  exact je 5 hF hS rfl rfl rfl rfl
 intro a w4 hF hS
 refine ga 1 hF rfl fun a hF => ?_
 apply wa 4 12 16 hF hS
 ·
  intro hg12 a hF
  refine gB 2 0 hF hS rfl rfl rfl fun a hF => ckr hF hS rfl (l1In_c _ _ _) fun w5 a hS hF => ?_
  exact je 4 hF hS rfl rfl rfl rfl
 intro a w6 hF hS
 refine ga 1 hF rfl fun a hF => ?_
 apply wa 6 17 23 hF hS
 ·
  intro hg17 a hF
  refine gB 4 0 hF hS rfl rfl rfl fun a hF => ckr hF hS rfl (l1In_c _ _ _) fun w7 a hS hF => ?_
  exact je 6 hF hS rfl rfl rfl rfl
 intro a w8 hF hS
 refine ga 1 hF rfl fun a hF => ?_
 apply wa 4 24 28 hF hS
 ·
  intro hg24 a hF
  exact jf 4 0 hF hS rfl rfl rfl rfl rfl rfl
 intro a w9 hF hS
 refine ge hK2 hF rfl fun a hF => ?_
 refine xr ?_
 refine ret1 rfl hF rfl ⟨congrArg Value.bool ?_, hS.old⟩
 unfold isEntry
 first | rfl | (rw [Bool.eq_iff_iff]; simp only [Bool.and_eq_true, decide_eq_true_eq, and_assoc])
theorem l7Pcs_c {W : World}  : Calls Tryz.prog 131 #[] W (Ret (Mk W (fun s : Slv => sv s) (fun s => [Own intEK (sv s) pcs]))) := by
 refine cfr Tryz.func131 Tryz.ntmps131 fun a hF => ?_
 have hS := Sep.refl W
 refine rg hF rfl fun a hF => ws fun K2 hK2 => wl_bslice intEK [vi 0, vi 1, vi 2, vi 3, vi 4, vi 5, vi 10, vi 11, vi 12, vi 13, vi 14, vi 15, vi 16, vi 17, vi 18, vi 19, vi 20, vi 21, vi 30, vi 31, vi 32, vi 33, vi 34, vi 35, vi 36, vi 37, vi 38, vi 39, vi 40, vi 41, vi 42, vi 43, vi 44, vi 45, vi 46, vi 47, vi 50, vi 60, vi 61, vi 62, vi 63, vi 70, vi 80] [0, 1, 2, 3, 4, 5, 10, 11, 12, 13, 14, 15, 16, 17, 18, 19, 20, 21, 30, 31, 32, 33, 34, 35, 36, 37, 38, 39, 40, 41, 42, 43, 44, 45, 46, 47, 50, 60, 61, 62, 63, 70, 80] rfl hF hS rfl mk29 rfl ⟨rfl, ec, rfl, ec, rfl, ec, rfl, ec, rfl, ec, rfl, ec, rfl, ec, rfl, ec, rfl, ec, rfl, ec, rfl, ec, rfl, ec, rfl, ec, rfl, ec, rfl, ec, rfl, ec, rfl, ec, rfl, ec, rfl, ec, rfl, ec, rfl, ec, rfl, ec, rfl, ec, rfl, ec, rfl, ec, rfl, ec, rfl, ec, rfl, ec, rfl, ec, rfl, ec, rfl, ec, rfl, ec, rfl, ec, rfl, ec, rfl, ec, rfl, ec, rfl, ec, rfl, ec, rfl, ec, rfl, ec, rfl, ec, rfl, ec, rfl, ec, trivial⟩ rfl rfl rfl rfl fun gl_1 w1 a hS hF => ge hK2 hF rfl fun a hF => ?_
 refine xr ?_
 exact ret1 rfl hF rfl ⟨(_, _, _), rfl, hS.pick [0] (by decide) rfl⟩
theorem l7Names_c {W : World}  : Calls Tryz.prog 132 #[] W (Ret (Mk W (fun s : Slv => sv s) (fun s => [Own stringEK (sv s) pcNames]))) := by
 refine cfr Tryz.func132 Tryz.ntmps132 fun a hF => ?_
 have hS := Sep.refl W
 refine rg hF rfl fun a hF => ws fun K2 hK2 => wl_bslice stringEK [.string ⟨#[105, 100, 108, 101]⟩, .string ⟨#[98, 101, 103, 105, 110, 32, 108, 111, 97, 100]⟩, .string ⟨#[98, 101, 103, 105, 110, 32, 97, 110, 110, 111, 117, 110, 99, 101]⟩, .string ⟨#[98, 101, 103, 105, 110, 32, 99, 104, 101, 99, 107]⟩, .string ⟨#[98, 101, 103, 105, 110, 32, 116, 105, 99, 107]⟩, .string ⟨#[98, 101, 103, 105, 110, 32, 99, 108, 101, 97, 114]⟩, .string ⟨#[119, 97, 108, 107, 32, 104, 101, 97, 100]⟩, .string ⟨#[119, 97, 108, 107, 32, 103, 117, 97, 114, 100]⟩, .string ⟨#[119, 97, 108, 107, 32, 99, 104, 101, 99, 107]⟩, .string ⟨#[119, 97, 108, 107, 32, 110, 101, 120, 116]⟩, .string ⟨#[119, 97, 108, 107, 32, 117, 110, 108, 105, 110, 107]⟩, .string ⟨#[119, 97, 108, 107, 32, 115, 104, 105, 102, 116]⟩, .string ⟨#[114, 101, 97, 100, 32, 115, 116, 97, 109, 112]⟩, .string ⟨#[114, 101, 97, 100, 32, 99, 108, 111, 99, 107]⟩, .string ⟨#[114, 101, 97, 100, 32, 104, 101, 108, 112]⟩, .string ⟨#[114, 101, 97, 100, 32, 118, 97, 108, 117, 101]⟩, .string ⟨#[114, 101, 97, 100, 32, 99, 108, 101, 97, 114]⟩, .string ⟨#[114, 101, 97, 100, 32, 100, 111, 110, 101]⟩, .string ⟨#[119, 114, 105, 116, 101, 32, 97, 114, 101, 110, 97]⟩, .string ⟨#[119, 114, 105, 116, 101, 32, 116, 97, 107, 101]⟩, .string ⟨#[119, 114, 105, 116, 101, 32, 118, 97, 108, 117, 101]⟩, .string ⟨#[119, 114, 105, 116, 101, 32, 114, 101, 115, 101, 116]⟩, .string ⟨#[119, 114, 105, 116, 101, 32, 103, 117, 97, 114, 100]⟩, .string ⟨#[119, 114, 105, 116, 101, 32, 104, 101, 97, 100]⟩, .string ⟨#[119, 114, 105, 116, 101, 32, 104, 97, 122, 97, 114, 100]⟩, .string ⟨#[119, 114, 105, 116, 101, 32, 99, 104, 101, 99, 107]⟩, .string ⟨#[119, 114, 105, 116, 101, 32, 115, 116, 97, 109, 112]⟩, .string ⟨#[119, 114, 105, 116, 101, 32, 99, 108, 111, 99, 107]⟩, .string ⟨#[119, 114, 105, 116, 101, 32, 104, 101, 108, 112]⟩, .string ⟨#[119, 114, 105, 116, 101, 32, 108, 105, 110, 107]⟩, .string ⟨#[119, 114, 105, 116, 101, 32, 112, 117, 98, 108, 105, 115, 104]⟩, .string ⟨#[119, 114, 105, 116, 101, 32, 111, 119, 110, 32, 99, 108, 111, 99, 107]⟩, .string ⟨#[119, 114, 105, 116, 101, 32, 111, 119, 110, 32, 115, 116, 97, 109, 112]⟩, .string ⟨#[119, 114, 105, 116, 101, 32, 114, 101, 116, 105, 114, 101]⟩, .string ⟨#[119, 114, 105, 116, 101, 32, 99, 108, 101, 97, 114]⟩, .string ⟨#[119, 114, 105, 116, 101, 32, 100, 111, 110, 101]⟩, .string ⟨#[115, 99, 97, 110, 32, 97, 110, 110, 111, 117, 110, 99, 101, 100]⟩, .string ⟨#[109, 97, 114, 107, 32, 108, 111, 97, 100]⟩, .string ⟨#[109, 97, 114, 107, 32, 115, 119, 97, 112]⟩, .string ⟨#[102, 108, 117, 115, 104, 32, 99, 108, 101, 97, 114]⟩, .string ⟨#[102, 108, 117, 115, 104, 32, 100, 111, 110, 101]⟩, .string ⟨#[115, 99, 97, 110, 32, 104, 97, 122, 97, 114, 100, 115]⟩, .string ⟨#[101, 110, 100, 32, 99, 108, 101, 97, 114]⟩] [⟨#[105, 100, 108, 101]⟩, ⟨#[98, 101, 103, 105, 110, 32, 108, 111, 97, 100]⟩, ⟨#[98, 101, 103, 105, 110, 32, 97, 110, 110, 111, 117, 110, 99, 101]⟩, ⟨#[98, 101, 103, 105, 110, 32, 99, 104, 101, 99, 107]⟩, ⟨#[98, 101, 103, 105, 110, 32, 116, 105, 99, 107]⟩, ⟨#[98, 101, 103, 105, 110, 32, 99, 108, 101, 97, 114]⟩, ⟨#[119, 97, 108, 107, 32, 104, 101, 97, 100]⟩, ⟨#[119, 97, 108, 107, 32, 103, 117, 97, 114, 100]⟩, ⟨#[119, 97, 108, 107, 32, 99, 104, 101, 99, 107]⟩, ⟨#[119, 97, 108, 107, 32, 110, 101, 120, 116]⟩, ⟨#[119, 97, 108, 107, 32, 117, 110, 108, 105, 110, 107]⟩, ⟨#[119, 97, 108, 107, 32, 115, 104, 105, 102, 116]⟩, ⟨#[114, 101, 97, 100, 32, 115, 116, 97, 109, 112]⟩, ⟨#[114, 101, 97, 100, 32, 99, 108, 111, 99, 107]⟩, ⟨#[114, 101, 97, 100, 32, 104, 101, 108, 112]⟩, ⟨#[114, 101, 97, 100, 32, 118, 97, 108, 117, 101]⟩, ⟨#[114, 101, 97, 100, 32, 99, 108, 101, 97, 114]⟩, ⟨#[114, 101, 97, 100, 32, 100, 111, 110, 101]⟩, ⟨#[119, 114, 105, 116, 101, 32, 97, 114, 101, 110, 97]⟩, ⟨#[119, 114, 105, 116, 101, 32, 116, 97, 107, 101]⟩, ⟨#[119, 114, 105, 116, 101, 32, 118, 97, 108, 117, 101]⟩, ⟨#[119, 114, 105, 116, 101, 32, 114, 101, 115, 101, 116]⟩, ⟨#[119, 114, 105, 116, 101, 32, 103, 117, 97, 114, 100]⟩, ⟨#[119, 114, 105, 116, 101, 32, 104, 101, 97, 100]⟩, ⟨#[119, 114, 105, 116, 101, 32, 104, 97, 122, 97, 114, 100]⟩, ⟨#[119, 114, 105, 116, 101, 32, 99, 104, 101, 99, 107]⟩, ⟨#[119, 114, 105, 116, 101, 32, 115, 116, 97, 109, 112]⟩, ⟨#[119, 114, 105, 116, 101, 32, 99, 108, 111, 99, 107]⟩, ⟨#[119, 114, 105, 116, 101, 32, 104, 101, 108, 112]⟩, ⟨#[119, 114, 105, 116, 101, 32, 108, 105, 110, 107]⟩, ⟨#[119, 114, 105, 116, 101, 32, 112, 117, 98, 108, 105, 115, 104]⟩, ⟨#[119, 114, 105, 116, 101, 32, 111, 119, 110, 32, 99, 108, 111, 99, 107]⟩, ⟨#[119, 114, 105, 116, 101, 32, 111, 119, 110, 32, 115, 116, 97, 109, 112]⟩, ⟨#[119, 114, 105, 116, 101, 32, 114, 101, 116, 105, 114, 101]⟩, ⟨#[119, 114, 105, 116, 101, 32, 99, 108, 101, 97, 114]⟩, ⟨#[119, 114, 105, 116, 101, 32, 100, 111, 110, 101]⟩, ⟨#[115, 99, 97, 110, 32, 97, 110, 110, 111, 117, 110, 99, 101, 100]⟩, ⟨#[109, 97, 114, 107, 32, 108, 111, 97, 100]⟩, ⟨#[109, 97, 114, 107, 32, 115, 119, 97, 112]⟩, ⟨#[102, 108, 117, 115, 104, 32, 99, 108, 101, 97, 114]⟩, ⟨#[102, 108, 117, 115, 104, 32, 100, 111, 110, 101]⟩, ⟨#[115, 99, 97, 110, 32, 104, 97, 122, 97, 114, 100, 115]⟩, ⟨#[101, 110, 100, 32, 99, 108, 101, 97, 114]⟩] rfl hF hS rfl mk153 rfl ⟨rfl, ec, rfl, ec, rfl, ec, rfl, ec, rfl, ec, rfl, ec, rfl, ec, rfl, ec, rfl, ec, rfl, ec, rfl, ec, rfl, ec, rfl, ec, rfl, ec, rfl, ec, rfl, ec, rfl, ec, rfl, ec, rfl, ec, rfl, ec, rfl, ec, rfl, ec, rfl, ec, rfl, ec, rfl, ec, rfl, ec, rfl, ec, rfl, ec, rfl, ec, rfl, ec, rfl, ec, rfl, ec, rfl, ec, rfl, ec, rfl, ec, rfl, ec, rfl, ec, rfl, ec, rfl, ec, rfl, ec, rfl, ec, rfl, ec, rfl, ec, trivial⟩ rfl rfl rfl rfl fun gl_1 w1 a hS hF => ge hK2 hF rfl fun a hF => ?_
 refine xr ?_
 exact ret1 rfl hF rfl ⟨(_, _, _), rfl, hS.pick [0] (by decide) rfl⟩
theorem specPcName_c {W : World} {pc : Int} : Calls Tryz.prog 126 #[vi pc] W (Ret fun v w' => (∃ s : ByteArray, v = .string s ∧ (s.data.toList == []) = !decide (pc ∈ pcs)) ∧ Below W.heap.size W w') := by
 refine cfr Tryz.func126 Tryz.ntmps126 fun a hF => ?_
 have hpl : pcs.length = 43 := rfl
 have hnl : pcNames.length = 43 := rfl
 have hS := Sep.refl W
 refine rg hF rfl fun a hF => ws fun K2 hK2 => ?_
 refine wl_mk hF hS rfl rfl rfl (r_call0 en131 ) (l7Pcs_c) ?_; rintro s5 w1 a hS_ hF; replace hS := hS_; clear hS_; dsimp only [List.cons_append, List.nil_append] at hS
 have hln5 := hS.own_len (q := 0) rfl
 refine ge hK2 hF rfl fun a hF => wp_seq_k fun K3 hK3 => rg hF rfl fun a hF => wp_block ?_
 have hL_ := (((hF.nil.keep hF (t := 3) rfl).keep hF (t := 2) rfl).keep hF (t := 0) rfl)
 refine wp_loop_r (σ := Nat) (fun k L_ => (4, vi k) :: L_) (fun k => (k ≤ pcs.length) ∧ ((pcs.take k).any (fun x => decide (x = pc)) = false)) (fun k => 43 - k) 0 hS (hL_.keepE hF (t := 4) rfl rfl) ?_ ?_
 · exact ⟨Nat.zero_le _, rfl⟩
 rintro k a w2 ⟨hk, hn⟩ hS hF; try dsimp only at hF; try dsimp only at hS
 refine wp_seq_k fun K5 hK5 => rg hF rfl fun a hF => cx 9 hF rfl (fun c9 hF => ?_) fun c9 hF => ?_
 ·
  refine wp_skip <| hK5 _ _ <| wp_seq_k fun K7 hK7 => wp_block <| ws fun K8 hK8 => ga 2 hF rfl fun a hF => ?_
  obtain ⟨g14, o14, m14, q14, hv14, hm14, hl14, hc14⟩ := Rd.atF ((hS.own_rd (i := 0) rfl)) (a := a) (X := .tmp 13) (hF.ev rfl) (by omega) (by omega)
  refine wl hF rfl rfl rfl (r_index sl29 ((hF.ev rfl).trans hv14) (hF.ev rfl) (by omega) (by first | omega | (simp at hm14; omega))) fun a hF => ?_
  refine wl hF rfl rfl rfl (r_load1 sc3 (hF.ev rfl) (hc14 0 _ rfl)) fun a hF => ge hK8 hF rfl fun a hF => cx 17 hF rfl (fun c17 hF => ?_) fun c17 hF => ?_
  ·
   refine ws fun K9 hK9 => ?_
   refine wl_mk hF hS rfl rfl rfl (r_call0 en132 ) (l7Names_c) ?_; rintro s18 w3 a hS_ hF; replace hS := hS_; clear hS_; dsimp only [List.cons_append, List.nil_append] at hS
   have hln18 := hS.own_len (q := 0) rfl
   refine ga 1 hF rfl fun a hF => ?_
   obtain ⟨g20, o20, m20, q20, hv20, hm20, hl20, hc20⟩ := Rd.atF ((hS.own_rd (i := 0) rfl)) (a := a) (X := .tmp 19) (hF.ev rfl) (by omega) (by have : pcs.length = 43 := rfl; have : pcNames.length = 43 := rfl; omega)
   refine wl hF rfl rfl rfl (r_index sl153 ((hF.ev rfl).trans hv20) (hF.ev rfl) (by omega) (by first | omega | (simp at hm20; omega))) fun a hF => ?_
   refine wl hF rfl rfl rfl (r_load1 sc9 (hF.ev rfl) (hc20 0 _ rfl)) fun a hF => ge hK9 hF rfl fun a hF => ?_
   refine xr ?_
   first
     | (refine ret1 rfl hF rfl ⟨⟨_, rfl, ?_⟩, hS.old⟩
        rw [pcNames_ne (at0_mem (by omega) (by have : pcs.length = 43 := rfl; have : pcNames.length = 43 := rfl; omega)), decide_eq_true (show pc ∈ pcs from c17 ▸ at0_mem (by omega) (by omega))]; rfl)
     | (refine ret1 rfl hF rfl ⟨⟨_, rfl, ?_⟩, hS.old⟩
        have hn2 := any_all hn hk (by omega)
        rw [decide_eq_false (fun h => by have := List.any_eq_false.1 hn2 pc h; simp at this)]; rfl)
  refine wp_skip ?_
  refine xt ?_
  refine hK7 _ _ <| rl hF rfl fun a hF => ?_
  refine xt ?_
  refine ⟨k + 1, ⟨by omega, any_next hn (at0_nat (by omega)) (decide_eq_false c17)⟩, hS, ((((hF.nil.keep hF (t := 3) rfl).keep hF (t := 2) rfl).keep hF (t := 0) rfl).keepE hF (t := 4) rfl (wk (by omega))), by have : pcs.length = 43 := rfl; omega⟩
 refine wp_exit ?_
 refine xt ?_
 refine hK3 _ _ <| rg hF rfl fun a hF => ?_
 refine xr ?_
 first
   | (refine ret1 rfl hF rfl ⟨⟨_, rfl, ?_⟩, hS.old⟩
      rw [pcNames_ne (at0_mem (by omega) (by have : pcs.length = 43 := rfl; have : pcNames.length = 43 := rfl; omega)), decide_eq_true (show pc ∈ pcs from c17 ▸ at0_mem (by omega) (by omega))]; rfl)
   | (refine ret1 rfl hF rfl ⟨⟨_, rfl, ?_⟩, hS.old⟩
      have hn2 := any_all hn hk (by omega)
      rw [decide_eq_false (fun h => by have := List.any_eq_false.1 hn2 pc h; simp at this)]; rfl)
theorem specIsPc_c {W : World} {pc : Int} : Calls Tryz.prog 109 #[vi pc] W (Ret fun v w' => v = .bool (decide (pc ∈ pcs)) ∧ Below W.heap.size W w') := by
 refine cfr Tryz.func109 Tryz.ntmps109 fun a hF => ?_
 have hS := Sep.refl W
 refine rg hF rfl fun a hF => ws fun K2 hK2 => ga 1 hF rfl fun a hF => ?_
 refine ck hF rfl (specPcName_c) ?_; rintro v w1 a ⟨⟨s4, rfl, hp4⟩, hB_⟩ hF; have hS := hS.ext hB_
 refine wl hF rfl rfl rfl (r_neqs (hF.ev rfl) ec) fun a hF => ge hK2 hF rfl fun a hF => ?_
 refine xr ?_
 refine ret1 rfl hF rfl ⟨congrArg Value.bool ?_, hS.old⟩
 show (!(s4.data.toList == [])) = _
 rw [hp4, Bool.not_not]
set_option maxRecDepth 20000
/-- what is asked of an entry, of a thread, of a state -/
def entOk (c : Config) (e : Entry) : Bool := isEntry e && decide (e.key < c.keys) && decide (indexOf e.handle < c.capacity)
def pcOk (c : Config) (t : Thread) : Prop := (t.pc ∈ pcs ∧ (t.pc = 0 ∨ (t.op.ok ∧ t.op.key < c.keys))) ∧ ¬ ((t.pc = 60 ∨ t.pc = 61) ∧ (t.work.length : Int) = 0) ∧ (t.pc = 50 → 0 ≤ t.at_ ∧ t.at_ ≤ c.threads - 1) ∧ (t.pc = 70 → 0 ≤ t.at_ ∧ t.at_ ≤ 2 * c.threads - 1)
instance (c : Config) (t : Thread) : Decidable (pcOk c t) := by unfold pcOk; infer_instance
def regsOk (c : Config) (t : Thread) : Bool := isLink c t.node && isLink c t.prev && isLink c t.curr && zeroOk c t.next
def sizesOk (t : Thread) : Prop := (0 ≤ t.snapshot ∧ t.snapshot ≤ 99) ∧ (t.buffer.length : Int) ≤ 100 ∧ (t.work.length : Int) ≤ 100 ∧ (t.free.length : Int) ≤ 100 ∧ (t.found.length : Int) ≤ 100 ∧ (t.limbo.length : Int) ≤ 100
instance (t : Thread) : Decidable (sizesOk t) := by unfold sizesOk; infer_instance
def freeOk (c : Config) (t : Thread) : Bool := t.free.all fun x => decide (0 ≤ x ∧ x ≤ c.capacity - 1)
def threadOk (c : Config) (t : Thread) : Bool := freeOk c t && (t.buffer ++ t.work).all (entOk c) && decide (pcOk c t) && regsOk c t && t.limbo.all (isNode c) && decide (sizesOk t)
def gensOk (s : State) : Bool := (List.range s.config.capacity.toNat).all fun i => decide (0 ≤ at0 s.generations i ∧ at0 s.generations i ≤ 9998)
def headsOk (s : State) : Bool := (List.range s.config.keys.toNat).all fun k => isLink s.config (at0 s.cells (headCell s.config k))
def nodesOk (s : State) : Bool := (List.range s.config.capacity.toNat).all fun i => zeroOk s.config (at0 s.cells (nodeCell s.config i 2)) && decide (0 ≤ at0 s.cells (nodeCell s.config i 0) ∧ at0 s.cells (nodeCell s.config i 0) ≤ 99)
def shapeOk (s : State) : Prop := s.config.ok ∧ (s.cells.length : Int) = cellCount s.config ∧ (s.generations.length : Int) = s.config.capacity ∧ (s.threads.length : Int) = s.config.threads
instance (s : State) : Decidable (shapeOk s) := by unfold shapeOk; infer_instance
def countsOk (s : State) : Prop := (1 ≤ at0 s.cells 0 ∧ at0 s.cells 0 ≤ s.config.clockMax) ∧ (0 ≤ at0 s.cells 1 ∧ at0 s.cells 1 ≤ s.config.capacity) ∧ (0 ≤ s.steps ∧ s.steps ≤ 1000000) ∧ (0 ≤ s.changes ∧ s.changes ≤ 1000000) ∧ (0 ≤ s.retries ∧ s.retries ≤ 1000000) ∧ (0 ≤ s.faults ∧ s.faults ≤ 1000000)
instance (s : State) : Decidable (countsOk s) := by unfold countsOk; infer_instance
def stateOk (s : State) : Bool := decide (shapeOk s) && gensOk s && s.threads.all (threadOk s.config) && headsOk s && nodesOk s && decide (countsOk s)
section
variable {α : Type} {c : Config} {e : Entry} {t : Thread} {s : State} {k n : Nat} {p : Nat → Bool} {q : α → Bool} {xs ys : List α} {x : α}
theorem range_at (h : k < n) : (List.range n)[k]? = some k := by simp [h]
theorem range_no (h : k < n) (hp : p k = false) : (List.range n).all p = false := List.all_eq_false.2 ⟨k, by simpa using h, by simp [hp]⟩
theorem all_no (hx : xs[k]? = some x) (hp : q x = false) : xs.all q = false := List.all_eq_false.2 ⟨x, List.mem_of_getElem? hx, by simp [hp]⟩
theorem all_nxt (h : (xs.take k).all q = true) (hx : xs[k]? = some x) (hp : q x = true) : (xs.take (k + 1)).all q = true := by
 rw [List.take_add_one, hx, List.all_append, h]; simp [hp]
theorem all_done (h : (xs.take k).all q = true) (hk : xs.length ≤ k) : xs.all q = true := by
 rwa [List.take_of_length_le hk] at h
theorem at0_app1 [Inhabited α] (h : (k : Int) < xs.length) : at0 (xs ++ ys) (k : Int) = at0 xs (k : Int) := by
 unfold at0; rw [Int.toNat_natCast, List.getElem?_append_left (by omega)]
theorem at0_app2 [Inhabited α] (h : ¬ (k : Int) < xs.length) : at0 (xs ++ ys) (k : Int) = at0 ys ((k : Int) - xs.length) := by
 unfold at0
 rw [Int.toNat_natCast, List.getElem?_append_right (by omega), show ((k : Int) - xs.length).toNat = k - xs.length by omega]
end
theorem l8Zero_c {W : World} {c : Config} {h : Int} (h1 : int64 h) : Calls Tryz.prog 85 #[.agg c.enc.toArray, vi h] W (Ret fun v w' => v = .bool (zeroOk c h) ∧ Below W.heap.size W w') := by
 refine cfr Tryz.func85 Tryz.ntmps85 fun a hF => ?_
 have hS := Sep.refl W
 refine ws fun K1 hK1 => wl_box (cs := [_, _, _, _, _, _]) hF hS rfl (hF.ev rfl) rfl fun g1 w1 a hS _ hF => ge hK1 hF rfl fun a hF => ws fun K2 hK2 => ga 1 hF rfl fun a hF => ckr hF hS rfl (specUnmarked_c h1) fun w2 a hS hF => ge hK2 hF rfl fun a hF => ?_
 refine wp_seq_k fun K3 hK3 => wp_region_calm (by kernel_rfl) (by kernel_rfl) <| qa 3 hF tk rfl fun a hF => ?_
 apply wq_or (A := [_, _, _, _, _, _, _, _, _, _]) (pk := 20) hF (tc := 10) rfl
 ·
  intro hg10 a hF; try simp only [zb] at hg10
  refine qa 1 hF tk rfl fun a hF => qk hF rfl (fun w_ hB_ => specIsHandle_c (int64_unmarked h1)) fun a hF => qa 1 hF tk rfl fun a hF => ?_
  apply wq_and (A := [_, _, _, _, _, _]) (pk := 19) hF (tc := 13) rfl
  ·
   intro hg13 a hF; try simp only [zb] at hg13
   refine qa 1 hF tk rfl fun a hF => qk hF rfl (fun w_ hB_ => specIndexOf_c (int64_unmarked h1)) fun a hF => qb 4 0 hF tk hS rfl rfl rfl fun a hF => ?_
   exact wpQuiet_nil ((Fr.pre (A := [_, _, _, _, _, _]) hF rfl).keep hF (t := 19) rfl)
  ·
   intro hg13 a hF; try simp only [zb] at hg13
   refine qa 6 hF tk rfl fun a hF => ?_
   exact wpQuiet_nil ((Fr.pre (A := [_, _, _, _, _, _]) hF rfl).keep hF (t := 19) rfl)
  intro a hF
  refine qa 1 hF tk rfl fun a hF => ?_
  exact wpQuiet_nil ((Fr.pre (A := [_, _, _, _, _]) hF rfl).keep hF (t := 20) rfl)
 ·
  intro hg10 a hF; try simp only [zb] at hg10
  refine qa 10 hF tk rfl fun a hF => ?_
  exact wpQuiet_nil ((Fr.pre (A := [_, _, _, _, _, _, _, _, _, _]) hF rfl).keep hF (t := 20) rfl)
 intro a hF
 refine qa 1 hF tk rfl fun a hF => ?_
 refine wpQuiet_nil ?_; intro w5 hB_; have hS := hS.ext hB_
 refine hK3 _ _ ?_
 refine xr ?_
 exact ret1 rfl hF rfl ⟨rfl, hS.old⟩
theorem l8Handles_c {W : World} {c : Config} {va : Value} {xs : List Int} (ha : intEK.Rd W va xs) (hw : ∀ x ∈ xs, int64 x) : Calls Tryz.prog 110 #[.agg c.enc.toArray, va] W (Ret fun v w' => v = .bool (xs.all (isNode c) && decide ((xs.length : Int) ≤ 100)) ∧ Below W.heap.size W w') := by
 refine cfr Tryz.func110 Tryz.ntmps110 fun a hF => ?_
 have hS := Sep.refl W
 obtain ⟨A_a, q_a, rfl, hq_a, hn_a⟩ := ha.sl; unfold maxLen at hn_a
 refine ws fun K1 hK1 => wl_box (cs := [_, _, _, _, _, _]) hF hS rfl (hF.ev rfl) rfl fun g1 w1 a hS _ hF => ge hK1 hF rfl fun a hF => wp_seq_k fun K2 hK2 => rg hF rfl fun a hF => wp_block ?_
 have hL_ := (((hF.nil.keep hF (t := 4) rfl).keep hF (t := 2) rfl).keep hF (t := 1) rfl)
 refine wp_loop_r (σ := Nat) (fun k L_ => (5, vi k) :: L_) (fun k => (k ≤ xs.length) ∧ ((xs.take k).all (isNode c) = true)) (fun k => xs.length - k) 0 hS (hL_.keepE hF (t := 5) rfl rfl) ?_ ?_
 · exact ⟨Nat.zero_le _, rfl⟩
 rintro k a w2 ⟨hk, hn⟩ hS hF; try dsimp only at hF; try dsimp only at hS
 refine wp_seq_k fun K4 hK4 => rg hF rfl fun a hF => cx 9 hF rfl (fun c9 hF => ?_) fun c9 hF => ?_
 ·
  have hlt : k < xs.length := by omega
  have hx := at0_nat hlt
  have h1 : int64 (at0 xs (k : Int)) := hw _ (at0_mem (by omega) (by omega))
  refine wp_skip <| hK4 _ _ <| wp_seq_k fun K6 hK6 => wp_block <| wp_seq_k fun K7 hK7 => wp_region_calm (by kernel_rfl) (by kernel_rfl) <| qa 2 hF tk rfl fun a hF => ?_
  obtain ⟨g14, o14, m14, q14, hv14, hm14, hl14, hc14⟩ := Rd.atF (ha) (a := a) (X := .tmp 13) (hF.ev rfl) (by omega) (by omega)
  refine wq hF rfl rfl rfl (fun w_ hB_ => r_index sl29 ((hF.ev rfl).trans hv14) (hF.ev rfl) (by omega) (by first | omega | (simp at hm14; omega))) fun a hF => ?_
  refine wq hF rfl rfl rfl (fun w_ hB_ => r_load1 sc3 (hF.ev rfl) (cellB (hS.ext hB_).old (hc14 0 _ rfl))) fun a hF => qk hF rfl (fun w_ hB_ => specIsHandle_c h1) fun a hF => qa 2 hF tk rfl fun a hF => ?_
  apply wq_or (A := [_, _, _, _, _, _, _, _, _]) (pk := 27) hF (tc := 18) rfl
  ·
   intro hg18 a hF; try simp only [zb] at hg18
   refine qa 2 hF tk rfl fun a hF => wq_take hF rfl rfl rfl rfl ?_
   obtain ⟨g21, o21, m21, q21, hv21, hm21, hl21, hc21⟩ := Rd.atF (ha) (a := a) (X := .tmp 20) (hF.ev rfl) (by omega) (by omega)
   refine wq hF rfl rfl rfl (fun w_ hB_ => r_index sl29 ((hF.ev rfl).trans hv21) (hF.ev rfl) (by omega) (by first | omega | (simp at hm21; omega))) fun a hF => ?_
   refine wq_take hF rfl rfl rfl rfl <| wq hF rfl rfl rfl (fun w_ hB_ => r_load1 sc3 (hF.ev rfl) (cellB (hS.ext hB_).old (hc21 0 _ rfl))) fun a hF => qk hF rfl (fun w_ hB_ => specIndexOf_c h1) fun a hF => qb 4 0 hF tk hS rfl rfl rfl fun a hF => ?_
   exact wpQuiet_nil ((Fr.pre (A := [_, _, _, _, _, _, _, _, _]) hF rfl).keep hF (t := 27) rfl)
  ·
   intro hg18 a hF; try simp only [zb] at hg18
   refine qa 9 hF tk rfl fun a hF => ?_
   exact wpQuiet_nil ((Fr.pre (A := [_, _, _, _, _, _, _, _, _]) hF rfl).keep hF (t := 27) rfl)
  intro a hF
  refine wpQuiet_nil ?_; intro w4 hB_; have hS := hS.ext hB_
  refine hK7 _ _ <| cx 27 hF rfl (fun c27 hF => ?_) fun c27 hF => ?_
  ·
   refine rg hF rfl fun a hF => ?_
   refine xr ?_
   first
     | (refine ret1 rfl hF rfl ⟨?_, hS.old⟩; rw [all_no (q := isNode c) hx (by unfold isNode; rcases c27 with c27 | c27 <;> simp [c27]), Bool.false_and])
     | (refine ret1 rfl hF rfl ⟨?_, hS.old⟩; rw [all_done hn (by omega), Bool.true_and])
  refine wp_skip ?_
  refine xt ?_
  refine hK6 _ _ <| rl hF rfl fun a hF => ?_
  refine xt ?_
  refine ⟨k + 1, ⟨by omega, all_nxt hn hx (by unfold isNode; simp [c27]; omega)⟩, hS, ((((hF.nil.keep hF (t := 4) rfl).keep hF (t := 2) rfl).keep hF (t := 1) rfl).keepE hF (t := 5) rfl (wk (by omega))), by omega⟩
 refine wp_exit ?_
 refine xt ?_
 refine hK2 _ _ <| rg hF rfl fun a hF => ?_
 refine xr ?_
 first
   | (refine ret1 rfl hF rfl ⟨?_, hS.old⟩; rw [all_no (q := isNode c) hx (by unfold isNode; rcases c27 with c27 | c27 <;> simp [c27]), Bool.false_and])
   | (refine ret1 rfl hF rfl ⟨?_, hS.old⟩; rw [all_done hn (by omega), Bool.true_and])
theorem indexFuncI_c {W : World} {va : Value} {xs : List Int} {f : FuncId} {cap : Array Value} {p : Int → Bool} (ha : intEK.Rd W va xs) (hen : enterB Tryz.prog f = true) (hf : ∀ (w : World) (x : Int), x ∈ xs → Below W.heap.size W w → Calls Tryz.prog f (#[vi x] ++ cap) w (Ret fun v w' => v = .bool (p x) ∧ Below w.heap.size w w')) : Calls Tryz.prog 69 #[va, .func (.func f) #[] cap] W (Ret fun v w' => (∃ j : Int, v = vi j ∧ (0 ≤ j ↔ xs.any p = true)) ∧ Below W.heap.size W w') := by
 refine cfr Tryz.func69 Tryz.ntmps69 fun a hF => ?_
 obtain ⟨A_a, q_a, rfl, hq_a, hn_a⟩ := ha.sl; unfold maxLen at hn_a
 have hS := Sep.refl W
 refine rg hF rfl fun a hF => wp_seq_k fun K2 hK2 => rg hF rfl fun a hF => wp_block <| wp_loop_g (σ := Nat) (fun k a w => k ≤ xs.length ∧ (xs.take k).any p = false ∧ Sep W [] w ∧ Fr 19 [(8, vi k), (7, vi xs.length), (1, .func (.func f) #[] cap), (0, .slice A_a xs.length q_a)] a) (fun k => xs.length - k) 0 ?_ ?_
 · exact ⟨Nat.zero_le _, by simp, hS, ((((hF.nil.keep hF (t := 0) rfl).keep hF (t := 1) rfl).keep hF (t := 7) rfl).keep hF (t := 8) rfl)⟩
 rintro k a w ⟨hk, hn, hS, hF⟩
 refine rg hF rfl fun a hF => wp_seq_k fun K5 hK5 => ?_
 first | refine wc_dec (hF.ev rfl) (fun c9 => ?_) (fun c9 => ?_) | refine wc_ndec (hF.ev rfl) (fun c9 => ?_) (fun c9 => ?_) | refine wc_b (hF.ev rfl) (fun c9 => ?_) (fun c9 => ?_)
 ·
  have hlt : k < xs.length := by omega
  obtain ⟨x, hx⟩ : ∃ x, xs[k]? = some x := ⟨_, List.getElem?_eq_getElem hlt⟩
  refine wp_skip <| hK5 _ _ <| wp_seq_k fun K6 hK6 => wp_block <| rg hF rfl fun a hF => ws fun K8 hK8 => ga 3 hF rfl fun a hF => ?_
  obtain ⟨g14, o14, m14, q14, hv14, hm14, hl14, hc14⟩ := Rd.idxF (hS.rd ha) hx
  refine wl hF rfl rfl rfl (r_index sl29 ((hF.ev rfl).trans hv14) (hF.ev rfl) (by omega) (by omega)) fun a hF => wl hF rfl rfl rfl (r_load1 sc3 (hF.ev rfl) (hc14 0 _ rfl)) fun a hF => ?_
  refine wl_call hF rfl rfl rfl (r_callv1 hen (hF.ev rfl) (hF.ev rfl)) (hf _ x (List.mem_of_getElem? hx) hS.old) ?_; rintro v w1 a ⟨rfl, hB_⟩ hF; have hS := hS.ext hB_
  refine wl_nil (hK8 _ _ ?_)
  first | refine wc_dec (hF.ev rfl) (fun c16 => ?_) (fun c16 => ?_) | refine wc_ndec (hF.ev rfl) (fun c16 => ?_) (fun c16 => ?_) | refine wc_b (hF.ev rfl) (fun c16 => ?_) (fun c16 => ?_)
  ·
   refine rg hF rfl fun a hF => ?_
   refine xr ?_
   first | exact ret1 rfl hF rfl ⟨⟨_, rfl, ⟨fun _ => any_at hx c16, fun _ => by omega⟩⟩, hS.old⟩ | exact ret1 rfl hF rfl ⟨⟨_, rfl, ⟨fun h => absurd h (by omega), fun h => absurd h (by rw [any_all hn hk (by assumption)]; decide)⟩⟩, hS.old⟩
  refine wp_skip ?_
  refine xt ?_
  refine hK6 _ _ <| rl hF rfl fun a hF => ?_
  refine xt ?_
  exact ⟨k + 1, ⟨by omega, any_next hn hx c16, hS, ((((hF.nil.keep hF (t := 0) rfl).keep hF (t := 1) rfl).keep hF (t := 7) rfl).keepE hF (t := 8) rfl (wk (by omega)))⟩, by omega⟩
 refine wp_exit ?_
 refine xt ?_
 refine hK2 _ _ <| rg hF rfl fun a hF => ?_
 refine xr ?_
 first | exact ret1 rfl hF rfl ⟨⟨_, rfl, ⟨fun _ => any_at hx c16, fun _ => by omega⟩⟩, hS.old⟩ | exact ret1 rfl hF rfl ⟨⟨_, rfl, ⟨fun h => absurd h (by omega), fun h => absurd h (by rw [any_all hn hk (by assumption)]; decide)⟩⟩, hS.old⟩
theorem containsFuncI_c {W : World} {va : Value} {xs : List Int} {f : FuncId} {cap : Array Value} {p : Int → Bool} (ha : intEK.Rd W va xs) (hen : enterB Tryz.prog f = true) (hf : ∀ (w : World) (x : Int), x ∈ xs → Below W.heap.size W w → Calls Tryz.prog f (#[vi x] ++ cap) w (Ret fun v w' => v = .bool (p x) ∧ Below w.heap.size w w')) : Calls Tryz.prog 56 #[va, .func (.func f) #[] cap] W (Ret fun v w' => v = .bool (xs.any p) ∧ Below W.heap.size W w') := by
 refine cfr Tryz.func56 Tryz.ntmps56 fun a hF => ?_
 have hS := Sep.refl W
 refine rg hF rfl fun a hF => ws fun K2 hK2 => ga 2 hF rfl fun a hF => ?_
 refine ck hF rfl (indexFuncI_c (hS.rd ha) hen hf) ?_; rintro v w1 a ⟨⟨j, rfl, hj⟩, hB_⟩ hF; have hS := hS.ext hB_
 refine ge hK2 hF rfl fun a hF => ?_
 refine xr ?_
 refine ret1 rfl hF rfl ⟨congrArg Value.bool ?_, hS.old⟩
 cases hb : xs.any p with
 | true => exact decide_eq_true (hj.2 hb)
 | false => exact decide_eq_false (fun h => by rw [hj.1 h] at hb; cases hb)
set_option maxRecDepth 20000
section
variable {c : Config} {t : Thread}
theorem th_no (h : ¬ pcOk c t) : threadOk c t = false := by unfold threadOk; rw [decide_eq_false h]; simp
theorem th_no1 (h : ¬t.pc ∈ pcs ∨ ¬t.pc = 0 ∧ (¬t.op.ok ∨ c.keys ≤ t.op.key)) : threadOk c t = false := th_no fun hp => by
  obtain ⟨⟨h1, h2⟩, _⟩ := hp
  rcases h with h | ⟨h3, h | h⟩
  · exact h h1
  · rcases h2 with h2 | h2
    · exact h3 h2
    · exact h h2.1
  · rcases h2 with h2 | h2
    · exact h3 h2
    · have := h2.2; omega
end
set_option maxRecDepth 20000
section
variable {c : Config} {e : Entry} {t : Thread}
theorem ent_yes (h : (isEntry e = true ∧ ¬ c.keys ≤ e.key) ∧ ¬ c.capacity ≤ indexOf e.handle) : entOk c e = true := by
 unfold entOk; rw [h.1.1, decide_eq_true (show e.key < c.keys by omega), decide_eq_true (show indexOf e.handle < c.capacity by omega)]; rfl
theorem ent_no (h : (isEntry e = false ∨ c.keys ≤ e.key) ∨ c.capacity ≤ indexOf e.handle) : entOk c e = false := by
 unfold entOk
 rcases h with (h | h) | h
 · rw [h]; rfl
 · rw [decide_eq_false (show ¬ e.key < c.keys by omega)]; simp
 · rw [decide_eq_false (show ¬ indexOf e.handle < c.capacity by omega)]; simp
theorem th_noS (h : (¬t.pc ∈ pcs ∨ ¬t.pc = 0 ∧ ¬t.op.ok) ∨ c.keys ≤ t.op.key ∧ ¬t.pc = 0) : threadOk c t = false := th_no1 (by
  rcases h with (h | h) | h
  · exact .inl h
  · exact .inr ⟨h.1, .inl h.2⟩
  · exact .inr ⟨h.2, .inr h.1⟩)
theorem th_yesS (hf : freeOk c t = true) (he : (t.buffer ++ t.work).all (entOk c) = true) (hp : pcOk c t) :
    threadOk c t = (zeroOk c t.node && zeroOk c t.prev && zeroOk c t.curr && zeroOk c t.next && !isMarked t.node && !isMarked t.prev && !isMarked t.curr && (t.limbo.all (isNode c) && decide ((t.limbo.length : Int) ≤ 100)) && decide (0 ≤ t.snapshot ∧ t.snapshot ≤ 99) && decide ((t.buffer.length : Int) ≤ 100) && decide ((t.work.length : Int) ≤ 100) && decide ((t.free.length : Int) ≤ 100) && decide ((t.found.length : Int) ≤ 100)) := by
  unfold threadOk
  rw [hf, he, decide_eq_true hp, Bool.eq_iff_iff]
  unfold regsOk
  simp only [isLink_zero, Bool.and_eq_true, decide_eq_true_eq, Bool.true_and]
  unfold sizesOk
  constructor
  · rintro ⟨⟨⟨⟨⟨⟨a1, b1⟩, a2, b2⟩, a3, b3⟩, a4⟩, l⟩, h5, h6, h7, h8, h9, h10⟩
    exact ⟨⟨⟨⟨⟨⟨⟨⟨⟨⟨⟨⟨a1, a2⟩, a3⟩, a4⟩, b1⟩, b2⟩, b3⟩, l, h10⟩, h5⟩, h6⟩, h7⟩, h8⟩, h9⟩
  · rintro ⟨⟨⟨⟨⟨⟨⟨⟨⟨⟨⟨⟨a1, a2⟩, a3⟩, a4⟩, b1⟩, b2⟩, b3⟩, l, h10⟩, h5⟩, h6⟩, h7⟩, h8⟩, h9⟩
    exact ⟨⟨⟨⟨⟨⟨a1, b1⟩, a2, b2⟩, a3, b3⟩, a4⟩, l⟩, h5, h6, h7, h8, h9, h10⟩
theorem th_free (hx : freeOk c t = false) : threadOk c t = false := by unfold threadOk; rw [hx]; rfl
theorem th_ents (hx : (t.buffer ++ t.work).all (entOk c) = false) : threadOk c t = false := by unfold threadOk; rw [hx]; simp
end
theorem l8Thread_c {W : World} {c : Config} {t : Sl.Thread} {cs : List Value} (hm : threadEK.K W t cs) (hw : t.wf) (hok : c.ok) (hz : (t.size : Int) ≤ 1048576) : Calls Tryz.prog 83 #[.agg c.enc.toArray, .agg cs.toArray] W (Ret fun v w' => v = .bool (threadOk c t) ∧ Below W.heap.size W w') := by
 refine cfr Tryz.func83 Tryz.ntmps83 fun a hF => ?_
 have hS := Sep.refl W
 obtain ⟨v0, v1, v2, v3, v4, rfl, r0, r1, r2, r3, r4⟩ := hm
 obtain ⟨A_a, q_a, rfl, hq_a, hn_a⟩ := r0.sl; unfold maxLen at hn_a
 obtain ⟨A_b, q_b, rfl, hq_b, hn_b⟩ := r1.sl; unfold maxLen at hn_b
 obtain ⟨A_c, q_c, rfl, hq_c, hn_c⟩ := r2.sl; unfold maxLen at hn_c
 obtain ⟨A_d, q_d, rfl, hq_d, hn_d⟩ := r3.sl; unfold maxLen at hn_d
 obtain ⟨A_e, q_e, rfl, hq_e, hn_e⟩ := r4.sl; unfold maxLen at hn_e
 obtain ⟨wpc, wop, wres, wsnap, wnode, wprev, wcurr, wnext, wseen, wstamp, wat, wfound, wfree, wbuf, wwork, wlimbo⟩ := hw
 have hb := hok; unfold Config.ok at hb
 have hw1 : IntKind.i64.wrap (c.threads - 1) = c.threads - 1 := w64_id (by omega) (by omega)
 have hw2 : IntKind.i64.wrap (c.capacity - 1) = c.capacity - 1 := w64_id (by omega) (by omega)
 have hw3 : IntKind.i64.wrap (IntKind.i64.wrap (2 * c.threads) - 1) = 2 * c.threads - 1 := by rw [w64_id (q := 2 * c.threads) (by omega) (by omega)]; exact w64_id (by omega) (by omega)
 have hz1 := hz; unfold Sl.Thread.size at hz1
 have hw5 : IntKind.i64.wrap (t.buffer.length + t.work.length) = t.buffer.length + t.work.length := w64_id (by omega) (by omega)
 refine ws fun K1 hK1 => wl_box (cs := [_, _, _, _, _, _]) hF hS rfl (hF.ev rfl) rfl fun g1 w1 a hS _ hF => wl_box (cs := [_, _, _, _, _, _, _, _, _, _, _, _, _, _, _, _, _, _, _]) hF hS rfl (hF.ev rfl) rfl fun g2 w2 a hS _ hF => ge hK1 hF rfl fun a hF => wp_seq_k fun K2 hK2 => rg hF rfl fun a hF => wp_block ?_
 have hL_ := (((hF.nil.keep hF (t := 4) rfl).keep hF (t := 3) rfl).keep hF (t := 2) rfl)
 refine wp_loop_r (σ := Nat) (fun k L_ => (5, vi k) :: L_) (fun k => (k ≤ t.free.length) ∧ ((t.free.take k).all (fun x => decide (0 ≤ x ∧ x ≤ c.capacity - 1)) = true)) (fun k => t.free.length - k) 0 hS (hL_.keepE hF (t := 5) rfl rfl) ?_ ?_
 · exact ⟨Nat.zero_le _, rfl⟩
 rintro k a w3 ⟨hk, hn⟩ hS hF; try dsimp only at hF; try dsimp only at hS
 refine wp_seq_k fun K4 hK4 => rh 0 hF hS rfl rfl rfl fun a hF => cx 13 hF rfl (fun c13 hF => ?_) fun c13 hF => ?_
 ·
  have hlt : k < t.free.length := by omega
  have hx := at0_nat hlt
  refine wp_skip <| hK4 _ _ <| wp_seq_k fun K6 hK6 => wp_block <| wp_seq_k fun K7 hK7 => wp_region_calm (by kernel_rfl) (by kernel_rfl) <| qb 3 0 hF tk hS rfl rfl rfl fun a hF => ?_
  obtain ⟨g19, o19, m19, q19, hv19, hm19, hl19, hc19⟩ := Rd.atF (r1) (a := a) (X := .tmp 18) (hF.ev rfl) (by omega) (by omega)
  refine wq hF rfl rfl rfl (fun w_ hB_ => r_index sl29 ((hF.ev rfl).trans hv19) (hF.ev rfl) (by omega) (by first | omega | (simp at hm19; omega))) fun a hF => ?_
  refine wq hF rfl rfl rfl (fun w_ hB_ => r_load1 sc3 (hF.ev rfl) (cellB (hS.ext hB_).old (hc19 0 _ rfl))) fun a hF => qb 3 1 hF tk hS rfl rfl rfl fun a hF => qk hF rfl (fun w_ hB_ => l1In_c _ _ _) fun a hF => qa 1 hF tk rfl fun a hF => ?_
  refine wpQuiet_nil ?_; intro w4 hB_; have hS := hS.ext hB_
  refine hK7 _ _ <| cx 25 hF rfl (fun c25 hF => ?_) fun c25 hF => ?_
  ·
   refine rg hF rfl fun a hF => ?_
   refine xr ?_
   refine ret1 rfl hF rfl ⟨congrArg Value.bool (Eq.symm ?_), hS.old⟩
   first
     | exact th_free (all_no hx (decide_eq_false (hw2 ▸ c25)))
     | exact th_ents (all_no hx (ent_no c74))
     | exact th_noS c102
     | exact th_yesS (all_done hn (by omega)) (all_done hn2 (by rw [List.length_append]; omega)) ⟨⟨c102.1.1, by rcases c102.1.2 with h | h; exact .inl h; exact c102.2.elim (fun h2 => .inr ⟨h, by omega⟩) .inl⟩, by omega, fun h => by omega, fun h => by omega⟩
     | exact th_no fun hp => by
         obtain ⟨-, p1, p2, p3⟩ := hp
         rcases c148 with (c148 | c148) | c148
         · exact p1 c148
         · rcases c148.1 with h | h
           · have := p2 h; omega
           · have := p3 h; omega
         · have := p2 c148.1; omega
  refine wp_skip ?_
  refine xt ?_
  refine hK6 _ _ <| rl hF rfl fun a hF => ?_
  refine xt ?_
  refine ⟨k + 1, ⟨by omega, all_nxt hn hx (by rw [decide_eq_true (hw2 ▸ c25)])⟩, hS, ((((hF.nil.keep hF (t := 4) rfl).keep hF (t := 3) rfl).keep hF (t := 2) rfl).keepE hF (t := 5) rfl (wk (by omega))), by omega⟩
 refine wp_exit ?_
 refine xt ?_
 refine hK2 _ _ <| wp_seq_k fun K9 hK9 => rg hF rfl fun a hF => wp_block ?_
 have hL_ := (((hF.nil.keep hF (t := 4) rfl).keep hF (t := 3) rfl).keep hF (t := 2) rfl)
 refine wp_loop_r (σ := Nat) (fun k L_ => (6, vi k) :: L_) (fun k => (k ≤ t.buffer.length + t.work.length) ∧ (((t.buffer ++ t.work).take k).all (entOk c) = true)) (fun k => (t.buffer ++ t.work).length - k) 0 hS (hL_.keepE hF (t := 6) rfl rfl) ?_ ?_
 · exact ⟨Nat.zero_le _, rfl⟩
 rintro k a w5 ⟨hk, hn2⟩ hS hF; try dsimp only at hF; try dsimp only at hS
 refine wp_seq_k fun K11 hK11 => rh 0 hF hS rfl rfl rfl fun a hF => cx 34 hF rfl (fun c34 hF => ?_) fun c34 hF => ?_
 ·
  rw [hw5] at c34
  refine wp_skip <| hK11 _ _ <| wp_seq_k fun K13 hK13 => wp_block <| ws fun K14 hK14 => wl hF rfl rfl rfl (r_build (bd139) trivial) fun a hF => wl_alloc hF hS rfl zr139 fun g3 w6 a hS _ hF => ?_
  refine ww 0 hF hS rfl rfl rfl rfl rfl rfl fun w7 hS => wl_nil <| hK14 _ _ <| wp_seq_k fun K15 hK15 => rh 1 hF hS rfl rfl rfl fun a hF => cx 42 hF rfl (fun c42 hF => ?_) fun c42 hF => ?_
  ·
   have hlt : k < t.buffer.length := by omega
   have hwf := wbuf _ (at0_mem (xs := t.buffer) (i := (k : Int)) (by omega) (by omega))
   have hx := (at0_nat (xs := t.buffer ++ t.work) (k := k) (by rw [List.length_append]; omega)).trans (congrArg some (at0_app1 c42))
   refine wp_region_lit <| gB 3 1 hF hS rfl rfl rfl fun a hF => ?_
   obtain ⟨g46, o46, m46, q46, hv46, hm46, hl46, hc46⟩ := Rd.atF (r2) (a := a) (X := .tmp 45) (hF.ev rfl) (by omega) (by omega)
   refine wl hF rfl rfl rfl (r_index sl108 ((hF.ev rfl).trans hv46) (hF.ev rfl) (by omega) (by first | omega | (simp at hm46; omega))) fun a hF => ?_
   refine wl hF rfl rfl rfl (r_loadn ag139 (hF.ev rfl) (fun j_ u_ hu_ => cellB hS.old (hc46 j_ u_ hu_)) sz139) fun a hF => ?_
   refine wl_storen (cs' := [_, _, _, _]) hF hS (i := 0) rfl (hF.ev rfl) (hF.ev rfl) sz139 ⟨rfl, rfl⟩ rfl rfl fun w8 hS => ?_; dsimp only [List.set] at hS
   refine wl_nil <| hK15 _ _ <| wp_seq_k fun K17 hK17 => wp_region_calm (by kernel_rfl) (by kernel_rfl) <| qb 1 0 hF tk hS rfl rfl rfl fun a hF => qk hF rfl (fun w_ hB_ => specIsEntry_c hwf) fun a hF => qa 2 hF tk rfl fun a hF => ?_
   apply wq_or (A := [_, _, _, _, _, _]) (pk := 66) hF (tc := 60) rfl
   ·
    intro hg60 a hF; try simp only [zb] at hg60
    refine qb 3 0 hF tk hS rfl rfl rfl fun a hF => wq_take hF rfl rfl rfl rfl <| qb 3 2 hF tk hS rfl rfl rfl fun a hF => ?_
    exact wpQuiet_nil ((Fr.pre (A := [_, _, _, _, _, _]) hF rfl).keep hF (t := 66) rfl)
   ·
    intro hg60 a hF; try simp only [zb] at hg60
    refine qa 6 hF tk rfl fun a hF => ?_
    exact wpQuiet_nil ((Fr.pre (A := [_, _, _, _, _, _]) hF rfl).keep hF (t := 66) rfl)
   intro a hF
   refine qa 1 hF tk rfl fun a hF => ?_
   apply wq_or (A := [_, _, _, _, _, _, _]) (pk := 74) hF (tc := 67) rfl
   ·
    intro hg67 a hF; try simp only [zb] at hg67
    refine qb 2 0 hF tk hS rfl rfl rfl fun a hF => qk hF rfl (fun w_ hB_ => specIndexOf_c hwf.1) fun a hF => qb 4 2 hF tk hS rfl rfl rfl fun a hF => ?_
    exact wpQuiet_nil ((Fr.pre (A := [_, _, _, _, _, _, _]) hF rfl).keep hF (t := 74) rfl)
   ·
    intro hg67 a hF; try simp only [zb] at hg67
    refine qa 7 hF tk rfl fun a hF => ?_
    exact wpQuiet_nil ((Fr.pre (A := [_, _, _, _, _, _, _]) hF rfl).keep hF (t := 74) rfl)
   intro a hF
   refine wpQuiet_nil ?_; intro w11 hB_; have hS := hS.ext hB_
   refine hK17 _ _ <| cx 74 hF rfl (fun c74 hF => ?_) fun c74 hF => ?_
   ·
    refine rg hF rfl fun a hF => ?_
    refine xr ?_
    refine ret1 rfl hF rfl ⟨congrArg Value.bool (Eq.symm ?_), hS.old⟩
    first
      | exact th_free (all_no hx (decide_eq_false (hw2 ▸ c25)))
      | exact th_ents (all_no hx (ent_no c74))
      | exact th_noS c102
      | exact th_yesS (all_done hn (by omega)) (all_done hn2 (by rw [List.length_append]; omega)) ⟨⟨c102.1.1, by rcases c102.1.2 with h | h; exact .inl h; exact c102.2.elim (fun h2 => .inr ⟨h, by omega⟩) .inl⟩, by omega, fun h => by omega, fun h => by omega⟩
      | exact th_no fun hp => by
          obtain ⟨-, p1, p2, p3⟩ := hp
          rcases c148 with (c148 | c148) | c148
          · exact p1 c148
          · rcases c148.1 with h | h
            · have := p2 h; omega
            · have := p3 h; omega
          · have := p2 c148.1; omega
   refine wp_skip ?_
   refine xt ?_
   refine hK13 _ _ <| rl hF rfl fun a hF => ?_
   refine xt ?_
   refine ⟨k + 1, ⟨by omega, all_nxt hn2 hx (ent_yes c74)⟩, (hS.pick [1, 2] (by decide) rfl), ((((hF.nil.keep hF (t := 4) rfl).keep hF (t := 3) rfl).keep hF (t := 2) rfl).keepE hF (t := 6) rfl (wk (by omega))), by rw [List.length_append]; omega⟩
  have hw4 : IntKind.i64.wrap ((k : Int) - t.buffer.length) = k - t.buffer.length := w64_id (by omega) (by omega)
  have hwf := wwork _ (at0_mem (xs := t.work) (i := IntKind.i64.wrap ((k : Int) - t.buffer.length)) (by omega) (by omega))
  have hx : (t.buffer ++ t.work)[k]? = some (at0 t.work (IntKind.i64.wrap ((k : Int) - t.buffer.length))) := by rw [hw4]; exact (at0_nat (xs := t.buffer ++ t.work) (k := k) (by rw [List.length_append]; omega)).trans (congrArg some (at0_app2 c42))
  refine wp_region_lit <| gB 7 1 hF hS rfl rfl rfl fun a hF => ?_
  obtain ⟨g55, o55, m55, q55, hv55, hm55, hl55, hc55⟩ := Rd.atF (r3) (a := a) (X := .tmp 54) (hF.ev rfl) (by omega) (by omega)
  refine wl hF rfl rfl rfl (r_index sl108 ((hF.ev rfl).trans hv55) (hF.ev rfl) (by omega) (by first | omega | (simp at hm55; omega))) fun a hF => ?_
  refine wl hF rfl rfl rfl (r_loadn ag139 (hF.ev rfl) (fun j_ u_ hu_ => cellB hS.old (hc55 j_ u_ hu_)) sz139) fun a hF => ?_
  refine wl_storen (cs' := [_, _, _, _]) hF hS (i := 0) rfl (hF.ev rfl) (hF.ev rfl) sz139 ⟨rfl, rfl⟩ rfl rfl fun w12 hS => ?_; dsimp only [List.set] at hS
  refine wl_nil <| hK15 _ _ <| wp_seq_k fun K19 hK19 => wp_region_calm (by kernel_rfl) (by kernel_rfl) <| qb 1 0 hF tk hS rfl rfl rfl fun a hF => qk hF rfl (fun w_ hB_ => specIsEntry_c hwf) fun a hF => qa 2 hF tk rfl fun a hF => ?_
  apply wq_or (A := [_, _, _, _, _, _]) (pk := 66) hF (tc := 60) rfl
  ·
   intro hg60 a hF; try simp only [zb] at hg60
   refine qb 3 0 hF tk hS rfl rfl rfl fun a hF => wq_take hF rfl rfl rfl rfl <| qb 3 2 hF tk hS rfl rfl rfl fun a hF => ?_
   exact wpQuiet_nil ((Fr.pre (A := [_, _, _, _, _, _]) hF rfl).keep hF (t := 66) rfl)
  ·
   intro hg60 a hF; try simp only [zb] at hg60
   refine qa 6 hF tk rfl fun a hF => ?_
   exact wpQuiet_nil ((Fr.pre (A := [_, _, _, _, _, _]) hF rfl).keep hF (t := 66) rfl)
  intro a hF
  refine qa 1 hF tk rfl fun a hF => ?_
  apply wq_or (A := [_, _, _, _, _, _, _]) (pk := 74) hF (tc := 67) rfl
  ·
   intro hg67 a hF; try simp only [zb] at hg67
   refine qb 2 0 hF tk hS rfl rfl rfl fun a hF => qk hF rfl (fun w_ hB_ => specIndexOf_c hwf.1) fun a hF => qb 4 2 hF tk hS rfl rfl rfl fun a hF => ?_
   exact wpQuiet_nil ((Fr.pre (A := [_, _, _, _, _, _, _]) hF rfl).keep hF (t := 74) rfl)
  ·
   intro hg67 a hF; try simp only [zb] at hg67
   refine qa 7 hF tk rfl fun a hF => ?_
   exact wpQuiet_nil ((Fr.pre (A := [_, _, _, _, _, _, _]) hF rfl).keep hF (t := 74) rfl)
  intro a hF
  refine wpQuiet_nil ?_; intro w15 hB_; have hS := hS.ext hB_
  refine hK19 _ _ <| cx 74 hF rfl (fun c74 hF => ?_) fun c74 hF => ?_
  ·
   refine rg hF rfl fun a hF => ?_
   refine xr ?_
   refine ret1 rfl hF rfl ⟨congrArg Value.bool (Eq.symm ?_), hS.old⟩
   first
     | exact th_free (all_no hx (decide_eq_false (hw2 ▸ c25)))
     | exact th_ents (all_no hx (ent_no c74))
     | exact th_noS c102
     | exact th_yesS (all_done hn (by omega)) (all_done hn2 (by rw [List.length_append]; omega)) ⟨⟨c102.1.1, by rcases c102.1.2 with h | h; exact .inl h; exact c102.2.elim (fun h2 => .inr ⟨h, by omega⟩) .inl⟩, by omega, fun h => by omega, fun h => by omega⟩
     | exact th_no fun hp => by
         obtain ⟨-, p1, p2, p3⟩ := hp
         rcases c148 with (c148 | c148) | c148
         · exact p1 c148
         · rcases c148.1 with h | h
           · have := p2 h; omega
           · have := p3 h; omega
         · have := p2 c148.1; omega
  refine wp_skip ?_
  refine xt ?_
  refine hK13 _ _ <| rl hF rfl fun a hF => ?_
  refine xt ?_
  refine ⟨k + 1, ⟨by omega, all_nxt hn2 hx (ent_yes c74)⟩, (hS.pick [1, 2] (by decide) rfl), ((((hF.nil.keep hF (t := 4) rfl).keep hF (t := 3) rfl).keep hF (t := 2) rfl).keepE hF (t := 6) rfl (wk (by omega))), by rw [List.length_append]; omega⟩
 rw [hw5] at c34
 refine wp_exit ?_
 refine xt ?_
 refine hK9 _ _ <| wp_seq_k fun K21 hK21 => ws fun K22 hK22 => gB 2 0 hF hS rfl rfl rfl fun a hF => ckr hF hS rfl (specIsPc_c) fun w16 a hS hF => ga 2 hF rfl fun a hF => ?_
 apply wo 10 79 89 hF hS
 ·
  intro hg79 a hF
  refine gB 4 0 hF hS rfl rfl rfl fun a hF => ?_
  apply wa 5 83 88 hF hS
  ·
   intro hg83 a hF
   refine ga 1 hF rfl fun a hF => wl_take hF rfl rfl rfl rfl <| wl hF rfl rfl rfl (r_loadn ag42 (hF.ev rfl) (hS.boxn (vs := [_, _, _]) (i := 0) (m := 3) rfl rfl) sz42) fun a hF => ckr hF hS rfl (specIsOp_c _) fun w17 a hS hF => ?_
   exact je 5 hF hS rfl rfl rfl rfl
  intro a w18 hF hS
  exact je 6 hF hS rfl rfl rfl rfl
 intro a w19 hF hS
 refine ga 1 hF rfl fun a hF => ?_
 apply wo 12 90 102 hF hS
 ·
  intro hg90 a hF
  refine gB 4 0 hF hS rfl rfl rfl fun a hF => wl_take hF rfl rfl rfl rfl <| gB 3 1 hF hS rfl rfl rfl fun a hF => ?_
  apply wa 4 97 101 hF hS
  ·
   intro hg97 a hF
   exact jf 4 0 hF hS rfl rfl rfl rfl rfl rfl
  intro a w20 hF hS
  exact je 9 hF hS rfl rfl rfl rfl
 intro a w21 hF hS
 refine wl_nil <| hK22 _ _ <| cx 102 hF rfl (fun c102 hF => ?_) fun c102 hF => ?_
 ·
  refine rg hF rfl fun a hF => ?_
  refine xr ?_
  refine ret1 rfl hF rfl ⟨congrArg Value.bool (Eq.symm ?_), hS.old⟩
  first
    | exact th_free (all_no hx (decide_eq_false (hw2 ▸ c25)))
    | exact th_ents (all_no hx (ent_no c74))
    | exact th_noS c102
    | exact th_yesS (all_done hn (by omega)) (all_done hn2 (by rw [List.length_append]; omega)) ⟨⟨c102.1.1, by rcases c102.1.2 with h | h; exact .inl h; exact c102.2.elim (fun h2 => .inr ⟨h, by omega⟩) .inl⟩, by omega, fun h => by omega, fun h => by omega⟩
    | exact th_no fun hp => by
        obtain ⟨-, p1, p2, p3⟩ := hp
        rcases c148 with (c148 | c148) | c148
        · exact p1 c148
        · rcases c148.1 with h | h
          · have := p2 h; omega
          · have := p3 h; omega
        · have := p2 c148.1; omega
 refine wp_skip <| hK21 _ _ <| wp_seq_k fun K24 hK24 => ws fun K25 hK25 => gB 4 0 hF hS rfl rfl rfl fun a hF => ?_
 apply wo 4 106 110 hF hS
 ·
  intro hg106 a hF
  exact jf 4 0 hF hS rfl rfl rfl rfl rfl rfl
 intro a w22 hF hS
 refine ga 1 hF rfl fun a hF => ?_
 apply wa 5 111 116 hF hS
 ·
  intro hg111 a hF
  exact jf 5 0 hF hS rfl rfl rfl rfl rfl rfl
 intro a w23 hF hS
 refine ga 1 hF rfl fun a hF => ?_
 apply wo 19 117 136 hF hS
 ·
  intro hg117 a hF
  refine gB 4 0 hF hS rfl rfl rfl fun a hF => ?_
  apply wo 4 121 125 hF hS
  ·
   intro hg121 a hF
   exact jf 4 0 hF hS rfl rfl rfl rfl rfl rfl
  intro a w24 hF hS
  refine ga 1 hF rfl fun a hF => ?_
  apply wa 9 126 135 hF hS
  ·
   intro hg126 a hF
   refine gB 3 0 hF hS rfl rfl rfl fun a hF => wl_take hF rfl rfl rfl rfl <| gB 3 1 hF hS rfl rfl rfl fun a hF => ckr hF hS rfl (l1In_c _ _ _) fun w25 a hS hF => ?_
   exact je 9 hF hS rfl rfl rfl rfl
  intro a w26 hF hS
  exact je 8 hF hS rfl rfl rfl rfl
 intro a w27 hF hS
 refine ga 1 hF rfl fun a hF => ?_
 apply wo 11 137 148 hF hS
 ·
  intro hg137 a hF
  refine gB 4 0 hF hS rfl rfl rfl fun a hF => ?_
  apply wa 6 141 147 hF hS
  ·
   intro hg141 a hF
   refine gB 3 0 hF hS rfl rfl rfl fun a hF => wl_take hF rfl rfl rfl rfl ?_
   exact jf 6 1 hF hS rfl rfl rfl rfl rfl rfl
  intro a w28 hF hS
  exact je 6 hF hS rfl rfl rfl rfl
 intro a w29 hF hS
 refine wl_nil <| hK25 _ _ <| cx 148 hF rfl (fun c148 hF => ?_) fun c148 hF => ?_
 ·
  refine rg hF rfl fun a hF => ?_
  refine xr ?_
  refine ret1 rfl hF rfl ⟨congrArg Value.bool (Eq.symm ?_), hS.old⟩
  first
    | exact th_free (all_no hx (decide_eq_false (hw2 ▸ c25)))
    | exact th_ents (all_no hx (ent_no c74))
    | exact th_noS c102
    | exact th_yesS (all_done hn (by omega)) (all_done hn2 (by rw [List.length_append]; omega)) ⟨⟨c102.1.1, by rcases c102.1.2 with h | h; exact .inl h; exact c102.2.elim (fun h2 => .inr ⟨h, by omega⟩) .inl⟩, by omega, fun h => by omega, fun h => by omega⟩
    | exact th_no fun hp => by
        obtain ⟨-, p1, p2, p3⟩ := hp
        rcases c148 with (c148 | c148) | c148
        · exact p1 c148
        · rcases c148.1 with h | h
          · have := p2 h; omega
          · have := p3 h; omega
        · have := p2 c148.1; omega
 refine wp_skip <| hK24 _ _ <| ws fun K27 hK27 => gB 2 1 hF hS rfl rfl rfl fun a hF => gB 1 0 hF hS rfl rfl rfl fun a hF => ckr hF hS rfl (l8Zero_c (by assumption)) fun w30 a hS hF => ga 1 hF rfl fun a hF => ?_
 apply wa 5 153 158 hF hS
 ·
  intro hg153 a hF
  refine gB 2 1 hF hS rfl rfl rfl fun a hF => wl_take hF rfl rfl rfl rfl <| gB 1 0 hF hS rfl rfl rfl fun a hF => ckr hF hS rfl (l8Zero_c (by assumption)) fun w31 a hS hF => ?_
  exact je 5 hF hS rfl rfl rfl rfl
 intro a w32 hF hS
 refine ga 1 hF rfl fun a hF => ?_
 apply wa 5 159 164 hF hS
 ·
  intro hg159 a hF
  refine gB 2 1 hF hS rfl rfl rfl fun a hF => wl_take hF rfl rfl rfl rfl <| gB 1 0 hF hS rfl rfl rfl fun a hF => ckr hF hS rfl (l8Zero_c (by assumption)) fun w33 a hS hF => ?_
  exact je 5 hF hS rfl rfl rfl rfl
 intro a w34 hF hS
 refine ga 1 hF rfl fun a hF => ?_
 apply wa 5 165 170 hF hS
 ·
  intro hg165 a hF
  refine gB 2 1 hF hS rfl rfl rfl fun a hF => wl_take hF rfl rfl rfl rfl <| gB 1 0 hF hS rfl rfl rfl fun a hF => ckr hF hS rfl (l8Zero_c (by assumption)) fun w35 a hS hF => ?_
  exact je 5 hF hS rfl rfl rfl rfl
 intro a w36 hF hS
 refine ga 1 hF rfl fun a hF => ?_
 apply wa 5 171 176 hF hS
 ·
  intro hg171 a hF
  refine gB 2 0 hF hS rfl rfl rfl fun a hF => ckr hF hS rfl (specIsMarked_c (by assumption)) fun w37 a hS hF => ?_
  exact je 5 hF hS rfl rfl rfl rfl
 intro a w38 hF hS
 refine ga 1 hF rfl fun a hF => ?_
 apply wa 5 177 182 hF hS
 ·
  intro hg177 a hF
  refine gB 2 0 hF hS rfl rfl rfl fun a hF => ckr hF hS rfl (specIsMarked_c (by assumption)) fun w39 a hS hF => ?_
  exact je 5 hF hS rfl rfl rfl rfl
 intro a w40 hF hS
 refine ga 1 hF rfl fun a hF => ?_
 apply wa 5 183 188 hF hS
 ·
  intro hg183 a hF
  refine gB 2 0 hF hS rfl rfl rfl fun a hF => ckr hF hS rfl (specIsMarked_c (by assumption)) fun w41 a hS hF => ?_
  exact je 5 hF hS rfl rfl rfl rfl
 intro a w42 hF hS
 refine ge hK27 hF rfl fun a hF => ws fun K28 hK28 => ga 2 hF rfl fun a hF => ?_
 apply wa 5 190 195 hF hS
 ·
  intro hg190 a hF
  refine gB 2 1 hF hS rfl rfl rfl fun a hF => wl_take hF rfl rfl rfl rfl <| gB 1 0 hF hS rfl rfl rfl fun a hF => ckr hF hS rfl (l8Handles_c (hS.rd r4) wlimbo) fun w43 a hS hF => ?_
  exact je 5 hF hS rfl rfl rfl rfl
 intro a w44 hF hS
 refine ga 1 hF rfl fun a hF => ?_
 apply wa 4 196 200 hF hS
 ·
  intro hg196 a hF
  refine gB 2 0 hF hS rfl rfl rfl fun a hF => ckr hF hS rfl (l1In_c _ _ _) fun w45 a hS hF => ?_
  exact je 4 hF hS rfl rfl rfl rfl
 intro a w46 hF hS
 refine ga 1 hF rfl fun a hF => ?_
 apply wa 5 201 206 hF hS
 ·
  intro hg201 a hF
  exact jf 5 0 hF hS rfl rfl rfl rfl rfl rfl
 intro a w47 hF hS
 refine ga 1 hF rfl fun a hF => ?_
 apply wa 5 207 212 hF hS
 ·
  intro hg207 a hF
  exact jf 5 0 hF hS rfl rfl rfl rfl rfl rfl
 intro a w48 hF hS
 refine ga 1 hF rfl fun a hF => ?_
 apply wa 5 213 218 hF hS
 ·
  intro hg213 a hF
  exact jf 5 0 hF hS rfl rfl rfl rfl rfl rfl
 intro a w49 hF hS
 refine ga 1 hF rfl fun a hF => ?_
 apply wa 5 219 224 hF hS
 ·
  intro hg219 a hF
  exact jf 5 0 hF hS rfl rfl rfl rfl rfl rfl
 intro a w50 hF hS
 refine ge hK28 hF rfl fun a hF => ?_
 refine xr ?_
 refine ret1 rfl hF rfl ⟨congrArg Value.bool (Eq.symm ?_), hS.old⟩
 first
   | exact th_free (all_no hx (decide_eq_false (hw2 ▸ c25)))
   | exact th_ents (all_no hx (ent_no c74))
   | exact th_noS c102
   | exact th_yesS (all_done hn (by omega)) (all_done hn2 (by rw [List.length_append]; omega)) ⟨⟨c102.1.1, by rcases c102.1.2 with h | h; exact .inl h; exact c102.2.elim (fun h2 => .inr ⟨h, by omega⟩) .inl⟩, by omega, fun h => by omega, fun h => by omega⟩
   | exact th_no fun hp => by
       obtain ⟨-, p1, p2, p3⟩ := hp
       rcases c148 with (c148 | c148) | c148
       · exact p1 c148
       · rcases c148.1 with h | h
         · have := p2 h; omega
         · have := p3 h; omega
       · have := p2 c148.1; omega
set_option maxRecDepth 20000
theorem headCell_eq {c : Config} {k : Int} (hok : c.ok) (h0 : 0 ≤ k) (h1 : k < c.keys) : headCell c k = 2 + 3 * c.threads + k := by
 unfold headCell; rw [if_pos ⟨hok, h0, by omega⟩]
theorem nodeCell_eq {c : Config} {i f : Int} (hok : c.ok) (h0 : 0 ≤ i) (h1 : i < c.capacity) (h2 : 0 ≤ f) (h3 : f ≤ 2) : nodeCell c i f = 2 + 3 * c.threads + c.keys + 3 * i + f := by
 unfold nodeCell; rw [if_pos ⟨hok, ⟨h0, by omega⟩, h2, h3⟩]
theorem cellCount_eq {c : Config} (hok : c.ok) : cellCount c = 2 + 3 * c.threads + c.keys + 3 * c.capacity := by
 unfold cellCount; rw [if_pos hok]
section
variable {s : State}
theorem st_shape (h : ¬ shapeOk s) : stateOk s = false := by unfold stateOk; rw [decide_eq_false h]; rfl
theorem st_gens (h : gensOk s = false) : stateOk s = false := by unfold stateOk; rw [h]; simp
theorem st_heads (h : headsOk s = false) : stateOk s = false := by unfold stateOk; rw [h]; simp
theorem st_nodes (h : nodesOk s = false) : stateOk s = false := by unfold stateOk; rw [h]; simp
theorem st_threads (h : s.threads.all (threadOk s.config) = false) : stateOk s = false := by unfold stateOk; rw [h]; simp
theorem st_yes (h1 : shapeOk s) (h2 : gensOk s = true) (h3 : headsOk s = true) (h4 : nodesOk s = true) : stateOk s = (s.threads.all (threadOk s.config) && decide (countsOk s)) := by
 unfold stateOk; rw [decide_eq_true h1, h2, h3, h4]; simp
end
set_option maxRecDepth 20000
theorem specIsState_c {W : World} {s : Sl.State} {cs : List Value} (hm : stateEK.K W s cs) (hw : s.wf) (hz : (s.size : Int) ≤ 1048576) : Calls Tryz.prog 73 #[.agg cs.toArray] W (Ret fun v w' => v = .bool (stateOk s) ∧ Below W.heap.size W w') := by
 refine cfr Tryz.func73 Tryz.ntmps73 fun a hF => ?_
 have hS := Sep.refl W
 obtain ⟨v0, v1, v2, rfl, r0, r1, r2⟩ := hm
 obtain ⟨A_a, q_a, rfl, hq_a, hn_a⟩ := r0.sl; unfold maxLen at hn_a
 obtain ⟨A_b, q_b, rfl, hq_b, hn_b⟩ := r1.sl; unfold maxLen at hn_b
 obtain ⟨A_c, q_c, rfl, hq_c, hn_c⟩ := r2.sl; unfold maxLen at hn_c
 obtain ⟨wcfg, wcells, wgens, wthr, wsteps, wchanges, wretries, wfaults⟩ := hw
 have hz1 := hz; unfold Sl.State.size at hz1
 refine ws fun K1 hK1 => wl_box (cs := [_, _, _, _, _, _, _, _, _, _, _, _, _]) hF hS rfl (hF.ev rfl) rfl fun g1 w1 a hS _ hF => ge hK1 hF rfl fun a hF => wp_seq_k fun K2 hK2 => wp_seq_k fun K3 hK3 => wp_region_calm (by kernel_rfl) (by kernel_rfl) <| qa 1 hF tk rfl fun a hF => ?_
 refine wq hF rfl rfl rfl (fun w_ hB_ => r_loadn ag25 (hF.ev rfl) ((hS.ext hB_).boxn (vs := [_, _, _, _, _, _]) (i := 0) (m := 6) rfl rfl) sz25) fun a hF => qk hF rfl (fun w_ hB_ => specIsConfig_c _) fun a hF => qa 2 hF tk rfl fun a hF => ?_
 apply wq_or (A := [_, _, _, _, _, _, _, _]) (pk := 20) hF (tc := 12) rfl
 ·
  intro hg12 a hF; try simp only [zb] at hg12
  refine qb 4 0 hF tk hS rfl rfl rfl fun a hF => wq_take hF rfl rfl rfl rfl <| wq hF rfl rfl rfl (fun w_ hB_ => r_loadn ag25 (hF.ev rfl) ((hS.ext hB_).boxn (vs := [_, _, _, _, _, _]) (i := 0) (m := 6) rfl rfl) sz25) fun a hF => qk hF rfl (fun w_ hB_ => specCellCount_c _) fun a hF => qa 2 hF tk rfl fun a hF => ?_
  exact wpQuiet_nil ((Fr.pre (A := [_, _, _, _, _, _, _, _]) hF rfl).keep hF (t := 20) rfl)
 ·
  intro hg12 a hF; try simp only [zb] at hg12
  refine qa 8 hF tk rfl fun a hF => ?_
  exact wpQuiet_nil ((Fr.pre (A := [_, _, _, _, _, _, _, _]) hF rfl).keep hF (t := 20) rfl)
 intro a hF
 refine qa 1 hF tk rfl fun a hF => ?_
 apply wq_or (A := [_, _, _, _, _, _, _, _]) (pk := 29) hF (tc := 21) rfl
 ·
  intro hg21 a hF; try simp only [zb] at hg21
  refine qb 8 0 hF tk hS rfl rfl rfl fun a hF => ?_
  exact wpQuiet_nil ((Fr.pre (A := [_, _, _, _, _, _, _, _]) hF rfl).keep hF (t := 29) rfl)
 ·
  intro hg21 a hF; try simp only [zb] at hg21
  refine qa 8 hF tk rfl fun a hF => ?_
  exact wpQuiet_nil ((Fr.pre (A := [_, _, _, _, _, _, _, _]) hF rfl).keep hF (t := 29) rfl)
 intro a hF
 refine qa 1 hF tk rfl fun a hF => ?_
 apply wq_or (A := [_, _, _, _, _, _, _, _]) (pk := 38) hF (tc := 30) rfl
 ·
  intro hg30 a hF; try simp only [zb] at hg30
  refine qb 8 0 hF tk hS rfl rfl rfl fun a hF => ?_
  exact wpQuiet_nil ((Fr.pre (A := [_, _, _, _, _, _, _, _]) hF rfl).keep hF (t := 38) rfl)
 ·
  intro hg30 a hF; try simp only [zb] at hg30
  refine qa 8 hF tk rfl fun a hF => ?_
  exact wpQuiet_nil ((Fr.pre (A := [_, _, _, _, _, _, _, _]) hF rfl).keep hF (t := 38) rfl)
 intro a hF
 refine wpQuiet_nil ?_; intro w5 hB_; have hS := hS.ext hB_
 refine hK3 _ _ <| cx 38 hF rfl (fun c38 hF => ?_) fun c38 hF => ?_
 ·
  refine rg hF rfl fun a hF => ?_
  refine xr ?_
  refine ret1 rfl hF rfl ⟨congrArg Value.bool (Eq.symm ?_), hS.old⟩
  first
    | exact st_gens (range_no (by omega) (decide_eq_false c52))
    | exact st_threads (all_no hx c68)
    | exact st_heads (range_no (k := k) (by omega) (isLink_zero.trans (Bool.and_eq_false_iff.2 (c92.imp_right (fun e => by rw [e]; rfl)))))
    | exact st_nodes (range_no (k := k) (by omega) (Bool.and_eq_false_iff.2 (c123.imp_right (fun e => decide_eq_false e))))
    | exact st_shape fun h => by
        unfold shapeOk at h
        rcases c38 with ((c | c) | c) | c
        · exact c h.1
        · exact c h.2.1
        · exact c h.2.2.1
        · exact c h.2.2.2
    | (rw [st_yes ⟨hok, hl1, hl2, hl3⟩ (all_done hg (by rw [List.length_range]; omega)) (all_done hn (by rw [List.length_range]; omega)) (all_done hv (by rw [List.length_range]; omega)), all_done ht (by omega), Bool.true_and, Bool.eq_iff_iff]
       simp only [Bool.and_eq_true, decide_eq_true_eq]
       unfold countsOk
       simp only [and_assoc])
 obtain ⟨⟨⟨hok, hl1⟩, hl2⟩, hl3⟩ := c38
 have hb := hok; unfold Config.ok at hb
 have hcc := cellCount_eq hok
 refine wp_skip <| hK2 _ _ <| wp_seq_k fun K5 hK5 => rg hF rfl fun a hF => wp_block ?_
 have hL_ := ((hF.nil.keep hF (t := 2) rfl).keep hF (t := 1) rfl)
 refine wp_loop_r (σ := Nat) (fun k L_ => (3, vi k) :: L_) (fun k => (k ≤ s.generations.length) ∧ (((List.range s.config.capacity.toNat).take k).all (fun k => decide (0 ≤ at0 s.generations (k : Int) ∧ at0 s.generations (k : Int) ≤ 9998)) = true)) (fun k => s.generations.length - k) 0 hS (hL_.keepE hF (t := 3) rfl rfl) ?_ ?_
 · exact ⟨Nat.zero_le _, rfl⟩
 rintro k a w6 ⟨hk, hg⟩ hS hF; try dsimp only at hF; try dsimp only at hS
 refine wp_seq_k fun K7 hK7 => rh 0 hF hS rfl rfl rfl fun a hF => cx 43 hF rfl (fun c43 hF => ?_) fun c43 hF => ?_
 ·
  refine wp_skip <| hK7 _ _ <| wp_seq_k fun K9 hK9 => wp_block <| ws fun K10 hK10 => gB 3 0 hF hS rfl rfl rfl fun a hF => ?_
  obtain ⟨g49, o49, m49, q49, hv49, hm49, hl49, hc49⟩ := Rd.atF (r1) (a := a) (X := .tmp 48) (hF.ev rfl) (by omega) (by omega)
  refine wl hF rfl rfl rfl (r_index sl29 ((hF.ev rfl).trans hv49) (hF.ev rfl) (by omega) (by first | omega | (simp at hm49; omega))) fun a hF => ?_
  refine wl hF rfl rfl rfl (r_load1 sc3 (hF.ev rfl) (cellB hS.old (hc49 0 _ rfl))) fun a hF => ckr hF hS rfl (l1In_c _ _ _) fun w7 a hS hF => ge hK10 hF rfl fun a hF => cx 52 hF rfl (fun c52 hF => ?_) fun c52 hF => ?_
  ·
   refine rg hF rfl fun a hF => ?_
   refine xr ?_
   refine ret1 rfl hF rfl ⟨congrArg Value.bool (Eq.symm ?_), hS.old⟩
   first
     | exact st_gens (range_no (by omega) (decide_eq_false c52))
     | exact st_threads (all_no hx c68)
     | exact st_heads (range_no (k := k) (by omega) (isLink_zero.trans (Bool.and_eq_false_iff.2 (c92.imp_right (fun e => by rw [e]; rfl)))))
     | exact st_nodes (range_no (k := k) (by omega) (Bool.and_eq_false_iff.2 (c123.imp_right (fun e => decide_eq_false e))))
     | exact st_shape fun h => by
         unfold shapeOk at h
         rcases c38 with ((c | c) | c) | c
         · exact c h.1
         · exact c h.2.1
         · exact c h.2.2.1
         · exact c h.2.2.2
     | (rw [st_yes ⟨hok, hl1, hl2, hl3⟩ (all_done hg (by rw [List.length_range]; omega)) (all_done hn (by rw [List.length_range]; omega)) (all_done hv (by rw [List.length_range]; omega)), all_done ht (by omega), Bool.true_and, Bool.eq_iff_iff]
        simp only [Bool.and_eq_true, decide_eq_true_eq]
        unfold countsOk
        simp only [and_assoc])
  refine wp_skip ?_
  refine xt ?_
  refine hK9 _ _ <| rl hF rfl fun a hF => ?_
  refine xt ?_
  refine ⟨k + 1, ⟨by omega, all_nxt hg (range_at (by omega)) (decide_eq_true c52)⟩, hS, (((hF.nil.keep hF (t := 2) rfl).keep hF (t := 1) rfl).keepE hF (t := 3) rfl (wk (by omega))), by omega⟩
 refine wp_exit ?_
 refine xt ?_
 refine hK5 _ _ <| wp_seq_k fun K12 hK12 => rg hF rfl fun a hF => wp_block ?_
 have hL_ := ((hF.nil.keep hF (t := 2) rfl).keep hF (t := 1) rfl)
 refine wp_loop_r (σ := Nat) (fun k L_ => (4, vi k) :: L_) (fun k => (k ≤ s.threads.length) ∧ ((s.threads.take k).all (threadOk s.config) = true)) (fun k => s.threads.length - k) 0 hS (hL_.keepE hF (t := 4) rfl rfl) ?_ ?_
 · exact ⟨Nat.zero_le _, rfl⟩
 rintro k a w8 ⟨hk, ht⟩ hS hF; try dsimp only at hF; try dsimp only at hS
 refine wp_seq_k fun K14 hK14 => rh 0 hF hS rfl rfl rfl fun a hF => cx 57 hF rfl (fun c57 hF => ?_) fun c57 hF => ?_
 ·
  have hlt : k < s.threads.length := by omega
  have hx := at0_nat hlt
  have hc1 := crow_le1 (c := Sl.Thread.size) hx
  refine wp_skip <| hK14 _ _ <| wp_seq_k fun K16 hK16 => wp_block <| wp_seq_k fun K17 hK17 => wp_region_calm (by kernel_rfl) (by kernel_rfl) <| qa 1 hF tk rfl fun a hF => ?_
  refine wq hF rfl rfl rfl (fun w_ hB_ => r_loadn ag25 (hF.ev rfl) ((hS.ext hB_).boxn (vs := [_, _, _, _, _, _]) (i := 0) (m := 6) rfl rfl) sz25) fun a hF => qb 3 0 hF tk hS rfl rfl rfl fun a hF => ?_
  obtain ⟨g65, o65, m65, q65, cs65, hv65, hm65, hl65, hk65, hz65, hc65⟩ := Rd.at (r2) (a := a) (X := .tmp 64) (hF.ev rfl) (by omega) (by omega)
  have hkk65 := hk65; obtain ⟨v65_0, v65_1, v65_2, v65_3, v65_4, rfl, r65_0, r65_1, r65_2, r65_3, r65_4⟩ := hk65
  refine wq hF rfl rfl rfl (fun w_ hB_ => r_index sl73 ((hF.ev rfl).trans hv65) (hF.ev rfl) (by omega) (by first | omega | (simp at hm65; omega))) fun a hF => ?_
  refine wq hF rfl rfl rfl (fun w_ hB_ => r_loadn ag110 (hF.ev rfl) (fun j_ u_ hu_ => cellB (hS.ext hB_).old (hc65 j_ u_ hu_)) sz110) fun a hF => qk hF rfl (fun w_ hB_ => l8Thread_c ((hS.ext hB_).k hkk65) (wthr _ (at0_mem (by omega) (by omega))) hok (by omega)) fun a hF => qa 1 hF tk rfl fun a hF => ?_
  refine wpQuiet_nil ?_; intro w9 hB_; have hS := hS.ext hB_
  refine hK17 _ _ <| cx 68 hF rfl (fun c68 hF => ?_) fun c68 hF => ?_
  ·
   refine rg hF rfl fun a hF => ?_
   refine xr ?_
   refine ret1 rfl hF rfl ⟨congrArg Value.bool (Eq.symm ?_), hS.old⟩
   first
     | exact st_gens (range_no (by omega) (decide_eq_false c52))
     | exact st_threads (all_no hx c68)
     | exact st_heads (range_no (k := k) (by omega) (isLink_zero.trans (Bool.and_eq_false_iff.2 (c92.imp_right (fun e => by rw [e]; rfl)))))
     | exact st_nodes (range_no (k := k) (by omega) (Bool.and_eq_false_iff.2 (c123.imp_right (fun e => decide_eq_false e))))
     | exact st_shape fun h => by
         unfold shapeOk at h
         rcases c38 with ((c | c) | c) | c
         · exact c h.1
         · exact c h.2.1
         · exact c h.2.2.1
         · exact c h.2.2.2
     | (rw [st_yes ⟨hok, hl1, hl2, hl3⟩ (all_done hg (by rw [List.length_range]; omega)) (all_done hn (by rw [List.length_range]; omega)) (all_done hv (by rw [List.length_range]; omega)), all_done ht (by omega), Bool.true_and, Bool.eq_iff_iff]
        simp only [Bool.and_eq_true, decide_eq_true_eq]
        unfold countsOk
        simp only [and_assoc])
  refine wp_skip ?_
  refine xt ?_
  refine hK16 _ _ <| rl hF rfl fun a hF => ?_
  refine xt ?_
  refine ⟨k + 1, ⟨by omega, all_nxt ht hx c68⟩, hS, (((hF.nil.keep hF (t := 2) rfl).keep hF (t := 1) rfl).keepE hF (t := 4) rfl (wk (by omega))), by omega⟩
 refine wp_exit ?_
 refine xt ?_
 refine hK12 _ _ <| wp_seq_k fun K19 hK19 => rg hF rfl fun a hF => wp_block ?_
 have hL_ := ((hF.nil.keep hF (t := 2) rfl).keep hF (t := 1) rfl)
 refine wp_loop_r (σ := Nat) (fun k L_ => (5, vi k) :: L_) (fun k => (k ≤ s.config.keys.toNat) ∧ (((List.range s.config.keys.toNat).take k).all (fun k => isLink s.config (at0 s.cells (headCell s.config (k : Int)))) = true)) (fun k => s.config.keys.toNat - k) 0 hS (hL_.keepE hF (t := 5) rfl rfl) ?_ ?_
 · exact ⟨Nat.zero_le _, rfl⟩
 rintro k a w10 ⟨hk, hn⟩ hS hF; try dsimp only at hF; try dsimp only at hS
 refine wp_seq_k fun K21 hK21 => rh 0 hF hS rfl rfl rfl fun a hF => cx 73 hF rfl (fun c73 hF => ?_) fun c73 hF => ?_
 ·
  have hd := headCell_eq hok (k := (k : Int)) (by omega) (by omega)
  have h1 : int64 (at0 s.cells (headCell s.config (k : Int))) := wcells _ (at0_mem (by omega) (by omega))
  refine wp_skip <| hK21 _ _ <| wp_seq_k fun K23 hK23 => wp_block <| wp_seq_k fun K24 hK24 => wp_region_calm (by kernel_rfl) (by kernel_rfl) <| qb 3 0 hF tk hS rfl rfl rfl fun a hF => ?_
  refine wq hF rfl rfl rfl (fun w_ hB_ => r_loadn ag25 (hF.ev rfl) ((hS.ext hB_).boxn (vs := [_, _, _, _, _, _]) (i := 0) (m := 6) rfl rfl) sz25) fun a hF => qa 1 hF tk rfl fun a hF => qk hF rfl (fun w_ hB_ => specHeadCell_c _ _) fun a hF => ?_
  obtain ⟨g82, o82, m82, q82, hv82, hm82, hl82, hc82⟩ := Rd.atF (r0) (a := a) (X := .tmp 81) (hF.ev rfl) (by omega) (by omega)
  refine wq hF rfl rfl rfl (fun w_ hB_ => r_index sl29 ((hF.ev rfl).trans hv82) (hF.ev rfl) (by omega) (by first | omega | (simp at hm82; omega))) fun a hF => ?_
  refine wq hF rfl rfl rfl (fun w_ hB_ => r_load1 sc3 (hF.ev rfl) (cellB (hS.ext hB_).old (hc82 0 _ rfl))) fun a hF => qa 1 hF tk rfl fun a hF => ?_
  refine wpQuiet_nil ?_; intro w11 hB_; have hS := hS.ext hB_
  refine hK24 _ _ <| ws fun K25 hK25 => ga 1 hF rfl fun a hF => wl hF rfl rfl rfl (r_loadn ag25 (hF.ev rfl) (hS.boxn (vs := [_, _, _, _, _, _]) (i := 0) (m := 6) rfl rfl) sz25) fun a hF => ga 1 hF rfl fun a hF => ckr hF hS rfl (l8Zero_c h1) fun w12 a hS hF => ga 2 hF rfl fun a hF => ?_
  apply wo 3 89 92 hF hS
  ·
   intro hg89 a hF
   refine ga 1 hF rfl fun a hF => ckr hF hS rfl (specIsMarked_c h1) fun w13 a hS hF => ?_
   exact je 3 hF hS rfl rfl rfl rfl
  intro a w14 hF hS
  refine wl_nil <| hK25 _ _ <| cx 92 hF rfl (fun c92 hF => ?_) fun c92 hF => ?_
  ·
   refine rg hF rfl fun a hF => ?_
   refine xr ?_
   refine ret1 rfl hF rfl ⟨congrArg Value.bool (Eq.symm ?_), hS.old⟩
   first
     | exact st_gens (range_no (by omega) (decide_eq_false c52))
     | exact st_threads (all_no hx c68)
     | exact st_heads (range_no (k := k) (by omega) (isLink_zero.trans (Bool.and_eq_false_iff.2 (c92.imp_right (fun e => by rw [e]; rfl)))))
     | exact st_nodes (range_no (k := k) (by omega) (Bool.and_eq_false_iff.2 (c123.imp_right (fun e => decide_eq_false e))))
     | exact st_shape fun h => by
         unfold shapeOk at h
         rcases c38 with ((c | c) | c) | c
         · exact c h.1
         · exact c h.2.1
         · exact c h.2.2.1
         · exact c h.2.2.2
     | (rw [st_yes ⟨hok, hl1, hl2, hl3⟩ (all_done hg (by rw [List.length_range]; omega)) (all_done hn (by rw [List.length_range]; omega)) (all_done hv (by rw [List.length_range]; omega)), all_done ht (by omega), Bool.true_and, Bool.eq_iff_iff]
        simp only [Bool.and_eq_true, decide_eq_true_eq]
        unfold countsOk
        simp only [and_assoc])
  refine wp_skip ?_
  refine xt ?_
  refine hK23 _ _ <| rl hF rfl fun a hF => ?_
  refine xt ?_
  refine ⟨k + 1, ⟨by omega, all_nxt hn (range_at (by omega)) (by rw [isLink_zero, c92.1, c92.2]; rfl)⟩, hS, (((hF.nil.keep hF (t := 2) rfl).keep hF (t := 1) rfl).keepE hF (t := 5) rfl (wk (by omega))), by omega⟩
 refine wp_exit ?_
 refine xt ?_
 refine hK19 _ _ <| wp_seq_k fun K27 hK27 => rg hF rfl fun a hF => wp_block ?_
 have hL_ := ((hF.nil.keep hF (t := 2) rfl).keep hF (t := 1) rfl)
 refine wp_loop_r (σ := Nat) (fun k L_ => (7, vi k) :: L_) (fun k => (k ≤ s.config.capacity.toNat) ∧ (((List.range s.config.capacity.toNat).take k).all (fun k => zeroOk s.config (at0 s.cells (nodeCell s.config (k : Int) 2)) && decide (0 ≤ at0 s.cells (nodeCell s.config (k : Int) 0) ∧ at0 s.cells (nodeCell s.config (k : Int) 0) ≤ 99)) = true)) (fun k => s.config.capacity.toNat - k) 0 hS (hL_.keepE hF (t := 7) rfl rfl) ?_ ?_
 · exact ⟨Nat.zero_le _, rfl⟩
 rintro k a w15 ⟨hk, hv⟩ hS hF; try dsimp only at hF; try dsimp only at hS
 refine wp_seq_k fun K29 hK29 => rh 0 hF hS rfl rfl rfl fun a hF => cx 97 hF rfl (fun c97 hF => ?_) fun c97 hF => ?_
 ·
  have hn0 := nodeCell_eq hok (i := (k : Int)) (f := 0) (by omega) (by omega) (by omega) (by omega)
  have hn2 := nodeCell_eq hok (i := (k : Int)) (f := 2) (by omega) (by omega) (by omega) (by omega)
  have h1 : int64 (at0 s.cells (nodeCell s.config (k : Int) 2)) := wcells _ (at0_mem (by omega) (by omega))
  refine wp_skip <| hK29 _ _ <| wp_seq_k fun K31 hK31 => wp_block <| wp_seq_k fun K32 hK32 => wp_region_calm (by kernel_rfl) (by kernel_rfl) <| qa 1 hF tk rfl fun a hF => ?_
  refine wq hF rfl rfl rfl (fun w_ hB_ => r_loadn ag25 (hF.ev rfl) ((hS.ext hB_).boxn (vs := [_, _, _, _, _, _]) (i := 0) (m := 6) rfl rfl) sz25) fun a hF => qb 3 0 hF tk hS rfl rfl rfl fun a hF => wq hF rfl rfl rfl (fun w_ hB_ => r_loadn ag25 (hF.ev rfl) ((hS.ext hB_).boxn (vs := [_, _, _, _, _, _]) (i := 0) (m := 6) rfl rfl) sz25) fun a hF => qa 1 hF tk rfl fun a hF => qk hF rfl (fun w_ hB_ => specNodeCell_c _ _ _) fun a hF => ?_
  obtain ⟨g108, o108, m108, q108, hv108, hm108, hl108, hc108⟩ := Rd.atF (r0) (a := a) (X := .tmp 107) (hF.ev rfl) (by omega) (by omega)
  refine wq hF rfl rfl rfl (fun w_ hB_ => r_index sl29 ((hF.ev rfl).trans hv108) (hF.ev rfl) (by omega) (by first | omega | (simp at hm108; omega))) fun a hF => ?_
  refine wq hF rfl rfl rfl (fun w_ hB_ => r_load1 sc3 (hF.ev rfl) (cellB (hS.ext hB_).old (hc108 0 _ rfl))) fun a hF => qk hF rfl (fun w_ hB_ => l8Zero_c h1) fun a hF => qa 2 hF tk rfl fun a hF => ?_
  apply wq_or (A := [_, _, _, _, _, _, _, _, _, _, _]) (pk := 123) hF (tc := 112) rfl
  ·
   intro hg112 a hF; try simp only [zb] at hg112
   refine qb 3 0 hF tk hS rfl rfl rfl fun a hF => wq_take hF rfl rfl rfl rfl <| wq hF rfl rfl rfl (fun w_ hB_ => r_loadn ag25 (hF.ev rfl) ((hS.ext hB_).boxn (vs := [_, _, _, _, _, _]) (i := 0) (m := 6) rfl rfl) sz25) fun a hF => qa 1 hF tk rfl fun a hF => qk hF rfl (fun w_ hB_ => specNodeCell_c _ _ _) fun a hF => wq_take hF rfl rfl rfl rfl ?_
   obtain ⟨g119, o119, m119, q119, hv119, hm119, hl119, hc119⟩ := Rd.atF (r0) (a := a) (X := .tmp 118) (hF.ev rfl) (by omega) (by omega)
   refine wq hF rfl rfl rfl (fun w_ hB_ => r_index sl29 ((hF.ev rfl).trans hv119) (hF.ev rfl) (by omega) (by first | omega | (simp at hm119; omega))) fun a hF => ?_
   refine wq_take hF rfl rfl rfl rfl <| wq hF rfl rfl rfl (fun w_ hB_ => r_load1 sc3 (hF.ev rfl) (cellB (hS.ext hB_).old (hc119 0 _ rfl))) fun a hF => qk hF rfl (fun w_ hB_ => l1In_c _ _ _) fun a hF => qa 2 hF tk rfl fun a hF => ?_
   exact wpQuiet_nil ((Fr.pre (A := [_, _, _, _, _, _, _, _, _, _, _]) hF rfl).keep hF (t := 123) rfl)
  ·
   intro hg112 a hF; try simp only [zb] at hg112
   refine qa 11 hF tk rfl fun a hF => ?_
   exact wpQuiet_nil ((Fr.pre (A := [_, _, _, _, _, _, _, _, _, _, _]) hF rfl).keep hF (t := 123) rfl)
  intro a hF
  refine wpQuiet_nil ?_; intro w17 hB_; have hS := hS.ext hB_
  refine hK32 _ _ <| cx 123 hF rfl (fun c123 hF => ?_) fun c123 hF => ?_
  ·
   refine rg hF rfl fun a hF => ?_
   refine xr ?_
   refine ret1 rfl hF rfl ⟨congrArg Value.bool (Eq.symm ?_), hS.old⟩
   first
     | exact st_gens (range_no (by omega) (decide_eq_false c52))
     | exact st_threads (all_no hx c68)
     | exact st_heads (range_no (k := k) (by omega) (isLink_zero.trans (Bool.and_eq_false_iff.2 (c92.imp_right (fun e => by rw [e]; rfl)))))
     | exact st_nodes (range_no (k := k) (by omega) (Bool.and_eq_false_iff.2 (c123.imp_right (fun e => decide_eq_false e))))
     | exact st_shape fun h => by
         unfold shapeOk at h
         rcases c38 with ((c | c) | c) | c
         · exact c h.1
         · exact c h.2.1
         · exact c h.2.2.1
         · exact c h.2.2.2
     | (rw [st_yes ⟨hok, hl1, hl2, hl3⟩ (all_done hg (by rw [List.length_range]; omega)) (all_done hn (by rw [List.length_range]; omega)) (all_done hv (by rw [List.length_range]; omega)), all_done ht (by omega), Bool.true_and, Bool.eq_iff_iff]
        simp only [Bool.and_eq_true, decide_eq_true_eq]
        unfold countsOk
        simp only [and_assoc])
  refine wp_skip ?_
  refine xt ?_
  refine hK31 _ _ <| rl hF rfl fun a hF => ?_
  refine xt ?_
  refine ⟨k + 1, ⟨by omega, all_nxt hv (range_at (by omega)) (by rw [c123.1, decide_eq_true c123.2]; rfl)⟩, hS, (((hF.nil.keep hF (t := 2) rfl).keep hF (t := 1) rfl).keepE hF (t := 7) rfl (wk (by omega))), by omega⟩
 refine wp_exit ?_
 refine xt ?_
 refine hK27 _ _ <| wp_seq_k fun K34 hK34 => wp_region_calm (by kernel_rfl) (by kernel_rfl) <| qb 2 0 hF tk hS rfl rfl rfl fun a hF => ?_
 obtain ⟨g126, o126, m126, q126, hv126, hm126, hl126, hc126⟩ := Rd.atF (r0) (a := a) (X := .const (.int .i64 0)) ec (by omega) (by omega)
 refine wq hF rfl rfl rfl (fun w_ hB_ => r_index sl29 ((hF.ev rfl).trans hv126) ec (by omega) (by first | omega | (simp at hm126; omega))) fun a hF => ?_
 refine wq hF rfl rfl rfl (fun w_ hB_ => r_load1 sc3 (hF.ev rfl) (cellB (hS.ext hB_).old (hc126 0 _ rfl))) fun a hF => qb 3 0 hF tk hS rfl rfl rfl fun a hF => qk hF rfl (fun w_ hB_ => l1In_c _ _ _) fun a hF => qa 1 hF tk rfl fun a hF => ?_
 apply wq_and (A := [_, _, _, _, _, _, _, _, _]) (pk := 141) hF (tc := 132) rfl
 ·
  intro hg132 a hF; try simp only [zb] at hg132
  refine qb 2 0 hF tk hS rfl rfl rfl fun a hF => wq_take hF rfl rfl rfl rfl ?_
  obtain ⟨g135, o135, m135, q135, hv135, hm135, hl135, hc135⟩ := Rd.atF (r0) (a := a) (X := .const (.int .i64 1)) ec (by omega) (by omega)
  refine wq hF rfl rfl rfl (fun w_ hB_ => r_index sl29 ((hF.ev rfl).trans hv135) ec (by omega) (by first | omega | (simp at hm135; omega))) fun a hF => ?_
  refine wq_take hF rfl rfl rfl rfl <| wq hF rfl rfl rfl (fun w_ hB_ => r_load1 sc3 (hF.ev rfl) (cellB (hS.ext hB_).old (hc135 0 _ rfl))) fun a hF => qb 3 0 hF tk hS rfl rfl rfl fun a hF => qk hF rfl (fun w_ hB_ => l1In_c _ _ _) fun a hF => qa 1 hF tk rfl fun a hF => ?_
  exact wpQuiet_nil ((Fr.pre (A := [_, _, _, _, _, _, _, _, _]) hF rfl).keep hF (t := 141) rfl)
 ·
  intro hg132 a hF; try simp only [zb] at hg132
  refine qa 9 hF tk rfl fun a hF => ?_
  exact wpQuiet_nil ((Fr.pre (A := [_, _, _, _, _, _, _, _, _]) hF rfl).keep hF (t := 141) rfl)
 intro a hF
 refine qa 1 hF tk rfl fun a hF => ?_
 apply wq_and (A := [_, _, _, _]) (pk := 146) hF (tc := 142) rfl
 ·
  intro hg142 a hF; try simp only [zb] at hg142
  refine qb 2 0 hF tk hS rfl rfl rfl fun a hF => qk hF rfl (fun w_ hB_ => l1In_c _ _ _) fun a hF => qa 1 hF tk rfl fun a hF => ?_
  exact wpQuiet_nil ((Fr.pre (A := [_, _, _, _]) hF rfl).keep hF (t := 146) rfl)
 ·
  intro hg142 a hF; try simp only [zb] at hg142
  refine qa 4 hF tk rfl fun a hF => ?_
  exact wpQuiet_nil ((Fr.pre (A := [_, _, _, _]) hF rfl).keep hF (t := 146) rfl)
 intro a hF
 refine qa 1 hF tk rfl fun a hF => ?_
 apply wq_and (A := [_, _, _, _]) (pk := 151) hF (tc := 147) rfl
 ·
  intro hg147 a hF; try simp only [zb] at hg147
  refine qb 2 0 hF tk hS rfl rfl rfl fun a hF => qk hF rfl (fun w_ hB_ => l1In_c _ _ _) fun a hF => qa 1 hF tk rfl fun a hF => ?_
  exact wpQuiet_nil ((Fr.pre (A := [_, _, _, _]) hF rfl).keep hF (t := 151) rfl)
 ·
  intro hg147 a hF; try simp only [zb] at hg147
  refine qa 4 hF tk rfl fun a hF => ?_
  exact wpQuiet_nil ((Fr.pre (A := [_, _, _, _]) hF rfl).keep hF (t := 151) rfl)
 intro a hF
 refine qa 1 hF tk rfl fun a hF => ?_
 apply wq_and (A := [_, _, _, _]) (pk := 156) hF (tc := 152) rfl
 ·
  intro hg152 a hF; try simp only [zb] at hg152
  refine qb 2 0 hF tk hS rfl rfl rfl fun a hF => qk hF rfl (fun w_ hB_ => l1In_c _ _ _) fun a hF => qa 1 hF tk rfl fun a hF => ?_
  exact wpQuiet_nil ((Fr.pre (A := [_, _, _, _]) hF rfl).keep hF (t := 156) rfl)
 ·
  intro hg152 a hF; try simp only [zb] at hg152
  refine qa 4 hF tk rfl fun a hF => ?_
  exact wpQuiet_nil ((Fr.pre (A := [_, _, _, _]) hF rfl).keep hF (t := 156) rfl)
 intro a hF
 refine qa 1 hF tk rfl fun a hF => ?_
 apply wq_and (A := [_, _, _, _]) (pk := 161) hF (tc := 157) rfl
 ·
  intro hg157 a hF; try simp only [zb] at hg157
  refine qb 2 0 hF tk hS rfl rfl rfl fun a hF => qk hF rfl (fun w_ hB_ => l1In_c _ _ _) fun a hF => qa 1 hF tk rfl fun a hF => ?_
  exact wpQuiet_nil ((Fr.pre (A := [_, _, _, _]) hF rfl).keep hF (t := 161) rfl)
 ·
  intro hg157 a hF; try simp only [zb] at hg157
  refine qa 4 hF tk rfl fun a hF => ?_
  exact wpQuiet_nil ((Fr.pre (A := [_, _, _, _]) hF rfl).keep hF (t := 161) rfl)
 intro a hF
 refine qa 1 hF tk rfl fun a hF => ?_
 refine wpQuiet_nil ?_; intro w23 hB_; have hS := hS.ext hB_
 refine hK34 _ _ ?_
 refine xr ?_
 refine ret1 rfl hF rfl ⟨congrArg Value.bool (Eq.symm ?_), hS.old⟩
 first
   | exact st_gens (range_no (by omega) (decide_eq_false c52))
   | exact st_threads (all_no hx c68)
   | exact st_heads (range_no (k := k) (by omega) (isLink_zero.trans (Bool.and_eq_false_iff.2 (c92.imp_right (fun e => by rw [e]; rfl)))))
   | exact st_nodes (range_no (k := k) (by omega) (Bool.and_eq_false_iff.2 (c123.imp_right (fun e => decide_eq_false e))))
   | exact st_shape fun h => by
       unfold shapeOk at h
       rcases c38 with ((c | c) | c) | c
       · exact c h.1
       · exact c h.2.1
       · exact c h.2.2.1
       · exact c h.2.2.2
   | (rw [st_yes ⟨hok, hl1, hl2, hl3⟩ (all_done hg (by rw [List.length_range]; omega)) (all_done hn (by rw [List.length_range]; omega)) (all_done hv (by rw [List.length_range]; omega)), all_done ht (by omega), Bool.true_and, Bool.eq_iff_iff]
      simp only [Bool.and_eq_true, decide_eq_true_eq]
      unfold countsOk
      simp only [and_assoc])
set_option maxRecDepth 20000
section
variable {s : State} {k : Int}
theorem stateOk_shape (h : stateOk s = true) : shapeOk s := by
 unfold stateOk at h; simp only [Bool.and_eq_true, decide_eq_true_eq] at h; exact h.1.1.1.1.1
def isRunning (s : State) (p : Int) : Bool := stateOk s && decide (0 ≤ p ∧ p ≤ s.threads.length - 1) && !decide ((at0 s.threads p).pc = 0)
end
theorem specIsRunning_c {W : World} {s : Sl.State} {cs : List Value} (hm : stateEK.K W s cs) (hw : s.wf) (hz : (s.size : Int) ≤ 1048576) {p : Int} (hp : int64 p) : Calls Tryz.prog 104 #[.agg cs.toArray, vi p] W (Ret fun v w' => v = .bool (isRunning s p) ∧ Below W.heap.size W w') := by
 refine cfr Tryz.func104 Tryz.ntmps104 fun a hF => ?_
 have hS := Sep.refl W
 obtain ⟨v0, v1, v2, rfl, r0, r1, r2⟩ := hm
 have hm : stateEK.K W s (s.encv v0 v1 v2) := ⟨_, _, _, rfl, r0, r1, r2⟩
 obtain ⟨A_a, q_a, rfl, hq_a, hn_a⟩ := r0.sl; unfold maxLen at hn_a
 obtain ⟨A_b, q_b, rfl, hq_b, hn_b⟩ := r1.sl; unfold maxLen at hn_b
 obtain ⟨A_c, q_c, rfl, hq_c, hn_c⟩ := r2.sl; unfold maxLen at hn_c
 have hwl : IntKind.i64.wrap ((s.threads.length : Int) - 1) = s.threads.length - 1 := w64_id (by omega) (by omega)
 refine ws fun K1 hK1 => wl_box (cs := [_, _, _, _, _, _, _, _, _, _, _, _, _]) hF hS rfl (hF.ev rfl) rfl fun g1 w1 a hS _ hF => ge hK1 hF rfl fun a hF => ws fun K2 hK2 => gB 1 0 hF hS rfl rfl rfl fun a hF => ckr hF hS rfl (specIsState_c (hS.k hm) hw (by omega)) fun w2 a hS hF => ga 1 hF rfl fun a hF => ?_
 apply wa 7 7 14 hF hS
 ·
  intro hg7 a hF
  refine gB 5 0 hF hS rfl rfl rfl fun a hF => ckr hF hS rfl (l1In_c _ _ _) fun w3 a hS hF => ?_
  exact je 7 hF hS rfl rfl rfl rfl
 intro a w4 hF hS
 refine ga 1 hF rfl fun a hF => ?_
 apply wa 8 15 23 hF hS
 ·
  intro hg15 a hF
  rw [hwl] at hg15
  refine gB 3 0 hF hS rfl rfl rfl fun a hF => wl_take hF rfl rfl rfl rfl ?_
  obtain ⟨g19, o19, m19, q19, cs19, hv19, hm19, hl19, hk19, hz19, hc19⟩ := Rd.at (r2) (a := a) (X := .tmp 18) (hF.ev rfl) (by omega) (by omega)
  have hkk19 := hk19; obtain ⟨v19_0, v19_1, v19_2, v19_3, v19_4, rfl, r19_0, r19_1, r19_2, r19_3, r19_4⟩ := hk19
  refine wl hF rfl rfl rfl (r_index sl73 ((hF.ev rfl).trans hv19) (hF.ev rfl) (by omega) (by first | omega | (simp at hm19; omega))) fun a hF => ?_
  refine ga 1 hF rfl fun a hF => wl_take hF rfl rfl rfl rfl <| wl hF rfl rfl rfl (r_load1 sc3 (hF.ev rfl) (cellB hS.old (hc19 0 _ rfl))) fun a hF => ?_
  exact je 8 hF hS rfl rfl rfl rfl
 intro a w5 hF hS
 refine ge hK2 hF rfl fun a hF => ?_
 refine xr ?_
 refine ret1 rfl hF rfl ⟨congrArg Value.bool ?_, hS.old⟩
 unfold isRunning; first | rfl | (rw [hwl])
set_option maxRecDepth 20000
/-- what is asked of programs, events, a machine -/
def progOk (l : List Sl.Op) : Bool := l.all (fun o => decide o.ok) && decide ((l.length : Int) ≤ 20)
def eventOk (n t : Int) (e : Sl.Event) : Bool := decide (0 ≤ e.thread ∧ e.thread ≤ n - 1) && decide e.op.ok && decide (0 ≤ e.start ∧ e.start ≤ t) && (decide (e.fin = -1) || decide (e.start ≤ e.fin ∧ e.fin ≤ t))
def nextOk (m : Sl.Machine) : Bool := (List.range m.next.length).all fun i => decide (0 ≤ at0 m.next (i : Int) ∧ at0 m.next (i : Int) ≤ ((at0 m.programs (i : Int)).length : Int))
def machineOk (m : Sl.Machine) : Bool := stateOk m.state && decide ((m.programs.length : Int) = m.state.config.threads ∧ (m.next.length : Int) = m.state.config.threads) && m.programs.all progOk && nextOk m && decide (0 ≤ m.time ∧ m.time ≤ 1000000) && decide ((m.events.length : Int) ≤ 80) && m.events.all (eventOk m.next.length m.time)
section
variable {m : Sl.Machine}
theorem ma_yes (h1 : stateOk m.state = true) (h2 : (m.programs.length : Int) = m.state.config.threads) (h3 : (m.next.length : Int) = m.state.config.threads) (h4 : m.programs.all progOk = true) (h5 : nextOk m = true) (h6 : 0 ≤ m.time ∧ m.time ≤ 1000000) (h7 : ¬ 80 < (m.events.length : Int)) : machineOk m = m.events.all (eventOk m.next.length m.time) := by
 unfold machineOk
 rw [h1, decide_eq_true (show _ ∧ _ from ⟨h2, h3⟩), h4, h5, decide_eq_true h6, decide_eq_true (show (m.events.length : Int) ≤ 80 by omega)]; rfl
theorem ma_no1 (h : (((stateOk m.state = false ∨ ¬ (m.programs.length : Int) = m.state.config.threads) ∨ ¬ (m.next.length : Int) = m.state.config.threads) ∨ ¬ (0 ≤ m.time ∧ m.time ≤ 1000000)) ∨ 80 < (m.events.length : Int)) : machineOk m = false := by
 unfold machineOk
 rcases h with (((h | h) | h) | h) | h
 · rw [h]; rfl
 · rw [decide_eq_false (show ¬ (_ ∧ _) from fun e => h e.1)]; simp
 · rw [decide_eq_false (show ¬ (_ ∧ _) from fun e => h e.2)]; simp
 · rw [decide_eq_false h]; simp
 · rw [decide_eq_false (show ¬ (m.events.length : Int) ≤ 80 by omega)]; simp
theorem ma_progs (h : m.programs.all progOk = false) : machineOk m = false := by unfold machineOk; rw [h]; simp
theorem ma_next (h : nextOk m = false) : machineOk m = false := by unfold machineOk; rw [h]; simp
theorem ma_events (h : m.events.all (eventOk m.next.length m.time) = false) : machineOk m = false := by unfold machineOk; rw [h]; simp
end
def progsOk (c : Config) (ps : List (List Sl.Op)) : Bool := decide c.ok && decide ((ps.length : Int) = c.threads) && ps.all progOk
theorem specProgram_c {W : World} {va : Value} {xs : List Sl.Op} (ha : opEK.Rd W va xs) : Calls Tryz.prog 61 #[va] W (Ret fun v w' => v = .bool (progOk xs) ∧ Below W.heap.size W w') := by
 refine cfr Tryz.func61 Tryz.ntmps61 fun a hF => ?_
 have hS := Sep.refl W
 obtain ⟨A_a, q_a, rfl, hq_a, hn_a⟩ := ha.sl; unfold maxLen at hn_a
 refine rg hF rfl fun a hF => wp_seq_k fun K2 hK2 => rg hF rfl fun a hF => wp_block ?_
 have hL_ := ((hF.nil.keep hF (t := 2) rfl).keep hF (t := 0) rfl)
 refine wp_loop_r (σ := Nat) (fun k L_ => (3, vi k) :: L_) (fun k => (k ≤ xs.length) ∧ ((xs.take k).all (fun o => decide o.ok) = true)) (fun k => xs.length - k) 0 hS (hL_.keepE hF (t := 3) rfl rfl) ?_ ?_
 · exact ⟨Nat.zero_le _, rfl⟩
 rintro k a w1 ⟨hk, hn⟩ hS hF; try dsimp only at hF; try dsimp only at hS
 refine wp_seq_k fun K4 hK4 => rg hF rfl fun a hF => cx 7 hF rfl (fun c7 hF => ?_) fun c7 hF => ?_
 ·
  have hlt : k < xs.length := by omega
  have hx := at0_nat hlt
  refine wp_skip <| hK4 _ _ <| wp_seq_k fun K6 hK6 => wp_block <| ws fun K7 hK7 => ga 2 hF rfl fun a hF => ?_
  obtain ⟨g12, o12, m12, q12, hv12, hm12, hl12, hc12⟩ := Rd.atF (ha) (a := a) (X := .tmp 11) (hF.ev rfl) (by omega) (by omega)
  refine wl hF rfl rfl rfl (r_index sl96 ((hF.ev rfl).trans hv12) (hF.ev rfl) (by omega) (by first | omega | (simp at hm12; omega))) fun a hF => ?_
  refine wl hF rfl rfl rfl (r_loadn ag42 (hF.ev rfl) (fun j_ u_ hu_ => cellB hS.old (hc12 j_ u_ hu_)) sz42) fun a hF => ckr hF hS rfl (specIsOp_c _) fun w2 a hS hF => ge hK7 hF rfl fun a hF => cx 15 hF rfl (fun c15 hF => ?_) fun c15 hF => ?_
  ·
   refine rg hF rfl fun a hF => ?_
   refine xr ?_
   refine ret1 rfl hF rfl ⟨congrArg Value.bool (Eq.symm ?_), hS.old⟩
   unfold progOk
   first
     | rw [all_no hx (decide_eq_false c15), Bool.false_and]
     | rw [all_done hn (by omega), Bool.true_and]
  refine wp_skip ?_
  refine xt ?_
  refine hK6 _ _ <| rl hF rfl fun a hF => ?_
  refine xt ?_
  refine ⟨k + 1, ⟨by omega, all_nxt hn hx (decide_eq_true c15)⟩, hS, (((hF.nil.keep hF (t := 2) rfl).keep hF (t := 0) rfl).keepE hF (t := 3) rfl (wk (by omega))), by omega⟩
 refine wp_exit ?_
 refine xt ?_
 refine hK2 _ _ <| rg hF rfl fun a hF => ?_
 refine xr ?_
 refine ret1 rfl hF rfl ⟨congrArg Value.bool (Eq.symm ?_), hS.old⟩
 unfold progOk
 first
   | rw [all_no hx (decide_eq_false c15), Bool.false_and]
   | rw [all_done hn (by omega), Bool.true_and]
theorem l18Event_c {W : World} {m : Sl.Machine} {cs : List Value} (hm : machineEK.K W m cs) {i : Int} (h0 : 0 ≤ i) (h1 : i < m.events.length) : Calls Tryz.prog 74 #[.agg cs.toArray, vi i] W (Ret fun v w' => v = .bool (eventOk m.next.length m.time (at0 m.events i)) ∧ Below W.heap.size W w') := by
 refine cfr Tryz.func74 Tryz.ntmps74 fun a hF => ?_
 have hS := Sep.refl W
 obtain ⟨v0, v1, v2, v3, v4, v5, rfl, r0, r1, r2, r3, r4, r5⟩ := hm
 have hm : machineEK.K W m (m.encv v0 v1 v2 v3 v4 v5) := ⟨_, _, _, _, _, _, rfl, r0, r1, r2, r3, r4, r5⟩
 obtain ⟨A_a, q_a, rfl, hq_a, hn_a⟩ := r0.sl; unfold maxLen at hn_a
 obtain ⟨A_b, q_b, rfl, hq_b, hn_b⟩ := r1.sl; unfold maxLen at hn_b
 obtain ⟨A_c, q_c, rfl, hq_c, hn_c⟩ := r2.sl; unfold maxLen at hn_c
 obtain ⟨A_d, q_d, rfl, hq_d, hn_d⟩ := r3.sl; unfold maxLen at hn_d
 obtain ⟨A_e, q_e, rfl, hq_e, hn_e⟩ := r4.sl; unfold maxLen at hn_e
 obtain ⟨A_f, q_f, rfl, hq_f, hn_f⟩ := r5.sl; unfold maxLen at hn_f
 have hwl : IntKind.i64.wrap ((m.next.length : Int) - 1) = m.next.length - 1 := w64_id (by omega) (by omega)
 refine ws fun K1 hK1 => wl_box (cs := [_, _, _, _, _, _, _, _, _, _, _, _, _, _, _, _, _]) hF hS rfl (hF.ev rfl) rfl fun g1 w1 a hS _ hF => ge hK1 hF rfl fun a hF => ws fun K2 hK2 => gB 3 0 hF hS rfl rfl rfl fun a hF => ?_
 obtain ⟨g9, o9, m9, q9, hv9, hm9, hl9, hc9⟩ := Rd.atF (r5) (a := a) (X := .tmp 8) (hF.ev rfl) (by omega) (by omega)
 refine wl hF rfl rfl rfl (r_index sl26 ((hF.ev rfl).trans hv9) (hF.ev rfl) (by omega) (by first | omega | (simp at hm9; omega))) fun a hF => ?_
 refine wl hF rfl rfl rfl (r_loadn ag46 (hF.ev rfl) (fun j_ u_ hu_ => cellB hS.old (hc9 j_ u_ hu_)) sz46) fun a hF => wl_alloc hF hS rfl zr46 fun g2 w2 a hS _ hF => ?_
 refine wl_storen (cs' := [_, _, _, _, _, _, _, _]) hF hS (i := 0) rfl (hF.ev rfl) (hF.ev rfl) sz46 ⟨rfl, rfl⟩ rfl rfl fun w3 hS => ?_; dsimp only [List.set] at hS
 refine wl_nil <| hK2 _ _ <| wp_seq_k fun K3 hK3 => ws fun K4 hK4 => gB 3 0 hF hS rfl rfl rfl fun a hF => gB 3 1 hF hS rfl rfl rfl fun a hF => ckr hF hS rfl (l1In_c _ _ _) fun w4 a hS hF => ga 2 hF rfl fun a hF => ?_
 apply wo 5 19 24 hF hS
 ·
  intro hg19 a hF
  refine ga 1 hF rfl fun a hF => wl_take hF rfl rfl rfl rfl <| wl hF rfl rfl rfl (r_loadn ag42 (hF.ev rfl) (hS.boxn (vs := [_, _, _]) (i := 0) (m := 3) rfl rfl) sz42) fun a hF => ckr hF hS rfl (specIsOp_c _) fun w5 a hS hF => ?_
  exact je 5 hF hS rfl rfl rfl rfl
 intro a w6 hF hS
 refine ga 1 hF rfl fun a hF => ?_
 apply wo 7 25 32 hF hS
 ·
  intro hg25 a hF
  refine gB 3 0 hF hS rfl rfl rfl fun a hF => wl_take hF rfl rfl rfl rfl <| gB 1 1 hF hS rfl rfl rfl fun a hF => ckr hF hS rfl (l1In_c _ _ _) fun w7 a hS hF => ?_
  exact je 7 hF hS rfl rfl rfl rfl
 intro a w8 hF hS
 refine wl_nil <| hK4 _ _ <| cx 32 hF rfl (fun c32 hF => ?_) fun c32 hF => ?_
 ·
  rw [hwl] at c32
  refine rg hF rfl fun a hF => ?_
  refine xr ?_
  refine ret1 rfl hF rfl ⟨congrArg Value.bool (Eq.symm ?_), hS.old⟩
  unfold eventOk
  first
    | (rcases c32 with (c | c) | c
       · rw [decide_eq_false c]; rfl
       · rw [decide_eq_false c]; simp
       · rw [decide_eq_false c]; simp)
    | rw [decide_eq_true c32.1.1, decide_eq_true c32.1.2, decide_eq_true c32.2]; rfl
 rw [hwl] at c32
 refine wp_skip <| hK3 _ _ <| ws fun K6 hK6 => gB 4 0 hF hS rfl rfl rfl fun a hF => ?_
 apply wo 8 36 44 hF hS
 ·
  intro hg36 a hF
  refine gB 5 0 hF hS rfl rfl rfl fun a hF => wl_take hF rfl rfl rfl rfl <| gB 1 1 hF hS rfl rfl rfl fun a hF => ckr hF hS rfl (l1In_c _ _ _) fun w9 a hS hF => ?_
  exact je 8 hF hS rfl rfl rfl rfl
 intro a w10 hF hS
 refine ge hK6 hF rfl fun a hF => ?_
 refine xr ?_
 refine ret1 rfl hF rfl ⟨congrArg Value.bool (Eq.symm ?_), hS.old⟩
 unfold eventOk
 first
   | (rcases c32 with (c | c) | c
      · rw [decide_eq_false c]; rfl
      · rw [decide_eq_false c]; simp
      · rw [decide_eq_false c]; simp)
   | rw [decide_eq_true c32.1.1, decide_eq_true c32.1.2, decide_eq_true c32.2]; rfl
theorem specIsMachine_c {W : World} {m : Sl.Machine} {cs : List Value} (hm : machineEK.K W m cs) (hw : m.wf) (hz : (m.size : Int) ≤ 1048576) : Calls Tryz.prog 64 #[.agg cs.toArray] W (Ret fun v w' => v = .bool (machineOk m) ∧ Below W.heap.size W w') := by
 refine cfr Tryz.func64 Tryz.ntmps64 fun a hF => ?_
 have hS := Sep.refl W
 obtain ⟨v0, v1, v2, v3, v4, v5, rfl, r0, r1, r2, r3, r4, r5⟩ := hm
 have hm : machineEK.K W m (m.encv v0 v1 v2 v3 v4 v5) := ⟨_, _, _, _, _, _, rfl, r0, r1, r2, r3, r4, r5⟩
 have hms : stateEK.K W m.state (m.state.encv v0 v1 v2) := ⟨_, _, _, rfl, r0, r1, r2⟩
 obtain ⟨A_a, q_a, rfl, hq_a, hn_a⟩ := r0.sl; unfold maxLen at hn_a
 obtain ⟨A_b, q_b, rfl, hq_b, hn_b⟩ := r1.sl; unfold maxLen at hn_b
 obtain ⟨A_c, q_c, rfl, hq_c, hn_c⟩ := r2.sl; unfold maxLen at hn_c
 obtain ⟨A_d, q_d, rfl, hq_d, hn_d⟩ := r3.sl; unfold maxLen at hn_d
 obtain ⟨A_e, q_e, rfl, hq_e, hn_e⟩ := r4.sl; unfold maxLen at hn_e
 obtain ⟨A_f, q_f, rfl, hq_f, hn_f⟩ := r5.sl; unfold maxLen at hn_f
 obtain ⟨wst, wpr, wnx, wev, wti⟩ := hw
 have hz1 := hz; unfold Sl.Machine.size at hz1
 refine ws fun K1 hK1 => wl_box (cs := [_, _, _, _, _, _, _, _, _, _, _, _, _, _, _, _, _]) hF hS rfl (hF.ev rfl) rfl fun g1 w1 a hS _ hF => ge hK1 hF rfl fun a hF => wp_seq_k fun K2 hK2 => ws fun K3 hK3 => ga 1 hF rfl fun a hF => wl hF rfl rfl rfl (r_loadn ag75 (hF.ev rfl) (hS.boxn (vs := [_, _, _, _, _, _, _, _, _, _, _, _, _]) (i := 0) (m := 13) rfl rfl) sz75) fun a hF => ?_
 refine ckr hF hS rfl (specIsState_c (hS.k hms) wst (by omega)) fun w2 a hS hF => ga 2 hF rfl fun a hF => ?_
 apply wo 9 9 18 hF hS
 ·
  intro hg9 a hF
  exact jf 9 0 hF hS rfl rfl rfl rfl rfl rfl
 intro a w3 hF hS
 refine ga 1 hF rfl fun a hF => ?_
 apply wo 9 19 28 hF hS
 ·
  intro hg19 a hF
  exact jf 9 0 hF hS rfl rfl rfl rfl rfl rfl
 intro a w4 hF hS
 refine ga 1 hF rfl fun a hF => ?_
 apply wo 5 29 34 hF hS
 ·
  intro hg29 a hF
  refine gB 2 0 hF hS rfl rfl rfl fun a hF => ckr hF hS rfl (l1In_c _ _ _) fun w5 a hS hF => ?_
  exact je 5 hF hS rfl rfl rfl rfl
 intro a w6 hF hS
 refine ga 1 hF rfl fun a hF => ?_
 apply wo 5 35 40 hF hS
 ·
  intro hg35 a hF
  exact jf 5 0 hF hS rfl rfl rfl rfl rfl rfl
 intro a w7 hF hS
 refine wl_nil <| hK3 _ _ <| cx 40 hF rfl (fun c40 hF => ?_) fun c40 hF => ?_
 ·
  refine rg hF rfl fun a hF => ?_
  refine xr ?_
  refine ret1 rfl hF rfl ⟨congrArg Value.bool (Eq.symm ?_), hS.old⟩
  first
    | exact ma_no1 c40
    | (rcases c69 with c | c
       · exact ma_progs (all_no hx c)
       · exact ma_next (range_no (k := k) (by omega) (decide_eq_false c)))
    | exact ma_events (all_no hx c80)
    | exact (ma_yes e1 e2 e3 (all_done hp hlp) (all_done hn (by rw [List.length_range]; omega)) e4 e5).trans (all_done he (by omega))
 simp only [and_assoc] at c40
 obtain ⟨e1, e2, e3, e4a, e4b, e5⟩ := c40
 have e4 := And.intro e4a e4b
 refine wp_skip <| hK2 _ _ <| wp_seq_k fun K5 hK5 => rg hF rfl fun a hF => wp_block ?_
 have hL_ := ((hF.nil.keep hF (t := 2) rfl).keep hF (t := 1) rfl)
 refine wp_loop_r (σ := Nat) (fun k L_ => (3, vi k) :: L_) (fun k => (k ≤ m.programs.length) ∧ ((m.programs.take k).all progOk = true) ∧ (((List.range m.next.length).take k).all (fun i => decide (0 ≤ at0 m.next (i : Int) ∧ at0 m.next (i : Int) ≤ ((at0 m.programs (i : Int)).length : Int))) = true)) (fun k => m.programs.length - k) 0 hS (hL_.keepE hF (t := 3) rfl rfl) ?_ ?_
 · exact ⟨Nat.zero_le _, rfl, rfl⟩
 rintro k a w8 ⟨hk, hp, hn⟩ hS hF; try dsimp only at hF; try dsimp only at hS
 refine wp_seq_k fun K7 hK7 => rh 0 hF hS rfl rfl rfl fun a hF => cx 45 hF rfl (fun c45 hF => ?_) fun c45 hF => ?_
 ·
  have hlt : k < m.programs.length := by omega
  have hx := at0_nat hlt
  refine wp_skip <| hK7 _ _ <| wp_seq_k fun K9 hK9 => wp_block <| wp_seq_k fun K10 hK10 => wp_region_calm (by kernel_rfl) (by kernel_rfl) <| qb 3 0 hF tk hS rfl rfl rfl fun a hF => ?_
  obtain ⟨g51, o51, m51, q51, cs51, hv51, hm51, hl51, hk51, hz51, hc51⟩ := Rd.at (r3) (a := a) (X := .tmp 50) (hF.ev rfl) (by omega) (by omega)
  obtain ⟨v51, rfl, hr51⟩ := hk51; obtain ⟨Ae51, qe51, rfl, _, hme51⟩ := hr51.sl; unfold maxLen at hme51
  refine wq hF rfl rfl rfl (fun w_ hB_ => r_index sl76 ((hF.ev rfl).trans hv51) (hF.ev rfl) (by omega) (by first | omega | (simp at hm51; omega))) fun a hF => ?_
  refine wq hF rfl rfl rfl (fun w_ hB_ => r_load1 sc96 (hF.ev rfl) (cellB (hS.ext hB_).old (hc51 0 _ rfl))) fun a hF => qk hF rfl (fun w_ hB_ => specProgram_c ((hS.ext hB_).rd hr51)) fun a hF => qa 2 hF tk rfl fun a hF => ?_
  apply wq_or (A := [_, _, _, _, _, _, _, _, _, _, _, _, _, _]) (pk := 69) hF (tc := 55) rfl
  ·
   intro hg55 a hF; try simp only [zb] at hg55
   refine qb 3 0 hF tk hS rfl rfl rfl fun a hF => wq_take hF rfl rfl rfl rfl ?_
   obtain ⟨g59, o59, m59, q59, hv59, hm59, hl59, hc59⟩ := Rd.atF (r4) (a := a) (X := .tmp 58) (hF.ev rfl) (by omega) (by omega)
   refine wq hF rfl rfl rfl (fun w_ hB_ => r_index sl29 ((hF.ev rfl).trans hv59) (hF.ev rfl) (by omega) (by first | omega | (simp at hm59; omega))) fun a hF => ?_
   refine wq_take hF rfl rfl rfl rfl <| wq hF rfl rfl rfl (fun w_ hB_ => r_load1 sc3 (hF.ev rfl) (cellB (hS.ext hB_).old (hc59 0 _ rfl))) fun a hF => qb 3 0 hF tk hS rfl rfl rfl fun a hF => wq_take hF rfl rfl rfl rfl ?_
   obtain ⟨g64, o64, m64, q64, cs64, hv64, hm64, hl64, hk64, hz64, hc64⟩ := Rd.at (r3) (a := a) (X := .tmp 63) (hF.ev rfl) (by omega) (by omega)
   obtain ⟨v64, rfl, hr64⟩ := hk64; obtain ⟨Ae64, qe64, rfl, _, hme64⟩ := hr64.sl; unfold maxLen at hme64
   refine wq hF rfl rfl rfl (fun w_ hB_ => r_index sl76 ((hF.ev rfl).trans hv64) (hF.ev rfl) (by omega) (by first | omega | (simp at hm64; omega))) fun a hF => ?_
   refine wq_take hF rfl rfl rfl rfl <| wq hF rfl rfl rfl (fun w_ hB_ => r_load1 sc96 (hF.ev rfl) (cellB (hS.ext hB_).old (hc64 0 _ rfl))) fun a hF => qa 1 hF tk rfl fun a hF => qk hF rfl (fun w_ hB_ => l1In_c _ _ _) fun a hF => qa 2 hF tk rfl fun a hF => ?_
   exact wpQuiet_nil ((Fr.pre (A := [_, _, _, _, _, _, _, _, _, _, _, _, _, _]) hF rfl).keep hF (t := 69) rfl)
  ·
   intro hg55 a hF; try simp only [zb] at hg55
   refine qa 14 hF tk rfl fun a hF => ?_
   exact wpQuiet_nil ((Fr.pre (A := [_, _, _, _, _, _, _, _, _, _, _, _, _, _]) hF rfl).keep hF (t := 69) rfl)
  intro a hF
  refine wpQuiet_nil ?_; intro w10 hB_; have hS := hS.ext hB_
  refine hK10 _ _ <| cx 69 hF rfl (fun c69 hF => ?_) fun c69 hF => ?_
  ·
   refine rg hF rfl fun a hF => ?_
   refine xr ?_
   refine ret1 rfl hF rfl ⟨congrArg Value.bool (Eq.symm ?_), hS.old⟩
   first
     | exact ma_no1 c40
     | (rcases c69 with c | c
        · exact ma_progs (all_no hx c)
        · exact ma_next (range_no (k := k) (by omega) (decide_eq_false c)))
     | exact ma_events (all_no hx c80)
     | exact (ma_yes e1 e2 e3 (all_done hp hlp) (all_done hn (by rw [List.length_range]; omega)) e4 e5).trans (all_done he (by omega))
  refine wp_skip ?_
  refine xt ?_
  refine hK9 _ _ <| rl hF rfl fun a hF => ?_
  refine xt ?_
  refine ⟨k + 1, ⟨by omega, all_nxt hp hx c69.1, all_nxt hn (range_at (by omega)) (decide_eq_true c69.2)⟩, hS, (((hF.nil.keep hF (t := 2) rfl).keep hF (t := 1) rfl).keepE hF (t := 3) rfl (wk (by omega))), by omega⟩
 have hlp : m.programs.length ≤ k := by omega
 have hn : ((List.range m.next.length).take k).all (fun i => decide (0 ≤ at0 m.next (i : Int) ∧ at0 m.next (i : Int) ≤ ((at0 m.programs (i : Int)).length : Int))) = true := hn
 clear c45
 refine wp_exit ?_
 refine xt ?_
 refine hK5 _ _ <| wp_seq_k fun K12 hK12 => rg hF rfl fun a hF => wp_block ?_
 have hL_ := ((hF.nil.keep hF (t := 2) rfl).keep hF (t := 1) rfl)
 refine wp_loop_r (σ := Nat) (fun k2 L_ => (4, vi k2) :: L_) (fun k2 => (k2 ≤ m.events.length) ∧ ((m.events.take k2).all (eventOk m.next.length m.time) = true)) (fun k2 => m.events.length - k2) 0 hS (hL_.keepE hF (t := 4) rfl rfl) ?_ ?_
 · exact ⟨Nat.zero_le _, rfl⟩
 rintro k2 a w11 ⟨hk2, he⟩ hS hF; try dsimp only at hF; try dsimp only at hS; try dsimp only at hk2; try dsimp only at he
 refine wp_seq_k fun K14 hK14 => rh 0 hF hS rfl rfl rfl fun a hF => cx 74 hF rfl (fun c74 hF => ?_) fun c74 hF => ?_
 ·
  have hlt : k2 < m.events.length := by omega
  have hx := at0_nat hlt
  refine wp_skip <| hK14 _ _ <| wp_seq_k fun K16 hK16 => wp_block <| ws fun K17 hK17 => gB 2 0 hF hS rfl rfl rfl fun a hF => ckr hF hS rfl (l18Event_c (hS.k hm) (by omega) (by omega)) fun w12 a hS hF => ?_
  refine ge hK17 hF rfl fun a hF => cx 80 hF rfl (fun c80 hF => ?_) fun c80 hF => ?_
  ·
   refine rg hF rfl fun a hF => ?_
   refine xr ?_
   refine ret1 rfl hF rfl ⟨congrArg Value.bool (Eq.symm ?_), hS.old⟩
   first
     | exact ma_no1 c40
     | (rcases c69 with c | c
        · exact ma_progs (all_no hx c)
        · exact ma_next (range_no (k := k) (by omega) (decide_eq_false c)))
     | exact ma_events (all_no hx c80)
     | exact (ma_yes e1 e2 e3 (all_done hp hlp) (all_done hn (by rw [List.length_range]; omega)) e4 e5).trans (all_done he (by omega))
  refine wp_skip ?_
  refine xt ?_
  refine hK16 _ _ <| rl hF rfl fun a hF => ?_
  refine xt ?_
  refine ⟨k2 + 1, ⟨by omega, all_nxt he hx c80⟩, hS, (((hF.nil.keep hF (t := 2) rfl).keep hF (t := 1) rfl).keepE hF (t := 4) rfl (wk (by omega))), by omega⟩
 refine wp_exit ?_
 refine xt ?_
 refine hK12 _ _ <| rg hF rfl fun a hF => ?_
 refine xr ?_
 refine ret1 rfl hF rfl ⟨congrArg Value.bool (Eq.symm ?_), hS.old⟩
 first
   | exact ma_no1 c40
   | (rcases c69 with c | c
      · exact ma_progs (all_no hx c)
      · exact ma_next (range_no (k := k) (by omega) (decide_eq_false c)))
   | exact ma_events (all_no hx c80)
   | exact (ma_yes e1 e2 e3 (all_done hp hlp) (all_done hn (by rw [List.length_range]; omega)) e4 e5).trans (all_done he (by omega))
set_option maxRecDepth 20000
theorem r_nilCheck {P : Program} {ρ : Operand → Value} {w : World} {D : Option Tmp} {ty : TypeId} {ps : String} {af : Array Edge} {gd : Option (Nat × Bool)} {x : Operand} {g o : Nat} (hx : ρ x = .pointer (some ⟨g, o, none⟩)) :
    (execOp ρ ⟨D, .nilCheck x, ty, ps, af, gd⟩).run P w = .ok (.value (.pointer (some ⟨g, o, none⟩))) w := by simp [execOp, hx, go_sem]
section
variable {s : State} {h : Int}
theorem indexOf_pos (hi : isHandle h = true) : 0 ≤ indexOf h := by
 have := isHandle_iff.1 hi
 unfold indexOf; rw [if_pos hi]; omega
theorem state_thread {p : Int} (hs : stateOk s = true) (h0 : 0 ≤ p) (h1 : p < s.threads.length) : threadOk s.config (at0 s.threads p) = true := by
 unfold stateOk at hs; simp only [Bool.and_eq_true] at hs
 exact List.all_eq_true.1 hs.1.1.1.2 _ (at0_mem h0 h1)
theorem thread_snap {c : Config} {t : Thread} (h : threadOk c t = true) : 0 ≤ t.snapshot := by
 unfold threadOk at h; simp only [Bool.and_eq_true, decide_eq_true_eq] at h
 have := h.2.1; omega
def refusalOf (s : State) (p : Int) (o : Sl.Op) : Int :=
  if stateOk s = true ∧ (0 ≤ p ∧ p ≤ s.threads.length - 1) ∧ o.ok then
    if s.config.keys ≤ o.key then 4 else if o.kind = 1 ∧ ¬ (at0 s.threads p).snapshot = 0 then 6
    else if (o.kind = 2 ∨ o.kind = 4) ∧ (at0 s.threads p).snapshot = 0 then 3 else 0
  else 0
def walkKey (t : Thread) : Int := if t.op.kind = 2 ∨ (t.work.length : Int) = 0 then t.op.key else (at0 t.work 0).key
end
set_option maxRecDepth 20000
variable {tl : List Value}
def putC (xs : List Int) (a v : Int) : List Int := if 0 ≤ a ∧ a < xs.length then xs.set a.toNat v else xs
def putN (xs : List Int) (a v n : Int) : Int := if (0 ≤ a ∧ a < xs.length) ∧ ¬ at0 xs a = v then IntKind.i64.wrap (n + 1) else n
def putS (s : Sl.State) (a v : Int) : Sl.State := { s with cells := putC s.cells a v, changes := putN s.cells a v s.changes }
def hitB (xs : List Int) (a u : Int) : Bool := decide (0 ≤ a ∧ a < xs.length) && decide (at0 xs a = u)
def swapS (s : Sl.State) (a u v : Int) : Sl.State := { s with cells := if hitB s.cells a u = true then putC s.cells a v else s.cells, changes := if hitB s.cells a u = true then putN s.cells a v s.changes else s.changes }
def loadC (xs : List Int) (a : Int) : Int := if 0 ≤ a ∧ a < xs.length then at0 xs a else 0
def curB (c : Config) (gs : List Int) (h : Int) : Bool := isNode c (unmarked h) && decide (at0 gs (indexOf (unmarked h)) = genOf (unmarked h))
def faultS (s : Sl.State) (h : Int) : Sl.State := { s with faults := if curB s.config s.generations h = true then s.faults else IntKind.i64.wrap (s.faults + 1) }
def cellOf (s : Sl.State) (h f : Int) : Int := if curB s.config s.generations h = true then nodeCell s.config (indexOf (unmarked h)) f else -1
def clearT (t : Sl.Thread) : Sl.Thread := { t with node := 0, prev := 0, curr := 0, next := 0, seen := 0, stamp := 0, at_ := 0, found := [] }
def endT (t : Sl.Thread) (code value : Int) : Sl.Thread := { clearT t with pc := 0, result := ⟨code, value⟩ }
theorem l9Put_c {W w : World} {l : List Res} {g : Nat} {v0 v1 v2 : Value} {s : Sl.State} {a_ v : Int} (hS : Sep W (Box g (s.encw tl v0 v1 v2) :: Own intEK v0 s.cells :: l) w) : Calls Tryz.prog 101 #[.pointer (some ⟨g, 0, none⟩), vi a_, vi v] w (Ret fun u w' => u = .tuple #[] ∧ Sep W (Box g ((putS s a_ v).encw tl v0 v1 v2) :: Own intEK v0 (putS s a_ v).cells :: l) w') := by
 refine cfr Tryz.func101 Tryz.ntmps101 fun a hF => ?_
 obtain ⟨z0, rfl⟩ := hS.own_sv (q := 1) rfl
 have hl0 := hS.own_len (q := 1) rfl
 refine wp_seq_k fun K1 hK1 => ws fun K2 hK2 => ga 3 hF rfl fun a hF => ?_
 apply wo 8 8 16 hF hS
 ·
  intro hg8 a hF
  exact jf 8 0 hF hS rfl rfl rfl rfl rfl rfl
 intro a w1 hF hS
 refine wl_nil <| hK2 _ _ <| cx 16 hF rfl (fun c16 hF => ?_) fun c16 hF => ?_
 ·
  refine xr ?_
  first
    | (have e1 : putC s.cells a_ v = s.cells := if_neg (by omega); have e2 : putN s.cells a_ v s.changes = s.changes := if_neg (by omega); refine ret0 rfl hF ⟨rfl, ?_⟩; unfold putS; rw [e1, e2]; exact hS)
    | (have e1 : putC s.cells a_ v = _ := if_pos (by omega); have e2 : putN s.cells a_ v s.changes = s.changes := if_neg (fun h => h.2 c25); refine ret0 rfl hF ⟨rfl, ?_⟩; unfold putS; rw [e1, e2]; exact hS)
    | (have e1 : putC s.cells a_ v = _ := if_pos (by omega); have e2 : putN s.cells a_ v s.changes = _ := if_pos ⟨by omega, c25⟩; refine ret0 rfl hF ⟨rfl, ?_⟩; unfold putS; rw [e1, e2]; exact hS)
 refine wp_skip <| hK1 _ _ <| wp_seq_k fun K3 hK3 => ws fun K4 hK4 => gB 5 0 hF hS rfl rfl rfl fun a hF => ?_
 obtain ⟨g22, o22, m22, q22, hv22, hm22, hl22, hc22⟩ := Rd.atF ((hS.own_rd (i := 1) rfl)) (a := a) (X := .tmp 21) (hF.ev rfl) (by omega) (by omega)
 refine wl hF rfl rfl rfl (r_index sl29 ((hF.ev rfl).trans hv22) (hF.ev rfl) (by omega) (by first | omega | (simp at hm22; omega))) fun a hF => ?_
 refine wl hF rfl rfl rfl (r_load1 sc3 (hF.ev rfl) (hc22 0 _ rfl)) fun a hF => ge hK4 hF rfl fun a hF => cx 25 hF rfl (fun c25 hF => ?_) fun c25 hF => ?_
 ·
  refine wp_region_lit <| gB 8 0 hF hS rfl rfl rfl fun a hF => wv 0 hF hS rfl rfl rfl rfl rfl rfl fun w2 hS => wl_nil <| hK3 _ _ <| wp_region_lit <| gB 6 0 hF hS rfl rfl rfl fun a hF => ?_
  obtain ⟨g40, o40, m40, q40, hv40, hm40, hl40, hc40⟩ := Rd.atF ((hS.own_rd (i := 1) rfl)) (a := a) (X := .tmp 38) (hF.ev rfl) (by omega) (by omega)
  refine wl hF rfl rfl rfl (r_index sl29 ((hF.ev rfl).trans hv40) (hF.ev rfl) (by omega) (by first | omega | (simp at hm40; omega))) fun a hF => ?_
  refine wl_istore (q := 1) hF hS rfl hv40 (by omega) (by omega) sz3 (hF.ev rfl) rfl (hF.ev rfl) fun w3 hS => ?_; dsimp only [List.set] at hS
  refine wl_nil ?_
  refine xt ?_
  first
    | (have e1 : putC s.cells a_ v = s.cells := if_neg (by omega); have e2 : putN s.cells a_ v s.changes = s.changes := if_neg (by omega); refine ret0n rfl hF ⟨rfl, ?_⟩; unfold putS; rw [e1, e2]; exact hS)
    | (have e1 : putC s.cells a_ v = _ := if_pos (by omega); have e2 : putN s.cells a_ v s.changes = s.changes := if_neg (fun h => h.2 c25); refine ret0n rfl hF ⟨rfl, ?_⟩; unfold putS; rw [e1, e2]; exact hS)
    | (have e1 : putC s.cells a_ v = _ := if_pos (by omega); have e2 : putN s.cells a_ v s.changes = _ := if_pos ⟨by omega, c25⟩; refine ret0n rfl hF ⟨rfl, ?_⟩; unfold putS; rw [e1, e2]; exact hS)
 refine wp_skip <| hK3 _ _ <| wp_region_lit <| gB 6 0 hF hS rfl rfl rfl fun a hF => ?_
 obtain ⟨g40, o40, m40, q40, hv40, hm40, hl40, hc40⟩ := Rd.atF ((hS.own_rd (i := 1) rfl)) (a := a) (X := .tmp 38) (hF.ev rfl) (by omega) (by omega)
 refine wl hF rfl rfl rfl (r_index sl29 ((hF.ev rfl).trans hv40) (hF.ev rfl) (by omega) (by first | omega | (simp at hm40; omega))) fun a hF => ?_
 refine wl_istore (q := 1) hF hS rfl hv40 (by omega) (by omega) sz3 (hF.ev rfl) rfl (hF.ev rfl) fun w4 hS => ?_; dsimp only [List.set] at hS
 refine wl_nil ?_
 refine xt ?_
 first
   | (have e1 : putC s.cells a_ v = s.cells := if_neg (by omega); have e2 : putN s.cells a_ v s.changes = s.changes := if_neg (by omega); refine ret0n rfl hF ⟨rfl, ?_⟩; unfold putS; rw [e1, e2]; exact hS)
   | (have e1 : putC s.cells a_ v = _ := if_pos (by omega); have e2 : putN s.cells a_ v s.changes = s.changes := if_neg (fun h => h.2 c25); refine ret0n rfl hF ⟨rfl, ?_⟩; unfold putS; rw [e1, e2]; exact hS)
   | (have e1 : putC s.cells a_ v = _ := if_pos (by omega); have e2 : putN s.cells a_ v s.changes = _ := if_pos ⟨by omega, c25⟩; refine ret0n rfl hF ⟨rfl, ?_⟩; unfold putS; rw [e1, e2]; exact hS)
theorem l9Swap_c {W w : World} {l : List Res} {g : Nat} {v0 v1 v2 : Value} {s : Sl.State} {a_ u_ v : Int} (hS : Sep W (Box g (s.encw tl v0 v1 v2) :: Own intEK v0 s.cells :: l) w) : Calls Tryz.prog 113 #[.pointer (some ⟨g, 0, none⟩), vi a_, vi u_, vi v] w (Ret fun r w' => r = .bool (hitB s.cells a_ u_) ∧ Sep W (Box g ((swapS s a_ u_ v).encw tl v0 v1 v2) :: Own intEK v0 (swapS s a_ u_ v).cells :: l) w') := by
 refine cfr Tryz.func113 Tryz.ntmps113 fun a hF => ?_
 obtain ⟨z0, rfl⟩ := hS.own_sv (q := 1) rfl
 have hl0 := hS.own_len (q := 1) rfl
 refine rg hF rfl fun a hF => wp_seq_k fun K2 hK2 => ws fun K3 hK3 => ga 3 hF rfl fun a hF => ?_
 apply wo 8 11 19 hF hS
 ·
  intro hg11 a hF
  exact jf 8 0 hF hS rfl rfl rfl rfl rfl rfl
 intro a w1 hF hS
 refine ga 1 hF rfl fun a hF => ?_
 apply wo 10 20 30 hF hS
 ·
  intro hg20 a hF
  refine gB 5 0 hF hS rfl rfl rfl fun a hF => wl_take hF rfl rfl rfl rfl ?_
  obtain ⟨g26, o26, m26, q26, hv26, hm26, hl26, hc26⟩ := Rd.atF ((hS.own_rd (i := 1) rfl)) (a := a) (X := .tmp 25) (hF.ev rfl) (by omega) (by omega)
  refine wl hF rfl rfl rfl (r_index sl29 ((hF.ev rfl).trans hv26) (hF.ev rfl) (by omega) (by first | omega | (simp at hm26; omega))) fun a hF => ?_
  refine wl_take hF rfl rfl rfl rfl <| wl hF rfl rfl rfl (r_load1 sc3 (hF.ev rfl) (hc26 0 _ rfl)) fun a hF => ?_
  exact je 10 hF hS rfl rfl rfl rfl
 intro a w2 hF hS
 refine wl_nil <| hK3 _ _ <| cx 30 hF rfl (fun c30 hF => ?_) fun c30 hF => ?_
 ·
  refine rg hF rfl fun a hF => ?_
  refine xr ?_
  first
    | (have e : ¬ hitB s.cells a_ u_ = true := fun h => by unfold hitB at h; simp only [Bool.and_eq_true, decide_eq_true_eq] at h; rcases c30 with c | c; omega; exact c h.2
       refine ret1 rfl hF rfl ⟨congrArg Value.bool (Eq.symm (by simpa using e)), ?_⟩; unfold swapS; rw [if_neg e, if_neg e]; exact hS)
    | (have e : hitB s.cells a_ u_ = true := by unfold hitB; simp only [Bool.and_eq_true, decide_eq_true_eq]; exact ⟨by omega, c30.2⟩
       refine ret1 rfl hF rfl ⟨congrArg Value.bool e.symm, ?_⟩; unfold swapS; rw [if_pos e, if_pos e]; exact hS)
 refine wp_skip <| hK2 _ _ <| ws fun K5 hK5 => ga 3 hF rfl fun a hF => ?_
 refine ck hF rfl (l9Put_c hS) ?_; rintro v w3 a ⟨rfl, hS⟩ hF
 refine wl_nil <| hK5 _ _ <| rg hF rfl fun a hF => ?_
 refine xr ?_
 first
   | (have e : ¬ hitB s.cells a_ u_ = true := fun h => by unfold hitB at h; simp only [Bool.and_eq_true, decide_eq_true_eq] at h; rcases c30 with c | c; omega; exact c h.2
      refine ret1 rfl hF rfl ⟨congrArg Value.bool (Eq.symm (by simpa using e)), ?_⟩; unfold swapS; rw [if_neg e, if_neg e]; exact hS)
   | (have e : hitB s.cells a_ u_ = true := by unfold hitB; simp only [Bool.and_eq_true, decide_eq_true_eq]; exact ⟨by omega, c30.2⟩
      refine ret1 rfl hF rfl ⟨congrArg Value.bool e.symm, ?_⟩; unfold swapS; rw [if_pos e, if_pos e]; exact hS)
theorem l9Cell_c {W w : World} {l : List Res} {g : Nat} {v0 v1 v2 : Value} {s : Sl.State} {h f : Int} (hh : int64 h) (hg : (s.generations.length : Int) = s.config.capacity) (hS : Sep W (Box g ((s).encw tl v0 v1 v2) :: Own intEK v1 s.generations :: l) w) : Calls Tryz.prog 118 #[.pointer (some ⟨g, 0, none⟩), vi h, vi f] w (Ret fun r w' => r = vi (cellOf s h f) ∧ Sep W (Box g ((faultS s h).encw tl v0 v1 v2) :: Own intEK v1 s.generations :: l) w') := by
 refine cfr Tryz.func118 Tryz.ntmps118 fun a hF => ?_
 have hu := int64_unmarked hh
 obtain ⟨z1, rfl⟩ := hS.own_sv (q := 1) rfl
 have hl1 := hS.own_len (q := 1) rfl
 refine rg hF rfl fun a hF => ws fun K2 hK2 => ga 1 hF rfl fun a hF => ckr hF hS rfl (specUnmarked_c hh) fun w1 a hS hF => ge hK2 hF rfl fun a hF => wp_seq_k fun K3 hK3 => wp_seq_k fun K4 hK4 => ?_
 refine wp_region_calm (by kernel_rfl) (by kernel_rfl) <| qa 1 hF tk rfl fun a hF => qk hF rfl (fun w_ hB_ => specIsHandle_c hu) fun a hF => qa 2 hF tk rfl fun a hF => ?_
 apply wq_or (A := [_, _, _, _, _, _, _, _, _]) (pk := 22) hF (tc := 13) rfl
 ·
  intro hg13 a hF; try simp only [zb] at hg13
  refine qa 1 hF tk rfl fun a hF => qk hF rfl (fun w_ hB_ => specIndexOf_c hu) fun a hF => qb 7 0 hF tk hS rfl rfl rfl fun a hF => ?_
  exact wpQuiet_nil ((Fr.pre (A := [_, _, _, _, _, _, _, _, _]) hF rfl).keep hF (t := 22) rfl)
 ·
  intro hg13 a hF; try simp only [zb] at hg13
  refine qa 9 hF tk rfl fun a hF => ?_
  exact wpQuiet_nil ((Fr.pre (A := [_, _, _, _, _, _, _, _, _]) hF rfl).keep hF (t := 22) rfl)
 intro a hF
 refine qa 1 hF tk rfl fun a hF => ?_
 apply wq_or (A := [_, _, _, _, _, _, _, _, _, _, _, _]) (pk := 35) hF (tc := 23) rfl
 ·
  intro hg23 a hF; try simp only [zb] at hg23
  have hi0 := indexOf_pos hg23.1
  refine qb 5 0 hF tk hS rfl rfl rfl fun a hF => qk hF rfl (fun w_ hB_ => specIndexOf_c hu) fun a hF => wq_take hF rfl rfl rfl rfl ?_
  obtain ⟨g30, o30, m30, q30, hv30, hm30, hl30, hc30⟩ := Rd.atF ((hS.own_rd (i := 1) rfl)) (a := a) (X := .tmp 29) (hF.ev rfl) (by omega) (by omega)
  refine wq hF rfl rfl rfl (fun w_ hB_ => r_index sl29 ((hF.ev rfl).trans hv30) (hF.ev rfl) (by omega) (by first | omega | (simp at hm30; omega))) fun a hF => ?_
  refine wq_take hF rfl rfl rfl rfl <| wq hF rfl rfl rfl (fun w_ hB_ => r_load1 sc3 (hF.ev rfl) (cellB hB_ (hc30 0 _ rfl))) fun a hF => qa 1 hF tk rfl fun a hF => qk hF rfl (fun w_ hB_ => specGenOf_c hu) fun a hF => qa 2 hF tk rfl fun a hF => ?_
  exact wpQuiet_nil ((Fr.pre (A := [_, _, _, _, _, _, _, _, _, _, _, _]) hF rfl).keep hF (t := 35) rfl)
 ·
  intro hg23 a hF; try simp only [zb] at hg23
  refine qa 12 hF tk rfl fun a hF => ?_
  exact wpQuiet_nil ((Fr.pre (A := [_, _, _, _, _, _, _, _, _, _, _, _]) hF rfl).keep hF (t := 35) rfl)
 intro a hF
 refine wpQuiet_nil ?_; intro w4 hB_; have hS := hS.ext hB_
 refine hK4 _ _ <| cx 35 hF rfl (fun c35 hF => ?_) fun c35 hF => ?_
 ·
  refine ws fun K5 hK5 => gB 8 0 hF hS rfl rfl rfl fun a hF => wv 0 hF hS rfl rfl rfl rfl rfl rfl fun w5 hS => wl_nil <| hK5 _ _ <| rg hF rfl fun a hF => ?_
  refine xr ?_
  first
    | (have e : ¬ curB s.config s.generations h = true := fun h' => by unfold curB isNode at h'; simp only [Bool.and_eq_true, decide_eq_true_eq] at h'; rcases c35 with (c | c) | c; (rw [h'.1.1] at c; cases c); omega; exact c h'.2
       refine ret1 rfl hF rfl ⟨congrArg vi (Eq.symm (if_neg e)), ?_⟩; unfold faultS; rw [if_neg e]; exact hS)
    | (have e : curB s.config s.generations h = true := by unfold curB isNode; simp only [Bool.and_eq_true, decide_eq_true_eq]; exact ⟨⟨c35.1.1, by omega⟩, c35.2⟩
       refine ret1 rfl hF rfl ⟨congrArg vi (Eq.symm (if_pos e)), ?_⟩; unfold faultS; rw [if_pos e]; exact hS)
 refine wp_skip <| hK3 _ _ <| wp_seq_k fun K7 hK7 => wp_region_calm (by kernel_rfl) (by kernel_rfl) <| qa 3 hF tk rfl fun a hF => wq hF rfl rfl rfl (fun w_ hB_ => r_loadn ag25 (hF.ev rfl) ((hS.ext hB_).boxn (vs := [_, _, _, _, _, _]) (i := 0) (m := 6) rfl rfl) sz25) fun a hF => qa 1 hF tk rfl fun a hF => ?_
 refine qk hF rfl (fun w_ hB_ => specIndexOf_c hu) fun a hF => qa 1 hF tk rfl fun a hF => qk hF rfl (fun w_ hB_ => specNodeCell_c _ _ _) fun a hF => qa 1 hF tk rfl fun a hF => ?_
 refine wpQuiet_nil ?_; intro w6 hB_; have hS := hS.ext hB_
 refine hK7 _ _ ?_
 refine xr ?_
 first
   | (have e : ¬ curB s.config s.generations h = true := fun h' => by unfold curB isNode at h'; simp only [Bool.and_eq_true, decide_eq_true_eq] at h'; rcases c35 with (c | c) | c; (rw [h'.1.1] at c; cases c); omega; exact c h'.2
      refine ret1 rfl hF rfl ⟨congrArg vi (Eq.symm (if_neg e)), ?_⟩; unfold faultS; rw [if_neg e]; exact hS)
   | (have e : curB s.config s.generations h = true := by unfold curB isNode; simp only [Bool.and_eq_true, decide_eq_true_eq]; exact ⟨⟨c35.1.1, by omega⟩, c35.2⟩
      refine ret1 rfl hF rfl ⟨congrArg vi (Eq.symm (if_pos e)), ?_⟩; unfold faultS; rw [if_pos e]; exact hS)
theorem l10Clear_c {W w : World} {l : List Res} {gt ot mt ct p : Nat} {ts : List Sl.Thread} {t : Sl.Thread} (hp : p < ts.length) (hS : Sep W (Own threadEK (.slice (some ⟨gt, ot, none⟩) mt ct) (ts.set p (t)) :: l) w) : Calls Tryz.prog 121 #[.pointer (some ⟨gt, ot + p * 19, none⟩)] w (Ret fun u w' => u = .tuple #[] ∧ Sep W (Own threadEK (.slice (some ⟨gt, ot, none⟩) mt ct) (ts.set p (clearT t)) :: l) w') := by
 refine cfr Tryz.func121 Tryz.ntmps121 fun a hF => ?_
 refine ws fun K1 hK1 => ga 3 hF rfl fun a hF => ?_
 refine es 0 7 hF hS hp rfl rfl rfl rfl rfl rfl fun w1 hS => ?_
 refine wl_nil <| hK1 _ _ <| ws fun K2 hK2 => ga 3 hF rfl fun a hF => ?_
 refine es 0 8 hF hS hp rfl rfl rfl rfl rfl rfl fun w2 hS => ?_
 refine wl_nil <| hK2 _ _ <| ws fun K3 hK3 => ga 3 hF rfl fun a hF => ?_
 refine es 0 9 hF hS hp rfl rfl rfl rfl rfl rfl fun w3 hS => ?_
 refine wl_nil <| hK3 _ _ <| ws fun K4 hK4 => ga 3 hF rfl fun a hF => ?_
 refine es 0 10 hF hS hp rfl rfl rfl rfl rfl rfl fun w4 hS => ?_
 refine wl_nil <| hK4 _ _ <| ws fun K5 hK5 => ga 3 hF rfl fun a hF => ?_
 refine es 0 11 hF hS hp rfl rfl rfl rfl rfl rfl fun w5 hS => ?_
 refine wl_nil <| hK5 _ _ <| ws fun K6 hK6 => ga 3 hF rfl fun a hF => ?_
 refine es 0 12 hF hS hp rfl rfl rfl rfl rfl rfl fun w6 hS => ?_
 refine wl_nil <| hK6 _ _ <| ws fun K7 hK7 => ga 3 hF rfl fun a hF => ?_
 refine es 0 13 hF hS hp rfl rfl rfl rfl rfl rfl fun w7 hS => ?_
 refine wl_nil <| hK7 _ _ <| wp_region_lit <| ga 1 hF rfl fun a hF => wl_bslice intEK [] [] rfl hF hS rfl mk29 rfl trivial rfl rfl rfl rfl fun gl_24 w8 a hS hF => ga 2 hF rfl fun a hF => ?_
 replace hS := hS.pull (p := 0) rfl; dsimp only [List.eraseIdx] at hS
 refine wl_eslice (s := (_, _, _)) (k' := 0) (q := 0) (j := 14) (⟨_, ⟨_, _, _⟩, ⟨_, _⟩, _, _, _, _, _, _, _, _, _, _, _, _, _⟩ : Sl.Thread) (fun vs => [(_, _, _), vs.getD 1 (none, 0, 0), vs.getD 2 (none, 0, 0), vs.getD 3 (none, 0, 0), vs.getD 4 (none, 0, 0)]) hF hS hp rfl sz29 (hF.ev rfl) rfl (hF.ev rfl) (fun _ => rfl) (fun _ => by dsimp only [threadEK, Thread.encv, List.set] <;> rfl) (by intro _; rfl) (by intro _; rfl) fun w9 hS => ?_; dsimp only [List.set] at hS
 refine wl_nil ?_
 refine xt ?_
 exact ret0n rfl hF ⟨rfl, hS⟩
theorem l10Finish_c {W w : World} {l : List Res} {g gt ot mt ct p : Nat} {v0 v1 : Value} {s : Sl.State} {ts : List Sl.Thread} {t : Sl.Thread} (hp : p < ts.length) {c x : Int} (hS : Sep W (Box g ((s).encw tl v0 v1 (.slice (some ⟨gt, ot, none⟩) mt ct)) :: Own threadEK (.slice (some ⟨gt, ot, none⟩) mt ct) (ts.set p (t)) :: l) w) : Calls Tryz.prog 103 #[.pointer (some ⟨g, 0, none⟩), vi (p : Int), vi c, vi x] w (Ret fun u w' => u = .tuple #[] ∧ Sep W (Box g ((s).encw tl v0 v1 (.slice (some ⟨gt, ot, none⟩) mt ct)) :: Own threadEK (.slice (some ⟨gt, ot, none⟩) mt ct) (ts.set p (endT t c x)) :: l) w') := by
 refine cfr Tryz.func103 Tryz.ntmps103 fun a hF => ?_
 have hmt := hS.own_len (s := (some ⟨gt, ot, none⟩, mt, ct)) (q := 1) rfl
 simp only [List.length_set] at hmt
 refine ws fun K1 hK1 => gB 5 0 hF hS rfl rfl rfl fun a hF => ?_
 refine wl hF rfl rfl rfl (r_index sl73 (hF.ev rfl) (hF.ev rfl) (by omega) (by first | omega | (dsimp only; omega))) fun a hF => ?_
 replace hS := hS.pm 2 [1, 0] rfl
 refine ck hF rfl (l10Clear_c hp hS) ?_; rintro v w1 a ⟨rfl, hS⟩ hF
 refine wl_nil <| hK1 _ _ <| ws fun K2 hK2 => gB 5 1 hF hS rfl rfl rfl fun a hF => ?_
 refine wl hF rfl rfl rfl (r_index sl73 (hF.ev rfl) (hF.ev rfl) (by omega) (by first | omega | (dsimp only; omega))) fun a hF => ?_
 refine ga 1 hF rfl fun a hF => ?_
 refine es 0 0 hF hS hp rfl rfl rfl rfl rfl rfl fun w2 hS => ?_
 refine wl_nil <| hK2 _ _ <| wp_region_lit <| gB 7 1 hF hS rfl rfl rfl fun a hF => wl hF rfl rfl rfl (r_build (bd44_0_1 _ _) ⟨rfl, (hF.ev rfl), rfl, (hF.ev rfl), trivial⟩) fun a hF => ?_
 refine wl hF rfl rfl rfl (r_index sl73 (hF.ev rfl) (hF.ev rfl) (by omega) (by first | omega | (dsimp only; omega))) fun a hF => ?_
 refine ga 1 hF rfl fun a hF => ?_
 refine wl_estoren (us := [_, _]) (q := 0) (j := 4) (⟨_, ⟨_, _, _⟩, ⟨_, _⟩, _, _, _, _, _, _, _, _, _, _, _, _, _⟩ : Sl.Thread) hF hS hp rfl sz44 (hF.ev rfl) rfl ((hF.ev rfl).trans rfl) rfl (fun _ => ⟨rfl, rfl⟩) (fun _ => by dsimp only [threadEK, Thread.encv, List.take, List.drop, List.cons_append, List.nil_append, List.length_cons, List.length_nil, Nat.reduceAdd] <;> rfl) (by intro _; rfl) fun w3 hS => ?_; dsimp only [List.set] at hS
 refine wl_nil ?_
 refine xt ?_
 exact ret0n rfl hF ⟨rfl, (hS.pm 2 [1, 0] rfl)⟩
set_option maxRecDepth 20000
theorem cloneI_c {W : World} {va : Value} {xs : List Int} (ha : intEK.Rd W va xs) (hz : xs.length ≤ 1099511627776) : Calls Tryz.prog 47 #[va] W (Ret (Mk W (fun s : Slv => sv s) (fun s => [Own intEK (sv s) xs]))) := by
 refine cfr Tryz.func47 Tryz.ntmps47 fun a hF => ?_
 have hS := Sep.refl W
 obtain ⟨A_a, q_a, rfl, hq_a, hn_a⟩ := ha.sl; unfold maxLen at hn_a
 refine rg hF rfl fun a hF => wp_seq_k fun K2 hK2 => ws fun K3 hK3 => ga 1 hF rfl fun a hF => wl hF rfl rfl rfl (r_eqnil ul29 (hF.ev rfl) ec) fun a hF => wl_nil <| hK3 _ _ <| cx 4 hF rfl (fun c4 hF => ?_) fun c4 hF => ?_
 ·
  refine rg hF rfl fun a hF => ?_
  refine xr ?_
  first
    | (obtain rfl : xs = [] := Rd.none_nil ha c4; refine ret1 rfl hF rfl ?_; exact Sep.mkS ((Sep.refl W).ext hS.old |>.own_nil _) rfl)
    | (refine ret1 rfl hF rfl ?_; exact Sep.mkS (hS.pick [99] (by decide) rfl) rfl)
 refine wp_skip <| hK2 _ _ <| ws fun K5 hK5 => wl_bslice intEK [] [] rfl hF hS rfl mk29 rfl trivial rfl rfl rfl rfl fun gl_5 w1 a hS hF => ga 1 hF rfl fun a hF => ?_
 refine wl_append0 hF hS rfl (hS.rd ha) mk29 rfl (by omega) (by unfold maxLen; omega) (hF.ev rfl) (hF.ev rfl) fun s7 w2 a hS hF => ?_
 refine ge hK5 hF rfl fun a hF => ?_
 refine xr ?_
 first
   | (obtain rfl : xs = [] := Rd.none_nil ha c4; refine ret1 rfl hF rfl ?_; exact Sep.mkS ((Sep.refl W).ext hS.old |>.own_nil _) rfl)
   | (refine ret1 rfl hF rfl ?_; exact Sep.mkS (hS.pick [0] (by decide) rfl) rfl)
set_option maxRecDepth 20000
set_option maxRecDepth 20000
theorem l7Copy_c {W : World} {t : Sl.Thread} {cs : List Value} (hm : threadEK.K W t cs) (hz : t.size ≤ 1048576) : Calls Tryz.prog 82 #[.agg cs.toArray] W (Ret (Mk W (fun vs => .agg (threadEK.cells t vs).toArray) (fun vs => [Part threadEK t vs]))) := by
 refine cfr Tryz.func82 Tryz.ntmps82 fun a hF => ?_
 have hS := Sep.refl W
 obtain ⟨v0, v1, v2, v3, v4, rfl, r0, r1, r2, r3, r4⟩ := hm
 obtain ⟨A_a, q_a, rfl, hq_a, hn_a⟩ := r0.sl; unfold maxLen at hn_a
 obtain ⟨A_b, q_b, rfl, hq_b, hn_b⟩ := r1.sl; unfold maxLen at hn_b
 obtain ⟨A_c, q_c, rfl, hq_c, hn_c⟩ := r2.sl; unfold maxLen at hn_c
 obtain ⟨A_d, q_d, rfl, hq_d, hn_d⟩ := r3.sl; unfold maxLen at hn_d
 obtain ⟨A_e, q_e, rfl, hq_e, hn_e⟩ := r4.sl; unfold maxLen at hn_e
 have hz1 := hz; unfold Sl.Thread.size at hz1
 refine ws fun K1 hK1 => wl_box (cs := [_, _, _, _, _, _, _, _, _, _, _, _, _, _, _, _, _, _, _]) hF hS rfl (hF.ev rfl) rfl fun g1 w1 a hS _ hF => wl_alloc hF hS rfl zr110 fun g2 w2 a hS _ hF => wl_nil <| hK1 _ _ <| ws fun K2 hK2 => gB 1 1 hF hS rfl rfl rfl fun a hF => wl_alloc hF hS rfl zr110 fun g3 w3 a hS _ hF => ?_
 refine ww 0 hF hS rfl rfl rfl rfl rfl rfl fun w4 hS => wl_nil <| hK2 _ _ <| ws fun K3 hK3 => wl_bslice intEK [] [] rfl hF hS rfl mk29 rfl trivial rfl rfl rfl rfl fun gl_5 w5 a hS hF => gB 2 3 hF hS rfl rfl rfl fun a hF => ?_
 refine wl_append0 hF hS rfl (hS.rd r0) mk29 rfl (by omega) (by unfold maxLen; omega) (hF.ev rfl) (hF.ev rfl) fun s8 w6 a hS hF => ?_
 refine ga 1 hF rfl fun a hF => wv 2 hF hS rfl rfl rfl rfl rfl rfl fun w7 hS => wl_nil <| hK3 _ _ <| ws fun K4 hK4 => wl_bslice intEK [] [] rfl hF hS rfl mk29 rfl trivial rfl rfl rfl rfl fun gl_10 w8 a hS hF => gB 2 5 hF hS rfl rfl rfl fun a hF => ?_
 refine wl_append0 hF hS rfl (hS.rd r1) mk29 rfl (by omega) (by unfold maxLen; omega) (hF.ev rfl) (hF.ev rfl) fun s13 w9 a hS hF => ?_
 refine ga 1 hF rfl fun a hF => wv 4 hF hS rfl rfl rfl rfl rfl rfl fun w10 hS => wl_nil <| hK4 _ _ <| ws fun K5 hK5 => wl_bslice entryEK [] [] rfl hF hS rfl mk108 rfl trivial rfl rfl rfl rfl fun gl_15 w11 a hS hF => gB 2 7 hF hS rfl rfl rfl fun a hF => ?_
 refine wl_append0 hF hS rfl (hS.rd r2) mk108 rfl (by omega) (by unfold maxLen; omega) (hF.ev rfl) (hF.ev rfl) fun s18 w12 a hS hF => ?_
 refine ga 1 hF rfl fun a hF => wv 6 hF hS rfl rfl rfl rfl rfl rfl fun w13 hS => wl_nil <| hK5 _ _ <| ws fun K6 hK6 => wl_bslice entryEK [] [] rfl hF hS rfl mk108 rfl trivial rfl rfl rfl rfl fun gl_20 w14 a hS hF => gB 2 9 hF hS rfl rfl rfl fun a hF => ?_
 refine wl_append0 hF hS rfl (hS.rd r3) mk108 rfl (by omega) (by unfold maxLen; omega) (hF.ev rfl) (hF.ev rfl) fun s23 w15 a hS hF => ?_
 refine ga 1 hF rfl fun a hF => wv 8 hF hS rfl rfl rfl rfl rfl rfl fun w16 hS => wl_nil <| hK6 _ _ <| ws fun K7 hK7 => wl_bslice intEK [] [] rfl hF hS rfl mk29 rfl trivial rfl rfl rfl rfl fun gl_25 w17 a hS hF => gB 2 11 hF hS rfl rfl rfl fun a hF => ?_
 refine wl_append0 hF hS rfl (hS.rd r4) mk29 rfl (by omega) (by unfold maxLen; omega) (hF.ev rfl) (hF.ev rfl) fun s28 w18 a hS hF => ?_
 refine ga 1 hF rfl fun a hF => wv 10 hF hS rfl rfl rfl rfl rfl rfl fun w19 hS => wl_nil <| hK7 _ _ <| ws fun K8 hK8 => gB 1 10 hF hS rfl rfl rfl fun a hF => ww 11 hF hS rfl rfl rfl rfl rfl rfl fun w20 hS => wl_nil (hK8 _ _ ?_)
 refine xr ?_
 exact ret1c rfl ag110 hF hS (i := 11) rfl sz110 rfl ⟨[s8, s13, s18, s23, s28], rfl, hS.part_of [8, 6, 4, 2, 0] (by decide) rfl⟩
theorem l8Copy_c {W : World} {s : Sl.State} {cs : List Value} (hm : stateEK.K W s cs) (hz : (s.size : Int) ≤ 1048576) : Calls Tryz.prog 72 #[.agg cs.toArray] W (Ret (Mk W (fun vs => .agg (stateEK.cells s vs).toArray) (fun vs => [Part stateEK s vs]))) := by
 refine cfr Tryz.func72 Tryz.ntmps72 fun a hF => ?_
 have hS := Sep.refl W
 obtain ⟨v0, v1, v2, rfl, r0, r1, r2⟩ := hm
 obtain ⟨A_a, q_a, rfl, hq_a, hn_a⟩ := r0.sl; unfold maxLen at hn_a
 obtain ⟨A_b, q_b, rfl, hq_b, hn_b⟩ := r1.sl; unfold maxLen at hn_b
 obtain ⟨A_c, q_c, rfl, hq_c, hn_c⟩ := r2.sl; unfold maxLen at hn_c
 have hz1 := hz; unfold Sl.State.size at hz1
 refine ws fun K1 hK1 => wl_box (cs := [_, _, _, _, _, _, _, _, _, _, _, _, _]) hF hS rfl (hF.ev rfl) rfl fun g1 w1 a hS _ hF => wl_alloc hF hS rfl zr75 fun g2 w2 a hS _ hF => wl_nil <| hK1 _ _ <| ws fun K2 hK2 => gB 1 1 hF hS rfl rfl rfl fun a hF => wl_alloc hF hS rfl zr75 fun g3 w3 a hS _ hF => ?_
 refine ww 0 hF hS rfl rfl rfl rfl rfl rfl fun w4 hS => wl_nil <| hK2 _ _ <| ws fun K3 hK3 => wl_bslice intEK [] [] rfl hF hS rfl mk29 rfl trivial rfl rfl rfl rfl fun gl_7 w5 a hS hF => gB 2 3 hF hS rfl rfl rfl fun a hF => ?_
 refine wl_append0 hF hS rfl (hS.rd r0) mk29 rfl (by omega) (by unfold maxLen; omega) (hF.ev rfl) (hF.ev rfl) fun s10 w6 a hS hF => ?_
 refine ga 1 hF rfl fun a hF => wv 2 hF hS rfl rfl rfl rfl rfl rfl fun w7 hS => wl_nil <| hK3 _ _ <| ws fun K4 hK4 => wl_bslice intEK [] [] rfl hF hS rfl mk29 rfl trivial rfl rfl rfl rfl fun gl_12 w8 a hS hF => gB 2 5 hF hS rfl rfl rfl fun a hF => ?_
 refine wl_append0 hF hS rfl (hS.rd r1) mk29 rfl (by omega) (by unfold maxLen; omega) (hF.ev rfl) (hF.ev rfl) fun s15 w9 a hS hF => ?_
 refine ga 1 hF rfl fun a hF => wv 4 hF hS rfl rfl rfl rfl rfl rfl fun w10 hS => wl_nil <| hK4 _ _ <| ws fun K5 hK5 => wl_bslice (rawEK 19) [] [] rfl hF hS rfl mk73 rfl trivial rfl rfl rfl rfl fun gl_17 w11 a hS hF => ?_
 replace hS := hS.tail.own_nilA threadEK (some ⟨gl_17, 0, none⟩)
 refine ga 1 hF rfl fun a hF => wv 5 hF hS rfl rfl rfl rfl rfl rfl fun w12 hS => wl_nil <| hK5 _ _ <| wp_seq_k fun K6 hK6 => rg hF rfl fun a hF => wp_block ?_
 replace hS := hS.pull (p := 5) rfl; dsimp only [List.eraseIdx] at hS
 replace hS := hS.pull (p := 1) rfl; dsimp only [List.eraseIdx] at hS
 have hL_ := (((hF.nil.keep hF (t := 3) rfl).keep hF (t := 2) rfl).keep hF (t := 1) rfl)
 refine wp_loop_m (σ := Nat × Slv) (fun z L_ => (4, vi z.1) :: L_) (fun z l_ => (Own threadEK (sv z.2) (s.threads.take z.1)) :: (Box g3 (s.encv (sv s10) (sv s15) (sv z.2))) :: l_) (fun z => (z.1 ≤ s.threads.length)) (fun z => s.threads.length - z.1) (0, (_, _, _)) (hS) (hL_.keepE hF (t := 4) rfl rfl) ?_ ?_
 · exact Nat.zero_le _
 rintro ⟨k, q⟩ a w13 hk hS hF; try dsimp only at hF; try dsimp only at hS; try dsimp only at hk
 dsimp only [Sl.State.encv] at hS
 refine wp_seq_k fun K8 hK8 => rh 7 hF hS rfl rfl rfl fun a hF => cx 23 hF rfl (fun c23 hF => ?_) fun c23 hF => ?_
 ·
  have hlt : k < s.threads.length := by omega
  have hx := at0_nat hlt
  have hc1 := crow_le1 (c := Sl.Thread.size) hx
  refine wp_skip <| hK8 _ _ <| wp_seq_k fun K10 hK10 => wp_block <| ws fun K11 hK11 => gB 3 7 hF hS rfl rfl rfl fun a hF => ?_
  obtain ⟨g29, o29, m29, q29, cs29, hv29, hm29, hl29, hk29, hz29, hc29⟩ := Rd.at (r2) (a := a) (X := .tmp 28) (hF.ev rfl) (by omega) (by omega)
  have hkk29 := hk29; obtain ⟨v29_0, v29_1, v29_2, v29_3, v29_4, rfl, r29_0, r29_1, r29_2, r29_3, r29_4⟩ := hk29
  refine wl hF rfl rfl rfl (r_index sl73 ((hF.ev rfl).trans hv29) (hF.ev rfl) (by omega) (by first | omega | (simp at hm29; omega))) fun a hF => ?_
  refine wl hF rfl rfl rfl (r_loadn ag110 (hF.ev rfl) (fun j_ u_ hu_ => cellB hS.old (hc29 j_ u_ hu_)) sz110) fun a hF => ?_
  refine wl_mk hF hS rfl rfl rfl (r_call1 en82 (hF.ev rfl)) (l7Copy_c (hS.k hkk29) (by omega)) ?_; rintro vs31 w14 a hS_ hF; replace hS := hS_; clear hS_; dsimp only [List.cons_append, List.nil_append] at hS
  refine wl_alloc hF hS rfl zr110 fun g4 w15 a hS _ hF => ww 0 hF hS rfl rfl rfl rfl rfl rfl fun w16 hS => wl_nil <| hK11 _ _ <| wp_region_lit <| gB 2 3 hF hS rfl rfl rfl fun a hF => gB 1 0 hF hS rfl rfl rfl fun a hF => wl_bslice (rawEK threadEK.sz) [.agg (threadEK.cells (at0 s.threads (k : Int)) vs31).toArray] [raw threadEK (at0 s.threads (k : Int)) vs31] rfl hF hS rfl mk73 rfl ⟨rfl, (hF.ev rfl), trivial⟩ rfl rfl rfl rfl fun gl_35 w17 a hS hF => ?_
  have hu_ := hS.own_rd (i := 0) rfl
  replace hS := hS.pull (p := 2) rfl; dsimp only [List.eraseIdx] at hS
  replace hS := hS.pull (p := 3) rfl; dsimp only [List.eraseIdx] at hS
  refine wl_appendn (ek := threadEK) hF hS rfl hu_ mk73 rfl (hF.ev rfl) (hF.ev rfl) (by simp; omega) (by unfold maxLen; simp; omega) ?_; clear hF a hu_; intro A_36 c_36 w18 a hS_ hF; replace hS := hS_; clear hS_
  refine ga 1 hF rfl fun a hF => wv 3 hF hS rfl rfl rfl rfl rfl rfl fun w19 hS => wl_nil ?_
  refine xt ?_
  refine hK10 _ _ <| rl hF rfl fun a hF => ?_
  refine xt ?_
  rw [← take_at0 (by omega)] at hS
  refine ⟨(k + 1, (_, _, _)), (by dsimp only; omega), (hS.pick [0, 3, 4, 5, 6, 7, 8, 9] (by decide) rfl), ((((hF.nil.keep hF (t := 3) rfl).keep hF (t := 2) rfl).keep hF (t := 1) rfl).keepE hF (t := 4) rfl (wk (by omega))), by dsimp only; omega⟩
 refine wp_exit ?_
 refine xt ?_
 refine hK6 _ _ <| ws fun K12 hK12 => gB 1 1 hF hS rfl rfl rfl fun a hF => ww 6 hF hS rfl rfl rfl rfl rfl rfl fun w20 hS => wl_nil (hK12 _ _ ?_)
 refine xr ?_
 obtain rfl : k = s.threads.length := by omega
 rw [List.take_length] at hS
 exact ret1c rfl ag75 hF hS (i := 6) rfl sz75 rfl ⟨[s10, s15, q], rfl, hS.part_of [4, 2, 0] (by decide) rfl⟩
set_option maxRecDepth 20000
def stepped (s : Sl.State) : Sl.State := { s with steps := IntKind.i64.wrap (s.steps + 1) }
def setT (s : Sl.State) (p : Nat) (t : Sl.Thread) : Sl.State := { s with threads := s.threads.set p t }
theorem running_of {s : Sl.State} {p : Int} (h : isRunning s p = true) : stateOk s = true ∧ (0 ≤ p ∧ p < s.threads.length) := by
 unfold isRunning at h
 simp only [Bool.and_eq_true, decide_eq_true_eq] at h
 exact ⟨h.1.1, by omega⟩
set_option maxRecDepth 20000
set_option maxRecDepth 20000
/-- a step by what it does to the state and to the thread that steps -/
def stepBy (f : Sl.State → Sl.Thread → Int → Sl.State × Sl.Thread) (s : Sl.State) (p : Nat) : Sl.State := { (f s (at0 s.threads (p : Int)) p).1 with threads := s.threads.set p (f s (at0 s.threads (p : Int)) p).2 }
/-- what a step leans on -/
structure Fit (s : Sl.State) (t : Sl.Thread) : Prop where
  ok : s.config.ok
  lc : (s.cells.length : Int) = cellCount s.config
  lg : (s.generations.length : Int) = s.config.capacity
  wc : ∀ x ∈ s.cells, int64 x
  wg : ∀ x ∈ s.generations, int64 x
  wt : t.wf
  th : threadOk s.config t = true
theorem Fit.of {s : Sl.State} {p : Nat} (hs : stateOk s = true) (hw : s.wf) (hp : p < s.threads.length) : Fit s (at0 s.threads (p : Int)) := by
 obtain ⟨h1, h2, h3, h4⟩ := stateOk_shape hs
 exact ⟨h1, h2, h3, hw.2.1, hw.2.2.1, hw.2.2.2.1 _ (at0_mem (by omega) (by omega)), state_thread hs (by omega) (by omega)⟩
theorem Fit.two {s : Sl.State} {t : Sl.Thread} (h : Fit s t) : 2 ≤ s.cells.length := by
 have h1 := h.lc; have hok := h.ok
 have := cellCount_eq hok
 unfold Config.ok at hok
 omega
theorem Fit.stepped {s : Sl.State} {t : Sl.Thread} (h : Fit s t) : Fit (stepped s) t := ⟨h.ok, h.lc, h.lg, h.wc, h.wg, h.wt, h.th⟩
theorem int64_loadC {xs : List Int} {a_ : Int} (h : ∀ x ∈ xs, int64 x) : int64 (loadC xs a_) := by
 unfold loadC
 split
 · exact h _ (at0_mem (by omega) (by omega))
 · unfold int64; omega
theorem Fit.curr {s : Sl.State} {t : Sl.Thread} (h : Fit s t) : int64 t.curr := h.wt.2.2.2.2.2.2.1
theorem Fit.prev {s : Sl.State} {t : Sl.Thread} (h : Fit s t) : int64 t.prev := h.wt.2.2.2.2.2.1
theorem Fit.next {s : Sl.State} {t : Sl.Thread} (h : Fit s t) : int64 t.next := h.wt.2.2.2.2.2.2.2.1
theorem Fit.sizes {s : Sl.State} {t : Sl.Thread} (h : Fit s t) : sizesOk t := by
 have := h.th
 unfold threadOk at this; simp only [Bool.and_eq_true, decide_eq_true_eq] at this
 exact this.2
theorem int64_zero : int64 0 := by unfold int64; omega
theorem Fit.seen {s : Sl.State} {t : Sl.Thread} (h : Fit s t) : int64 t.seen := h.wt.2.2.2.2.2.2.2.2.1
set_option maxRecDepth 20000
end Go.Proofs.YtbgacfdnmbhloaaGreat.Wk
